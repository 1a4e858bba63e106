/-
  No cell of these rows narrows 'for every input' (looked for: loops, veiled, ifaces, maps, wideKeys, modest, calm, conditions, laid).
  DERIVED. THE GIVEN ROWS OF THIS SEAT. 2 by the template 'for every input the law returns true; each argument reads behind the call as it read before'; 0 by the template 'total and deterministic' (their statements: YtcblfoaomlokoaaTotals.lean).
  GIVEN WITH THE SEED: the statements are not yours to turn. If you find one false, say at which input.
  Laid BY PROGRAM, IN A SANDBOX (cutbox-rows.mjs): the forced cells as the released guide's own fill.sh prints them over the translation fd2d93a5574068b9… (all of the seat's roots in one cut). By AI agents, Wed Nov 11 2026. No macro, syntax, notation, axiom, sorry.
-/
import Derived.Test.YtcblfoaomlokoaaChecked
import GoSem.Claim
import GoSem.ClaimJoined
import GoSem.ClaimMapViews
import Derived.JoinedTies
import Derived.KernelRfl
namespace Go.Proofs.Ytcblfoaomlokoaa
/- THE CELL 'sum', in the pinned program and in every row, IS THE sha256 OF THE DUMP (.gsa) THAT YtcblfoaomlokoaaProg.lean LOADS. Nothing in Lean hashes anything: it is a label: what it is worth is what the hold of that sum in a sandbox is worth. -/
noncomputable def Try.pinned : Pinned := { name := "ytcblfoaomlokoaa", sum := "fd2d93a5574068b909a660d2e96a5db7ec10f8eff9515bf0415dc1de06137401", checked := Try.checked }
namespace Rows
def none {H : Type} : Left H := { results := [], args := [] }

/-- 'laws.FnExactCanSolve': WHATEVER THE INPUT: true; the input reads as it did. -/
def fnExactCanSolveSpec : ChangeSpec := { name := "fnExactCanSolve", fn := fun _ => fun
  | [d] => { results := [.lit (.bool true)], args := [d] }
  | _ => none }
def fnExactCanSolveRow : OpenClaim := { program := "ytcblfoaomlokoaa", sum := "fd2d93a5574068b909a660d2e96a5db7ec10f8eff9515bf0415dc1de06137401", func := "loop.example/g01199/laws.FnExactCanSolve", spec := "fnExactCanSolve", unfollowed := true, recurses := true, apart := false }
def FnExactCanSolveSaid : Prop := fnExactCanSolveRow.holds Try.pinned (OpenSpec.ofChange fnExactCanSolveSpec)

/-- ITS FALSE NEIGHBOUR: 'it returns false'. Refute it at one input. -/
def fnExactCanSolveWrong : ChangeSpec := { name := "fnExactCanSolve", fn := fun _ => fun
  | [d] => { results := [.lit (.bool false)], args := [d] }
  | _ => none }
def FnExactCanSolveWrongFalsely : Prop := fnExactCanSolveRow.holds Try.pinned (OpenSpec.ofChange fnExactCanSolveWrong)

/-- 'laws.FnExactMirrorBoard': WHATEVER THE INPUT: true; the input reads as it did. -/
def fnExactMirrorBoardSpec : ChangeSpec := { name := "fnExactMirrorBoard", fn := fun _ => fun
  | [d] => { results := [.lit (.bool true)], args := [d] }
  | _ => none }
def fnExactMirrorBoardRow : OpenClaim := { program := "ytcblfoaomlokoaa", sum := "fd2d93a5574068b909a660d2e96a5db7ec10f8eff9515bf0415dc1de06137401", func := "loop.example/g01199/laws.FnExactMirrorBoard", spec := "fnExactMirrorBoard", unfollowed := true, recurses := true, apart := false }
def FnExactMirrorBoardSaid : Prop := fnExactMirrorBoardRow.holds Try.pinned (OpenSpec.ofChange fnExactMirrorBoardSpec)

/-- ITS FALSE NEIGHBOUR: 'it returns false'. Refute it at one input. -/
def fnExactMirrorBoardWrong : ChangeSpec := { name := "fnExactMirrorBoard", fn := fun _ => fun
  | [d] => { results := [.lit (.bool false)], args := [d] }
  | _ => none }
def FnExactMirrorBoardWrongFalsely : Prop := fnExactMirrorBoardRow.holds Try.pinned (OpenSpec.ofChange fnExactMirrorBoardWrong)

/- THE SECOND FORM. 'bulk': how many values and letters a reading holds, each counted each time it is reached (what is shared counts as often as it is met; a slice's spare places count too). A statement '..UptoSaid' is the law's where the arguments, and the package variables that the reading takes, are together of bulk at most 1048576: NARROWER than '..Said'. Prove '..Said' where nothing that the law and all that it calls make is longer than what came in: it says more and counts as full. Else prove '..UptoSaid'. A law counts once. -/
mutual
def uptoBulk {H : Type} : DataW H → Nat
  | .lit (.string bytes) => bytes.length + 1
  | .lit _ => 1
  | .nil => 1
  | .ptr d => uptoBulk d + 1
  | .slice elems spare => uptoBulkAll elems + uptoBulkAll spare + 1
  | .agg parts => uptoBulkAll parts + 1
  | .iface _ d => uptoBulk d + 1
  | .map entries => uptoBulkEntries entries + 1
  | .held _ => 1
def uptoBulkAll {H : Type} : List (DataW H) → Nat
  | [] => 0
  | d :: r => uptoBulk d + uptoBulkAll r
def uptoBulkEntries {H : Type} : List (Lit × DataW H) → Nat
  | [] => 0
  | x :: r => uptoBulkEntry x + uptoBulkEntries r
def uptoBulkEntry {H : Type} : Lit × DataW H → Nat
  | (.string bytes, d) => bytes.length + uptoBulk d + 1
  | (_, d) => uptoBulk d + 1
 end
def uptoSmall : (H : Type) → List (DataW H) → Bool := fun _ ds => decide (uptoBulkAll ds ≤ 1048576)
def OpenSpec.upto (s : _root_.Go.ChangeSpec) : _root_.Go.OpenSpec := { _root_.Go.OpenSpec.ofChange s with cond := some uptoSmall }

/-- 'laws.FnExactCanSolve', WHERE WHAT IT READS IS OF BULK AT MOST 1048576: true; the input reads as it did. -/
def fnExactCanSolveUptoRow : OpenClaim := { program := "ytcblfoaomlokoaa", sum := "fd2d93a5574068b909a660d2e96a5db7ec10f8eff9515bf0415dc1de06137401", func := "loop.example/g01199/laws.FnExactCanSolve", spec := "fnExactCanSolve", unfollowed := true, recurses := true, apart := false, narrowed := true }
def FnExactCanSolveUptoSaid : Prop := fnExactCanSolveUptoRow.holds Try.pinned (OpenSpec.upto fnExactCanSolveSpec)

/-- 'laws.FnExactMirrorBoard', WHERE WHAT IT READS IS OF BULK AT MOST 1048576: true; the input reads as it did. -/
def fnExactMirrorBoardUptoRow : OpenClaim := { program := "ytcblfoaomlokoaa", sum := "fd2d93a5574068b909a660d2e96a5db7ec10f8eff9515bf0415dc1de06137401", func := "loop.example/g01199/laws.FnExactMirrorBoard", spec := "fnExactMirrorBoard", unfollowed := true, recurses := true, apart := false, narrowed := true }
def FnExactMirrorBoardUptoSaid : Prop := fnExactMirrorBoardUptoRow.holds Try.pinned (OpenSpec.upto fnExactMirrorBoardSpec)

end Rows
end Go.Proofs.Ytcblfoaomlokoaa
