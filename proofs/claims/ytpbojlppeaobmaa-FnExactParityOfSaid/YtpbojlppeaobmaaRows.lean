/-
  No cell of these rows narrows 'for every input' (looked for: loops, veiled, ifaces, maps, wideKeys, modest, calm, conditions, laid).
  DERIVED. THE GIVEN ROWS OF THIS SEAT. 7 by the template 'for every input the law returns true; each argument reads behind the call as it read before'; 0 by the template 'total and deterministic' (their statements: YtpbojlppeaobmaaTotals.lean).
  GIVEN WITH THE SEED: the statements are not yours to turn. If you find one false, say at which input.
  Laid BY PROGRAM, IN A SANDBOX (cutbox-rows.mjs): the forced cells as the released guide's own fill.sh prints them over the translation 2f5f5d736afd3c37… (all of the seat's roots in one cut). By AI agents, Wed Nov 11 2026. No macro, syntax, notation, axiom, sorry.
-/
import Derived.Test.YtpbojlppeaobmaaChecked
import GoSem.Claim
import GoSem.ClaimJoined
import GoSem.ClaimMapViews
import Derived.JoinedTies
import Derived.KernelRfl
namespace Go.Proofs.Ytpbojlppeaobmaa
/- THE CELL 'sum', in the pinned program and in every row, IS THE sha256 OF THE DUMP (.gsa) THAT YtpbojlppeaobmaaProg.lean LOADS. Nothing in Lean hashes anything: it is a label: what it is worth is what the hold of that sum in a sandbox is worth. -/
noncomputable def Try.pinned : Pinned := { name := "ytpbojlppeaobmaa", sum := "2f5f5d736afd3c3734808d48e33e41834b39a7b3e59e68e0f7ff49667579d436", checked := Try.checked }
namespace Rows
def none {H : Type} : Left H := { results := [], args := [] }

/-- 'laws.FnExactIsBoard': WHATEVER THE INPUT: true; the input reads as it did. -/
def fnExactIsBoardSpec : ChangeSpec := { name := "fnExactIsBoard", fn := fun _ => fun
  | [d] => { results := [.lit (.bool true)], args := [d] }
  | _ => none }
def fnExactIsBoardRow : OpenClaim := { program := "ytpbojlppeaobmaa", sum := "2f5f5d736afd3c3734808d48e33e41834b39a7b3e59e68e0f7ff49667579d436", func := "loop.example/g01199/laws.FnExactIsBoard", spec := "fnExactIsBoard", unfollowed := true, recurses := true, apart := false }
def FnExactIsBoardSaid : Prop := fnExactIsBoardRow.holds Try.pinned (OpenSpec.ofChange fnExactIsBoardSpec)

/-- ITS FALSE NEIGHBOUR: 'it returns false'. Refute it at one input. -/
def fnExactIsBoardWrong : ChangeSpec := { name := "fnExactIsBoard", fn := fun _ => fun
  | [d] => { results := [.lit (.bool false)], args := [d] }
  | _ => none }
def FnExactIsBoardWrongFalsely : Prop := fnExactIsBoardRow.holds Try.pinned (OpenSpec.ofChange fnExactIsBoardWrong)

/-- 'laws.FnExactHoleOf': WHATEVER THE INPUT: true; the input reads as it did. -/
def fnExactHoleOfSpec : ChangeSpec := { name := "fnExactHoleOf", fn := fun _ => fun
  | [d] => { results := [.lit (.bool true)], args := [d] }
  | _ => none }
def fnExactHoleOfRow : OpenClaim := { program := "ytpbojlppeaobmaa", sum := "2f5f5d736afd3c3734808d48e33e41834b39a7b3e59e68e0f7ff49667579d436", func := "loop.example/g01199/laws.FnExactHoleOf", spec := "fnExactHoleOf", unfollowed := true, recurses := true, apart := false }
def FnExactHoleOfSaid : Prop := fnExactHoleOfRow.holds Try.pinned (OpenSpec.ofChange fnExactHoleOfSpec)

/-- ITS FALSE NEIGHBOUR: 'it returns false'. Refute it at one input. -/
def fnExactHoleOfWrong : ChangeSpec := { name := "fnExactHoleOf", fn := fun _ => fun
  | [d] => { results := [.lit (.bool false)], args := [d] }
  | _ => none }
def FnExactHoleOfWrongFalsely : Prop := fnExactHoleOfRow.holds Try.pinned (OpenSpec.ofChange fnExactHoleOfWrong)

/-- 'laws.FnExactManhattanOf': WHATEVER THE INPUT: true; the input reads as it did. -/
def fnExactManhattanOfSpec : ChangeSpec := { name := "fnExactManhattanOf", fn := fun _ => fun
  | [d] => { results := [.lit (.bool true)], args := [d] }
  | _ => none }
def fnExactManhattanOfRow : OpenClaim := { program := "ytpbojlppeaobmaa", sum := "2f5f5d736afd3c3734808d48e33e41834b39a7b3e59e68e0f7ff49667579d436", func := "loop.example/g01199/laws.FnExactManhattanOf", spec := "fnExactManhattanOf", unfollowed := true, recurses := true, apart := false }
def FnExactManhattanOfSaid : Prop := fnExactManhattanOfRow.holds Try.pinned (OpenSpec.ofChange fnExactManhattanOfSpec)

/-- ITS FALSE NEIGHBOUR: 'it returns false'. Refute it at one input. -/
def fnExactManhattanOfWrong : ChangeSpec := { name := "fnExactManhattanOf", fn := fun _ => fun
  | [d] => { results := [.lit (.bool false)], args := [d] }
  | _ => none }
def FnExactManhattanOfWrongFalsely : Prop := fnExactManhattanOfRow.holds Try.pinned (OpenSpec.ofChange fnExactManhattanOfWrong)

/-- 'laws.FnExactMirrorBoard': WHATEVER THE INPUT: true; the input reads as it did. -/
def fnExactMirrorBoardSpec : ChangeSpec := { name := "fnExactMirrorBoard", fn := fun _ => fun
  | [d] => { results := [.lit (.bool true)], args := [d] }
  | _ => none }
def fnExactMirrorBoardRow : OpenClaim := { program := "ytpbojlppeaobmaa", sum := "2f5f5d736afd3c3734808d48e33e41834b39a7b3e59e68e0f7ff49667579d436", func := "loop.example/g01199/laws.FnExactMirrorBoard", spec := "fnExactMirrorBoard", unfollowed := true, recurses := true, apart := false }
def FnExactMirrorBoardSaid : Prop := fnExactMirrorBoardRow.holds Try.pinned (OpenSpec.ofChange fnExactMirrorBoardSpec)

/-- ITS FALSE NEIGHBOUR: 'it returns false'. Refute it at one input. -/
def fnExactMirrorBoardWrong : ChangeSpec := { name := "fnExactMirrorBoard", fn := fun _ => fun
  | [d] => { results := [.lit (.bool false)], args := [d] }
  | _ => none }
def FnExactMirrorBoardWrongFalsely : Prop := fnExactMirrorBoardRow.holds Try.pinned (OpenSpec.ofChange fnExactMirrorBoardWrong)

/-- 'laws.FnExactParityOf': WHATEVER THE INPUT: true; the input reads as it did. -/
def fnExactParityOfSpec : ChangeSpec := { name := "fnExactParityOf", fn := fun _ => fun
  | [d] => { results := [.lit (.bool true)], args := [d] }
  | _ => none }
def fnExactParityOfRow : OpenClaim := { program := "ytpbojlppeaobmaa", sum := "2f5f5d736afd3c3734808d48e33e41834b39a7b3e59e68e0f7ff49667579d436", func := "loop.example/g01199/laws.FnExactParityOf", spec := "fnExactParityOf", unfollowed := true, recurses := true, apart := false }
def FnExactParityOfSaid : Prop := fnExactParityOfRow.holds Try.pinned (OpenSpec.ofChange fnExactParityOfSpec)

/-- ITS FALSE NEIGHBOUR: 'it returns false'. Refute it at one input. -/
def fnExactParityOfWrong : ChangeSpec := { name := "fnExactParityOf", fn := fun _ => fun
  | [d] => { results := [.lit (.bool false)], args := [d] }
  | _ => none }
def FnExactParityOfWrongFalsely : Prop := fnExactParityOfRow.holds Try.pinned (OpenSpec.ofChange fnExactParityOfWrong)

/-- 'laws.FnExactHoleWays': WHATEVER THE INPUT: true; the input reads as it did. -/
def fnExactHoleWaysSpec : ChangeSpec := { name := "fnExactHoleWays", fn := fun _ => fun
  | [d] => { results := [.lit (.bool true)], args := [d] }
  | _ => none }
def fnExactHoleWaysRow : OpenClaim := { program := "ytpbojlppeaobmaa", sum := "2f5f5d736afd3c3734808d48e33e41834b39a7b3e59e68e0f7ff49667579d436", func := "loop.example/g01199/laws.FnExactHoleWays", spec := "fnExactHoleWays", unfollowed := true, recurses := true, apart := false }
def FnExactHoleWaysSaid : Prop := fnExactHoleWaysRow.holds Try.pinned (OpenSpec.ofChange fnExactHoleWaysSpec)

/-- ITS FALSE NEIGHBOUR: 'it returns false'. Refute it at one input. -/
def fnExactHoleWaysWrong : ChangeSpec := { name := "fnExactHoleWays", fn := fun _ => fun
  | [d] => { results := [.lit (.bool false)], args := [d] }
  | _ => none }
def FnExactHoleWaysWrongFalsely : Prop := fnExactHoleWaysRow.holds Try.pinned (OpenSpec.ofChange fnExactHoleWaysWrong)

/-- 'laws.FnExactCanSolve': WHATEVER THE INPUT: true; the input reads as it did. -/
def fnExactCanSolveSpec : ChangeSpec := { name := "fnExactCanSolve", fn := fun _ => fun
  | [d] => { results := [.lit (.bool true)], args := [d] }
  | _ => none }
def fnExactCanSolveRow : OpenClaim := { program := "ytpbojlppeaobmaa", sum := "2f5f5d736afd3c3734808d48e33e41834b39a7b3e59e68e0f7ff49667579d436", func := "loop.example/g01199/laws.FnExactCanSolve", spec := "fnExactCanSolve", unfollowed := true, recurses := true, apart := false }
def FnExactCanSolveSaid : Prop := fnExactCanSolveRow.holds Try.pinned (OpenSpec.ofChange fnExactCanSolveSpec)

/-- ITS FALSE NEIGHBOUR: 'it returns false'. Refute it at one input. -/
def fnExactCanSolveWrong : ChangeSpec := { name := "fnExactCanSolve", fn := fun _ => fun
  | [d] => { results := [.lit (.bool false)], args := [d] }
  | _ => none }
def FnExactCanSolveWrongFalsely : Prop := fnExactCanSolveRow.holds Try.pinned (OpenSpec.ofChange fnExactCanSolveWrong)

/- THE SECOND FORM. 'bulk': how many values and letters a reading holds, each counted each time it is reached (what is shared counts as often as it is met; a slice's spare places count too). A statement '..UptoSaid' is the law's where the arguments, and the package variables that the reading takes, are together of bulk at most 1048576: NARROWER than '..Said'. Prove '..Said' where nothing that the law and all that it calls make is longer than what came in: it says more and counts as full. Else prove '..UptoSaid'. A law counts once. -/
mutual
def uptoBulk {H : Type} : DataW H → Nat
  | .lit (.string bytes) => bytes.length + 1
  | .lit _ => 1
  | .nil => 1
  | .ptr d => uptoBulk d + 1
  | .slice elems spare => uptoBulkAll elems + uptoBulkAll spare + 1
  | .agg parts => uptoBulkAll parts + 1
  | .iface _ d => uptoBulk d + 1
  | .map entries => uptoBulkEntries entries + 1
  | .held _ => 1
def uptoBulkAll {H : Type} : List (DataW H) → Nat
  | [] => 0
  | d :: r => uptoBulk d + uptoBulkAll r
def uptoBulkEntries {H : Type} : List (Lit × DataW H) → Nat
  | [] => 0
  | x :: r => uptoBulkEntry x + uptoBulkEntries r
def uptoBulkEntry {H : Type} : Lit × DataW H → Nat
  | (.string bytes, d) => bytes.length + uptoBulk d + 1
  | (_, d) => uptoBulk d + 1
 end
def uptoSmall : (H : Type) → List (DataW H) → Bool := fun _ ds => decide (uptoBulkAll ds ≤ 1048576)
def OpenSpec.upto (s : _root_.Go.ChangeSpec) : _root_.Go.OpenSpec := { _root_.Go.OpenSpec.ofChange s with cond := some uptoSmall }

/-- 'laws.FnExactIsBoard', WHERE WHAT IT READS IS OF BULK AT MOST 1048576: true; the input reads as it did. -/
def fnExactIsBoardUptoRow : OpenClaim := { program := "ytpbojlppeaobmaa", sum := "2f5f5d736afd3c3734808d48e33e41834b39a7b3e59e68e0f7ff49667579d436", func := "loop.example/g01199/laws.FnExactIsBoard", spec := "fnExactIsBoard", unfollowed := true, recurses := true, apart := false, narrowed := true }
def FnExactIsBoardUptoSaid : Prop := fnExactIsBoardUptoRow.holds Try.pinned (OpenSpec.upto fnExactIsBoardSpec)

/-- 'laws.FnExactHoleOf', WHERE WHAT IT READS IS OF BULK AT MOST 1048576: true; the input reads as it did. -/
def fnExactHoleOfUptoRow : OpenClaim := { program := "ytpbojlppeaobmaa", sum := "2f5f5d736afd3c3734808d48e33e41834b39a7b3e59e68e0f7ff49667579d436", func := "loop.example/g01199/laws.FnExactHoleOf", spec := "fnExactHoleOf", unfollowed := true, recurses := true, apart := false, narrowed := true }
def FnExactHoleOfUptoSaid : Prop := fnExactHoleOfUptoRow.holds Try.pinned (OpenSpec.upto fnExactHoleOfSpec)

/-- 'laws.FnExactManhattanOf', WHERE WHAT IT READS IS OF BULK AT MOST 1048576: true; the input reads as it did. -/
def fnExactManhattanOfUptoRow : OpenClaim := { program := "ytpbojlppeaobmaa", sum := "2f5f5d736afd3c3734808d48e33e41834b39a7b3e59e68e0f7ff49667579d436", func := "loop.example/g01199/laws.FnExactManhattanOf", spec := "fnExactManhattanOf", unfollowed := true, recurses := true, apart := false, narrowed := true }
def FnExactManhattanOfUptoSaid : Prop := fnExactManhattanOfUptoRow.holds Try.pinned (OpenSpec.upto fnExactManhattanOfSpec)

/-- 'laws.FnExactMirrorBoard', WHERE WHAT IT READS IS OF BULK AT MOST 1048576: true; the input reads as it did. -/
def fnExactMirrorBoardUptoRow : OpenClaim := { program := "ytpbojlppeaobmaa", sum := "2f5f5d736afd3c3734808d48e33e41834b39a7b3e59e68e0f7ff49667579d436", func := "loop.example/g01199/laws.FnExactMirrorBoard", spec := "fnExactMirrorBoard", unfollowed := true, recurses := true, apart := false, narrowed := true }
def FnExactMirrorBoardUptoSaid : Prop := fnExactMirrorBoardUptoRow.holds Try.pinned (OpenSpec.upto fnExactMirrorBoardSpec)

/-- 'laws.FnExactParityOf', WHERE WHAT IT READS IS OF BULK AT MOST 1048576: true; the input reads as it did. -/
def fnExactParityOfUptoRow : OpenClaim := { program := "ytpbojlppeaobmaa", sum := "2f5f5d736afd3c3734808d48e33e41834b39a7b3e59e68e0f7ff49667579d436", func := "loop.example/g01199/laws.FnExactParityOf", spec := "fnExactParityOf", unfollowed := true, recurses := true, apart := false, narrowed := true }
def FnExactParityOfUptoSaid : Prop := fnExactParityOfUptoRow.holds Try.pinned (OpenSpec.upto fnExactParityOfSpec)

/-- 'laws.FnExactHoleWays', WHERE WHAT IT READS IS OF BULK AT MOST 1048576: true; the input reads as it did. -/
def fnExactHoleWaysUptoRow : OpenClaim := { program := "ytpbojlppeaobmaa", sum := "2f5f5d736afd3c3734808d48e33e41834b39a7b3e59e68e0f7ff49667579d436", func := "loop.example/g01199/laws.FnExactHoleWays", spec := "fnExactHoleWays", unfollowed := true, recurses := true, apart := false, narrowed := true }
def FnExactHoleWaysUptoSaid : Prop := fnExactHoleWaysUptoRow.holds Try.pinned (OpenSpec.upto fnExactHoleWaysSpec)

/-- 'laws.FnExactCanSolve', WHERE WHAT IT READS IS OF BULK AT MOST 1048576: true; the input reads as it did. -/
def fnExactCanSolveUptoRow : OpenClaim := { program := "ytpbojlppeaobmaa", sum := "2f5f5d736afd3c3734808d48e33e41834b39a7b3e59e68e0f7ff49667579d436", func := "loop.example/g01199/laws.FnExactCanSolve", spec := "fnExactCanSolve", unfollowed := true, recurses := true, apart := false, narrowed := true }
def FnExactCanSolveUptoSaid : Prop := fnExactCanSolveUptoRow.holds Try.pinned (OpenSpec.upto fnExactCanSolveSpec)

end Rows
end Go.Proofs.Ytpbojlppeaobmaa
