/-
  No cell of these rows narrows 'for every input' (looked for: loops, veiled, ifaces, maps, wideKeys, modest, calm, conditions, laid).
  DERIVED. THE GIVEN ROWS OF THIS SEAT. 10 by the template 'for every input the law returns true; each argument reads behind the call as it read before'; 0 by the template 'total and deterministic' (their statements: YtemglibjcoggoaaTotals.lean).
  GIVEN WITH THE SEED: the statements are not yours to turn. If you find one false, say at which input.
  Laid BY PROGRAM, IN A SANDBOX (cutbox-rows.mjs): the forced cells as the released guide's own fill.sh prints them over the translation 2c5a75301f00e09d… (all of the seat's roots in one cut). By AI agents, Wed Nov 11 2026. No macro, syntax, notation, axiom, sorry.
-/
import Derived.Test.YtemglibjcoggoaaChecked
import GoSem.Claim
import GoSem.ClaimJoined
import GoSem.ClaimMapViews
import Derived.JoinedTies
import Derived.KernelRfl
namespace Go.Proofs.Ytemglibjcoggoaa
/- THE CELL 'sum', in the pinned program and in every row, IS THE sha256 OF THE DUMP (.gsa) THAT YtemglibjcoggoaaProg.lean LOADS. Nothing in Lean hashes anything: it is a label: what it is worth is what the hold of that sum in a sandbox is worth. -/
noncomputable def Try.pinned : Pinned := { name := "ytemglibjcoggoaa", sum := "2c5a75301f00e09d44426231a9416fb49f1b16bc12cd819297b8148168dfbfa7", checked := Try.checked }
namespace Rows
def none {H : Type} : Left H := { results := [], args := [] }

/-- 'laws.FnExactConstants': WHATEVER THE INPUT: true; the input reads as it did. -/
def fnExactConstantsSpec : ChangeSpec := { name := "fnExactConstants", fn := fun _ => fun
  | [] => { results := [.lit (.bool true)], args := [] }
  | _ => none }
def fnExactConstantsRow : OpenClaim := { program := "ytemglibjcoggoaa", sum := "2c5a75301f00e09d44426231a9416fb49f1b16bc12cd819297b8148168dfbfa7", func := "loop.example/g01199/laws.FnExactConstants", spec := "fnExactConstants", apart := false }
def FnExactConstantsSaid : Prop := fnExactConstantsRow.holds Try.pinned (OpenSpec.ofChange fnExactConstantsSpec)

/-- ITS FALSE NEIGHBOUR: 'it returns false'. Refute it at one input. -/
def fnExactConstantsWrong : ChangeSpec := { name := "fnExactConstants", fn := fun _ => fun
  | [] => { results := [.lit (.bool false)], args := [] }
  | _ => none }
def FnExactConstantsWrongFalsely : Prop := fnExactConstantsRow.holds Try.pinned (OpenSpec.ofChange fnExactConstantsWrong)

/-- 'laws.FnExactGateName': WHATEVER THE INPUT: true; the input reads as it did. -/
def fnExactGateNameSpec : ChangeSpec := { name := "fnExactGateName", fn := fun _ => fun
  | [d] => { results := [.lit (.bool true)], args := [d] }
  | _ => none }
def fnExactGateNameRow : OpenClaim := { program := "ytemglibjcoggoaa", sum := "2c5a75301f00e09d44426231a9416fb49f1b16bc12cd819297b8148168dfbfa7", func := "loop.example/g01199/laws.FnExactGateName", spec := "fnExactGateName", apart := false }
def FnExactGateNameSaid : Prop := fnExactGateNameRow.holds Try.pinned (OpenSpec.ofChange fnExactGateNameSpec)

/-- ITS FALSE NEIGHBOUR: 'it returns false'. Refute it at one input. -/
def fnExactGateNameWrong : ChangeSpec := { name := "fnExactGateName", fn := fun _ => fun
  | [d] => { results := [.lit (.bool false)], args := [d] }
  | _ => none }
def FnExactGateNameWrongFalsely : Prop := fnExactGateNameRow.holds Try.pinned (OpenSpec.ofChange fnExactGateNameWrong)

/-- 'laws.FnExactCountBoards': WHATEVER THE INPUT: true; the input reads as it did. -/
def fnExactCountBoardsSpec : ChangeSpec := { name := "fnExactCountBoards", fn := fun _ => fun
  | [d1, d2] => { results := [.lit (.bool true)], args := [d1, d2] }
  | _ => none }
def fnExactCountBoardsRow : OpenClaim := { program := "ytemglibjcoggoaa", sum := "2c5a75301f00e09d44426231a9416fb49f1b16bc12cd819297b8148168dfbfa7", func := "loop.example/g01199/laws.FnExactCountBoards", spec := "fnExactCountBoards", apart := false }
def FnExactCountBoardsSaid : Prop := fnExactCountBoardsRow.holds Try.pinned (OpenSpec.ofChange fnExactCountBoardsSpec)

/-- ITS FALSE NEIGHBOUR: 'it returns false'. Refute it at one input. -/
def fnExactCountBoardsWrong : ChangeSpec := { name := "fnExactCountBoards", fn := fun _ => fun
  | [d1, d2] => { results := [.lit (.bool false)], args := [d1, d2] }
  | _ => none }
def FnExactCountBoardsWrongFalsely : Prop := fnExactCountBoardsRow.holds Try.pinned (OpenSpec.ofChange fnExactCountBoardsWrong)

/-- 'laws.FnExactBinomial': WHATEVER THE INPUT: true; the input reads as it did. -/
def fnExactBinomialSpec : ChangeSpec := { name := "fnExactBinomial", fn := fun _ => fun
  | [d1, d2] => { results := [.lit (.bool true)], args := [d1, d2] }
  | _ => none }
def fnExactBinomialRow : OpenClaim := { program := "ytemglibjcoggoaa", sum := "2c5a75301f00e09d44426231a9416fb49f1b16bc12cd819297b8148168dfbfa7", func := "loop.example/g01199/laws.FnExactBinomial", spec := "fnExactBinomial", apart := false }
def FnExactBinomialSaid : Prop := fnExactBinomialRow.holds Try.pinned (OpenSpec.ofChange fnExactBinomialSpec)

/-- ITS FALSE NEIGHBOUR: 'it returns false'. Refute it at one input. -/
def fnExactBinomialWrong : ChangeSpec := { name := "fnExactBinomial", fn := fun _ => fun
  | [d1, d2] => { results := [.lit (.bool false)], args := [d1, d2] }
  | _ => none }
def FnExactBinomialWrongFalsely : Prop := fnExactBinomialRow.holds Try.pinned (OpenSpec.ofChange fnExactBinomialWrong)

/-- 'laws.FnExactCountTrays': WHATEVER THE INPUT: true; the input reads as it did. -/
def fnExactCountTraysSpec : ChangeSpec := { name := "fnExactCountTrays", fn := fun _ => fun
  | [d1, d2, d3, d4] => { results := [.lit (.bool true)], args := [d1, d2, d3, d4] }
  | _ => none }
def fnExactCountTraysRow : OpenClaim := { program := "ytemglibjcoggoaa", sum := "2c5a75301f00e09d44426231a9416fb49f1b16bc12cd819297b8148168dfbfa7", func := "loop.example/g01199/laws.FnExactCountTrays", spec := "fnExactCountTrays", apart := false }
def FnExactCountTraysSaid : Prop := fnExactCountTraysRow.holds Try.pinned (OpenSpec.ofChange fnExactCountTraysSpec)

/-- ITS FALSE NEIGHBOUR: 'it returns false'. Refute it at one input. -/
def fnExactCountTraysWrong : ChangeSpec := { name := "fnExactCountTrays", fn := fun _ => fun
  | [d1, d2, d3, d4] => { results := [.lit (.bool false)], args := [d1, d2, d3, d4] }
  | _ => none }
def FnExactCountTraysWrongFalsely : Prop := fnExactCountTraysRow.holds Try.pinned (OpenSpec.ofChange fnExactCountTraysWrong)

/-- 'laws.FnExactMovesOf': WHATEVER THE INPUT: true; the input reads as it did. -/
def fnExactMovesOfSpec : ChangeSpec := { name := "fnExactMovesOf", fn := fun _ => fun
  | [d1, d2] => { results := [.lit (.bool true)], args := [d1, d2] }
  | _ => none }
def fnExactMovesOfRow : OpenClaim := { program := "ytemglibjcoggoaa", sum := "2c5a75301f00e09d44426231a9416fb49f1b16bc12cd819297b8148168dfbfa7", func := "loop.example/g01199/laws.FnExactMovesOf", spec := "fnExactMovesOf", apart := false }
def FnExactMovesOfSaid : Prop := fnExactMovesOfRow.holds Try.pinned (OpenSpec.ofChange fnExactMovesOfSpec)

/-- ITS FALSE NEIGHBOUR: 'it returns false'. Refute it at one input. -/
def fnExactMovesOfWrong : ChangeSpec := { name := "fnExactMovesOf", fn := fun _ => fun
  | [d1, d2] => { results := [.lit (.bool false)], args := [d1, d2] }
  | _ => none }
def FnExactMovesOfWrongFalsely : Prop := fnExactMovesOfRow.holds Try.pinned (OpenSpec.ofChange fnExactMovesOfWrong)

/-- 'laws.FnExactSolvedBoard': WHATEVER THE INPUT: true; the input reads as it did. -/
def fnExactSolvedBoardSpec : ChangeSpec := { name := "fnExactSolvedBoard", fn := fun _ => fun
  | [d1, d2] => { results := [.lit (.bool true)], args := [d1, d2] }
  | _ => none }
def fnExactSolvedBoardRow : OpenClaim := { program := "ytemglibjcoggoaa", sum := "2c5a75301f00e09d44426231a9416fb49f1b16bc12cd819297b8148168dfbfa7", func := "loop.example/g01199/laws.FnExactSolvedBoard", spec := "fnExactSolvedBoard", apart := false }
def FnExactSolvedBoardSaid : Prop := fnExactSolvedBoardRow.holds Try.pinned (OpenSpec.ofChange fnExactSolvedBoardSpec)

/-- ITS FALSE NEIGHBOUR: 'it returns false'. Refute it at one input. -/
def fnExactSolvedBoardWrong : ChangeSpec := { name := "fnExactSolvedBoard", fn := fun _ => fun
  | [d1, d2] => { results := [.lit (.bool false)], args := [d1, d2] }
  | _ => none }
def FnExactSolvedBoardWrongFalsely : Prop := fnExactSolvedBoardRow.holds Try.pinned (OpenSpec.ofChange fnExactSolvedBoardWrong)

/-- 'laws.FnExactEmptyTray': WHATEVER THE INPUT: true; the input reads as it did. -/
def fnExactEmptyTraySpec : ChangeSpec := { name := "fnExactEmptyTray", fn := fun _ => fun
  | [d1, d2] => { results := [.lit (.bool true)], args := [d1, d2] }
  | _ => none }
def fnExactEmptyTrayRow : OpenClaim := { program := "ytemglibjcoggoaa", sum := "2c5a75301f00e09d44426231a9416fb49f1b16bc12cd819297b8148168dfbfa7", func := "loop.example/g01199/laws.FnExactEmptyTray", spec := "fnExactEmptyTray", inPlace := ["internal/abi.NoEscape", "internal/bytealg.MakeNoZero"], unfollowed := true, recurses := true, apart := false }
def FnExactEmptyTraySaid : Prop := fnExactEmptyTrayRow.holds Try.pinned (OpenSpec.ofChange fnExactEmptyTraySpec)

/-- ITS FALSE NEIGHBOUR: 'it returns false'. Refute it at one input. -/
def fnExactEmptyTrayWrong : ChangeSpec := { name := "fnExactEmptyTray", fn := fun _ => fun
  | [d1, d2] => { results := [.lit (.bool false)], args := [d1, d2] }
  | _ => none }
def FnExactEmptyTrayWrongFalsely : Prop := fnExactEmptyTrayRow.holds Try.pinned (OpenSpec.ofChange fnExactEmptyTrayWrong)

/-- 'laws.FnExactCountKept': WHATEVER THE INPUT: true; the input reads as it did. -/
def fnExactCountKeptSpec : ChangeSpec := { name := "fnExactCountKept", fn := fun _ => fun
  | [d1, d2, d3, d4, d5] => { results := [.lit (.bool true)], args := [d1, d2, d3, d4, d5] }
  | _ => none }
def fnExactCountKeptRow : OpenClaim := { program := "ytemglibjcoggoaa", sum := "2c5a75301f00e09d44426231a9416fb49f1b16bc12cd819297b8148168dfbfa7", func := "loop.example/g01199/laws.FnExactCountKept", spec := "fnExactCountKept", unfollowed := true, recurses := true, apart := false }
def FnExactCountKeptSaid : Prop := fnExactCountKeptRow.holds Try.pinned (OpenSpec.ofChange fnExactCountKeptSpec)

/-- ITS FALSE NEIGHBOUR: 'it returns false'. Refute it at one input. -/
def fnExactCountKeptWrong : ChangeSpec := { name := "fnExactCountKept", fn := fun _ => fun
  | [d1, d2, d3, d4, d5] => { results := [.lit (.bool false)], args := [d1, d2, d3, d4, d5] }
  | _ => none }
def FnExactCountKeptWrongFalsely : Prop := fnExactCountKeptRow.holds Try.pinned (OpenSpec.ofChange fnExactCountKeptWrong)

/-- 'laws.FnExactCountClasses': WHATEVER THE INPUT: true; the input reads as it did. -/
def fnExactCountClassesSpec : ChangeSpec := { name := "fnExactCountClasses", fn := fun _ => fun
  | [d1, d2, d3, d4] => { results := [.lit (.bool true)], args := [d1, d2, d3, d4] }
  | _ => none }
def fnExactCountClassesRow : OpenClaim := { program := "ytemglibjcoggoaa", sum := "2c5a75301f00e09d44426231a9416fb49f1b16bc12cd819297b8148168dfbfa7", func := "loop.example/g01199/laws.FnExactCountClasses", spec := "fnExactCountClasses", unfollowed := true, recurses := true, apart := false }
def FnExactCountClassesSaid : Prop := fnExactCountClassesRow.holds Try.pinned (OpenSpec.ofChange fnExactCountClassesSpec)

/-- ITS FALSE NEIGHBOUR: 'it returns false'. Refute it at one input. -/
def fnExactCountClassesWrong : ChangeSpec := { name := "fnExactCountClasses", fn := fun _ => fun
  | [d1, d2, d3, d4] => { results := [.lit (.bool false)], args := [d1, d2, d3, d4] }
  | _ => none }
def FnExactCountClassesWrongFalsely : Prop := fnExactCountClassesRow.holds Try.pinned (OpenSpec.ofChange fnExactCountClassesWrong)

/- THE SECOND FORM. 'bulk': how many values and letters a reading holds, each counted each time it is reached (what is shared counts as often as it is met; a slice's spare places count too). A statement '..UptoSaid' is the law's where the arguments, and the package variables that the reading takes, are together of bulk at most 1048576: NARROWER than '..Said'. Prove '..Said' where nothing that the law and all that it calls make is longer than what came in: it says more and counts as full. Else prove '..UptoSaid'. A law counts once. -/
mutual
def uptoBulk {H : Type} : DataW H → Nat
  | .lit (.string bytes) => bytes.length + 1
  | .lit _ => 1
  | .nil => 1
  | .ptr d => uptoBulk d + 1
  | .slice elems spare => uptoBulkAll elems + uptoBulkAll spare + 1
  | .agg parts => uptoBulkAll parts + 1
  | .iface _ d => uptoBulk d + 1
  | .map entries => uptoBulkEntries entries + 1
  | .held _ => 1
def uptoBulkAll {H : Type} : List (DataW H) → Nat
  | [] => 0
  | d :: r => uptoBulk d + uptoBulkAll r
def uptoBulkEntries {H : Type} : List (Lit × DataW H) → Nat
  | [] => 0
  | x :: r => uptoBulkEntry x + uptoBulkEntries r
def uptoBulkEntry {H : Type} : Lit × DataW H → Nat
  | (.string bytes, d) => bytes.length + uptoBulk d + 1
  | (_, d) => uptoBulk d + 1
 end
def uptoSmall : (H : Type) → List (DataW H) → Bool := fun _ ds => decide (uptoBulkAll ds ≤ 1048576)
def OpenSpec.upto (s : _root_.Go.ChangeSpec) : _root_.Go.OpenSpec := { _root_.Go.OpenSpec.ofChange s with cond := some uptoSmall }

/-- 'laws.FnExactConstants', WHERE WHAT IT READS IS OF BULK AT MOST 1048576: true; the input reads as it did. -/
def fnExactConstantsUptoRow : OpenClaim := { program := "ytemglibjcoggoaa", sum := "2c5a75301f00e09d44426231a9416fb49f1b16bc12cd819297b8148168dfbfa7", func := "loop.example/g01199/laws.FnExactConstants", spec := "fnExactConstants", apart := false, narrowed := true }
def FnExactConstantsUptoSaid : Prop := fnExactConstantsUptoRow.holds Try.pinned (OpenSpec.upto fnExactConstantsSpec)

/-- 'laws.FnExactGateName', WHERE WHAT IT READS IS OF BULK AT MOST 1048576: true; the input reads as it did. -/
def fnExactGateNameUptoRow : OpenClaim := { program := "ytemglibjcoggoaa", sum := "2c5a75301f00e09d44426231a9416fb49f1b16bc12cd819297b8148168dfbfa7", func := "loop.example/g01199/laws.FnExactGateName", spec := "fnExactGateName", apart := false, narrowed := true }
def FnExactGateNameUptoSaid : Prop := fnExactGateNameUptoRow.holds Try.pinned (OpenSpec.upto fnExactGateNameSpec)

/-- 'laws.FnExactCountBoards', WHERE WHAT IT READS IS OF BULK AT MOST 1048576: true; the input reads as it did. -/
def fnExactCountBoardsUptoRow : OpenClaim := { program := "ytemglibjcoggoaa", sum := "2c5a75301f00e09d44426231a9416fb49f1b16bc12cd819297b8148168dfbfa7", func := "loop.example/g01199/laws.FnExactCountBoards", spec := "fnExactCountBoards", apart := false, narrowed := true }
def FnExactCountBoardsUptoSaid : Prop := fnExactCountBoardsUptoRow.holds Try.pinned (OpenSpec.upto fnExactCountBoardsSpec)

/-- 'laws.FnExactBinomial', WHERE WHAT IT READS IS OF BULK AT MOST 1048576: true; the input reads as it did. -/
def fnExactBinomialUptoRow : OpenClaim := { program := "ytemglibjcoggoaa", sum := "2c5a75301f00e09d44426231a9416fb49f1b16bc12cd819297b8148168dfbfa7", func := "loop.example/g01199/laws.FnExactBinomial", spec := "fnExactBinomial", apart := false, narrowed := true }
def FnExactBinomialUptoSaid : Prop := fnExactBinomialUptoRow.holds Try.pinned (OpenSpec.upto fnExactBinomialSpec)

/-- 'laws.FnExactCountTrays', WHERE WHAT IT READS IS OF BULK AT MOST 1048576: true; the input reads as it did. -/
def fnExactCountTraysUptoRow : OpenClaim := { program := "ytemglibjcoggoaa", sum := "2c5a75301f00e09d44426231a9416fb49f1b16bc12cd819297b8148168dfbfa7", func := "loop.example/g01199/laws.FnExactCountTrays", spec := "fnExactCountTrays", apart := false, narrowed := true }
def FnExactCountTraysUptoSaid : Prop := fnExactCountTraysUptoRow.holds Try.pinned (OpenSpec.upto fnExactCountTraysSpec)

/-- 'laws.FnExactMovesOf', WHERE WHAT IT READS IS OF BULK AT MOST 1048576: true; the input reads as it did. -/
def fnExactMovesOfUptoRow : OpenClaim := { program := "ytemglibjcoggoaa", sum := "2c5a75301f00e09d44426231a9416fb49f1b16bc12cd819297b8148168dfbfa7", func := "loop.example/g01199/laws.FnExactMovesOf", spec := "fnExactMovesOf", apart := false, narrowed := true }
def FnExactMovesOfUptoSaid : Prop := fnExactMovesOfUptoRow.holds Try.pinned (OpenSpec.upto fnExactMovesOfSpec)

/-- 'laws.FnExactSolvedBoard', WHERE WHAT IT READS IS OF BULK AT MOST 1048576: true; the input reads as it did. -/
def fnExactSolvedBoardUptoRow : OpenClaim := { program := "ytemglibjcoggoaa", sum := "2c5a75301f00e09d44426231a9416fb49f1b16bc12cd819297b8148168dfbfa7", func := "loop.example/g01199/laws.FnExactSolvedBoard", spec := "fnExactSolvedBoard", apart := false, narrowed := true }
def FnExactSolvedBoardUptoSaid : Prop := fnExactSolvedBoardUptoRow.holds Try.pinned (OpenSpec.upto fnExactSolvedBoardSpec)

/-- 'laws.FnExactEmptyTray', WHERE WHAT IT READS IS OF BULK AT MOST 1048576: true; the input reads as it did. -/
def fnExactEmptyTrayUptoRow : OpenClaim := { program := "ytemglibjcoggoaa", sum := "2c5a75301f00e09d44426231a9416fb49f1b16bc12cd819297b8148168dfbfa7", func := "loop.example/g01199/laws.FnExactEmptyTray", spec := "fnExactEmptyTray", inPlace := ["internal/abi.NoEscape", "internal/bytealg.MakeNoZero"], unfollowed := true, recurses := true, apart := false, narrowed := true }
def FnExactEmptyTrayUptoSaid : Prop := fnExactEmptyTrayUptoRow.holds Try.pinned (OpenSpec.upto fnExactEmptyTraySpec)

/-- 'laws.FnExactCountKept', WHERE WHAT IT READS IS OF BULK AT MOST 1048576: true; the input reads as it did. -/
def fnExactCountKeptUptoRow : OpenClaim := { program := "ytemglibjcoggoaa", sum := "2c5a75301f00e09d44426231a9416fb49f1b16bc12cd819297b8148168dfbfa7", func := "loop.example/g01199/laws.FnExactCountKept", spec := "fnExactCountKept", unfollowed := true, recurses := true, apart := false, narrowed := true }
def FnExactCountKeptUptoSaid : Prop := fnExactCountKeptUptoRow.holds Try.pinned (OpenSpec.upto fnExactCountKeptSpec)

/-- 'laws.FnExactCountClasses', WHERE WHAT IT READS IS OF BULK AT MOST 1048576: true; the input reads as it did. -/
def fnExactCountClassesUptoRow : OpenClaim := { program := "ytemglibjcoggoaa", sum := "2c5a75301f00e09d44426231a9416fb49f1b16bc12cd819297b8148168dfbfa7", func := "loop.example/g01199/laws.FnExactCountClasses", spec := "fnExactCountClasses", unfollowed := true, recurses := true, apart := false, narrowed := true }
def FnExactCountClassesUptoSaid : Prop := fnExactCountClassesUptoRow.holds Try.pinned (OpenSpec.upto fnExactCountClassesSpec)

end Rows
end Go.Proofs.Ytemglibjcoggoaa
