/-
  NARROWER THAN 'FOR EVERY INPUT', by the rows' own cells (each row's printed sentence says how): FnExactIsTray: laid · FnExactCountCells: laid · FnExactSizeOf: laid · FnExactCellAt: laid · FnExactPlaceOf: laid · FnExactJoinTrays: laid · FnExactBesideTrays: laid · FnExactBallsOf: laid · FnExactTurnTray: laid · FnExactPutAt: laid · FnExactMirrorTray: laid · FnExactWallsOf: laid.
  DERIVED. THE GIVEN ROWS OF THIS SEAT. 12 by the template 'for every input the law returns true; each argument reads behind the call as it read before'; 0 by the template 'total and deterministic' (their statements: YtghmjllfbaanoaaDoorTotals.lean).
  GIVEN WITH THE SEED: the statements are not yours to turn. If you find one false, say at which input.
  Laid BY PROGRAM, IN A SANDBOX (cutbox-rows.mjs): the forced cells as the released guide's own fill.sh prints them over the translation 8e930943665a2235… (all of the seat's roots in one cut). By AI agents, Wed Nov 11 2026. No macro, syntax, notation, axiom, sorry.
-/
import Derived.Test.YtghmjllfbaanoaaDoorChecked
import GoSem.PinnedTables
import GoSem.Claim
import GoSem.ClaimJoined
import GoSem.ClaimMapViews
import Derived.JoinedTies
import Derived.KernelRfl
namespace Go.Proofs.YtghmjllfbaanoaaDoor
/- THE CELL 'sum', in the pinned program and in every row, IS THE sha256 OF THE DUMP (.gsa) THAT YtghmjllfbaanoaaDoorProg.lean LOADS. Nothing in Lean hashes anything: it is a label: what it is worth is what the hold of that sum in a sandbox is worth. -/
noncomputable def Tryd.pinned : Pinned := { name := "ytghmjllfbaanoaadoor", sum := "8e930943665a22359ab0c4edc3702c4f553d089e2d4169aa2fec277fba02d4ef", checked := Tryd.checked }
namespace Rows
def none {H : Type} : Left H := { results := [], args := [] }

/- WHAT THE LISTED PACKAGE-LEVEL VARIABLES READ AS WHEN THE CALL BEGINS. Each datum BY PROGRAM (the guide's laid-datum.mjs) off the statement by which the dump's own 'gosem.cut.vars' lays the variable. In a bare row this is a premise. The card (YtghmjllfbaanoaaDoorCards.lean) ties it to the program's text. -/
def laid_unicode_utf8_acceptRanges {H : Type} : DataW H := .agg [.agg [.lit (.int .u8 128), .lit (.int .u8 191)], .agg [.lit (.int .u8 160), .lit (.int .u8 191)], .agg [.lit (.int .u8 128), .lit (.int .u8 159)], .agg [.lit (.int .u8 144), .lit (.int .u8 191)], .agg [.lit (.int .u8 128), .lit (.int .u8 143)], .agg [.lit (.int .u8 0), .lit (.int .u8 0)], .agg [.lit (.int .u8 0), .lit (.int .u8 0)], .agg [.lit (.int .u8 0), .lit (.int .u8 0)], .agg [.lit (.int .u8 0), .lit (.int .u8 0)], .agg [.lit (.int .u8 0), .lit (.int .u8 0)], .agg [.lit (.int .u8 0), .lit (.int .u8 0)], .agg [.lit (.int .u8 0), .lit (.int .u8 0)], .agg [.lit (.int .u8 0), .lit (.int .u8 0)], .agg [.lit (.int .u8 0), .lit (.int .u8 0)], .agg [.lit (.int .u8 0), .lit (.int .u8 0)], .agg [.lit (.int .u8 0), .lit (.int .u8 0)]]
/-- One of Go's own tables, pinned by name: the form's constant. -/
def laid_unicode_utf8_first : DataW Unit := Go.Pinned.utf8First

/-- 'laws.FnExactIsTray': WHATEVER THE INPUT: true; the input reads as it did. -/
def fnExactIsTraySpec : ChangeSpec := { name := "fnExactIsTray", fn := fun _ => fun
  | [d] => { results := [.lit (.bool true)], args := [d] }
  | _ => none }
def fnExactIsTrayRow : OpenClaim := { program := "ytghmjllfbaanoaadoor", sum := "8e930943665a22359ab0c4edc3702c4f553d089e2d4169aa2fec277fba02d4ef", func := "loop.example/g01199/laws.FnExactIsTray", spec := "fnExactIsTray", inPlace := ["internal/bytealg.CountString", "internal/bytealg.IndexByteString", "internal/bytealg.IndexString"], named := ["unicode/utf8.first", "unicode/utf8.acceptRanges", "internal/bytealg.MaxLen"], apart := false, laid := [("unicode/utf8.acceptRanges", laid_unicode_utf8_acceptRanges), ("unicode/utf8.first", laid_unicode_utf8_first)] }
def FnExactIsTraySaid : Prop := fnExactIsTrayRow.holds Tryd.pinned (OpenSpec.ofChange fnExactIsTraySpec)

/-- ITS FALSE NEIGHBOUR: 'it returns false'. Refute it at one input. -/
def fnExactIsTrayWrong : ChangeSpec := { name := "fnExactIsTray", fn := fun _ => fun
  | [d] => { results := [.lit (.bool false)], args := [d] }
  | _ => none }
def FnExactIsTrayWrongFalsely : Prop := fnExactIsTrayRow.holds Tryd.pinned (OpenSpec.ofChange fnExactIsTrayWrong)

/-- 'laws.FnExactCountCells': WHATEVER THE INPUT: true; the input reads as it did. -/
def fnExactCountCellsSpec : ChangeSpec := { name := "fnExactCountCells", fn := fun _ => fun
  | [d1, d2] => { results := [.lit (.bool true)], args := [d1, d2] }
  | _ => none }
def fnExactCountCellsRow : OpenClaim := { program := "ytghmjllfbaanoaadoor", sum := "8e930943665a22359ab0c4edc3702c4f553d089e2d4169aa2fec277fba02d4ef", func := "loop.example/g01199/laws.FnExactCountCells", spec := "fnExactCountCells", inPlace := ["internal/bytealg.CountString", "internal/bytealg.IndexByteString", "internal/bytealg.IndexString"], named := ["unicode/utf8.first", "unicode/utf8.acceptRanges", "internal/bytealg.MaxLen"], apart := false, laid := [("unicode/utf8.acceptRanges", laid_unicode_utf8_acceptRanges), ("unicode/utf8.first", laid_unicode_utf8_first)] }
def FnExactCountCellsSaid : Prop := fnExactCountCellsRow.holds Tryd.pinned (OpenSpec.ofChange fnExactCountCellsSpec)

/-- ITS FALSE NEIGHBOUR: 'it returns false'. Refute it at one input. -/
def fnExactCountCellsWrong : ChangeSpec := { name := "fnExactCountCells", fn := fun _ => fun
  | [d1, d2] => { results := [.lit (.bool false)], args := [d1, d2] }
  | _ => none }
def FnExactCountCellsWrongFalsely : Prop := fnExactCountCellsRow.holds Tryd.pinned (OpenSpec.ofChange fnExactCountCellsWrong)

/-- 'laws.FnExactSizeOf': WHATEVER THE INPUT: true; the input reads as it did. -/
def fnExactSizeOfSpec : ChangeSpec := { name := "fnExactSizeOf", fn := fun _ => fun
  | [d] => { results := [.lit (.bool true)], args := [d] }
  | _ => none }
def fnExactSizeOfRow : OpenClaim := { program := "ytghmjllfbaanoaadoor", sum := "8e930943665a22359ab0c4edc3702c4f553d089e2d4169aa2fec277fba02d4ef", func := "loop.example/g01199/laws.FnExactSizeOf", spec := "fnExactSizeOf", inPlace := ["internal/bytealg.CountString", "internal/bytealg.IndexByteString", "internal/bytealg.IndexString", "internal/abi.NoEscape", "internal/bytealg.MakeNoZero"], named := ["unicode/utf8.first", "unicode/utf8.acceptRanges", "internal/bytealg.MaxLen"], apart := false, laid := [("unicode/utf8.acceptRanges", laid_unicode_utf8_acceptRanges), ("unicode/utf8.first", laid_unicode_utf8_first)] }
def FnExactSizeOfSaid : Prop := fnExactSizeOfRow.holds Tryd.pinned (OpenSpec.ofChange fnExactSizeOfSpec)

/-- ITS FALSE NEIGHBOUR: 'it returns false'. Refute it at one input. -/
def fnExactSizeOfWrong : ChangeSpec := { name := "fnExactSizeOf", fn := fun _ => fun
  | [d] => { results := [.lit (.bool false)], args := [d] }
  | _ => none }
def FnExactSizeOfWrongFalsely : Prop := fnExactSizeOfRow.holds Tryd.pinned (OpenSpec.ofChange fnExactSizeOfWrong)

/-- 'laws.FnExactCellAt': WHATEVER THE INPUT: true; the input reads as it did. -/
def fnExactCellAtSpec : ChangeSpec := { name := "fnExactCellAt", fn := fun _ => fun
  | [d1, d2, d3] => { results := [.lit (.bool true)], args := [d1, d2, d3] }
  | _ => none }
def fnExactCellAtRow : OpenClaim := { program := "ytghmjllfbaanoaadoor", sum := "8e930943665a22359ab0c4edc3702c4f553d089e2d4169aa2fec277fba02d4ef", func := "loop.example/g01199/laws.FnExactCellAt", spec := "fnExactCellAt", inPlace := ["internal/bytealg.CountString", "internal/bytealg.IndexByteString", "internal/bytealg.IndexString", "internal/abi.NoEscape", "internal/bytealg.MakeNoZero"], named := ["unicode/utf8.first", "unicode/utf8.acceptRanges", "internal/bytealg.MaxLen"], apart := false, laid := [("unicode/utf8.acceptRanges", laid_unicode_utf8_acceptRanges), ("unicode/utf8.first", laid_unicode_utf8_first)] }
def FnExactCellAtSaid : Prop := fnExactCellAtRow.holds Tryd.pinned (OpenSpec.ofChange fnExactCellAtSpec)

/-- ITS FALSE NEIGHBOUR: 'it returns false'. Refute it at one input. -/
def fnExactCellAtWrong : ChangeSpec := { name := "fnExactCellAt", fn := fun _ => fun
  | [d1, d2, d3] => { results := [.lit (.bool false)], args := [d1, d2, d3] }
  | _ => none }
def FnExactCellAtWrongFalsely : Prop := fnExactCellAtRow.holds Tryd.pinned (OpenSpec.ofChange fnExactCellAtWrong)

/-- 'laws.FnExactPlaceOf': WHATEVER THE INPUT: true; the input reads as it did. -/
def fnExactPlaceOfSpec : ChangeSpec := { name := "fnExactPlaceOf", fn := fun _ => fun
  | [d1, d2] => { results := [.lit (.bool true)], args := [d1, d2] }
  | _ => none }
def fnExactPlaceOfRow : OpenClaim := { program := "ytghmjllfbaanoaadoor", sum := "8e930943665a22359ab0c4edc3702c4f553d089e2d4169aa2fec277fba02d4ef", func := "loop.example/g01199/laws.FnExactPlaceOf", spec := "fnExactPlaceOf", inPlace := ["internal/bytealg.CountString", "internal/bytealg.IndexByteString", "internal/bytealg.IndexString", "internal/abi.NoEscape", "internal/bytealg.MakeNoZero"], named := ["unicode/utf8.first", "unicode/utf8.acceptRanges", "internal/bytealg.MaxLen"], apart := false, laid := [("unicode/utf8.acceptRanges", laid_unicode_utf8_acceptRanges), ("unicode/utf8.first", laid_unicode_utf8_first)] }
def FnExactPlaceOfSaid : Prop := fnExactPlaceOfRow.holds Tryd.pinned (OpenSpec.ofChange fnExactPlaceOfSpec)

/-- ITS FALSE NEIGHBOUR: 'it returns false'. Refute it at one input. -/
def fnExactPlaceOfWrong : ChangeSpec := { name := "fnExactPlaceOf", fn := fun _ => fun
  | [d1, d2] => { results := [.lit (.bool false)], args := [d1, d2] }
  | _ => none }
def FnExactPlaceOfWrongFalsely : Prop := fnExactPlaceOfRow.holds Tryd.pinned (OpenSpec.ofChange fnExactPlaceOfWrong)

/-- 'laws.FnExactJoinTrays': WHATEVER THE INPUT: true; the input reads as it did. -/
def fnExactJoinTraysSpec : ChangeSpec := { name := "fnExactJoinTrays", fn := fun _ => fun
  | [d1, d2] => { results := [.lit (.bool true)], args := [d1, d2] }
  | _ => none }
def fnExactJoinTraysRow : OpenClaim := { program := "ytghmjllfbaanoaadoor", sum := "8e930943665a22359ab0c4edc3702c4f553d089e2d4169aa2fec277fba02d4ef", func := "loop.example/g01199/laws.FnExactJoinTrays", spec := "fnExactJoinTrays", inPlace := ["internal/bytealg.CountString", "internal/bytealg.IndexByteString", "internal/bytealg.IndexString", "internal/abi.NoEscape", "internal/bytealg.MakeNoZero"], named := ["unicode/utf8.first", "unicode/utf8.acceptRanges", "internal/bytealg.MaxLen"], apart := false, laid := [("unicode/utf8.acceptRanges", laid_unicode_utf8_acceptRanges), ("unicode/utf8.first", laid_unicode_utf8_first)] }
def FnExactJoinTraysSaid : Prop := fnExactJoinTraysRow.holds Tryd.pinned (OpenSpec.ofChange fnExactJoinTraysSpec)

/-- ITS FALSE NEIGHBOUR: 'it returns false'. Refute it at one input. -/
def fnExactJoinTraysWrong : ChangeSpec := { name := "fnExactJoinTrays", fn := fun _ => fun
  | [d1, d2] => { results := [.lit (.bool false)], args := [d1, d2] }
  | _ => none }
def FnExactJoinTraysWrongFalsely : Prop := fnExactJoinTraysRow.holds Tryd.pinned (OpenSpec.ofChange fnExactJoinTraysWrong)

/-- 'laws.FnExactBesideTrays': WHATEVER THE INPUT: true; the input reads as it did. -/
def fnExactBesideTraysSpec : ChangeSpec := { name := "fnExactBesideTrays", fn := fun _ => fun
  | [d1, d2] => { results := [.lit (.bool true)], args := [d1, d2] }
  | _ => none }
def fnExactBesideTraysRow : OpenClaim := { program := "ytghmjllfbaanoaadoor", sum := "8e930943665a22359ab0c4edc3702c4f553d089e2d4169aa2fec277fba02d4ef", func := "loop.example/g01199/laws.FnExactBesideTrays", spec := "fnExactBesideTrays", inPlace := ["internal/bytealg.CountString", "internal/bytealg.IndexByteString", "internal/bytealg.IndexString", "internal/abi.NoEscape", "internal/bytealg.MakeNoZero"], named := ["unicode/utf8.first", "unicode/utf8.acceptRanges", "internal/bytealg.MaxLen"], apart := false, laid := [("unicode/utf8.acceptRanges", laid_unicode_utf8_acceptRanges), ("unicode/utf8.first", laid_unicode_utf8_first)] }
def FnExactBesideTraysSaid : Prop := fnExactBesideTraysRow.holds Tryd.pinned (OpenSpec.ofChange fnExactBesideTraysSpec)

/-- ITS FALSE NEIGHBOUR: 'it returns false'. Refute it at one input. -/
def fnExactBesideTraysWrong : ChangeSpec := { name := "fnExactBesideTrays", fn := fun _ => fun
  | [d1, d2] => { results := [.lit (.bool false)], args := [d1, d2] }
  | _ => none }
def FnExactBesideTraysWrongFalsely : Prop := fnExactBesideTraysRow.holds Tryd.pinned (OpenSpec.ofChange fnExactBesideTraysWrong)

/-- 'laws.FnExactBallsOf': WHATEVER THE INPUT: true; the input reads as it did. -/
def fnExactBallsOfSpec : ChangeSpec := { name := "fnExactBallsOf", fn := fun _ => fun
  | [d] => { results := [.lit (.bool true)], args := [d] }
  | _ => none }
def fnExactBallsOfRow : OpenClaim := { program := "ytghmjllfbaanoaadoor", sum := "8e930943665a22359ab0c4edc3702c4f553d089e2d4169aa2fec277fba02d4ef", func := "loop.example/g01199/laws.FnExactBallsOf", spec := "fnExactBallsOf", inPlace := ["internal/bytealg.CountString", "internal/bytealg.IndexByteString", "internal/bytealg.IndexString", "internal/abi.NoEscape", "internal/bytealg.MakeNoZero"], unfollowed := true, recurses := true, named := ["unicode/utf8.first", "unicode/utf8.acceptRanges", "internal/bytealg.MaxLen"], apart := false, laid := [("unicode/utf8.acceptRanges", laid_unicode_utf8_acceptRanges), ("unicode/utf8.first", laid_unicode_utf8_first)] }
def FnExactBallsOfSaid : Prop := fnExactBallsOfRow.holds Tryd.pinned (OpenSpec.ofChange fnExactBallsOfSpec)

/-- ITS FALSE NEIGHBOUR: 'it returns false'. Refute it at one input. -/
def fnExactBallsOfWrong : ChangeSpec := { name := "fnExactBallsOf", fn := fun _ => fun
  | [d] => { results := [.lit (.bool false)], args := [d] }
  | _ => none }
def FnExactBallsOfWrongFalsely : Prop := fnExactBallsOfRow.holds Tryd.pinned (OpenSpec.ofChange fnExactBallsOfWrong)

/-- 'laws.FnExactTurnTray': WHATEVER THE INPUT: true; the input reads as it did. -/
def fnExactTurnTraySpec : ChangeSpec := { name := "fnExactTurnTray", fn := fun _ => fun
  | [d] => { results := [.lit (.bool true)], args := [d] }
  | _ => none }
def fnExactTurnTrayRow : OpenClaim := { program := "ytghmjllfbaanoaadoor", sum := "8e930943665a22359ab0c4edc3702c4f553d089e2d4169aa2fec277fba02d4ef", func := "loop.example/g01199/laws.FnExactTurnTray", spec := "fnExactTurnTray", inPlace := ["internal/bytealg.CountString", "internal/bytealg.IndexByteString", "internal/bytealg.IndexString", "internal/abi.NoEscape", "internal/bytealg.MakeNoZero"], unfollowed := true, recurses := true, named := ["unicode/utf8.first", "unicode/utf8.acceptRanges", "internal/bytealg.MaxLen"], apart := false, laid := [("unicode/utf8.acceptRanges", laid_unicode_utf8_acceptRanges), ("unicode/utf8.first", laid_unicode_utf8_first)] }
def FnExactTurnTraySaid : Prop := fnExactTurnTrayRow.holds Tryd.pinned (OpenSpec.ofChange fnExactTurnTraySpec)

/-- ITS FALSE NEIGHBOUR: 'it returns false'. Refute it at one input. -/
def fnExactTurnTrayWrong : ChangeSpec := { name := "fnExactTurnTray", fn := fun _ => fun
  | [d] => { results := [.lit (.bool false)], args := [d] }
  | _ => none }
def FnExactTurnTrayWrongFalsely : Prop := fnExactTurnTrayRow.holds Tryd.pinned (OpenSpec.ofChange fnExactTurnTrayWrong)

/-- 'laws.FnExactPutAt': WHATEVER THE INPUT: true; the input reads as it did. -/
def fnExactPutAtSpec : ChangeSpec := { name := "fnExactPutAt", fn := fun _ => fun
  | [d1, d2, d3, d4] => { results := [.lit (.bool true)], args := [d1, d2, d3, d4] }
  | _ => none }
def fnExactPutAtRow : OpenClaim := { program := "ytghmjllfbaanoaadoor", sum := "8e930943665a22359ab0c4edc3702c4f553d089e2d4169aa2fec277fba02d4ef", func := "loop.example/g01199/laws.FnExactPutAt", spec := "fnExactPutAt", inPlace := ["internal/bytealg.CountString", "internal/bytealg.IndexByteString", "internal/bytealg.IndexString", "internal/abi.NoEscape", "internal/bytealg.MakeNoZero"], unfollowed := true, recurses := true, named := ["unicode/utf8.first", "unicode/utf8.acceptRanges", "internal/bytealg.MaxLen"], apart := false, laid := [("unicode/utf8.acceptRanges", laid_unicode_utf8_acceptRanges), ("unicode/utf8.first", laid_unicode_utf8_first)] }
def FnExactPutAtSaid : Prop := fnExactPutAtRow.holds Tryd.pinned (OpenSpec.ofChange fnExactPutAtSpec)

/-- ITS FALSE NEIGHBOUR: 'it returns false'. Refute it at one input. -/
def fnExactPutAtWrong : ChangeSpec := { name := "fnExactPutAt", fn := fun _ => fun
  | [d1, d2, d3, d4] => { results := [.lit (.bool false)], args := [d1, d2, d3, d4] }
  | _ => none }
def FnExactPutAtWrongFalsely : Prop := fnExactPutAtRow.holds Tryd.pinned (OpenSpec.ofChange fnExactPutAtWrong)

/-- 'laws.FnExactMirrorTray': WHATEVER THE INPUT: true; the input reads as it did. -/
def fnExactMirrorTraySpec : ChangeSpec := { name := "fnExactMirrorTray", fn := fun _ => fun
  | [d] => { results := [.lit (.bool true)], args := [d] }
  | _ => none }
def fnExactMirrorTrayRow : OpenClaim := { program := "ytghmjllfbaanoaadoor", sum := "8e930943665a22359ab0c4edc3702c4f553d089e2d4169aa2fec277fba02d4ef", func := "loop.example/g01199/laws.FnExactMirrorTray", spec := "fnExactMirrorTray", inPlace := ["internal/bytealg.CountString", "internal/bytealg.IndexByteString", "internal/bytealg.IndexString", "internal/abi.NoEscape", "internal/bytealg.MakeNoZero"], unfollowed := true, recurses := true, named := ["unicode/utf8.first", "unicode/utf8.acceptRanges", "internal/bytealg.MaxLen"], apart := false, laid := [("unicode/utf8.acceptRanges", laid_unicode_utf8_acceptRanges), ("unicode/utf8.first", laid_unicode_utf8_first)] }
def FnExactMirrorTraySaid : Prop := fnExactMirrorTrayRow.holds Tryd.pinned (OpenSpec.ofChange fnExactMirrorTraySpec)

/-- ITS FALSE NEIGHBOUR: 'it returns false'. Refute it at one input. -/
def fnExactMirrorTrayWrong : ChangeSpec := { name := "fnExactMirrorTray", fn := fun _ => fun
  | [d] => { results := [.lit (.bool false)], args := [d] }
  | _ => none }
def FnExactMirrorTrayWrongFalsely : Prop := fnExactMirrorTrayRow.holds Tryd.pinned (OpenSpec.ofChange fnExactMirrorTrayWrong)

/-- 'laws.FnExactWallsOf': WHATEVER THE INPUT: true; the input reads as it did. -/
def fnExactWallsOfSpec : ChangeSpec := { name := "fnExactWallsOf", fn := fun _ => fun
  | [d] => { results := [.lit (.bool true)], args := [d] }
  | _ => none }
def fnExactWallsOfRow : OpenClaim := { program := "ytghmjllfbaanoaadoor", sum := "8e930943665a22359ab0c4edc3702c4f553d089e2d4169aa2fec277fba02d4ef", func := "loop.example/g01199/laws.FnExactWallsOf", spec := "fnExactWallsOf", inPlace := ["internal/bytealg.CountString", "internal/bytealg.IndexByteString", "internal/bytealg.IndexString", "internal/abi.NoEscape", "internal/bytealg.MakeNoZero"], unfollowed := true, recurses := true, named := ["unicode/utf8.first", "unicode/utf8.acceptRanges", "internal/bytealg.MaxLen"], apart := false, laid := [("unicode/utf8.acceptRanges", laid_unicode_utf8_acceptRanges), ("unicode/utf8.first", laid_unicode_utf8_first)] }
def FnExactWallsOfSaid : Prop := fnExactWallsOfRow.holds Tryd.pinned (OpenSpec.ofChange fnExactWallsOfSpec)

/-- ITS FALSE NEIGHBOUR: 'it returns false'. Refute it at one input. -/
def fnExactWallsOfWrong : ChangeSpec := { name := "fnExactWallsOf", fn := fun _ => fun
  | [d] => { results := [.lit (.bool false)], args := [d] }
  | _ => none }
def FnExactWallsOfWrongFalsely : Prop := fnExactWallsOfRow.holds Tryd.pinned (OpenSpec.ofChange fnExactWallsOfWrong)

/- THE SECOND FORM. 'bulk': how many values and letters a reading holds, each counted each time it is reached (what is shared counts as often as it is met; a slice's spare places count too). A statement '..UptoSaid' is the law's where the arguments, and the package variables that the reading takes, are together of bulk at most 1048576: NARROWER than '..Said'. Prove '..Said' where nothing that the law and all that it calls make is longer than what came in: it says more and counts as full. Else prove '..UptoSaid'. A law counts once. -/
mutual
def uptoBulk {H : Type} : DataW H → Nat
  | .lit (.string bytes) => bytes.length + 1
  | .lit _ => 1
  | .nil => 1
  | .ptr d => uptoBulk d + 1
  | .slice elems spare => uptoBulkAll elems + uptoBulkAll spare + 1
  | .agg parts => uptoBulkAll parts + 1
  | .iface _ d => uptoBulk d + 1
  | .map entries => uptoBulkEntries entries + 1
  | .held _ => 1
def uptoBulkAll {H : Type} : List (DataW H) → Nat
  | [] => 0
  | d :: r => uptoBulk d + uptoBulkAll r
def uptoBulkEntries {H : Type} : List (Lit × DataW H) → Nat
  | [] => 0
  | x :: r => uptoBulkEntry x + uptoBulkEntries r
def uptoBulkEntry {H : Type} : Lit × DataW H → Nat
  | (.string bytes, d) => bytes.length + uptoBulk d + 1
  | (_, d) => uptoBulk d + 1
 end
def uptoSmall : (H : Type) → List (DataW H) → Bool := fun _ ds => decide (uptoBulkAll ds ≤ 1048576)
def OpenSpec.upto (s : _root_.Go.ChangeSpec) : _root_.Go.OpenSpec := { _root_.Go.OpenSpec.ofChange s with cond := some uptoSmall }

/-- 'laws.FnExactIsTray', WHERE WHAT IT READS IS OF BULK AT MOST 1048576: true; the input reads as it did. -/
def fnExactIsTrayUptoRow : OpenClaim := { program := "ytghmjllfbaanoaadoor", sum := "8e930943665a22359ab0c4edc3702c4f553d089e2d4169aa2fec277fba02d4ef", func := "loop.example/g01199/laws.FnExactIsTray", spec := "fnExactIsTray", inPlace := ["internal/bytealg.CountString", "internal/bytealg.IndexByteString", "internal/bytealg.IndexString"], named := ["unicode/utf8.first", "unicode/utf8.acceptRanges", "internal/bytealg.MaxLen"], apart := false, laid := [("unicode/utf8.acceptRanges", laid_unicode_utf8_acceptRanges), ("unicode/utf8.first", laid_unicode_utf8_first)], narrowed := true }
def FnExactIsTrayUptoSaid : Prop := fnExactIsTrayUptoRow.holds Tryd.pinned (OpenSpec.upto fnExactIsTraySpec)

/-- 'laws.FnExactCountCells', WHERE WHAT IT READS IS OF BULK AT MOST 1048576: true; the input reads as it did. -/
def fnExactCountCellsUptoRow : OpenClaim := { program := "ytghmjllfbaanoaadoor", sum := "8e930943665a22359ab0c4edc3702c4f553d089e2d4169aa2fec277fba02d4ef", func := "loop.example/g01199/laws.FnExactCountCells", spec := "fnExactCountCells", inPlace := ["internal/bytealg.CountString", "internal/bytealg.IndexByteString", "internal/bytealg.IndexString"], named := ["unicode/utf8.first", "unicode/utf8.acceptRanges", "internal/bytealg.MaxLen"], apart := false, laid := [("unicode/utf8.acceptRanges", laid_unicode_utf8_acceptRanges), ("unicode/utf8.first", laid_unicode_utf8_first)], narrowed := true }
def FnExactCountCellsUptoSaid : Prop := fnExactCountCellsUptoRow.holds Tryd.pinned (OpenSpec.upto fnExactCountCellsSpec)

/-- 'laws.FnExactSizeOf', WHERE WHAT IT READS IS OF BULK AT MOST 1048576: true; the input reads as it did. -/
def fnExactSizeOfUptoRow : OpenClaim := { program := "ytghmjllfbaanoaadoor", sum := "8e930943665a22359ab0c4edc3702c4f553d089e2d4169aa2fec277fba02d4ef", func := "loop.example/g01199/laws.FnExactSizeOf", spec := "fnExactSizeOf", inPlace := ["internal/bytealg.CountString", "internal/bytealg.IndexByteString", "internal/bytealg.IndexString", "internal/abi.NoEscape", "internal/bytealg.MakeNoZero"], named := ["unicode/utf8.first", "unicode/utf8.acceptRanges", "internal/bytealg.MaxLen"], apart := false, laid := [("unicode/utf8.acceptRanges", laid_unicode_utf8_acceptRanges), ("unicode/utf8.first", laid_unicode_utf8_first)], narrowed := true }
def FnExactSizeOfUptoSaid : Prop := fnExactSizeOfUptoRow.holds Tryd.pinned (OpenSpec.upto fnExactSizeOfSpec)

/-- 'laws.FnExactCellAt', WHERE WHAT IT READS IS OF BULK AT MOST 1048576: true; the input reads as it did. -/
def fnExactCellAtUptoRow : OpenClaim := { program := "ytghmjllfbaanoaadoor", sum := "8e930943665a22359ab0c4edc3702c4f553d089e2d4169aa2fec277fba02d4ef", func := "loop.example/g01199/laws.FnExactCellAt", spec := "fnExactCellAt", inPlace := ["internal/bytealg.CountString", "internal/bytealg.IndexByteString", "internal/bytealg.IndexString", "internal/abi.NoEscape", "internal/bytealg.MakeNoZero"], named := ["unicode/utf8.first", "unicode/utf8.acceptRanges", "internal/bytealg.MaxLen"], apart := false, laid := [("unicode/utf8.acceptRanges", laid_unicode_utf8_acceptRanges), ("unicode/utf8.first", laid_unicode_utf8_first)], narrowed := true }
def FnExactCellAtUptoSaid : Prop := fnExactCellAtUptoRow.holds Tryd.pinned (OpenSpec.upto fnExactCellAtSpec)

/-- 'laws.FnExactPlaceOf', WHERE WHAT IT READS IS OF BULK AT MOST 1048576: true; the input reads as it did. -/
def fnExactPlaceOfUptoRow : OpenClaim := { program := "ytghmjllfbaanoaadoor", sum := "8e930943665a22359ab0c4edc3702c4f553d089e2d4169aa2fec277fba02d4ef", func := "loop.example/g01199/laws.FnExactPlaceOf", spec := "fnExactPlaceOf", inPlace := ["internal/bytealg.CountString", "internal/bytealg.IndexByteString", "internal/bytealg.IndexString", "internal/abi.NoEscape", "internal/bytealg.MakeNoZero"], named := ["unicode/utf8.first", "unicode/utf8.acceptRanges", "internal/bytealg.MaxLen"], apart := false, laid := [("unicode/utf8.acceptRanges", laid_unicode_utf8_acceptRanges), ("unicode/utf8.first", laid_unicode_utf8_first)], narrowed := true }
def FnExactPlaceOfUptoSaid : Prop := fnExactPlaceOfUptoRow.holds Tryd.pinned (OpenSpec.upto fnExactPlaceOfSpec)

/-- 'laws.FnExactJoinTrays', WHERE WHAT IT READS IS OF BULK AT MOST 1048576: true; the input reads as it did. -/
def fnExactJoinTraysUptoRow : OpenClaim := { program := "ytghmjllfbaanoaadoor", sum := "8e930943665a22359ab0c4edc3702c4f553d089e2d4169aa2fec277fba02d4ef", func := "loop.example/g01199/laws.FnExactJoinTrays", spec := "fnExactJoinTrays", inPlace := ["internal/bytealg.CountString", "internal/bytealg.IndexByteString", "internal/bytealg.IndexString", "internal/abi.NoEscape", "internal/bytealg.MakeNoZero"], named := ["unicode/utf8.first", "unicode/utf8.acceptRanges", "internal/bytealg.MaxLen"], apart := false, laid := [("unicode/utf8.acceptRanges", laid_unicode_utf8_acceptRanges), ("unicode/utf8.first", laid_unicode_utf8_first)], narrowed := true }
def FnExactJoinTraysUptoSaid : Prop := fnExactJoinTraysUptoRow.holds Tryd.pinned (OpenSpec.upto fnExactJoinTraysSpec)

/-- 'laws.FnExactBesideTrays', WHERE WHAT IT READS IS OF BULK AT MOST 1048576: true; the input reads as it did. -/
def fnExactBesideTraysUptoRow : OpenClaim := { program := "ytghmjllfbaanoaadoor", sum := "8e930943665a22359ab0c4edc3702c4f553d089e2d4169aa2fec277fba02d4ef", func := "loop.example/g01199/laws.FnExactBesideTrays", spec := "fnExactBesideTrays", inPlace := ["internal/bytealg.CountString", "internal/bytealg.IndexByteString", "internal/bytealg.IndexString", "internal/abi.NoEscape", "internal/bytealg.MakeNoZero"], named := ["unicode/utf8.first", "unicode/utf8.acceptRanges", "internal/bytealg.MaxLen"], apart := false, laid := [("unicode/utf8.acceptRanges", laid_unicode_utf8_acceptRanges), ("unicode/utf8.first", laid_unicode_utf8_first)], narrowed := true }
def FnExactBesideTraysUptoSaid : Prop := fnExactBesideTraysUptoRow.holds Tryd.pinned (OpenSpec.upto fnExactBesideTraysSpec)

/-- 'laws.FnExactBallsOf', WHERE WHAT IT READS IS OF BULK AT MOST 1048576: true; the input reads as it did. -/
def fnExactBallsOfUptoRow : OpenClaim := { program := "ytghmjllfbaanoaadoor", sum := "8e930943665a22359ab0c4edc3702c4f553d089e2d4169aa2fec277fba02d4ef", func := "loop.example/g01199/laws.FnExactBallsOf", spec := "fnExactBallsOf", inPlace := ["internal/bytealg.CountString", "internal/bytealg.IndexByteString", "internal/bytealg.IndexString", "internal/abi.NoEscape", "internal/bytealg.MakeNoZero"], unfollowed := true, recurses := true, named := ["unicode/utf8.first", "unicode/utf8.acceptRanges", "internal/bytealg.MaxLen"], apart := false, laid := [("unicode/utf8.acceptRanges", laid_unicode_utf8_acceptRanges), ("unicode/utf8.first", laid_unicode_utf8_first)], narrowed := true }
def FnExactBallsOfUptoSaid : Prop := fnExactBallsOfUptoRow.holds Tryd.pinned (OpenSpec.upto fnExactBallsOfSpec)

/-- 'laws.FnExactTurnTray', WHERE WHAT IT READS IS OF BULK AT MOST 1048576: true; the input reads as it did. -/
def fnExactTurnTrayUptoRow : OpenClaim := { program := "ytghmjllfbaanoaadoor", sum := "8e930943665a22359ab0c4edc3702c4f553d089e2d4169aa2fec277fba02d4ef", func := "loop.example/g01199/laws.FnExactTurnTray", spec := "fnExactTurnTray", inPlace := ["internal/bytealg.CountString", "internal/bytealg.IndexByteString", "internal/bytealg.IndexString", "internal/abi.NoEscape", "internal/bytealg.MakeNoZero"], unfollowed := true, recurses := true, named := ["unicode/utf8.first", "unicode/utf8.acceptRanges", "internal/bytealg.MaxLen"], apart := false, laid := [("unicode/utf8.acceptRanges", laid_unicode_utf8_acceptRanges), ("unicode/utf8.first", laid_unicode_utf8_first)], narrowed := true }
def FnExactTurnTrayUptoSaid : Prop := fnExactTurnTrayUptoRow.holds Tryd.pinned (OpenSpec.upto fnExactTurnTraySpec)

/-- 'laws.FnExactPutAt', WHERE WHAT IT READS IS OF BULK AT MOST 1048576: true; the input reads as it did. -/
def fnExactPutAtUptoRow : OpenClaim := { program := "ytghmjllfbaanoaadoor", sum := "8e930943665a22359ab0c4edc3702c4f553d089e2d4169aa2fec277fba02d4ef", func := "loop.example/g01199/laws.FnExactPutAt", spec := "fnExactPutAt", inPlace := ["internal/bytealg.CountString", "internal/bytealg.IndexByteString", "internal/bytealg.IndexString", "internal/abi.NoEscape", "internal/bytealg.MakeNoZero"], unfollowed := true, recurses := true, named := ["unicode/utf8.first", "unicode/utf8.acceptRanges", "internal/bytealg.MaxLen"], apart := false, laid := [("unicode/utf8.acceptRanges", laid_unicode_utf8_acceptRanges), ("unicode/utf8.first", laid_unicode_utf8_first)], narrowed := true }
def FnExactPutAtUptoSaid : Prop := fnExactPutAtUptoRow.holds Tryd.pinned (OpenSpec.upto fnExactPutAtSpec)

/-- 'laws.FnExactMirrorTray', WHERE WHAT IT READS IS OF BULK AT MOST 1048576: true; the input reads as it did. -/
def fnExactMirrorTrayUptoRow : OpenClaim := { program := "ytghmjllfbaanoaadoor", sum := "8e930943665a22359ab0c4edc3702c4f553d089e2d4169aa2fec277fba02d4ef", func := "loop.example/g01199/laws.FnExactMirrorTray", spec := "fnExactMirrorTray", inPlace := ["internal/bytealg.CountString", "internal/bytealg.IndexByteString", "internal/bytealg.IndexString", "internal/abi.NoEscape", "internal/bytealg.MakeNoZero"], unfollowed := true, recurses := true, named := ["unicode/utf8.first", "unicode/utf8.acceptRanges", "internal/bytealg.MaxLen"], apart := false, laid := [("unicode/utf8.acceptRanges", laid_unicode_utf8_acceptRanges), ("unicode/utf8.first", laid_unicode_utf8_first)], narrowed := true }
def FnExactMirrorTrayUptoSaid : Prop := fnExactMirrorTrayUptoRow.holds Tryd.pinned (OpenSpec.upto fnExactMirrorTraySpec)

/-- 'laws.FnExactWallsOf', WHERE WHAT IT READS IS OF BULK AT MOST 1048576: true; the input reads as it did. -/
def fnExactWallsOfUptoRow : OpenClaim := { program := "ytghmjllfbaanoaadoor", sum := "8e930943665a22359ab0c4edc3702c4f553d089e2d4169aa2fec277fba02d4ef", func := "loop.example/g01199/laws.FnExactWallsOf", spec := "fnExactWallsOf", inPlace := ["internal/bytealg.CountString", "internal/bytealg.IndexByteString", "internal/bytealg.IndexString", "internal/abi.NoEscape", "internal/bytealg.MakeNoZero"], unfollowed := true, recurses := true, named := ["unicode/utf8.first", "unicode/utf8.acceptRanges", "internal/bytealg.MaxLen"], apart := false, laid := [("unicode/utf8.acceptRanges", laid_unicode_utf8_acceptRanges), ("unicode/utf8.first", laid_unicode_utf8_first)], narrowed := true }
def FnExactWallsOfUptoSaid : Prop := fnExactWallsOfUptoRow.holds Tryd.pinned (OpenSpec.upto fnExactWallsOfSpec)

end Rows
end Go.Proofs.YtghmjllfbaanoaaDoor
