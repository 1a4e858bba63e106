/-
  DERIVED. GIVEN WITH THE SEED: THE CARDS: each row of YtghmjllfbaanoaaDoorRows.lean that lists a variable, with what it lists TIED to the program's text (the seventh form; the later family's looks); each row that meets fmt, with fmt's text TOLD by the authors' own Lean function (tested against real Go, not proved from fmt's source: count such statements apart). THE CARD IS WHAT COUNTS. Prove the row's statement (the work); the ties are given (YtghmjllfbaanoaaDoorTie.lean); close each card by the builder's one call (the guide's Derived/Test/ToyasCard.lean, 'card_holds'). Laid BY PROGRAM, IN A SANDBOX (cutbox-door.mjs). By AI agents, Wed Nov 11 2026. No macro, syntax, notation, axiom, sorry.
-/
import Derived.Test.YtghmjllfbaanoaaDoorRows
import GoSem.ClaimSeven
namespace Go.Proofs.YtghmjllfbaanoaaDoor
namespace Rows

/-- THE TIED CARD OF 'laws.FnExactIsTray'. -/
def fnExactIsTrayCard : Claim7 := { stood := { row := fnExactIsTrayRow, standIns := [], harness := (true, "ad90258edb4118a1352681a0a853e61d5230c19eb3d2682636b79e6af8fa8231"), looks := false }, kinds := [], alts := [], laidByText := true, laidKinds := [.data, .pinned], laidTests := true, laidLooks := .later }
def FnExactIsTrayCardSaid : Prop := Claim7.holds Tryd.pinned (.plain (OpenSpec.ofChange fnExactIsTraySpec)) fnExactIsTrayCard

/-- THE TIED CARD OF 'laws.FnExactCountCells'. -/
def fnExactCountCellsCard : Claim7 := { stood := { row := fnExactCountCellsRow, standIns := [], harness := (true, "ad90258edb4118a1352681a0a853e61d5230c19eb3d2682636b79e6af8fa8231"), looks := false }, kinds := [], alts := [], laidByText := true, laidKinds := [.data, .pinned], laidTests := true, laidLooks := .later }
def FnExactCountCellsCardSaid : Prop := Claim7.holds Tryd.pinned (.plain (OpenSpec.ofChange fnExactCountCellsSpec)) fnExactCountCellsCard

/-- THE TIED CARD OF 'laws.FnExactSizeOf'. -/
def fnExactSizeOfCard : Claim7 := { stood := { row := fnExactSizeOfRow, standIns := [], harness := (true, "ad90258edb4118a1352681a0a853e61d5230c19eb3d2682636b79e6af8fa8231"), looks := false }, kinds := [], alts := [], laidByText := true, laidKinds := [.data, .pinned], laidTests := true, laidLooks := .later }
def FnExactSizeOfCardSaid : Prop := Claim7.holds Tryd.pinned (.plain (OpenSpec.ofChange fnExactSizeOfSpec)) fnExactSizeOfCard

/-- THE TIED CARD OF 'laws.FnExactCellAt'. -/
def fnExactCellAtCard : Claim7 := { stood := { row := fnExactCellAtRow, standIns := [], harness := (true, "ad90258edb4118a1352681a0a853e61d5230c19eb3d2682636b79e6af8fa8231"), looks := false }, kinds := [], alts := [], laidByText := true, laidKinds := [.data, .pinned], laidTests := true, laidLooks := .later }
def FnExactCellAtCardSaid : Prop := Claim7.holds Tryd.pinned (.plain (OpenSpec.ofChange fnExactCellAtSpec)) fnExactCellAtCard

/-- THE TIED CARD OF 'laws.FnExactPlaceOf'. -/
def fnExactPlaceOfCard : Claim7 := { stood := { row := fnExactPlaceOfRow, standIns := [], harness := (true, "ad90258edb4118a1352681a0a853e61d5230c19eb3d2682636b79e6af8fa8231"), looks := false }, kinds := [], alts := [], laidByText := true, laidKinds := [.data, .pinned], laidTests := true, laidLooks := .later }
def FnExactPlaceOfCardSaid : Prop := Claim7.holds Tryd.pinned (.plain (OpenSpec.ofChange fnExactPlaceOfSpec)) fnExactPlaceOfCard

/-- THE TIED CARD OF 'laws.FnExactJoinTrays'. -/
def fnExactJoinTraysCard : Claim7 := { stood := { row := fnExactJoinTraysRow, standIns := [], harness := (true, "ad90258edb4118a1352681a0a853e61d5230c19eb3d2682636b79e6af8fa8231"), looks := false }, kinds := [], alts := [], laidByText := true, laidKinds := [.data, .pinned], laidTests := true, laidLooks := .later }
def FnExactJoinTraysCardSaid : Prop := Claim7.holds Tryd.pinned (.plain (OpenSpec.ofChange fnExactJoinTraysSpec)) fnExactJoinTraysCard

/-- THE TIED CARD OF 'laws.FnExactBesideTrays'. -/
def fnExactBesideTraysCard : Claim7 := { stood := { row := fnExactBesideTraysRow, standIns := [], harness := (true, "ad90258edb4118a1352681a0a853e61d5230c19eb3d2682636b79e6af8fa8231"), looks := false }, kinds := [], alts := [], laidByText := true, laidKinds := [.data, .pinned], laidTests := true, laidLooks := .later }
def FnExactBesideTraysCardSaid : Prop := Claim7.holds Tryd.pinned (.plain (OpenSpec.ofChange fnExactBesideTraysSpec)) fnExactBesideTraysCard

/-- THE TIED CARD OF 'laws.FnExactBallsOf'. -/
def fnExactBallsOfCard : Claim7 := { stood := { row := fnExactBallsOfRow, standIns := [], harness := (true, "ad90258edb4118a1352681a0a853e61d5230c19eb3d2682636b79e6af8fa8231"), looks := false }, kinds := [], alts := [], laidByText := true, laidKinds := [.data, .pinned], laidTests := true, laidLooks := .later }
def FnExactBallsOfCardSaid : Prop := Claim7.holds Tryd.pinned (.plain (OpenSpec.ofChange fnExactBallsOfSpec)) fnExactBallsOfCard

/-- THE TIED CARD OF 'laws.FnExactTurnTray'. -/
def fnExactTurnTrayCard : Claim7 := { stood := { row := fnExactTurnTrayRow, standIns := [], harness := (true, "ad90258edb4118a1352681a0a853e61d5230c19eb3d2682636b79e6af8fa8231"), looks := false }, kinds := [], alts := [], laidByText := true, laidKinds := [.data, .pinned], laidTests := true, laidLooks := .later }
def FnExactTurnTrayCardSaid : Prop := Claim7.holds Tryd.pinned (.plain (OpenSpec.ofChange fnExactTurnTraySpec)) fnExactTurnTrayCard

/-- THE TIED CARD OF 'laws.FnExactPutAt'. -/
def fnExactPutAtCard : Claim7 := { stood := { row := fnExactPutAtRow, standIns := [], harness := (true, "ad90258edb4118a1352681a0a853e61d5230c19eb3d2682636b79e6af8fa8231"), looks := false }, kinds := [], alts := [], laidByText := true, laidKinds := [.data, .pinned], laidTests := true, laidLooks := .later }
def FnExactPutAtCardSaid : Prop := Claim7.holds Tryd.pinned (.plain (OpenSpec.ofChange fnExactPutAtSpec)) fnExactPutAtCard

/-- THE TIED CARD OF 'laws.FnExactMirrorTray'. -/
def fnExactMirrorTrayCard : Claim7 := { stood := { row := fnExactMirrorTrayRow, standIns := [], harness := (true, "ad90258edb4118a1352681a0a853e61d5230c19eb3d2682636b79e6af8fa8231"), looks := false }, kinds := [], alts := [], laidByText := true, laidKinds := [.data, .pinned], laidTests := true, laidLooks := .later }
def FnExactMirrorTrayCardSaid : Prop := Claim7.holds Tryd.pinned (.plain (OpenSpec.ofChange fnExactMirrorTraySpec)) fnExactMirrorTrayCard

/-- THE TIED CARD OF 'laws.FnExactWallsOf'. -/
def fnExactWallsOfCard : Claim7 := { stood := { row := fnExactWallsOfRow, standIns := [], harness := (true, "ad90258edb4118a1352681a0a853e61d5230c19eb3d2682636b79e6af8fa8231"), looks := false }, kinds := [], alts := [], laidByText := true, laidKinds := [.data, .pinned], laidTests := true, laidLooks := .later }
def FnExactWallsOfCardSaid : Prop := Claim7.holds Tryd.pinned (.plain (OpenSpec.ofChange fnExactWallsOfSpec)) fnExactWallsOfCard

/-- THE SECOND FORM's CARD OF 'laws.FnExactIsTray'. -/
def fnExactIsTrayUptoCard : Claim7 := { stood := { row := fnExactIsTrayUptoRow, standIns := [], harness := (true, "ad90258edb4118a1352681a0a853e61d5230c19eb3d2682636b79e6af8fa8231"), looks := false }, kinds := [], alts := [], laidByText := true, laidKinds := [.data, .pinned], laidTests := true, laidLooks := .later }
def FnExactIsTrayUptoCardSaid : Prop := Claim7.holds Tryd.pinned (.plain (OpenSpec.upto fnExactIsTraySpec)) fnExactIsTrayUptoCard

/-- THE SECOND FORM's CARD OF 'laws.FnExactCountCells'. -/
def fnExactCountCellsUptoCard : Claim7 := { stood := { row := fnExactCountCellsUptoRow, standIns := [], harness := (true, "ad90258edb4118a1352681a0a853e61d5230c19eb3d2682636b79e6af8fa8231"), looks := false }, kinds := [], alts := [], laidByText := true, laidKinds := [.data, .pinned], laidTests := true, laidLooks := .later }
def FnExactCountCellsUptoCardSaid : Prop := Claim7.holds Tryd.pinned (.plain (OpenSpec.upto fnExactCountCellsSpec)) fnExactCountCellsUptoCard

/-- THE SECOND FORM's CARD OF 'laws.FnExactSizeOf'. -/
def fnExactSizeOfUptoCard : Claim7 := { stood := { row := fnExactSizeOfUptoRow, standIns := [], harness := (true, "ad90258edb4118a1352681a0a853e61d5230c19eb3d2682636b79e6af8fa8231"), looks := false }, kinds := [], alts := [], laidByText := true, laidKinds := [.data, .pinned], laidTests := true, laidLooks := .later }
def FnExactSizeOfUptoCardSaid : Prop := Claim7.holds Tryd.pinned (.plain (OpenSpec.upto fnExactSizeOfSpec)) fnExactSizeOfUptoCard

/-- THE SECOND FORM's CARD OF 'laws.FnExactCellAt'. -/
def fnExactCellAtUptoCard : Claim7 := { stood := { row := fnExactCellAtUptoRow, standIns := [], harness := (true, "ad90258edb4118a1352681a0a853e61d5230c19eb3d2682636b79e6af8fa8231"), looks := false }, kinds := [], alts := [], laidByText := true, laidKinds := [.data, .pinned], laidTests := true, laidLooks := .later }
def FnExactCellAtUptoCardSaid : Prop := Claim7.holds Tryd.pinned (.plain (OpenSpec.upto fnExactCellAtSpec)) fnExactCellAtUptoCard

/-- THE SECOND FORM's CARD OF 'laws.FnExactPlaceOf'. -/
def fnExactPlaceOfUptoCard : Claim7 := { stood := { row := fnExactPlaceOfUptoRow, standIns := [], harness := (true, "ad90258edb4118a1352681a0a853e61d5230c19eb3d2682636b79e6af8fa8231"), looks := false }, kinds := [], alts := [], laidByText := true, laidKinds := [.data, .pinned], laidTests := true, laidLooks := .later }
def FnExactPlaceOfUptoCardSaid : Prop := Claim7.holds Tryd.pinned (.plain (OpenSpec.upto fnExactPlaceOfSpec)) fnExactPlaceOfUptoCard

/-- THE SECOND FORM's CARD OF 'laws.FnExactJoinTrays'. -/
def fnExactJoinTraysUptoCard : Claim7 := { stood := { row := fnExactJoinTraysUptoRow, standIns := [], harness := (true, "ad90258edb4118a1352681a0a853e61d5230c19eb3d2682636b79e6af8fa8231"), looks := false }, kinds := [], alts := [], laidByText := true, laidKinds := [.data, .pinned], laidTests := true, laidLooks := .later }
def FnExactJoinTraysUptoCardSaid : Prop := Claim7.holds Tryd.pinned (.plain (OpenSpec.upto fnExactJoinTraysSpec)) fnExactJoinTraysUptoCard

/-- THE SECOND FORM's CARD OF 'laws.FnExactBesideTrays'. -/
def fnExactBesideTraysUptoCard : Claim7 := { stood := { row := fnExactBesideTraysUptoRow, standIns := [], harness := (true, "ad90258edb4118a1352681a0a853e61d5230c19eb3d2682636b79e6af8fa8231"), looks := false }, kinds := [], alts := [], laidByText := true, laidKinds := [.data, .pinned], laidTests := true, laidLooks := .later }
def FnExactBesideTraysUptoCardSaid : Prop := Claim7.holds Tryd.pinned (.plain (OpenSpec.upto fnExactBesideTraysSpec)) fnExactBesideTraysUptoCard

/-- THE SECOND FORM's CARD OF 'laws.FnExactBallsOf'. -/
def fnExactBallsOfUptoCard : Claim7 := { stood := { row := fnExactBallsOfUptoRow, standIns := [], harness := (true, "ad90258edb4118a1352681a0a853e61d5230c19eb3d2682636b79e6af8fa8231"), looks := false }, kinds := [], alts := [], laidByText := true, laidKinds := [.data, .pinned], laidTests := true, laidLooks := .later }
def FnExactBallsOfUptoCardSaid : Prop := Claim7.holds Tryd.pinned (.plain (OpenSpec.upto fnExactBallsOfSpec)) fnExactBallsOfUptoCard

/-- THE SECOND FORM's CARD OF 'laws.FnExactTurnTray'. -/
def fnExactTurnTrayUptoCard : Claim7 := { stood := { row := fnExactTurnTrayUptoRow, standIns := [], harness := (true, "ad90258edb4118a1352681a0a853e61d5230c19eb3d2682636b79e6af8fa8231"), looks := false }, kinds := [], alts := [], laidByText := true, laidKinds := [.data, .pinned], laidTests := true, laidLooks := .later }
def FnExactTurnTrayUptoCardSaid : Prop := Claim7.holds Tryd.pinned (.plain (OpenSpec.upto fnExactTurnTraySpec)) fnExactTurnTrayUptoCard

/-- THE SECOND FORM's CARD OF 'laws.FnExactPutAt'. -/
def fnExactPutAtUptoCard : Claim7 := { stood := { row := fnExactPutAtUptoRow, standIns := [], harness := (true, "ad90258edb4118a1352681a0a853e61d5230c19eb3d2682636b79e6af8fa8231"), looks := false }, kinds := [], alts := [], laidByText := true, laidKinds := [.data, .pinned], laidTests := true, laidLooks := .later }
def FnExactPutAtUptoCardSaid : Prop := Claim7.holds Tryd.pinned (.plain (OpenSpec.upto fnExactPutAtSpec)) fnExactPutAtUptoCard

/-- THE SECOND FORM's CARD OF 'laws.FnExactMirrorTray'. -/
def fnExactMirrorTrayUptoCard : Claim7 := { stood := { row := fnExactMirrorTrayUptoRow, standIns := [], harness := (true, "ad90258edb4118a1352681a0a853e61d5230c19eb3d2682636b79e6af8fa8231"), looks := false }, kinds := [], alts := [], laidByText := true, laidKinds := [.data, .pinned], laidTests := true, laidLooks := .later }
def FnExactMirrorTrayUptoCardSaid : Prop := Claim7.holds Tryd.pinned (.plain (OpenSpec.upto fnExactMirrorTraySpec)) fnExactMirrorTrayUptoCard

/-- THE SECOND FORM's CARD OF 'laws.FnExactWallsOf'. -/
def fnExactWallsOfUptoCard : Claim7 := { stood := { row := fnExactWallsOfUptoRow, standIns := [], harness := (true, "ad90258edb4118a1352681a0a853e61d5230c19eb3d2682636b79e6af8fa8231"), looks := false }, kinds := [], alts := [], laidByText := true, laidKinds := [.data, .pinned], laidTests := true, laidLooks := .later }
def FnExactWallsOfUptoCardSaid : Prop := Claim7.holds Tryd.pinned (.plain (OpenSpec.upto fnExactWallsOfSpec)) fnExactWallsOfUptoCard
end Rows
end Go.Proofs.YtghmjllfbaanoaaDoor
