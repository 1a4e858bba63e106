/-
  DERIVED. GIVEN WITH THE SEED: THE CARDS: each row of YtdckhiclegehnaaDoorRows.lean that lists a variable, with what it lists TIED to the program's text (the seventh form; the later family's looks); each row that meets fmt, with fmt's text TOLD by the authors' own Lean function (tested against real Go, not proved from fmt's source: count such statements apart). THE CARD IS WHAT COUNTS. Prove the row's statement (the work); the ties are given (YtdckhiclegehnaaDoorTie.lean); close each card by the builder's one call (the guide's Derived/Test/ToyasCard.lean, 'card_holds'). Laid BY PROGRAM, IN A SANDBOX (cutbox-door.mjs). By AI agents, Wed Nov 11 2026. No macro, syntax, notation, axiom, sorry.
-/
import Derived.Test.YtdckhiclegehnaaDoorRows
import GoSem.ClaimSeven
namespace Go.Proofs.YtdckhiclegehnaaDoor
namespace Rows

/-- THE TIED CARD OF 'laws.FnExactTransposeTray'. -/
def fnExactTransposeTrayCard : Claim7 := { stood := { row := fnExactTransposeTrayRow, standIns := [], harness := (true, "06921178c0efebae1d27d0e0bd22b6a48b2a5b1d3252dfe08aba1b91ef09480e"), looks := false }, kinds := [], alts := [], laidByText := true, laidKinds := [.data, .pinned], laidTests := true, laidLooks := .later }
def FnExactTransposeTrayCardSaid : Prop := Claim7.holds Tryd.pinned (.plain (OpenSpec.ofChange fnExactTransposeTraySpec)) fnExactTransposeTrayCard

/-- THE TIED CARD OF 'laws.FnExactCropTray'. -/
def fnExactCropTrayCard : Claim7 := { stood := { row := fnExactCropTrayRow, standIns := [], harness := (true, "06921178c0efebae1d27d0e0bd22b6a48b2a5b1d3252dfe08aba1b91ef09480e"), looks := false }, kinds := [], alts := [], laidByText := true, laidKinds := [.data, .pinned], laidTests := true, laidLooks := .later }
def FnExactCropTrayCardSaid : Prop := Claim7.holds Tryd.pinned (.plain (OpenSpec.ofChange fnExactCropTraySpec)) fnExactCropTrayCard

/-- THE TIED CARD OF 'laws.FnExactKeepersOf'. -/
def fnExactKeepersOfCard : Claim7 := { stood := { row := fnExactKeepersOfRow, standIns := [], harness := (true, "06921178c0efebae1d27d0e0bd22b6a48b2a5b1d3252dfe08aba1b91ef09480e"), looks := false }, kinds := [], alts := [], laidByText := true, laidKinds := [.data, .pinned], laidTests := true, laidLooks := .later }
def FnExactKeepersOfCardSaid : Prop := Claim7.holds Tryd.pinned (.plain (OpenSpec.ofChange fnExactKeepersOfSpec)) fnExactKeepersOfCard

/-- THE TIED CARD OF 'laws.FnExactLeastTray'. -/
def fnExactLeastTrayCard : Claim7 := { stood := { row := fnExactLeastTrayRow, standIns := [], harness := (true, "06921178c0efebae1d27d0e0bd22b6a48b2a5b1d3252dfe08aba1b91ef09480e"), looks := false }, kinds := [], alts := [], laidByText := true, laidKinds := [.data, .pinned], laidTests := true, laidLooks := .later }
def FnExactLeastTrayCardSaid : Prop := Claim7.holds Tryd.pinned (.plain (OpenSpec.ofChange fnExactLeastTraySpec)) fnExactLeastTrayCard

/-- THE TIED CARD OF 'laws.FnExactWayBetween'. -/
def fnExactWayBetweenCard : Claim7 := { stood := { row := fnExactWayBetweenRow, standIns := [], harness := (true, "06921178c0efebae1d27d0e0bd22b6a48b2a5b1d3252dfe08aba1b91ef09480e"), looks := false }, kinds := [], alts := [], laidByText := true, laidKinds := [.data, .pinned], laidTests := true, laidLooks := .later }
def FnExactWayBetweenCardSaid : Prop := Claim7.holds Tryd.pinned (.plain (OpenSpec.ofChange fnExactWayBetweenSpec)) fnExactWayBetweenCard

/-- THE TIED CARD OF 'laws.FnExactCountPieces'. -/
def fnExactCountPiecesCard : Claim7 := { stood := { row := fnExactCountPiecesRow, standIns := [], harness := (true, "06921178c0efebae1d27d0e0bd22b6a48b2a5b1d3252dfe08aba1b91ef09480e"), looks := false }, kinds := [], alts := [], laidByText := true, laidKinds := [.data, .pinned], laidTests := true, laidLooks := .later }
def FnExactCountPiecesCardSaid : Prop := Claim7.holds Tryd.pinned (.plain (OpenSpec.ofChange fnExactCountPiecesSpec)) fnExactCountPiecesCard

/-- THE TIED CARD OF 'laws.FnExactPartsOf'. -/
def fnExactPartsOfCard : Claim7 := { stood := { row := fnExactPartsOfRow, standIns := [], harness := (true, "06921178c0efebae1d27d0e0bd22b6a48b2a5b1d3252dfe08aba1b91ef09480e"), looks := false }, kinds := [], alts := [], laidByText := true, laidKinds := [.data, .pinned], laidTests := true, laidLooks := .later }
def FnExactPartsOfCardSaid : Prop := Claim7.holds Tryd.pinned (.plain (OpenSpec.ofChange fnExactPartsOfSpec)) fnExactPartsOfCard

/-- THE TIED CARD OF 'laws.FnExactPiecesOf'. -/
def fnExactPiecesOfCard : Claim7 := { stood := { row := fnExactPiecesOfRow, standIns := [], harness := (true, "06921178c0efebae1d27d0e0bd22b6a48b2a5b1d3252dfe08aba1b91ef09480e"), looks := false }, kinds := [], alts := [], laidByText := true, laidKinds := [.data, .pinned], laidTests := true, laidLooks := .later }
def FnExactPiecesOfCardSaid : Prop := Claim7.holds Tryd.pinned (.plain (OpenSpec.ofChange fnExactPiecesOfSpec)) fnExactPiecesOfCard

/-- THE TIED CARD OF 'laws.FnExactTurnPuzzle'. -/
def fnExactTurnPuzzleCard : Claim7 := { stood := { row := fnExactTurnPuzzleRow, standIns := [], harness := (true, "06921178c0efebae1d27d0e0bd22b6a48b2a5b1d3252dfe08aba1b91ef09480e"), looks := false }, kinds := [], alts := [], laidByText := true, laidKinds := [.data, .pinned], laidTests := true, laidLooks := .later }
def FnExactTurnPuzzleCardSaid : Prop := Claim7.holds Tryd.pinned (.plain (OpenSpec.ofChange fnExactTurnPuzzleSpec)) fnExactTurnPuzzleCard

/-- THE TIED CARD OF 'laws.FnExactIsPuzzle'. -/
def fnExactIsPuzzleCard : Claim7 := { stood := { row := fnExactIsPuzzleRow, standIns := [], harness := (true, "06921178c0efebae1d27d0e0bd22b6a48b2a5b1d3252dfe08aba1b91ef09480e"), looks := false }, kinds := [], alts := [], laidByText := true, laidKinds := [.data, .pinned], laidTests := true, laidLooks := .later }
def FnExactIsPuzzleCardSaid : Prop := Claim7.holds Tryd.pinned (.plain (OpenSpec.ofChange fnExactIsPuzzleSpec)) fnExactIsPuzzleCard

/-- THE TIED CARD OF 'laws.FnExactIsForm'. -/
def fnExactIsFormCard : Claim7 := { stood := { row := fnExactIsFormRow, standIns := [], harness := (true, "06921178c0efebae1d27d0e0bd22b6a48b2a5b1d3252dfe08aba1b91ef09480e"), looks := false }, kinds := [], alts := [], laidByText := true, laidKinds := [.data, .pinned], laidTests := true, laidLooks := .later }
def FnExactIsFormCardSaid : Prop := Claim7.holds Tryd.pinned (.plain (OpenSpec.ofChange fnExactIsFormSpec)) fnExactIsFormCard

/-- THE SECOND FORM's CARD OF 'laws.FnExactTransposeTray'. -/
def fnExactTransposeTrayUptoCard : Claim7 := { stood := { row := fnExactTransposeTrayUptoRow, standIns := [], harness := (true, "06921178c0efebae1d27d0e0bd22b6a48b2a5b1d3252dfe08aba1b91ef09480e"), looks := false }, kinds := [], alts := [], laidByText := true, laidKinds := [.data, .pinned], laidTests := true, laidLooks := .later }
def FnExactTransposeTrayUptoCardSaid : Prop := Claim7.holds Tryd.pinned (.plain (OpenSpec.upto fnExactTransposeTraySpec)) fnExactTransposeTrayUptoCard

/-- THE SECOND FORM's CARD OF 'laws.FnExactCropTray'. -/
def fnExactCropTrayUptoCard : Claim7 := { stood := { row := fnExactCropTrayUptoRow, standIns := [], harness := (true, "06921178c0efebae1d27d0e0bd22b6a48b2a5b1d3252dfe08aba1b91ef09480e"), looks := false }, kinds := [], alts := [], laidByText := true, laidKinds := [.data, .pinned], laidTests := true, laidLooks := .later }
def FnExactCropTrayUptoCardSaid : Prop := Claim7.holds Tryd.pinned (.plain (OpenSpec.upto fnExactCropTraySpec)) fnExactCropTrayUptoCard

/-- THE SECOND FORM's CARD OF 'laws.FnExactKeepersOf'. -/
def fnExactKeepersOfUptoCard : Claim7 := { stood := { row := fnExactKeepersOfUptoRow, standIns := [], harness := (true, "06921178c0efebae1d27d0e0bd22b6a48b2a5b1d3252dfe08aba1b91ef09480e"), looks := false }, kinds := [], alts := [], laidByText := true, laidKinds := [.data, .pinned], laidTests := true, laidLooks := .later }
def FnExactKeepersOfUptoCardSaid : Prop := Claim7.holds Tryd.pinned (.plain (OpenSpec.upto fnExactKeepersOfSpec)) fnExactKeepersOfUptoCard

/-- THE SECOND FORM's CARD OF 'laws.FnExactLeastTray'. -/
def fnExactLeastTrayUptoCard : Claim7 := { stood := { row := fnExactLeastTrayUptoRow, standIns := [], harness := (true, "06921178c0efebae1d27d0e0bd22b6a48b2a5b1d3252dfe08aba1b91ef09480e"), looks := false }, kinds := [], alts := [], laidByText := true, laidKinds := [.data, .pinned], laidTests := true, laidLooks := .later }
def FnExactLeastTrayUptoCardSaid : Prop := Claim7.holds Tryd.pinned (.plain (OpenSpec.upto fnExactLeastTraySpec)) fnExactLeastTrayUptoCard

/-- THE SECOND FORM's CARD OF 'laws.FnExactWayBetween'. -/
def fnExactWayBetweenUptoCard : Claim7 := { stood := { row := fnExactWayBetweenUptoRow, standIns := [], harness := (true, "06921178c0efebae1d27d0e0bd22b6a48b2a5b1d3252dfe08aba1b91ef09480e"), looks := false }, kinds := [], alts := [], laidByText := true, laidKinds := [.data, .pinned], laidTests := true, laidLooks := .later }
def FnExactWayBetweenUptoCardSaid : Prop := Claim7.holds Tryd.pinned (.plain (OpenSpec.upto fnExactWayBetweenSpec)) fnExactWayBetweenUptoCard

/-- THE SECOND FORM's CARD OF 'laws.FnExactCountPieces'. -/
def fnExactCountPiecesUptoCard : Claim7 := { stood := { row := fnExactCountPiecesUptoRow, standIns := [], harness := (true, "06921178c0efebae1d27d0e0bd22b6a48b2a5b1d3252dfe08aba1b91ef09480e"), looks := false }, kinds := [], alts := [], laidByText := true, laidKinds := [.data, .pinned], laidTests := true, laidLooks := .later }
def FnExactCountPiecesUptoCardSaid : Prop := Claim7.holds Tryd.pinned (.plain (OpenSpec.upto fnExactCountPiecesSpec)) fnExactCountPiecesUptoCard

/-- THE SECOND FORM's CARD OF 'laws.FnExactPartsOf'. -/
def fnExactPartsOfUptoCard : Claim7 := { stood := { row := fnExactPartsOfUptoRow, standIns := [], harness := (true, "06921178c0efebae1d27d0e0bd22b6a48b2a5b1d3252dfe08aba1b91ef09480e"), looks := false }, kinds := [], alts := [], laidByText := true, laidKinds := [.data, .pinned], laidTests := true, laidLooks := .later }
def FnExactPartsOfUptoCardSaid : Prop := Claim7.holds Tryd.pinned (.plain (OpenSpec.upto fnExactPartsOfSpec)) fnExactPartsOfUptoCard

/-- THE SECOND FORM's CARD OF 'laws.FnExactPiecesOf'. -/
def fnExactPiecesOfUptoCard : Claim7 := { stood := { row := fnExactPiecesOfUptoRow, standIns := [], harness := (true, "06921178c0efebae1d27d0e0bd22b6a48b2a5b1d3252dfe08aba1b91ef09480e"), looks := false }, kinds := [], alts := [], laidByText := true, laidKinds := [.data, .pinned], laidTests := true, laidLooks := .later }
def FnExactPiecesOfUptoCardSaid : Prop := Claim7.holds Tryd.pinned (.plain (OpenSpec.upto fnExactPiecesOfSpec)) fnExactPiecesOfUptoCard

/-- THE SECOND FORM's CARD OF 'laws.FnExactTurnPuzzle'. -/
def fnExactTurnPuzzleUptoCard : Claim7 := { stood := { row := fnExactTurnPuzzleUptoRow, standIns := [], harness := (true, "06921178c0efebae1d27d0e0bd22b6a48b2a5b1d3252dfe08aba1b91ef09480e"), looks := false }, kinds := [], alts := [], laidByText := true, laidKinds := [.data, .pinned], laidTests := true, laidLooks := .later }
def FnExactTurnPuzzleUptoCardSaid : Prop := Claim7.holds Tryd.pinned (.plain (OpenSpec.upto fnExactTurnPuzzleSpec)) fnExactTurnPuzzleUptoCard

/-- THE SECOND FORM's CARD OF 'laws.FnExactIsPuzzle'. -/
def fnExactIsPuzzleUptoCard : Claim7 := { stood := { row := fnExactIsPuzzleUptoRow, standIns := [], harness := (true, "06921178c0efebae1d27d0e0bd22b6a48b2a5b1d3252dfe08aba1b91ef09480e"), looks := false }, kinds := [], alts := [], laidByText := true, laidKinds := [.data, .pinned], laidTests := true, laidLooks := .later }
def FnExactIsPuzzleUptoCardSaid : Prop := Claim7.holds Tryd.pinned (.plain (OpenSpec.upto fnExactIsPuzzleSpec)) fnExactIsPuzzleUptoCard

/-- THE SECOND FORM's CARD OF 'laws.FnExactIsForm'. -/
def fnExactIsFormUptoCard : Claim7 := { stood := { row := fnExactIsFormUptoRow, standIns := [], harness := (true, "06921178c0efebae1d27d0e0bd22b6a48b2a5b1d3252dfe08aba1b91ef09480e"), looks := false }, kinds := [], alts := [], laidByText := true, laidKinds := [.data, .pinned], laidTests := true, laidLooks := .later }
def FnExactIsFormUptoCardSaid : Prop := Claim7.holds Tryd.pinned (.plain (OpenSpec.upto fnExactIsFormSpec)) fnExactIsFormUptoCard
end Rows
end Go.Proofs.YtdckhiclegehnaaDoor
