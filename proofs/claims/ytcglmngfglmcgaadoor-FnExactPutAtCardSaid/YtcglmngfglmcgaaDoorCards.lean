/-
  DERIVED. GIVEN WITH THE SEED: THE CARDS: each row of YtcglmngfglmcgaaDoorRows.lean that lists a variable, with what it lists TIED to the program's text (the seventh form; the later family's looks); each row that meets fmt, with fmt's text TOLD by the authors' own Lean function (tested against real Go, not proved from fmt's source: count such statements apart). THE CARD IS WHAT COUNTS. Prove the row's statement (the work); the ties are given (YtcglmngfglmcgaaDoorTie.lean); close each card by the builder's one call (the guide's Derived/Test/ToyasCard.lean, 'card_holds'). Laid BY PROGRAM, IN A SANDBOX (cutbox-door.mjs). By AI agents, Wed Nov 11 2026. No macro, syntax, notation, axiom, sorry.
-/
import Derived.Test.YtcglmngfglmcgaaDoorRows
import GoSem.ClaimSeven
namespace Go.Proofs.YtcglmngfglmcgaaDoor
namespace Rows

/-- THE TIED CARD OF 'laws.FnExactPutAt'. -/
def fnExactPutAtCard : Claim7 := { stood := { row := fnExactPutAtRow, standIns := [], harness := (true, "99b0702e242900be7cb022bb81ec91944a906c206c73b644b0bf296d1be5186d"), looks := false }, kinds := [], alts := [], laidByText := true, laidKinds := [.data, .pinned], laidTests := true, laidLooks := .later }
def FnExactPutAtCardSaid : Prop := Claim7.holds Tryd.pinned (.plain (OpenSpec.ofChange fnExactPutAtSpec)) fnExactPutAtCard

/-- THE TIED CARD OF 'laws.FnExactKeepersOf'. -/
def fnExactKeepersOfCard : Claim7 := { stood := { row := fnExactKeepersOfRow, standIns := [], harness := (true, "99b0702e242900be7cb022bb81ec91944a906c206c73b644b0bf296d1be5186d"), looks := false }, kinds := [], alts := [], laidByText := true, laidKinds := [.data, .pinned], laidTests := true, laidLooks := .later }
def FnExactKeepersOfCardSaid : Prop := Claim7.holds Tryd.pinned (.plain (OpenSpec.ofChange fnExactKeepersOfSpec)) fnExactKeepersOfCard

/-- THE TIED CARD OF 'laws.FnExactLeastTray'. -/
def fnExactLeastTrayCard : Claim7 := { stood := { row := fnExactLeastTrayRow, standIns := [], harness := (true, "99b0702e242900be7cb022bb81ec91944a906c206c73b644b0bf296d1be5186d"), looks := false }, kinds := [], alts := [], laidByText := true, laidKinds := [.data, .pinned], laidTests := true, laidLooks := .later }
def FnExactLeastTrayCardSaid : Prop := Claim7.holds Tryd.pinned (.plain (OpenSpec.ofChange fnExactLeastTraySpec)) fnExactLeastTrayCard

/-- THE TIED CARD OF 'laws.FnExactIsPuzzle'. -/
def fnExactIsPuzzleCard : Claim7 := { stood := { row := fnExactIsPuzzleRow, standIns := [], harness := (true, "99b0702e242900be7cb022bb81ec91944a906c206c73b644b0bf296d1be5186d"), looks := false }, kinds := [], alts := [], laidByText := true, laidKinds := [.data, .pinned], laidTests := true, laidLooks := .later }
def FnExactIsPuzzleCardSaid : Prop := Claim7.holds Tryd.pinned (.plain (OpenSpec.ofChange fnExactIsPuzzleSpec)) fnExactIsPuzzleCard

/-- THE TIED CARD OF 'laws.FnExactTurnPuzzle'. -/
def fnExactTurnPuzzleCard : Claim7 := { stood := { row := fnExactTurnPuzzleRow, standIns := [], harness := (true, "99b0702e242900be7cb022bb81ec91944a906c206c73b644b0bf296d1be5186d"), looks := false }, kinds := [], alts := [], laidByText := true, laidKinds := [.data, .pinned], laidTests := true, laidLooks := .later }
def FnExactTurnPuzzleCardSaid : Prop := Claim7.holds Tryd.pinned (.plain (OpenSpec.ofChange fnExactTurnPuzzleSpec)) fnExactTurnPuzzleCard

/-- THE SECOND FORM's CARD OF 'laws.FnExactPutAt'. -/
def fnExactPutAtUptoCard : Claim7 := { stood := { row := fnExactPutAtUptoRow, standIns := [], harness := (true, "99b0702e242900be7cb022bb81ec91944a906c206c73b644b0bf296d1be5186d"), looks := false }, kinds := [], alts := [], laidByText := true, laidKinds := [.data, .pinned], laidTests := true, laidLooks := .later }
def FnExactPutAtUptoCardSaid : Prop := Claim7.holds Tryd.pinned (.plain (OpenSpec.upto fnExactPutAtSpec)) fnExactPutAtUptoCard

/-- THE SECOND FORM's CARD OF 'laws.FnExactKeepersOf'. -/
def fnExactKeepersOfUptoCard : Claim7 := { stood := { row := fnExactKeepersOfUptoRow, standIns := [], harness := (true, "99b0702e242900be7cb022bb81ec91944a906c206c73b644b0bf296d1be5186d"), looks := false }, kinds := [], alts := [], laidByText := true, laidKinds := [.data, .pinned], laidTests := true, laidLooks := .later }
def FnExactKeepersOfUptoCardSaid : Prop := Claim7.holds Tryd.pinned (.plain (OpenSpec.upto fnExactKeepersOfSpec)) fnExactKeepersOfUptoCard

/-- THE SECOND FORM's CARD OF 'laws.FnExactLeastTray'. -/
def fnExactLeastTrayUptoCard : Claim7 := { stood := { row := fnExactLeastTrayUptoRow, standIns := [], harness := (true, "99b0702e242900be7cb022bb81ec91944a906c206c73b644b0bf296d1be5186d"), looks := false }, kinds := [], alts := [], laidByText := true, laidKinds := [.data, .pinned], laidTests := true, laidLooks := .later }
def FnExactLeastTrayUptoCardSaid : Prop := Claim7.holds Tryd.pinned (.plain (OpenSpec.upto fnExactLeastTraySpec)) fnExactLeastTrayUptoCard

/-- THE SECOND FORM's CARD OF 'laws.FnExactIsPuzzle'. -/
def fnExactIsPuzzleUptoCard : Claim7 := { stood := { row := fnExactIsPuzzleUptoRow, standIns := [], harness := (true, "99b0702e242900be7cb022bb81ec91944a906c206c73b644b0bf296d1be5186d"), looks := false }, kinds := [], alts := [], laidByText := true, laidKinds := [.data, .pinned], laidTests := true, laidLooks := .later }
def FnExactIsPuzzleUptoCardSaid : Prop := Claim7.holds Tryd.pinned (.plain (OpenSpec.upto fnExactIsPuzzleSpec)) fnExactIsPuzzleUptoCard

/-- THE SECOND FORM's CARD OF 'laws.FnExactTurnPuzzle'. -/
def fnExactTurnPuzzleUptoCard : Claim7 := { stood := { row := fnExactTurnPuzzleUptoRow, standIns := [], harness := (true, "99b0702e242900be7cb022bb81ec91944a906c206c73b644b0bf296d1be5186d"), looks := false }, kinds := [], alts := [], laidByText := true, laidKinds := [.data, .pinned], laidTests := true, laidLooks := .later }
def FnExactTurnPuzzleUptoCardSaid : Prop := Claim7.holds Tryd.pinned (.plain (OpenSpec.upto fnExactTurnPuzzleSpec)) fnExactTurnPuzzleUptoCard
end Rows
end Go.Proofs.YtcglmngfglmcgaaDoor
