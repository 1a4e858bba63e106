/-
  DERIVED. GIVEN WITH THE SEED: THE CARDS: each row of YtplifefnjeledaaDoorRows.lean that lists a variable, with what it lists TIED to the program's text (the seventh form; the later family's looks); each row that meets fmt, with fmt's text TOLD by the authors' own Lean function (tested against real Go, not proved from fmt's source: count such statements apart). THE CARD IS WHAT COUNTS. Prove the row's statement (the work); the ties are given (YtplifefnjeledaaDoorTie.lean); close each card by the builder's one call (the guide's Derived/Test/ToyasCard.lean, 'card_holds'). Laid BY PROGRAM, IN A SANDBOX (cutbox-door.mjs). By AI agents, Wed Nov 11 2026. No macro, syntax, notation, axiom, sorry.
-/
import Derived.Test.YtplifefnjeledaaDoorRows
import GoSem.ClaimSeven
namespace Go.Proofs.YtplifefnjeledaaDoor
namespace Rows

/-- THE TIED CARD OF 'laws.FnExactWayBetween'. -/
def fnExactWayBetweenCard : Claim7 := { stood := { row := fnExactWayBetweenRow, standIns := [], harness := (true, "97021606983fa190bb2ecdf0b16a8a8d356c758058a4400b6cf9b19a2681b6a1"), looks := false }, kinds := [], alts := [], laidByText := true, laidKinds := [.data, .pinned], laidTests := true, laidLooks := .later }
def FnExactWayBetweenCardSaid : Prop := Claim7.holds Tryd.pinned (.plain (OpenSpec.ofChange fnExactWayBetweenSpec)) fnExactWayBetweenCard

/-- THE TIED CARD OF 'laws.FnExactCountPieces'. -/
def fnExactCountPiecesCard : Claim7 := { stood := { row := fnExactCountPiecesRow, standIns := [], harness := (true, "97021606983fa190bb2ecdf0b16a8a8d356c758058a4400b6cf9b19a2681b6a1"), looks := false }, kinds := [], alts := [], laidByText := true, laidKinds := [.data, .pinned], laidTests := true, laidLooks := .later }
def FnExactCountPiecesCardSaid : Prop := Claim7.holds Tryd.pinned (.plain (OpenSpec.ofChange fnExactCountPiecesSpec)) fnExactCountPiecesCard

/-- THE TIED CARD OF 'laws.FnExactPartsOf'. -/
def fnExactPartsOfCard : Claim7 := { stood := { row := fnExactPartsOfRow, standIns := [], harness := (true, "97021606983fa190bb2ecdf0b16a8a8d356c758058a4400b6cf9b19a2681b6a1"), looks := false }, kinds := [], alts := [], laidByText := true, laidKinds := [.data, .pinned], laidTests := true, laidLooks := .later }
def FnExactPartsOfCardSaid : Prop := Claim7.holds Tryd.pinned (.plain (OpenSpec.ofChange fnExactPartsOfSpec)) fnExactPartsOfCard

/-- THE TIED CARD OF 'laws.FnExactPiecesOf'. -/
def fnExactPiecesOfCard : Claim7 := { stood := { row := fnExactPiecesOfRow, standIns := [], harness := (true, "97021606983fa190bb2ecdf0b16a8a8d356c758058a4400b6cf9b19a2681b6a1"), looks := false }, kinds := [], alts := [], laidByText := true, laidKinds := [.data, .pinned], laidTests := true, laidLooks := .later }
def FnExactPiecesOfCardSaid : Prop := Claim7.holds Tryd.pinned (.plain (OpenSpec.ofChange fnExactPiecesOfSpec)) fnExactPiecesOfCard

/-- THE TIED CARD OF 'laws.FnExactIsForm'. -/
def fnExactIsFormCard : Claim7 := { stood := { row := fnExactIsFormRow, standIns := [], harness := (true, "97021606983fa190bb2ecdf0b16a8a8d356c758058a4400b6cf9b19a2681b6a1"), looks := false }, kinds := [], alts := [], laidByText := true, laidKinds := [.data, .pinned], laidTests := true, laidLooks := .later }
def FnExactIsFormCardSaid : Prop := Claim7.holds Tryd.pinned (.plain (OpenSpec.ofChange fnExactIsFormSpec)) fnExactIsFormCard

/-- THE SECOND FORM's CARD OF 'laws.FnExactWayBetween'. -/
def fnExactWayBetweenUptoCard : Claim7 := { stood := { row := fnExactWayBetweenUptoRow, standIns := [], harness := (true, "97021606983fa190bb2ecdf0b16a8a8d356c758058a4400b6cf9b19a2681b6a1"), looks := false }, kinds := [], alts := [], laidByText := true, laidKinds := [.data, .pinned], laidTests := true, laidLooks := .later }
def FnExactWayBetweenUptoCardSaid : Prop := Claim7.holds Tryd.pinned (.plain (OpenSpec.upto fnExactWayBetweenSpec)) fnExactWayBetweenUptoCard

/-- THE SECOND FORM's CARD OF 'laws.FnExactCountPieces'. -/
def fnExactCountPiecesUptoCard : Claim7 := { stood := { row := fnExactCountPiecesUptoRow, standIns := [], harness := (true, "97021606983fa190bb2ecdf0b16a8a8d356c758058a4400b6cf9b19a2681b6a1"), looks := false }, kinds := [], alts := [], laidByText := true, laidKinds := [.data, .pinned], laidTests := true, laidLooks := .later }
def FnExactCountPiecesUptoCardSaid : Prop := Claim7.holds Tryd.pinned (.plain (OpenSpec.upto fnExactCountPiecesSpec)) fnExactCountPiecesUptoCard

/-- THE SECOND FORM's CARD OF 'laws.FnExactPartsOf'. -/
def fnExactPartsOfUptoCard : Claim7 := { stood := { row := fnExactPartsOfUptoRow, standIns := [], harness := (true, "97021606983fa190bb2ecdf0b16a8a8d356c758058a4400b6cf9b19a2681b6a1"), looks := false }, kinds := [], alts := [], laidByText := true, laidKinds := [.data, .pinned], laidTests := true, laidLooks := .later }
def FnExactPartsOfUptoCardSaid : Prop := Claim7.holds Tryd.pinned (.plain (OpenSpec.upto fnExactPartsOfSpec)) fnExactPartsOfUptoCard

/-- THE SECOND FORM's CARD OF 'laws.FnExactPiecesOf'. -/
def fnExactPiecesOfUptoCard : Claim7 := { stood := { row := fnExactPiecesOfUptoRow, standIns := [], harness := (true, "97021606983fa190bb2ecdf0b16a8a8d356c758058a4400b6cf9b19a2681b6a1"), looks := false }, kinds := [], alts := [], laidByText := true, laidKinds := [.data, .pinned], laidTests := true, laidLooks := .later }
def FnExactPiecesOfUptoCardSaid : Prop := Claim7.holds Tryd.pinned (.plain (OpenSpec.upto fnExactPiecesOfSpec)) fnExactPiecesOfUptoCard

/-- THE SECOND FORM's CARD OF 'laws.FnExactIsForm'. -/
def fnExactIsFormUptoCard : Claim7 := { stood := { row := fnExactIsFormUptoRow, standIns := [], harness := (true, "97021606983fa190bb2ecdf0b16a8a8d356c758058a4400b6cf9b19a2681b6a1"), looks := false }, kinds := [], alts := [], laidByText := true, laidKinds := [.data, .pinned], laidTests := true, laidLooks := .later }
def FnExactIsFormUptoCardSaid : Prop := Claim7.holds Tryd.pinned (.plain (OpenSpec.upto fnExactIsFormSpec)) fnExactIsFormUptoCard
end Rows
end Go.Proofs.YtplifefnjeledaaDoor
