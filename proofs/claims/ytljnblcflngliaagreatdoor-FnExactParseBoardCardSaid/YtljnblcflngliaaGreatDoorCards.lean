/-
  DERIVED. GIVEN WITH THE SEED: THE CARDS: each row of YtljnblcflngliaaGreatDoorRows.lean that lists a variable, with what it lists TIED to the program's text (the seventh form; the later family's looks); each row that meets fmt, with fmt's text TOLD by the authors' own Lean function (tested against real Go, not proved from fmt's source: count such statements apart). THE CARD IS WHAT COUNTS. Prove the row's statement (the work); the ties are given (YtljnblcflngliaaGreatDoorTie.lean); close each card by the builder's one call (the guide's Derived/Test/ToyasCard.lean, 'card_holds'). Laid BY PROGRAM, IN A SANDBOX (cutbox-door.mjs). By AI agents, Wed Nov 11 2026. No macro, syntax, notation, axiom, sorry.
-/
import Derived.Test.YtljnblcflngliaaGreatDoorRows
import GoSem.ClaimSeven
namespace Go.Proofs.YtljnblcflngliaaGreatDoor
namespace Rows

/-- THE TIED CARD OF 'laws.FnExactParseBoard'. -/
def fnExactParseBoardCard : Claim7 := { stood := { row := fnExactParseBoardRow, standIns := [], harness := (true, "c845860e322d79ddafea2d38065f4d47933795b99267d58f8f96d3b888db5592"), looks := true }, kinds := [], alts := [], laidByText := true, laidKinds := [.data, .data, .data, .data, .sentinel, .sentinel, .pinned], laidTests := true, laidLooks := .later }
def FnExactParseBoardCardSaid : Prop := Claim7.holds Tryz.pinned (.plain (OpenSpec.ofChange fnExactParseBoardSpec)) fnExactParseBoardCard

/-- THE SECOND FORM's CARD OF 'laws.FnExactParseBoard'. -/
def fnExactParseBoardUptoCard : Claim7 := { stood := { row := fnExactParseBoardUptoRow, standIns := [], harness := (true, "c845860e322d79ddafea2d38065f4d47933795b99267d58f8f96d3b888db5592"), looks := true }, kinds := [], alts := [], laidByText := true, laidKinds := [.data, .data, .data, .data, .sentinel, .sentinel, .pinned], laidTests := true, laidLooks := .later }
def FnExactParseBoardUptoCardSaid : Prop := Claim7.holds Tryz.pinned (.plain (OpenSpec.upto fnExactParseBoardSpec)) fnExactParseBoardUptoCard
end Rows
end Go.Proofs.YtljnblcflngliaaGreatDoor
