/-
  DERIVED. GIVEN WITH THE SEED: THE CARDS: each row of YtmplgijnmjdogaaDoorRows.lean that lists a variable, with what it lists TIED to the program's text (the seventh form; the later family's looks); each row that meets fmt, with fmt's text TOLD by the authors' own Lean function (tested against real Go, not proved from fmt's source: count such statements apart). THE CARD IS WHAT COUNTS. Prove the row's statement (the work); the ties are given (YtmplgijnmjdogaaDoorTie.lean); close each card by the builder's one call (the guide's Derived/Test/ToyasCard.lean, 'card_holds'). Laid BY PROGRAM, IN A SANDBOX (cutbox-door.mjs). By AI agents, Wed Nov 11 2026. No macro, syntax, notation, axiom, sorry.
-/
import Derived.Test.YtmplgijnmjdogaaDoorRows
import GoSem.ClaimSeven
namespace Go.Proofs.YtmplgijnmjdogaaDoor
namespace Rows

/-- THE TIED CARD OF 'laws.FnExactSolveBoard'. -/
def fnExactSolveBoardCard : Claim7 := { stood := { row := fnExactSolveBoardRow, standIns := [], harness := (true, "67e22d99c9e7cccc291ad73cf37f567d78e8245a1d8b1a2b265adf14308162a7"), looks := false }, kinds := [], alts := [], laidByText := true, laidKinds := [.data, .data, .data], laidTests := true, laidLooks := .later }
def FnExactSolveBoardCardSaid : Prop := Claim7.holds Tryd.pinned (.plain (OpenSpec.ofChange fnExactSolveBoardSpec)) fnExactSolveBoardCard

/-- THE TIED CARD OF 'laws.FnExactHardestBoards'. -/
def fnExactHardestBoardsCard : Claim7 := { stood := { row := fnExactHardestBoardsRow, standIns := [], harness := (true, "67e22d99c9e7cccc291ad73cf37f567d78e8245a1d8b1a2b265adf14308162a7"), looks := false }, kinds := [], alts := [], laidByText := true, laidKinds := [.data, .data, .data], laidTests := true, laidLooks := .later }
def FnExactHardestBoardsCardSaid : Prop := Claim7.holds Tryd.pinned (.plain (OpenSpec.ofChange fnExactHardestBoardsSpec)) fnExactHardestBoardsCard

/-- THE SECOND FORM's CARD OF 'laws.FnExactSolveBoard'. -/
def fnExactSolveBoardUptoCard : Claim7 := { stood := { row := fnExactSolveBoardUptoRow, standIns := [], harness := (true, "67e22d99c9e7cccc291ad73cf37f567d78e8245a1d8b1a2b265adf14308162a7"), looks := false }, kinds := [], alts := [], laidByText := true, laidKinds := [.data, .data, .data], laidTests := true, laidLooks := .later }
def FnExactSolveBoardUptoCardSaid : Prop := Claim7.holds Tryd.pinned (.plain (OpenSpec.upto fnExactSolveBoardSpec)) fnExactSolveBoardUptoCard

/-- THE SECOND FORM's CARD OF 'laws.FnExactHardestBoards'. -/
def fnExactHardestBoardsUptoCard : Claim7 := { stood := { row := fnExactHardestBoardsUptoRow, standIns := [], harness := (true, "67e22d99c9e7cccc291ad73cf37f567d78e8245a1d8b1a2b265adf14308162a7"), looks := false }, kinds := [], alts := [], laidByText := true, laidKinds := [.data, .data, .data], laidTests := true, laidLooks := .later }
def FnExactHardestBoardsUptoCardSaid : Prop := Claim7.holds Tryd.pinned (.plain (OpenSpec.upto fnExactHardestBoardsSpec)) fnExactHardestBoardsUptoCard
end Rows
end Go.Proofs.YtmplgijnmjdogaaDoor
