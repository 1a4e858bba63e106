/-
  DERIVED. GIVEN WITH THE SEED: THE CARDS: each row of YtdjffbjljccmjaaDoorRows.lean that lists a variable, with what it lists TIED to the program's text (the seventh form; the later family's looks); each row that meets fmt, with fmt's text TOLD by the authors' own Lean function (tested against real Go, not proved from fmt's source: count such statements apart). THE CARD IS WHAT COUNTS. Prove the row's statement (the work); the ties are given (YtdjffbjljccmjaaDoorTie.lean); close each card by the builder's one call (the guide's Derived/Test/ToyasCard.lean, 'card_holds'). Laid BY PROGRAM, IN A SANDBOX (cutbox-door.mjs). By AI agents, Wed Nov 11 2026. No macro, syntax, notation, axiom, sorry.
-/
import Derived.Test.YtdjffbjljccmjaaDoorRows
import GoSem.ClaimSeven
namespace Go.Proofs.YtdjffbjljccmjaaDoor
namespace Rows

/-- THE TIED CARD OF 'laws.FnExactTurnWord'. -/
def fnExactTurnWordCard : Claim7 := { stood := { row := fnExactTurnWordRow, standIns := [], harness := (true, "a9eaf75737ac6ac788313d11a415dd1fdc0d4d1d9eb177028d9942b8ac840672"), looks := false }, kinds := [], alts := [], laidByText := true, laidKinds := [.data, .pinned], laidTests := true, laidLooks := .later }
def FnExactTurnWordCardSaid : Prop := Claim7.holds Tryd.pinned (.plain (OpenSpec.ofChange fnExactTurnWordSpec)) fnExactTurnWordCard

/-- THE TIED CARD OF 'laws.FnExactShortWord'. -/
def fnExactShortWordCard : Claim7 := { stood := { row := fnExactShortWordRow, standIns := [], harness := (true, "a9eaf75737ac6ac788313d11a415dd1fdc0d4d1d9eb177028d9942b8ac840672"), looks := false }, kinds := [], alts := [], laidByText := true, laidKinds := [.data, .pinned], laidTests := true, laidLooks := .later }
def FnExactShortWordCardSaid : Prop := Claim7.holds Tryd.pinned (.plain (OpenSpec.ofChange fnExactShortWordSpec)) fnExactShortWordCard

/-- THE TIED CARD OF 'laws.FnExactPowerWord'. -/
def fnExactPowerWordCard : Claim7 := { stood := { row := fnExactPowerWordRow, standIns := [], harness := (true, "a9eaf75737ac6ac788313d11a415dd1fdc0d4d1d9eb177028d9942b8ac840672"), looks := false }, kinds := [], alts := [], laidByText := true, laidKinds := [.data, .pinned], laidTests := true, laidLooks := .later }
def FnExactPowerWordCardSaid : Prop := Claim7.holds Tryd.pinned (.plain (OpenSpec.ofChange fnExactPowerWordSpec)) fnExactPowerWordCard

/-- THE TIED CARD OF 'laws.FnExactMoveHole'. -/
def fnExactMoveHoleCard : Claim7 := { stood := { row := fnExactMoveHoleRow, standIns := [], harness := (true, "a9eaf75737ac6ac788313d11a415dd1fdc0d4d1d9eb177028d9942b8ac840672"), looks := false }, kinds := [], alts := [], laidByText := true, laidKinds := [.data, .pinned], laidTests := true, laidLooks := .later }
def FnExactMoveHoleCardSaid : Prop := Claim7.holds Tryd.pinned (.plain (OpenSpec.ofChange fnExactMoveHoleSpec)) fnExactMoveHoleCard

/-- THE TIED CARD OF 'laws.FnExactMoveByWord'. -/
def fnExactMoveByWordCard : Claim7 := { stood := { row := fnExactMoveByWordRow, standIns := [], harness := (true, "a9eaf75737ac6ac788313d11a415dd1fdc0d4d1d9eb177028d9942b8ac840672"), looks := false }, kinds := [], alts := [], laidByText := true, laidKinds := [.data, .pinned], laidTests := true, laidLooks := .later }
def FnExactMoveByWordCardSaid : Prop := Claim7.holds Tryd.pinned (.plain (OpenSpec.ofChange fnExactMoveByWordSpec)) fnExactMoveByWordCard

/-- THE TIED CARD OF 'laws.FnExactSolveBoard'. -/
def fnExactSolveBoardCard : Claim7 := { stood := { row := fnExactSolveBoardRow, standIns := [], harness := (true, "a9eaf75737ac6ac788313d11a415dd1fdc0d4d1d9eb177028d9942b8ac840672"), looks := false }, kinds := [], alts := [], laidByText := true, laidKinds := [.data, .data, .data], laidTests := true, laidLooks := .later }
def FnExactSolveBoardCardSaid : Prop := Claim7.holds Tryd.pinned (.plain (OpenSpec.ofChange fnExactSolveBoardSpec)) fnExactSolveBoardCard

/-- THE TIED CARD OF 'laws.FnExactHardestBoards'. -/
def fnExactHardestBoardsCard : Claim7 := { stood := { row := fnExactHardestBoardsRow, standIns := [], harness := (true, "a9eaf75737ac6ac788313d11a415dd1fdc0d4d1d9eb177028d9942b8ac840672"), looks := false }, kinds := [], alts := [], laidByText := true, laidKinds := [.data, .data, .data], laidTests := true, laidLooks := .later }
def FnExactHardestBoardsCardSaid : Prop := Claim7.holds Tryd.pinned (.plain (OpenSpec.ofChange fnExactHardestBoardsSpec)) fnExactHardestBoardsCard

/-- THE TIED CARD OF 'laws.FnExactBoardText'. -/
def fnExactBoardTextCard : Claim7 := { stood := { row := fnExactBoardTextRow, standIns := [], harness := (true, "a9eaf75737ac6ac788313d11a415dd1fdc0d4d1d9eb177028d9942b8ac840672"), looks := false }, kinds := [], alts := [], laidByText := true, laidKinds := [.data, .data, .data], laidTests := true, laidLooks := .later }
def FnExactBoardTextCardSaid : Prop := Claim7.holds Tryd.pinned (.plain (OpenSpec.ofChange fnExactBoardTextSpec)) fnExactBoardTextCard

/-- THE TIED CARD OF 'laws.FnExactCountStates'. -/
def fnExactCountStatesCard : Claim7 := { stood := { row := fnExactCountStatesRow, standIns := [], harness := (true, "a9eaf75737ac6ac788313d11a415dd1fdc0d4d1d9eb177028d9942b8ac840672"), looks := false }, kinds := [], alts := [], laidByText := true, laidKinds := [.data, .pinned], laidTests := true, laidLooks := .later }
def FnExactCountStatesCardSaid : Prop := Claim7.holds Tryd.pinned (.plain (OpenSpec.ofChange fnExactCountStatesSpec)) fnExactCountStatesCard

/-- THE SECOND FORM's CARD OF 'laws.FnExactTurnWord'. -/
def fnExactTurnWordUptoCard : Claim7 := { stood := { row := fnExactTurnWordUptoRow, standIns := [], harness := (true, "a9eaf75737ac6ac788313d11a415dd1fdc0d4d1d9eb177028d9942b8ac840672"), looks := false }, kinds := [], alts := [], laidByText := true, laidKinds := [.data, .pinned], laidTests := true, laidLooks := .later }
def FnExactTurnWordUptoCardSaid : Prop := Claim7.holds Tryd.pinned (.plain (OpenSpec.upto fnExactTurnWordSpec)) fnExactTurnWordUptoCard

/-- THE SECOND FORM's CARD OF 'laws.FnExactShortWord'. -/
def fnExactShortWordUptoCard : Claim7 := { stood := { row := fnExactShortWordUptoRow, standIns := [], harness := (true, "a9eaf75737ac6ac788313d11a415dd1fdc0d4d1d9eb177028d9942b8ac840672"), looks := false }, kinds := [], alts := [], laidByText := true, laidKinds := [.data, .pinned], laidTests := true, laidLooks := .later }
def FnExactShortWordUptoCardSaid : Prop := Claim7.holds Tryd.pinned (.plain (OpenSpec.upto fnExactShortWordSpec)) fnExactShortWordUptoCard

/-- THE SECOND FORM's CARD OF 'laws.FnExactPowerWord'. -/
def fnExactPowerWordUptoCard : Claim7 := { stood := { row := fnExactPowerWordUptoRow, standIns := [], harness := (true, "a9eaf75737ac6ac788313d11a415dd1fdc0d4d1d9eb177028d9942b8ac840672"), looks := false }, kinds := [], alts := [], laidByText := true, laidKinds := [.data, .pinned], laidTests := true, laidLooks := .later }
def FnExactPowerWordUptoCardSaid : Prop := Claim7.holds Tryd.pinned (.plain (OpenSpec.upto fnExactPowerWordSpec)) fnExactPowerWordUptoCard

/-- THE SECOND FORM's CARD OF 'laws.FnExactMoveHole'. -/
def fnExactMoveHoleUptoCard : Claim7 := { stood := { row := fnExactMoveHoleUptoRow, standIns := [], harness := (true, "a9eaf75737ac6ac788313d11a415dd1fdc0d4d1d9eb177028d9942b8ac840672"), looks := false }, kinds := [], alts := [], laidByText := true, laidKinds := [.data, .pinned], laidTests := true, laidLooks := .later }
def FnExactMoveHoleUptoCardSaid : Prop := Claim7.holds Tryd.pinned (.plain (OpenSpec.upto fnExactMoveHoleSpec)) fnExactMoveHoleUptoCard

/-- THE SECOND FORM's CARD OF 'laws.FnExactMoveByWord'. -/
def fnExactMoveByWordUptoCard : Claim7 := { stood := { row := fnExactMoveByWordUptoRow, standIns := [], harness := (true, "a9eaf75737ac6ac788313d11a415dd1fdc0d4d1d9eb177028d9942b8ac840672"), looks := false }, kinds := [], alts := [], laidByText := true, laidKinds := [.data, .pinned], laidTests := true, laidLooks := .later }
def FnExactMoveByWordUptoCardSaid : Prop := Claim7.holds Tryd.pinned (.plain (OpenSpec.upto fnExactMoveByWordSpec)) fnExactMoveByWordUptoCard

/-- THE SECOND FORM's CARD OF 'laws.FnExactSolveBoard'. -/
def fnExactSolveBoardUptoCard : Claim7 := { stood := { row := fnExactSolveBoardUptoRow, standIns := [], harness := (true, "a9eaf75737ac6ac788313d11a415dd1fdc0d4d1d9eb177028d9942b8ac840672"), looks := false }, kinds := [], alts := [], laidByText := true, laidKinds := [.data, .data, .data], laidTests := true, laidLooks := .later }
def FnExactSolveBoardUptoCardSaid : Prop := Claim7.holds Tryd.pinned (.plain (OpenSpec.upto fnExactSolveBoardSpec)) fnExactSolveBoardUptoCard

/-- THE SECOND FORM's CARD OF 'laws.FnExactHardestBoards'. -/
def fnExactHardestBoardsUptoCard : Claim7 := { stood := { row := fnExactHardestBoardsUptoRow, standIns := [], harness := (true, "a9eaf75737ac6ac788313d11a415dd1fdc0d4d1d9eb177028d9942b8ac840672"), looks := false }, kinds := [], alts := [], laidByText := true, laidKinds := [.data, .data, .data], laidTests := true, laidLooks := .later }
def FnExactHardestBoardsUptoCardSaid : Prop := Claim7.holds Tryd.pinned (.plain (OpenSpec.upto fnExactHardestBoardsSpec)) fnExactHardestBoardsUptoCard

/-- THE SECOND FORM's CARD OF 'laws.FnExactBoardText'. -/
def fnExactBoardTextUptoCard : Claim7 := { stood := { row := fnExactBoardTextUptoRow, standIns := [], harness := (true, "a9eaf75737ac6ac788313d11a415dd1fdc0d4d1d9eb177028d9942b8ac840672"), looks := false }, kinds := [], alts := [], laidByText := true, laidKinds := [.data, .data, .data], laidTests := true, laidLooks := .later }
def FnExactBoardTextUptoCardSaid : Prop := Claim7.holds Tryd.pinned (.plain (OpenSpec.upto fnExactBoardTextSpec)) fnExactBoardTextUptoCard

/-- THE SECOND FORM's CARD OF 'laws.FnExactCountStates'. -/
def fnExactCountStatesUptoCard : Claim7 := { stood := { row := fnExactCountStatesUptoRow, standIns := [], harness := (true, "a9eaf75737ac6ac788313d11a415dd1fdc0d4d1d9eb177028d9942b8ac840672"), looks := false }, kinds := [], alts := [], laidByText := true, laidKinds := [.data, .pinned], laidTests := true, laidLooks := .later }
def FnExactCountStatesUptoCardSaid : Prop := Claim7.holds Tryd.pinned (.plain (OpenSpec.upto fnExactCountStatesSpec)) fnExactCountStatesUptoCard
end Rows
end Go.Proofs.YtdjffbjljccmjaaDoor
