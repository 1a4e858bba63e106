/-
  DERIVED. GIVEN WITH THE SEED: THE CARDS: each row of YtfpjnpfhglaboaaDoorRows.lean that lists a variable, with what it lists TIED to the program's text (the seventh form; the later family's looks); each row that meets fmt, with fmt's text TOLD by the authors' own Lean function (tested against real Go, not proved from fmt's source: count such statements apart). THE CARD IS WHAT COUNTS. Prove the row's statement (the work); the ties are given (YtfpjnpfhglaboaaDoorTie.lean); close each card by the builder's one call (the guide's Derived/Test/ToyasCard.lean, 'card_holds'). Laid BY PROGRAM, IN A SANDBOX (cutbox-door.mjs). By AI agents, Wed Nov 11 2026. No macro, syntax, notation, axiom, sorry.
-/
import Derived.Test.YtfpjnpfhglaboaaDoorRows
import GoSem.ClaimSeven
namespace Go.Proofs.YtfpjnpfhglaboaaDoor
namespace Rows

/-- THE TIED CARD OF 'laws.FnExactShortWord'. -/
def fnExactShortWordCard : Claim7 := { stood := { row := fnExactShortWordRow, standIns := [], harness := (true, "28ec977eff456984f4c9b8386827edf669402f5f29f7e671643ef2d74c2d15d1"), looks := false }, kinds := [], alts := [], laidByText := true, laidKinds := [.data, .pinned], laidTests := true, laidLooks := .later }
def FnExactShortWordCardSaid : Prop := Claim7.holds Tryd.pinned (.plain (OpenSpec.ofChange fnExactShortWordSpec)) fnExactShortWordCard

/-- THE TIED CARD OF 'laws.FnExactBoardText'. -/
def fnExactBoardTextCard : Claim7 := { stood := { row := fnExactBoardTextRow, standIns := [], harness := (true, "28ec977eff456984f4c9b8386827edf669402f5f29f7e671643ef2d74c2d15d1"), looks := false }, kinds := [], alts := [], laidByText := true, laidKinds := [.data, .data, .data], laidTests := true, laidLooks := .later }
def FnExactBoardTextCardSaid : Prop := Claim7.holds Tryd.pinned (.plain (OpenSpec.ofChange fnExactBoardTextSpec)) fnExactBoardTextCard

/-- THE SECOND FORM's CARD OF 'laws.FnExactShortWord'. -/
def fnExactShortWordUptoCard : Claim7 := { stood := { row := fnExactShortWordUptoRow, standIns := [], harness := (true, "28ec977eff456984f4c9b8386827edf669402f5f29f7e671643ef2d74c2d15d1"), looks := false }, kinds := [], alts := [], laidByText := true, laidKinds := [.data, .pinned], laidTests := true, laidLooks := .later }
def FnExactShortWordUptoCardSaid : Prop := Claim7.holds Tryd.pinned (.plain (OpenSpec.upto fnExactShortWordSpec)) fnExactShortWordUptoCard

/-- THE SECOND FORM's CARD OF 'laws.FnExactBoardText'. -/
def fnExactBoardTextUptoCard : Claim7 := { stood := { row := fnExactBoardTextUptoRow, standIns := [], harness := (true, "28ec977eff456984f4c9b8386827edf669402f5f29f7e671643ef2d74c2d15d1"), looks := false }, kinds := [], alts := [], laidByText := true, laidKinds := [.data, .data, .data], laidTests := true, laidLooks := .later }
def FnExactBoardTextUptoCardSaid : Prop := Claim7.holds Tryd.pinned (.plain (OpenSpec.upto fnExactBoardTextSpec)) fnExactBoardTextUptoCard
end Rows
end Go.Proofs.YtfpjnpfhglaboaaDoor
