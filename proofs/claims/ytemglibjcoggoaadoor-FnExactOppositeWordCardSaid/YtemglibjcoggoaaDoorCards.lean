/-
  DERIVED. GIVEN WITH THE SEED: THE CARDS: each row of YtemglibjcoggoaaDoorRows.lean that lists a variable, with what it lists TIED to the program's text (the seventh form; the later family's looks); each row that meets fmt, with fmt's text TOLD by the authors' own Lean function (tested against real Go, not proved from fmt's source: count such statements apart). THE CARD IS WHAT COUNTS. Prove the row's statement (the work); the ties are given (YtemglibjcoggoaaDoorTie.lean); close each card by the builder's one call (the guide's Derived/Test/ToyasCard.lean, 'card_holds'). Laid BY PROGRAM, IN A SANDBOX (cutbox-door.mjs). By AI agents, Wed Nov 11 2026. No macro, syntax, notation, axiom, sorry.
-/
import Derived.Test.YtemglibjcoggoaaDoorRows
import GoSem.ClaimSeven
namespace Go.Proofs.YtemglibjcoggoaaDoor
namespace Rows

/-- THE TIED CARD OF 'laws.FnExactIsWord'. -/
def fnExactIsWordCard : Claim7 := { stood := { row := fnExactIsWordRow, standIns := [], harness := (true, "cd464822491a37271201d3383b136474efc5269eac9713fedb27cce8e2622c33"), looks := false }, kinds := [], alts := [], laidByText := true, laidKinds := [.data, .pinned], laidTests := true, laidLooks := .later }
def FnExactIsWordCardSaid : Prop := Claim7.holds Tryd.pinned (.plain (OpenSpec.ofChange fnExactIsWordSpec)) fnExactIsWordCard

/-- THE TIED CARD OF 'laws.FnExactOppositeWord'. -/
def fnExactOppositeWordCard : Claim7 := { stood := { row := fnExactOppositeWordRow, standIns := [], harness := (true, "cd464822491a37271201d3383b136474efc5269eac9713fedb27cce8e2622c33"), looks := false }, kinds := [], alts := [], laidByText := true, laidKinds := [.data, .pinned], laidTests := true, laidLooks := .later }
def FnExactOppositeWordCardSaid : Prop := Claim7.holds Tryd.pinned (.plain (OpenSpec.ofChange fnExactOppositeWordSpec)) fnExactOppositeWordCard

/-- THE SECOND FORM's CARD OF 'laws.FnExactIsWord'. -/
def fnExactIsWordUptoCard : Claim7 := { stood := { row := fnExactIsWordUptoRow, standIns := [], harness := (true, "cd464822491a37271201d3383b136474efc5269eac9713fedb27cce8e2622c33"), looks := false }, kinds := [], alts := [], laidByText := true, laidKinds := [.data, .pinned], laidTests := true, laidLooks := .later }
def FnExactIsWordUptoCardSaid : Prop := Claim7.holds Tryd.pinned (.plain (OpenSpec.upto fnExactIsWordSpec)) fnExactIsWordUptoCard

/-- THE SECOND FORM's CARD OF 'laws.FnExactOppositeWord'. -/
def fnExactOppositeWordUptoCard : Claim7 := { stood := { row := fnExactOppositeWordUptoRow, standIns := [], harness := (true, "cd464822491a37271201d3383b136474efc5269eac9713fedb27cce8e2622c33"), looks := false }, kinds := [], alts := [], laidByText := true, laidKinds := [.data, .pinned], laidTests := true, laidLooks := .later }
def FnExactOppositeWordUptoCardSaid : Prop := Claim7.holds Tryd.pinned (.plain (OpenSpec.upto fnExactOppositeWordSpec)) fnExactOppositeWordUptoCard
end Rows
end Go.Proofs.YtemglibjcoggoaaDoor
