/- The program's OppositeWord returns what the reference's returns: for all arguments the law FnExactOppositeWord returns true. -/
import Derived.Test.YtemglibjcoggoaaDoorLTurnW
import Derived.Test.YtemglibjcoggoaaDoorQx1
import Derived.Test.YtemglibjcoggoaaDoorQx2
set_option linter.unusedVariables false
set_option linter.unusedSimpArgs false
namespace Go.Proofs.YtemglibjcoggoaaDoor.Pure
open Go.RowKit Go.Proofs.YtemglibjcoggoaaDoor.Q Go.Proofs.YtemglibjcoggoaaDoorW.PrintWords Go.Proofs.YtemglibjcoggoaaDoorW.PrintLast Go.Proofs.YtemglibjcoggoaaDoorL
theorem alike (t : ByteArray) : ∃ r : ByteArray × Bool, Ev (fun k => spec_OppositeWord.f k t) r ∧ impl_OppositeWord.f t = some r := by
  have hS := tiWord_eq t
  have hI := isWord_eq t
  have hwi : impl_within.f 2 0 3 = some true := rfl
  cases hw : wordOk t with
  | false =>
    rw [hw] at hS hI
    refine ⟨(⟨#[]⟩, false), Ev.congr (fun k => rfl) (Ev.bind hS ⟨0, fun k _ => rfl⟩), ?_⟩
    rw [impl_OppositeWord.f, impl_TurnWord.f, hI, Option.bind_some]
    rfl
  | true =>
    rw [hw] at hS hI
    obtain ⟨hs, hok⟩ := wordOk_facts hw
    have hT := tiTurn_eq t 2 (by decide) (by decide) hs hok
    have hU := turned_eq t 2 (by decide) (by decide) hs hok
    refine ⟨(tW 2 t, true), Ev.congr (fun k => rfl) (Ev.bind hS ?_), ?_⟩
    · exact Ev.congr (f := fun k => (spec_tiTurn.f k t 2).bind fun t107 => (some (t107, true))) (g := _) (r := (tW 2 t, true)) (fun k => if_pos rfl) (Ev.bind hT (Ev.now _))
    · rw [impl_OppositeWord.f, impl_TurnWord.f, hI, Option.bind_some, if_pos rfl, hwi, Option.bind_some, if_pos rfl, hU]
      rfl
theorem FnExactOppositeWord : laws_FnExactOppositeWord.Pure := by
  intro a _
  by_cases hta : (a.size : Int) > 1048576
  · exact ⟨0, by rw [laws_FnExactOppositeWord.f, if_pos hta]⟩
  refine Ev.rounds (Ev.congr (fun k => by rw [laws_FnExactOppositeWord.f, if_neg hta]) ?_)
  obtain ⟨r, hS, hI⟩ := alike a
  refine Ev.bind hS ⟨0, fun k _ => ?_⟩
  show (impl_OppositeWord.f a).bind _ = _
  have hb : ¬ (r.2 != r.2) = true := by cases r.2 <;> decide
  rw [hI, Option.bind_some, if_pos rfl, if_neg hb]
end Go.Proofs.YtemglibjcoggoaaDoor.Pure
