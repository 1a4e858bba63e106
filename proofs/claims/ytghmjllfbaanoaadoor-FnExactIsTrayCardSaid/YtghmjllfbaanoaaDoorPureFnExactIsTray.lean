/- The program's IsTray returns what the reference's returns: for all arguments the law FnExactIsTray returns true. -/
import Derived.Test.YtghmjllfbaanoaaDoorLTray
import Derived.Test.YtghmjllfbaanoaaDoorQx3
set_option linter.unusedVariables false
set_option linter.unusedSimpArgs false
namespace Go.Proofs.YtghmjllfbaanoaaDoor.Pure
open Go.RowKit Go.Proofs.YtghmjllfbaanoaaDoor.Q Go.Proofs.YtghmjllfbaanoaaDoorW.PrintWords Go.Proofs.YtghmjllfbaanoaaDoorW.PrintLast Go.Proofs.YtghmjllfbaanoaaDoorM Go.Proofs.YtghmjllfbaanoaaDoorL

theorem good_ev (t : ByteArray) : Ev (fun k => spec_tyGood.f k t) (good t) := by
  refine Ev.congr (fun k => rfl) (Ev.bind (tyRead_eq t) ?_)
  cases h : good t <;> exact Ev.now _
theorem FnExactIsTray : laws_FnExactIsTray.Pure := by
  intro t _
  by_cases ht : (t.size : Int) > 1048576
  · exact ⟨0, by rw [laws_FnExactIsTray.f, if_pos ht]⟩
  · refine Ev.rounds (Ev.congr (fun k => by rw [laws_FnExactIsTray.f, if_neg ht]) ?_)
    refine Ev.bind (a := good t) (Ev.congr (fun k => rfl) (Ev.bind (good_ev t) (Ev.now _))) ?_
    refine Ev.bind (isTray_eq t (by omega)) ?_
    cases good t <;> exact Ev.now _

end Go.Proofs.YtghmjllfbaanoaaDoor.Pure
