/- The program's SizeOf returns what the reference's returns: for all arguments the law FnExactSizeOf returns true. -/
import Derived.Test.YtghmjllfbaanoaaDoorLTray
import Derived.Test.YtghmjllfbaanoaaDoorQx5
set_option linter.unusedVariables false
set_option linter.unusedSimpArgs false
namespace Go.Proofs.YtghmjllfbaanoaaDoor.Pure
open Go.RowKit Go.Proofs.YtghmjllfbaanoaaDoor.Q Go.Proofs.YtghmjllfbaanoaaDoorW.PrintWords Go.Proofs.YtghmjllfbaanoaaDoorW.PrintLast Go.Proofs.YtghmjllfbaanoaaDoorM Go.Proofs.YtghmjllfbaanoaaDoorL

theorem FnExactSizeOf : laws_FnExactSizeOf.Pure := by
  intro t _
  by_cases ht : (t.size : Int) > 1048576
  · exact ⟨0, by rw [laws_FnExactSizeOf.f, if_pos ht]⟩
  · refine Ev.rounds (Ev.congr (fun k => by rw [laws_FnExactSizeOf.f, if_neg ht]) ?_)
    refine Ev.bind (a := if good t = true then ((W t : Int), (H t : Int), true) else (0, 0, false)) (Ev.congr (fun k => rfl) (Ev.bind (tyRead_eq t) ?_)) ?_
    · cases good t <;> exact Ev.now _
    refine Ev.bind (a := if good t = true then ((W t : Int), (H t : Int), true) else (0, 0, false)) (Ev.congr (fun k => rfl) (Ev.bind (isTray_eq t (by omega)) ?_)) ?_
    · cases good t
      · exact Ev.now _
      · refine Ev.congr (f := fun _ => some ((W t : Int), (H t : Int), true)) (fun k => ?_) (Ev.now _)
        rw [if_pos rfl, read_eq t (by omega)]
        rfl
    · refine ⟨0, fun k _ => ?_⟩
      simp

end Go.Proofs.YtghmjllfbaanoaaDoor.Pure
