/- The program's TurnWord returns what the reference's returns: for all arguments the law FnExactTurnWord returns true. -/
import Derived.Test.YtdjffbjljccmjaaDoorLTurnW
import Derived.Test.YtdjffbjljccmjaaDoorQx2
import Derived.Test.YtdjffbjljccmjaaDoorQx1
set_option linter.unusedVariables false
set_option linter.unusedSimpArgs false
namespace Go.Proofs.YtdjffbjljccmjaaDoor.Pure
open Go.RowKit Go.Proofs.YtdjffbjljccmjaaDoor.Q Go.Proofs.YtdjffbjljccmjaaDoorW.PrintWords Go.Proofs.YtdjffbjljccmjaaDoorW.PrintLast Go.Proofs.YtdjffbjljccmjaaDoorL
theorem alike (t : ByteArray) (q : Int) : ∃ r : ByteArray × Bool, Ev (fun k => spec_TurnWord.f k t q) r ∧ impl_TurnWord.f t q = some r := by
  have hS := tiWord_eq t
  have hI := isWord_eq t
  have hin : spec_l1In.f q 0 3 = some (decide (0 ≤ q) && decide (q ≤ 3)) := by
    rw [spec_l1In.f]
    by_cases h : 0 ≤ q
    · rw [if_pos h, decide_eq_true h, Bool.true_and]
    · rw [if_neg h, decide_eq_false h, Bool.false_and]
  have hwi : impl_within.f q 0 3 = some (decide (0 ≤ q) && decide (q ≤ 3)) := by
    rw [impl_within.f]
    by_cases h : 0 ≤ q
    · rw [if_pos h, decide_eq_true h, Bool.true_and]
    · rw [if_neg h, decide_eq_false h, Bool.false_and]
  cases hw : wordOk t with
  | false =>
    rw [hw] at hS hI
    refine ⟨(⟨#[]⟩, false), Ev.congr (fun k => rfl) (Ev.bind hS ⟨0, fun k _ => rfl⟩), ?_⟩
    rw [impl_TurnWord.f, hI, Option.bind_some]
    rfl
  | true =>
    rw [hw] at hS hI
    obtain ⟨hs, hok⟩ := wordOk_facts hw
    cases hq : (decide (0 ≤ q) && decide (q ≤ 3)) with
    | false =>
      rw [hq] at hin hwi
      refine ⟨(⟨#[]⟩, false), Ev.congr (fun k => rfl) (Ev.bind hS ⟨0, fun k _ => ?_⟩), ?_⟩
      · show ite _ _ _ = _
        rw [if_pos rfl, hin]
        rfl
      · rw [impl_TurnWord.f, hI, Option.bind_some, if_pos rfl, hwi]
        rfl
    | true =>
      rw [hq] at hin hwi
      rw [Bool.and_eq_true, decide_eq_true_eq, decide_eq_true_eq] at hq
      have hT := tiTurn_eq t q hq.1 (by omega) hs hok
      have hU := turned_eq t q hq.1 (by omega) hs hok
      refine ⟨(tW q t, true), Ev.congr (fun k => rfl) (Ev.bind hS ?_), ?_⟩
      · refine Ev.congr (f := fun k => (spec_tiTurn.f k t q).bind fun t107 => (some (t107, true))) (g := _) (r := (tW q t, true)) (fun k => ?_) (Ev.bind hT (Ev.now _))
        rw [if_pos rfl, hin, Option.bind_some, if_pos rfl]
      · rw [impl_TurnWord.f, hI, Option.bind_some, if_pos rfl, hwi, Option.bind_some, if_pos rfl, hU]
        rfl
theorem FnExactTurnWord : laws_FnExactTurnWord.Pure := by
  intro a q _ _
  by_cases hta : (a.size : Int) > 1048576
  · exact ⟨0, by rw [laws_FnExactTurnWord.f, if_pos hta]⟩
  refine Ev.rounds (Ev.congr (fun k => by rw [laws_FnExactTurnWord.f, if_neg hta]) ?_)
  obtain ⟨r, hS, hI⟩ := alike a q
  refine Ev.bind hS ⟨0, fun k _ => ?_⟩
  show (impl_TurnWord.f a q).bind _ = _
  have hb : ¬ (r.2 != r.2) = true := by cases r.2 <;> decide
  rw [hI, Option.bind_some, if_pos rfl, if_neg hb]
end Go.Proofs.YtdjffbjljccmjaaDoor.Pure
