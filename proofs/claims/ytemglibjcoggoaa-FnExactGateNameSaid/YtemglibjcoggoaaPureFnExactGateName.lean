/- The program's GateName returns what the reference's returns: for all arguments the law FnExactGateName returns true. -/
import Derived.Test.YtemglibjcoggoaaQx1
set_option linter.unusedVariables false
namespace Go.Proofs.Ytemglibjcoggoaa.Pure
open Go.RowKit Go.Proofs.Ytemglibjcoggoaa.Q Go.Proofs.YtemglibjcoggoaaW.PrintWords Go.Proofs.YtemglibjcoggoaaW.PrintLast Go.Proofs.YtemglibjcoggoaaV
theorem alike (n : Int) : ∃ r, spec_GateName.f n = some r ∧ impl_GateName.f n = some r := by
  by_cases h : 0 ≤ n ∧ n ≤ 15
  · refine ⟨(gateN n, true), ?_, by rw [impl_GateName.f, if_pos h]⟩
    obtain ⟨m, rfl⟩ := Int.eq_ofNat_of_zero_le h.1
    have hc : m = 0 ∨ m = 1 ∨ m = 2 ∨ m = 3 ∨ m = 4 ∨ m = 5 ∨ m = 6 ∨ m = 7 ∨ m = 8 ∨ m = 9 ∨ m = 10 ∨ m = 11 ∨ m = 12 ∨ m = 13 ∨ m = 14 ∨ m = 15 := by omega
    rcases hc with rfl | rfl | rfl | rfl | rfl | rfl | rfl | rfl | rfl | rfl | rfl | rfl | rfl | rfl | rfl | rfl <;> rfl
  · refine ⟨(⟨#[]⟩, false), ?_, by rw [impl_GateName.f, if_neg h]⟩
    have hf : spec_l1In.f n 0 15 = some false := by
      rw [spec_l1In.f]
      by_cases h0 : n ≥ 0
      · rw [if_pos h0, decide_eq_false (by omega)]
      · rw [if_neg h0]
    rw [spec_GateName.f, hf, Option.bind_some]
    rfl
theorem FnExactGateName : laws_FnExactGateName.Pure := by
  intro n _
  obtain ⟨r, hS, hI⟩ := alike n
  have hb : ¬ (r.2 != r.2) = true := by cases r.2 <;> decide
  rw [laws_FnExactGateName.f, hS, Option.bind_some, hI, Option.bind_some, if_pos rfl, if_neg hb]
end Go.Proofs.Ytemglibjcoggoaa.Pure
