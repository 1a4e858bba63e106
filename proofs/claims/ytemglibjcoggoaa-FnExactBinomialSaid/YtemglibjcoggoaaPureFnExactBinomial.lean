/- The program's Binomial returns what the reference's returns: for all n and k the law FnExactBinomial returns true. -/
import Derived.Test.YtemglibjcoggoaaPFnExactBinomialx1
namespace Go.Proofs.Ytemglibjcoggoaa.Pure
open Go.RowKit Go.Proofs.Ytemglibjcoggoaa.PFnExactBinomial Go.Proofs.YtemglibjcoggoaaW.PrintWords Go.Proofs.YtemglibjcoggoaaW.PrintLast

theorem bi_small : ∀ i : Fin 37, ∀ j : Fin 37, laws_FnExactBinomial.f 40 (i.val : Int) (j.val : Int) = some true := by
  decide +kernel

theorem FnExactBinomial : laws_FnExactBinomial.Pure := by
  intro a b _ _
  by_cases h : (0 ≤ a ∧ a ≤ 36) ∧ (0 ≤ b ∧ b ≤ a)
  · obtain ⟨⟨h1, h2⟩, h3, h4⟩ := h
    have e := bi_small ⟨a.toNat, by omega⟩ ⟨b.toNat, by omega⟩
    have ea : ((a.toNat : Nat) : Int) = a := by omega
    have eb : ((b.toNat : Nat) : Int) = b := by omega
    simp only [ea, eb] at e
    exact ⟨40, e⟩
  · refine ⟨0, ?_⟩
    by_cases x1 : 0 ≤ a
    · by_cases x2 : a ≤ 36
      · by_cases x3 : 0 ≤ b
        · have x4 : ¬ b ≤ a := by omega
          simp [laws_FnExactBinomial.f, spec_Binomial.f, impl_Binomial.f, spec_l1In.f, impl_within.f, x1, x2, x3, x4]
        · simp [laws_FnExactBinomial.f, spec_Binomial.f, impl_Binomial.f, spec_l1In.f, impl_within.f, x1, x2, x3]
      · simp [laws_FnExactBinomial.f, spec_Binomial.f, impl_Binomial.f, spec_l1In.f, impl_within.f, x1, x2]
    · simp [laws_FnExactBinomial.f, spec_Binomial.f, impl_Binomial.f, spec_l1In.f, impl_within.f, x1]

end Go.Proofs.Ytemglibjcoggoaa.Pure
