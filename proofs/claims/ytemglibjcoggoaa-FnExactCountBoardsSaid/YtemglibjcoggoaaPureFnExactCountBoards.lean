/- The program's CountBoards returns what the reference's returns: for all w and h the law FnExactCountBoards returns true. -/
import Derived.Test.YtemglibjcoggoaaPFnExactCountBoardsx1
namespace Go.Proofs.Ytemglibjcoggoaa.Pure
open Go.RowKit Go.Proofs.Ytemglibjcoggoaa.PFnExactCountBoards Go.Proofs.YtemglibjcoggoaaW.PrintWords Go.Proofs.YtemglibjcoggoaaW.PrintLast

theorem cb_small : ∀ i : Fin 3, ∀ j : Fin 3, laws_FnExactCountBoards.f 15 ((i.val : Int) + 1) ((j.val : Int) + 1) = some true := by
  decide +kernel

theorem FnExactCountBoards : laws_FnExactCountBoards.Pure := by
  intro a b _ _
  by_cases h : (1 ≤ a ∧ a ≤ 3) ∧ (1 ≤ b ∧ b ≤ 3)
  · obtain ⟨⟨h1, h2⟩, h3, h4⟩ := h
    have e := cb_small ⟨(a - 1).toNat, by omega⟩ ⟨(b - 1).toNat, by omega⟩
    have ea : (((a - 1).toNat : Nat) : Int) + 1 = a := by omega
    have eb : (((b - 1).toNat : Nat) : Int) + 1 = b := by omega
    simp only [ea, eb] at e
    exact ⟨15, e⟩
  · refine ⟨0, ?_⟩
    have s1 : spec_blSize.f a b = some false := by
      simp only [spec_blSize.f, spec_l1In.f]
      by_cases x1 : a ≥ 1
      · by_cases x2 : a ≤ 3
        · by_cases x3 : b ≥ 1
          · have x4 : ¬ b ≤ 3 := by omega
            simp [x1, x2, x3, x4]
          · simp [x1, x2, x3]
        · simp [x1, x2]
      · simp [x1]
    have s2 : impl_isBoardSize.f a b = some false := by
      simp only [impl_isBoardSize.f, impl_within.f]
      by_cases x1 : 1 ≤ a
      · by_cases x2 : a ≤ 3
        · by_cases x3 : 1 ≤ b
          · have x4 : ¬ b ≤ 3 := by omega
            simp [x1, x2, x3, x4]
          · simp [x1, x2, x3]
        · simp [x1, x2]
      · simp [x1]
    simp [laws_FnExactCountBoards.f, spec_CountBoards.f, impl_CountBoards.f, s1, s2]

end Go.Proofs.Ytemglibjcoggoaa.Pure
