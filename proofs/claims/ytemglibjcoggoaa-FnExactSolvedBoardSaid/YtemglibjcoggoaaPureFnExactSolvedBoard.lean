/- The program's SolvedBoard returns what the reference's returns, in memory of its own: for all w and h the law FnExactSolvedBoard returns true. -/
import Derived.Test.YtemglibjcoggoaaPFnExactSolvedBoardx2
namespace Go.Proofs.Ytemglibjcoggoaa.Pure
open Go.RowKit Go.Proofs.Ytemglibjcoggoaa.PFnExactSolvedBoard Go.Proofs.YtemglibjcoggoaaW.PrintWords Go.Proofs.YtemglibjcoggoaaW.PrintLast

theorem sb_small : ∀ i : Fin 3, ∀ j : Fin 3, laws_FnExactSolvedBoard.f 15 ((i.val : Int) + 1) ((j.val : Int) + 1) = some true := by
  decide +kernel

theorem FnExactSolvedBoard : laws_FnExactSolvedBoard.Pure := by
  intro a b _ _
  refine ⟨15, ?_⟩
  by_cases h : (1 ≤ a ∧ a ≤ 3) ∧ (1 ≤ b ∧ b ≤ 3)
  · obtain ⟨⟨h1, h2⟩, h3, h4⟩ := h
    have e := sb_small ⟨(a - 1).toNat, by omega⟩ ⟨(b - 1).toNat, by omega⟩
    have ea : (((a - 1).toNat : Nat) : Int) + 1 = a := by omega
    have eb : (((b - 1).toNat : Nat) : Int) + 1 = b := by omega
    simp only [ea, eb] at e
    exact e
  · have s1 : spec_blSize.f a b = some false := by
      simp only [spec_blSize.f, spec_l1In.f]
      by_cases x1 : a ≥ 1
      · by_cases x2 : a ≤ 3
        · by_cases x3 : b ≥ 1
          · have x4 : ¬ b ≤ 3 := by omega
            simp [x1, x2, x3, x4]
          · simp [x1, x2, x3]
        · simp [x1, x2]
      · simp [x1]
    have s2 : impl_isBoardSize.f a b = some false := by
      simp only [impl_isBoardSize.f, impl_within.f]
      by_cases x1 : 1 ≤ a
      · by_cases x2 : a ≤ 3
        · by_cases x3 : 1 ≤ b
          · have x4 : ¬ b ≤ 3 := by omega
            simp [x1, x2, x3, x4]
          · simp [x1, x2, x3]
        · simp [x1, x2]
      · simp [x1]
    have m1 : ∀ k, spec_SolvedBoard.f k a b = some (0, [], false) := by intro k; unfold spec_SolvedBoard.f; rw [s1]; rfl
    have m2 : ∀ k, impl_SolvedBoard.f k a b = some (0, [], false) := by intro k; unfold impl_SolvedBoard.f; rw [s2]; rfl
    unfold laws_FnExactSolvedBoard.f
    rw [m1, m2]
    simp only [Option.bind_some]
    rw [show laws_eqBoard.f 15 0 [] 0 [] = some true from by decide +kernel]
    simp only [Option.bind_some, if_true, bne_self_eq_false]
    simp only [laws_FnExactSolvedBoard.j0]
    rw [show laws_markBoard.f 14 0 [] 1 = some (1, []) from by decide +kernel]
    simp only [Option.bind_some]
    rw [show laws_heldBoard.f 14 0 [] 1 = some 1 from by decide +kernel, m2]
    simp only [Option.bind_some]
    rw [show laws_eqBoard.f 14 0 [] 0 [] = some true from by decide +kernel]
    simp only [laws_FnExactSolvedBoard.j1]
    rw [show laws_heldBoard.f 13 0 [] 1 = some 1 from by decide +kernel]
    simp

end Go.Proofs.Ytemglibjcoggoaa.Pure
