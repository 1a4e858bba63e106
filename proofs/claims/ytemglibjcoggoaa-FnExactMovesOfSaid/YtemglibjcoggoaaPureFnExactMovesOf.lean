/- The program's MovesOf returns what the reference's returns, in memory of its own: for all w and h the law FnExactMovesOf returns true. -/
import Derived.Test.YtemglibjcoggoaaPFnExactMovesOfx2
namespace Go.Proofs.Ytemglibjcoggoaa.Pure
open Go.RowKit Go.Proofs.Ytemglibjcoggoaa.PFnExactMovesOf Go.Proofs.YtemglibjcoggoaaW.PrintWords Go.Proofs.YtemglibjcoggoaaW.PrintLast

theorem fit_eq (k : Nat) : ∀ (a b : Int) (l : List Int) (i : Int), spec_MovesOf.l0 k a b l i = (impl_fitting.l0 k a b l i).map fun x => (x, true) := by
  induction k with
  | zero => intros; rfl
  | succ k ih =>
    intro a b l i
    simp only [spec_MovesOf.l0, impl_fitting.l0, spec_cnFits.f]
    by_cases h : i < 8
    · by_cases hab : a = b
      · by_cases hl : l.length < 17592186044416 <;> simp [h, hab, hl, ih]
      · by_cases hm : Int.tmod i 2 = 0
        · by_cases hl : l.length < 17592186044416 <;> simp [h, hab, hm, hl, ih]
        · simp [h, hab, hm, ih]
    · simp [h]

theorem fit_same (k : Nat) (a b : Int) : ∀ (l : List Int) (i : Int), impl_fitting.l0 k a b l i = impl_fitting.l0 k 0 (if a = b then 0 else 1) l i := by
  induction k with
  | zero => intros; rfl
  | succ k ih =>
    intro l i
    simp only [impl_fitting.l0]
    by_cases hab : a = b
    · simp only [hab, if_true] at ih ⊢
      rw [ih]
    · simp only [hab, if_false] at ih ⊢
      rw [ih, ih]
      simp

theorem fit_val (a b : Int) : impl_fitting.f 20 a b = some (if a = b then [0, 1, 2, 3, 4, 5, 6, 7] else [0, 2, 4, 6]) := by
  unfold impl_fitting.f
  rw [fit_same]
  by_cases hab : a = b
  · simp only [hab, if_true]
    decide +kernel
  · simp only [hab, if_false]
    decide +kernel

theorem tail8 : ∀ b : Bool, (laws_eqIntS.f 20 (if b then [0, 1, 2, 3, 4, 5, 6, 7] else [0, 2, 4, 6]) (if b then [0, 1, 2, 3, 4, 5, 6, 7] else [0, 2, 4, 6]) = some true) ∧
    laws_markIntS.f 20 (if b then [0, 1, 2, 3, 4, 5, 6, 7] else [0, 2, 4, 6]) 1 = some (if b then (9, [1, 2, 3, 4, 5, 6, 7, 8]) else (5, [1, 2, 3, 4])) ∧
    laws_heldIntS.f 20 [1, 2, 3, 4, 5, 6, 7, 8] 1 = some 9 ∧ laws_heldIntS.f 20 [1, 2, 3, 4] 1 = some 5 ∧
    laws_heldIntS.f 19 [1, 2, 3, 4, 5, 6, 7, 8] 1 = some 9 ∧ laws_heldIntS.f 19 [1, 2, 3, 4] 1 = some 5 ∧ laws_markIntS.f 20 [] 1 = some (1, []) ∧ laws_heldIntS.f 20 [] 1 = some 1 ∧ laws_heldIntS.f 19 [] 1 = some 1 ∧ laws_eqIntS.f 20 [] [] = some true := by
  decide +kernel

theorem FnExactMovesOf : laws_FnExactMovesOf.Pure := by
  intro w h _ _
  refine ⟨21, ?_⟩
  by_cases hs : ((1 ≤ w ∧ w ≤ 7) ∧ (1 ≤ h ∧ h ≤ 7)) ∧ wrap64 (w * h) ≤ 36
  · obtain ⟨⟨⟨h1, h2⟩, h3, h4⟩, h5⟩ := hs
    have s1 : spec_cnSize.f w h = some true := by simp [spec_cnSize.f, spec_l1In.f, h1, h2, h3, h4, h5]
    have s2 : impl_isSize.f w h = some true := by simp [impl_isSize.f, impl_within.f, h1, h2, h3, h4, h5]
    have f21 : ∀ k, 20 ≤ k → impl_fitting.f k w h = some (if w = h then [0, 1, 2, 3, 4, 5, 6, 7] else [0, 2, 4, 6]) := by
      intro k hk
      induction k with
      | zero => omega
      | succ k ih =>
        by_cases e : k + 1 = 20
        · rw [e]; exact fit_val w h
        · exact impl_fitting.mono w h k _ (ih (by omega))
    have m1 : spec_MovesOf.f 21 w h = some (if w = h then [0, 1, 2, 3, 4, 5, 6, 7] else [0, 2, 4, 6], true) := by
      unfold spec_MovesOf.f
      rw [s1]
      simp only [Option.bind_some, if_true]
      rw [fit_eq]
      have := f21 21 (by omega)
      unfold impl_fitting.f at this
      rw [this]
      rfl
    have m2 : ∀ k, 20 ≤ k → impl_MovesOf.f k w h = some (if w = h then [0, 1, 2, 3, 4, 5, 6, 7] else [0, 2, 4, 6], true) := by
      intro k hk
      unfold impl_MovesOf.f
      rw [s2, f21 k hk]
      rfl
    unfold laws_FnExactMovesOf.f
    rw [m1, m2 21 (by omega)]
    simp only [Option.bind_some]
    by_cases hab : w = h
    · simp only [hab, if_true] at m2 ⊢
      rw [show laws_eqIntS.f 21 [0, 1, 2, 3, 4, 5, 6, 7] [0, 1, 2, 3, 4, 5, 6, 7] = some true from by decide +kernel]
      simp only [Option.bind_some, if_true, bne_self_eq_false]
      simp only [laws_FnExactMovesOf.j0]
      rw [show laws_markIntS.f 20 [0, 1, 2, 3, 4, 5, 6, 7] 1 = some (9, [1, 2, 3, 4, 5, 6, 7, 8]) from by decide +kernel]
      simp only [Option.bind_some]
      rw [show laws_heldIntS.f 20 [1, 2, 3, 4, 5, 6, 7, 8] 1 = some 9 from by decide +kernel, ← hab, hab, m2 20 (by omega)]
      simp only [Option.bind_some]
      rw [show laws_eqIntS.f 20 [0, 1, 2, 3, 4, 5, 6, 7] [0, 1, 2, 3, 4, 5, 6, 7] = some true from by decide +kernel]
      simp only [laws_FnExactMovesOf.j1]
      rw [show laws_heldIntS.f 19 [1, 2, 3, 4, 5, 6, 7, 8] 1 = some 9 from by decide +kernel]
      simp
    · simp only [hab, if_false] at m2 ⊢
      rw [show laws_eqIntS.f 21 [0, 2, 4, 6] [0, 2, 4, 6] = some true from by decide +kernel]
      simp only [Option.bind_some, if_true, bne_self_eq_false]
      simp only [laws_FnExactMovesOf.j0]
      rw [show laws_markIntS.f 20 [0, 2, 4, 6] 1 = some (5, [1, 2, 3, 4]) from by decide +kernel]
      simp only [Option.bind_some]
      rw [show laws_heldIntS.f 20 [1, 2, 3, 4] 1 = some 5 from by decide +kernel, m2 20 (by omega)]
      simp only [Option.bind_some]
      rw [show laws_eqIntS.f 20 [0, 2, 4, 6] [0, 2, 4, 6] = some true from by decide +kernel]
      simp only [laws_FnExactMovesOf.j1]
      rw [show laws_heldIntS.f 19 [1, 2, 3, 4] 1 = some 5 from by decide +kernel]
      simp
  · have s1 : spec_cnSize.f w h = some false := by
      by_cases x1 : 1 ≤ w
      · by_cases x2 : w ≤ 7
        · by_cases x3 : 1 ≤ h
          · by_cases x4 : h ≤ 7
            · have x5 : ¬ wrap64 (w * h) ≤ 36 := fun z => hs ⟨⟨⟨x1, x2⟩, x3, x4⟩, z⟩
              simp [spec_cnSize.f, spec_l1In.f, x1, x2, x3, x4, x5]
            · simp [spec_cnSize.f, spec_l1In.f, x1, x2, x3, x4]
          · simp [spec_cnSize.f, spec_l1In.f, x1, x2, x3]
        · simp [spec_cnSize.f, spec_l1In.f, x1, x2]
      · simp [spec_cnSize.f, spec_l1In.f, x1]
    have s2 : impl_isSize.f w h = some false := by
      by_cases x1 : 1 ≤ w
      · by_cases x2 : w ≤ 7
        · by_cases x3 : 1 ≤ h
          · by_cases x4 : h ≤ 7
            · have x5 : ¬ wrap64 (w * h) ≤ 36 := fun z => hs ⟨⟨⟨x1, x2⟩, x3, x4⟩, z⟩
              simp [impl_isSize.f, impl_within.f, x1, x2, x3, x4, x5]
            · simp [impl_isSize.f, impl_within.f, x1, x2, x3, x4]
          · simp [impl_isSize.f, impl_within.f, x1, x2, x3]
        · simp [impl_isSize.f, impl_within.f, x1, x2]
      · simp [impl_isSize.f, impl_within.f, x1]
    have m1 : spec_MovesOf.f 21 w h = some ([], false) := by unfold spec_MovesOf.f; rw [s1]; rfl
    have m2 : ∀ k, impl_MovesOf.f k w h = some ([], false) := by intro k; unfold impl_MovesOf.f; rw [s2]; rfl
    unfold laws_FnExactMovesOf.f
    rw [m1, m2]
    simp only [Option.bind_some]
    rw [show laws_eqIntS.f 21 [] [] = some true from by decide +kernel]
    simp only [Option.bind_some, if_true, bne_self_eq_false]
    simp only [laws_FnExactMovesOf.j0]
    rw [show laws_markIntS.f 20 [] 1 = some (1, []) from by decide +kernel]
    simp only [Option.bind_some]
    rw [show laws_heldIntS.f 20 [] 1 = some 1 from by decide +kernel, m2]
    simp only [Option.bind_some]
    rw [show laws_eqIntS.f 20 [] [] = some true from by decide +kernel]
    simp only [laws_FnExactMovesOf.j1]
    rw [show laws_heldIntS.f 19 [] 1 = some 1 from by decide +kernel]
    simp

end Go.Proofs.Ytemglibjcoggoaa.Pure
