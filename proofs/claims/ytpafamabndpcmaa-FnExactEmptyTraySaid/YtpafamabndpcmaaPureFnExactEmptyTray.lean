/- The program's EmptyTray returns what the reference's returns: for all arguments the law FnExactEmptyTray returns true. -/
import Derived.Test.YtpafamabndpcmaaQx2
set_option linter.unusedVariables false
set_option linter.unusedSimpArgs false
namespace Go.Proofs.Ytpafamabndpcmaa.Pure
open Go.RowKit Go.Proofs.Ytpafamabndpcmaa.Q Go.Proofs.YtpafamabndpcmaaW.PrintWords Go.Proofs.YtpafamabndpcmaaW.PrintLast
theorem wrap_small {n : Int} (h0 : -9223372036854775808 ≤ n) (h1 : n ≤ 9223372036854775807) : wrap64 n = n := by
  unfold wrap64
  omega
def one (i j : Nat) : Bool := match spec_EmptyTray.f 60 (i : Int) (j : Int), impl_EmptyTray.f (i : Int) (j : Int) with
  | some r, some q => decide (r.1.data.toList = q.1.data.toList ∧ r.2 = q.2)
  | _, _ => false
theorem all_one : ((List.range 7).all fun i => (List.range 7).all fun j => !(decide ((i + 1) * (j + 1) ≤ 36)) || one (i + 1) (j + 1)) = true := by decide +kernel
theorem sizes (a b : Int) (h : ¬ (((1 ≤ a ∧ a ≤ 7) ∧ (1 ≤ b ∧ b ≤ 7)) ∧ a * b ≤ 36)) : (∀ k, spec_EmptyTray.f (k + 1) a b = some ((⟨#[]⟩ : ByteArray), false)) ∧ impl_EmptyTray.f a b = some ((⟨#[]⟩ : ByteArray), false) := by
  by_cases h1 : 1 ≤ a
  · by_cases h2 : a ≤ 7
    · by_cases h3 : 1 ≤ b
      · by_cases h4 : b ≤ 7
        · have hm : a * b ≤ 7 * 7 := Int.mul_le_mul h2 h4 (by omega) (by omega)
          have hm0 : 0 ≤ a * b := Int.mul_nonneg (by omega) (by omega)
          have hw : wrap64 (a * b) = a * b := wrap_small (by omega) (by omega)
          have h5 : ¬ a * b ≤ 36 := fun h5 => h ⟨⟨⟨h1, h2⟩, h3, h4⟩, h5⟩
          have h6 : 36 < a * b := by omega
          simp [spec_EmptyTray.f, spec_EmptyTray.j0, impl_EmptyTray.f, impl_isSize.f, spec_l1In.f, impl_within.f, h1, h2, h3, h4, hw, h5, h6]
        · simp [spec_EmptyTray.f, spec_EmptyTray.j0, impl_EmptyTray.f, impl_isSize.f, spec_l1In.f, impl_within.f, h1, h2, h3, h4]
      · simp [spec_EmptyTray.f, spec_EmptyTray.j0, impl_EmptyTray.f, impl_isSize.f, spec_l1In.f, impl_within.f, h1, h2, h3]
    · simp [spec_EmptyTray.f, spec_EmptyTray.j0, impl_EmptyTray.f, impl_isSize.f, spec_l1In.f, impl_within.f, h1, h2]
  · simp [spec_EmptyTray.f, spec_EmptyTray.j0, impl_EmptyTray.f, impl_isSize.f, spec_l1In.f, impl_within.f, h1]
theorem FnExactEmptyTray : laws_FnExactEmptyTray.Pure := by
  intro a b _ _
  refine ⟨60, ?_⟩
  by_cases h : ((1 ≤ a ∧ a ≤ 7) ∧ (1 ≤ b ∧ b ≤ 7)) ∧ a * b ≤ 36
  · obtain ⟨⟨⟨h1, h2⟩, h3, h4⟩, h5⟩ := h
    obtain ⟨i, rfl⟩ : ∃ i : Nat, a = ((i + 1 : Nat) : Int) := ⟨(a - 1).toNat, by omega⟩
    obtain ⟨j, rfl⟩ : ∃ j : Nat, b = ((j + 1 : Nat) : Int) := ⟨(b - 1).toNat, by omega⟩
    have h6 : (i + 1) * (j + 1) ≤ 36 := by
      have : (((i + 1) * (j + 1) : Nat) : Int) ≤ 36 := by push_cast; push_cast at h5; exact h5
      omega
    have X := all_one
    rw [List.all_eq_true] at X
    have Y := X i (List.mem_range.2 (by omega))
    rw [List.all_eq_true] at Y
    have Z := Y j (List.mem_range.2 (by omega))
    rw [decide_eq_true h6, Bool.not_true, Bool.false_or] at Z
    unfold one at Z
    cases hs : spec_EmptyTray.f 60 ((i + 1 : Nat) : Int) ((j + 1 : Nat) : Int) with
    | none => rw [hs] at Z; cases Z
    | some r =>
      rw [hs] at Z
      cases hi : impl_EmptyTray.f ((i + 1 : Nat) : Int) ((j + 1 : Nat) : Int) with
      | none => rw [hi] at Z; cases Z
      | some q =>
        rw [hi] at Z
        obtain ⟨z1, z2⟩ := of_decide_eq_true Z
        have e : r = q := by
          obtain ⟨⟨⟨r1⟩⟩, r2⟩ := r
          obtain ⟨⟨⟨q1⟩⟩, q2⟩ := q
          have z1' : r1 = q1 := z1
          have z2' : r2 = q2 := z2
          rw [z1', z2']
        rw [laws_FnExactEmptyTray.f, hs, hi, e]
        simp
  · obtain ⟨s1, s2⟩ := sizes a b h
    rw [laws_FnExactEmptyTray.f, s1 59, s2]
    simp
end Go.Proofs.Ytpafamabndpcmaa.Pure
