/- The program's CountTrays returns what the reference's returns: for all arguments the law FnExactCountTrays returns true. -/
import Derived.Test.YtemglibjcoggoaaQFnExactCountTraysx1
namespace Go.Proofs.Ytemglibjcoggoaa.Pure
open Go.RowKit Go.Proofs.Ytemglibjcoggoaa.QFnExactCountTrays Go.Proofs.YtemglibjcoggoaaW.PrintWords Go.Proofs.YtemglibjcoggoaaW.PrintLast

theorem wrap_small {n : Int} (h0 : -9223372036854775808 ≤ n) (h1 : n ≤ 9223372036854775807) : wrap64 n = n := by
  unfold wrap64
  omega

/-- The two sizes of cells are tested alike. -/
theorem sizes_alike (a b : Int) : spec_cnSize.f a b = some (decide (((1 ≤ a ∧ a ≤ 7) ∧ (1 ≤ b ∧ b ≤ 7)) ∧ a * b ≤ 36)) ∧ impl_isSize.f a b = some (decide (((1 ≤ a ∧ a ≤ 7) ∧ (1 ≤ b ∧ b ≤ 7)) ∧ a * b ≤ 36)) := by
  by_cases h : (1 ≤ a ∧ a ≤ 7) ∧ (1 ≤ b ∧ b ≤ 7)
  · obtain ⟨⟨h1, h2⟩, h3, h4⟩ := h
    have hp : 0 ≤ a * b := Int.mul_nonneg (by omega) (by omega)
    have hq : a * b ≤ 7 * 7 := Int.mul_le_mul h2 h4 (by omega) (by omega)
    have hw : wrap64 (a * b) = a * b := wrap_small (by omega) (by omega)
    simp [spec_cnSize.f, impl_isSize.f, spec_l1In.f, impl_within.f, h1, h2, h3, h4, hw]
  · have hf : decide (((1 ≤ a ∧ a ≤ 7) ∧ (1 ≤ b ∧ b ≤ 7)) ∧ a * b ≤ 36) = false := decide_eq_false (fun z => h z.1)
    rw [hf]
    by_cases x1 : 1 ≤ a
    · by_cases x2 : a ≤ 7
      · by_cases x3 : 1 ≤ b
        · have x4 : ¬ b ≤ 7 := by omega
          simp [spec_cnSize.f, impl_isSize.f, spec_l1In.f, impl_within.f, x1, x2, x3, x4]
        · simp [spec_cnSize.f, impl_isSize.f, spec_l1In.f, impl_within.f, x1, x2, x3]
      · simp [spec_cnSize.f, impl_isSize.f, spec_l1In.f, impl_within.f, x1, x2]
    · simp [spec_cnSize.f, impl_isSize.f, spec_l1In.f, impl_within.f, x1]

def ofN (n a b : Int) : Bool :=
  decide (((spec_cnChoose.f 40 n a).bind fun t106 => ((spec_cnChoose.f 40 (wrap64 (n - a)) b).bind fun t107 => (if t107 = 0 then (none) else (if t106 > (wrap64 (Int.tdiv (1000000000000000 : Int) t107)) then (some (0, false)) else (some (wrap64 (t106 * t107), true))))))
    = ((impl_binomial.f 40 n a).bind fun t118 => ((impl_binomial.f 40 (wrap64 (n - a)) b).bind fun t119 => (if (wrap64 (t118 * t119)) > 1000000000000000 then (some (0, false)) else (some (wrap64 (t118 * t119), true)))))
    ∧ ((impl_binomial.f 40 n a).bind fun t118 => ((impl_binomial.f 40 (wrap64 (n - a)) b).bind fun t119 => (if (wrap64 (t118 * t119)) > 1000000000000000 then (some (0, false)) else (some (wrap64 (t118 * t119), true))))) ≠ (none : Option (Int × Bool)))

def ofAll (n : Nat) : Bool := (List.range (n + 1)).all fun a => (List.range (n - a + 1)).all fun b => ofN (n : Int) (a : Int) (b : Int)

theorem all_n : ∀ i : Fin 36, ofAll (i.val + 1) = true := by decide +kernel

theorem one_n (n a b : Int) (h0 : 1 ≤ n) (h1 : n ≤ 36) (h2 : 0 ≤ a) (h3 : a ≤ n) (h4 : 0 ≤ b) (h5 : b ≤ n - a) : ofN n a b = true := by
  have h := all_n ⟨(n - 1).toNat, by omega⟩
  have en : (n - 1).toNat + 1 = n.toNat := by omega
  simp only [en] at h
  unfold ofAll at h
  rw [List.all_eq_true] at h
  have h6 := h a.toNat (List.mem_range.2 (by omega))
  rw [List.all_eq_true] at h6
  have h7 := h6 b.toNat (List.mem_range.2 (by omega))
  have e1 : ((n.toNat : Nat) : Int) = n := by omega
  have e2 : ((a.toNat : Nat) : Int) = a := by omega
  have e3 : ((b.toNat : Nat) : Int) = b := by omega
  rw [e1, e2, e3] at h7
  exact h7

theorem FnExactCountTrays : laws_FnExactCountTrays.Pure := by
  intro w h c d _ _ hc hd
  refine ⟨40, ?_⟩
  obtain ⟨s1, s2⟩ := sizes_alike w h
  by_cases hs : ((1 ≤ w ∧ w ≤ 7) ∧ (1 ≤ h ∧ h ≤ 7)) ∧ w * h ≤ 36
  · obtain ⟨⟨⟨h1, h2⟩, h3, h4⟩, h5⟩ := id hs
    have hp : 1 * 1 ≤ w * h := Int.mul_le_mul h1 h3 (by omega) (by omega)
    have hw : wrap64 (w * h) = w * h := wrap_small (by omega) (by omega)
    rw [decide_eq_true hs] at s1 s2
    generalize hn : w * h = n at *
    by_cases x1 : 0 ≤ c
    · by_cases x2 : c ≤ n
      · have hw2 : wrap64 (n - c) = n - c := wrap_small (by omega) (by omega)
        by_cases x3 : 0 ≤ d
        · by_cases x4 : d ≤ n - c
          · have e := of_decide_eq_true (one_n n c d (by omega) h5 x1 x2 x3 x4)
            obtain ⟨e1, e2⟩ := e
            obtain ⟨r, hr⟩ := Option.ne_none_iff_exists'.1 e2
            rw [hr] at e1
            simp only [laws_FnExactCountTrays.f, spec_CountTrays.f, impl_CountTrays.f, impl_countTrays.f, spec_cnAsked.f, impl_isFilled.f, spec_cnTrays.f, s1, s2, hn, hw, spec_l1In.f, impl_within.f, x1, x2, x3, x4, hw2, Option.bind_some, if_true, decide_true]
            rw [hw2] at e1 hr
            rw [e1, hr]
            simp
          · simp [laws_FnExactCountTrays.f, spec_CountTrays.f, impl_CountTrays.f, impl_countTrays.f, spec_cnAsked.f, impl_isFilled.f, s1, s2, hn, hw, spec_l1In.f, impl_within.f, x1, x2, x3, x4, hw2]
        · simp [laws_FnExactCountTrays.f, spec_CountTrays.f, impl_CountTrays.f, impl_countTrays.f, spec_cnAsked.f, impl_isFilled.f, s1, s2, hn, hw, spec_l1In.f, impl_within.f, x1, x2, x3]
      · simp [laws_FnExactCountTrays.f, spec_CountTrays.f, impl_CountTrays.f, impl_countTrays.f, spec_cnAsked.f, impl_isFilled.f, s1, s2, hn, hw, spec_l1In.f, impl_within.f, x1, x2]
    · simp [laws_FnExactCountTrays.f, spec_CountTrays.f, impl_CountTrays.f, impl_countTrays.f, spec_cnAsked.f, impl_isFilled.f, s1, s2, hn, hw, spec_l1In.f, impl_within.f, x1]
  · rw [decide_eq_false hs] at s1 s2
    simp [laws_FnExactCountTrays.f, spec_CountTrays.f, impl_CountTrays.f, impl_countTrays.f, spec_cnAsked.f, impl_isFilled.f, s1, s2]

end Go.Proofs.Ytemglibjcoggoaa.Pure
