/- What is asked for and how many trays there are: alike. The moves that fit: alike. -/
import Derived.Test.YtpafamabndpcmaaQx1
import Derived.Test.YtpafamabndpcmaaQx5
import Derived.Test.YtpafamabndpcmaaQx4
import Derived.Test.YtpafamabndpcmaaLKept
set_option linter.unusedVariables false
set_option linter.unusedSimpArgs false
namespace Go.Proofs.YtpafamabndpcmaaL
open Go.RowKit Go.Proofs.Ytpafamabndpcmaa.Q Go.Proofs.YtpafamabndpcmaaW.PrintWords Go.Proofs.YtpafamabndpcmaaW.PrintLast

theorem wrapSmall {n : Int} (h0 : -9223372036854775808 ≤ n) (h1 : n ≤ 9223372036854775807) : wrap64 n = n := by
  unfold wrap64
  omega

/-- The two sizes of cells are tested alike. -/
theorem sizes_alike (a b : Int) : spec_cnSize.f a b = some (decide (((1 ≤ a ∧ a ≤ 7) ∧ (1 ≤ b ∧ b ≤ 7)) ∧ a * b ≤ 36)) ∧ impl_isSize.f a b = some (decide (((1 ≤ a ∧ a ≤ 7) ∧ (1 ≤ b ∧ b ≤ 7)) ∧ a * b ≤ 36)) := by
  by_cases h : (1 ≤ a ∧ a ≤ 7) ∧ (1 ≤ b ∧ b ≤ 7)
  · obtain ⟨⟨h1, h2⟩, h3, h4⟩ := h
    have hp : 0 ≤ a * b := Int.mul_nonneg (by omega) (by omega)
    have hq : a * b ≤ 7 * 7 := Int.mul_le_mul h2 h4 (by omega) (by omega)
    have hw : wrap64 (a * b) = a * b := wrapSmall (by omega) (by omega)
    simp [spec_cnSize.f, impl_isSize.f, spec_l1In.f, impl_within.f, h1, h2, h3, h4, hw]
  · have hf : decide (((1 ≤ a ∧ a ≤ 7) ∧ (1 ≤ b ∧ b ≤ 7)) ∧ a * b ≤ 36) = false := decide_eq_false (fun z => h z.1)
    rw [hf]
    by_cases x1 : 1 ≤ a
    · by_cases x2 : a ≤ 7
      · by_cases x3 : 1 ≤ b
        · have x4 : ¬ b ≤ 7 := by omega
          simp [spec_cnSize.f, impl_isSize.f, spec_l1In.f, impl_within.f, x1, x2, x3, x4]
        · simp [spec_cnSize.f, impl_isSize.f, spec_l1In.f, impl_within.f, x1, x2, x3]
      · simp [spec_cnSize.f, impl_isSize.f, spec_l1In.f, impl_within.f, x1, x2]
    · simp [spec_cnSize.f, impl_isSize.f, spec_l1In.f, impl_within.f, x1]

def ofN (n a b : Int) : Bool :=
  decide (((spec_cnChoose.f 40 n a).bind fun t106 => ((spec_cnChoose.f 40 (wrap64 (n - a)) b).bind fun t107 => (if t107 = 0 then (none) else (if t106 > (wrap64 (Int.tdiv (1000000000000000 : Int) t107)) then (some (0, false)) else (some (wrap64 (t106 * t107), true))))))
    = ((impl_binomial.f 40 n a).bind fun t118 => ((impl_binomial.f 40 (wrap64 (n - a)) b).bind fun t119 => (if (wrap64 (t118 * t119)) > 1000000000000000 then (some (0, false)) else (some (wrap64 (t118 * t119), true)))))
    ∧ ((impl_binomial.f 40 n a).bind fun t118 => ((impl_binomial.f 40 (wrap64 (n - a)) b).bind fun t119 => (if (wrap64 (t118 * t119)) > 1000000000000000 then (some (0, false)) else (some (wrap64 (t118 * t119), true))))) ≠ (none : Option (Int × Bool)))

def ofAll (n : Nat) : Bool := (List.range (n + 1)).all fun a => (List.range (n - a + 1)).all fun b => ofN (n : Int) (a : Int) (b : Int)

theorem all_n : ∀ i : Fin 36, ofAll (i.val + 1) = true := by decide +kernel

theorem one_n (n a b : Int) (h0 : 1 ≤ n) (h1 : n ≤ 36) (h2 : 0 ≤ a) (h3 : a ≤ n) (h4 : 0 ≤ b) (h5 : b ≤ n - a) : ofN n a b = true := by
  have h := all_n ⟨(n - 1).toNat, by omega⟩
  have en : (n - 1).toNat + 1 = n.toNat := by omega
  simp only [en] at h
  unfold ofAll at h
  rw [List.all_eq_true] at h
  have h6 := h a.toNat (List.mem_range.2 (by omega))
  rw [List.all_eq_true] at h6
  have h7 := h6 b.toNat (List.mem_range.2 (by omega))
  have e1 : ((n.toNat : Nat) : Int) = n := by omega
  have e2 : ((a.toNat : Nat) : Int) = a := by omega
  have e3 : ((b.toNat : Nat) : Int) = b := by omega
  rw [e1, e2, e3] at h7
  exact h7


structure Asks (w h c d : Nat) : Prop where
  w0 : 1 ≤ w
  w1 : w ≤ 7
  h0 : 1 ≤ h
  h1 : h ≤ 7
  p : w * h ≤ 36
  cd : c + d ≤ w * h
theorem asked (w h c d : Int) (hc : (Lit.int .i64 c).wf = true) (hd : (Lit.int .i64 d).wf = true) : (spec_cnAsked.f w h c d = some false ∧ impl_isFilled.f w h c d = some false) ∨
    (∃ W H C D : Nat, (w = (W : Int) ∧ h = (H : Int)) ∧ (c = (C : Int) ∧ d = (D : Int)) ∧ Asks W H C D ∧ spec_cnAsked.f w h c d = some true ∧ impl_isFilled.f w h c d = some true) := by
  obtain ⟨s1, s2⟩ := sizes_alike w h
  by_cases hs : ((1 ≤ w ∧ w ≤ 7) ∧ (1 ≤ h ∧ h ≤ 7)) ∧ w * h ≤ 36
  · obtain ⟨⟨⟨h1, h2⟩, h3, h4⟩, h5⟩ := id hs
    have hp : 1 * 1 ≤ w * h := Int.mul_le_mul h1 h3 (by omega) (by omega)
    have hw : wrap64 (w * h) = w * h := wrapSmall (by omega) (by omega)
    rw [decide_eq_true hs] at s1 s2
    have fin : ∀ (s i : Option Bool), s = some true → i = some true → 0 ≤ c → 0 ≤ d → c + d ≤ w * h → ∃ W H C D : Nat, (w = (W : Int) ∧ h = (H : Int)) ∧ (c = (C : Int) ∧ d = (D : Int)) ∧ Asks W H C D ∧ s = some true ∧ i = some true := by
      intro s i e1 e2 c0 d0 cd
      obtain ⟨W, rfl⟩ := Int.eq_ofNat_of_zero_le (show 0 ≤ w by omega)
      obtain ⟨H, rfl⟩ := Int.eq_ofNat_of_zero_le (show 0 ≤ h by omega)
      obtain ⟨C, rfl⟩ := Int.eq_ofNat_of_zero_le c0
      obtain ⟨D, rfl⟩ := Int.eq_ofNat_of_zero_le d0
      have hm : (W : Int) * (H : Int) = ((W * H : Nat) : Int) := (Int.natCast_mul _ _).symm
      rw [hm] at cd h5
      exact ⟨W, H, C, D, ⟨rfl, rfl⟩, ⟨rfl, rfl⟩, ⟨by omega, by omega, by omega, by omega, by omega, by omega⟩, e1, e2⟩
    generalize hn : w * h = n at *
    by_cases x1 : 0 ≤ c
    · by_cases x2 : c ≤ n
      · have hw2 : wrap64 (n - c) = n - c := wrapSmall (by omega) (by omega)
        by_cases x3 : 0 ≤ d
        · by_cases x4 : d ≤ n - c
          · right
            refine fin _ _ ?_ ?_ x1 x3 (by omega)
            · simp [spec_cnAsked.f, s1, hn, hw, hw2, spec_l1In.f, x1, x2, x3, x4]
            · simp [impl_isFilled.f, s2, hn, hw, hw2, impl_within.f, x1, x2, x3, x4]
          · left
            simp [spec_cnAsked.f, impl_isFilled.f, s1, s2, hn, hw, hw2, spec_l1In.f, impl_within.f, x1, x2, x3, x4]
        · left
          simp [spec_cnAsked.f, impl_isFilled.f, s1, s2, hn, hw, hw2, spec_l1In.f, impl_within.f, x1, x2, x3]
      · left
        simp [spec_cnAsked.f, impl_isFilled.f, s1, s2, hn, hw, spec_l1In.f, impl_within.f, x1, x2]
    · left
      simp [spec_cnAsked.f, impl_isFilled.f, s1, s2, hn, hw, spec_l1In.f, impl_within.f, x1]
  · rw [decide_eq_false hs] at s1 s2
    left
    simp [spec_cnAsked.f, impl_isFilled.f, s1, s2]
theorem trays_none (w h c d : Int) (h2 : impl_isFilled.f w h c d = some false) : Ev (fun k => impl_countTrays.f k w h c d) (0, false) := by
  refine Ev.of (g := fun k => impl_countTrays.f k w h c d) (fun k => impl_countTrays.mono _ _ _ _ k) (k := 0) ?_
  unfold impl_countTrays.f
  rw [h2]
  rfl
theorem trays_same (w h c d : Nat) (ha : Asks w h c d) (h2 : impl_isFilled.f (w : Int) (h : Int) (c : Int) (d : Int) = some true) :
    ∃ r : Int × Bool, Ev (fun k => spec_cnTrays.f k (w : Int) (h : Int) (c : Int) (d : Int)) r ∧ Ev (fun k => impl_countTrays.f k (w : Int) (h : Int) (c : Int) (d : Int)) r := by
  have hm : (w : Int) * (h : Int) = ((w * h : Nat) : Int) := (Int.natCast_mul _ _).symm
  have hw0 : 1 * 1 ≤ w * h := Nat.mul_le_mul ha.w0 ha.h0
  have hp := ha.p
  have hcd := ha.cd
  have hw : wrap64 ((w * h : Nat) : Int) = ((w * h : Nat) : Int) := wrapSmall (by omega) (by omega)
  have e := of_decide_eq_true (one_n ((w * h : Nat) : Int) (c : Int) (d : Int) (by omega) (by omega) (by omega) (by omega) (by omega) (by omega))
  obtain ⟨e1, e2⟩ := e
  obtain ⟨r, hr⟩ := Option.ne_none_iff_exists'.1 e2
  rw [hr] at e1
  refine ⟨r, ?_, ?_⟩
  · refine Ev.of (g := fun k => spec_cnTrays.f k (w : Int) (h : Int) (c : Int) (d : Int)) (fun k => spec_cnTrays.mono _ _ _ _ k) (k := 40) ?_
    show spec_cnTrays.f 40 _ _ _ _ = _
    rw [spec_cnTrays.f, hm, hw]
    exact e1
  · refine Ev.of (g := fun k => impl_countTrays.f k (w : Int) (h : Int) (c : Int) (d : Int)) (fun k => impl_countTrays.mono _ _ _ _ k) (k := 40) ?_
    show impl_countTrays.f 40 _ _ _ _ = _
    rw [impl_countTrays.f, h2, hm, hw, Option.bind_some, if_pos rfl]
    exact hr
theorem tmod8 : ∀ m : Fin 8, (Int.tmod ((m.val : Nat) : Int) 2 == 0) = decide (m.val % 2 = 0) := by decide
theorem fits_eq (w h m : Nat) (h8 : m < 8) : spec_cnFits.f (w : Int) (h : Int) (m : Int) = some (fitsN w h m) := by
  unfold spec_cnFits.f fitsN
  by_cases e : w = h
  · rw [if_pos (by omega), decide_eq_true e]
    rfl
  · rw [if_neg (by omega), decide_eq_false e, Bool.false_or, tmod8 ⟨m, h8⟩]
def fitL (w h : Nat) : List Int := ((List.range 8).filter (fitsN w h)).map (fun m : Nat => (m : Int))
theorem fit_all : ∀ w h : Fin 7, impl_fitting.f 9 ((w.val + 1 : Nat) : Int) ((h.val + 1 : Nat) : Int) = some (fitL (w.val + 1) (h.val + 1)) := by decide +kernel
theorem fitting_ev (w h : Nat) (hw0 : 1 ≤ w) (hw : w ≤ 7) (hh0 : 1 ≤ h) (hh : h ≤ 7) : Ev (fun k => impl_fitting.f k (w : Int) (h : Int)) (fitL w h) := by
  have X := fit_all ⟨w - 1, by omega⟩ ⟨h - 1, by omega⟩
  simp only [Nat.sub_add_cancel hw0, Nat.sub_add_cancel hh0] at X
  exact Ev.of (g := fun k => impl_fitting.f k (w : Int) (h : Int)) (fun k => impl_fitting.mono _ _ k) X
theorem fitL_len (w h : Nat) : (fitL w h).length ≤ 8 := by
  unfold fitL
  rw [List.length_map]
  exact List.length_filter_le ..
theorem fitL_mem (w h : Nat) (a : Int) : a ∈ fitL w h ↔ ∃ m, m < 8 ∧ fitsN w h m = true ∧ a = (m : Int) := by
  unfold fitL
  rw [List.mem_map]
  constructor
  · rintro ⟨m, h1, h2⟩
    rw [List.mem_filter, List.mem_range] at h1
    exact ⟨m, h1.1, h1.2, h2.symm⟩
  · rintro ⟨m, h1, h2, h3⟩
    exact ⟨m, List.mem_filter.2 ⟨List.mem_range.2 h1, h2⟩, h3.symm⟩
end Go.Proofs.YtpafamabndpcmaaL
