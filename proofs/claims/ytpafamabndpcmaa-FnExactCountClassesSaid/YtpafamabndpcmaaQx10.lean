/- The functions that the laws of this seat reach, each with its contract (written by this repo's wip/oprint). -/
import Derived.Test.YtpafamabndpcmaaQx0
import Derived.Test.YtpafamabndpcmaaQx9
namespace Go.Proofs.Ytpafamabndpcmaa.Q
open Go.Proofs.YtpafamabndpcmaaV
open Go.RowKit Go.Proofs.YtpafamabndpcmaaW.PrintWords Go.Proofs.YtpafamabndpcmaaW.PrintLast Go.Proofs.YtpafamabndpcmaaW.PrintMore
attribute [local go_sem] max2_int min2_int max_two min_two max_three min_three max_four min_four   -- for this text's walks alone
set_option linter.unusedVariables false
set_option linter.unusedSimpArgs false

/-! ### impl_kept: function 25 -/
mutual
def impl_kept.l0 : Nat → Int → Int → Int → Int → Int → List (List Int) → Int → Int → Option (Int)
  | 0, _, _, _, _, _, _, _, _ => none
  | k + 1, x0, x1, x2, x3, x4, x11, x21, x22 => if x22 < x21 then (if 0 ≤ (wrap64 (x3 + 1)) then (if (wrap64 (x3 + 1) : Int).toNat ≤ 35184372088832 then (if 0 ≤ x22 then (if x22 < (x11.length : Int) then (impl_kept.l0 k x0 x1 x2 x3 x4 (x11.set (x22 : Int).toNat (List.replicate (wrap64 (x3 + 1) : Int).toNat 0)) x21 (wrap64 (x22 + 1))) else (none)) else (none)) else (none)) else (none)) else (if 0 < (x11.length : Int) then (if 0 < ((rd_L3 x11 0).length : Int) then ((impl_cyclesOf.f k x0 x1 x4).bind fun t214 => (impl_kept.l1 k x2 x3 (x11.set (0 : Int).toNat ((rd_L3 x11 0).set (0 : Int).toNat 1)) t214 (t214.length : Int) 0)) else (none)) else (none))
def impl_kept.l1 : Nat → Int → Int → List (List Int) → List Int → Int → Int → Option (Int)
  | 0, _, _, _, _, _, _ => none
  | k + 1, x2, x3, x11, x39, x40, x41 => if x41 < x40 then (if 0 ≤ x41 then (if x41 < (x39.length : Int) then (impl_kept.l2 k x2 x3 x11 (rd x39 x41) x2 x39 x40 x41) else (none)) else (none)) else (if 0 ≤ x2 then (if x2 < (x11.length : Int) then (if 0 ≤ x3 then (if x3 < ((rd_L3 x11 x2).length : Int) then (some (rd (rd_L3 x11 x2) x3)) else (none)) else (none)) else (none)) else (none))
def impl_kept.l2 : Nat → Int → Int → List (List Int) → Int → Int → List Int → Int → Int → Option (Int)
  | 0, _, _, _, _, _, _, _, _ => none
  | k + 1, x2, x3, x11, x14, x15, x39, x40, x41 => if x15 ≥ 0 then (impl_kept.l3 k x2 x3 x11 x14 x15 x3 x39 x40 x41) else (impl_kept.l1 k x2 x3 x11 x39 x40 (wrap64 (x41 + 1)))
def impl_kept.l3 : Nat → Int → Int → List (List Int) → Int → Int → Int → List Int → Int → Int → Option (Int)
  | 0, _, _, _, _, _, _, _, _, _ => none
  | k + 1, x2, x3, x11, x14, x15, x16, x39, x40, x41 => if x16 ≥ 0 then (if x15 ≥ x14 then (if 0 ≤ x15 then (if x15 < (x11.length : Int) then (if 0 ≤ x16 then (if x16 < ((rd_L3 x11 x15).length : Int) then (if 0 ≤ (wrap64 (x15 - x14)) then (if (wrap64 (x15 - x14)) < (x11.length : Int) then (if x16 < ((rd_L3 x11 (wrap64 (x15 - x14))).length : Int) then ((some (x11.set (x15 : Int).toNat ((rd_L3 x11 x15).set (x16 : Int).toNat (wrap64 ((rd (rd_L3 x11 x15) x16) + (rd (rd_L3 x11 (wrap64 (x15 - x14))) x16)))) : List (List Int))).bind fun y226 => (if x16 ≥ x14 then (if x16 < ((rd_L3 y226 x15).length : Int) then (if 0 ≤ (wrap64 (x16 - x14)) then (if (wrap64 (x16 - x14)) < ((rd_L3 y226 x15).length : Int) then (impl_kept.l3 k x2 x3 (y226.set (x15 : Int).toNat ((rd_L3 y226 x15).set (x16 : Int).toNat (wrap64 ((rd (rd_L3 y226 x15) x16) + (rd (rd_L3 y226 x15) (wrap64 (x16 - x14))))))) x14 x15 (wrap64 (x16 - 1)) x39 x40 x41) else (none)) else (none)) else (none)) else (impl_kept.l3 k x2 x3 y226 x14 x15 (wrap64 (x16 - 1)) x39 x40 x41))) else (none)) else (none)) else (none)) else (none)) else (none)) else (none)) else (none)) else (if x16 ≥ x14 then (if 0 ≤ x15 then (if x15 < (x11.length : Int) then (if 0 ≤ x16 then (if x16 < ((rd_L3 x11 x15).length : Int) then (if 0 ≤ (wrap64 (x16 - x14)) then (if (wrap64 (x16 - x14)) < ((rd_L3 x11 x15).length : Int) then (impl_kept.l3 k x2 x3 (x11.set (x15 : Int).toNat ((rd_L3 x11 x15).set (x16 : Int).toNat (wrap64 ((rd (rd_L3 x11 x15) x16) + (rd (rd_L3 x11 x15) (wrap64 (x16 - x14))))))) x14 x15 (wrap64 (x16 - 1)) x39 x40 x41) else (none)) else (none)) else (none)) else (none)) else (none)) else (none)) else (impl_kept.l3 k x2 x3 x11 x14 x15 (wrap64 (x16 - 1)) x39 x40 x41))) else (impl_kept.l2 k x2 x3 x11 x14 (wrap64 (x15 - 1)) x39 x40 x41)
end
def impl_kept.f (k : Nat) (a0 : Int) (a1 : Int) (a2 : Int) (a3 : Int) (a4 : Int) : Option (Int) := if 0 ≤ (wrap64 (a2 + 1)) then (if (wrap64 (a2 + 1) : Int).toNat ≤ 11728124029610 then ((some (List.replicate (wrap64 (a2 + 1) : Int).toNat [] : List (List Int))).bind fun y203 => (impl_kept.l0 k a0 a1 a2 a3 a4 y203 (y203.length : Int) 0)) else (none)) else (none)
theorem impl_kept.mono_l : ∀ k, (∀ y0 y1 y2 y3 y4 y5 y6 y7, LeO (impl_kept.l0 k y0 y1 y2 y3 y4 y5 y6 y7) (impl_kept.l0 (k + 1) y0 y1 y2 y3 y4 y5 y6 y7)) ∧ (∀ y0 y1 y2 y3 y4 y5, LeO (impl_kept.l1 k y0 y1 y2 y3 y4 y5) (impl_kept.l1 (k + 1) y0 y1 y2 y3 y4 y5)) ∧ (∀ y0 y1 y2 y3 y4 y5 y6 y7, LeO (impl_kept.l2 k y0 y1 y2 y3 y4 y5 y6 y7) (impl_kept.l2 (k + 1) y0 y1 y2 y3 y4 y5 y6 y7)) ∧ (∀ y0 y1 y2 y3 y4 y5 y6 y7 y8, LeO (impl_kept.l3 k y0 y1 y2 y3 y4 y5 y6 y7 y8) (impl_kept.l3 (k + 1) y0 y1 y2 y3 y4 y5 y6 y7 y8))
  | 0 => ⟨fun _ _ _ _ _ _ _ _ r h => by simp [impl_kept.l0] at h, fun _ _ _ _ _ _ r h => by simp [impl_kept.l1] at h, fun _ _ _ _ _ _ _ _ r h => by simp [impl_kept.l2] at h, fun _ _ _ _ _ _ _ _ _ r h => by simp [impl_kept.l3] at h⟩
  | k + 1 => by
    obtain ⟨ih0, ih1, ih2, ih3⟩ := impl_kept.mono_l k
    refine ⟨?_, ?_, ?_, ?_⟩
    · intro y0 y1 y2 y3 y4 y5 y6 y7
      unfold impl_kept.l0
      repeat' first
      | (with_reducible exact ih0 _ _ _ _ _ _ _ _)
      | (with_reducible exact ih1 _ _ _ _ _ _)
      | (with_reducible exact ih2 _ _ _ _ _ _ _ _)
      | (with_reducible exact ih3 _ _ _ _ _ _ _ _ _)
      | (with_reducible exact impl_cyclesOf.mono _ _ _ _)
      | (with_reducible exact LeO.refl _)
      | (with_reducible exact LeO.none _)
      | (with_reducible refine LeO.ite ?_ ?_)
      | (with_reducible refine LeO.bind ?_ (fun _ => ?_))
      | exact ih0 _ _ _ _ _ _ _ _
      | exact ih1 _ _ _ _ _ _
      | exact ih2 _ _ _ _ _ _ _ _
      | exact ih3 _ _ _ _ _ _ _ _ _
      | exact impl_cyclesOf.mono _ _ _ _
      | exact LeO.none _
      | refine LeO.ite ?_ ?_
      | refine LeO.bind ?_ (fun _ => ?_)
    · intro y0 y1 y2 y3 y4 y5
      unfold impl_kept.l1
      repeat' first
      | (with_reducible exact ih0 _ _ _ _ _ _ _ _)
      | (with_reducible exact ih1 _ _ _ _ _ _)
      | (with_reducible exact ih2 _ _ _ _ _ _ _ _)
      | (with_reducible exact ih3 _ _ _ _ _ _ _ _ _)
      | (with_reducible exact impl_cyclesOf.mono _ _ _ _)
      | (with_reducible exact LeO.refl _)
      | (with_reducible exact LeO.none _)
      | (with_reducible refine LeO.ite ?_ ?_)
      | (with_reducible refine LeO.bind ?_ (fun _ => ?_))
      | exact ih0 _ _ _ _ _ _ _ _
      | exact ih1 _ _ _ _ _ _
      | exact ih2 _ _ _ _ _ _ _ _
      | exact ih3 _ _ _ _ _ _ _ _ _
      | exact impl_cyclesOf.mono _ _ _ _
      | exact LeO.none _
      | refine LeO.ite ?_ ?_
      | refine LeO.bind ?_ (fun _ => ?_)
    · intro y0 y1 y2 y3 y4 y5 y6 y7
      unfold impl_kept.l2
      repeat' first
      | (with_reducible exact ih0 _ _ _ _ _ _ _ _)
      | (with_reducible exact ih1 _ _ _ _ _ _)
      | (with_reducible exact ih2 _ _ _ _ _ _ _ _)
      | (with_reducible exact ih3 _ _ _ _ _ _ _ _ _)
      | (with_reducible exact impl_cyclesOf.mono _ _ _ _)
      | (with_reducible exact LeO.refl _)
      | (with_reducible exact LeO.none _)
      | (with_reducible refine LeO.ite ?_ ?_)
      | (with_reducible refine LeO.bind ?_ (fun _ => ?_))
      | exact ih0 _ _ _ _ _ _ _ _
      | exact ih1 _ _ _ _ _ _
      | exact ih2 _ _ _ _ _ _ _ _
      | exact ih3 _ _ _ _ _ _ _ _ _
      | exact impl_cyclesOf.mono _ _ _ _
      | exact LeO.none _
      | refine LeO.ite ?_ ?_
      | refine LeO.bind ?_ (fun _ => ?_)
    · intro y0 y1 y2 y3 y4 y5 y6 y7 y8
      unfold impl_kept.l3
      repeat' first
      | (with_reducible exact ih0 _ _ _ _ _ _ _ _)
      | (with_reducible exact ih1 _ _ _ _ _ _)
      | (with_reducible exact ih2 _ _ _ _ _ _ _ _)
      | (with_reducible exact ih3 _ _ _ _ _ _ _ _ _)
      | (with_reducible exact impl_cyclesOf.mono _ _ _ _)
      | (with_reducible exact LeO.refl _)
      | (with_reducible exact LeO.none _)
      | (with_reducible refine LeO.ite ?_ ?_)
      | (with_reducible refine LeO.bind ?_ (fun _ => ?_))
      | exact ih0 _ _ _ _ _ _ _ _
      | exact ih1 _ _ _ _ _ _
      | exact ih2 _ _ _ _ _ _ _ _
      | exact ih3 _ _ _ _ _ _ _ _ _
      | exact impl_cyclesOf.mono _ _ _ _
      | exact LeO.none _
      | refine LeO.ite ?_ ?_
      | refine LeO.bind ?_ (fun _ => ?_)
theorem impl_kept.mono : ∀ a0 a1 a2 a3 a4 k, LeO (impl_kept.f k a0 a1 a2 a3 a4) (impl_kept.f (k + 1) a0 a1 a2 a3 a4) := by
  intro a0 a1 a2 a3 a4 k
  obtain ⟨ih0, ih1, ih2, ih3⟩ := impl_kept.mono_l k
  unfold impl_kept.f
  repeat' first
      | (with_reducible exact ih0 _ _ _ _ _ _ _ _)
      | (with_reducible exact ih1 _ _ _ _ _ _)
      | (with_reducible exact ih2 _ _ _ _ _ _ _ _)
      | (with_reducible exact ih3 _ _ _ _ _ _ _ _ _)
      | (with_reducible exact impl_cyclesOf.mono _ _ _ _)
      | (with_reducible exact LeO.refl _)
      | (with_reducible exact LeO.none _)
      | (with_reducible refine LeO.ite ?_ ?_)
      | (with_reducible refine LeO.bind ?_ (fun _ => ?_))
      | exact ih0 _ _ _ _ _ _ _ _
      | exact ih1 _ _ _ _ _ _
      | exact ih2 _ _ _ _ _ _ _ _
      | exact ih3 _ _ _ _ _ _ _ _ _
      | exact impl_cyclesOf.mono _ _ _ _
      | exact LeO.none _
      | refine LeO.ite ?_ ?_
      | refine LeO.bind ?_ (fun _ => ?_)
def impl_kept.T18 : Bool × List (List Nat × List Nat) := (true, [([], []), ([], []), ([0, 1], [0, 1]), ([2], [2]), ([], []), ([3, 4], [3, 4]), ([5], [5]), ([], []), ([], []), ([], []), ([8, 9], [8, 9]), ([7, 10], [7, 10]), ([11], [11]), ([], []), ([12, 13], [12, 13]), ([14], [14]), ([6, 15], [6, 15]), ([3, 4, 0, 1, 2, 3, 4, 5, 6, 7, 8, 9, 10, 11, 12, 13, 14, 15, 16], [3, 4]), ([17, 16, 0, 1, 2, 3, 4, 5, 6, 7, 8, 9, 10, 11, 12, 13, 14, 15, 16], [16, 17])])
def impl_kept.B18 : List Nat := [0, 0, 3, 7, 0, 31, 63, 0, 0, 0, 768, 1920, 3968, 0, 16256, 32640, 65535, 131071, 262143]
theorem impl_kept.tab18 : rtab .any (opsOf Try.f25 18) = impl_kept.T18 := by kernel_rfl
theorem impl_kept.bits18 : waitsOk impl_kept.T18.2 impl_kept.B18 = true := by kernel_rfl
def impl_kept.T20 : Bool × List (List Nat × List Nat) := (true, [([], []), ([], []), ([0, 1], [0, 1]), ([2], [2]), ([], []), ([3, 4], [3, 4]), ([5], [5]), ([], []), ([], []), ([7, 8], [7, 8]), ([9], [9]), ([], []), ([], []), ([11, 12], [11, 12]), ([10, 13], [10, 13]), ([14], [14]), ([6, 15], [6, 15]), ([3, 4, 0, 1, 2, 3, 4, 5, 6, 7, 8, 9, 10, 11, 12, 13, 14, 15, 16], [3, 4]), ([17, 16, 0, 1, 2, 3, 4, 5, 6, 7, 8, 9, 10, 11, 12, 13, 14, 15, 16], [16, 17])])
def impl_kept.B20 : List Nat := [0, 0, 3, 7, 0, 31, 63, 0, 0, 384, 896, 0, 0, 6144, 16256, 32640, 65535, 131071, 262143]
theorem impl_kept.tab20 : rtab .any (opsOf Try.f25 20) = impl_kept.T20 := by kernel_rfl
theorem impl_kept.bits20 : waitsOk impl_kept.T20.2 impl_kept.B20 = true := by kernel_rfl
set_option maxHeartbeats 8000000 in
set_option maxRecDepth 100000 in
theorem impl_kept.calls (k : Nat) (a0 : Int) (a1 : Int) (a2 : Int) (a3 : Int) (a4 : Int) (r : Int) (w : World) (h : impl_kept.f k a0 a1 a2 a3 a4 = some r) :
    Calls Try.prog 25 #[.int .i64 a0, .int .i64 a1, .int .i64 a2, .int .i64 a3, .int .i64 a4] w fun e w' => e = .returned (.int .i64 r) ∧ Below w.heap.size w w' := by
  have HB := Aside0.mk (Below.refl w.heap.size w)
  have H : (if 0 ≤ (wrap64 (a2 + 1)) then (if (wrap64 (a2 + 1) : Int).toNat ≤ 11728124029610 then ((some (List.replicate (wrap64 (a2 + 1) : Int).toNat [] : List (List Int))).bind fun y203 => (impl_kept.l0 k a0 a1 a2 a3 a4 y203 (y203.length : Int) 0)) else (none)) else (none)) = some r := h
  clear h
  obtain ⟨ji6, hji6⟩ : ∃ j_ : Int, (wrap64 (a2 + 1)) = j_ := ⟨_, rfl⟩
  replace H : (if 0 ≤ (ji6) then (if (ji6 : Int).toNat ≤ 11728124029610 then ((some (List.replicate (ji6 : Int).toNat [] : List (List Int))).bind fun y203 => (impl_kept.l0 k a0 a1 a2 a3 a4 y203 (y203.length : Int) 0)) else (none)) else (none)) = some r := by first | (rw [hji6] at H; exact H) | (simp only [hji6] at H ⊢; exact H)
  have hji6w : (IntKind.i64.wrap (a2 + 1)) = ji6 := (i64_w _).trans hji6
  by_cases c7 : 0 ≤ (ji6)
  · rw [if_pos c7] at H
    have c7b0 := eq_true c7
    have c7b1 : decide (0 ≤ (ji6)) = true := decide_eq_true c7
    clear c7
    by_cases c8 : (ji6 : Int).toNat ≤ 11728124029610
    · rw [if_pos c8] at H
      have c8b0 := eq_true c8
      have c8b1 : decide ((ji6 : Int).toNat ≤ 11728124029610) = true := decide_eq_true c8
      clear c8
      obtain ⟨y203, hy203⟩ : ∃ y_ : List (List Int), y_ = (List.replicate (ji6 : Int).toNat []) := ⟨_, rfl⟩
      replace H : (impl_kept.l0 k a0 a1 a2 a3 a4 y203 (y203.length : Int) 0) = some r := by first | (rw [hy203]; with_reducible exact H) | (have H2_ := (Option.bind_some _ _).symm.trans H; rw [hy203]; with_reducible exact H2_) | (have H2_ := (Option.bind_some _ _).symm.trans H; with_reducible exact H2_) | with_reducible exact H | (rw [hy203]; exact H) | exact H
      have Ny203 := Aside0.mk hy203
      clear hy203
      have H' := Aside0.mk H
      clear H
      go_enter Try.func25, Try.ntmps25
      go_wp2_with (first | ((with_reducible refine gate_dst (N := 19) rfl ?_); refine Kd.S_make (Kd.slice 3 (Kd.int .i64)) _ 42 rfl (N := 19) rfl 56 _ _ rfl ji6 rfl rfl Try.underlying56 (.slice none 0 0) 24 info42 rfl (by decide) (by omega) [] (ok := fun _ => True) (okp := fun _ => True) ⟨_, rfl, Kd.R_nil _ _ _ _ _⟩ (fun _ hk => hk) trivial (of_decide_eq_true (by first | (with_reducible assumption) | assumption)) (Nat.le_trans (Nat.mul_le_mul_right _ (of_decide_eq_true (by first | (with_reducible assumption) | assumption) : ji6.toNat ≤ 11728124029610)) (by omega)) (Below.refl _ _) (Nat.le_refl _) ?_; intro v204 w9 ho10 hb hg_ hnew_; clear hg_ hnew_; (first | rw [← Ny203.out] at ho10 | (simp only [Int.reduceToNat] at ho10; rw [← Ny203.out] at ho10)); have n0_ := Aside0.mk (Kd.S_lower ho10 (below_size (by repeat (first | (with_reducible first | exact HB.out | apply below_alloc | apply pw_below_drewN | apply below_drew1) | exact HB.out)))); have n1_ := Aside0.mk (below_step (by repeat (first | (with_reducible first | exact HB.out | apply below_alloc | apply pw_below_drewN | apply below_drew1) | exact HB.out)) hb); clear HB; have HO205 := n0_; have HB := n1_; clear n0_ n1_; clear hb ho10; obtain ⟨Ao11, co11, eo11⟩ := Kd.S_slice HO205.out; subst eo11))
      (try simp only [hji6])
      go_loopg [22] k (fun kq v22 w' => ∃ (x11_1 : List (List Int)) (x22_1 : Int), v22 = .int .i64 x22_1 ∧ Aside0 (impl_kept.l0 kq a0 a1 a2 a3 a4 x11_1 (y203.length : Int) x22_1 = some r) ∧ Aside0 (kq ≤ k) ∧ Aside0 (Kd.S (Kd.slice 3 (Kd.int .i64)) 42 w' w.heap.size (fun _ => True) (.slice Ao11 y203.length co11) x11_1) ∧ Aside0 (Below w.heap.size w w'))
      case atStart => exact ⟨(y203), (0), (by first | rfl | (simp; done) | (simp [*]; done)), H', ⟨Nat.le_refl _⟩, ⟨by (with_reducible repeat (first | apply Kd.S_alloc | apply Kd.S_drewN | apply Kd.S_drew)); exact HO205.out⟩, ⟨by repeat (first | (with_reducible first | exact HB.out | apply below_alloc | apply pw_below_drewN | apply below_drew1) | exact HB.out)⟩⟩
      case round =>
        clear H'
        try clear c2
        try clear p2
        try clear p6
        try clear c7
        try clear c7b0
        try clear c7b1
        try clear c8
        try clear c8b0
        try clear c8b1
        obtain ⟨x11_1, x22_1, rfl, HA, HK1, HO_11, HB⟩ := hrel
        have hl11_1 := (Kd.S_reads' HO_11.out).1
        rw [hl11_1] at HO_11
        (try simp only [hl11_1])
        cases gk with
        | zero => exact absurd HA.out (by simp [impl_kept.l0])
        | succ k1 =>
          have H := HA.out
          clear HA
          simp only [impl_kept.l0] at H
          by_cases c12 : x22_1 < (y203.length : Int)
          · rw [if_pos c12] at H
            have c12b0 : decide (x22_1 < (y203.length : Int)) = true := decide_eq_true c12
            (try simp only [hl11_1] at c12b0)
            clear c12
            obtain ⟨ji13, hji13⟩ : ∃ j_ : Int, (wrap64 (a3 + 1)) = j_ := ⟨_, rfl⟩
            replace H : (if 0 ≤ (ji13) then (if (ji13 : Int).toNat ≤ 35184372088832 then (if 0 ≤ x22_1 then (if x22_1 < (x11_1.length : Int) then (impl_kept.l0 k1 a0 a1 a2 a3 a4 (x11_1.set (x22_1 : Int).toNat (List.replicate (ji13 : Int).toNat 0)) (y203.length : Int) (wrap64 (x22_1 + 1))) else (none)) else (none)) else (none)) else (none)) = some r := by first | (rw [hji13] at H; exact H) | (simp only [hji13] at H ⊢; exact H)
            have hji13w : (IntKind.i64.wrap (a3 + 1)) = ji13 := (i64_w _).trans hji13
            by_cases c14 : 0 ≤ (ji13)
            · rw [if_pos c14] at H
              have c14b0 := eq_true c14
              have c14b1 : decide (0 ≤ (ji13)) = true := decide_eq_true c14
              clear c14
              by_cases c15 : (ji13 : Int).toNat ≤ 35184372088832
              · rw [if_pos c15] at H
                have c15b0 := eq_true c15
                have c15b1 : decide ((ji13 : Int).toNat ≤ 35184372088832) = true := decide_eq_true c15
                clear c15
                obtain ⟨y206, hy206⟩ : ∃ y_ : List Int, y_ = (List.replicate (ji13 : Int).toNat 0) := ⟨_, rfl⟩
                replace H : (if 0 ≤ x22_1 then (if x22_1 < (x11_1.length : Int) then (impl_kept.l0 k1 a0 a1 a2 a3 a4 (x11_1.set (x22_1 : Int).toNat y206) (y203.length : Int) (wrap64 (x22_1 + 1))) else (none)) else (none)) = some r := by first | (rw [hy206]; with_reducible exact H) | (have H2_ := (Option.bind_some _ _).symm.trans H; rw [hy206]; with_reducible exact H2_) | (have H2_ := (Option.bind_some _ _).symm.trans H; with_reducible exact H2_) | with_reducible exact H | (rw [hy206]; exact H) | exact H
                have Ny206 := Aside0.mk hy206
                clear hy206
                by_cases c16 : 0 ≤ x22_1
                · rw [if_pos c16] at H
                  have c16b0 : decide (0 ≤ x22_1) = true := decide_eq_true c16
                  clear c16
                  by_cases c17 : x22_1 < (x11_1.length : Int)
                  · rw [if_pos c17] at H
                    have c17b0 : decide (x22_1 < (x11_1.length : Int)) = true := decide_eq_true c17
                    (try simp only [hl11_1] at c17b0)
                    clear c17
                    obtain ⟨y209, hy209⟩ : ∃ y_ : List (List Int), y_ = (x11_1.set (x22_1 : Int).toNat y206) := ⟨_, rfl⟩
                    replace H : (impl_kept.l0 k1 a0 a1 a2 a3 a4 y209 (y203.length : Int) (wrap64 (x22_1 + 1))) = some r := by first | (rw [hy209]; with_reducible exact H) | (have H2_ := (Option.bind_some _ _).symm.trans H; rw [hy209]; with_reducible exact H2_) | (have H2_ := (Option.bind_some _ _).symm.trans H; with_reducible exact H2_) | with_reducible exact H | (rw [hy209]; exact H) | exact H
                    have Ny209 := Aside0.mk hy209
                    clear hy209
                    have H' := Aside0.mk H
                    clear H
                    go_wp2_with (first | ((with_reducible refine gate_dst (N := 29) rfl ?_); refine Kd.R_make (Kd.int .i64) _ 3 rfl (N := 29) rfl 42 _ _ rfl ji13 rfl rfl Try.underlying42 (.int .i64 0) 8 info3 rfl (by decide) (by omega) 0 (ok := fun _ => True) (okp := fun _ => True) rfl (fun _ hk => hk) trivial (of_decide_eq_true (by first | (with_reducible assumption) | assumption)) (Nat.le_trans (Nat.mul_le_mul_right _ (of_decide_eq_true (by first | (with_reducible assumption) | assumption) : ji13.toNat ≤ 35184372088832)) (by omega)) (Below.refl _ _) (Nat.le_refl _) ?_; intro v207 w19 ho20 hb hg_ hnew_; clear hg_ hnew_; (first | rw [← Ny206.out] at ho20 | (simp only [Int.reduceToNat] at ho20; rw [← Ny206.out] at ho20)); have n0_ := Aside0.mk (Kd.S_elder' (by (with_reducible repeat (first | apply Kd.S_alloc | apply Kd.S_drewN | apply Kd.S_drew)); exact HO_11.out) (Kd.R_base ho20) hb); have n1_ := Aside0.mk (Kd.R_lower ho20 (below_size (by repeat (first | (with_reducible first | exact HB.out | apply below_alloc | apply pw_below_drewN | apply below_drew1) | exact HB.out)))); have n2_ := Aside0.mk (below_step (by repeat (first | (with_reducible first | exact HB.out | apply below_alloc | apply pw_below_drewN | apply below_drew1) | exact HB.out)) hb); clear HO_11; clear HB; have HO_11 := n0_; have HO208 := n1_; have HB := n2_; clear n0_ n1_ n2_; clear hb ho20; have p18 : 0 ≤ (x22_1 : Int) := of_decide_eq_true (by first | (with_reducible assumption) | assumption); have q18 : (x22_1 : Int) < ((x11_1.length : Int) : Int) := of_decide_eq_true (by first | (with_reducible assumption) | assumption); obtain ⟨go18, co18, eo18, gb18, gl18, cl18, HG18⟩ := Kd.S_form HO_11.out (by omega); (first | cases eo18 | (injection eo18 with ea_ en_ ec_; (first | subst ea_ | (injection ea_ with ea_; subst ea_)); subst ec_; clear en_)); have GB18 := Aside0.mk gb18; have GG18 := Aside0.mk HG18; clear gb18 gl18 HG18; obtain ⟨_, ce18, hcl18, hM18, hcc18, hfr18, _, _⟩ := Kd.S_elem HO_11.out [] (x22_1 : Int) p18 q18; obtain ⟨ve18_0, rfl, ge18_0⟩ := hM18; have hx18_0 := hcc18 0 _ rfl; have hf18_0 := hfr18 0; (try simp only [show ((Kd.slice 3 (Kd.int .i64))).sz = 1 from rfl, Nat.mul_one, Nat.add_zero] at hx18_0); (try simp only [show ((Kd.slice 3 (Kd.int .i64))).sz = 1 from rfl, Nat.mul_one, Nat.add_zero] at hf18_0); (try clear hcl18; try clear hcc18; try clear hfr18; try clear hM18); replace p18 := eq_true p18; replace q18 := eq_true q18; have n_ := Aside0.mk (Kd.S_mono (ok' := (fun k_ => some k_ ≠ (v207 : Value).ownBlock)) HO_11.out (fun k_ hk => hk.2)); clear HO_11; have HO_11 := n_; clear n_; have HX21 := Aside0.mk (show Kd.S (Kd.slice 3 (Kd.int .i64)) 42 w19 w.heap.size (fun k_ => ((fun _ => True)) k_ ∧ ¬ ((fun k_ => some k_ = (v207 : Value).ownBlock)) k_) (.slice (some ⟨go18, 0, none⟩) x11_1.length co11) x11_1 from (by (with_reducible repeat (first | apply Kd.S_alloc | apply Kd.S_drewN | apply Kd.S_drew)); exact Kd.S_mono HO_11.out (fun k_ hk => ⟨trivial, fun e_ => hk e_⟩))); obtain ⟨oki21, ce21, hcl21, hM21, hcc21, hfr21, hoki21, hH21⟩ := Kd.S_elem HX21.out [] (x22_1 : Int) (of_decide_eq_true (by first | (with_reducible assumption) | assumption)) (by have h_ : (x22_1 : Int) < ((x11_1.length : Int) : Int) := of_decide_eq_true (by first | (with_reducible assumption) | assumption); first | exact h_ | (have e_ := (Kd.S_reads' HO_11.out).1; omega) | simpa using h_); obtain ⟨ve21_0, rfl, ge21_0⟩ := hM21; have HP21 := Kd.S_seg hH21 (of_decide_eq_true (by first | (with_reducible assumption) | assumption)) (by have h_ : (x22_1 : Int) < ((x11_1.length : Int) : Int) := of_decide_eq_true (by first | (with_reducible assumption) | assumption); first | exact h_ | (have e_ := (Kd.S_reads' HO_11.out).1; omega) | simpa using h_) (seg := [v207]) (j := 0) (show 1 ≤ 1 from by decide) (x' := y206) (Kd.M_row (Kd.R_mono (Kd.R_tight rfl (Kd.R_mono (ok' := fun k_ => ((fun _ => True)) k_ ∧ k_ ≠ go18) (Kd.R_apart' (HO208.out) (Kd.S_typed HO_11.out) (by decide)) (fun k_ hk => ⟨trivial, fun e_ => (hk.2) (by rw [e_]; rfl)⟩))) (fun _ h_ => Or.inr (h_)))) (fun _ hk => hk) (fun k_ hk_ => ((Kd.R_mono (ok' := fun k_ => ((fun _ => True)) k_ ∧ k_ ≠ go18) (Kd.R_apart' (HO208.out) (Kd.S_typed HO_11.out) (by decide)) (fun k_ hk => ⟨trivial, fun e_ => (hk.2) (by rw [e_]; rfl)⟩))).1 k_ hk_.symm); have hx21_0 := hcc21 0 _ rfl; (try simp only [show ((Kd.slice 3 (Kd.int .i64))).sz = 1 from rfl, Nat.mul_one, Nat.add_zero] at hx21_0); have hf21_0 := hfr21 0; (try simp only [show ((Kd.slice 3 (Kd.int .i64))).sz = 1 from rfl, Nat.mul_one, Nat.add_zero] at hf21_0); (try clear hcl21; try clear hcc21; try clear hfr21; try clear hM21; try clear hoki21; try clear hH21); (try simp only [show ((Kd.slice 3 (Kd.int .i64))).sz = 1 from rfl, Nat.mul_one, Nat.add_zero] at HP21)) | ((with_reducible refine gate_store (t := 42) (p := 30) rfl ?_); refine store_event (t := 42) (p := 30) (v := ?vo_w22) (w1 := (w19.setCell ⟨go18, (x22_1 : Int).toNat, none⟩ (v207))) ?hg ?ho ?hn ?hr ?_; (case ho => rfl); (case hg => rfl); (case hn => rfl); (case hr => (try obtain ⟨_, _, rfl⟩ := Kd.R_slice HO208.out); first | (go_simp; done) | (go_simp; rfl)); intro w22 hw; have hg : w19.grownBy w22 (some go18) := (by rw [hw]; exact HP21.2); have hp_ : Kd.S (Kd.slice 3 (Kd.int .i64)) 42 w22 w.heap.size (fun _ => True) (.slice (some ⟨go18, 0, none⟩) x11_1.length co11) y209 := (by rw [hw, Ny209.out]; exact HP21.1); clear HP21; have n0_ := Aside0.mk (hp_); have n1_ := Aside0.mk ((by rw [hw]; exact below_set (HB.out) GB18.out : Below w.heap.size w w22)); clear HO_11; clear HB; clear HO208; have HO_11 := n0_; have HB := n1_; clear n0_ n1_; clear hg hw hp_))
                    (try simp only [← hl11_1])
                    go_roundg k1
                    case measure => have := HK1.out; omega
                    case rel => exact ⟨(y209), (wrap64 (x22_1 + 1)), (by first | rfl | (simp; done) | (simp [*]; done)), H', ⟨by have := HK1.out; omega⟩, ⟨by (try simp only [hl11_1]); (with_reducible repeat (first | apply Kd.S_alloc | apply Kd.S_drewN | apply Kd.S_drew)); exact HO_11.out⟩, ⟨by repeat (first | (with_reducible first | exact HB.out | apply below_alloc | apply pw_below_drewN | apply below_drew1) | exact HB.out)⟩⟩
                  · rw [if_neg c17] at H
                    exact absurd H (by simp)
                · rw [if_neg c16] at H
                  exact absurd H (by simp)
              · rw [if_neg c15] at H
                exact absurd H (by simp)
            · rw [if_neg c14] at H
              exact absurd H (by simp)
          · rw [if_neg c12] at H
            have c12b0 : decide (x22_1 < (y203.length : Int)) = false := decide_eq_false c12
            (try simp only [hl11_1] at c12b0)
            clear c12
            by_cases c23 : 0 < (x11_1.length : Int)
            · rw [if_pos c23] at H
              have c23b0 : decide (0 < (x11_1.length : Int)) = true := decide_eq_true c23
              (try simp only [hl11_1] at c23b0)
              have c23b1 : decide (0 < x11_1.length) = true := decide_eq_true (by omega)
              (try simp only [hl11_1] at c23b1)
              clear c23
              by_cases c24 : 0 < ((rd_L3 x11_1 0).length : Int)
              · rw [if_pos c24] at H
                have c24b0 : decide (0 < ((rd_L3 x11_1 0).length : Int)) = true := decide_eq_true c24
                (try simp only [hl11_1] at c24b0)
                have c24b1 : decide (0 < (rd_L3 x11_1 0).length) = true := decide_eq_true (by omega)
                (try simp only [hl11_1] at c24b1)
                clear c24
                obtain ⟨y211, hy211⟩ : ∃ y_ : List Int, y_ = ((rd_L3 x11_1 0).set (0 : Int).toNat 1) := ⟨_, rfl⟩
                replace H : ((impl_cyclesOf.f k1 a0 a1 a4).bind fun t214 => (impl_kept.l1 k1 a2 a3 (x11_1.set (0 : Int).toNat y211) t214 (t214.length : Int) 0)) = some r := by first | (rw [hy211]; with_reducible exact H) | (have H2_ := (Option.bind_some _ _).symm.trans H; rw [hy211]; with_reducible exact H2_) | (have H2_ := (Option.bind_some _ _).symm.trans H; with_reducible exact H2_) | with_reducible exact H | (rw [hy211]; exact H) | exact H
                have Ny211 := Aside0.mk hy211
                clear hy211
                obtain ⟨y213, hy213⟩ : ∃ y_ : List (List Int), y_ = (x11_1.set (0 : Int).toNat y211) := ⟨_, rfl⟩
                replace H : ((impl_cyclesOf.f k1 a0 a1 a4).bind fun t214 => (impl_kept.l1 k1 a2 a3 y213 t214 (t214.length : Int) 0)) = some r := by first | (rw [hy213]; with_reducible exact H) | (have H2_ := (Option.bind_some _ _).symm.trans H; rw [hy213]; with_reducible exact H2_) | (have H2_ := (Option.bind_some _ _).symm.trans H; with_reducible exact H2_) | with_reducible exact H | (rw [hy213]; exact H) | exact H
                have Ny213 := Aside0.mk hy213
                clear hy213
                replace H := Option.bind_eq_some_iff.mp H
                obtain ⟨t214, A260, H⟩ := H
                replace H : (impl_kept.l1 k1 a2 a3 y213 t214 (t214.length : Int) 0) = some r := H
                have A26 := Aside0.mk A260
                clear A260
                have H' := Aside0.mk H
                clear H
                have p210 : 0 ≤ (0 : Int) := (by omega)
                have q210 : 0 < (x11_1.length : Int) := of_decide_eq_true (by first | (with_reducible assumption) | assumption)
                obtain ⟨ad210, A210_0, c210_0, e210, hx210_0, hl210_0, hi210_0⟩ := at_L3 (Kd.S_reads' HO_11.out).2.2 0 p210 q210
                cases e210
                obtain ⟨ce210, hce210, hMe210, hcc210⟩ := Kd.S_get HO_11.out [] 0 p210 (by first | exact q210 | exact of_decide_eq_true (by first | (with_reducible assumption) | assumption) | (have e_ := (Kd.S_reads' HO_11.out).1; omega))
                obtain ⟨ve210_0, rfl, ge210_0⟩ := hMe210
                have hv210_0 := hcc210 0 _ rfl
                rw [Nat.add_zero, show ((Kd.slice 3 (Kd.int .i64))).sz = 1 from rfl, Nat.mul_one] at hv210_0
                replace hv210_0 := Option.some.inj (hv210_0.symm.trans hx210_0)
                rw [hv210_0] at ge210_0
                have HL210_0 := Aside0.mk (show Kd.R (Kd.int .i64) 3 _ _ _ _ (rd_L3 x11_1 0) from ge210_0)
                clear hv210_0 ge210_0
                have HX210_0 := Aside0.mk hx210_0
                clear hcc210 hce210
                have qi210 : (0 < x11_1.length) = True := eq_true (by omega)
                (try rw [show ((0 : Int)).toNat = 0 from rfl] at hx210_0)
                (try rw [Addr.add_zero'] at hx210_0)
                have HR210_0 := Aside0.mk hi210_0
                have HC210_0 := Aside0.mk hl210_0
                clear hi210_0 hl210_0
                replace p210 := eq_true p210
                replace q210 := eq_true q210
                have p25 : 0 ≤ (0 : Int) := (by omega)
                have q25 : (0 : Int) < (((rd_L3 x11_1 0).length : Int) : Int) := of_decide_eq_true (by first | (with_reducible assumption) | assumption)
                have qi25 : (0 < (rd_L3 x11_1 0).length) = True := eq_true (by omega)
                obtain ⟨go25, co25, eo25, gb25, gl25, cl25, HG25⟩ := Kd.R_form HL210_0.out (by omega)
                (first | cases eo25 | (injection eo25 with ea_ en_ ec_; (first | subst ea_ | (injection ea_ with ea_; subst ea_)); subst ec_; clear en_))
                have GB25 := Aside0.mk gb25
                have GG25 := Aside0.mk HG25
                clear gb25 gl25 HG25
                obtain ⟨hx25_0, hf25_0⟩ := Kd.R_celln 0 HL210_0.out (0 : Int) p25 q25
                (try rw [show ((0 : Int)).toNat = 0 from rfl] at hx25_0)
                (try simp only [Nat.reduceMul, Nat.zero_mul, Nat.zero_add, Nat.reduceAdd] at hx25_0)
                (try rw [show ((0 : Int)).toNat = 0 from rfl] at hf25_0)
                (try simp only [Nat.reduceMul, Nat.zero_mul, Nat.zero_add, Nat.reduceAdd] at hf25_0)
                replace p25 := eq_true p25
                replace q25 := eq_true q25
                have hq27 : (0 : Int) < (x11_1.length : Int) := (by have h_ : (0 : Int) < ((x11_1.length : Int) : Int) := of_decide_eq_true (by first | (with_reducible assumption) | assumption); first | exact h_ | (have e_ := (Kd.S_reads' HO_11.out).1; omega) | simpa only [List.length_set, List.length_set] using h_)
                obtain ⟨oki27, ce27, hcl27, hM27, hcc27, hok27, hbk27⟩ := Kd.S_borrow HO_11.out [] (0 : Int) (by omega) hq27
                obtain ⟨ve27_0, rfl, ge27_0⟩ := hM27
                have hv27 := hcc27 0 _ rfl
                rw [Nat.add_zero, show ((Kd.slice 3 (Kd.int .i64))).sz = 1 from rfl, Nat.mul_one] at hv27
                replace hv27 := Option.some.inj (hv27.symm.trans HX210_0.out)
                subst hv27
                clear hcc27 hcl27
                replace ge27_0 := (show Kd.R (Kd.int .i64) 3 _ _ _ _ (rd_L3 x11_1 0) from ge27_0)
                have HP27 := Kd.R_putg ge27_0 (0 : Int) 1
                go_wp2_with (first | ((with_reducible refine gate_store (t := 3) (p := 35) rfl ?_); refine store_event (t := 3) (p := 35) (v := ?vo_w28) (w1 := (wr.setCell ⟨go25, 0, none⟩ (.int .i64 1))) ?hg ?ho ?hn ?hr ?_; (case ho => rfl); (case hg => rfl); (case hn => rfl); (case hr => first | (go_simp; done) | (go_simp; rfl)); intro w28 hw; have hg : wr.grownBy w28 (some go25) := (by rw [hw]; exact HP27.2); have hz_ : Kd.R (Kd.int .i64) 3 w28 w.heap.size oki27 (.slice (some ⟨go25, 0, none⟩) (rd_L3 x11_1 0).length c210_0) y211 := (by rw [hw, Ny211.out]; exact HP27.1); have hp_ : Kd.S (Kd.slice 3 (Kd.int .i64)) 42 w28 w.heap.size (fun _ => True) (.slice (some ad210) x11_1.length co11) y213 := (by rw [Ny213.out]; exact hbk27 hg (fun k_ e_ => by injection e_ with e_; subst e_; exact ge27_0.1 _ rfl) (Kd.M_row hz_)); have hm_ := Kd.R_mono hz_ hok27; clear HP27 hbk27; have n0_ := Aside0.mk (hp_); have n1_ := Aside0.mk ((by rw [hw]; exact below_set (HB.out) GB25.out : Below w.heap.size w w28)); have n2_ := Aside0.mk (hm_); have n3_ := Aside0.mk ((Kd.R_reads' hm_).2.1); clear HO_11; clear HB; clear HL210_0; have HO_11 := n0_; have HB := n1_; have HL241 := n2_; have HC212 := n3_; clear n0_ n1_ n2_ n3_; clear hg hw hp_ hz_ hm_ hok27) | ((with_reducible refine gate_callee (f := 37) rfl ?_); refine goesL_ (some 39) rfl rfl Try.func37 (by kernel_rfl) rfl #[.int .i64 a0, .int .i64 a1, .int .i64 a4] rfl (by (try simp only [List.map_toArray, List.map_cons, List.map_nil]); first | done | rfl | (simp only [List.length_drop, List.length_take]; rfl)) ?_; (with_reducible refine (impl_cyclesOf.calls k1 a0 a1 a4 t214 _ A26.out).mono ?_); rintro e w29 ⟨v215, rfl, ho0, hb⟩; refine ⟨_, rfl, ?_⟩; have n0_ := Aside0.mk (Kd.S_elder' (by (with_reducible repeat (first | apply Kd.S_alloc | apply Kd.S_drewN | apply Kd.S_drew)); exact HO_11.out) (Kd.R_base ho0) hb); have n1_ := Aside0.mk (Kd.R_elder' (by (with_reducible repeat (first | apply Kd.R_alloc | apply Kd.R_drewN | apply Kd.R_drew)); exact HL241.out) (Kd.R_base ho0) hb); have n2_ := Aside0.mk (Kd.R_lower (Kd.R_new' ho0 (Kd.R_lt (by (with_reducible repeat (first | apply Kd.R_alloc | apply Kd.R_drewN | apply Kd.R_drew)); exact HL241.out))) (below_size (by repeat (first | (with_reducible first | exact HB.out | apply below_alloc | apply pw_below_drewN | apply below_drew1) | exact HB.out)))); have n3_ := Aside0.mk (below_step (by repeat (first | (with_reducible first | exact HB.out | apply below_alloc | apply pw_below_drewN | apply below_drew1) | exact HB.out)) hb); clear HO_11; clear HL241; clear HB; have HO_11 := n0_; have HL241 := n1_; have HO216 := n2_; have HB := n3_; clear n0_ n1_ n2_ n3_; (try clear hb); (try clear hb2); (try clear hk); (try clear hi); (try clear ho0); obtain ⟨Ao30, co30, eo30⟩ := Kd.R_slice HO216.out; subst eo30))
                (try simp only [hji6])
                go_loopg [41] k1 (fun kq v41 w' => ∃ (x11_2 : List (List Int)) (x39_2 : List Int) (x41_2 : Int), v41 = .int .i64 x41_2 ∧ Aside0 (impl_kept.l1 kq a2 a3 x11_2 x39_2 (t214.length : Int) x41_2 = some r) ∧ Aside0 (kq ≤ k1) ∧ Aside0 (Kd.S (Kd.slice 3 (Kd.int .i64)) 42 w' w.heap.size (fun k_ => some k_ ≠ ((.slice Ao30 t214.length co30) : Value).ownBlock) (.slice (some ad210) x11_1.length co11) x11_2) ∧ Aside0 (Kd.R (Kd.int .i64) 3 w' w.heap.size (fun _ => True) (.slice Ao30 t214.length co30) x39_2) ∧ Aside0 (Below w.heap.size w w'))
                case atStart => exact ⟨(y213), (t214), (0), (by first | rfl | (simp; done) | (simp [*]; done)), H', ⟨Nat.le_refl _⟩, ⟨by (try simp only [hl11_1]); (with_reducible repeat (first | apply Kd.S_alloc | apply Kd.S_drewN | apply Kd.S_drew)); exact Kd.S_mono HO_11.out (fun _ hk => hk.2)⟩, ⟨by (try simp only [hl11_1]); (with_reducible repeat (first | apply Kd.R_alloc | apply Kd.R_drewN | apply Kd.R_drew)); exact Kd.R_mono HO216.out (fun _ hk => trivial)⟩, ⟨by repeat (first | (with_reducible first | exact HB.out | apply below_alloc | apply pw_below_drewN | apply below_drew1) | exact HB.out)⟩⟩
                case round =>
                  clear H'
                  try clear c1
                  try clear p1
                  try clear q1
                  try clear hx1
                  try clear c2
                  try clear p2
                  try clear q2
                  try clear hx2
                  try clear qi2
                  try clear c3
                  try clear p6
                  try clear c7
                  try clear c7b0
                  try clear c7b1
                  try clear c8
                  try clear c8b0
                  try clear c8b1
                  try clear c12
                  try clear c12b0
                  try clear c14
                  try clear c14b0
                  try clear c14b1
                  try clear c15
                  try clear c15b0
                  try clear c15b1
                  try clear c16
                  try clear c16b0
                  try clear c17
                  try clear c17b0
                  try clear c18
                  try clear p18
                  try clear q18
                  try clear hx18
                  try clear hf18
                  try clear c21
                  try clear p21
                  try clear q21
                  try clear hx21
                  try clear qi21
                  try clear hf21
                  try clear c23
                  try clear c23b0
                  try clear c23b1
                  try clear c24
                  try clear c24b0
                  try clear c24b1
                  try clear c25
                  try clear p25
                  try clear q25
                  try clear hx25
                  try clear qi25
                  try clear hf25
                  try clear c27
                  try clear q27
                  try clear hx18_0
                  try clear hx210_0
                  try clear hx21_0
                  try clear hx25_0
                  try clear p18
                  try clear p2
                  try clear p210
                  try clear p25
                  try clear p6
                  try clear q18
                  try clear q210
                  try clear q25
                  obtain ⟨x11_2, x39_2, x41_2, rfl, HA, HK2, HO_11, HO_39, HB⟩ := hrel
                  have hl11_2 := (Kd.S_reads' HO_11.out).1
                  rw [hl11_2] at HO_11
                  (try simp only [hl11_2])
                  (try simp only [hl11_2] at HO_39)
                  have hl39_2 := (Kd.R_reads' HO_39.out).1
                  rw [hl39_2] at HO_39
                  (try simp only [hl39_2])
                  (try simp only [hl39_2] at HO_11)
                  cases gk with
                  | zero => exact absurd HA.out (by simp [impl_kept.l1])
                  | succ k2 =>
                    have H := HA.out
                    clear HA
                    simp only [impl_kept.l1] at H
                    by_cases c31 : x41_2 < (t214.length : Int)
                    · rw [if_pos c31] at H
                      have c31b0 : decide (x41_2 < (t214.length : Int)) = true := decide_eq_true c31
                      (try simp only [hl11_1] at c31b0)
                      (try simp only [hl11_2] at c31b0)
                      (try simp only [hl39_2] at c31b0)
                      clear c31
                      by_cases c32 : 0 ≤ x41_2
                      · rw [if_pos c32] at H
                        have c32b0 : decide (0 ≤ x41_2) = true := decide_eq_true c32
                        clear c32
                        by_cases c33 : x41_2 < (x39_2.length : Int)
                        · rw [if_pos c33] at H
                          have c33b0 : decide (x41_2 < (x39_2.length : Int)) = true := decide_eq_true c33
                          (try simp only [hl11_1] at c33b0)
                          (try simp only [hl11_2] at c33b0)
                          (try simp only [hl39_2] at c33b0)
                          clear c33
                          have H' := Aside0.mk H
                          clear H
                          have p219 : 0 ≤ (x41_2 : Int) := of_decide_eq_true (by first | (with_reducible assumption) | assumption)
                          have q219 : x41_2 < (x39_2.length : Int) := of_decide_eq_true (by first | (with_reducible assumption) | assumption)
                          obtain ⟨ad219, e219, hx219_0⟩ := Kd.at_int (Kd.R_reads' HO_39.out).2.2 x41_2 p219 q219
                          cases e219
                          replace p219 := eq_true p219
                          replace q219 := eq_true q219
                          go_wp2
                          (try simp only [hji6])
                          go_loopg [15] k2 (fun kq v15 w' => ∃ (x11_3 : List (List Int)) (x15_3 : Int) (x39_3 : List Int), v15 = .int .i64 x15_3 ∧ Aside0 (impl_kept.l2 kq a2 a3 x11_3 (rd x39_2 x41_2) x15_3 x39_3 (t214.length : Int) x41_2 = some r) ∧ Aside0 (kq ≤ k2) ∧ Aside0 (Kd.S (Kd.slice 3 (Kd.int .i64)) 42 w' w.heap.size (fun k_ => some k_ ≠ ((.slice (some ad219) x39_2.length co30) : Value).ownBlock) (.slice (some ad210) x11_2.length co11) x11_3) ∧ Aside0 (Kd.R (Kd.int .i64) 3 w' w.heap.size (fun _ => True) (.slice (some ad219) x39_2.length co30) x39_3) ∧ Aside0 (Below w.heap.size w w'))
                          case atStart => exact ⟨(x11_2), (a2), (x39_2), (by first | rfl | (simp; done) | (simp [*]; done)), H', ⟨Nat.le_refl _⟩, ⟨by (try simp only [hl11_1]); (try simp only [hl11_2]); (try simp only [hl39_2]); (with_reducible repeat (first | apply Kd.S_alloc | apply Kd.S_drewN | apply Kd.S_drew)); exact HO_11.out⟩, ⟨by (try simp only [hl11_1]); (try simp only [hl11_2]); (try simp only [hl39_2]); (with_reducible repeat (first | apply Kd.R_alloc | apply Kd.R_drewN | apply Kd.R_drew)); exact HO_39.out⟩, ⟨by repeat (first | (with_reducible first | exact HB.out | apply below_alloc | apply pw_below_drewN | apply below_drew1) | exact HB.out)⟩⟩
                          case round =>
                            clear H'
                            try clear c1
                            try clear p1
                            try clear q1
                            try clear hx1
                            try clear c2
                            try clear p2
                            try clear q2
                            try clear hx2
                            try clear qi2
                            try clear c3
                            try clear p6
                            try clear c7
                            try clear c7b0
                            try clear c7b1
                            try clear c8
                            try clear c8b0
                            try clear c8b1
                            try clear c12
                            try clear c12b0
                            try clear c14
                            try clear c14b0
                            try clear c14b1
                            try clear c15
                            try clear c15b0
                            try clear c15b1
                            try clear c16
                            try clear c16b0
                            try clear c17
                            try clear c17b0
                            try clear c18
                            try clear p18
                            try clear q18
                            try clear hx18
                            try clear hf18
                            try clear c21
                            try clear p21
                            try clear q21
                            try clear hx21
                            try clear qi21
                            try clear hf21
                            try clear c23
                            try clear c23b0
                            try clear c23b1
                            try clear c24
                            try clear c24b0
                            try clear c24b1
                            try clear c25
                            try clear p25
                            try clear q25
                            try clear hx25
                            try clear qi25
                            try clear hf25
                            try clear c27
                            try clear q27
                            try clear c31
                            try clear c31b0
                            try clear c32
                            try clear c32b0
                            try clear c33
                            try clear c33b0
                            try clear hx18_0
                            try clear hx210_0
                            try clear hx219_0
                            try clear hx21_0
                            try clear hx25_0
                            try clear p1
                            try clear p18
                            try clear p2
                            try clear p21
                            try clear p210
                            try clear p219
                            try clear p25
                            try clear p6
                            try clear q1
                            try clear q18
                            try clear q2
                            try clear q21
                            try clear q210
                            try clear q219
                            try clear q25
                            try clear q27
                            obtain ⟨x11_3, x15_3, x39_3, rfl, HA, HK3, HO_11, HO_39, HB⟩ := hrel
                            have hl11_3 := (Kd.S_reads' HO_11.out).1
                            rw [hl11_3] at HO_11
                            (try simp only [hl11_3])
                            (try simp only [hl11_3] at HO_39)
                            have hl39_3 := (Kd.R_reads' HO_39.out).1
                            rw [hl39_3] at HO_39
                            (try simp only [hl39_3])
                            (try simp only [hl39_3] at HO_11)
                            cases gk with
                            | zero => exact absurd HA.out (by simp [impl_kept.l2])
                            | succ k3 =>
                              have H := HA.out
                              clear HA
                              simp only [impl_kept.l2] at H
                              by_cases c34 : x15_3 ≥ 0
                              · rw [if_pos c34] at H
                                have c34b0 : decide (0 ≤ x15_3) = true := decide_eq_true c34
                                clear c34
                                have H' := Aside0.mk H
                                clear H
                                go_wp2
                                (try simp only [hji6])
                                go_loopg [16] k3 (fun kq v16 w' => ∃ (x11_4 : List (List Int)) (x16_4 : Int) (x39_4 : List Int), v16 = .int .i64 x16_4 ∧ Aside0 (impl_kept.l3 kq a2 a3 x11_4 (rd x39_2 x41_2) x15_3 x16_4 x39_4 (t214.length : Int) x41_2 = some r) ∧ Aside0 (kq ≤ k3) ∧ Aside0 (Kd.S (Kd.slice 3 (Kd.int .i64)) 42 w' w.heap.size (fun k_ => some k_ ≠ ((.slice (some ad219) x39_3.length co30) : Value).ownBlock) (.slice (some ad210) x11_3.length co11) x11_4) ∧ Aside0 (Kd.R (Kd.int .i64) 3 w' w.heap.size (fun _ => True) (.slice (some ad219) x39_3.length co30) x39_4) ∧ Aside0 (Below w.heap.size w w'))
                                case atStart => exact ⟨(x11_3), (a3), (x39_3), (by first | rfl | (simp; done) | (simp [*]; done)), H', ⟨Nat.le_refl _⟩, ⟨by (try simp only [hl11_1]); (try simp only [hl11_2]); (try simp only [hl39_2]); (try simp only [hl11_3]); (try simp only [hl39_3]); (with_reducible repeat (first | apply Kd.S_alloc | apply Kd.S_drewN | apply Kd.S_drew)); exact HO_11.out⟩, ⟨by (try simp only [hl11_1]); (try simp only [hl11_2]); (try simp only [hl39_2]); (try simp only [hl11_3]); (try simp only [hl39_3]); (with_reducible repeat (first | apply Kd.R_alloc | apply Kd.R_drewN | apply Kd.R_drew)); exact HO_39.out⟩, ⟨by repeat (first | (with_reducible first | exact HB.out | apply below_alloc | apply pw_below_drewN | apply below_drew1) | exact HB.out)⟩⟩
                                case round =>
                                  clear H'
                                  try clear c1
                                  try clear p1
                                  try clear q1
                                  try clear hx1
                                  try clear c2
                                  try clear p2
                                  try clear q2
                                  try clear hx2
                                  try clear qi2
                                  try clear c3
                                  try clear p6
                                  try clear c7
                                  try clear c7b0
                                  try clear c7b1
                                  try clear c8
                                  try clear c8b0
                                  try clear c8b1
                                  try clear c12
                                  try clear c12b0
                                  try clear c14
                                  try clear c14b0
                                  try clear c14b1
                                  try clear c15
                                  try clear c15b0
                                  try clear c15b1
                                  try clear c16
                                  try clear c16b0
                                  try clear c17
                                  try clear c17b0
                                  try clear c18
                                  try clear p18
                                  try clear q18
                                  try clear hx18
                                  try clear hf18
                                  try clear c21
                                  try clear p21
                                  try clear q21
                                  try clear hx21
                                  try clear qi21
                                  try clear hf21
                                  try clear c23
                                  try clear c23b0
                                  try clear c23b1
                                  try clear c24
                                  try clear c24b0
                                  try clear c24b1
                                  try clear c25
                                  try clear p25
                                  try clear q25
                                  try clear hx25
                                  try clear qi25
                                  try clear hf25
                                  try clear c27
                                  try clear q27
                                  try clear c31
                                  try clear c31b0
                                  try clear c32
                                  try clear c32b0
                                  try clear c33
                                  try clear c33b0
                                  try clear c34
                                  try clear c34b0
                                  try clear hx18_0
                                  try clear hx210_0
                                  try clear hx219_0
                                  try clear hx21_0
                                  try clear hx25_0
                                  try clear p1
                                  try clear p18
                                  try clear p2
                                  try clear p21
                                  try clear p210
                                  try clear p219
                                  try clear p25
                                  try clear p6
                                  try clear q1
                                  try clear q18
                                  try clear q2
                                  try clear q21
                                  try clear q210
                                  try clear q219
                                  try clear q25
                                  try clear q27
                                  obtain ⟨x11_4, x16_4, x39_4, rfl, HA, HK4, HO_11, HO_39, HB⟩ := hrel
                                  have hl11_4 := (Kd.S_reads' HO_11.out).1
                                  rw [hl11_4] at HO_11
                                  (try simp only [hl11_4])
                                  (try simp only [hl11_4] at HO_39)
                                  have hl39_4 := (Kd.R_reads' HO_39.out).1
                                  rw [hl39_4] at HO_39
                                  (try simp only [hl39_4])
                                  (try simp only [hl39_4] at HO_11)
                                  cases gk with
                                  | zero => exact absurd HA.out (by simp [impl_kept.l3])
                                  | succ k4 =>
                                    have H := HA.out
                                    clear HA
                                    simp only [impl_kept.l3] at H
                                    by_cases c35 : x16_4 ≥ 0
                                    · rw [if_pos c35] at H
                                      have c35b0 : decide (0 ≤ x16_4) = true := decide_eq_true c35
                                      clear c35
                                      by_cases c36 : x15_3 ≥ (rd x39_2 x41_2)
                                      · rw [if_pos c36] at H
                                        have c36b0 : decide ((rd x39_2 x41_2) ≤ x15_3) = true := decide_eq_true c36
                                        clear c36
                                        by_cases c37 : 0 ≤ x15_3
                                        · rw [if_pos c37] at H
                                          have c37b0 : decide (0 ≤ x15_3) = true := decide_eq_true c37
                                          clear c37
                                          by_cases c38 : x15_3 < (x11_4.length : Int)
                                          · rw [if_pos c38] at H
                                            have c38b0 : decide (x15_3 < (x11_4.length : Int)) = true := decide_eq_true c38
                                            (try simp only [hl11_1] at c38b0)
                                            (try simp only [hl11_2] at c38b0)
                                            (try simp only [hl39_2] at c38b0)
                                            (try simp only [hl11_3] at c38b0)
                                            (try simp only [hl39_3] at c38b0)
                                            (try simp only [hl11_4] at c38b0)
                                            (try simp only [hl39_4] at c38b0)
                                            clear c38
                                            by_cases c39 : 0 ≤ x16_4
                                            · rw [if_pos c39] at H
                                              have c39b0 : decide (0 ≤ x16_4) = true := decide_eq_true c39
                                              clear c39
                                              by_cases c40 : x16_4 < ((rd_L3 x11_4 x15_3).length : Int)
                                              · rw [if_pos c40] at H
                                                have c40b0 : decide (x16_4 < ((rd_L3 x11_4 x15_3).length : Int)) = true := decide_eq_true c40
                                                (try simp only [hl11_1] at c40b0)
                                                (try simp only [hl11_2] at c40b0)
                                                (try simp only [hl39_2] at c40b0)
                                                (try simp only [hl11_3] at c40b0)
                                                (try simp only [hl39_3] at c40b0)
                                                (try simp only [hl11_4] at c40b0)
                                                (try simp only [hl39_4] at c40b0)
                                                clear c40
                                                obtain ⟨ji41, hji41⟩ : ∃ j_ : Int, (wrap64 (x15_3 - (rd x39_2 x41_2))) = j_ := ⟨_, rfl⟩
                                                replace H : (if 0 ≤ (ji41) then (if (ji41) < (x11_4.length : Int) then (if x16_4 < ((rd_L3 x11_4 (ji41)).length : Int) then ((some (x11_4.set (x15_3 : Int).toNat ((rd_L3 x11_4 x15_3).set (x16_4 : Int).toNat (wrap64 ((rd (rd_L3 x11_4 x15_3) x16_4) + (rd (rd_L3 x11_4 (ji41)) x16_4)))) : List (List Int))).bind fun y226 => (if x16_4 ≥ (rd x39_2 x41_2) then (if x16_4 < ((rd_L3 y226 x15_3).length : Int) then (if 0 ≤ (wrap64 (x16_4 - (rd x39_2 x41_2))) then (if (wrap64 (x16_4 - (rd x39_2 x41_2))) < ((rd_L3 y226 x15_3).length : Int) then (impl_kept.l3 k4 a2 a3 (y226.set (x15_3 : Int).toNat ((rd_L3 y226 x15_3).set (x16_4 : Int).toNat (wrap64 ((rd (rd_L3 y226 x15_3) x16_4) + (rd (rd_L3 y226 x15_3) (wrap64 (x16_4 - (rd x39_2 x41_2)))))))) (rd x39_2 x41_2) x15_3 (wrap64 (x16_4 - 1)) x39_4 (t214.length : Int) x41_2) else (none)) else (none)) else (none)) else (impl_kept.l3 k4 a2 a3 y226 (rd x39_2 x41_2) x15_3 (wrap64 (x16_4 - 1)) x39_4 (t214.length : Int) x41_2))) else (none)) else (none)) else (none)) = some r := by first | (rw [hji41] at H; exact H) | (simp only [hji41] at H ⊢; exact H)
                                                have hji41w : (IntKind.i64.wrap (x15_3 - (rd x39_2 x41_2))) = ji41 := (i64_w _).trans hji41
                                                by_cases c42 : 0 ≤ (ji41)
                                                · rw [if_pos c42] at H
                                                  have c42b0 : decide (0 ≤ (ji41)) = true := decide_eq_true c42
                                                  clear c42
                                                  by_cases c43 : (ji41) < (x11_4.length : Int)
                                                  · rw [if_pos c43] at H
                                                    have c43b0 : decide ((ji41) < (x11_4.length : Int)) = true := decide_eq_true c43
                                                    (try simp only [hl11_1] at c43b0)
                                                    (try simp only [hl11_2] at c43b0)
                                                    (try simp only [hl39_2] at c43b0)
                                                    (try simp only [hl11_3] at c43b0)
                                                    (try simp only [hl39_3] at c43b0)
                                                    (try simp only [hl11_4] at c43b0)
                                                    (try simp only [hl39_4] at c43b0)
                                                    clear c43
                                                    by_cases c44 : x16_4 < ((rd_L3 x11_4 (ji41)).length : Int)
                                                    · rw [if_pos c44] at H
                                                      have c44b0 : decide (x16_4 < ((rd_L3 x11_4 (ji41)).length : Int)) = true := decide_eq_true c44
                                                      (try simp only [hl11_1] at c44b0)
                                                      (try simp only [hl11_2] at c44b0)
                                                      (try simp only [hl39_2] at c44b0)
                                                      (try simp only [hl11_3] at c44b0)
                                                      (try simp only [hl39_3] at c44b0)
                                                      (try simp only [hl11_4] at c44b0)
                                                      (try simp only [hl39_4] at c44b0)
                                                      clear c44
                                                      obtain ⟨y224, hy224⟩ : ∃ y_ : List Int, y_ = ((rd_L3 x11_4 x15_3).set (x16_4 : Int).toNat (wrap64 ((rd (rd_L3 x11_4 x15_3) x16_4) + (rd (rd_L3 x11_4 (ji41)) x16_4)))) := ⟨_, rfl⟩
                                                      replace H : ((some (x11_4.set (x15_3 : Int).toNat y224 : List (List Int))).bind fun y226 => (if x16_4 ≥ (rd x39_2 x41_2) then (if x16_4 < ((rd_L3 y226 x15_3).length : Int) then (if 0 ≤ (wrap64 (x16_4 - (rd x39_2 x41_2))) then (if (wrap64 (x16_4 - (rd x39_2 x41_2))) < ((rd_L3 y226 x15_3).length : Int) then (impl_kept.l3 k4 a2 a3 (y226.set (x15_3 : Int).toNat ((rd_L3 y226 x15_3).set (x16_4 : Int).toNat (wrap64 ((rd (rd_L3 y226 x15_3) x16_4) + (rd (rd_L3 y226 x15_3) (wrap64 (x16_4 - (rd x39_2 x41_2)))))))) (rd x39_2 x41_2) x15_3 (wrap64 (x16_4 - 1)) x39_4 (t214.length : Int) x41_2) else (none)) else (none)) else (none)) else (impl_kept.l3 k4 a2 a3 y226 (rd x39_2 x41_2) x15_3 (wrap64 (x16_4 - 1)) x39_4 (t214.length : Int) x41_2))) = some r := by first | (rw [hy224]; with_reducible exact H) | (have H2_ := (Option.bind_some _ _).symm.trans H; rw [hy224]; with_reducible exact H2_) | (have H2_ := (Option.bind_some _ _).symm.trans H; with_reducible exact H2_) | with_reducible exact H | (rw [hy224]; exact H) | exact H
                                                      have Ny224 := Aside0.mk hy224
                                                      clear hy224
                                                      obtain ⟨y226, hy226⟩ : ∃ y_ : List (List Int), y_ = (x11_4.set (x15_3 : Int).toNat y224) := ⟨_, rfl⟩
                                                      replace H : (if x16_4 ≥ (rd x39_2 x41_2) then (if x16_4 < ((rd_L3 y226 x15_3).length : Int) then (if 0 ≤ (wrap64 (x16_4 - (rd x39_2 x41_2))) then (if (wrap64 (x16_4 - (rd x39_2 x41_2))) < ((rd_L3 y226 x15_3).length : Int) then (impl_kept.l3 k4 a2 a3 (y226.set (x15_3 : Int).toNat ((rd_L3 y226 x15_3).set (x16_4 : Int).toNat (wrap64 ((rd (rd_L3 y226 x15_3) x16_4) + (rd (rd_L3 y226 x15_3) (wrap64 (x16_4 - (rd x39_2 x41_2)))))))) (rd x39_2 x41_2) x15_3 (wrap64 (x16_4 - 1)) x39_4 (t214.length : Int) x41_2) else (none)) else (none)) else (none)) else (impl_kept.l3 k4 a2 a3 y226 (rd x39_2 x41_2) x15_3 (wrap64 (x16_4 - 1)) x39_4 (t214.length : Int) x41_2)) = some r := by first | (rw [hy226]; with_reducible exact H) | (have H2_ := (Option.bind_some _ _).symm.trans H; rw [hy226]; with_reducible exact H2_) | (have H2_ := (Option.bind_some _ _).symm.trans H; with_reducible exact H2_) | with_reducible exact H | (rw [hy226]; exact H) | exact H
                                                      have Ny226 := Aside0.mk hy226
                                                      clear hy226
                                                      by_cases c46 : x16_4 ≥ (rd x39_2 x41_2)
                                                      · rw [if_pos c46] at H
                                                        have c46b0 : decide ((rd x39_2 x41_2) ≤ x16_4) = true := decide_eq_true c46
                                                        clear c46
                                                        by_cases c47 : x16_4 < ((rd_L3 y226 x15_3).length : Int)
                                                        · rw [if_pos c47] at H
                                                          have c47b0 : decide (x16_4 < ((rd_L3 y226 x15_3).length : Int)) = true := decide_eq_true c47
                                                          (try simp only [hl11_1] at c47b0)
                                                          (try simp only [hl11_2] at c47b0)
                                                          (try simp only [hl39_2] at c47b0)
                                                          (try simp only [hl11_3] at c47b0)
                                                          (try simp only [hl39_3] at c47b0)
                                                          (try simp only [hl11_4] at c47b0)
                                                          (try simp only [hl39_4] at c47b0)
                                                          clear c47
                                                          obtain ⟨ji48, hji48⟩ : ∃ j_ : Int, (wrap64 (x16_4 - (rd x39_2 x41_2))) = j_ := ⟨_, rfl⟩
                                                          replace H : (if 0 ≤ (ji48) then (if (ji48) < ((rd_L3 y226 x15_3).length : Int) then (impl_kept.l3 k4 a2 a3 (y226.set (x15_3 : Int).toNat ((rd_L3 y226 x15_3).set (x16_4 : Int).toNat (wrap64 ((rd (rd_L3 y226 x15_3) x16_4) + (rd (rd_L3 y226 x15_3) (ji48)))))) (rd x39_2 x41_2) x15_3 (wrap64 (x16_4 - 1)) x39_4 (t214.length : Int) x41_2) else (none)) else (none)) = some r := by first | (rw [hji48] at H; exact H) | (simp only [hji48] at H ⊢; exact H)
                                                          have hji48w : (IntKind.i64.wrap (x16_4 - (rd x39_2 x41_2))) = ji48 := (i64_w _).trans hji48
                                                          by_cases c49 : 0 ≤ (ji48)
                                                          · rw [if_pos c49] at H
                                                            have c49b0 : decide (0 ≤ (ji48)) = true := decide_eq_true c49
                                                            clear c49
                                                            by_cases c50 : (ji48) < ((rd_L3 y226 x15_3).length : Int)
                                                            · rw [if_pos c50] at H
                                                              have c50b0 : decide ((ji48) < ((rd_L3 y226 x15_3).length : Int)) = true := decide_eq_true c50
                                                              (try simp only [hl11_1] at c50b0)
                                                              (try simp only [hl11_2] at c50b0)
                                                              (try simp only [hl39_2] at c50b0)
                                                              (try simp only [hl11_3] at c50b0)
                                                              (try simp only [hl39_3] at c50b0)
                                                              (try simp only [hl11_4] at c50b0)
                                                              (try simp only [hl39_4] at c50b0)
                                                              clear c50
                                                              obtain ⟨y231, hy231⟩ : ∃ y_ : List Int, y_ = ((rd_L3 y226 x15_3).set (x16_4 : Int).toNat (wrap64 ((rd (rd_L3 y226 x15_3) x16_4) + (rd (rd_L3 y226 x15_3) (ji48))))) := ⟨_, rfl⟩
                                                              replace H : (impl_kept.l3 k4 a2 a3 (y226.set (x15_3 : Int).toNat y231) (rd x39_2 x41_2) x15_3 (wrap64 (x16_4 - 1)) x39_4 (t214.length : Int) x41_2) = some r := by first | (rw [hy231]; with_reducible exact H) | (have H2_ := (Option.bind_some _ _).symm.trans H; rw [hy231]; with_reducible exact H2_) | (have H2_ := (Option.bind_some _ _).symm.trans H; with_reducible exact H2_) | with_reducible exact H | (rw [hy231]; exact H) | exact H
                                                              have Ny231 := Aside0.mk hy231
                                                              clear hy231
                                                              obtain ⟨y233, hy233⟩ : ∃ y_ : List (List Int), y_ = (y226.set (x15_3 : Int).toNat y231) := ⟨_, rfl⟩
                                                              replace H : (impl_kept.l3 k4 a2 a3 y233 (rd x39_2 x41_2) x15_3 (wrap64 (x16_4 - 1)) x39_4 (t214.length : Int) x41_2) = some r := by first | (rw [hy233]; with_reducible exact H) | (have H2_ := (Option.bind_some _ _).symm.trans H; rw [hy233]; with_reducible exact H2_) | (have H2_ := (Option.bind_some _ _).symm.trans H; with_reducible exact H2_) | with_reducible exact H | (rw [hy233]; exact H) | exact H
                                                              have Ny233 := Aside0.mk hy233
                                                              clear hy233
                                                              have H' := Aside0.mk H
                                                              clear H
                                                              try go_wp2
                                                              have n0_ := Aside0.mk (Kd.S_drew HO_11.out)
                                                              have n1_ := Aside0.mk (Kd.R_drew HO_39.out)
                                                              have n2_ := Aside0.mk (below_drew1 HB.out)
                                                              clear HO_11
                                                              clear HO_39
                                                              clear HB
                                                              have HO_11 := n0_
                                                              have HO_39 := n1_
                                                              have HB := n2_
                                                              clear n0_ n1_ n2_
                                                              have p220 : 0 ≤ (x15_3 : Int) := of_decide_eq_true (by first | (with_reducible assumption) | assumption)
                                                              have q220 : x15_3 < (x11_4.length : Int) := of_decide_eq_true (by first | (with_reducible assumption) | assumption)
                                                              obtain ⟨ad220, A220_0, c220_0, e220, hx220_0, hl220_0, hi220_0⟩ := at_L3 (Kd.S_reads' HO_11.out).2.2 x15_3 p220 q220
                                                              obtain rfl : ad210 = ad220 := (by injection e220)
                                                              obtain ⟨ce220, hce220, hMe220, hcc220⟩ := Kd.S_get HO_11.out [] x15_3 p220 (by first | exact q220 | exact of_decide_eq_true (by first | (with_reducible assumption) | assumption) | (have e_ := (Kd.S_reads' HO_11.out).1; omega))
                                                              obtain ⟨ve220_0, rfl, ge220_0⟩ := hMe220
                                                              have hv220_0 := hcc220 0 _ rfl
                                                              rw [Nat.add_zero, show ((Kd.slice 3 (Kd.int .i64))).sz = 1 from rfl, Nat.mul_one] at hv220_0
                                                              replace hv220_0 := Option.some.inj (hv220_0.symm.trans hx220_0)
                                                              rw [hv220_0] at ge220_0
                                                              have HL220_0 := Aside0.mk (show Kd.R (Kd.int .i64) 3 _ _ _ _ (rd_L3 x11_4 x15_3) from ge220_0)
                                                              clear hv220_0 ge220_0
                                                              have HX220_0 := Aside0.mk hx220_0
                                                              clear hcc220 hce220
                                                              have HR220_0 := Aside0.mk hi220_0
                                                              have HC220_0 := Aside0.mk hl220_0
                                                              clear hi220_0 hl220_0
                                                              replace p220 := eq_true p220
                                                              replace q220 := eq_true q220
                                                              have p221 : 0 ≤ (x16_4 : Int) := of_decide_eq_true (by first | (with_reducible assumption) | assumption)
                                                              have q221 : x16_4 < ((rd_L3 x11_4 x15_3).length : Int) := of_decide_eq_true (by first | (with_reducible assumption) | assumption)
                                                              obtain ⟨ad221, e221, hx221_0⟩ := Kd.at_int (by repeat (first | (with_reducible exact HR220_0.out) | (with_reducible refine Kd.C_alloc ?_ _) | (with_reducible refine Kd.C_drewN ?_ _) | (with_reducible refine Kd.C_drew ?_) | exact HR220_0.out)) x16_4 p221 q221
                                                              cases e221
                                                              replace p221 := eq_true p221
                                                              replace q221 := eq_true q221
                                                              have p222 : 0 ≤ ((ji41) : Int) := of_decide_eq_true (by first | (with_reducible assumption) | assumption)
                                                              have q222 : (ji41) < (x11_4.length : Int) := of_decide_eq_true (by first | (with_reducible assumption) | assumption)
                                                              obtain ⟨ad222, A222_0, c222_0, e222, hx222_0, hl222_0, hi222_0⟩ := at_L3 (Kd.S_reads' HO_11.out).2.2 (ji41) p222 q222
                                                              obtain rfl : ad210 = ad222 := (by injection e222)
                                                              obtain ⟨ce222, hce222, hMe222, hcc222⟩ := Kd.S_get HO_11.out [] (ji41) p222 (by first | exact q222 | exact of_decide_eq_true (by first | (with_reducible assumption) | assumption) | (have e_ := (Kd.S_reads' HO_11.out).1; omega))
                                                              obtain ⟨ve222_0, rfl, ge222_0⟩ := hMe222
                                                              have hv222_0 := hcc222 0 _ rfl
                                                              rw [Nat.add_zero, show ((Kd.slice 3 (Kd.int .i64))).sz = 1 from rfl, Nat.mul_one] at hv222_0
                                                              replace hv222_0 := Option.some.inj (hv222_0.symm.trans hx222_0)
                                                              rw [hv222_0] at ge222_0
                                                              have HL222_0 := Aside0.mk (show Kd.R (Kd.int .i64) 3 _ _ _ _ (rd_L3 x11_4 (ji41)) from ge222_0)
                                                              clear hv222_0 ge222_0
                                                              have HX222_0 := Aside0.mk hx222_0
                                                              clear hcc222 hce222
                                                              have HR222_0 := Aside0.mk hi222_0
                                                              have HC222_0 := Aside0.mk hl222_0
                                                              clear hi222_0 hl222_0
                                                              replace p222 := eq_true p222
                                                              replace q222 := eq_true q222
                                                              have p223 : 0 ≤ (x16_4 : Int) := of_decide_eq_true (by first | (with_reducible assumption) | assumption)
                                                              have q223 : x16_4 < ((rd_L3 x11_4 (ji41)).length : Int) := of_decide_eq_true (by first | (with_reducible assumption) | assumption)
                                                              obtain ⟨ad223, e223, hx223_0⟩ := Kd.at_int (by repeat (first | (with_reducible exact HR222_0.out) | (with_reducible refine Kd.C_alloc ?_ _) | (with_reducible refine Kd.C_drewN ?_ _) | (with_reducible refine Kd.C_drew ?_) | exact HR222_0.out)) x16_4 p223 q223
                                                              cases e223
                                                              replace p223 := eq_true p223
                                                              replace q223 := eq_true q223
                                                              have p45 : 0 ≤ (x16_4 : Int) := of_decide_eq_true (by first | (with_reducible assumption) | assumption)
                                                              have q45 : (x16_4 : Int) < (((rd_L3 x11_4 x15_3).length : Int) : Int) := of_decide_eq_true (by first | (with_reducible assumption) | assumption)
                                                              obtain ⟨go45, co45, eo45, gb45, gl45, cl45, HG45⟩ := Kd.R_form HL220_0.out (by omega)
                                                              (first | cases eo45 | (injection eo45 with ea_ en_ ec_; (first | subst ea_ | (injection ea_ with ea_; subst ea_)); subst ec_; clear en_))
                                                              have GB45 := Aside0.mk gb45
                                                              have GG45 := Aside0.mk HG45
                                                              clear gb45 gl45 HG45
                                                              (first | simp only [add_plain] at hx221_0 | skip)
                                                              obtain ⟨hx45_0, hf45_0⟩ := Kd.R_celln 0 HL220_0.out (x16_4 : Int) p45 q45
                                                              replace p45 := eq_true p45
                                                              replace q45 := eq_true q45
                                                              have hq53 : (x15_3 : Int) < (x11_4.length : Int) := (by have h_ : (x15_3 : Int) < ((x11_4.length : Int) : Int) := of_decide_eq_true (by first | (with_reducible assumption) | assumption); first | exact h_ | (have e_ := (Kd.S_reads' HO_11.out).1; omega) | simpa only [List.length_set, List.length_set] using h_)
                                                              obtain ⟨oki53, ce53, hcl53, hM53, hcc53, hok53, hbk53⟩ := Kd.S_borrow HO_11.out [] (x15_3 : Int) (of_decide_eq_true (by first | (with_reducible assumption) | assumption)) (by first | exact hq53 | exact of_decide_eq_true (by first | (with_reducible assumption) | assumption))
                                                              obtain ⟨ve53_0, rfl, ge53_0⟩ := hM53
                                                              have hv53 := hcc53 0 _ rfl
                                                              rw [Nat.add_zero, show ((Kd.slice 3 (Kd.int .i64))).sz = 1 from rfl, Nat.mul_one] at hv53
                                                              replace hv53 := Option.some.inj (hv53.symm.trans HX220_0.out)
                                                              subst hv53
                                                              clear hcc53 hcl53
                                                              replace ge53_0 := (show Kd.R (Kd.int .i64) 3 _ _ _ _ (rd_L3 x11_4 x15_3) from ge53_0)
                                                              have HP53 := Kd.R_putg ge53_0 (x16_4 : Int) (wrap64 ((rd (rd_L3 x11_4 x15_3) x16_4) + (rd (rd_L3 x11_4 (ji41)) x16_4)))
                                                              rw [← Ny224.out] at HP53
                                                              have HS53 := hbk53 HP53.2 (fun k_ e_ => by injection e_ with e_; subst e_; exact ge53_0.1 _ rfl) (x' := y224) (Kd.M_row HP53.1)
                                                              rw [← Ny226.out] at HS53
                                                              have HQ53 := Aside0.mk HS53
                                                              clear HP53 HS53 hbk53 hok53
                                                              (try simp only [add_plain] at hx220_0)
                                                              (try simp only [add_plain] at hx221_0)
                                                              (try simp only [add_plain] at hx222_0)
                                                              (try simp only [add_plain] at hx223_0)
                                                              refine start_ (n := 19) (S := fun w' => w'.cell? (ad210.add (x15_3).toNat) = some (.slice (some ⟨go45, 0, none⟩) (rd_L3 x11_4 x15_3).length c220_0) ∧ w'.cell? ⟨go45, (x16_4).toNat, none⟩ = some (.int .i64 (rd (rd_L3 x11_4 x15_3) x16_4)) ∧ w'.cell? (ad210.add ((ji41)).toNat) = some (.slice (some ad223) (rd_L3 x11_4 (ji41)).length c222_0) ∧ w'.cell? (ad223.add (x16_4).toNat) = some (.int .i64 (rd (rd_L3 x11_4 (ji41)) x16_4))) (ds := [18]) #[false, false, false, false, false, false, false, false, false, false, false, false, false, false, false, false, false, false, false] (by kernel_rfl) rfl rfl ⟨hx220_0, hx221_0, hx222_0, hx223_0⟩ (fun hHeld => ?_); refine with_tabW impl_kept.tab18 impl_kept.bits18 (fun HT_ HW_ => ?_)
                                                              generalize wr.drew = w52 at HO_11 HO_39 HB GG45 HL220_0 HL222_0 HQ53 HR220_0 HR222_0 HX220_0 HX222_0 hf45_0 hx220_0 hx221_0 hx222_0 hx223_0 hx45_0 hHeld ⊢
                                                              refine pure_ (i := 0) (N := some 58) (v := ?_) (a' := ?_) #[true, false, false, false, false, false, false, false, false, false, false, false, false, false, false, false, false, false, false] rfl rfl (any_of HT_.out (by kernel_rfl)) (fun _ _ _ h => h) (Or.inl ⟨by rfl, ?_⟩) ?_ ?_
                                                              rotate_left
                                                              · intro w'
                                                                go_simp
                                                                with_reducible rfl
                                                              rotate_left
                                                              · simp only [Act.put, List.setIfInBounds_toArray, List.set_cons_zero, List.set_cons_succ, i64_w, i32_w]
                                                                rfl
                                                              refine pure_ (i := 1) (N := some 59) (v := ?_) (a' := ?_) #[true, true, false, false, false, false, false, false, false, false, false, false, false, false, false, false, false, false, false] rfl rfl (any_of HT_.out (by kernel_rfl)) (fun _ _ _ h => h) (Or.inl ⟨by rfl, ?_⟩) ?_ ?_
                                                              rotate_left
                                                              · intro w'
                                                                go_simp
                                                                with_reducible rfl
                                                              rotate_left
                                                              · simp only [Act.put, List.setIfInBounds_toArray, List.set_cons_zero, List.set_cons_succ, i64_w, i32_w]
                                                                rfl
                                                              refine pure_ (i := 2) (N := some 60) (v := ?_) (a' := ?_) #[true, true, true, false, false, false, false, false, false, false, false, false, false, false, false, false, false, false, false] rfl rfl (any_of HT_.out (by kernel_rfl)) (fun _ _ _ h => h) (Or.inl ⟨by rfl, ?_⟩) ?_ ?_
                                                              rotate_left
                                                              · intro w'
                                                                go_simp
                                                                with_reducible rfl
                                                              rotate_left
                                                              · simp only [Act.put, List.setIfInBounds_toArray, List.set_cons_zero, List.set_cons_succ, i64_w, i32_w]
                                                                rfl
                                                              refine pure_ (i := 4) (N := some 62) (v := ?_) (a' := ?_) #[true, true, true, false, true, false, false, false, false, false, false, false, false, false, false, false, false, false, false] rfl rfl (any_of HT_.out (by kernel_rfl)) (fun _ _ _ h => h) (Or.inl ⟨by rfl, ?_⟩) ?_ ?_
                                                              rotate_left
                                                              · intro w'
                                                                go_simp
                                                                with_reducible rfl
                                                              rotate_left
                                                              · simp only [Act.put, List.setIfInBounds_toArray, List.set_cons_zero, List.set_cons_succ, i64_w, i32_w]
                                                                rfl
                                                              refine pure_ (i := 7) (N := some 65) (v := ?_) (a' := ?_) #[true, true, true, false, true, false, false, true, false, false, false, false, false, false, false, false, false, false, false] rfl rfl (any_of HT_.out (by kernel_rfl)) (fun _ _ _ h => h) (Or.inl ⟨by rfl, ?_⟩) ?_ ?_
                                                              rotate_left
                                                              · intro w'
                                                                go_simp
                                                                with_reducible rfl
                                                              rotate_left
                                                              · simp only [Act.put, List.setIfInBounds_toArray, List.set_cons_zero, List.set_cons_succ, i64_w, i32_w]
                                                                rfl
                                                              refine pure_ (i := 8) (N := some 66) (v := ?_) (a' := ?_) #[true, true, true, false, true, false, false, true, true, false, false, false, false, false, false, false, false, false, false] rfl rfl (any_of HT_.out (by kernel_rfl)) (fun _ _ _ h => h) (Or.inl ⟨by rfl, ?_⟩) ?_ ?_
                                                              rotate_left
                                                              · intro w'
                                                                go_simp
                                                                with_reducible rfl
                                                              rotate_left
                                                              · simp only [Act.put, List.setIfInBounds_toArray, List.set_cons_zero, List.set_cons_succ, i64_w, i32_w]
                                                                rfl
                                                              refine pure_ (i := 9) (N := some 67) (v := ?_) (a' := ?_) #[true, true, true, false, true, false, false, true, true, true, false, false, false, false, false, false, false, false, false] rfl rfl (any_of HT_.out (by kernel_rfl)) (fun _ _ _ h => h) (Or.inl ⟨by rfl, ?_⟩) ?_ ?_
                                                              rotate_left
                                                              · intro w'
                                                                go_simp
                                                                with_reducible rfl
                                                              rotate_left
                                                              · simp only [Act.put, List.setIfInBounds_toArray, List.set_cons_zero, List.set_cons_succ, i64_w, i32_w]
                                                                rfl
                                                              refine pure_ (i := 10) (N := some 68) (v := ?_) (a' := ?_) #[true, true, true, false, true, false, false, true, true, true, true, false, false, false, false, false, false, false, false] rfl rfl (any_of HT_.out (by kernel_rfl)) (fun _ _ _ h => h) (Or.inl ⟨by rfl, ?_⟩) ?_ ?_
                                                              rotate_left
                                                              · intro w'
                                                                go_simp
                                                                with_reducible rfl
                                                              rotate_left
                                                              · simp only [Act.put, List.setIfInBounds_toArray, List.set_cons_zero, List.set_cons_succ, i64_w, i32_w]
                                                                rfl
                                                              refine pure_ (i := 11) (N := some 69) (v := ?_) (a' := ?_) #[true, true, true, false, true, false, false, true, true, true, true, true, false, false, false, false, false, false, false] rfl rfl (any_of HT_.out (by kernel_rfl)) (fun _ _ _ h => h) (Or.inl ⟨by rfl, ?_⟩) ?_ ?_
                                                              rotate_left
                                                              · intro w'
                                                                go_simp
                                                                with_reducible rfl
                                                              rotate_left
                                                              · simp only [Act.put, List.setIfInBounds_toArray, List.set_cons_zero, List.set_cons_succ, i64_w, i32_w]
                                                                rfl
                                                              refine pure_ (i := 13) (N := some 71) (v := ?_) (a' := ?_) #[true, true, true, false, true, false, false, true, true, true, true, true, false, true, false, false, false, false, false] rfl rfl (any_of HT_.out (by kernel_rfl)) (fun _ _ _ h => h) (Or.inl ⟨by rfl, ?_⟩) ?_ ?_
                                                              rotate_left
                                                              · intro w'
                                                                go_simp
                                                                with_reducible rfl
                                                              rotate_left
                                                              · simp only [Act.put, List.setIfInBounds_toArray, List.set_cons_zero, List.set_cons_succ, i64_w, i32_w]
                                                                rfl
                                                              refine take_ (i := 3) (N := some 61) (v := ?_) (a' := ?_) #[true, true, true, true, true, false, false, true, true, true, true, true, false, true, false, false, false, false, false] rfl rfl (take_ofW HT_.out HW_.out (by kernel_rfl)) (fun _ _ _ h => h) (Or.inl ⟨by rfl, ?_⟩) hHeld ?_ ?_
                                                              rotate_left
                                                              · rintro w' ⟨s0, s1, s2, s3⟩
                                                                go_simp
                                                                with_reducible rfl
                                                              rotate_left
                                                              · simp only [Act.put, List.setIfInBounds_toArray, List.set_cons_zero, List.set_cons_succ, i64_w, i32_w]
                                                                rfl
                                                              refine pure_ (i := 5) (N := some 63) (v := ?_) (a' := ?_) #[true, true, true, true, true, true, false, true, true, true, true, true, false, true, false, false, false, false, false] rfl rfl (any_of HT_.out (by kernel_rfl)) (fun _ _ _ h => h) (Or.inl ⟨by rfl, ?_⟩) ?_ ?_
                                                              rotate_left
                                                              · intro w'
                                                                go_simp
                                                                with_reducible rfl
                                                              rotate_left
                                                              · simp only [Act.put, List.setIfInBounds_toArray, List.set_cons_zero, List.set_cons_succ, i64_w, i32_w]
                                                                rfl
                                                              refine take_ (i := 6) (N := some 64) (v := ?_) (a' := ?_) #[true, true, true, true, true, true, true, true, true, true, true, true, false, true, false, false, false, false, false] rfl rfl (take_ofW HT_.out HW_.out (by kernel_rfl)) (fun _ _ _ h => h) (Or.inl ⟨by rfl, ?_⟩) hHeld ?_ ?_
                                                              rotate_left
                                                              · rintro w' ⟨s0, s1, s2, s3⟩
                                                                go_simp
                                                                with_reducible rfl
                                                              rotate_left
                                                              · simp only [Act.put, List.setIfInBounds_toArray, List.set_cons_zero, List.set_cons_succ, i64_w, i32_w]
                                                                rfl
                                                              refine take_ (i := 12) (N := some 70) (v := ?_) (a' := ?_) #[true, true, true, true, true, true, true, true, true, true, true, true, true, true, false, false, false, false, false] rfl rfl (take_ofW HT_.out HW_.out (by kernel_rfl)) (fun _ _ _ h => h) (Or.inl ⟨by rfl, ?_⟩) hHeld ?_ ?_
                                                              rotate_left
                                                              · rintro w' ⟨s0, s1, s2, s3⟩
                                                                go_simp
                                                                with_reducible rfl
                                                              rotate_left
                                                              · simp only [Act.put, List.setIfInBounds_toArray, List.set_cons_zero, List.set_cons_succ, i64_w, i32_w]
                                                                rfl
                                                              refine pure_ (i := 14) (N := some 72) (v := ?_) (a' := ?_) #[true, true, true, true, true, true, true, true, true, true, true, true, true, true, true, false, false, false, false] rfl rfl (any_of HT_.out (by kernel_rfl)) (fun _ _ _ h => h) (Or.inl ⟨by rfl, ?_⟩) ?_ ?_
                                                              rotate_left
                                                              · intro w'
                                                                go_simp
                                                                with_reducible rfl
                                                              rotate_left
                                                              · simp only [Act.put, List.setIfInBounds_toArray, List.set_cons_zero, List.set_cons_succ, i64_w, i32_w]
                                                                rfl
                                                              refine take_ (i := 15) (N := some 73) (v := ?_) (a' := ?_) #[true, true, true, true, true, true, true, true, true, true, true, true, true, true, true, true, false, false, false] rfl rfl (take_ofW HT_.out HW_.out (by kernel_rfl)) (fun _ _ _ h => h) (Or.inl ⟨by rfl, ?_⟩) hHeld ?_ ?_
                                                              rotate_left
                                                              · rintro w' ⟨s0, s1, s2, s3⟩
                                                                go_simp
                                                                with_reducible rfl
                                                              rotate_left
                                                              · simp only [Act.put, List.setIfInBounds_toArray, List.set_cons_zero, List.set_cons_succ, i64_w, i32_w]
                                                                rfl
                                                              refine pure_ (i := 16) (N := some 74) (v := ?_) (a' := ?_) #[true, true, true, true, true, true, true, true, true, true, true, true, true, true, true, true, true, false, false] rfl rfl (any_of HT_.out (by kernel_rfl)) (fun _ _ _ h => h) (Or.inl ⟨by rfl, ?_⟩) ?_ ?_
                                                              rotate_left
                                                              · intro w'
                                                                go_simp
                                                                with_reducible rfl
                                                              rotate_left
                                                              · simp only [Act.put, List.setIfInBounds_toArray, List.set_cons_zero, List.set_cons_succ, i64_w, i32_w]
                                                                rfl
                                                              refine pure_ (i := 17) (N := some 75) (v := ?_) (a' := ?_) #[true, true, true, true, true, true, true, true, true, true, true, true, true, true, true, true, true, true, false] rfl rfl (any_of HT_.out (by kernel_rfl)) (fun _ _ _ h => h) (Or.inl ⟨by rfl, ?_⟩) ?_ ?_
                                                              rotate_left
                                                              · intro w'
                                                                go_simp
                                                                with_reducible rfl
                                                              rotate_left
                                                              · simp only [Act.put, List.setIfInBounds_toArray, List.set_cons_zero, List.set_cons_succ, i64_w, i32_w]
                                                                rfl
                                                              refine last_ (i := 18) (N := none) #[true, true, true, true, true, true, true, true, true, true, true, true, true, true, true, true, true, true, true] rfl rfl (one_of HT_.out (by kernel_rfl)) (by decide) (fun K hK => ?_)
                                                              refine skip_ (w1 := ?_) (by rfl) rfl ?_ ?_
                                                              rotate_left
                                                              · go_simp
                                                                rfl
                                                              refine hK.out _ _ ?_
                                                              clear hK K
                                                              refine done_ (done_of HT_.out (by kernel_rfl)) ?_
                                                              try go_wp2
                                                              have n0_ : Aside0 (Kd.S (Kd.slice 3 (Kd.int .i64)) 42 (w52.setCell ⟨go45, (x16_4 : Int).toNat, none⟩ (.int .i64 (wrap64 ((rd (rd_L3 x11_4 x15_3) x16_4) + (rd (rd_L3 x11_4 (ji41)) x16_4))))) w.heap.size (fun k_ => some k_ ≠ (.slice (some ad219) x39_4.length co30 : Value).ownBlock) (.slice (some ad210) x11_4.length co11) y226) := ⟨by (with_reducible repeat (first | apply Kd.S_alloc | apply Kd.S_drewN | apply Kd.S_drew)); exact HQ53.out⟩
                                                              have n1_ : Aside0 (Kd.R (Kd.int .i64) 3 (w52.setCell ⟨go45, (x16_4 : Int).toNat, none⟩ (.int .i64 (wrap64 ((rd (rd_L3 x11_4 x15_3) x16_4) + (rd (rd_L3 x11_4 (ji41)) x16_4))))) w.heap.size (fun _ => True) (.slice (some ad219) x39_4.length co30) x39_4) := ⟨by (with_reducible repeat (first | apply Kd.R_alloc | apply Kd.R_drewN | apply Kd.R_drew)); exact Kd.R_mono (Kd.R_far (p := ⟨go45, (x16_4 : Int).toNat, none⟩) (Kd.R_far1 HO_39.out rfl ((HL220_0.out.1 _ rfl).1)) (fun _ hk => hk.2) (.int .i64 (wrap64 ((rd (rd_L3 x11_4 x15_3) x16_4) + (rd (rd_L3 x11_4 (ji41)) x16_4))))) (fun _ hk => trivial)⟩
                                                              have n2_ : Aside0 (Below w.heap.size w (w52.setCell ⟨go45, (x16_4 : Int).toNat, none⟩ (.int .i64 (wrap64 ((rd (rd_L3 x11_4 x15_3) x16_4) + (rd (rd_L3 x11_4 (ji41)) x16_4)))))) := ⟨by repeat (first | (with_reducible first | exact HB.out | apply below_alloc | apply pw_below_drewN | apply below_drew1 | refine below_set ?_ GB45.out) | exact HB.out)⟩
                                                              (try clear HO_11)
                                                              (try clear HO_39)
                                                              (try clear HB)
                                                              generalize (w52.setCell ⟨go45, (x16_4 : Int).toNat, none⟩ (.int .i64 (wrap64 ((rd (rd_L3 x11_4 x15_3) x16_4) + (rd (rd_L3 x11_4 (ji41)) x16_4))))) = w55 at n0_ n1_ n2_ ⊢
                                                              have HO_11 := n0_
                                                              have HO_39 := n1_
                                                              have HB := n2_
                                                              clear n0_ n1_ n2_
                                                              have n0_ := Aside0.mk (Kd.S_drew HO_11.out)
                                                              have n1_ := Aside0.mk (Kd.R_drew HO_39.out)
                                                              have n2_ := Aside0.mk (below_drew1 HB.out)
                                                              clear HO_11
                                                              clear HO_39
                                                              clear HB
                                                              have HO_11 := n0_
                                                              have HO_39 := n1_
                                                              have HB := n2_
                                                              clear n0_ n1_ n2_
                                                              have p227 : 0 ≤ (x15_3 : Int) := of_decide_eq_true (by first | (with_reducible assumption) | assumption)
                                                              have q227 : x15_3 < (y226.length : Int) := (by have h_ : (x15_3 : Int) < ((x11_4.length : Int) : Int) := of_decide_eq_true (by first | (with_reducible assumption) | assumption); first | (have e_ := (Kd.S_reads' HO_11.out).1; omega) | simpa only [Ny226.out, List.length_set] using h_)
                                                              have ql227 : ((x15_3 : Int) < ((x11_4.length : Int) : Int)) = True := eq_true (of_decide_eq_true (by first | (with_reducible assumption) | assumption))
                                                              obtain ⟨ad227, A227_0, c227_0, e227, hx227_0, hl227_0, hi227_0⟩ := at_L3 (Kd.S_reads' HO_11.out).2.2 x15_3 p227 q227
                                                              obtain rfl : ad210 = ad227 := (by injection e227)
                                                              obtain ⟨ce227, hce227, hMe227, hcc227⟩ := Kd.S_get HO_11.out [] x15_3 p227 (by first | exact q227 | exact of_decide_eq_true (by first | (with_reducible assumption) | assumption) | (have e_ := (Kd.S_reads' HO_11.out).1; omega))
                                                              obtain ⟨ve227_0, rfl, ge227_0⟩ := hMe227
                                                              have hv227_0 := hcc227 0 _ rfl
                                                              rw [Nat.add_zero, show ((Kd.slice 3 (Kd.int .i64))).sz = 1 from rfl, Nat.mul_one] at hv227_0
                                                              replace hv227_0 := Option.some.inj (hv227_0.symm.trans hx227_0)
                                                              rw [hv227_0] at ge227_0
                                                              have HL227_0 := Aside0.mk (show Kd.R (Kd.int .i64) 3 _ _ _ _ (rd_L3 y226 x15_3) from ge227_0)
                                                              clear hv227_0 ge227_0
                                                              have HX227_0 := Aside0.mk hx227_0
                                                              clear hcc227 hce227
                                                              have HR227_0 := Aside0.mk hi227_0
                                                              have HC227_0 := Aside0.mk hl227_0
                                                              clear hi227_0 hl227_0
                                                              replace p227 := eq_true p227
                                                              replace q227 := eq_true q227
                                                              have p228 : 0 ≤ (x16_4 : Int) := of_decide_eq_true (by first | (with_reducible assumption) | assumption)
                                                              have q228 : x16_4 < ((rd_L3 y226 x15_3).length : Int) := of_decide_eq_true (by first | (with_reducible assumption) | assumption)
                                                              obtain ⟨ad228, e228, hx228_0⟩ := Kd.at_int (by repeat (first | (with_reducible exact HR227_0.out) | (with_reducible refine Kd.C_alloc ?_ _) | (with_reducible refine Kd.C_drewN ?_ _) | (with_reducible refine Kd.C_drew ?_) | exact HR227_0.out)) x16_4 p228 q228
                                                              cases e228
                                                              replace p228 := eq_true p228
                                                              replace q228 := eq_true q228
                                                              have p229 : 0 ≤ (x15_3 : Int) := of_decide_eq_true (by first | (with_reducible assumption) | assumption)
                                                              have q229 : x15_3 < (y226.length : Int) := (by have h_ : (x15_3 : Int) < ((x11_4.length : Int) : Int) := of_decide_eq_true (by first | (with_reducible assumption) | assumption); first | (have e_ := (Kd.S_reads' HO_11.out).1; omega) | simpa only [Ny226.out, List.length_set] using h_)
                                                              have ql229 : ((x15_3 : Int) < ((x11_4.length : Int) : Int)) = True := eq_true (of_decide_eq_true (by first | (with_reducible assumption) | assumption))
                                                              obtain ⟨ad229, A229_0, c229_0, e229, hx229_0, hl229_0, hi229_0⟩ := at_L3 (Kd.S_reads' HO_11.out).2.2 x15_3 p229 q229
                                                              obtain rfl : ad210 = ad229 := (by injection e229)
                                                              obtain ⟨ce229, hce229, hMe229, hcc229⟩ := Kd.S_get HO_11.out [] x15_3 p229 (by first | exact q229 | exact of_decide_eq_true (by first | (with_reducible assumption) | assumption) | (have e_ := (Kd.S_reads' HO_11.out).1; omega))
                                                              obtain ⟨ve229_0, rfl, ge229_0⟩ := hMe229
                                                              have hv229_0 := hcc229 0 _ rfl
                                                              rw [Nat.add_zero, show ((Kd.slice 3 (Kd.int .i64))).sz = 1 from rfl, Nat.mul_one] at hv229_0
                                                              replace hv229_0 := Option.some.inj (hv229_0.symm.trans hx229_0)
                                                              rw [hv229_0] at ge229_0
                                                              have HL229_0 := Aside0.mk (show Kd.R (Kd.int .i64) 3 _ _ _ _ (rd_L3 y226 x15_3) from ge229_0)
                                                              clear hv229_0 ge229_0
                                                              have HX229_0 := Aside0.mk hx229_0
                                                              clear hcc229 hce229
                                                              have HR229_0 := Aside0.mk hi229_0
                                                              have HC229_0 := Aside0.mk hl229_0
                                                              clear hi229_0 hl229_0
                                                              replace p229 := eq_true p229
                                                              replace q229 := eq_true q229
                                                              have ea_ := Option.some.inj (hx227_0.symm.trans hx229_0)
                                                              injection ea_ with ea_ en_ ec_
                                                              subst ea_
                                                              subst ec_
                                                              clear en_
                                                              have p230 : 0 ≤ ((ji48) : Int) := of_decide_eq_true (by first | (with_reducible assumption) | assumption)
                                                              have q230 : (ji48) < ((rd_L3 y226 x15_3).length : Int) := of_decide_eq_true (by first | (with_reducible assumption) | assumption)
                                                              obtain ⟨ad230, e230, hx230_0⟩ := Kd.at_int (by repeat (first | (with_reducible exact HR229_0.out) | (with_reducible refine Kd.C_alloc ?_ _) | (with_reducible refine Kd.C_drewN ?_ _) | (with_reducible refine Kd.C_drew ?_) | exact HR229_0.out)) (ji48) p230 q230
                                                              cases e230
                                                              replace p230 := eq_true p230
                                                              replace q230 := eq_true q230
                                                              have p51 : 0 ≤ (x16_4 : Int) := of_decide_eq_true (by first | (with_reducible assumption) | assumption)
                                                              have q51 : (x16_4 : Int) < (((rd_L3 y226 x15_3).length : Int) : Int) := of_decide_eq_true (by first | (with_reducible assumption) | assumption)
                                                              obtain ⟨go51, co51, eo51, gb51, gl51, cl51, HG51⟩ := Kd.R_form HL227_0.out (by omega)
                                                              (first | cases eo51 | (injection eo51 with ea_ en_ ec_; (first | subst ea_ | (injection ea_ with ea_; subst ea_)); subst ec_; clear en_))
                                                              have GB51 := Aside0.mk gb51
                                                              have GG51 := Aside0.mk HG51
                                                              clear gb51 gl51 HG51
                                                              (first | simp only [add_plain] at hx230_0 | skip)
                                                              obtain ⟨hx51_0, hf51_0⟩ := Kd.R_celln 0 HL227_0.out (x16_4 : Int) p51 q51
                                                              replace p51 := eq_true p51
                                                              replace q51 := eq_true q51
                                                              have hq57 : (x15_3 : Int) < (y226.length : Int) := (by have h_ : (x15_3 : Int) < ((x11_4.length : Int) : Int) := of_decide_eq_true (by first | (with_reducible assumption) | assumption); first | exact h_ | (have e_ := (Kd.S_reads' HO_11.out).1; omega) | simpa only [Ny226.out, List.length_set] using h_)
                                                              obtain ⟨oki57, ce57, hcl57, hM57, hcc57, hok57, hbk57⟩ := Kd.S_borrow HO_11.out [] (x15_3 : Int) (of_decide_eq_true (by first | (with_reducible assumption) | assumption)) (by first | exact hq57 | exact of_decide_eq_true (by first | (with_reducible assumption) | assumption))
                                                              obtain ⟨ve57_0, rfl, ge57_0⟩ := hM57
                                                              have hv57 := hcc57 0 _ rfl
                                                              rw [Nat.add_zero, show ((Kd.slice 3 (Kd.int .i64))).sz = 1 from rfl, Nat.mul_one] at hv57
                                                              replace hv57 := Option.some.inj (hv57.symm.trans HX227_0.out)
                                                              subst hv57
                                                              clear hcc57 hcl57
                                                              replace ge57_0 := (show Kd.R (Kd.int .i64) 3 _ _ _ _ (rd_L3 y226 x15_3) from ge57_0)
                                                              have HP57 := Kd.R_putg ge57_0 (x16_4 : Int) (wrap64 ((rd (rd_L3 y226 x15_3) x16_4) + (rd (rd_L3 y226 x15_3) (ji48))))
                                                              rw [← Ny231.out] at HP57
                                                              have HS57 := hbk57 HP57.2 (fun k_ e_ => by injection e_ with e_; subst e_; exact ge57_0.1 _ rfl) (x' := y231) (Kd.M_row HP57.1)
                                                              rw [← Ny233.out] at HS57
                                                              have HQ57 := Aside0.mk HS57
                                                              clear HP57 HS57 hbk57 hok57
                                                              (try simp only [add_plain] at hx227_0)
                                                              (try simp only [add_plain] at hx228_0)
                                                              (try simp only [add_plain] at hx229_0)
                                                              (try simp only [add_plain] at hx230_0)
                                                              refine start_ (n := 19) (S := fun w' => w'.cell? (ad210.add (x15_3).toNat) = some (.slice (some ⟨go51, 0, none⟩) (rd_L3 y226 x15_3).length c227_0) ∧ w'.cell? ⟨go51, (x16_4).toNat, none⟩ = some (.int .i64 (rd (rd_L3 y226 x15_3) x16_4)) ∧ w'.cell? (ad210.add (x15_3).toNat) = some (.slice (some ⟨go51, 0, none⟩) (rd_L3 y226 x15_3).length c227_0) ∧ w'.cell? ⟨go51, ((ji48)).toNat, none⟩ = some (.int .i64 (rd (rd_L3 y226 x15_3) (ji48)))) (ds := [18]) #[false, false, false, false, false, false, false, false, false, false, false, false, false, false, false, false, false, false, false] (by kernel_rfl) rfl rfl ⟨hx227_0, hx228_0, hx229_0, hx230_0⟩ (fun hHeld => ?_); refine with_tabW impl_kept.tab20 impl_kept.bits20 (fun HT_ HW_ => ?_)
                                                              generalize w55.drew = w56 at HO_11 HO_39 HB GG51 HL227_0 HL229_0 HQ53 HQ57 HR227_0 HR229_0 HX227_0 HX229_0 hf51_0 hx227_0 hx228_0 hx229_0 hx230_0 hx51_0 hHeld ⊢
                                                              refine pure_ (i := 0) (N := some 79) (v := ?_) (a' := ?_) #[true, false, false, false, false, false, false, false, false, false, false, false, false, false, false, false, false, false, false] rfl rfl (any_of HT_.out (by kernel_rfl)) (fun _ _ _ h => h) (Or.inl ⟨by rfl, ?_⟩) ?_ ?_
                                                              rotate_left
                                                              · intro w'
                                                                go_simp
                                                                with_reducible rfl
                                                              rotate_left
                                                              · simp only [Act.put, List.setIfInBounds_toArray, List.set_cons_zero, List.set_cons_succ, i64_w, i32_w]
                                                                rfl
                                                              refine pure_ (i := 1) (N := some 80) (v := ?_) (a' := ?_) #[true, true, false, false, false, false, false, false, false, false, false, false, false, false, false, false, false, false, false] rfl rfl (any_of HT_.out (by kernel_rfl)) (fun _ _ _ h => h) (Or.inl ⟨by rfl, ?_⟩) ?_ ?_
                                                              rotate_left
                                                              · intro w'
                                                                go_simp
                                                                with_reducible rfl
                                                              rotate_left
                                                              · simp only [Act.put, List.setIfInBounds_toArray, List.set_cons_zero, List.set_cons_succ, i64_w, i32_w]
                                                                rfl
                                                              refine pure_ (i := 2) (N := some 81) (v := ?_) (a' := ?_) #[true, true, true, false, false, false, false, false, false, false, false, false, false, false, false, false, false, false, false] rfl rfl (any_of HT_.out (by kernel_rfl)) (fun _ _ _ h => h) (Or.inl ⟨by rfl, ?_⟩) ?_ ?_
                                                              rotate_left
                                                              · intro w'
                                                                go_simp
                                                                with_reducible rfl
                                                              rotate_left
                                                              · simp only [Act.put, List.setIfInBounds_toArray, List.set_cons_zero, List.set_cons_succ, i64_w, i32_w]
                                                                rfl
                                                              refine pure_ (i := 4) (N := some 83) (v := ?_) (a' := ?_) #[true, true, true, false, true, false, false, false, false, false, false, false, false, false, false, false, false, false, false] rfl rfl (any_of HT_.out (by kernel_rfl)) (fun _ _ _ h => h) (Or.inl ⟨by rfl, ?_⟩) ?_ ?_
                                                              rotate_left
                                                              · intro w'
                                                                go_simp
                                                                with_reducible rfl
                                                              rotate_left
                                                              · simp only [Act.put, List.setIfInBounds_toArray, List.set_cons_zero, List.set_cons_succ, i64_w, i32_w]
                                                                rfl
                                                              refine pure_ (i := 7) (N := some 86) (v := ?_) (a' := ?_) #[true, true, true, false, true, false, false, true, false, false, false, false, false, false, false, false, false, false, false] rfl rfl (any_of HT_.out (by kernel_rfl)) (fun _ _ _ h => h) (Or.inl ⟨by rfl, ?_⟩) ?_ ?_
                                                              rotate_left
                                                              · intro w'
                                                                go_simp
                                                                with_reducible rfl
                                                              rotate_left
                                                              · simp only [Act.put, List.setIfInBounds_toArray, List.set_cons_zero, List.set_cons_succ, i64_w, i32_w]
                                                                rfl
                                                              refine pure_ (i := 8) (N := some 87) (v := ?_) (a' := ?_) #[true, true, true, false, true, false, false, true, true, false, false, false, false, false, false, false, false, false, false] rfl rfl (any_of HT_.out (by kernel_rfl)) (fun _ _ _ h => h) (Or.inl ⟨by rfl, ?_⟩) ?_ ?_
                                                              rotate_left
                                                              · intro w'
                                                                go_simp
                                                                with_reducible rfl
                                                              rotate_left
                                                              · simp only [Act.put, List.setIfInBounds_toArray, List.set_cons_zero, List.set_cons_succ, i64_w, i32_w]
                                                                rfl
                                                              refine pure_ (i := 9) (N := some 88) (v := ?_) (a' := ?_) #[true, true, true, false, true, false, false, true, true, true, false, false, false, false, false, false, false, false, false] rfl rfl (any_of HT_.out (by kernel_rfl)) (fun _ _ _ h => h) (Or.inl ⟨by rfl, ?_⟩) ?_ ?_
                                                              rotate_left
                                                              · intro w'
                                                                go_simp
                                                                with_reducible rfl
                                                              rotate_left
                                                              · simp only [Act.put, List.setIfInBounds_toArray, List.set_cons_zero, List.set_cons_succ, i64_w, i32_w]
                                                                rfl
                                                              refine pure_ (i := 11) (N := some 90) (v := ?_) (a' := ?_) #[true, true, true, false, true, false, false, true, true, true, false, true, false, false, false, false, false, false, false] rfl rfl (any_of HT_.out (by kernel_rfl)) (fun _ _ _ h => h) (Or.inl ⟨by rfl, ?_⟩) ?_ ?_
                                                              rotate_left
                                                              · intro w'
                                                                go_simp
                                                                with_reducible rfl
                                                              rotate_left
                                                              · simp only [Act.put, List.setIfInBounds_toArray, List.set_cons_zero, List.set_cons_succ, i64_w, i32_w]
                                                                rfl
                                                              refine pure_ (i := 12) (N := some 91) (v := ?_) (a' := ?_) #[true, true, true, false, true, false, false, true, true, true, false, true, true, false, false, false, false, false, false] rfl rfl (any_of HT_.out (by kernel_rfl)) (fun _ _ _ h => h) (Or.inl ⟨by rfl, ?_⟩) ?_ ?_
                                                              rotate_left
                                                              · intro w'
                                                                go_simp
                                                                with_reducible rfl
                                                              rotate_left
                                                              · simp only [Act.put, List.setIfInBounds_toArray, List.set_cons_zero, List.set_cons_succ, i64_w, i32_w]
                                                                rfl
                                                              refine pure_ (i := 13) (N := some 92) (v := ?_) (a' := ?_) #[true, true, true, false, true, false, false, true, true, true, false, true, true, true, false, false, false, false, false] rfl rfl (any_of HT_.out (by kernel_rfl)) (fun _ _ _ h => h) (Or.inl ⟨by rfl, ?_⟩) ?_ ?_
                                                              rotate_left
                                                              · intro w'
                                                                go_simp
                                                                with_reducible rfl
                                                              rotate_left
                                                              · simp only [Act.put, List.setIfInBounds_toArray, List.set_cons_zero, List.set_cons_succ, i64_w, i32_w]
                                                                rfl
                                                              refine take_ (i := 3) (N := some 82) (v := ?_) (a' := ?_) #[true, true, true, true, true, false, false, true, true, true, false, true, true, true, false, false, false, false, false] rfl rfl (take_ofW HT_.out HW_.out (by kernel_rfl)) (fun _ _ _ h => h) (Or.inl ⟨by rfl, ?_⟩) hHeld ?_ ?_
                                                              rotate_left
                                                              · rintro w' ⟨s0, s1, s2, s3⟩
                                                                go_simp
                                                                with_reducible rfl
                                                              rotate_left
                                                              · simp only [Act.put, List.setIfInBounds_toArray, List.set_cons_zero, List.set_cons_succ, i64_w, i32_w]
                                                                rfl
                                                              refine pure_ (i := 5) (N := some 84) (v := ?_) (a' := ?_) #[true, true, true, true, true, true, false, true, true, true, false, true, true, true, false, false, false, false, false] rfl rfl (any_of HT_.out (by kernel_rfl)) (fun _ _ _ h => h) (Or.inl ⟨by rfl, ?_⟩) ?_ ?_
                                                              rotate_left
                                                              · intro w'
                                                                go_simp
                                                                with_reducible rfl
                                                              rotate_left
                                                              · simp only [Act.put, List.setIfInBounds_toArray, List.set_cons_zero, List.set_cons_succ, i64_w, i32_w]
                                                                rfl
                                                              refine take_ (i := 6) (N := some 85) (v := ?_) (a' := ?_) #[true, true, true, true, true, true, true, true, true, true, false, true, true, true, false, false, false, false, false] rfl rfl (take_ofW HT_.out HW_.out (by kernel_rfl)) (fun _ _ _ h => h) (Or.inl ⟨by rfl, ?_⟩) hHeld ?_ ?_
                                                              rotate_left
                                                              · rintro w' ⟨s0, s1, s2, s3⟩
                                                                go_simp
                                                                with_reducible rfl
                                                              rotate_left
                                                              · simp only [Act.put, List.setIfInBounds_toArray, List.set_cons_zero, List.set_cons_succ, i64_w, i32_w]
                                                                rfl
                                                              refine take_ (i := 10) (N := some 89) (v := ?_) (a' := ?_) #[true, true, true, true, true, true, true, true, true, true, true, true, true, true, false, false, false, false, false] rfl rfl (take_ofW HT_.out HW_.out (by kernel_rfl)) (fun _ _ _ h => h) (Or.inl ⟨by rfl, ?_⟩) hHeld ?_ ?_
                                                              rotate_left
                                                              · rintro w' ⟨s0, s1, s2, s3⟩
                                                                go_simp
                                                                with_reducible rfl
                                                              rotate_left
                                                              · simp only [Act.put, List.setIfInBounds_toArray, List.set_cons_zero, List.set_cons_succ, i64_w, i32_w]
                                                                rfl
                                                              refine pure_ (i := 14) (N := some 93) (v := ?_) (a' := ?_) #[true, true, true, true, true, true, true, true, true, true, true, true, true, true, true, false, false, false, false] rfl rfl (any_of HT_.out (by kernel_rfl)) (fun _ _ _ h => h) (Or.inl ⟨by rfl, ?_⟩) ?_ ?_
                                                              rotate_left
                                                              · intro w'
                                                                go_simp
                                                                with_reducible rfl
                                                              rotate_left
                                                              · simp only [Act.put, List.setIfInBounds_toArray, List.set_cons_zero, List.set_cons_succ, i64_w, i32_w]
                                                                rfl
                                                              refine take_ (i := 15) (N := some 94) (v := ?_) (a' := ?_) #[true, true, true, true, true, true, true, true, true, true, true, true, true, true, true, true, false, false, false] rfl rfl (take_ofW HT_.out HW_.out (by kernel_rfl)) (fun _ _ _ h => h) (Or.inl ⟨by rfl, ?_⟩) hHeld ?_ ?_
                                                              rotate_left
                                                              · rintro w' ⟨s0, s1, s2, s3⟩
                                                                go_simp
                                                                with_reducible rfl
                                                              rotate_left
                                                              · simp only [Act.put, List.setIfInBounds_toArray, List.set_cons_zero, List.set_cons_succ, i64_w, i32_w]
                                                                rfl
                                                              refine pure_ (i := 16) (N := some 95) (v := ?_) (a' := ?_) #[true, true, true, true, true, true, true, true, true, true, true, true, true, true, true, true, true, false, false] rfl rfl (any_of HT_.out (by kernel_rfl)) (fun _ _ _ h => h) (Or.inl ⟨by rfl, ?_⟩) ?_ ?_
                                                              rotate_left
                                                              · intro w'
                                                                go_simp
                                                                with_reducible rfl
                                                              rotate_left
                                                              · simp only [Act.put, List.setIfInBounds_toArray, List.set_cons_zero, List.set_cons_succ, i64_w, i32_w]
                                                                rfl
                                                              refine pure_ (i := 17) (N := some 96) (v := ?_) (a' := ?_) #[true, true, true, true, true, true, true, true, true, true, true, true, true, true, true, true, true, true, false] rfl rfl (any_of HT_.out (by kernel_rfl)) (fun _ _ _ h => h) (Or.inl ⟨by rfl, ?_⟩) ?_ ?_
                                                              rotate_left
                                                              · intro w'
                                                                go_simp
                                                                with_reducible rfl
                                                              rotate_left
                                                              · simp only [Act.put, List.setIfInBounds_toArray, List.set_cons_zero, List.set_cons_succ, i64_w, i32_w]
                                                                rfl
                                                              refine last_ (i := 18) (N := none) #[true, true, true, true, true, true, true, true, true, true, true, true, true, true, true, true, true, true, true] rfl rfl (one_of HT_.out (by kernel_rfl)) (by decide) (fun K hK => ?_)
                                                              refine skip_ (w1 := ?_) (by rfl) rfl ?_ ?_
                                                              rotate_left
                                                              · go_simp
                                                                rfl
                                                              refine hK.out _ _ ?_
                                                              clear hK K
                                                              refine done_ (done_of HT_.out (by kernel_rfl)) ?_
                                                              try go_wp2
                                                              (try simp only [← hl11_4, ← hl39_4])
                                                              go_roundg k4
                                                              case measure => have := HK1.out; have := HK2.out; have := HK3.out; have := HK4.out; omega
                                                              case rel => exact ⟨(y233), (wrap64 (x16_4 - 1)), (x39_4), (by first | rfl | (simp; done) | (simp [*]; done)), H', ⟨by have := HK1.out; have := HK2.out; have := HK3.out; have := HK4.out; omega⟩, ⟨by (try simp only [hl11_1]); (try simp only [hl11_2]); (try simp only [hl39_2]); (try simp only [hl11_3]); (try simp only [hl39_3]); (try simp only [hl11_4]); (try simp only [hl39_4]); (with_reducible repeat (first | apply Kd.S_alloc | apply Kd.S_drewN | apply Kd.S_drew)); exact HQ57.out⟩, ⟨by (try simp only [hl11_1]); (try simp only [hl11_2]); (try simp only [hl39_2]); (try simp only [hl11_3]); (try simp only [hl39_3]); (try simp only [hl11_4]); (try simp only [hl39_4]); (with_reducible repeat (first | apply Kd.R_alloc | apply Kd.R_drewN | apply Kd.R_drew)); exact Kd.R_mono (Kd.R_far (p := ⟨go51, (x16_4 : Int).toNat, none⟩) (Kd.R_far1 HO_39.out rfl ((HL227_0.out.1 _ rfl).1)) (fun _ hk => hk.2) (.int .i64 (wrap64 ((rd (rd_L3 y226 x15_3) x16_4) + (rd (rd_L3 y226 x15_3) (ji48)))))) (fun _ hk => trivial)⟩, ⟨by repeat (first | (with_reducible first | exact HB.out | apply below_alloc | apply pw_below_drewN | apply below_drew1 | refine below_set ?_ GB51.out) | exact HB.out)⟩⟩
                                                            · rw [if_neg c50] at H
                                                              exact absurd H (by simp)
                                                          · rw [if_neg c49] at H
                                                            exact absurd H (by simp)
                                                        · rw [if_neg c47] at H
                                                          exact absurd H (by simp)
                                                      · rw [if_neg c46] at H
                                                        have c46b0 : decide ((rd x39_2 x41_2) ≤ x16_4) = false := decide_eq_false c46
                                                        clear c46
                                                        have H' := Aside0.mk H
                                                        clear H
                                                        try go_wp2
                                                        have n0_ := Aside0.mk (Kd.S_drew HO_11.out)
                                                        have n1_ := Aside0.mk (Kd.R_drew HO_39.out)
                                                        have n2_ := Aside0.mk (below_drew1 HB.out)
                                                        clear HO_11
                                                        clear HO_39
                                                        clear HB
                                                        have HO_11 := n0_
                                                        have HO_39 := n1_
                                                        have HB := n2_
                                                        clear n0_ n1_ n2_
                                                        have p220 : 0 ≤ (x15_3 : Int) := of_decide_eq_true (by first | (with_reducible assumption) | assumption)
                                                        have q220 : x15_3 < (x11_4.length : Int) := of_decide_eq_true (by first | (with_reducible assumption) | assumption)
                                                        obtain ⟨ad220, A220_0, c220_0, e220, hx220_0, hl220_0, hi220_0⟩ := at_L3 (Kd.S_reads' HO_11.out).2.2 x15_3 p220 q220
                                                        obtain rfl : ad210 = ad220 := (by injection e220)
                                                        obtain ⟨ce220, hce220, hMe220, hcc220⟩ := Kd.S_get HO_11.out [] x15_3 p220 (by first | exact q220 | exact of_decide_eq_true (by first | (with_reducible assumption) | assumption) | (have e_ := (Kd.S_reads' HO_11.out).1; omega))
                                                        obtain ⟨ve220_0, rfl, ge220_0⟩ := hMe220
                                                        have hv220_0 := hcc220 0 _ rfl
                                                        rw [Nat.add_zero, show ((Kd.slice 3 (Kd.int .i64))).sz = 1 from rfl, Nat.mul_one] at hv220_0
                                                        replace hv220_0 := Option.some.inj (hv220_0.symm.trans hx220_0)
                                                        rw [hv220_0] at ge220_0
                                                        have HL220_0 := Aside0.mk (show Kd.R (Kd.int .i64) 3 _ _ _ _ (rd_L3 x11_4 x15_3) from ge220_0)
                                                        clear hv220_0 ge220_0
                                                        have HX220_0 := Aside0.mk hx220_0
                                                        clear hcc220 hce220
                                                        have HR220_0 := Aside0.mk hi220_0
                                                        have HC220_0 := Aside0.mk hl220_0
                                                        clear hi220_0 hl220_0
                                                        replace p220 := eq_true p220
                                                        replace q220 := eq_true q220
                                                        have p221 : 0 ≤ (x16_4 : Int) := of_decide_eq_true (by first | (with_reducible assumption) | assumption)
                                                        have q221 : x16_4 < ((rd_L3 x11_4 x15_3).length : Int) := of_decide_eq_true (by first | (with_reducible assumption) | assumption)
                                                        obtain ⟨ad221, e221, hx221_0⟩ := Kd.at_int (by repeat (first | (with_reducible exact HR220_0.out) | (with_reducible refine Kd.C_alloc ?_ _) | (with_reducible refine Kd.C_drewN ?_ _) | (with_reducible refine Kd.C_drew ?_) | exact HR220_0.out)) x16_4 p221 q221
                                                        cases e221
                                                        replace p221 := eq_true p221
                                                        replace q221 := eq_true q221
                                                        have p222 : 0 ≤ ((ji41) : Int) := of_decide_eq_true (by first | (with_reducible assumption) | assumption)
                                                        have q222 : (ji41) < (x11_4.length : Int) := of_decide_eq_true (by first | (with_reducible assumption) | assumption)
                                                        obtain ⟨ad222, A222_0, c222_0, e222, hx222_0, hl222_0, hi222_0⟩ := at_L3 (Kd.S_reads' HO_11.out).2.2 (ji41) p222 q222
                                                        obtain rfl : ad210 = ad222 := (by injection e222)
                                                        obtain ⟨ce222, hce222, hMe222, hcc222⟩ := Kd.S_get HO_11.out [] (ji41) p222 (by first | exact q222 | exact of_decide_eq_true (by first | (with_reducible assumption) | assumption) | (have e_ := (Kd.S_reads' HO_11.out).1; omega))
                                                        obtain ⟨ve222_0, rfl, ge222_0⟩ := hMe222
                                                        have hv222_0 := hcc222 0 _ rfl
                                                        rw [Nat.add_zero, show ((Kd.slice 3 (Kd.int .i64))).sz = 1 from rfl, Nat.mul_one] at hv222_0
                                                        replace hv222_0 := Option.some.inj (hv222_0.symm.trans hx222_0)
                                                        rw [hv222_0] at ge222_0
                                                        have HL222_0 := Aside0.mk (show Kd.R (Kd.int .i64) 3 _ _ _ _ (rd_L3 x11_4 (ji41)) from ge222_0)
                                                        clear hv222_0 ge222_0
                                                        have HX222_0 := Aside0.mk hx222_0
                                                        clear hcc222 hce222
                                                        have HR222_0 := Aside0.mk hi222_0
                                                        have HC222_0 := Aside0.mk hl222_0
                                                        clear hi222_0 hl222_0
                                                        replace p222 := eq_true p222
                                                        replace q222 := eq_true q222
                                                        have p223 : 0 ≤ (x16_4 : Int) := of_decide_eq_true (by first | (with_reducible assumption) | assumption)
                                                        have q223 : x16_4 < ((rd_L3 x11_4 (ji41)).length : Int) := of_decide_eq_true (by first | (with_reducible assumption) | assumption)
                                                        obtain ⟨ad223, e223, hx223_0⟩ := Kd.at_int (by repeat (first | (with_reducible exact HR222_0.out) | (with_reducible refine Kd.C_alloc ?_ _) | (with_reducible refine Kd.C_drewN ?_ _) | (with_reducible refine Kd.C_drew ?_) | exact HR222_0.out)) x16_4 p223 q223
                                                        cases e223
                                                        replace p223 := eq_true p223
                                                        replace q223 := eq_true q223
                                                        have p45 : 0 ≤ (x16_4 : Int) := of_decide_eq_true (by first | (with_reducible assumption) | assumption)
                                                        have q45 : (x16_4 : Int) < (((rd_L3 x11_4 x15_3).length : Int) : Int) := of_decide_eq_true (by first | (with_reducible assumption) | assumption)
                                                        obtain ⟨go45, co45, eo45, gb45, gl45, cl45, HG45⟩ := Kd.R_form HL220_0.out (by omega)
                                                        (first | cases eo45 | (injection eo45 with ea_ en_ ec_; (first | subst ea_ | (injection ea_ with ea_; subst ea_)); subst ec_; clear en_))
                                                        have GB45 := Aside0.mk gb45
                                                        have GG45 := Aside0.mk HG45
                                                        clear gb45 gl45 HG45
                                                        (first | simp only [add_plain] at hx221_0 | skip)
                                                        obtain ⟨hx45_0, hf45_0⟩ := Kd.R_celln 0 HL220_0.out (x16_4 : Int) p45 q45
                                                        replace p45 := eq_true p45
                                                        replace q45 := eq_true q45
                                                        have hq60 : (x15_3 : Int) < (x11_4.length : Int) := (by have h_ : (x15_3 : Int) < ((x11_4.length : Int) : Int) := of_decide_eq_true (by first | (with_reducible assumption) | assumption); first | exact h_ | (have e_ := (Kd.S_reads' HO_11.out).1; omega) | simpa only [List.length_set, List.length_set] using h_)
                                                        obtain ⟨oki60, ce60, hcl60, hM60, hcc60, hok60, hbk60⟩ := Kd.S_borrow HO_11.out [] (x15_3 : Int) (of_decide_eq_true (by first | (with_reducible assumption) | assumption)) (by first | exact hq60 | exact of_decide_eq_true (by first | (with_reducible assumption) | assumption))
                                                        obtain ⟨ve60_0, rfl, ge60_0⟩ := hM60
                                                        have hv60 := hcc60 0 _ rfl
                                                        rw [Nat.add_zero, show ((Kd.slice 3 (Kd.int .i64))).sz = 1 from rfl, Nat.mul_one] at hv60
                                                        replace hv60 := Option.some.inj (hv60.symm.trans HX220_0.out)
                                                        subst hv60
                                                        clear hcc60 hcl60
                                                        replace ge60_0 := (show Kd.R (Kd.int .i64) 3 _ _ _ _ (rd_L3 x11_4 x15_3) from ge60_0)
                                                        have HP60 := Kd.R_putg ge60_0 (x16_4 : Int) (wrap64 ((rd (rd_L3 x11_4 x15_3) x16_4) + (rd (rd_L3 x11_4 (ji41)) x16_4)))
                                                        rw [← Ny224.out] at HP60
                                                        have HS60 := hbk60 HP60.2 (fun k_ e_ => by injection e_ with e_; subst e_; exact ge60_0.1 _ rfl) (x' := y224) (Kd.M_row HP60.1)
                                                        rw [← Ny226.out] at HS60
                                                        have HQ60 := Aside0.mk HS60
                                                        clear HP60 HS60 hbk60 hok60
                                                        (try simp only [add_plain] at hx220_0)
                                                        (try simp only [add_plain] at hx221_0)
                                                        (try simp only [add_plain] at hx222_0)
                                                        (try simp only [add_plain] at hx223_0)
                                                        refine start_ (n := 19) (S := fun w' => w'.cell? (ad210.add (x15_3).toNat) = some (.slice (some ⟨go45, 0, none⟩) (rd_L3 x11_4 x15_3).length c220_0) ∧ w'.cell? ⟨go45, (x16_4).toNat, none⟩ = some (.int .i64 (rd (rd_L3 x11_4 x15_3) x16_4)) ∧ w'.cell? (ad210.add ((ji41)).toNat) = some (.slice (some ad223) (rd_L3 x11_4 (ji41)).length c222_0) ∧ w'.cell? (ad223.add (x16_4).toNat) = some (.int .i64 (rd (rd_L3 x11_4 (ji41)) x16_4))) (ds := [18]) #[false, false, false, false, false, false, false, false, false, false, false, false, false, false, false, false, false, false, false] (by kernel_rfl) rfl rfl ⟨hx220_0, hx221_0, hx222_0, hx223_0⟩ (fun hHeld => ?_); refine with_tabW impl_kept.tab18 impl_kept.bits18 (fun HT_ HW_ => ?_)
                                                        generalize wr.drew = w59 at HO_11 HO_39 HB GG45 HL220_0 HL222_0 HQ60 HR220_0 HR222_0 HX220_0 HX222_0 hf45_0 hx220_0 hx221_0 hx222_0 hx223_0 hx45_0 hHeld ⊢
                                                        refine pure_ (i := 0) (N := some 58) (v := ?_) (a' := ?_) #[true, false, false, false, false, false, false, false, false, false, false, false, false, false, false, false, false, false, false] rfl rfl (any_of HT_.out (by kernel_rfl)) (fun _ _ _ h => h) (Or.inl ⟨by rfl, ?_⟩) ?_ ?_
                                                        rotate_left
                                                        · intro w'
                                                          go_simp
                                                          with_reducible rfl
                                                        rotate_left
                                                        · simp only [Act.put, List.setIfInBounds_toArray, List.set_cons_zero, List.set_cons_succ, i64_w, i32_w]
                                                          rfl
                                                        refine pure_ (i := 1) (N := some 59) (v := ?_) (a' := ?_) #[true, true, false, false, false, false, false, false, false, false, false, false, false, false, false, false, false, false, false] rfl rfl (any_of HT_.out (by kernel_rfl)) (fun _ _ _ h => h) (Or.inl ⟨by rfl, ?_⟩) ?_ ?_
                                                        rotate_left
                                                        · intro w'
                                                          go_simp
                                                          with_reducible rfl
                                                        rotate_left
                                                        · simp only [Act.put, List.setIfInBounds_toArray, List.set_cons_zero, List.set_cons_succ, i64_w, i32_w]
                                                          rfl
                                                        refine pure_ (i := 2) (N := some 60) (v := ?_) (a' := ?_) #[true, true, true, false, false, false, false, false, false, false, false, false, false, false, false, false, false, false, false] rfl rfl (any_of HT_.out (by kernel_rfl)) (fun _ _ _ h => h) (Or.inl ⟨by rfl, ?_⟩) ?_ ?_
                                                        rotate_left
                                                        · intro w'
                                                          go_simp
                                                          with_reducible rfl
                                                        rotate_left
                                                        · simp only [Act.put, List.setIfInBounds_toArray, List.set_cons_zero, List.set_cons_succ, i64_w, i32_w]
                                                          rfl
                                                        refine pure_ (i := 4) (N := some 62) (v := ?_) (a' := ?_) #[true, true, true, false, true, false, false, false, false, false, false, false, false, false, false, false, false, false, false] rfl rfl (any_of HT_.out (by kernel_rfl)) (fun _ _ _ h => h) (Or.inl ⟨by rfl, ?_⟩) ?_ ?_
                                                        rotate_left
                                                        · intro w'
                                                          go_simp
                                                          with_reducible rfl
                                                        rotate_left
                                                        · simp only [Act.put, List.setIfInBounds_toArray, List.set_cons_zero, List.set_cons_succ, i64_w, i32_w]
                                                          rfl
                                                        refine pure_ (i := 7) (N := some 65) (v := ?_) (a' := ?_) #[true, true, true, false, true, false, false, true, false, false, false, false, false, false, false, false, false, false, false] rfl rfl (any_of HT_.out (by kernel_rfl)) (fun _ _ _ h => h) (Or.inl ⟨by rfl, ?_⟩) ?_ ?_
                                                        rotate_left
                                                        · intro w'
                                                          go_simp
                                                          with_reducible rfl
                                                        rotate_left
                                                        · simp only [Act.put, List.setIfInBounds_toArray, List.set_cons_zero, List.set_cons_succ, i64_w, i32_w]
                                                          rfl
                                                        refine pure_ (i := 8) (N := some 66) (v := ?_) (a' := ?_) #[true, true, true, false, true, false, false, true, true, false, false, false, false, false, false, false, false, false, false] rfl rfl (any_of HT_.out (by kernel_rfl)) (fun _ _ _ h => h) (Or.inl ⟨by rfl, ?_⟩) ?_ ?_
                                                        rotate_left
                                                        · intro w'
                                                          go_simp
                                                          with_reducible rfl
                                                        rotate_left
                                                        · simp only [Act.put, List.setIfInBounds_toArray, List.set_cons_zero, List.set_cons_succ, i64_w, i32_w]
                                                          rfl
                                                        refine pure_ (i := 9) (N := some 67) (v := ?_) (a' := ?_) #[true, true, true, false, true, false, false, true, true, true, false, false, false, false, false, false, false, false, false] rfl rfl (any_of HT_.out (by kernel_rfl)) (fun _ _ _ h => h) (Or.inl ⟨by rfl, ?_⟩) ?_ ?_
                                                        rotate_left
                                                        · intro w'
                                                          go_simp
                                                          with_reducible rfl
                                                        rotate_left
                                                        · simp only [Act.put, List.setIfInBounds_toArray, List.set_cons_zero, List.set_cons_succ, i64_w, i32_w]
                                                          rfl
                                                        refine pure_ (i := 10) (N := some 68) (v := ?_) (a' := ?_) #[true, true, true, false, true, false, false, true, true, true, true, false, false, false, false, false, false, false, false] rfl rfl (any_of HT_.out (by kernel_rfl)) (fun _ _ _ h => h) (Or.inl ⟨by rfl, ?_⟩) ?_ ?_
                                                        rotate_left
                                                        · intro w'
                                                          go_simp
                                                          with_reducible rfl
                                                        rotate_left
                                                        · simp only [Act.put, List.setIfInBounds_toArray, List.set_cons_zero, List.set_cons_succ, i64_w, i32_w]
                                                          rfl
                                                        refine pure_ (i := 11) (N := some 69) (v := ?_) (a' := ?_) #[true, true, true, false, true, false, false, true, true, true, true, true, false, false, false, false, false, false, false] rfl rfl (any_of HT_.out (by kernel_rfl)) (fun _ _ _ h => h) (Or.inl ⟨by rfl, ?_⟩) ?_ ?_
                                                        rotate_left
                                                        · intro w'
                                                          go_simp
                                                          with_reducible rfl
                                                        rotate_left
                                                        · simp only [Act.put, List.setIfInBounds_toArray, List.set_cons_zero, List.set_cons_succ, i64_w, i32_w]
                                                          rfl
                                                        refine pure_ (i := 13) (N := some 71) (v := ?_) (a' := ?_) #[true, true, true, false, true, false, false, true, true, true, true, true, false, true, false, false, false, false, false] rfl rfl (any_of HT_.out (by kernel_rfl)) (fun _ _ _ h => h) (Or.inl ⟨by rfl, ?_⟩) ?_ ?_
                                                        rotate_left
                                                        · intro w'
                                                          go_simp
                                                          with_reducible rfl
                                                        rotate_left
                                                        · simp only [Act.put, List.setIfInBounds_toArray, List.set_cons_zero, List.set_cons_succ, i64_w, i32_w]
                                                          rfl
                                                        refine take_ (i := 3) (N := some 61) (v := ?_) (a' := ?_) #[true, true, true, true, true, false, false, true, true, true, true, true, false, true, false, false, false, false, false] rfl rfl (take_ofW HT_.out HW_.out (by kernel_rfl)) (fun _ _ _ h => h) (Or.inl ⟨by rfl, ?_⟩) hHeld ?_ ?_
                                                        rotate_left
                                                        · rintro w' ⟨s0, s1, s2, s3⟩
                                                          go_simp
                                                          with_reducible rfl
                                                        rotate_left
                                                        · simp only [Act.put, List.setIfInBounds_toArray, List.set_cons_zero, List.set_cons_succ, i64_w, i32_w]
                                                          rfl
                                                        refine pure_ (i := 5) (N := some 63) (v := ?_) (a' := ?_) #[true, true, true, true, true, true, false, true, true, true, true, true, false, true, false, false, false, false, false] rfl rfl (any_of HT_.out (by kernel_rfl)) (fun _ _ _ h => h) (Or.inl ⟨by rfl, ?_⟩) ?_ ?_
                                                        rotate_left
                                                        · intro w'
                                                          go_simp
                                                          with_reducible rfl
                                                        rotate_left
                                                        · simp only [Act.put, List.setIfInBounds_toArray, List.set_cons_zero, List.set_cons_succ, i64_w, i32_w]
                                                          rfl
                                                        refine take_ (i := 6) (N := some 64) (v := ?_) (a' := ?_) #[true, true, true, true, true, true, true, true, true, true, true, true, false, true, false, false, false, false, false] rfl rfl (take_ofW HT_.out HW_.out (by kernel_rfl)) (fun _ _ _ h => h) (Or.inl ⟨by rfl, ?_⟩) hHeld ?_ ?_
                                                        rotate_left
                                                        · rintro w' ⟨s0, s1, s2, s3⟩
                                                          go_simp
                                                          with_reducible rfl
                                                        rotate_left
                                                        · simp only [Act.put, List.setIfInBounds_toArray, List.set_cons_zero, List.set_cons_succ, i64_w, i32_w]
                                                          rfl
                                                        refine take_ (i := 12) (N := some 70) (v := ?_) (a' := ?_) #[true, true, true, true, true, true, true, true, true, true, true, true, true, true, false, false, false, false, false] rfl rfl (take_ofW HT_.out HW_.out (by kernel_rfl)) (fun _ _ _ h => h) (Or.inl ⟨by rfl, ?_⟩) hHeld ?_ ?_
                                                        rotate_left
                                                        · rintro w' ⟨s0, s1, s2, s3⟩
                                                          go_simp
                                                          with_reducible rfl
                                                        rotate_left
                                                        · simp only [Act.put, List.setIfInBounds_toArray, List.set_cons_zero, List.set_cons_succ, i64_w, i32_w]
                                                          rfl
                                                        refine pure_ (i := 14) (N := some 72) (v := ?_) (a' := ?_) #[true, true, true, true, true, true, true, true, true, true, true, true, true, true, true, false, false, false, false] rfl rfl (any_of HT_.out (by kernel_rfl)) (fun _ _ _ h => h) (Or.inl ⟨by rfl, ?_⟩) ?_ ?_
                                                        rotate_left
                                                        · intro w'
                                                          go_simp
                                                          with_reducible rfl
                                                        rotate_left
                                                        · simp only [Act.put, List.setIfInBounds_toArray, List.set_cons_zero, List.set_cons_succ, i64_w, i32_w]
                                                          rfl
                                                        refine take_ (i := 15) (N := some 73) (v := ?_) (a' := ?_) #[true, true, true, true, true, true, true, true, true, true, true, true, true, true, true, true, false, false, false] rfl rfl (take_ofW HT_.out HW_.out (by kernel_rfl)) (fun _ _ _ h => h) (Or.inl ⟨by rfl, ?_⟩) hHeld ?_ ?_
                                                        rotate_left
                                                        · rintro w' ⟨s0, s1, s2, s3⟩
                                                          go_simp
                                                          with_reducible rfl
                                                        rotate_left
                                                        · simp only [Act.put, List.setIfInBounds_toArray, List.set_cons_zero, List.set_cons_succ, i64_w, i32_w]
                                                          rfl
                                                        refine pure_ (i := 16) (N := some 74) (v := ?_) (a' := ?_) #[true, true, true, true, true, true, true, true, true, true, true, true, true, true, true, true, true, false, false] rfl rfl (any_of HT_.out (by kernel_rfl)) (fun _ _ _ h => h) (Or.inl ⟨by rfl, ?_⟩) ?_ ?_
                                                        rotate_left
                                                        · intro w'
                                                          go_simp
                                                          with_reducible rfl
                                                        rotate_left
                                                        · simp only [Act.put, List.setIfInBounds_toArray, List.set_cons_zero, List.set_cons_succ, i64_w, i32_w]
                                                          rfl
                                                        refine pure_ (i := 17) (N := some 75) (v := ?_) (a' := ?_) #[true, true, true, true, true, true, true, true, true, true, true, true, true, true, true, true, true, true, false] rfl rfl (any_of HT_.out (by kernel_rfl)) (fun _ _ _ h => h) (Or.inl ⟨by rfl, ?_⟩) ?_ ?_
                                                        rotate_left
                                                        · intro w'
                                                          go_simp
                                                          with_reducible rfl
                                                        rotate_left
                                                        · simp only [Act.put, List.setIfInBounds_toArray, List.set_cons_zero, List.set_cons_succ, i64_w, i32_w]
                                                          rfl
                                                        refine last_ (i := 18) (N := none) #[true, true, true, true, true, true, true, true, true, true, true, true, true, true, true, true, true, true, true] rfl rfl (one_of HT_.out (by kernel_rfl)) (by decide) (fun K hK => ?_)
                                                        refine skip_ (w1 := ?_) (by rfl) rfl ?_ ?_
                                                        rotate_left
                                                        · go_simp
                                                          rfl
                                                        refine hK.out _ _ ?_
                                                        clear hK K
                                                        refine done_ (done_of HT_.out (by kernel_rfl)) ?_
                                                        try go_wp2
                                                        (try simp only [← hl11_4, ← hl39_4])
                                                        go_roundg k4
                                                        case measure => have := HK1.out; have := HK2.out; have := HK3.out; have := HK4.out; omega
                                                        case rel => exact ⟨(y226), (wrap64 (x16_4 - 1)), (x39_4), (by first | rfl | (simp; done) | (simp [*]; done)), H', ⟨by have := HK1.out; have := HK2.out; have := HK3.out; have := HK4.out; omega⟩, ⟨by (try simp only [hl11_1]); (try simp only [hl11_2]); (try simp only [hl39_2]); (try simp only [hl11_3]); (try simp only [hl39_3]); (try simp only [hl11_4]); (try simp only [hl39_4]); (with_reducible repeat (first | apply Kd.S_alloc | apply Kd.S_drewN | apply Kd.S_drew)); exact HQ60.out⟩, ⟨by (try simp only [hl11_1]); (try simp only [hl11_2]); (try simp only [hl39_2]); (try simp only [hl11_3]); (try simp only [hl39_3]); (try simp only [hl11_4]); (try simp only [hl39_4]); (with_reducible repeat (first | apply Kd.R_alloc | apply Kd.R_drewN | apply Kd.R_drew)); exact Kd.R_mono (Kd.R_far (p := ⟨go45, (x16_4 : Int).toNat, none⟩) (Kd.R_far1 HO_39.out rfl ((HL220_0.out.1 _ rfl).1)) (fun _ hk => hk.2) (.int .i64 (wrap64 ((rd (rd_L3 x11_4 x15_3) x16_4) + (rd (rd_L3 x11_4 (ji41)) x16_4))))) (fun _ hk => trivial)⟩, ⟨by repeat (first | (with_reducible first | exact HB.out | apply below_alloc | apply pw_below_drewN | apply below_drew1 | refine below_set ?_ GB45.out) | exact HB.out)⟩⟩
                                                    · rw [if_neg c44] at H
                                                      exact absurd H (by simp)
                                                  · rw [if_neg c43] at H
                                                    exact absurd H (by simp)
                                                · rw [if_neg c42] at H
                                                  exact absurd H (by simp)
                                              · rw [if_neg c40] at H
                                                exact absurd H (by simp)
                                            · rw [if_neg c39] at H
                                              exact absurd H (by simp)
                                          · rw [if_neg c38] at H
                                            exact absurd H (by simp)
                                        · rw [if_neg c37] at H
                                          exact absurd H (by simp)
                                      · rw [if_neg c36] at H
                                        have c36b0 : decide ((rd x39_2 x41_2) ≤ x15_3) = false := decide_eq_false c36
                                        clear c36
                                        by_cases c62 : x16_4 ≥ (rd x39_2 x41_2)
                                        · rw [if_pos c62] at H
                                          have c62b0 : decide ((rd x39_2 x41_2) ≤ x16_4) = true := decide_eq_true c62
                                          clear c62
                                          by_cases c63 : 0 ≤ x15_3
                                          · rw [if_pos c63] at H
                                            have c63b0 : decide (0 ≤ x15_3) = true := decide_eq_true c63
                                            clear c63
                                            by_cases c64 : x15_3 < (x11_4.length : Int)
                                            · rw [if_pos c64] at H
                                              have c64b0 : decide (x15_3 < (x11_4.length : Int)) = true := decide_eq_true c64
                                              (try simp only [hl11_1] at c64b0)
                                              (try simp only [hl11_2] at c64b0)
                                              (try simp only [hl39_2] at c64b0)
                                              (try simp only [hl11_3] at c64b0)
                                              (try simp only [hl39_3] at c64b0)
                                              (try simp only [hl11_4] at c64b0)
                                              (try simp only [hl39_4] at c64b0)
                                              clear c64
                                              by_cases c65 : 0 ≤ x16_4
                                              · rw [if_pos c65] at H
                                                have c65b0 : decide (0 ≤ x16_4) = true := decide_eq_true c65
                                                clear c65
                                                by_cases c66 : x16_4 < ((rd_L3 x11_4 x15_3).length : Int)
                                                · rw [if_pos c66] at H
                                                  have c66b0 : decide (x16_4 < ((rd_L3 x11_4 x15_3).length : Int)) = true := decide_eq_true c66
                                                  (try simp only [hl11_1] at c66b0)
                                                  (try simp only [hl11_2] at c66b0)
                                                  (try simp only [hl39_2] at c66b0)
                                                  (try simp only [hl11_3] at c66b0)
                                                  (try simp only [hl39_3] at c66b0)
                                                  (try simp only [hl11_4] at c66b0)
                                                  (try simp only [hl39_4] at c66b0)
                                                  clear c66
                                                  obtain ⟨ji67, hji67⟩ : ∃ j_ : Int, (wrap64 (x16_4 - (rd x39_2 x41_2))) = j_ := ⟨_, rfl⟩
                                                  replace H : (if 0 ≤ (ji67) then (if (ji67) < ((rd_L3 x11_4 x15_3).length : Int) then (impl_kept.l3 k4 a2 a3 (x11_4.set (x15_3 : Int).toNat ((rd_L3 x11_4 x15_3).set (x16_4 : Int).toNat (wrap64 ((rd (rd_L3 x11_4 x15_3) x16_4) + (rd (rd_L3 x11_4 x15_3) (ji67)))))) (rd x39_2 x41_2) x15_3 (wrap64 (x16_4 - 1)) x39_4 (t214.length : Int) x41_2) else (none)) else (none)) = some r := by first | (rw [hji67] at H; exact H) | (simp only [hji67] at H ⊢; exact H)
                                                  have hji67w : (IntKind.i64.wrap (x16_4 - (rd x39_2 x41_2))) = ji67 := (i64_w _).trans hji67
                                                  by_cases c68 : 0 ≤ (ji67)
                                                  · rw [if_pos c68] at H
                                                    have c68b0 : decide (0 ≤ (ji67)) = true := decide_eq_true c68
                                                    clear c68
                                                    by_cases c69 : (ji67) < ((rd_L3 x11_4 x15_3).length : Int)
                                                    · rw [if_pos c69] at H
                                                      have c69b0 : decide ((ji67) < ((rd_L3 x11_4 x15_3).length : Int)) = true := decide_eq_true c69
                                                      (try simp only [hl11_1] at c69b0)
                                                      (try simp only [hl11_2] at c69b0)
                                                      (try simp only [hl39_2] at c69b0)
                                                      (try simp only [hl11_3] at c69b0)
                                                      (try simp only [hl39_3] at c69b0)
                                                      (try simp only [hl11_4] at c69b0)
                                                      (try simp only [hl39_4] at c69b0)
                                                      clear c69
                                                      obtain ⟨y238, hy238⟩ : ∃ y_ : List Int, y_ = ((rd_L3 x11_4 x15_3).set (x16_4 : Int).toNat (wrap64 ((rd (rd_L3 x11_4 x15_3) x16_4) + (rd (rd_L3 x11_4 x15_3) (ji67))))) := ⟨_, rfl⟩
                                                      replace H : (impl_kept.l3 k4 a2 a3 (x11_4.set (x15_3 : Int).toNat y238) (rd x39_2 x41_2) x15_3 (wrap64 (x16_4 - 1)) x39_4 (t214.length : Int) x41_2) = some r := by first | (rw [hy238]; with_reducible exact H) | (have H2_ := (Option.bind_some _ _).symm.trans H; rw [hy238]; with_reducible exact H2_) | (have H2_ := (Option.bind_some _ _).symm.trans H; with_reducible exact H2_) | with_reducible exact H | (rw [hy238]; exact H) | exact H
                                                      have Ny238 := Aside0.mk hy238
                                                      clear hy238
                                                      obtain ⟨y240, hy240⟩ : ∃ y_ : List (List Int), y_ = (x11_4.set (x15_3 : Int).toNat y238) := ⟨_, rfl⟩
                                                      replace H : (impl_kept.l3 k4 a2 a3 y240 (rd x39_2 x41_2) x15_3 (wrap64 (x16_4 - 1)) x39_4 (t214.length : Int) x41_2) = some r := by first | (rw [hy240]; with_reducible exact H) | (have H2_ := (Option.bind_some _ _).symm.trans H; rw [hy240]; with_reducible exact H2_) | (have H2_ := (Option.bind_some _ _).symm.trans H; with_reducible exact H2_) | with_reducible exact H | (rw [hy240]; exact H) | exact H
                                                      have Ny240 := Aside0.mk hy240
                                                      clear hy240
                                                      have H' := Aside0.mk H
                                                      clear H
                                                      try go_wp2
                                                      have n0_ := Aside0.mk (Kd.S_drew HO_11.out)
                                                      have n1_ := Aside0.mk (Kd.R_drew HO_39.out)
                                                      have n2_ := Aside0.mk (below_drew1 HB.out)
                                                      clear HO_11
                                                      clear HO_39
                                                      clear HB
                                                      have HO_11 := n0_
                                                      have HO_39 := n1_
                                                      have HB := n2_
                                                      clear n0_ n1_ n2_
                                                      have p234 : 0 ≤ (x15_3 : Int) := of_decide_eq_true (by first | (with_reducible assumption) | assumption)
                                                      have q234 : x15_3 < (x11_4.length : Int) := of_decide_eq_true (by first | (with_reducible assumption) | assumption)
                                                      obtain ⟨ad234, A234_0, c234_0, e234, hx234_0, hl234_0, hi234_0⟩ := at_L3 (Kd.S_reads' HO_11.out).2.2 x15_3 p234 q234
                                                      obtain rfl : ad210 = ad234 := (by injection e234)
                                                      obtain ⟨ce234, hce234, hMe234, hcc234⟩ := Kd.S_get HO_11.out [] x15_3 p234 (by first | exact q234 | exact of_decide_eq_true (by first | (with_reducible assumption) | assumption) | (have e_ := (Kd.S_reads' HO_11.out).1; omega))
                                                      obtain ⟨ve234_0, rfl, ge234_0⟩ := hMe234
                                                      have hv234_0 := hcc234 0 _ rfl
                                                      rw [Nat.add_zero, show ((Kd.slice 3 (Kd.int .i64))).sz = 1 from rfl, Nat.mul_one] at hv234_0
                                                      replace hv234_0 := Option.some.inj (hv234_0.symm.trans hx234_0)
                                                      rw [hv234_0] at ge234_0
                                                      have HL234_0 := Aside0.mk (show Kd.R (Kd.int .i64) 3 _ _ _ _ (rd_L3 x11_4 x15_3) from ge234_0)
                                                      clear hv234_0 ge234_0
                                                      have HX234_0 := Aside0.mk hx234_0
                                                      clear hcc234 hce234
                                                      have HR234_0 := Aside0.mk hi234_0
                                                      have HC234_0 := Aside0.mk hl234_0
                                                      clear hi234_0 hl234_0
                                                      replace p234 := eq_true p234
                                                      replace q234 := eq_true q234
                                                      have p235 : 0 ≤ (x16_4 : Int) := of_decide_eq_true (by first | (with_reducible assumption) | assumption)
                                                      have q235 : x16_4 < ((rd_L3 x11_4 x15_3).length : Int) := of_decide_eq_true (by first | (with_reducible assumption) | assumption)
                                                      obtain ⟨ad235, e235, hx235_0⟩ := Kd.at_int (by repeat (first | (with_reducible exact HR234_0.out) | (with_reducible refine Kd.C_alloc ?_ _) | (with_reducible refine Kd.C_drewN ?_ _) | (with_reducible refine Kd.C_drew ?_) | exact HR234_0.out)) x16_4 p235 q235
                                                      cases e235
                                                      replace p235 := eq_true p235
                                                      replace q235 := eq_true q235
                                                      have p236 : 0 ≤ (x15_3 : Int) := of_decide_eq_true (by first | (with_reducible assumption) | assumption)
                                                      have q236 : x15_3 < (x11_4.length : Int) := of_decide_eq_true (by first | (with_reducible assumption) | assumption)
                                                      obtain ⟨ad236, A236_0, c236_0, e236, hx236_0, hl236_0, hi236_0⟩ := at_L3 (Kd.S_reads' HO_11.out).2.2 x15_3 p236 q236
                                                      obtain rfl : ad210 = ad236 := (by injection e236)
                                                      obtain ⟨ce236, hce236, hMe236, hcc236⟩ := Kd.S_get HO_11.out [] x15_3 p236 (by first | exact q236 | exact of_decide_eq_true (by first | (with_reducible assumption) | assumption) | (have e_ := (Kd.S_reads' HO_11.out).1; omega))
                                                      obtain ⟨ve236_0, rfl, ge236_0⟩ := hMe236
                                                      have hv236_0 := hcc236 0 _ rfl
                                                      rw [Nat.add_zero, show ((Kd.slice 3 (Kd.int .i64))).sz = 1 from rfl, Nat.mul_one] at hv236_0
                                                      replace hv236_0 := Option.some.inj (hv236_0.symm.trans hx236_0)
                                                      rw [hv236_0] at ge236_0
                                                      have HL236_0 := Aside0.mk (show Kd.R (Kd.int .i64) 3 _ _ _ _ (rd_L3 x11_4 x15_3) from ge236_0)
                                                      clear hv236_0 ge236_0
                                                      have HX236_0 := Aside0.mk hx236_0
                                                      clear hcc236 hce236
                                                      have HR236_0 := Aside0.mk hi236_0
                                                      have HC236_0 := Aside0.mk hl236_0
                                                      clear hi236_0 hl236_0
                                                      replace p236 := eq_true p236
                                                      replace q236 := eq_true q236
                                                      have ea_ := Option.some.inj (hx234_0.symm.trans hx236_0)
                                                      injection ea_ with ea_ en_ ec_
                                                      subst ea_
                                                      subst ec_
                                                      clear en_
                                                      have p237 : 0 ≤ ((ji67) : Int) := of_decide_eq_true (by first | (with_reducible assumption) | assumption)
                                                      have q237 : (ji67) < ((rd_L3 x11_4 x15_3).length : Int) := of_decide_eq_true (by first | (with_reducible assumption) | assumption)
                                                      obtain ⟨ad237, e237, hx237_0⟩ := Kd.at_int (by repeat (first | (with_reducible exact HR236_0.out) | (with_reducible refine Kd.C_alloc ?_ _) | (with_reducible refine Kd.C_drewN ?_ _) | (with_reducible refine Kd.C_drew ?_) | exact HR236_0.out)) (ji67) p237 q237
                                                      cases e237
                                                      replace p237 := eq_true p237
                                                      replace q237 := eq_true q237
                                                      have p70 : 0 ≤ (x16_4 : Int) := of_decide_eq_true (by first | (with_reducible assumption) | assumption)
                                                      have q70 : (x16_4 : Int) < (((rd_L3 x11_4 x15_3).length : Int) : Int) := of_decide_eq_true (by first | (with_reducible assumption) | assumption)
                                                      obtain ⟨go70, co70, eo70, gb70, gl70, cl70, HG70⟩ := Kd.R_form HL234_0.out (by omega)
                                                      (first | cases eo70 | (injection eo70 with ea_ en_ ec_; (first | subst ea_ | (injection ea_ with ea_; subst ea_)); subst ec_; clear en_))
                                                      have GB70 := Aside0.mk gb70
                                                      have GG70 := Aside0.mk HG70
                                                      clear gb70 gl70 HG70
                                                      (first | simp only [add_plain] at hx237_0 | skip)
                                                      obtain ⟨hx70_0, hf70_0⟩ := Kd.R_celln 0 HL234_0.out (x16_4 : Int) p70 q70
                                                      replace p70 := eq_true p70
                                                      replace q70 := eq_true q70
                                                      have hq72 : (x15_3 : Int) < (x11_4.length : Int) := (by have h_ : (x15_3 : Int) < ((x11_4.length : Int) : Int) := of_decide_eq_true (by first | (with_reducible assumption) | assumption); first | exact h_ | (have e_ := (Kd.S_reads' HO_11.out).1; omega) | simpa only [List.length_set, List.length_set] using h_)
                                                      obtain ⟨oki72, ce72, hcl72, hM72, hcc72, hok72, hbk72⟩ := Kd.S_borrow HO_11.out [] (x15_3 : Int) (of_decide_eq_true (by first | (with_reducible assumption) | assumption)) (by first | exact hq72 | exact of_decide_eq_true (by first | (with_reducible assumption) | assumption))
                                                      obtain ⟨ve72_0, rfl, ge72_0⟩ := hM72
                                                      have hv72 := hcc72 0 _ rfl
                                                      rw [Nat.add_zero, show ((Kd.slice 3 (Kd.int .i64))).sz = 1 from rfl, Nat.mul_one] at hv72
                                                      replace hv72 := Option.some.inj (hv72.symm.trans HX234_0.out)
                                                      subst hv72
                                                      clear hcc72 hcl72
                                                      replace ge72_0 := (show Kd.R (Kd.int .i64) 3 _ _ _ _ (rd_L3 x11_4 x15_3) from ge72_0)
                                                      have HP72 := Kd.R_putg ge72_0 (x16_4 : Int) (wrap64 ((rd (rd_L3 x11_4 x15_3) x16_4) + (rd (rd_L3 x11_4 x15_3) (ji67))))
                                                      rw [← Ny238.out] at HP72
                                                      have HS72 := hbk72 HP72.2 (fun k_ e_ => by injection e_ with e_; subst e_; exact ge72_0.1 _ rfl) (x' := y238) (Kd.M_row HP72.1)
                                                      rw [← Ny240.out] at HS72
                                                      have HQ72 := Aside0.mk HS72
                                                      clear HP72 HS72 hbk72 hok72
                                                      (try simp only [add_plain] at hx234_0)
                                                      (try simp only [add_plain] at hx235_0)
                                                      (try simp only [add_plain] at hx236_0)
                                                      (try simp only [add_plain] at hx237_0)
                                                      refine start_ (n := 19) (S := fun w' => w'.cell? (ad210.add (x15_3).toNat) = some (.slice (some ⟨go70, 0, none⟩) (rd_L3 x11_4 x15_3).length c234_0) ∧ w'.cell? ⟨go70, (x16_4).toNat, none⟩ = some (.int .i64 (rd (rd_L3 x11_4 x15_3) x16_4)) ∧ w'.cell? (ad210.add (x15_3).toNat) = some (.slice (some ⟨go70, 0, none⟩) (rd_L3 x11_4 x15_3).length c234_0) ∧ w'.cell? ⟨go70, ((ji67)).toNat, none⟩ = some (.int .i64 (rd (rd_L3 x11_4 x15_3) (ji67)))) (ds := [18]) #[false, false, false, false, false, false, false, false, false, false, false, false, false, false, false, false, false, false, false] (by kernel_rfl) rfl rfl ⟨hx234_0, hx235_0, hx236_0, hx237_0⟩ (fun hHeld => ?_); refine with_tabW impl_kept.tab20 impl_kept.bits20 (fun HT_ HW_ => ?_)
                                                      generalize wr.drew = w71 at HO_11 HO_39 HB GG70 HL234_0 HL236_0 HQ72 HR234_0 HR236_0 HX234_0 HX236_0 hf70_0 hx234_0 hx235_0 hx236_0 hx237_0 hx70_0 hHeld ⊢
                                                      refine pure_ (i := 0) (N := some 79) (v := ?_) (a' := ?_) #[true, false, false, false, false, false, false, false, false, false, false, false, false, false, false, false, false, false, false] rfl rfl (any_of HT_.out (by kernel_rfl)) (fun _ _ _ h => h) (Or.inl ⟨by rfl, ?_⟩) ?_ ?_
                                                      rotate_left
                                                      · intro w'
                                                        go_simp
                                                        with_reducible rfl
                                                      rotate_left
                                                      · simp only [Act.put, List.setIfInBounds_toArray, List.set_cons_zero, List.set_cons_succ, i64_w, i32_w]
                                                        rfl
                                                      refine pure_ (i := 1) (N := some 80) (v := ?_) (a' := ?_) #[true, true, false, false, false, false, false, false, false, false, false, false, false, false, false, false, false, false, false] rfl rfl (any_of HT_.out (by kernel_rfl)) (fun _ _ _ h => h) (Or.inl ⟨by rfl, ?_⟩) ?_ ?_
                                                      rotate_left
                                                      · intro w'
                                                        go_simp
                                                        with_reducible rfl
                                                      rotate_left
                                                      · simp only [Act.put, List.setIfInBounds_toArray, List.set_cons_zero, List.set_cons_succ, i64_w, i32_w]
                                                        rfl
                                                      refine pure_ (i := 2) (N := some 81) (v := ?_) (a' := ?_) #[true, true, true, false, false, false, false, false, false, false, false, false, false, false, false, false, false, false, false] rfl rfl (any_of HT_.out (by kernel_rfl)) (fun _ _ _ h => h) (Or.inl ⟨by rfl, ?_⟩) ?_ ?_
                                                      rotate_left
                                                      · intro w'
                                                        go_simp
                                                        with_reducible rfl
                                                      rotate_left
                                                      · simp only [Act.put, List.setIfInBounds_toArray, List.set_cons_zero, List.set_cons_succ, i64_w, i32_w]
                                                        rfl
                                                      refine pure_ (i := 4) (N := some 83) (v := ?_) (a' := ?_) #[true, true, true, false, true, false, false, false, false, false, false, false, false, false, false, false, false, false, false] rfl rfl (any_of HT_.out (by kernel_rfl)) (fun _ _ _ h => h) (Or.inl ⟨by rfl, ?_⟩) ?_ ?_
                                                      rotate_left
                                                      · intro w'
                                                        go_simp
                                                        with_reducible rfl
                                                      rotate_left
                                                      · simp only [Act.put, List.setIfInBounds_toArray, List.set_cons_zero, List.set_cons_succ, i64_w, i32_w]
                                                        rfl
                                                      refine pure_ (i := 7) (N := some 86) (v := ?_) (a' := ?_) #[true, true, true, false, true, false, false, true, false, false, false, false, false, false, false, false, false, false, false] rfl rfl (any_of HT_.out (by kernel_rfl)) (fun _ _ _ h => h) (Or.inl ⟨by rfl, ?_⟩) ?_ ?_
                                                      rotate_left
                                                      · intro w'
                                                        go_simp
                                                        with_reducible rfl
                                                      rotate_left
                                                      · simp only [Act.put, List.setIfInBounds_toArray, List.set_cons_zero, List.set_cons_succ, i64_w, i32_w]
                                                        rfl
                                                      refine pure_ (i := 8) (N := some 87) (v := ?_) (a' := ?_) #[true, true, true, false, true, false, false, true, true, false, false, false, false, false, false, false, false, false, false] rfl rfl (any_of HT_.out (by kernel_rfl)) (fun _ _ _ h => h) (Or.inl ⟨by rfl, ?_⟩) ?_ ?_
                                                      rotate_left
                                                      · intro w'
                                                        go_simp
                                                        with_reducible rfl
                                                      rotate_left
                                                      · simp only [Act.put, List.setIfInBounds_toArray, List.set_cons_zero, List.set_cons_succ, i64_w, i32_w]
                                                        rfl
                                                      refine pure_ (i := 9) (N := some 88) (v := ?_) (a' := ?_) #[true, true, true, false, true, false, false, true, true, true, false, false, false, false, false, false, false, false, false] rfl rfl (any_of HT_.out (by kernel_rfl)) (fun _ _ _ h => h) (Or.inl ⟨by rfl, ?_⟩) ?_ ?_
                                                      rotate_left
                                                      · intro w'
                                                        go_simp
                                                        with_reducible rfl
                                                      rotate_left
                                                      · simp only [Act.put, List.setIfInBounds_toArray, List.set_cons_zero, List.set_cons_succ, i64_w, i32_w]
                                                        rfl
                                                      refine pure_ (i := 11) (N := some 90) (v := ?_) (a' := ?_) #[true, true, true, false, true, false, false, true, true, true, false, true, false, false, false, false, false, false, false] rfl rfl (any_of HT_.out (by kernel_rfl)) (fun _ _ _ h => h) (Or.inl ⟨by rfl, ?_⟩) ?_ ?_
                                                      rotate_left
                                                      · intro w'
                                                        go_simp
                                                        with_reducible rfl
                                                      rotate_left
                                                      · simp only [Act.put, List.setIfInBounds_toArray, List.set_cons_zero, List.set_cons_succ, i64_w, i32_w]
                                                        rfl
                                                      refine pure_ (i := 12) (N := some 91) (v := ?_) (a' := ?_) #[true, true, true, false, true, false, false, true, true, true, false, true, true, false, false, false, false, false, false] rfl rfl (any_of HT_.out (by kernel_rfl)) (fun _ _ _ h => h) (Or.inl ⟨by rfl, ?_⟩) ?_ ?_
                                                      rotate_left
                                                      · intro w'
                                                        go_simp
                                                        with_reducible rfl
                                                      rotate_left
                                                      · simp only [Act.put, List.setIfInBounds_toArray, List.set_cons_zero, List.set_cons_succ, i64_w, i32_w]
                                                        rfl
                                                      refine pure_ (i := 13) (N := some 92) (v := ?_) (a' := ?_) #[true, true, true, false, true, false, false, true, true, true, false, true, true, true, false, false, false, false, false] rfl rfl (any_of HT_.out (by kernel_rfl)) (fun _ _ _ h => h) (Or.inl ⟨by rfl, ?_⟩) ?_ ?_
                                                      rotate_left
                                                      · intro w'
                                                        go_simp
                                                        with_reducible rfl
                                                      rotate_left
                                                      · simp only [Act.put, List.setIfInBounds_toArray, List.set_cons_zero, List.set_cons_succ, i64_w, i32_w]
                                                        rfl
                                                      refine take_ (i := 3) (N := some 82) (v := ?_) (a' := ?_) #[true, true, true, true, true, false, false, true, true, true, false, true, true, true, false, false, false, false, false] rfl rfl (take_ofW HT_.out HW_.out (by kernel_rfl)) (fun _ _ _ h => h) (Or.inl ⟨by rfl, ?_⟩) hHeld ?_ ?_
                                                      rotate_left
                                                      · rintro w' ⟨s0, s1, s2, s3⟩
                                                        go_simp
                                                        with_reducible rfl
                                                      rotate_left
                                                      · simp only [Act.put, List.setIfInBounds_toArray, List.set_cons_zero, List.set_cons_succ, i64_w, i32_w]
                                                        rfl
                                                      refine pure_ (i := 5) (N := some 84) (v := ?_) (a' := ?_) #[true, true, true, true, true, true, false, true, true, true, false, true, true, true, false, false, false, false, false] rfl rfl (any_of HT_.out (by kernel_rfl)) (fun _ _ _ h => h) (Or.inl ⟨by rfl, ?_⟩) ?_ ?_
                                                      rotate_left
                                                      · intro w'
                                                        go_simp
                                                        with_reducible rfl
                                                      rotate_left
                                                      · simp only [Act.put, List.setIfInBounds_toArray, List.set_cons_zero, List.set_cons_succ, i64_w, i32_w]
                                                        rfl
                                                      refine take_ (i := 6) (N := some 85) (v := ?_) (a' := ?_) #[true, true, true, true, true, true, true, true, true, true, false, true, true, true, false, false, false, false, false] rfl rfl (take_ofW HT_.out HW_.out (by kernel_rfl)) (fun _ _ _ h => h) (Or.inl ⟨by rfl, ?_⟩) hHeld ?_ ?_
                                                      rotate_left
                                                      · rintro w' ⟨s0, s1, s2, s3⟩
                                                        go_simp
                                                        with_reducible rfl
                                                      rotate_left
                                                      · simp only [Act.put, List.setIfInBounds_toArray, List.set_cons_zero, List.set_cons_succ, i64_w, i32_w]
                                                        rfl
                                                      refine take_ (i := 10) (N := some 89) (v := ?_) (a' := ?_) #[true, true, true, true, true, true, true, true, true, true, true, true, true, true, false, false, false, false, false] rfl rfl (take_ofW HT_.out HW_.out (by kernel_rfl)) (fun _ _ _ h => h) (Or.inl ⟨by rfl, ?_⟩) hHeld ?_ ?_
                                                      rotate_left
                                                      · rintro w' ⟨s0, s1, s2, s3⟩
                                                        go_simp
                                                        with_reducible rfl
                                                      rotate_left
                                                      · simp only [Act.put, List.setIfInBounds_toArray, List.set_cons_zero, List.set_cons_succ, i64_w, i32_w]
                                                        rfl
                                                      refine pure_ (i := 14) (N := some 93) (v := ?_) (a' := ?_) #[true, true, true, true, true, true, true, true, true, true, true, true, true, true, true, false, false, false, false] rfl rfl (any_of HT_.out (by kernel_rfl)) (fun _ _ _ h => h) (Or.inl ⟨by rfl, ?_⟩) ?_ ?_
                                                      rotate_left
                                                      · intro w'
                                                        go_simp
                                                        with_reducible rfl
                                                      rotate_left
                                                      · simp only [Act.put, List.setIfInBounds_toArray, List.set_cons_zero, List.set_cons_succ, i64_w, i32_w]
                                                        rfl
                                                      refine take_ (i := 15) (N := some 94) (v := ?_) (a' := ?_) #[true, true, true, true, true, true, true, true, true, true, true, true, true, true, true, true, false, false, false] rfl rfl (take_ofW HT_.out HW_.out (by kernel_rfl)) (fun _ _ _ h => h) (Or.inl ⟨by rfl, ?_⟩) hHeld ?_ ?_
                                                      rotate_left
                                                      · rintro w' ⟨s0, s1, s2, s3⟩
                                                        go_simp
                                                        with_reducible rfl
                                                      rotate_left
                                                      · simp only [Act.put, List.setIfInBounds_toArray, List.set_cons_zero, List.set_cons_succ, i64_w, i32_w]
                                                        rfl
                                                      refine pure_ (i := 16) (N := some 95) (v := ?_) (a' := ?_) #[true, true, true, true, true, true, true, true, true, true, true, true, true, true, true, true, true, false, false] rfl rfl (any_of HT_.out (by kernel_rfl)) (fun _ _ _ h => h) (Or.inl ⟨by rfl, ?_⟩) ?_ ?_
                                                      rotate_left
                                                      · intro w'
                                                        go_simp
                                                        with_reducible rfl
                                                      rotate_left
                                                      · simp only [Act.put, List.setIfInBounds_toArray, List.set_cons_zero, List.set_cons_succ, i64_w, i32_w]
                                                        rfl
                                                      refine pure_ (i := 17) (N := some 96) (v := ?_) (a' := ?_) #[true, true, true, true, true, true, true, true, true, true, true, true, true, true, true, true, true, true, false] rfl rfl (any_of HT_.out (by kernel_rfl)) (fun _ _ _ h => h) (Or.inl ⟨by rfl, ?_⟩) ?_ ?_
                                                      rotate_left
                                                      · intro w'
                                                        go_simp
                                                        with_reducible rfl
                                                      rotate_left
                                                      · simp only [Act.put, List.setIfInBounds_toArray, List.set_cons_zero, List.set_cons_succ, i64_w, i32_w]
                                                        rfl
                                                      refine last_ (i := 18) (N := none) #[true, true, true, true, true, true, true, true, true, true, true, true, true, true, true, true, true, true, true] rfl rfl (one_of HT_.out (by kernel_rfl)) (by decide) (fun K hK => ?_)
                                                      refine skip_ (w1 := ?_) (by rfl) rfl ?_ ?_
                                                      rotate_left
                                                      · go_simp
                                                        rfl
                                                      refine hK.out _ _ ?_
                                                      clear hK K
                                                      refine done_ (done_of HT_.out (by kernel_rfl)) ?_
                                                      try go_wp2
                                                      (try simp only [← hl11_4, ← hl39_4])
                                                      go_roundg k4
                                                      case measure => have := HK1.out; have := HK2.out; have := HK3.out; have := HK4.out; omega
                                                      case rel => exact ⟨(y240), (wrap64 (x16_4 - 1)), (x39_4), (by first | rfl | (simp; done) | (simp [*]; done)), H', ⟨by have := HK1.out; have := HK2.out; have := HK3.out; have := HK4.out; omega⟩, ⟨by (try simp only [hl11_1]); (try simp only [hl11_2]); (try simp only [hl39_2]); (try simp only [hl11_3]); (try simp only [hl39_3]); (try simp only [hl11_4]); (try simp only [hl39_4]); (with_reducible repeat (first | apply Kd.S_alloc | apply Kd.S_drewN | apply Kd.S_drew)); exact HQ72.out⟩, ⟨by (try simp only [hl11_1]); (try simp only [hl11_2]); (try simp only [hl39_2]); (try simp only [hl11_3]); (try simp only [hl39_3]); (try simp only [hl11_4]); (try simp only [hl39_4]); (with_reducible repeat (first | apply Kd.R_alloc | apply Kd.R_drewN | apply Kd.R_drew)); exact Kd.R_mono (Kd.R_far (p := ⟨go70, (x16_4 : Int).toNat, none⟩) (Kd.R_far1 HO_39.out rfl ((HL234_0.out.1 _ rfl).1)) (fun _ hk => hk.2) (.int .i64 (wrap64 ((rd (rd_L3 x11_4 x15_3) x16_4) + (rd (rd_L3 x11_4 x15_3) (ji67)))))) (fun _ hk => trivial)⟩, ⟨by repeat (first | (with_reducible first | exact HB.out | apply below_alloc | apply pw_below_drewN | apply below_drew1 | refine below_set ?_ GB70.out) | exact HB.out)⟩⟩
                                                    · rw [if_neg c69] at H
                                                      exact absurd H (by simp)
                                                  · rw [if_neg c68] at H
                                                    exact absurd H (by simp)
                                                · rw [if_neg c66] at H
                                                  exact absurd H (by simp)
                                              · rw [if_neg c65] at H
                                                exact absurd H (by simp)
                                            · rw [if_neg c64] at H
                                              exact absurd H (by simp)
                                          · rw [if_neg c63] at H
                                            exact absurd H (by simp)
                                        · rw [if_neg c62] at H
                                          have c62b0 : decide ((rd x39_2 x41_2) ≤ x16_4) = false := decide_eq_false c62
                                          clear c62
                                          have H' := Aside0.mk H
                                          clear H
                                          go_wp2
                                          (try simp only [← hl11_4, ← hl39_4])
                                          go_roundg k4
                                          case measure => have := HK1.out; have := HK2.out; have := HK3.out; have := HK4.out; omega
                                          case rel => exact ⟨(x11_4), (wrap64 (x16_4 - 1)), (x39_4), (by first | rfl | (simp; done) | (simp [*]; done)), H', ⟨by have := HK1.out; have := HK2.out; have := HK3.out; have := HK4.out; omega⟩, ⟨by (try simp only [hl11_1]); (try simp only [hl11_2]); (try simp only [hl39_2]); (try simp only [hl11_3]); (try simp only [hl39_3]); (try simp only [hl11_4]); (try simp only [hl39_4]); (with_reducible repeat (first | apply Kd.S_alloc | apply Kd.S_drewN | apply Kd.S_drew)); exact HO_11.out⟩, ⟨by (try simp only [hl11_1]); (try simp only [hl11_2]); (try simp only [hl39_2]); (try simp only [hl11_3]); (try simp only [hl39_3]); (try simp only [hl11_4]); (try simp only [hl39_4]); (with_reducible repeat (first | apply Kd.R_alloc | apply Kd.R_drewN | apply Kd.R_drew)); exact HO_39.out⟩, ⟨by repeat (first | (with_reducible first | exact HB.out | apply below_alloc | apply pw_below_drewN | apply below_drew1) | exact HB.out)⟩⟩
                                    · rw [if_neg c35] at H
                                      have c35b0 : decide (0 ≤ x16_4) = false := decide_eq_false c35
                                      clear c35
                                      have H' := Aside0.mk H
                                      clear H
                                      go_wp2
                                      (try simp only [← hl11_3, ← hl39_3, ← hl11_4, ← hl39_4])
                                      go_roundg k4
                                      case measure => have := HK1.out; have := HK2.out; have := HK3.out; have := HK4.out; omega
                                      case rel => exact ⟨(x11_4), (wrap64 (x15_3 - 1)), (x39_4), (by first | rfl | (simp; done) | (simp [*]; done)), H', ⟨by have := HK1.out; have := HK2.out; have := HK3.out; have := HK4.out; omega⟩, ⟨by (try simp only [hl11_1]); (try simp only [hl11_2]); (try simp only [hl39_2]); (try simp only [hl11_3]); (try simp only [hl39_3]); (try simp only [hl11_4]); (try simp only [hl39_4]); (with_reducible repeat (first | apply Kd.S_alloc | apply Kd.S_drewN | apply Kd.S_drew)); exact HO_11.out⟩, ⟨by (try simp only [hl11_1]); (try simp only [hl11_2]); (try simp only [hl39_2]); (try simp only [hl11_3]); (try simp only [hl39_3]); (try simp only [hl11_4]); (try simp only [hl39_4]); (with_reducible repeat (first | apply Kd.R_alloc | apply Kd.R_drewN | apply Kd.R_drew)); exact HO_39.out⟩, ⟨by repeat (first | (with_reducible first | exact HB.out | apply below_alloc | apply pw_below_drewN | apply below_drew1) | exact HB.out)⟩⟩
                              · rw [if_neg c34] at H
                                have c34b0 : decide (0 ≤ x15_3) = false := decide_eq_false c34
                                clear c34
                                have H' := Aside0.mk H
                                clear H
                                go_wp2
                                (try simp only [← hl11_2, ← hl39_2, ← hl11_3, ← hl39_3])
                                go_roundg k3
                                case measure => have := HK1.out; have := HK2.out; have := HK3.out; omega
                                case rel => exact ⟨(x11_3), (x39_3), (wrap64 (x41_2 + 1)), (by first | rfl | (simp; done) | (simp [*]; done)), H', ⟨by have := HK1.out; have := HK2.out; have := HK3.out; omega⟩, ⟨by (try simp only [hl11_1]); (try simp only [hl11_2]); (try simp only [hl39_2]); (try simp only [hl11_3]); (try simp only [hl39_3]); (with_reducible repeat (first | apply Kd.S_alloc | apply Kd.S_drewN | apply Kd.S_drew)); exact HO_11.out⟩, ⟨by (try simp only [hl11_1]); (try simp only [hl11_2]); (try simp only [hl39_2]); (try simp only [hl11_3]); (try simp only [hl39_3]); (with_reducible repeat (first | apply Kd.R_alloc | apply Kd.R_drewN | apply Kd.R_drew)); exact HO_39.out⟩, ⟨by repeat (first | (with_reducible first | exact HB.out | apply below_alloc | apply pw_below_drewN | apply below_drew1) | exact HB.out)⟩⟩
                        · rw [if_neg c33] at H
                          exact absurd H (by simp)
                      · rw [if_neg c32] at H
                        exact absurd H (by simp)
                    · rw [if_neg c31] at H
                      have c31b0 : decide (x41_2 < (t214.length : Int)) = false := decide_eq_false c31
                      (try simp only [hl11_1] at c31b0)
                      (try simp only [hl11_2] at c31b0)
                      (try simp only [hl39_2] at c31b0)
                      clear c31
                      by_cases c74 : 0 ≤ a2
                      · rw [if_pos c74] at H
                        have c74b0 : decide (0 ≤ a2) = true := decide_eq_true c74
                        clear c74
                        by_cases c75 : a2 < (x11_2.length : Int)
                        · rw [if_pos c75] at H
                          have c75b0 : decide (a2 < (x11_2.length : Int)) = true := decide_eq_true c75
                          (try simp only [hl11_1] at c75b0)
                          (try simp only [hl11_2] at c75b0)
                          (try simp only [hl39_2] at c75b0)
                          clear c75
                          by_cases c76 : 0 ≤ a3
                          · rw [if_pos c76] at H
                            have c76b0 : decide (0 ≤ a3) = true := decide_eq_true c76
                            clear c76
                            by_cases c77 : a3 < ((rd_L3 x11_2 a2).length : Int)
                            · rw [if_pos c77] at H
                              have c77b0 : decide (a3 < ((rd_L3 x11_2 a2).length : Int)) = true := decide_eq_true c77
                              (try simp only [hl11_1] at c77b0)
                              (try simp only [hl11_2] at c77b0)
                              (try simp only [hl39_2] at c77b0)
                              clear c77
                              obtain rfl := Option.some.inj H
                              have p217 : 0 ≤ (a2 : Int) := of_decide_eq_true (by first | (with_reducible assumption) | assumption)
                              have q217 : a2 < (x11_2.length : Int) := of_decide_eq_true (by first | (with_reducible assumption) | assumption)
                              obtain ⟨ad217, A217_0, c217_0, e217, hx217_0, hl217_0, hi217_0⟩ := at_L3 (Kd.S_reads' HO_11.out).2.2 a2 p217 q217
                              obtain rfl : ad210 = ad217 := (by injection e217)
                              obtain ⟨ce217, hce217, hMe217, hcc217⟩ := Kd.S_get HO_11.out [] a2 p217 (by first | exact q217 | exact of_decide_eq_true (by first | (with_reducible assumption) | assumption) | (have e_ := (Kd.S_reads' HO_11.out).1; omega))
                              obtain ⟨ve217_0, rfl, ge217_0⟩ := hMe217
                              have hv217_0 := hcc217 0 _ rfl
                              rw [Nat.add_zero, show ((Kd.slice 3 (Kd.int .i64))).sz = 1 from rfl, Nat.mul_one] at hv217_0
                              replace hv217_0 := Option.some.inj (hv217_0.symm.trans hx217_0)
                              rw [hv217_0] at ge217_0
                              have HL217_0 := Aside0.mk (show Kd.R (Kd.int .i64) 3 _ _ _ _ (rd_L3 x11_2 a2) from ge217_0)
                              clear hv217_0 ge217_0
                              have HX217_0 := Aside0.mk hx217_0
                              clear hcc217 hce217
                              have HR217_0 := Aside0.mk hi217_0
                              have HC217_0 := Aside0.mk hl217_0
                              clear hi217_0 hl217_0
                              replace p217 := eq_true p217
                              replace q217 := eq_true q217
                              have p218 : 0 ≤ (a3 : Int) := of_decide_eq_true (by first | (with_reducible assumption) | assumption)
                              have q218 : a3 < ((rd_L3 x11_2 a2).length : Int) := of_decide_eq_true (by first | (with_reducible assumption) | assumption)
                              obtain ⟨ad218, e218, hx218_0⟩ := Kd.at_int (by repeat (first | (with_reducible exact HR217_0.out) | (with_reducible refine Kd.C_alloc ?_ _) | (with_reducible refine Kd.C_drewN ?_ _) | (with_reducible refine Kd.C_drew ?_) | exact HR217_0.out)) a3 p218 q218
                              cases e218
                              replace p218 := eq_true p218
                              replace q218 := eq_true q218
                              go_wp2
                              go_ret
                              exact ⟨by first | rfl | (simp [errW_none, errW_some] <;> rfl) | (simp only [← hji6]; first | rfl | (simp [errW_none, errW_some] <;> rfl)) | (simp [*, errW_none, errW_some] <;> rfl), by repeat (first | (with_reducible first | exact HB.out | apply below_alloc | apply pw_below_drewN | apply below_drew1) | exact HB.out)⟩
                            · rw [if_neg c77] at H
                              exact absurd H (by simp)
                          · rw [if_neg c76] at H
                            exact absurd H (by simp)
                        · rw [if_neg c75] at H
                          exact absurd H (by simp)
                      · rw [if_neg c74] at H
                        exact absurd H (by simp)
              · rw [if_neg c24] at H
                exact absurd H (by simp)
            · rw [if_neg c23] at H
              exact absurd H (by simp)
    · rw [if_neg c8] at H
      exact absurd H (by simp)
  · rw [if_neg c7] at H
    exact absurd H (by simp)

end Go.Proofs.Ytpafamabndpcmaa.Q
