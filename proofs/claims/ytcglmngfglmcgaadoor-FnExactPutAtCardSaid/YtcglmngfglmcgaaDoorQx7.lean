/- The functions that the laws of this seat reach, each with its contract (written by this repo's wip/oprint). -/
import Derived.Test.YtcglmngfglmcgaaDoorQx0
import Derived.Test.YtcglmngfglmcgaaDoorQx4
import Derived.Test.YtcglmngfglmcgaaDoorQx5
import Derived.Test.YtcglmngfglmcgaaDoorQx6
namespace Go.Proofs.YtcglmngfglmcgaaDoor.Q
open Go.Proofs.YtcglmngfglmcgaaDoorV
open Go.RowKit Go.Proofs.YtcglmngfglmcgaaDoorW.PrintWords Go.Proofs.YtcglmngfglmcgaaDoorW.PrintLast Go.Proofs.YtcglmngfglmcgaaDoorW.PrintMore
attribute [local go_sem] max2_int min2_int max_two min_two max_three min_three max_four min_four   -- for this text's walks alone
set_option linter.unusedVariables false
set_option linter.unusedSimpArgs false

/-! ### impl_isBall: function 47 -/
def impl_isBall.f (a0 : Int) : Option (Bool) := if a0 = 111 then (some true) else ((impl_isName.f a0).bind fun t176 => (some t176))
set_option maxHeartbeats 8000000 in
set_option maxRecDepth 100000 in
theorem impl_isBall.calls (a0 : Int) (r : Bool) (w : World) (h : impl_isBall.f a0 = some r) :
    Calls Tryd.prog 47 #[.int .u8 a0] w fun e w' => e = .returned (.bool r) ∧ Drawn0 w w' := by
  have H : (if a0 = 111 then (some true) else ((impl_isName.f a0).bind fun t176 => (some t176))) = some r := h
  clear h
  by_cases c2 : a0 = 111
  · rw [if_pos c2] at H
    have c2b0 : (a0 == 111) = true := beq_iff_eq.mpr c2
    have c2b1 : (a0 != 111) = false := bne_eq_false_iff_eq.mpr c2
    clear c2
    obtain rfl := Option.some.inj H
    go_enter Tryd.func47, Tryd.ntmps47
    go_wp2
    go_ret
    exact ⟨by first | rfl | (simp; done) | (simp [*]; done), by repeat (first | exact Drawn0.refl _ | apply Drawn0.step)⟩
  · rw [if_neg c2] at H
    have c2b0 : (a0 == 111) = false := beq_eq_false_iff_ne.mpr c2
    have c2b1 : (a0 != 111) = true := bne_iff_ne.mpr c2
    replace H := Option.bind_eq_some_iff.mp H
    obtain ⟨t176, A30, H⟩ := H
    replace H : (some t176) = some r := H
    have A3 := Aside0.mk A30
    clear A30
    obtain rfl := Option.some.inj H
    go_enter Tryd.func47, Tryd.ntmps47
    go_wp2_with (first | (go_at_call 58; (with_reducible refine (impl_isName.calls a0 t176 _ A3.out).mono ?_); rintro e w' ⟨rfl, ⟨nd, rfl⟩⟩))
    go_ret
    exact ⟨by first | rfl | (simp; done) | (simp [*]; done), by repeat (first | exact Drawn0.refl _ | apply Drawn0.step)⟩

/-! ### impl_isCell: function 26 -/
def impl_isCell.f (a0 : ByteArray) : Option (Bool) := if (a0.size : Int) = 1 then (if 0 < (a0.size : Int) then (if (bt a0 0) = 35 then (some true) else (if (bt a0 0) = 46 then (some true) else ((impl_isBall.f (bt a0 0)).bind fun t177 => (some t177)))) else (none)) else (some false)
set_option maxHeartbeats 8000000 in
set_option maxRecDepth 100000 in
theorem impl_isCell.calls (a0 : ByteArray) (r : Bool) (w : World) (h : impl_isCell.f a0 = some r) :
    Calls Tryd.prog 26 #[.string a0] w fun e w' => e = .returned (.bool r) ∧ Drawn0 w w' := by
  have H : (if (a0.size : Int) = 1 then (if 0 < (a0.size : Int) then (if (bt a0 0) = 35 then (some true) else (if (bt a0 0) = 46 then (some true) else ((impl_isBall.f (bt a0 0)).bind fun t177 => (some t177)))) else (none)) else (some false)) = some r := h
  clear h
  by_cases c2 : (a0.size : Int) = 1
  · rw [if_pos c2] at H
    have c2b0 : ((a0.size : Int) == 1) = true := beq_iff_eq.mpr c2
    have c2b1 : ((a0.size : Int) != 1) = false := bne_eq_false_iff_eq.mpr c2
    clear c2
    by_cases c3 : 0 < (a0.size : Int)
    · rw [if_pos c3] at H
      have c3b0 : decide (0 < (a0.size : Int)) = true := decide_eq_true c3
      have c3b1 : decide (0 < a0.size) = true := decide_eq_true (by omega)
      clear c3
      by_cases c5 : (bt a0 0) = 35
      · rw [if_pos c5] at H
        have c5b0 : ((bt a0 0) == 35) = true := beq_iff_eq.mpr c5
        have c5b1 : ((bt a0 0) != 35) = false := bne_eq_false_iff_eq.mpr c5
        clear c5
        obtain rfl := Option.some.inj H
        have p4 : 0 ≤ (0 : Int) := (by omega)
        have q4 : 0 < a0.size := (by have : (0 : Int) < (a0.size : Int) := of_decide_eq_true (by first | (with_reducible assumption) | assumption); omega)
        have hx4 : ∀ h : 0 < a0.size, ((a0[0]'h).toNat : Int) = bt a0 0 := bt_at a0 0
        clear p4
        have qi4 : (0 < (a0.size : Int)) = True := eq_true (of_decide_eq_true (by first | (with_reducible assumption) | assumption))
        replace q4 := eq_true q4
        go_enter Tryd.func26, Tryd.ntmps26
        go_wp2
        go_ret
        exact ⟨by first | rfl | (simp; done) | (simp [*]; done), by repeat (first | exact Drawn0.refl _ | apply Drawn0.step)⟩
      · rw [if_neg c5] at H
        have c5b0 : ((bt a0 0) == 35) = false := beq_eq_false_iff_ne.mpr c5
        have c5b1 : ((bt a0 0) != 35) = true := bne_iff_ne.mpr c5
        by_cases c7 : (bt a0 0) = 46
        · rw [if_pos c7] at H
          have c7b0 : ((bt a0 0) == 46) = true := beq_iff_eq.mpr c7
          have c7b1 : ((bt a0 0) != 46) = false := bne_eq_false_iff_eq.mpr c7
          clear c7
          obtain rfl := Option.some.inj H
          have p4 : 0 ≤ (0 : Int) := (by omega)
          have q4 : 0 < a0.size := (by have : (0 : Int) < (a0.size : Int) := of_decide_eq_true (by first | (with_reducible assumption) | assumption); omega)
          have hx4 : ∀ h : 0 < a0.size, ((a0[0]'h).toNat : Int) = bt a0 0 := bt_at a0 0
          clear p4
          have qi4 : (0 < (a0.size : Int)) = True := eq_true (of_decide_eq_true (by first | (with_reducible assumption) | assumption))
          replace q4 := eq_true q4
          have p6 : 0 ≤ (0 : Int) := (by omega)
          have q6 : 0 < a0.size := (by have : (0 : Int) < (a0.size : Int) := of_decide_eq_true (by first | (with_reducible assumption) | assumption); omega)
          have hx6 : ∀ h : 0 < a0.size, ((a0[0]'h).toNat : Int) = bt a0 0 := bt_at a0 0
          clear p6
          have qi6 : (0 < (a0.size : Int)) = True := eq_true (of_decide_eq_true (by first | (with_reducible assumption) | assumption))
          replace q6 := eq_true q6
          go_enter Tryd.func26, Tryd.ntmps26
          go_wp2
          go_ret
          exact ⟨by first | rfl | (simp; done) | (simp [*]; done), by repeat (first | exact Drawn0.refl _ | apply Drawn0.step)⟩
        · rw [if_neg c7] at H
          have c7b0 : ((bt a0 0) == 46) = false := beq_eq_false_iff_ne.mpr c7
          have c7b1 : ((bt a0 0) != 46) = true := bne_iff_ne.mpr c7
          replace H := Option.bind_eq_some_iff.mp H
          obtain ⟨t177, A90, H⟩ := H
          replace H : (some t177) = some r := H
          have A9 := Aside0.mk A90
          clear A90
          obtain rfl := Option.some.inj H
          have p4 : 0 ≤ (0 : Int) := (by omega)
          have q4 : 0 < a0.size := (by have : (0 : Int) < (a0.size : Int) := of_decide_eq_true (by first | (with_reducible assumption) | assumption); omega)
          have hx4 : ∀ h : 0 < a0.size, ((a0[0]'h).toNat : Int) = bt a0 0 := bt_at a0 0
          clear p4
          have qi4 : (0 < (a0.size : Int)) = True := eq_true (of_decide_eq_true (by first | (with_reducible assumption) | assumption))
          replace q4 := eq_true q4
          have p6 : 0 ≤ (0 : Int) := (by omega)
          have q6 : 0 < a0.size := (by have : (0 : Int) < (a0.size : Int) := of_decide_eq_true (by first | (with_reducible assumption) | assumption); omega)
          have hx6 : ∀ h : 0 < a0.size, ((a0[0]'h).toNat : Int) = bt a0 0 := bt_at a0 0
          clear p6
          have qi6 : (0 < (a0.size : Int)) = True := eq_true (of_decide_eq_true (by first | (with_reducible assumption) | assumption))
          replace q6 := eq_true q6
          have p8 : 0 ≤ (0 : Int) := (by omega)
          have q8 : 0 < a0.size := (by have : (0 : Int) < (a0.size : Int) := of_decide_eq_true (by first | (with_reducible assumption) | assumption); omega)
          have hx8 : ∀ h : 0 < a0.size, ((a0[0]'h).toNat : Int) = bt a0 0 := bt_at a0 0
          clear p8
          have qi8 : (0 < (a0.size : Int)) = True := eq_true (of_decide_eq_true (by first | (with_reducible assumption) | assumption))
          replace q8 := eq_true q8
          go_enter Tryd.func26, Tryd.ntmps26
          go_wp2_with (first | (go_at_call 47; (with_reducible refine (impl_isBall.calls (bt a0 0) t177 _ A9.out).mono ?_); rintro e w' ⟨rfl, ⟨nd, rfl⟩⟩))
          go_ret
          exact ⟨by first | rfl | (simp; done) | (simp [*]; done), by repeat (first | exact Drawn0.refl _ | apply Drawn0.step)⟩
    · rw [if_neg c3] at H
      exact absurd H (by simp)
  · rw [if_neg c2] at H
    have c2b0 : ((a0.size : Int) == 1) = false := beq_eq_false_iff_ne.mpr c2
    have c2b1 : ((a0.size : Int) != 1) = true := bne_iff_ne.mpr c2
    obtain rfl := Option.some.inj H
    go_enter Tryd.func26, Tryd.ntmps26
    go_wp2
    go_ret
    exact ⟨by first | rfl | (simp; done) | (simp [*]; done), by repeat (first | exact Drawn0.refl _ | apply Drawn0.step)⟩

/-! ### impl_whole: function 28 -/
def impl_whole.f (k : Nat) (a0 : ByteArray) : Option (ByteArray × Bool) := (impl_IsTray.f k a0).bind fun t178 => (if t178 = true then (some (a0, true)) else (some ((⟨#[]⟩ : ByteArray), false)))
theorem impl_whole.mono : ∀ a0 k, LeO (impl_whole.f k a0) (impl_whole.f (k + 1) a0) := by
  intro a0 k
  unfold impl_whole.f
  repeat' first
      | (with_reducible exact impl_IsTray.mono _ _)
      | (with_reducible exact LeO.refl _)
      | (with_reducible exact LeO.none _)
      | (with_reducible refine LeO.ite ?_ ?_)
      | (with_reducible refine LeO.bind ?_ (fun _ => ?_))
      | exact impl_IsTray.mono _ _
      | exact LeO.none _
      | refine LeO.ite ?_ ?_
      | refine LeO.bind ?_ (fun _ => ?_)
set_option maxHeartbeats 8000000 in
set_option maxRecDepth 100000 in
theorem impl_whole.calls (k : Nat) (a0 : ByteArray) (r1 : ByteArray) (r2 : Bool) (w : World) (h : impl_whole.f k a0 = some (r1, r2)) :
    Calls Tryd.prog 28 #[.string a0] w fun e w' => e = .returned (.tuple #[.string r1, .bool r2]) ∧ Below w.heap.size w w' := by
  have HB := Aside0.mk (Below.refl w.heap.size w)
  have H : ((impl_IsTray.f k a0).bind fun t178 => (if t178 = true then (some (a0, true)) else (some ((⟨#[]⟩ : ByteArray), false)))) = some (r1, r2) := h
  clear h
  replace H := Option.bind_eq_some_iff.mp H
  obtain ⟨t178, A20, H⟩ := H
  replace H : (if t178 = true then (some (a0, true)) else (some ((⟨#[]⟩ : ByteArray), false))) = some (r1, r2) := H
  have A2 := Aside0.mk A20
  clear A20
  by_cases c3 : t178 = true
  · subst c3
    have H1 : (some (a0, true)) = some (r1, r2) := by rw [if_pos rfl] at H; exact H
    clear H
    have H := H1
    clear H1
    simp only [Option.some.injEq, Prod.mk.injEq] at H
    obtain ⟨rfl, rfl⟩ := H
    go_enter Tryd.func28, Tryd.ntmps28
    go_wp2_with (first | ((with_reducible refine gate_callee (f := 32) rfl ?_); refine goesL_ (some 5) rfl rfl Tryd.func32 (by kernel_rfl) rfl #[.string a0] rfl (by (try simp only [List.map_toArray, List.map_cons, List.map_nil]); first | done | rfl | (simp only [List.length_drop, List.length_take]; rfl)) ?_; (with_reducible refine (impl_IsTray.calls k a0 true _ A2.out).mono ?_); rintro e w4 ⟨rfl, hb⟩; refine ⟨_, rfl, ?_⟩; have n0_ := Aside0.mk (below_step (by repeat (first | (with_reducible first | exact HB.out | apply below_alloc | apply pw_below_drewN | apply below_drew1) | exact HB.out)) hb); clear HB; have HB := n0_; clear n0_; (try clear hb); (try clear hb2); (try clear hk); (try clear hi)))
    go_ret2
    exact ⟨by first | rfl | (simp [errW_none, errW_some] <;> rfl) | (simp [*, errW_none, errW_some] <;> rfl), by repeat (first | (with_reducible first | exact HB.out | apply below_alloc | apply pw_below_drewN | apply below_drew1) | exact HB.out)⟩
  · replace c3 := Bool.eq_false_iff.mpr c3
    subst c3
    have H1 : (some ((⟨#[]⟩ : ByteArray), false)) = some (r1, r2) := by rw [if_neg (show ¬ (false = true) by decide)] at H; exact H
    clear H
    have H := H1
    clear H1
    simp only [Option.some.injEq, Prod.mk.injEq] at H
    obtain ⟨rfl, rfl⟩ := H
    go_enter Tryd.func28, Tryd.ntmps28
    go_wp2_with (first | ((with_reducible refine gate_callee (f := 32) rfl ?_); refine goesL_ (some 5) rfl rfl Tryd.func32 (by kernel_rfl) rfl #[.string a0] rfl (by (try simp only [List.map_toArray, List.map_cons, List.map_nil]); first | done | rfl | (simp only [List.length_drop, List.length_take]; rfl)) ?_; (with_reducible refine (impl_IsTray.calls k a0 false _ A2.out).mono ?_); rintro e w5 ⟨rfl, hb⟩; refine ⟨_, rfl, ?_⟩; have n0_ := Aside0.mk (below_step (by repeat (first | (with_reducible first | exact HB.out | apply below_alloc | apply pw_below_drewN | apply below_drew1) | exact HB.out)) hb); clear HB; have HB := n0_; clear n0_; (try clear hb); (try clear hb2); (try clear hk); (try clear hi)))
    go_ret2
    exact ⟨by first | rfl | (simp [errW_none, errW_some] <;> rfl) | (simp [*, errW_none, errW_some] <;> rfl), by repeat (first | (with_reducible first | exact HB.out | apply below_alloc | apply pw_below_drewN | apply below_drew1) | exact HB.out)⟩

/-! ### impl_tray_text: function 29 -/
def impl_tray_text.f (a0_0 : Int) (a0_1 : Int) (l0_2 : List Int) : Option ByteArray := if 0 < a0_0 then (if a0_0 ≤ 1000000 then (if 0 < l0_2.length then (if l0_2.length ≤ 1000000 then (if (textOf a0_0.toNat l0_2).size ≤ 140737488355328 then (some (textOf a0_0.toNat l0_2)) else (none)) else (none)) else (none)) else (none)) else (none)
theorem impl_tray_text.calls (a0_0 : Int) (a0_1 : Int) (A0_2 : Option Addr) (c0_2 : Nat) (l0_2 : List Int) (r : ByteArray) (w : World) (hr0_2 : Kd.C (Kd.int .u8) w A0_2 l0_2.length l0_2) (hc0_2 : l0_2.length ≤ c0_2) (h : impl_tray_text.f a0_0 a0_1 l0_2 = some r) :
    Calls Tryd.prog 29 #[.agg #[.int .i64 a0_0, .int .i64 a0_1, .slice A0_2 l0_2.length c0_2]] w fun e w' => e = .returned (.string r) ∧ Below w.heap.size w w' := by
  unfold impl_tray_text.f at h
  by_cases h1 : 0 < a0_0
  · rw [if_pos h1] at h
    by_cases h2 : a0_0 ≤ 1000000
    · rw [if_pos h2] at h
      by_cases h3 : 0 < l0_2.length
      · rw [if_pos h3] at h
        by_cases h4 : l0_2.length ≤ 1000000
        · rw [if_pos h4] at h
          by_cases h5 : (textOf a0_0.toNat l0_2).size ≤ 140737488355328
          · rw [if_pos h5] at h
            obtain rfl := Option.some.inj h
            exact text_calls a0_0 a0_1 A0_2 c0_2 l0_2 w hr0_2 hc0_2 h1 h2 h3 h4 h5
          · rw [if_neg h5] at h
            cases h
        · rw [if_neg h4] at h
          cases h
      · rw [if_neg h3] at h
        cases h
    · rw [if_neg h2] at h
      cases h
  · rw [if_neg h1] at h
    cases h


/-! ### impl_PutAt: function 9 -/
def impl_PutAt.f (k : Nat) (a0 : ByteArray) (a1 : Int) (a2 : Int) (a3 : ByteArray) : Option (ByteArray × Bool) := (impl_isPlace.f k a0 a1 a2).bind fun p => (if p = true then ((impl_isCell.f a3).bind fun c => (if c = true then ((impl_read.f a0).bind fun q => (if (0 ≤ wrap64 (wrap64 (a2 * q.1) + a1) ∧ wrap64 (wrap64 (a2 * q.1) + a1) < (q.2.2.length : Int)) ∧ q.2.2.length ≤ 1000000 ∧ 0 < a3.size then ((impl_tray_text.f q.1 q.2.1 (q.2.2.set (wrap64 (wrap64 (a2 * q.1) + a1)).toNat (bt a3 0))).bind fun s => impl_whole.f k s) else none)) else some ((⟨#[]⟩ : ByteArray), false))) else some ((⟨#[]⟩ : ByteArray), false))
theorem impl_PutAt.mono : ∀ a0 a1 a2 a3 k, LeO (impl_PutAt.f k a0 a1 a2 a3) (impl_PutAt.f (k + 1) a0 a1 a2 a3) := by
  intro a0 a1 a2 a3 k
  unfold impl_PutAt.f
  exact LeO.bind (impl_isPlace.mono _ _ _ k) (fun p => LeO.ite (LeO.bind (LeO.refl _) (fun c => LeO.ite (LeO.bind (LeO.refl _) (fun q => LeO.ite (LeO.bind (LeO.refl _) (fun s => impl_whole.mono _ k)) (LeO.refl _))) (LeO.refl _))) (LeO.refl _))
set_option maxHeartbeats 2000000 in
set_option maxRecDepth 100000 in
theorem impl_PutAt.calls (k : Nat) (a0 : ByteArray) (a1 : Int) (a2 : Int) (a3 : ByteArray) (r1 : ByteArray) (r2 : Bool) (w : World) (h : impl_PutAt.f k a0 a1 a2 a3 = some (r1, r2)) :
    Calls Tryd.prog 9 #[.string a0, .int .i64 a1, .int .i64 a2, .string a3] w fun e w' => e = .returned (.tuple #[.string r1, .bool r2]) ∧ Below w.heap.size w w' := by
  unfold impl_PutAt.f at h
  obtain ⟨p, e1, h⟩ := Option.bind_eq_some_iff.mp h
  have HP := impl_isPlace.calls k a0 a1 a2 p w e1
  cases p with
  | false =>
    rw [if_neg (by decide)] at h
    simp only [Option.some.injEq, Prod.mk.injEq] at h
    obtain ⟨rfl, rfl⟩ := h
    clear e1
    go_enter Tryd.func9, Tryd.ntmps9
    go_wp2_with (go_at_call 25; refine HP.mono ?_; rintro e w1 ⟨rfl, b1⟩)
    go_ret2
    exact ⟨rfl, b1⟩
  | true =>
    rw [if_pos rfl] at h
    obtain ⟨c, e2, h⟩ := Option.bind_eq_some_iff.mp h
    have HC : ∀ W, Below w.heap.size w W → Calls Tryd.prog 26 #[.string a3] W fun e w' => e = .returned (.bool c) ∧ Below W.heap.size W w' := fun W _ => (impl_isCell.calls a3 c W e2).mono (fun e w' z => ⟨z.1, by first | exact z.2 | exact z.2.below⟩)
    cases c with
    | false =>
      rw [if_neg (by decide)] at h
      simp only [Option.some.injEq, Prod.mk.injEq] at h
      obtain ⟨rfl, rfl⟩ := h
      have HC' := Aside0.mk HC
      clear e1 e2 HC
      go_enter Tryd.func9, Tryd.ntmps9
      go_wp2_with (first | (go_at_call 25; refine HP.mono ?_; rintro e w1 ⟨rfl, b1⟩) | (go_at_call 26; refine (HC'.out _ b1).mono ?_; rintro e w2 ⟨rfl, b2⟩))
      go_ret2
      exact ⟨rfl, b1.trans (b2.mono b1.size)⟩
    | true =>
      rw [if_pos rfl] at h
      obtain ⟨⟨q1, q2, q3⟩, e3, h⟩ := Option.bind_eq_some_iff.mp h
      dsimp only at h
      by_cases hc : (0 ≤ wrap64 (wrap64 (a2 * q1) + a1) ∧ wrap64 (wrap64 (a2 * q1) + a1) < (q3.length : Int)) ∧ q3.length ≤ 1000000 ∧ 0 < a3.size
      · rw [if_pos hc] at h
        obtain ⟨⟨i0, i1⟩, hl, hcs⟩ := hc
        obtain ⟨s, e4, e5⟩ := Option.bind_eq_some_iff.mp h
        unfold impl_read.f at e3
        obtain ⟨rs, e6, e3⟩ := Option.bind_eq_some_iff.mp e3
        by_cases hp : 0 < (rs.length : Int)
        · rw [if_pos hp] at e3
          obtain ⟨js, e7, e3⟩ := Option.bind_eq_some_iff.mp e3
          by_cases hz : js.size ≤ 140737488351232
          · rw [if_pos hz] at e3
            simp only [Option.some.injEq, Prod.mk.injEq] at e3
            obtain ⟨rfl, rfl, rfl⟩ := e3
            have hpos : 0 < rs.length := by omega
            have hr0 : rdOf ByteArray.empty rs 0 = rs[0] := by
              unfold rdOf
              simp [List.getD, hpos]
            rw [hr0] at i0 i1 e4
            have hbl : (bytesOf js).length = js.size := bytesOf_length js
            obtain ⟨idx, hidx⟩ := Int.eq_ofNat_of_zero_le i0
            rw [hidx, Int.toNat_natCast] at e4
            refine putAt_calls a0 a3 a1 a2 _ _ js s r1 r2 idx w HP HC (fun W hW => read2_calls a0 rs js W hpos (fun W2 hW2 => strings_Split.calls a0 _ rs W2 e6) (fun A c W2 hC hc => strings_Join.calls A c rs _ js W2 hC hc e7)) hidx (by omega) (by omega) hcs (fun A c W hC hc => ?_) (fun W => (impl_whole.calls k s r1 r2 W e5).mono (fun e w' z => ⟨z.1, by first | exact z.2 | exact z.2.below⟩))
            have hll : ((bytesOf js).set idx (bt a3 0)).length = js.size := by rw [List.length_set, hbl]
            have X := impl_tray_text.calls ((rs[0]).size : Int) (rs.length : Int) A c ((bytesOf js).set idx (bt a3 0)) s W (by rw [hll]; exact hC) (by rw [hll]; exact hc) e4
            rw [hll] at X
            exact X
          · rw [if_neg hz] at e3
            cases e3
        · rw [if_neg hp] at e3
          cases e3
      · rw [if_neg hc] at h
        cases h


/-! ### laws_FnExactPutAt: function 3 -/
def laws_FnExactPutAt.f (k : Nat) (a0 : ByteArray) (a1 : Int) (a2 : Int) (a3 : ByteArray) : Option (Bool) := if (a0.size : Int) > 1048576 then (some true) else (if (a3.size : Int) > 1048576 then (some true) else ((spec_PutAt.f k a0 a1 a2 a3).bind fun bt179 => ((impl_PutAt.f k a0 a1 a2 a3).bind fun bt181 => (if bt181.1.toList = bt179.1.toList then (if (bt181.2 != bt179.2) = true then (some false) else (some true)) else (some false)))))
theorem laws_FnExactPutAt.mono : ∀ a0 a1 a2 a3 k, LeO (laws_FnExactPutAt.f k a0 a1 a2 a3) (laws_FnExactPutAt.f (k + 1) a0 a1 a2 a3) := by
  intro a0 a1 a2 a3 k
  unfold laws_FnExactPutAt.f
  repeat' first
      | (with_reducible exact impl_PutAt.mono _ _ _ _ _)
      | (with_reducible exact spec_PutAt.mono _ _ _ _ _)
      | (with_reducible exact LeO.refl _)
      | (with_reducible exact LeO.none _)
      | (with_reducible refine LeO.ite ?_ ?_)
      | (with_reducible refine LeO.bind ?_ (fun _ => ?_))
      | exact impl_PutAt.mono _ _ _ _ _
      | exact spec_PutAt.mono _ _ _ _ _
      | exact LeO.none _
      | refine LeO.ite ?_ ?_
      | refine LeO.bind ?_ (fun _ => ?_)
set_option maxHeartbeats 8000000 in
set_option maxRecDepth 100000 in
theorem laws_FnExactPutAt.calls (k : Nat) (a0 : ByteArray) (a1 : Int) (a2 : Int) (a3 : ByteArray) (r : Bool) (w : World) (h : laws_FnExactPutAt.f k a0 a1 a2 a3 = some r) :
    Calls Tryd.prog 3 #[.string a0, .int .i64 a1, .int .i64 a2, .string a3] w fun e w' => e = .returned (.bool r) ∧ Below w.heap.size w w' := by
  have HB := Aside0.mk (Below.refl w.heap.size w)
  have H : (if (a0.size : Int) > 1048576 then (some true) else (if (a3.size : Int) > 1048576 then (some true) else ((spec_PutAt.f k a0 a1 a2 a3).bind fun bt179 => ((impl_PutAt.f k a0 a1 a2 a3).bind fun bt181 => (if bt181.1.toList = bt179.1.toList then (if (bt181.2 != bt179.2) = true then (some false) else (some true)) else (some false)))))) = some r := h
  clear h
  by_cases c5 : (a0.size : Int) > 1048576
  · rw [if_pos c5] at H
    have c5b0 : decide (1048576 < (a0.size : Int)) = true := decide_eq_true c5
    have c5b1 : decide (1048576 < a0.size) = true := decide_eq_true (by omega)
    clear c5
    obtain rfl := Option.some.inj H
    go_enter Tryd.func3, Tryd.ntmps3
    go_wp2
    go_ret
    exact ⟨by first | rfl | (simp [errW_none, errW_some] <;> rfl) | (simp [*, errW_none, errW_some] <;> rfl), by repeat (first | (with_reducible first | exact HB.out | apply below_alloc | apply pw_below_drewN | apply below_drew1) | exact HB.out)⟩
  · rw [if_neg c5] at H
    have c5b0 : decide (1048576 < (a0.size : Int)) = false := decide_eq_false c5
    have c5b1 : decide (1048576 < a0.size) = false := decide_eq_false (by omega)
    clear c5
    by_cases c6 : (a3.size : Int) > 1048576
    · rw [if_pos c6] at H
      have c6b0 : decide (1048576 < (a3.size : Int)) = true := decide_eq_true c6
      have c6b1 : decide (1048576 < a3.size) = true := decide_eq_true (by omega)
      clear c6
      obtain rfl := Option.some.inj H
      go_enter Tryd.func3, Tryd.ntmps3
      go_wp2
      go_ret
      exact ⟨by first | rfl | (simp [errW_none, errW_some] <;> rfl) | (simp [*, errW_none, errW_some] <;> rfl), by repeat (first | (with_reducible first | exact HB.out | apply below_alloc | apply pw_below_drewN | apply below_drew1) | exact HB.out)⟩
    · rw [if_neg c6] at H
      have c6b0 : decide (1048576 < (a3.size : Int)) = false := decide_eq_false c6
      have c6b1 : decide (1048576 < a3.size) = false := decide_eq_false (by omega)
      clear c6
      replace H := Option.bind_eq_some_iff.mp H
      obtain ⟨⟨t179, t180⟩, A70, H⟩ := H
      replace H : ((impl_PutAt.f k a0 a1 a2 a3).bind fun bt181 => (if bt181.1.toList = t179.toList then (if (bt181.2 != t180) = true then (some false) else (some true)) else (some false))) = some r := H
      have A7 := Aside0.mk A70
      clear A70
      replace H := Option.bind_eq_some_iff.mp H
      obtain ⟨⟨t181, t182⟩, A80, H⟩ := H
      replace H : (if t181.toList = t179.toList then (if (t182 != t180) = true then (some false) else (some true)) else (some false)) = some r := H
      have A8 := Aside0.mk A80
      clear A80
      by_cases c9 : t181.toList = t179.toList
      · rw [if_pos c9] at H
        have c9b0 : (t181.toList == t179.toList) = true := beq_iff_eq.mpr c9
        have c9b1 : (t181.toList != t179.toList) = false := bne_eq_false_iff_eq.mpr c9
        clear c9
        by_cases c10 : (t182 != t180) = true
        · rw [if_pos c10] at H
          have c10b0 : (t182 != t180) = true := c10
          (try (have c10b1 : decide (t182 = t180) = false := by simpa using c10))
          (try (have c10b2 : (t182 == t180) = false := by simpa using c10))
          (try (have c10b3 : ¬ (t182 = t180) := by simpa using c10))
          clear c10
          obtain rfl := Option.some.inj H
          go_enter Tryd.func3, Tryd.ntmps3
          go_wp2_with (first | ((with_reducible refine gate_callee (f := 8) rfl ?_); refine goesL_ (some 24) rfl rfl Tryd.func8 (by kernel_rfl) rfl #[.string a0, .int .i64 a1, .int .i64 a2, .string a3] rfl (by (try simp only [List.map_toArray, List.map_cons, List.map_nil]); first | done | rfl | (simp only [List.length_drop, List.length_take]; rfl)) ?_; (with_reducible refine (spec_PutAt.calls k a0 a1 a2 a3 t179 t180 _ A7.out).mono ?_); rintro e w11 ⟨rfl, hb⟩; refine ⟨_, rfl, ?_⟩; have n0_ := Aside0.mk (below_step (by repeat (first | (with_reducible first | exact HB.out | apply below_alloc | apply pw_below_drewN | apply below_drew1) | exact HB.out)) hb); clear HB; have HB := n0_; clear n0_; (try clear hb); (try clear hb2); (try clear hk); (try clear hi)) | ((with_reducible refine gate_callee (f := 9) rfl ?_); refine goesL_ (some 32) rfl rfl Tryd.func9 (by kernel_rfl) rfl #[.string a0, .int .i64 a1, .int .i64 a2, .string a3] rfl (by (try simp only [List.map_toArray, List.map_cons, List.map_nil]); first | done | rfl | (simp only [List.length_drop, List.length_take]; rfl)) ?_; (with_reducible refine (impl_PutAt.calls k a0 a1 a2 a3 t181 t182 _ A8.out).mono ?_); rintro e w12 ⟨rfl, hb⟩; refine ⟨_, rfl, ?_⟩; have n0_ := Aside0.mk (below_step (by repeat (first | (with_reducible first | exact HB.out | apply below_alloc | apply pw_below_drewN | apply below_drew1) | exact HB.out)) hb); clear HB; have HB := n0_; clear n0_; (try clear hb); (try clear hb2); (try clear hk); (try clear hi)))
          go_ret
          exact ⟨by first | rfl | (simp [errW_none, errW_some] <;> rfl) | (simp [*, errW_none, errW_some] <;> rfl), by repeat (first | (with_reducible first | exact HB.out | apply below_alloc | apply pw_below_drewN | apply below_drew1) | exact HB.out)⟩
        · rw [if_neg c10] at H
          have c10b0 : (t182 != t180) = false := by simpa using c10
          (try (have c10b1 : decide (t182 = t180) = true := by simpa using c10))
          (try (have c10b2 : (t182 == t180) = true := by simpa using c10))
          clear c10
          obtain rfl := Option.some.inj H
          go_enter Tryd.func3, Tryd.ntmps3
          go_wp2_with (first | ((with_reducible refine gate_callee (f := 8) rfl ?_); refine goesL_ (some 24) rfl rfl Tryd.func8 (by kernel_rfl) rfl #[.string a0, .int .i64 a1, .int .i64 a2, .string a3] rfl (by (try simp only [List.map_toArray, List.map_cons, List.map_nil]); first | done | rfl | (simp only [List.length_drop, List.length_take]; rfl)) ?_; (with_reducible refine (spec_PutAt.calls k a0 a1 a2 a3 t179 t180 _ A7.out).mono ?_); rintro e w13 ⟨rfl, hb⟩; refine ⟨_, rfl, ?_⟩; have n0_ := Aside0.mk (below_step (by repeat (first | (with_reducible first | exact HB.out | apply below_alloc | apply pw_below_drewN | apply below_drew1) | exact HB.out)) hb); clear HB; have HB := n0_; clear n0_; (try clear hb); (try clear hb2); (try clear hk); (try clear hi)) | ((with_reducible refine gate_callee (f := 9) rfl ?_); refine goesL_ (some 32) rfl rfl Tryd.func9 (by kernel_rfl) rfl #[.string a0, .int .i64 a1, .int .i64 a2, .string a3] rfl (by (try simp only [List.map_toArray, List.map_cons, List.map_nil]); first | done | rfl | (simp only [List.length_drop, List.length_take]; rfl)) ?_; (with_reducible refine (impl_PutAt.calls k a0 a1 a2 a3 t181 t182 _ A8.out).mono ?_); rintro e w14 ⟨rfl, hb⟩; refine ⟨_, rfl, ?_⟩; have n0_ := Aside0.mk (below_step (by repeat (first | (with_reducible first | exact HB.out | apply below_alloc | apply pw_below_drewN | apply below_drew1) | exact HB.out)) hb); clear HB; have HB := n0_; clear n0_; (try clear hb); (try clear hb2); (try clear hk); (try clear hi)))
          go_ret
          exact ⟨by first | rfl | (simp [errW_none, errW_some] <;> rfl) | (simp [*, errW_none, errW_some] <;> rfl), by repeat (first | (with_reducible first | exact HB.out | apply below_alloc | apply pw_below_drewN | apply below_drew1) | exact HB.out)⟩
      · rw [if_neg c9] at H
        have c9b0 : (t181.toList == t179.toList) = false := beq_eq_false_iff_ne.mpr c9
        have c9b1 : (t181.toList != t179.toList) = true := bne_iff_ne.mpr c9
        obtain rfl := Option.some.inj H
        go_enter Tryd.func3, Tryd.ntmps3
        go_wp2_with (first | ((with_reducible refine gate_callee (f := 8) rfl ?_); refine goesL_ (some 24) rfl rfl Tryd.func8 (by kernel_rfl) rfl #[.string a0, .int .i64 a1, .int .i64 a2, .string a3] rfl (by (try simp only [List.map_toArray, List.map_cons, List.map_nil]); first | done | rfl | (simp only [List.length_drop, List.length_take]; rfl)) ?_; (with_reducible refine (spec_PutAt.calls k a0 a1 a2 a3 t179 t180 _ A7.out).mono ?_); rintro e w15 ⟨rfl, hb⟩; refine ⟨_, rfl, ?_⟩; have n0_ := Aside0.mk (below_step (by repeat (first | (with_reducible first | exact HB.out | apply below_alloc | apply pw_below_drewN | apply below_drew1) | exact HB.out)) hb); clear HB; have HB := n0_; clear n0_; (try clear hb); (try clear hb2); (try clear hk); (try clear hi)) | ((with_reducible refine gate_callee (f := 9) rfl ?_); refine goesL_ (some 32) rfl rfl Tryd.func9 (by kernel_rfl) rfl #[.string a0, .int .i64 a1, .int .i64 a2, .string a3] rfl (by (try simp only [List.map_toArray, List.map_cons, List.map_nil]); first | done | rfl | (simp only [List.length_drop, List.length_take]; rfl)) ?_; (with_reducible refine (impl_PutAt.calls k a0 a1 a2 a3 t181 t182 _ A8.out).mono ?_); rintro e w16 ⟨rfl, hb⟩; refine ⟨_, rfl, ?_⟩; have n0_ := Aside0.mk (below_step (by repeat (first | (with_reducible first | exact HB.out | apply below_alloc | apply pw_below_drewN | apply below_drew1) | exact HB.out)) hb); clear HB; have HB := n0_; clear n0_; (try clear hb); (try clear hb2); (try clear hk); (try clear hi)))
        go_ret
        exact ⟨by first | rfl | (simp [errW_none, errW_some] <;> rfl) | (simp [*, errW_none, errW_some] <;> rfl), by repeat (first | (with_reducible first | exact HB.out | apply below_alloc | apply pw_below_drewN | apply below_drew1) | exact HB.out)⟩

/-- THE ONE PURE STATEMENT of laws_FnExactPutAt: yours. -/
def laws_FnExactPutAt.Pure : Prop := ∀ (a0 : ByteArray) (a1 : Int) (a2 : Int) (a3 : ByteArray), a0.size ≤ 140737488351232 → (Lit.int .i64 a1).wf = true → (Lit.int .i64 a2).wf = true → a3.size ≤ 140737488351232 → ∃ k, laws_FnExactPutAt.f k a0 a1 a2 a3 = some true
theorem laws_FnExactPutAt.walk (P : laws_FnExactPutAt.Pure) (a0 : ByteArray) (a1 : Int) (a2 : Int) (a3 : ByteArray) (w : World) (w0 : a0.size ≤ 140737488351232) (w1 : (Lit.int .i64 a1).wf = true) (w2 : (Lit.int .i64 a2).wf = true) (w3 : a3.size ≤ 140737488351232) :
    Calls Tryd.prog 3 #[.string a0, .int .i64 a1, .int .i64 a2, .string a3] w fun e w' => e = .returned (.bool true) ∧ Below w.heap.size w w' := by
  obtain ⟨k, h⟩ := P a0 a1 a2 a3 w0 w1 w2 w3
  refine (laws_FnExactPutAt.calls k a0 a1 a2 a3 true w h).mono ?_
  rintro e w' ⟨rfl, hd⟩
  exact ⟨rfl, hd⟩

end Go.Proofs.YtcglmngfglmcgaaDoor.Q
