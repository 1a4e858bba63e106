/- The functions that the laws of this seat reach, each with its contract (written by this repo's wip/oprint). -/
import Derived.Test.YtplifefnjeledaaDoorQx0
import Derived.Test.YtplifefnjeledaaDoorQx6
import Derived.Test.YtplifefnjeledaaDoorQx7
namespace Go.Proofs.YtplifefnjeledaaDoor.Q
open Go.Proofs.YtplifefnjeledaaDoorV
open Go.RowKit Go.Proofs.YtplifefnjeledaaDoorW.PrintWords Go.Proofs.YtplifefnjeledaaDoorW.PrintLast Go.Proofs.YtplifefnjeledaaDoorW.PrintMore
attribute [local go_sem] max2_int min2_int max_two min_two max_three min_three max_four min_four   -- for this text's walks alone
set_option linter.unusedVariables false
set_option linter.unusedSimpArgs false

/-! ### impl_tray_beside: function 46 -/
def impl_tray_beside.f (a0_0 : Int) (a0_1 : Int) (l0_2 : List Int) (a1 : Int) : Option (List Int) := if a0_0 = 0 then (none) else (some (besL a0_0 a0_1 a1 4))
theorem impl_tray_beside.within (a b c : Int) : impl_within.f a b c = some (inW a b c) := by
 unfold inW
 rw [impl_within.f]
 by_cases h : b ≤ a
 ·rw [if_pos h, decide_eq_true h, Bool.true_and]
 ·rw [if_neg h, decide_eq_false h, Bool.false_and]
theorem impl_tray_beside.calls (a0_0 : Int) (a0_1 : Int) (A0_2 : Option Addr) (c0_2 : Nat) (l0_2 : List Int) (a1 : Int) (r : List Int) (w : World) (hr0_2 : Kd.C (Kd.int .u8) w A0_2 l0_2.length l0_2) (hc0_2 : l0_2.length ≤ c0_2) (h : impl_tray_beside.f a0_0 a0_1 l0_2 a1 = some r) :
  Calls Tryd.prog 46 #[.agg #[.int .i64 a0_0, .int .i64 a0_1, .slice A0_2 l0_2.length c0_2], .int .i64 a1] w fun e w' => ∃ v0_ : Value, e = .returned (v0_) ∧ Kd.R (Kd.int .i64) 3 w' w.heap.size (fun _ => True) v0_ r ∧ Below w.heap.size w w' := by
 unfold impl_tray_beside.f at h
 by_cases h0 : a0_0 = 0
 ·rw [if_pos h0] at h
  cases h
 ·rw [if_neg h0] at h
  obtain rfl := Option.some.inj h
  exact beside_calls (fun a b c W => impl_within.calls a b c _ W (impl_tray_beside.within a b c))
   (fun a0 a1 A c l x y W hr hc => impl_tray_number.calls a0 a1 A c l x y _ W hr hc rfl) a0_0 a0_1 A0_2 c0_2 l0_2 a1 w hr0_2 hc0_2 h0


-- NOT PRINTED: function 26 (impl_tray_distances)

/-! ### impl_isOpen: function 27 -/
def impl_isOpen.f (a0 : Int) : Option (Bool) := some (a0 != 35)
set_option maxHeartbeats 8000000 in
set_option maxRecDepth 100000 in
theorem impl_isOpen.calls (a0 : Int) (r : Bool) (w : World) (h : impl_isOpen.f a0 = some r) :
  Calls Tryd.prog 27 #[.int .u8 a0] w fun e w' => e = .returned (.bool r) ∧ Drawn0 w w' := by
 have H : (some (a0 != 35)) = some r := h
 clear h
 obtain rfl := Option.some.inj H
 go_enter Tryd.func27, Tryd.ntmps27
 go_wp2
 go_ret
 exact ⟨by first | rfl | (simp; done) | (simp [*]; done), by repeat (first | exact Drawn0.refl _ | apply Drawn0.step)⟩

end Go.Proofs.YtplifefnjeledaaDoor.Q
