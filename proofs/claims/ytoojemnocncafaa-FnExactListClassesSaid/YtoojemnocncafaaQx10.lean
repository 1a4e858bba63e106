/- The functions that the laws of this seat reach, each with its contract (written by this repo's wip/oprint). -/
import Derived.Test.YtoojemnocncafaaQx0
import Derived.Test.YtoojemnocncafaaQx8
import Derived.Test.YtoojemnocncafaaQx9
namespace Go.Proofs.Ytoojemnocncafaa.Q
open Go.Proofs.YtoojemnocncafaaV
open Go.RowKit Go.Proofs.YtoojemnocncafaaW.PrintWords Go.Proofs.YtoojemnocncafaaW.PrintLast Go.Proofs.YtoojemnocncafaaW.PrintMore
attribute [local go_sem] max2_int min2_int max_two min_two max_three min_three max_four min_four   -- for this text's walks alone
set_option linter.unusedVariables false
set_option linter.unusedSimpArgs false

/-! ### impl_tray_moved: function 17 -/
def impl_tray_moved.f (k : Nat) (a0_0 : Int) (a0_1 : Int) (l0_2 : List Int) (a1 : Int) : Option (Int × Int × List Int) := if 0 ≤ a1 then ((if 4 ≤ a1 then impl_tray_mirrored.f a0_0 a0_1 l0_2 else some (a0_0, a0_1, l0_2)).bind fun t => itL (fun a b l => impl_tray_turned.f k a b l) (a1 % 4).toNat t.1 t.2.1 t.2.2) else (none)
theorem impl_tray_moved.it_mono (k : Nat) : ∀ n a b l, LeO (itL (fun a b l => impl_tray_turned.f k a b l) n a b l) (itL (fun a b l => impl_tray_turned.f (k + 1) a b l) n a b l) := by
  intro n
  induction n with
  | zero => exact fun a b l => LeO.refl _
  | succ n ih => exact fun a b l => LeO.bind (impl_tray_turned.mono a b l k) (fun t => ih _ _ _)
theorem impl_tray_moved.mono : ∀ a0 a1 a2 a3 k, LeO (impl_tray_moved.f k a0 a1 a2 a3) (impl_tray_moved.f (k + 1) a0 a1 a2 a3) := by
  intro a0 a1 a2 a3 k
  unfold impl_tray_moved.f
  exact LeO.ite (LeO.bind (LeO.refl _) (fun t => impl_tray_moved.it_mono k _ _ _ _)) (LeO.refl _)
theorem impl_tray_moved.calls (k : Nat) (a0_0 : Int) (a0_1 : Int) (P0_2_ : Nat → Prop) (A0_2 : Option Addr) (c0_2 : Nat) (l0_2 : List Int) (a1 : Int) (r1 : Int) (r2 : Int) (r3 : List Int) (w : World) (hs0_2 : Kd.V (Kd.int .u8) 5 w w.heap.size (fun k_ => P0_2_ k_) (.slice A0_2 l0_2.length c0_2) l0_2) (h : impl_tray_moved.f k a0_0 a0_1 l0_2 a1 = some (r1, r2, r3)) :
    Calls Try.prog 17 #[.agg #[.int .i64 a0_0, .int .i64 a0_1, .slice A0_2 l0_2.length c0_2], .int .i64 a1] w fun e w' => ∃ v2_ : Value, e = .returned (.agg #[.int .i64 r1, .int .i64 r2, v2_]) ∧ Kd.V (Kd.int .u8) 5 w' w.heap.size (fun k_ => (P0_2_ k_ ∨ w.heap.size ≤ k_)) v2_ r3 ∧ Below w.heap.size w w' := by
  unfold impl_tray_moved.f at h
  by_cases h0 : 0 ≤ a1
  · rw [if_pos h0] at h
    exact moved_calls _ _ (fun a b A c l r1 r2 r3 W hr hc h => impl_tray_mirrored.calls a b A c l r1 r2 r3 W hr hc h) (fun a b A c l r1 r2 r3 W hr hc h => impl_tray_turned.calls k a b A c l r1 r2 r3 W hr hc h) a0_0 a0_1 P0_2_ A0_2 c0_2 l0_2 a1 r1 r2 r3 w hs0_2 h0 h
  · rw [if_neg h0] at h
    cases h


end Go.Proofs.Ytoojemnocncafaa.Q
