/- The program's distances over balls. -/
import Derived.Test.YtplifefnjeledaaDoorLNear
import Derived.Test.YtplifefnjeledaaDoorQx7
import Derived.Test.YtplifefnjeledaaDoorQx12
import Derived.Test.YtplifefnjeledaaDoorQx13
import Derived.Test.YtplifefnjeledaaDoorQx14
import Derived.Test.YtplifefnjeledaaDoorQx11
import Derived.Test.YtplifefnjeledaaDoorQx1
set_option linter.unusedVariables false
set_option linter.unusedSimpArgs false
namespace Go.Proofs.YtplifefnjeledaaDoorL
open Go.RowKit Go.Proofs.YtplifefnjeledaaDoor.Q Go.Proofs.YtplifefnjeledaaDoorW.PrintWords Go.Proofs.YtplifefnjeledaaDoorW.PrintLast Go.Proofs.YtplifefnjeledaaDoorM Go.Proofs.YtplifefnjeledaaDoorV
open BF
def ballB (c : Int) : Bool := decide (c = 111) || (decide (c ≥ 97) && decide (c ≤ 102))

def accB (L : List Int) (k : Nat) : Bool := ballB (L.getD k 0)
theorem ball_is (c : Int) : impl_isBall.f c = some (ballB c) := by
 unfold ballB
 rw [impl_isBall.f, impl_isName.f]
 by_cases h : c = 111
 ·rw [if_pos h, decide_eq_true h]; rfl
 ·rw [if_neg h, decide_eq_false h, Bool.false_or]
  by_cases h2 : c ≥ 97
  ·rw [if_pos h2, decide_eq_true h2]; rfl
  ·rw [if_neg h2, decide_eq_false h2]; rfl

theorem acc_isBall (L : List Int) (b : Nat) : impl_isBall.f (L.getD b 0) = some (accB L b) := by
 unfold accB
 exact ball_is _
theorem dist_isBall_l1 {w h : Nat} {L : List Int} (hL : L.length = w * h) (hn36 : w * h ≤ 36) {r0 : Nat} {far0 : List Int} {u i : Nat} {z : Int} (hz0 : 0 ≤ z) (hu : u < w * h) (res : List Int)
  (s : List Int × List Nat) (t b : Nat) (hG : BF.Good (accB L) (adjOf w h) (fun v => 0 ≤ v) (w * h) r0 far0 0 s) (hle : s.2.length ≤ w * h) (hi : s.2[i]? = some u) (hz : s.1.getD u 0 = z) (hzb : z ≤ (s.2.length : Int) + 0) (hb : (adjOf w h u)[t]? = some b) (hbn : b < w * h) (ht : t < 100)
  (hC : Ev (fun k => impl_tray_distances_at_impl_isBall.l1 k (visit (accB L) (z + 1) s b).1 (intsN (visit (accB L) (z + 1) s b).2) (i : Int) (intsN (adjOf w h u)) ((intsN (adjOf w h u)).length : Int) ((t + 1 : Nat) : Int) (w : Int) (h : Int) L) res) :
  Ev (fun k => impl_tray_distances_at_impl_isBall.l1 k s.1 (intsN s.2) (i : Int) (intsN (adjOf w h u)) ((intsN (adjOf w h u)).length : Int) (t : Int) (w : Int) (h : Int) L) res := by
 obtain ⟨eb, tb⟩ := at_nat hb
 obtain ⟨eu, iu⟩ := at_nat hi
 have hlen := hG.inv.len
 have g1 : (0 : Int) ≤ (t : Int) := by omega
 have g2 : (0 : Int) ≤ (b : Int) := by omega
 have g3 : (b : Int) < (s.1.length : Int) := by omega
 have g4 : (b : Int) < (L.length : Int) := by omega
 have em : wrap64 ((t : Int) + 1) = ((t + 1 : Nat) : Int) := wrapN (t + 1) (by omega) (by omega)
 have rb := rd_nat s.1 b
 have rL := rd_nat L b
 have ea := acc_isBall L b
 cases c2 : accB L b with
 | false =>
  rw [c2] at ea
  have hv : visit (accB L) (z + 1) s b = s := by
   unfold visit
   rw [if_neg (fun x => by rw [c2] at x; cases x.1)]
  rw [hv] at hC
  refine Ev.step (fun k => ?_) hC
  rw [impl_tray_distances_at_impl_isBall.l1, if_pos tb, if_pos g1, if_pos tb, eb, if_pos g2, if_pos g4, rL, ea, Option.bind_some, if_neg Bool.false_ne_true, em]
 | true =>
  rw [c2] at ea
  by_cases c1 : s.1.getD b 0 < 0
  ·have hv : visit (accB L) (z + 1) s b = (s.1.set b (z + 1), s.2 ++ [b]) := by
    unfold visit
    rw [if_pos ⟨c2, c1⟩]
   rw [hv, ← intsN_snoc] at hC
   have g5 : (0 : Int) ≤ (i : Int) := by omega
   have g6 : (0 : Int) ≤ (u : Int) := by omega
   have g7 : (u : Int) < (s.1.length : Int) := by omega
   have g8 : (intsN s.2).length < 17592186044416 := by rw [intsN_len]; omega
   have ez : wrap64 (z + 1) = z + 1 := by unfold wrap64; omega
   refine Ev.step (fun k => ?_) hC
   rw [impl_tray_distances_at_impl_isBall.l1, if_pos tb, if_pos g1, if_pos tb, eb, if_pos g2, if_pos g4, rL, ea, Option.bind_some, if_pos rfl, if_pos g3, rb, if_pos c1, if_pos g5, if_pos iu, eu, if_pos g6, if_pos g7, if_pos g8, em, rd_nat s.1 u, hz, ez, Int.toNat_natCast]
  ·have hv : visit (accB L) (z + 1) s b = s := by
    unfold visit
    rw [if_neg (fun x => c1 x.2)]
   rw [hv] at hC
   refine Ev.step (fun k => ?_) hC
   rw [impl_tray_distances_at_impl_isBall.l1, if_pos tb, if_pos g1, if_pos tb, eb, if_pos g2, if_pos g4, rL, ea, Option.bind_some, if_pos rfl, if_pos g3, rb, if_neg c1, em]
theorem dist_isBall_ev {w h : Nat} (hs : Size w h) {L : List Int} (hL : L.length = w * h) {r : Nat} (hr : r < w * h) : Ev (fun k => impl_tray_distances_at_impl_isBall.f k (w : Int) (h : Int) L (r : Int)) (farOf (accB L) (adjOf w h) (w * h) r) := by
 have hp := hs.p
 have hn := adj_lt hs
 have search : accB L r = true → Ev (fun k => impl_tray_distances_at_impl_isBall.l0 k ((List.replicate (w * h) (-1 : Int)).set r 0) (intsN [r]) ((0 : Nat) : Int) (w : Int) (h : Int) L) (farOf (accB L) (adjOf w h) (w * h) r) := by
  intro ha
  have hf : ∀ j, BF.Reach (accB L) (adjOf w h) r j → (List.replicate (w * h) (-1 : Int)).getD j 0 < 0 := fun j hj => by rw [rep_at _ j (hj.lt hn hr)]; decide
  have e : farOf (accB L) (adjOf w h) (w * h) r = (loop (accB L) (adjOf w h) (fun far u => far.getD u 0 + 1) (w * h) 0 ((List.replicate (w * h) (-1)).set r 0, [r])).1 := by unfold farOf; rw [if_pos ha]
  generalize farOf (accB L) (adjOf w h) (w * h) r = res at e ⊢
  refine BF.run (acc := accB L) (adj := adjOf w h) (Q := fun v => 0 ≤ v) (n := w * h) (r := r) (far0 := List.replicate (w * h) (-1)) (c := 0) (fun far u => far.getD u 0 + 1) (fun _ x => x) hn hr hf (fun far u x => ⟨by show 0 ≤ far.getD u 0 + 1; have : 0 ≤ far.getD u 0 := x; omega, Int.le_refl _⟩)
   (fun s i => Ev (fun k => impl_tray_distances_at_impl_isBall.l0 k s.1 (intsN s.2) (i : Int) (w : Int) (h : Int) L) res) (fun s => res = s.1) ?_ ?_ (w * h) 0 ((List.replicate (w * h) (-1)).set r 0, [r]) (by omega) (Nat.zero_le _) (start_good hr ha List.length_replicate (Int.le_refl 0) (by decide)) e
  ·intro s i u hG hi hin hun hre hq hC
   obtain ⟨eu, iu⟩ := at_nat hi
   have g1 : (0 : Int) ≤ (i : Int) := by omega
   have em : wrap64 ((i : Int) + 1) = ((i + 1 : Nat) : Int) := wrapN (i + 1) (by omega) (by omega)
   have X := BF.inner (acc := accB L) (adj := adjOf w h) (Q := fun v => 0 ≤ v) (n := w * h) (r := r) (far0 := List.replicate (w * h) (-1)) (c := 0) (fun _ x => x) hn hf (v := s.1.getD u 0 + 1) (z := s.1.getD u 0) (by have : 0 ≤ s.1.getD u 0 := hq; show 0 ≤ s.1.getD u 0 + 1; omega) (u := u) (i := i) hre hq (Int.le_refl _)
    (fun s' t => Ev (fun k => impl_tray_distances_at_impl_isBall.l1 k s'.1 (intsN s'.2) (i : Int) (intsN (adjOf w h u)) ((intsN (adjOf w h u)).length : Int) (t : Int) (w : Int) (h : Int) L) res)
    (fun s' t b hG' hi' hz' hzb hb hbn hC' => dist_isBall_l1 hL hp hq hun res s' t b hG' (hG'.le hn hr) hi' hz' hzb hb hbn (by have := (List.getElem?_eq_some_iff.1 hb).1; have := adj_small w h u; omega) hC')
    (adjOf w h u).length 0 s (Nat.zero_add _) hG hi rfl ?_
   ·refine Ev.step (fun k => ?_) X
    rw [impl_tray_distances_at_impl_isBall.l0, if_pos iu, if_pos g1, eu, beside_eq hs hun L, Option.bind_some]
    rfl
   ·rw [layer_drop (val := fun far u => far.getD u 0 + 1)]
    have g0 : ¬ (((adjOf w h u).length : Nat) : Int) < ((intsN (adjOf w h u)).length : Int) := by rw [intsN_len]; omega
    refine Ev.step (fun k => ?_) hC
    rw [impl_tray_distances_at_impl_isBall.l1, if_neg g0, em]
  ·intro s hG hK
   have g0 : ¬ ((s.2.length : Nat) : Int) < ((intsN s.2).length : Int) := by rw [intsN_len]; omega
   refine Ev.step (f := fun _ => some res) (fun k => ?_) (Ev.now _)
   rw [impl_tray_distances_at_impl_isBall.l0, if_neg g0, hK]
 have eR : slices_Repeat_int_int.f (([(-1)] : List Int)) (L.length : Int) = some (List.replicate (w * h) (-1)) := by
  unfold slices_Repeat_int_int.f
  rw [if_pos ⟨rfl, by omega, by omega⟩, hL, Int.toNat_natCast]
  rfl
 have g1 : (0 : Int) ≤ (r : Int) := by omega
 have g2 : (r : Int) < (L.length : Int) := by omega
 have ea := acc_isBall L r
 cases c : accB L r with
 | false =>
  rw [c] at ea
  have e : farOf (accB L) (adjOf w h) (w * h) r = List.replicate (w * h) (-1) := by unfold farOf; rw [if_neg (by rw [c]; exact Bool.false_ne_true)]
  rw [e]
  refine Ev.congr (f := fun _ => some (List.replicate (w * h) (-1))) (g := _) (r := _) (fun k => ?_) (Ev.now _)
  rw [impl_tray_distances_at_impl_isBall.f, eR, Option.bind_some, if_pos g1, if_pos g2, rd_nat L r, ea, Option.bind_some, if_neg Bool.false_ne_true]
 | true =>
  rw [c] at ea
  have g3 : (r : Int) < ((List.replicate (w * h) (-1 : Int)).length : Int) := by rw [List.length_replicate]; omega
  refine Ev.congr (g := _) (r := _) (fun k => ?_) (search c)
  rw [impl_tray_distances_at_impl_isBall.f, eR, Option.bind_some, if_pos g1, if_pos g2, rd_nat L r, ea, Option.bind_some, if_pos rfl, if_pos g3, Int.toNat_natCast]
  rfl
end Go.Proofs.YtplifefnjeledaaDoorL
namespace Go.Proofs.YtplifefnjeledaaDoorL
open Go.RowKit Go.Proofs.YtplifefnjeledaaDoor.Q Go.Proofs.YtplifefnjeledaaDoorW.PrintWords Go.Proofs.YtplifefnjeledaaDoorW.PrintLast Go.Proofs.YtplifefnjeledaaDoorM Go.Proofs.YtplifefnjeledaaDoorV
open BF


theorem parts_isBall_l1 {w h : Nat} (hs : Size w h) {L : List Int} (hL : L.length = w * h) {i : Nat} (hin : i < w * h) (x5 : List (List Int)) (n13 i14 : Int) (far : List Int) (hfl : far.length = w * h) (hfr : ∀ j, BF.Reach (accB L) (adjOf w h) i j → 0 ≤ far.getD j 0) (hfn : ∀ j, j < w * h → ¬ BF.Reach (accB L) (adjOf w h) i j → far.getD j 0 = -1) (res : List (List Int))
  (hC : Ev (fun k => impl_tray_parts_at_impl_isBall.l1 k x5 (i : Int) (intsN (comp (accB L) (adjOf w h) (w * h) i)) n13 i14 far (far.length : Int) ((w * h : Nat) : Int) (w : Int) (h : Int) L) res) :
  ∀ (d t : Nat), t + d = w * h → Ev (fun k => impl_tray_parts_at_impl_isBall.l1 k x5 (i : Int) (intsN (comp (accB L) (adjOf w h) t i)) n13 i14 far (far.length : Int) (t : Int) (w : Int) (h : Int) L) res := by
 have hp := hs.p
 intro d
 induction d with
 | zero =>
  intro t ht
  have e : t = w * h := by omega
  subst e
  exact hC
 | succ d ih =>
  intro t ht
  have hI := ih (t + 1) (by omega)
  have g0 : (t : Int) < (far.length : Int) := by omega
  have g1 : (0 : Int) ≤ (t : Int) := by omega
  have em : wrap64 ((t : Int) + 1) = ((t + 1 : Nat) : Int) := wrapN (t + 1) (by omega) (by omega)
  have rb := rd_nat far t
  have hle : (comp (accB L) (adjOf w h) t i).length ≤ t := comp_le t i
  rcases Classical.em (BF.Reach (accB L) (adjOf w h) i t) with x | x
  ·have c : far.getD t 0 ≥ 0 := hfr t x
   have e : comp (accB L) (adjOf w h) (t + 1) i = comp (accB L) (adjOf w h) t i ++ [t] := comp_pos x
   rw [e, ← intsN_snoc] at hI
   have g8 : (intsN (comp (accB L) (adjOf w h) t i)).length < 17592186044416 := by rw [intsN_len]; omega
   refine Ev.step (fun k => ?_) hI
   rw [impl_tray_parts_at_impl_isBall.l1, if_pos g0, if_pos g1, if_pos g0, rb, if_pos c, if_pos g8, em]
  ·have c : ¬ far.getD t 0 ≥ 0 := by rw [hfn t (by omega) x]; decide
   have e : comp (accB L) (adjOf w h) (t + 1) i = comp (accB L) (adjOf w h) t i := comp_neg x
   rw [e] at hI
   refine Ev.step (fun k => ?_) hI
   rw [impl_tray_parts_at_impl_isBall.l1, if_pos g0, if_pos g1, if_pos g0, rb, if_neg c, em]
theorem parts_isBall_l0 {w h : Nat} (hs : Size w h) {L : List Int} (hL : L.length = w * h) : ∀ (d i : Nat), i + d = w * h →
  Ev (fun k => impl_tray_parts_at_impl_isBall.l0 k (partsTo (accB L) (adjOf w h) (w * h) i) (L.length : Int) (i : Int) (w : Int) (h : Int) L) (partsTo (accB L) (adjOf w h) (w * h) (w * h)) := by
 have hp := hs.p
 have hn := adj_lt hs
 intro d
 induction d with
 | zero =>
  intro i hi
  have e : i = w * h := by omega
  subst e
  have g0 : ¬ ((w * h : Nat) : Int) < (L.length : Int) := by omega
  exact Ev.step (f := fun _ => some (partsTo (accB L) (adjOf w h) (w * h) (w * h))) (fun k => by rw [impl_tray_parts_at_impl_isBall.l0, if_neg g0]) (Ev.now _)
 | succ d ih =>
  intro i hi
  have hin : i < w * h := by omega
  have hI := ih (i + 1) (by omega)
  have g0 : (i : Int) < (L.length : Int) := by omega
  have em : wrap64 ((i : Int) + 1) = ((i + 1 : Nat) : Int) := wrapN (i + 1) (by omega) (by omega)
  have DF := dist_isBall_ev hs hL hin
  obtain ⟨f1, f2, f3⟩ := BF.farOf_spec (acc := accB L) hn hin
  generalize BF.farOf (accB L) (adjOf w h) (w * h) i = far at DF f1 f2 f3
  have X := parts_isBall_l1 hs hL hin (partsTo (accB L) (adjOf w h) (w * h) i) (L.length : Int) (i : Int) far f1 f2 f3 (partsTo (accB L) (adjOf w h) (w * h) (w * h)) ?_ (w * h) 0 (Nat.zero_add _)
  ·refine Ev.step (f := fun k => (impl_tray_distances_at_impl_isBall.f k (w : Int) (h : Int) L (i : Int)).bind fun t308 => (impl_tray_parts_at_impl_isBall.l1 k (partsTo (accB L) (adjOf w h) (w * h) i) (i : Int) (([] : List Int)) (L.length : Int) (i : Int) t308 (t308.length : Int) 0 (w : Int) (h : Int) L)) (fun k => ?_) (Ev.bind (f := fun k t308 => (impl_tray_parts_at_impl_isBall.l1 k (partsTo (accB L) (adjOf w h) (w * h) i) (i : Int) (([] : List Int)) (L.length : Int) (i : Int) t308 (t308.length : Int) 0 (w : Int) (h : Int) L)) DF X)
   rw [impl_tray_parts_at_impl_isBall.l0, if_pos g0]
  ·have g1 : ¬ ((w * h : Nat) : Int) < (far.length : Int) := by omega
   by_cases hr : Root (accB L) (adjOf w h) i
   ·obtain ⟨l, hl⟩ := (root_iff (n := w * h) (adj_sym hs) hin).1 hr
    have e1 : partsTo (accB L) (adjOf w h) (w * h) (i + 1) = partsTo (accB L) (adjOf w h) (w * h) i ++ [intsN (comp (accB L) (adjOf w h) (w * h) i)] := by
     unfold partsTo
     rw [roots_pos hr, List.map_append]
     rfl
    rw [e1] at hI
    have hpl : (partsTo (accB L) (adjOf w h) (w * h) i).length ≤ i := by
     unfold partsTo
     rw [List.length_map]
     exact roots_le i
    have g2 : ((intsN (comp (accB L) (adjOf w h) (w * h) i)).length : Int) > 0 := by rw [intsN_len, hl, List.length_cons]; omega
    have g3 : (0 : Int) < ((intsN (comp (accB L) (adjOf w h) (w * h) i)).length : Int) := g2
    have g4 : rd (intsN (comp (accB L) (adjOf w h) (w * h) i)) 0 = (i : Int) := by rw [hl]; rfl
    have g5 : (partsTo (accB L) (adjOf w h) (w * h) i).length < 5864062014805 := by omega
    refine Ev.step (fun k => ?_) hI
    rw [impl_tray_parts_at_impl_isBall.l1, if_neg g1, if_pos g2, if_pos g3, if_pos g4, if_pos g5, em]
   ·have e1 : partsTo (accB L) (adjOf w h) (w * h) (i + 1) = partsTo (accB L) (adjOf w h) (w * h) i := by
     unfold partsTo
     rw [roots_neg hr]
    rw [e1] at hI
    rcases hc : comp (accB L) (adjOf w h) (w * h) i with _ | ⟨j, l⟩
    ·have g2 : ¬ ((intsN ([] : List Nat)).length : Int) > 0 := by decide
     refine Ev.step (fun k => ?_) hI
     rw [impl_tray_parts_at_impl_isBall.l1, if_neg g1, if_neg g2, em]
    ·have hji : ¬ j = i := fun e => hr ((root_iff (n := w * h) (adj_sym hs) hin).2 ⟨l, by rw [hc, e]⟩)
     have g2 : ((intsN (j :: l)).length : Int) > 0 := by rw [intsN_len, List.length_cons]; omega
     have g3 : (0 : Int) < ((intsN (j :: l)).length : Int) := g2
     have g4 : ¬ rd (intsN (j :: l)) 0 = (i : Int) := by
      have : rd (intsN (j :: l)) 0 = (j : Int) := rfl
      rw [this]
      omega
     refine Ev.step (fun k => ?_) hI
     rw [impl_tray_parts_at_impl_isBall.l1, if_neg g1, if_pos g2, if_pos g3, if_neg g4, em]
theorem parts_isBall_ev {w h : Nat} (hs : Size w h) {L : List Int} (hL : L.length = w * h) : Ev (fun k => impl_tray_parts_at_impl_isBall.f k (w : Int) (h : Int) L) (partsTo (accB L) (adjOf w h) (w * h) (w * h)) := by
 have h0 := parts_isBall_l0 hs hL (w * h) 0 (Nat.zero_add _)
 refine Ev.congr (g := _) (r := _) (fun k => ?_) h0
 rw [impl_tray_parts_at_impl_isBall.f]
 rfl
end Go.Proofs.YtplifefnjeledaaDoorL
namespace Go.Proofs.YtplifefnjeledaaDoorL
open Go.RowKit Go.Proofs.YtplifefnjeledaaDoor.Q Go.Proofs.YtplifefnjeledaaDoorW.PrintWords Go.Proofs.YtplifefnjeledaaDoorW.PrintLast Go.Proofs.YtplifefnjeledaaDoorM Go.Proofs.YtplifefnjeledaaDoorV
open BF

theorem tyBall_is (c : Int) : spec_tyBall.f c = some (ballB c) := by
 unfold ballB
 rw [spec_tyBall.f]
 by_cases h : c = 111
 ·rw [if_pos h, decide_eq_true h]; rfl
 ·rw [if_neg h, decide_eq_false h, Bool.false_or]
  by_cases h2 : c ≥ 97
  ·rw [if_pos h2, decide_eq_true h2]; rfl
  ·rw [if_neg h2, decide_eq_false h2]; rfl
theorem sk_acc (L : List Int) (b : Nat) : spec_tyBall.f (L.getD b 0) = some (accB L b) := tyBall_is _
theorem sk_l3 {w h : Nat} {L : List Int} (hL : L.length = w * h) (hn36 : w * h ≤ 36) {r0 : Nat} {far0 : List Int} {u i : Nat} {cnt : Nat} (x27 : List Int) (x28 x29 : Int) (res : List Int × Int)
  (s : List Int × List Nat) (t b : Nat) (hlen : s.1.length = w * h) (hle : s.2.length ≤ w * h) (hb : (adjOf w h u)[t]? = some b) (hbn : b < w * h) (ht : t < 100)
  (hC : Ev (fun k => spec_skPieces.l3 k (visit (accB L) (cnt : Int) s b).1 (cnt : Int) (intsN (visit (accB L) (cnt : Int) s b).2) (i : Int) x27 x28 x29 (intsN (adjOf w h u)) ((intsN (adjOf w h u)).length : Int) ((t + 1 : Nat) : Int) (w : Int) (h : Int) L) res) :
  Ev (fun k => spec_skPieces.l3 k s.1 (cnt : Int) (intsN s.2) (i : Int) x27 x28 x29 (intsN (adjOf w h u)) ((intsN (adjOf w h u)).length : Int) (t : Int) (w : Int) (h : Int) L) res := by
 obtain ⟨eb, tb⟩ := at_nat hb
 have g1 : (0 : Int) ≤ (t : Int) := by omega
 have g2 : (0 : Int) ≤ (b : Int) := by omega
 have g3 : (b : Int) < (s.1.length : Int) := by omega
 have g4 : (b : Int) < (L.length : Int) := by omega
 have em : wrap64 ((t : Int) + 1) = ((t + 1 : Nat) : Int) := wrapN (t + 1) (by omega) (by omega)
 have rb := rd_nat s.1 b
 have rL := rd_nat L b
 have ea := sk_acc L b
 cases c2 : accB L b with
 | false =>
  rw [c2] at ea
  have hv : visit (accB L) (cnt : Int) s b = s := by
   unfold visit
   rw [if_neg (fun x => by rw [c2] at x; cases x.1)]
  rw [hv] at hC
  refine Ev.step (fun k => ?_) hC
  rw [spec_skPieces.l3, if_pos tb, if_pos g1, if_pos tb, eb, if_pos g2, if_pos g4, rL, ea, Option.bind_some, if_neg Bool.false_ne_true, em]
 | true =>
  rw [c2] at ea
  by_cases c1 : s.1.getD b 0 < 0
  ·have hv : visit (accB L) (cnt : Int) s b = (s.1.set b (cnt : Int), s.2 ++ [b]) := by
    unfold visit
    rw [if_pos ⟨c2, c1⟩]
   rw [hv, ← intsN_snoc] at hC
   have g8 : (intsN s.2).length < 17592186044416 := by rw [intsN_len]; omega
   refine Ev.step (fun k => ?_) hC
   rw [spec_skPieces.l3, if_pos tb, if_pos g1, if_pos tb, eb, if_pos g2, if_pos g4, rL, ea, Option.bind_some, if_pos rfl, if_pos g3, rb, if_pos c1, if_pos g8, em, Int.toNat_natCast]
  ·have hv : visit (accB L) (cnt : Int) s b = s := by
    unfold visit
    rw [if_neg (fun x => c1 x.2)]
   rw [hv] at hC
   refine Ev.step (fun k => ?_) hC
   rw [spec_skPieces.l3, if_pos tb, if_pos g1, if_pos tb, eb, if_pos g2, if_pos g4, rL, ea, Option.bind_some, if_pos rfl, if_pos g3, rb, if_neg c1, em]
theorem sk_l1 {w h : Nat} (hs : Size w h) {L : List Int} (hL : L.length = w * h) : ∀ (d i : Nat), i + d = w * h → ∀ (out : List Int) (cnt : Nat), Pieces (accB L) (adjOf w h) (w * h) i out cnt →
  ∃ out' cnt', Pieces (accB L) (adjOf w h) (w * h) (w * h) out' cnt' ∧ Ev (fun k => spec_skPieces.l1 k out (cnt : Int) L (L.length : Int) (i : Int) (w : Int) (h : Int) L) (out', (cnt' : Int)) := by
 have hp := hs.p
 have hn := adj_lt hs
 intro d
 induction d with
 | zero =>
  intro i hi out cnt hP
  have e : i = w * h := by omega
  subst e
  have g0 : ¬ ((w * h : Nat) : Int) < (L.length : Int) := by omega
  exact ⟨out, cnt, hP, Ev.step (f := fun _ => some (out, (cnt : Int))) (fun k => by rw [spec_skPieces.l1, if_neg g0]) (Ev.now _)⟩
 | succ d ih =>
  intro i hi out cnt hP
  have hin : i < w * h := by omega
  have hlen := hP.len
  have hcnt : cnt ≤ i := by rw [hP.cnt]; exact roots_le i
  have g0 : (i : Int) < (L.length : Int) := by omega
  have g1 : (0 : Int) ≤ (i : Int) := by omega
  have g2 : (i : Int) < (out.length : Int) := by omega
  have em : wrap64 ((i : Int) + 1) = ((i + 1 : Nat) : Int) := wrapN (i + 1) (by omega) (by omega)
  have ea := sk_acc L i
  have rL := rd_nat L i
  have rO := rd_nat out i
  cases c : accB L i with
  | false =>
   rw [c] at ea
   obtain ⟨o, cn, hP', hE⟩ := ih (i + 1) (by omega) out cnt (hP.skip hin (.inl c)).1
   refine ⟨o, cn, hP', Ev.step (f := fun k => spec_skPieces.j2 k out (cnt : Int) (i : Int) L (L.length : Int) (i : Int) true (w : Int) (h : Int) L) (fun k => ?_) (Ev.step (fun k => ?_) hE)⟩
   ·rw [spec_skPieces.l1, if_pos g0, if_pos g1, if_pos g0, rL, ea, Option.bind_some, if_neg Bool.false_ne_true]
   ·rw [spec_skPieces.j2, if_pos rfl, em]
  | true =>
   rw [c] at ea
   by_cases co : 0 ≤ out.getD i 0
   ·obtain ⟨o, cn, hP', hE⟩ := ih (i + 1) (by omega) out cnt (hP.skip hin (.inr co)).1
    refine ⟨o, cn, hP', Ev.step (f := fun k => spec_skPieces.j2 k out (cnt : Int) (i : Int) L (L.length : Int) (i : Int) true (w : Int) (h : Int) L) (fun k => ?_) (Ev.step (fun k => ?_) hE)⟩
    ·rw [spec_skPieces.l1, if_pos g0, if_pos g1, if_pos g0, rL, ea, Option.bind_some, if_pos rfl, if_pos g2, rO, decide_eq_true (show out.getD i 0 ≥ 0 from co)]
    ·rw [spec_skPieces.j2, if_pos rfl, em]
   ·obtain ⟨hroot, hno⟩ := hP.root (adj_sym hs) hin c (by omega)
    have hf : ∀ j, BF.Reach (accB L) (adjOf w h) i j → out.getD j 0 < 0 := fun j hj => by rw [hno j (hj.lt hn hin) hj]; decide
    obtain ⟨s1, s2, s3⟩ := search (Q := fun v => v = (cnt : Int)) (fun _ _ => (cnt : Int)) (fun v x => by have : v = (cnt : Int) := x; omega) (fun _ _ _ => rfl) hn hin c hlen hf (v := (cnt : Int)) rfl (w * h) (Nat.le_refl _)
    generalize hlp : loop (accB L) (adjOf w h) (fun _ _ => (cnt : Int)) (w * h) 0 (out.set i (cnt : Int), [i]) = fin at s1 s2 s3
    have hP2 := hP.more hn hin hroot hno s1 s2 s3
    obtain ⟨o, cn, hP', hE⟩ := ih (i + 1) (by omega) fin.1 (cnt + 1) hP2
    have EM := Aside0.mk em
    clear em
    have ec : wrap64 ((cnt : Int) + 1) = ((cnt + 1 : Nat) : Int) := wrapN (cnt + 1) (by omega) (by omega)
    have EC := Aside0.mk ec
    clear ec
    have X := BF.run (acc := accB L) (adj := adjOf w h) (Q := fun v => v = (cnt : Int)) (n := w * h) (r := i) (far0 := out) (c := (cnt : Int)) (fun _ _ => (cnt : Int)) (fun v x => by have : v = (cnt : Int) := x; omega) hn hin hf (fun far u x => ⟨rfl, by have : far.getD u 0 = (cnt : Int) := x; omega⟩)
     (fun s m => Ev (fun k => spec_skPieces.l2 k s.1 (cnt : Int) (intsN s.2) (m : Int) L (L.length : Int) (i : Int) (w : Int) (h : Int) L) (o, (cn : Int))) (fun s => Ev (fun k => spec_skPieces.l1 k s.1 ((cnt + 1 : Nat) : Int) L (L.length : Int) ((i + 1 : Nat) : Int) (w : Int) (h : Int) L) (o, (cn : Int))) ?_ ?_ (w * h) 0 (out.set i (cnt : Int), [i]) (by omega) (Nat.zero_le _) (start_good hin c hlen rfl (by omega)) (by rw [hlp]; exact hE)
    ·refine ⟨o, cn, hP', Ev.step (f := fun k => spec_skPieces.j2 k out (cnt : Int) (i : Int) L (L.length : Int) (i : Int) false (w : Int) (h : Int) L) (fun k => ?_) (Ev.step (fun k => ?_) X)⟩
     ·rw [spec_skPieces.l1, if_pos g0, if_pos g1, if_pos g0, rL, ea, Option.bind_some, if_pos rfl, if_pos g2, rO, decide_eq_false (show ¬ out.getD i 0 ≥ 0 from co)]
     ·rw [spec_skPieces.j2, if_neg Bool.false_ne_true, if_pos g1, if_pos g2, Int.toNat_natCast]
      rfl
    ·intro s m u hG hm hmn hun hre hq hC
     obtain ⟨eu, iu⟩ := at_nat hm
     have g1 : (0 : Int) ≤ (m : Int) := by omega
     have em2 : wrap64 ((m : Int) + 1) = ((m + 1 : Nat) : Int) := wrapN (m + 1) (by omega) (by omega)
     have hq' : s.1.getD u 0 = (cnt : Int) := hq
     have Y := BF.inner (acc := accB L) (adj := adjOf w h) (Q := fun v => v = (cnt : Int)) (n := w * h) (r := i) (far0 := out) (c := (cnt : Int)) (fun v x => by have : v = (cnt : Int) := x; omega) hn hf (v := (cnt : Int)) (z := (cnt : Int)) rfl (u := u) (i := m) hre (by omega) (by omega)
      (fun s' t => Ev (fun k => spec_skPieces.l3 k s'.1 (cnt : Int) (intsN s'.2) (m : Int) L (L.length : Int) (i : Int) (intsN (adjOf w h u)) ((intsN (adjOf w h u)).length : Int) (t : Int) (w : Int) (h : Int) L) (o, (cn : Int)))
      (fun s' t b hG' hi' hz' hzb hb hbn hC' => sk_l3 (r0 := i) (far0 := out) hL hp L (L.length : Int) (i : Int) (o, (cn : Int)) s' t b hG'.inv.len (hG'.le hn hin) hb hbn (by have := (List.getElem?_eq_some_iff.1 hb).1; have := adj_small w h u; omega) hC')
      (adjOf w h u).length 0 s (Nat.zero_add _) hG hm hq' ?_
     ·refine Ev.step (f := fun k => (spec_tyNear.f k (w : Int) (h : Int) L (u : Int)).bind fun t251 => (spec_skPieces.l3 k s.1 (cnt : Int) (intsN s.2) (m : Int) L (L.length : Int) (i : Int) t251 (t251.length : Int) 0 (w : Int) (h : Int) L)) (fun k => ?_) (Ev.bind (f := fun k t251 => (spec_skPieces.l3 k s.1 (cnt : Int) (intsN s.2) (m : Int) L (L.length : Int) (i : Int) t251 (t251.length : Int) 0 (w : Int) (h : Int) L)) (near_ev hs hun L) Y)
      rw [spec_skPieces.l2, if_pos iu, if_pos g1, eu]
     ·rw [layer_drop (val := fun _ _ => (cnt : Int))]
      have g0 : ¬ (((adjOf w h u).length : Nat) : Int) < ((intsN (adjOf w h u)).length : Int) := by rw [intsN_len]; omega
      refine Ev.step (fun k => ?_) hC
      rw [spec_skPieces.l3, if_neg g0, em2]
    ·intro s hG hK
     have g0 : ¬ ((s.2.length : Nat) : Int) < ((intsN s.2).length : Int) := by rw [intsN_len]; omega
     refine Ev.step (fun k => ?_) hK
     rw [spec_skPieces.l2, if_neg g0, EC.out, EM.out]
theorem sk_ev {w h : Nat} (hs : Size w h) {L : List Int} (hL : L.length = w * h) : ∃ out cnt, Pieces (accB L) (adjOf w h) (w * h) (w * h) out cnt ∧ Ev (fun k => spec_skPieces.f k (w : Int) (h : Int) L) (out, (cnt : Int)) := by
 have hp := hs.p
 obtain ⟨o, cn, hP, hE⟩ := sk_l1 hs hL (w * h) 0 (Nat.zero_add _) (List.replicate (w * h) (-1)) 0 Pieces.start
 refine ⟨o, cn, hP, ?_⟩
 have lay : ∀ (d i : Nat) (F : List Int), i + d = w * h → F.length = w * h → (∀ j, j < i → F.getD j 0 = -1) → Ev (fun k => spec_skPieces.l0 k F ((w * h : Nat) : Int) (i : Int) (w : Int) (h : Int) L) (o, (cn : Int)) := by
  intro d
  induction d with
  | zero =>
   intro i F hi hF hv
   have e : i = w * h := by omega
   subst e
   have eF : F = List.replicate (w * h) (-1) := by
    apply List.ext_getElem
    ·rw [hF, List.length_replicate]
    ·intro j h1 h2
     have := hv j (by omega)
     rw [List.getD_eq_getElem?_getD, List.getElem?_eq_getElem h1] at this
     rw [List.getElem_replicate]
     exact this
   subst eF
   have g0 : ¬ ((w * h : Nat) : Int) < ((w * h : Nat) : Int) := by omega
   refine Ev.step (fun k => ?_) hE
   rw [spec_skPieces.l0, if_neg g0]
   rfl
  | succ d ih =>
   intro i F hi hF hv
   have g0 : (i : Int) < ((w * h : Nat) : Int) := by omega
   have g1 : (0 : Int) ≤ (i : Int) := by omega
   have g2 : (i : Int) < (F.length : Int) := by omega
   have em : wrap64 ((i : Int) + 1) = ((i + 1 : Nat) : Int) := wrapN (i + 1) (by omega) (by omega)
   refine Ev.step (fun k => ?_) (ih (i + 1) (F.set i (-1)) (by omega) (by rw [List.length_set]; exact hF) (fun j hj => ?_))
   ·rw [spec_skPieces.l0, if_pos g0, if_pos g1, if_pos g2, Int.toNat_natCast, em]
   ·by_cases e : i = j
    ·rw [← e, getD_set_same _ _ _ (by omega)]
    ·rw [getD_set_other _ _ _ _ e]
     exact hv j (by omega)
 have h0 := lay (w * h) 0 (List.replicate (w * h) 0) (Nat.zero_add _) List.length_replicate (fun j hj => absurd hj (Nat.not_lt_zero _))
 refine Ev.congr (g := _) (r := _) (fun k => ?_) h0
 have g1 : (0 : Int) ≤ (L.length : Int) := by omega
 have g2 : ((L.length : Int) : Int).toNat ≤ 35184372088832 := by omega
 rw [spec_skPieces.f, if_pos g1, if_pos g2, Option.bind_some, Int.toNat_natCast, List.length_replicate, hL]
 rfl
end Go.Proofs.YtplifefnjeledaaDoorL
