/- The program's distances over cells that are no walls. -/
import Derived.Test.YtplifefnjeledaaDoorLNear
import Derived.Test.YtplifefnjeledaaDoorQx7
import Derived.Test.YtplifefnjeledaaDoorQx8
import Derived.Test.YtplifefnjeledaaDoorQx9
import Derived.Test.YtplifefnjeledaaDoorQx17
set_option linter.unusedVariables false
set_option linter.unusedSimpArgs false
namespace Go.Proofs.YtplifefnjeledaaDoorL
open Go.RowKit Go.Proofs.YtplifefnjeledaaDoor.Q Go.Proofs.YtplifefnjeledaaDoorW.PrintWords Go.Proofs.YtplifefnjeledaaDoorW.PrintLast Go.Proofs.YtplifefnjeledaaDoorM Go.Proofs.YtplifefnjeledaaDoorV
open BF

theorem acc_isOpen (L : List Int) (b : Nat) : impl_isOpen.f (L.getD b 0) = some (accO L b) := by
  unfold impl_isOpen.f accO
  rfl
theorem dist_isOpen_l1 {w h : Nat} {L : List Int} (hL : L.length = w * h) (hn36 : w * h ≤ 36) {r0 : Nat} {far0 : List Int} {u i : Nat} {z : Int} (hz0 : 0 ≤ z) (hu : u < w * h) (res : List Int)
    (s : List Int × List Nat) (t b : Nat) (hG : BF.Good (accO L) (adjOf w h) (fun v => 0 ≤ v) (w * h) r0 far0 0 s) (hle : s.2.length ≤ w * h) (hi : s.2[i]? = some u) (hz : s.1.getD u 0 = z) (hzb : z ≤ (s.2.length : Int) + 0) (hb : (adjOf w h u)[t]? = some b) (hbn : b < w * h) (ht : t < 100)
    (hC : Ev (fun k => impl_tray_distances_at_impl_isOpen.l1 k (visit (accO L) (z + 1) s b).1 (intsN (visit (accO L) (z + 1) s b).2) (i : Int) (intsN (adjOf w h u)) ((intsN (adjOf w h u)).length : Int) ((t + 1 : Nat) : Int) (w : Int) (h : Int) L) res) :
    Ev (fun k => impl_tray_distances_at_impl_isOpen.l1 k s.1 (intsN s.2) (i : Int) (intsN (adjOf w h u)) ((intsN (adjOf w h u)).length : Int) (t : Int) (w : Int) (h : Int) L) res := by
  obtain ⟨eb, tb⟩ := at_nat hb
  obtain ⟨eu, iu⟩ := at_nat hi
  have hlen := hG.inv.len
  have g1 : (0 : Int) ≤ (t : Int) := by omega
  have g2 : (0 : Int) ≤ (b : Int) := by omega
  have g3 : (b : Int) < (s.1.length : Int) := by omega
  have g4 : (b : Int) < (L.length : Int) := by omega
  have em : wrap64 ((t : Int) + 1) = ((t + 1 : Nat) : Int) := wrapN (t + 1) (by omega) (by omega)
  have rb := rd_nat s.1 b
  have rL := rd_nat L b
  have ea := acc_isOpen L b
  cases c2 : accO L b with
  | false =>
    rw [c2] at ea
    have hv : visit (accO L) (z + 1) s b = s := by
      unfold visit
      rw [if_neg (fun x => by rw [c2] at x; cases x.1)]
    rw [hv] at hC
    refine Ev.step (fun k => ?_) hC
    rw [impl_tray_distances_at_impl_isOpen.l1, if_pos tb, if_pos g1, if_pos tb, eb, if_pos g2, if_pos g4, rL, ea, Option.bind_some, if_neg Bool.false_ne_true, em]
  | true =>
    rw [c2] at ea
    by_cases c1 : s.1.getD b 0 < 0
    · have hv : visit (accO L) (z + 1) s b = (s.1.set b (z + 1), s.2 ++ [b]) := by
        unfold visit
        rw [if_pos ⟨c2, c1⟩]
      rw [hv, ← intsN_snoc] at hC
      have g5 : (0 : Int) ≤ (i : Int) := by omega
      have g6 : (0 : Int) ≤ (u : Int) := by omega
      have g7 : (u : Int) < (s.1.length : Int) := by omega
      have g8 : (intsN s.2).length < 17592186044416 := by rw [intsN_len]; omega
      have ez : wrap64 (z + 1) = z + 1 := by unfold wrap64; omega
      refine Ev.step (fun k => ?_) hC
      rw [impl_tray_distances_at_impl_isOpen.l1, if_pos tb, if_pos g1, if_pos tb, eb, if_pos g2, if_pos g4, rL, ea, Option.bind_some, if_pos rfl, if_pos g3, rb, if_pos c1, if_pos g5, if_pos iu, eu, if_pos g6, if_pos g7, if_pos g8, em, rd_nat s.1 u, hz, ez, Int.toNat_natCast]
    · have hv : visit (accO L) (z + 1) s b = s := by
        unfold visit
        rw [if_neg (fun x => c1 x.2)]
      rw [hv] at hC
      refine Ev.step (fun k => ?_) hC
      rw [impl_tray_distances_at_impl_isOpen.l1, if_pos tb, if_pos g1, if_pos tb, eb, if_pos g2, if_pos g4, rL, ea, Option.bind_some, if_pos rfl, if_pos g3, rb, if_neg c1, em]
theorem dist_isOpen_ev {w h : Nat} (hs : Size w h) {L : List Int} (hL : L.length = w * h) {r : Nat} (hr : r < w * h) : Ev (fun k => impl_tray_distances_at_impl_isOpen.f k (w : Int) (h : Int) L (r : Int)) (farOf (accO L) (adjOf w h) (w * h) r) := by
  have hp := hs.p
  have hn := adj_lt hs
  have search : accO L r = true → Ev (fun k => impl_tray_distances_at_impl_isOpen.l0 k ((List.replicate (w * h) (-1 : Int)).set r 0) (intsN [r]) ((0 : Nat) : Int) (w : Int) (h : Int) L) (farOf (accO L) (adjOf w h) (w * h) r) := by
    intro ha
    have hf : ∀ j, BF.Reach (accO L) (adjOf w h) r j → (List.replicate (w * h) (-1 : Int)).getD j 0 < 0 := fun j hj => by rw [rep_at _ j (hj.lt hn hr)]; decide
    have e : farOf (accO L) (adjOf w h) (w * h) r = (loop (accO L) (adjOf w h) (fun far u => far.getD u 0 + 1) (w * h) 0 ((List.replicate (w * h) (-1)).set r 0, [r])).1 := by unfold farOf; rw [if_pos ha]
    generalize farOf (accO L) (adjOf w h) (w * h) r = res at e ⊢
    refine BF.run (acc := accO L) (adj := adjOf w h) (Q := fun v => 0 ≤ v) (n := w * h) (r := r) (far0 := List.replicate (w * h) (-1)) (c := 0) (fun far u => far.getD u 0 + 1) (fun _ x => x) hn hr hf (fun far u x => ⟨by show 0 ≤ far.getD u 0 + 1; have : 0 ≤ far.getD u 0 := x; omega, Int.le_refl _⟩)
      (fun s i => Ev (fun k => impl_tray_distances_at_impl_isOpen.l0 k s.1 (intsN s.2) (i : Int) (w : Int) (h : Int) L) res) (fun s => res = s.1) ?_ ?_ (w * h) 0 ((List.replicate (w * h) (-1)).set r 0, [r]) (by omega) (Nat.zero_le _) (start_good hr ha List.length_replicate (Int.le_refl 0) (by decide)) e
    · intro s i u hG hi hin hun hre hq hC
      obtain ⟨eu, iu⟩ := at_nat hi
      have g1 : (0 : Int) ≤ (i : Int) := by omega
      have em : wrap64 ((i : Int) + 1) = ((i + 1 : Nat) : Int) := wrapN (i + 1) (by omega) (by omega)
      have X := BF.inner (acc := accO L) (adj := adjOf w h) (Q := fun v => 0 ≤ v) (n := w * h) (r := r) (far0 := List.replicate (w * h) (-1)) (c := 0) (fun _ x => x) hn hf (v := s.1.getD u 0 + 1) (z := s.1.getD u 0) (by have : 0 ≤ s.1.getD u 0 := hq; show 0 ≤ s.1.getD u 0 + 1; omega) (u := u) (i := i) hre hq (Int.le_refl _)
        (fun s' t => Ev (fun k => impl_tray_distances_at_impl_isOpen.l1 k s'.1 (intsN s'.2) (i : Int) (intsN (adjOf w h u)) ((intsN (adjOf w h u)).length : Int) (t : Int) (w : Int) (h : Int) L) res)
        (fun s' t b hG' hi' hz' hzb hb hbn hC' => dist_isOpen_l1 hL hp hq hun res s' t b hG' (hG'.le hn hr) hi' hz' hzb hb hbn (by have := (List.getElem?_eq_some_iff.1 hb).1; have := adj_small w h u; omega) hC')
        (adjOf w h u).length 0 s (Nat.zero_add _) hG hi rfl ?_
      · refine Ev.step (fun k => ?_) X
        rw [impl_tray_distances_at_impl_isOpen.l0, if_pos iu, if_pos g1, eu, beside_eq hs hun L, Option.bind_some]
        rfl
      · rw [layer_drop (val := fun far u => far.getD u 0 + 1)]
        have g0 : ¬ (((adjOf w h u).length : Nat) : Int) < ((intsN (adjOf w h u)).length : Int) := by rw [intsN_len]; omega
        refine Ev.step (fun k => ?_) hC
        rw [impl_tray_distances_at_impl_isOpen.l1, if_neg g0, em]
    · intro s hG hK
      have g0 : ¬ ((s.2.length : Nat) : Int) < ((intsN s.2).length : Int) := by rw [intsN_len]; omega
      refine Ev.step (f := fun _ => some res) (fun k => ?_) (Ev.now _)
      rw [impl_tray_distances_at_impl_isOpen.l0, if_neg g0, hK]
  have eR : slices_Repeat_int_int.f (([(-1)] : List Int)) (L.length : Int) = some (List.replicate (w * h) (-1)) := by
    unfold slices_Repeat_int_int.f
    rw [if_pos ⟨rfl, by omega, by omega⟩, hL, Int.toNat_natCast]
    rfl
  have g1 : (0 : Int) ≤ (r : Int) := by omega
  have g2 : (r : Int) < (L.length : Int) := by omega
  have ea := acc_isOpen L r
  cases c : accO L r with
  | false =>
    rw [c] at ea
    have e : farOf (accO L) (adjOf w h) (w * h) r = List.replicate (w * h) (-1) := by unfold farOf; rw [if_neg (by rw [c]; exact Bool.false_ne_true)]
    rw [e]
    refine Ev.congr (f := fun _ => some (List.replicate (w * h) (-1))) (g := _) (r := _) (fun k => ?_) (Ev.now _)
    rw [impl_tray_distances_at_impl_isOpen.f, eR, Option.bind_some, if_pos g1, if_pos g2, rd_nat L r, ea, Option.bind_some, if_neg Bool.false_ne_true]
  | true =>
    rw [c] at ea
    have g3 : (r : Int) < ((List.replicate (w * h) (-1 : Int)).length : Int) := by rw [List.length_replicate]; omega
    refine Ev.congr (g := _) (r := _) (fun k => ?_) (search c)
    rw [impl_tray_distances_at_impl_isOpen.f, eR, Option.bind_some, if_pos g1, if_pos g2, rd_nat L r, ea, Option.bind_some, if_pos rfl, if_pos g3, Int.toNat_natCast]
    rfl
end Go.Proofs.YtplifefnjeledaaDoorL
namespace Go.Proofs.YtplifefnjeledaaDoorL
open Go.RowKit Go.Proofs.YtplifefnjeledaaDoor.Q Go.Proofs.YtplifefnjeledaaDoorW.PrintWords Go.Proofs.YtplifefnjeledaaDoorW.PrintLast Go.Proofs.YtplifefnjeledaaDoorM Go.Proofs.YtplifefnjeledaaDoorV
open BF


theorem parts_isOpen_l1 {w h : Nat} (hs : Size w h) {L : List Int} (hL : L.length = w * h) {i : Nat} (hin : i < w * h) (x5 : List (List Int)) (n13 i14 : Int) (far : List Int) (hfl : far.length = w * h) (hfr : ∀ j, BF.Reach (accO L) (adjOf w h) i j → 0 ≤ far.getD j 0) (hfn : ∀ j, j < w * h → ¬ BF.Reach (accO L) (adjOf w h) i j → far.getD j 0 = -1) (res : List (List Int))
    (hC : Ev (fun k => impl_tray_parts_at_impl_isOpen.l1 k x5 (i : Int) (intsN (comp (accO L) (adjOf w h) (w * h) i)) n13 i14 far (far.length : Int) ((w * h : Nat) : Int) (w : Int) (h : Int) L) res) :
    ∀ (d t : Nat), t + d = w * h → Ev (fun k => impl_tray_parts_at_impl_isOpen.l1 k x5 (i : Int) (intsN (comp (accO L) (adjOf w h) t i)) n13 i14 far (far.length : Int) (t : Int) (w : Int) (h : Int) L) res := by
  have hp := hs.p
  intro d
  induction d with
  | zero =>
    intro t ht
    have e : t = w * h := by omega
    subst e
    exact hC
  | succ d ih =>
    intro t ht
    have hI := ih (t + 1) (by omega)
    have g0 : (t : Int) < (far.length : Int) := by omega
    have g1 : (0 : Int) ≤ (t : Int) := by omega
    have em : wrap64 ((t : Int) + 1) = ((t + 1 : Nat) : Int) := wrapN (t + 1) (by omega) (by omega)
    have rb := rd_nat far t
    have hle : (comp (accO L) (adjOf w h) t i).length ≤ t := comp_le t i
    rcases Classical.em (BF.Reach (accO L) (adjOf w h) i t) with x | x
    · have c : far.getD t 0 ≥ 0 := hfr t x
      have e : comp (accO L) (adjOf w h) (t + 1) i = comp (accO L) (adjOf w h) t i ++ [t] := comp_pos x
      rw [e, ← intsN_snoc] at hI
      have g8 : (intsN (comp (accO L) (adjOf w h) t i)).length < 17592186044416 := by rw [intsN_len]; omega
      refine Ev.step (fun k => ?_) hI
      rw [impl_tray_parts_at_impl_isOpen.l1, if_pos g0, if_pos g1, if_pos g0, rb, if_pos c, if_pos g8, em]
    · have c : ¬ far.getD t 0 ≥ 0 := by rw [hfn t (by omega) x]; decide
      have e : comp (accO L) (adjOf w h) (t + 1) i = comp (accO L) (adjOf w h) t i := comp_neg x
      rw [e] at hI
      refine Ev.step (fun k => ?_) hI
      rw [impl_tray_parts_at_impl_isOpen.l1, if_pos g0, if_pos g1, if_pos g0, rb, if_neg c, em]
theorem parts_isOpen_l0 {w h : Nat} (hs : Size w h) {L : List Int} (hL : L.length = w * h) : ∀ (d i : Nat), i + d = w * h →
    Ev (fun k => impl_tray_parts_at_impl_isOpen.l0 k (partsTo (accO L) (adjOf w h) (w * h) i) (L.length : Int) (i : Int) (w : Int) (h : Int) L) (partsTo (accO L) (adjOf w h) (w * h) (w * h)) := by
  have hp := hs.p
  have hn := adj_lt hs
  intro d
  induction d with
  | zero =>
    intro i hi
    have e : i = w * h := by omega
    subst e
    have g0 : ¬ ((w * h : Nat) : Int) < (L.length : Int) := by omega
    exact Ev.step (f := fun _ => some (partsTo (accO L) (adjOf w h) (w * h) (w * h))) (fun k => by rw [impl_tray_parts_at_impl_isOpen.l0, if_neg g0]) (Ev.now _)
  | succ d ih =>
    intro i hi
    have hin : i < w * h := by omega
    have hI := ih (i + 1) (by omega)
    have g0 : (i : Int) < (L.length : Int) := by omega
    have em : wrap64 ((i : Int) + 1) = ((i + 1 : Nat) : Int) := wrapN (i + 1) (by omega) (by omega)
    have DF := dist_isOpen_ev hs hL hin
    obtain ⟨f1, f2, f3⟩ := BF.farOf_spec (acc := accO L) hn hin
    generalize BF.farOf (accO L) (adjOf w h) (w * h) i = far at DF f1 f2 f3
    have X := parts_isOpen_l1 hs hL hin (partsTo (accO L) (adjOf w h) (w * h) i) (L.length : Int) (i : Int) far f1 f2 f3 (partsTo (accO L) (adjOf w h) (w * h) (w * h)) ?_ (w * h) 0 (Nat.zero_add _)
    · refine Ev.step (f := fun k => (impl_tray_distances_at_impl_isOpen.f k (w : Int) (h : Int) L (i : Int)).bind fun t308 => (impl_tray_parts_at_impl_isOpen.l1 k (partsTo (accO L) (adjOf w h) (w * h) i) (i : Int) (([] : List Int)) (L.length : Int) (i : Int) t308 (t308.length : Int) 0 (w : Int) (h : Int) L)) (fun k => ?_) (Ev.bind (f := fun k t308 => (impl_tray_parts_at_impl_isOpen.l1 k (partsTo (accO L) (adjOf w h) (w * h) i) (i : Int) (([] : List Int)) (L.length : Int) (i : Int) t308 (t308.length : Int) 0 (w : Int) (h : Int) L)) DF X)
      rw [impl_tray_parts_at_impl_isOpen.l0, if_pos g0]
    · have g1 : ¬ ((w * h : Nat) : Int) < (far.length : Int) := by omega
      by_cases hr : Root (accO L) (adjOf w h) i
      · obtain ⟨l, hl⟩ := (root_iff (n := w * h) (adj_sym hs) hin).1 hr
        have e1 : partsTo (accO L) (adjOf w h) (w * h) (i + 1) = partsTo (accO L) (adjOf w h) (w * h) i ++ [intsN (comp (accO L) (adjOf w h) (w * h) i)] := by
          unfold partsTo
          rw [roots_pos hr, List.map_append]
          rfl
        rw [e1] at hI
        have hpl : (partsTo (accO L) (adjOf w h) (w * h) i).length ≤ i := by
          unfold partsTo
          rw [List.length_map]
          exact roots_le i
        have g2 : ((intsN (comp (accO L) (adjOf w h) (w * h) i)).length : Int) > 0 := by rw [intsN_len, hl, List.length_cons]; omega
        have g3 : (0 : Int) < ((intsN (comp (accO L) (adjOf w h) (w * h) i)).length : Int) := g2
        have g4 : rd (intsN (comp (accO L) (adjOf w h) (w * h) i)) 0 = (i : Int) := by rw [hl]; rfl
        have g5 : (partsTo (accO L) (adjOf w h) (w * h) i).length < 5864062014805 := by omega
        refine Ev.step (fun k => ?_) hI
        rw [impl_tray_parts_at_impl_isOpen.l1, if_neg g1, if_pos g2, if_pos g3, if_pos g4, if_pos g5, em]
      · have e1 : partsTo (accO L) (adjOf w h) (w * h) (i + 1) = partsTo (accO L) (adjOf w h) (w * h) i := by
          unfold partsTo
          rw [roots_neg hr]
        rw [e1] at hI
        rcases hc : comp (accO L) (adjOf w h) (w * h) i with _ | ⟨j, l⟩
        · have g2 : ¬ ((intsN ([] : List Nat)).length : Int) > 0 := by decide
          refine Ev.step (fun k => ?_) hI
          rw [impl_tray_parts_at_impl_isOpen.l1, if_neg g1, if_neg g2, em]
        · have hji : ¬ j = i := fun e => hr ((root_iff (n := w * h) (adj_sym hs) hin).2 ⟨l, by rw [hc, e]⟩)
          have g2 : ((intsN (j :: l)).length : Int) > 0 := by rw [intsN_len, List.length_cons]; omega
          have g3 : (0 : Int) < ((intsN (j :: l)).length : Int) := g2
          have g4 : ¬ rd (intsN (j :: l)) 0 = (i : Int) := by
            have : rd (intsN (j :: l)) 0 = (j : Int) := rfl
            rw [this]
            omega
          refine Ev.step (fun k => ?_) hI
          rw [impl_tray_parts_at_impl_isOpen.l1, if_neg g1, if_pos g2, if_pos g3, if_neg g4, em]
theorem parts_isOpen_ev {w h : Nat} (hs : Size w h) {L : List Int} (hL : L.length = w * h) : Ev (fun k => impl_tray_parts_at_impl_isOpen.f k (w : Int) (h : Int) L) (partsTo (accO L) (adjOf w h) (w * h) (w * h)) := by
  have h0 := parts_isOpen_l0 hs hL (w * h) 0 (Nat.zero_add _)
  refine Ev.congr (g := _) (r := _) (fun k => ?_) h0
  rw [impl_tray_parts_at_impl_isOpen.f]
  rfl
end Go.Proofs.YtplifefnjeledaaDoorL
