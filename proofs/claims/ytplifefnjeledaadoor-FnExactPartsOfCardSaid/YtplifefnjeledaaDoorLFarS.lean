/- The reference's tyFar is the search. -/
import Derived.Test.YtplifefnjeledaaDoorLNear
import Derived.Test.YtplifefnjeledaaDoorQx4
set_option linter.unusedVariables false
set_option linter.unusedSimpArgs false
namespace Go.Proofs.YtplifefnjeledaaDoorL
open Go.RowKit Go.Proofs.YtplifefnjeledaaDoor.Q Go.Proofs.YtplifefnjeledaaDoorW.PrintWords Go.Proofs.YtplifefnjeledaaDoorW.PrintLast Go.Proofs.YtplifefnjeledaaDoorM Go.Proofs.YtplifefnjeledaaDoorV
open BF

theorem spec_far_l2 {w h : Nat} {L : List Int} (hL : L.length = w * h) (hn36 : w * h ≤ 36) {r0 : Nat} {far0 : List Int} {u i : Nat} {z : Int} (hz0 : 0 ≤ z) (hu : u < w * h) (res : List Int)
    (s : List Int × List Nat) (t b : Nat) (hG : BF.Good (accO L) (adjOf w h) (fun v => 0 ≤ v) (w * h) r0 far0 0 s) (hle : s.2.length ≤ w * h) (hi : s.2[i]? = some u) (hz : s.1.getD u 0 = z) (hzb : z ≤ (s.2.length : Int) + 0) (hb : (adjOf w h u)[t]? = some b) (hbn : b < w * h) (ht : t < 100)
    (hC : Ev (fun k => spec_tyFar.l2 k (visit (accO L) (z + 1) s b).1 (intsN (visit (accO L) (z + 1) s b).2) (i : Int) (intsN (adjOf w h u)) ((intsN (adjOf w h u)).length : Int) ((t + 1 : Nat) : Int) (w : Int) (h : Int) L) res) :
    Ev (fun k => spec_tyFar.l2 k s.1 (intsN s.2) (i : Int) (intsN (adjOf w h u)) ((intsN (adjOf w h u)).length : Int) (t : Int) (w : Int) (h : Int) L) res := by
  obtain ⟨eb, tb⟩ := at_nat hb
  obtain ⟨eu, iu⟩ := at_nat hi
  have hlen := hG.inv.len
  have g1 : (0 : Int) ≤ (t : Int) := by omega
  have g2 : (0 : Int) ≤ (b : Int) := by omega
  have g3 : (b : Int) < (s.1.length : Int) := by omega
  have g4 : (b : Int) < (L.length : Int) := by omega
  have em : wrap64 ((t : Int) + 1) = ((t + 1 : Nat) : Int) := wrapN (t + 1) (by omega) (by omega)
  have rb := rd_nat s.1 b
  have rL := rd_nat L b
  by_cases c1 : s.1.getD b 0 < 0
  · by_cases c2 : L.getD b 0 = 35
    · have hv : visit (accO L) (z + 1) s b = s := by
        unfold visit
        rw [if_neg]
        rintro ⟨x, _⟩
        unfold accO at x
        rw [c2] at x
        exact absurd x (by decide)
      rw [hv] at hC
      refine Ev.step (fun k => ?_) hC
      rw [spec_tyFar.l2, if_pos tb, if_pos g1, if_pos tb, eb, if_pos g2, if_pos g3, rb, if_pos c1, if_pos g4, rL, if_pos c2, em]
    · have hv : visit (accO L) (z + 1) s b = (s.1.set b (z + 1), s.2 ++ [b]) := by
        unfold visit
        rw [if_pos]
        refine ⟨?_, c1⟩
        unfold accO
        rw [bne_iff_ne]
        exact c2
      rw [hv, ← intsN_snoc] at hC
      have g5 : (0 : Int) ≤ (i : Int) := by omega
      have g6 : (0 : Int) ≤ (u : Int) := by omega
      have g7 : (u : Int) < (s.1.length : Int) := by omega
      have g8 : (intsN s.2).length < 17592186044416 := by rw [intsN_len]; omega
      have ez : wrap64 (z + 1) = z + 1 := by unfold wrap64; omega
      refine Ev.step (fun k => ?_) hC
      rw [spec_tyFar.l2, if_pos tb, if_pos g1, if_pos tb, eb, if_pos g2, if_pos g3, rb, if_pos c1, if_pos g4, rL, if_neg c2, if_pos g5, if_pos iu, eu, if_pos g6, if_pos g7, if_pos g8, em, rd_nat s.1 u, hz, ez, Int.toNat_natCast]
  · have hv : visit (accO L) (z + 1) s b = s := by
      unfold visit
      rw [if_neg (fun x => c1 x.2)]
    rw [hv] at hC
    refine Ev.step (fun k => ?_) hC
    rw [spec_tyFar.l2, if_pos tb, if_pos g1, if_pos tb, eb, if_pos g2, if_pos g3, rb, if_neg c1, em]
theorem spec_far_ev {w h : Nat} (hs : Size w h) {L : List Int} (hL : L.length = w * h) {r : Nat} (hr : r < w * h) : Ev (fun k => spec_tyFar.f k (w : Int) (h : Int) L (r : Int)) (farOf (accO L) (adjOf w h) (w * h) r) := by
  have hp := hs.p
  have hn := adj_lt hs
  -- the search
  have search : accO L r = true → Ev (fun k => spec_tyFar.l1 k ((List.replicate (w * h) (-1 : Int)).set r 0) (intsN [r]) ((0 : Nat) : Int) (w : Int) (h : Int) L) (farOf (accO L) (adjOf w h) (w * h) r) := by
    intro ha
    have hf : ∀ j, BF.Reach (accO L) (adjOf w h) r j → (List.replicate (w * h) (-1 : Int)).getD j 0 < 0 := fun j hj => by rw [rep_at _ j (hj.lt hn hr)]; decide
    have e : farOf (accO L) (adjOf w h) (w * h) r = (loop (accO L) (adjOf w h) (fun far u => far.getD u 0 + 1) (w * h) 0 ((List.replicate (w * h) (-1)).set r 0, [r])).1 := by unfold farOf; rw [if_pos ha]
    generalize farOf (accO L) (adjOf w h) (w * h) r = res at e ⊢
    refine BF.run (acc := accO L) (adj := adjOf w h) (Q := fun v => 0 ≤ v) (n := w * h) (r := r) (far0 := List.replicate (w * h) (-1)) (c := 0) (fun far u => far.getD u 0 + 1) (fun _ x => x) hn hr hf (fun far u x => ⟨by show 0 ≤ far.getD u 0 + 1; have : 0 ≤ far.getD u 0 := x; omega, Int.le_refl _⟩)
      (fun s i => Ev (fun k => spec_tyFar.l1 k s.1 (intsN s.2) (i : Int) (w : Int) (h : Int) L) res) (fun s => res = s.1) ?_ ?_ (w * h) 0 ((List.replicate (w * h) (-1)).set r 0, [r]) (by omega) (Nat.zero_le _) (start_good hr ha List.length_replicate (Int.le_refl 0) (by decide)) e
    · intro s i u hG hi hin hun hre hq hC
      obtain ⟨eu, iu⟩ := at_nat hi
      have g1 : (0 : Int) ≤ (i : Int) := by omega
      have em : wrap64 ((i : Int) + 1) = ((i + 1 : Nat) : Int) := wrapN (i + 1) (by omega) (by omega)
      have X := BF.inner (acc := accO L) (adj := adjOf w h) (Q := fun v => 0 ≤ v) (n := w * h) (r := r) (far0 := List.replicate (w * h) (-1)) (c := 0) (fun _ x => x) hn hf (v := s.1.getD u 0 + 1) (z := s.1.getD u 0) (by have : 0 ≤ s.1.getD u 0 := hq; show 0 ≤ s.1.getD u 0 + 1; omega) (u := u) (i := i) hre hq (Int.le_refl _)
        (fun s' t => Ev (fun k => spec_tyFar.l2 k s'.1 (intsN s'.2) (i : Int) (intsN (adjOf w h u)) ((intsN (adjOf w h u)).length : Int) (t : Int) (w : Int) (h : Int) L) res)
        (fun s' t b hG' hi' hz' hzb hb hbn hC' => spec_far_l2 hL hp hq hun res s' t b hG' (hG'.le hn hr) hi' hz' hzb hb hbn (by have := (List.getElem?_eq_some_iff.1 hb).1; have := adj_small w h u; omega) hC')
        (adjOf w h u).length 0 s (Nat.zero_add _) hG hi rfl ?_
      · refine Ev.step (f := fun k => (spec_tyNear.f k (w : Int) (h : Int) L (u : Int)).bind fun t141 => (spec_tyFar.l2 k s.1 (intsN s.2) (i : Int) t141 (t141.length : Int) 0 (w : Int) (h : Int) L)) (fun k => ?_) (Ev.bind (f := fun k t141 => (spec_tyFar.l2 k s.1 (intsN s.2) (i : Int) t141 (t141.length : Int) 0 (w : Int) (h : Int) L)) (near_ev hs hun L) X)
        rw [spec_tyFar.l1, if_pos iu, if_pos g1, eu]
      · rw [layer_drop (val := fun far u => far.getD u 0 + 1)]
        have g0 : ¬ (((adjOf w h u).length : Nat) : Int) < ((intsN (adjOf w h u)).length : Int) := by rw [intsN_len]; omega
        refine Ev.step (fun k => ?_) hC
        rw [spec_tyFar.l2, if_neg g0, em]
    · intro s hG hK
      have g0 : ¬ ((s.2.length : Nat) : Int) < ((intsN s.2).length : Int) := by rw [intsN_len]; omega
      refine Ev.step (f := fun _ => some res) (fun k => ?_) (Ev.now _)
      rw [spec_tyFar.l1, if_neg g0, hK]
  -- the table is laid
  have lay : ∀ (d i : Nat) (F : List Int), i + d = w * h → F.length = w * h → (∀ j, j < i → F.getD j 0 = -1) → Ev (fun k => spec_tyFar.l0 k (r : Int) F ((w * h : Nat) : Int) (i : Int) (w : Int) (h : Int) L) (farOf (accO L) (adjOf w h) (w * h) r) := by
    intro d
    induction d with
    | zero =>
      intro i F hi hF hv
      have e : i = w * h := by omega
      subst e
      have eF : F = List.replicate (w * h) (-1) := by
        apply List.ext_getElem
        · rw [hF, List.length_replicate]
        · intro j h1 h2
          have := hv j (by omega)
          rw [List.getD_eq_getElem?_getD, List.getElem?_eq_getElem h1] at this
          rw [List.getElem_replicate]
          exact this
      subst eF
      have g0 : ¬ ((w * h : Nat) : Int) < ((w * h : Nat) : Int) := by omega
      have g1 : (0 : Int) ≤ (r : Int) := by omega
      have g2 : (r : Int) < (L.length : Int) := by omega
      by_cases c : L.getD r 0 = 35
      · have ha : ¬ accO L r = true := by unfold accO; rw [c]; decide
        have e : farOf (accO L) (adjOf w h) (w * h) r = List.replicate (w * h) (-1) := by unfold farOf; rw [if_neg ha]
        rw [e]
        refine Ev.step (f := fun _ => some (List.replicate (w * h) (-1))) (fun k => ?_) (Ev.now _)
        rw [spec_tyFar.l0, if_neg g0, if_pos g1, if_pos g2, rd_nat L r, if_pos c]
      · have ha : accO L r = true := by unfold accO; rw [bne_iff_ne]; exact c
        have g3 : (r : Int) < ((List.replicate (w * h) (-1 : Int)).length : Int) := by rw [List.length_replicate]; omega
        refine Ev.step (fun k => ?_) (search ha)
        rw [spec_tyFar.l0, if_neg g0, if_pos g1, if_pos g2, rd_nat L r, if_neg c, if_pos g3, Int.toNat_natCast]
        rfl
    | succ d ih =>
      intro i F hi hF hv
      have g0 : (i : Int) < ((w * h : Nat) : Int) := by omega
      have g1 : (0 : Int) ≤ (i : Int) := by omega
      have g2 : (i : Int) < (F.length : Int) := by omega
      have em : wrap64 ((i : Int) + 1) = ((i + 1 : Nat) : Int) := wrapN (i + 1) (by omega) (by omega)
      refine Ev.step (fun k => ?_) (ih (i + 1) (F.set i (-1)) (by omega) (by rw [List.length_set]; exact hF) (fun j hj => ?_))
      · rw [spec_tyFar.l0, if_pos g0, if_pos g1, if_pos g2, Int.toNat_natCast, em]
      · by_cases e : i = j
        · rw [← e, getD_set_same _ _ _ (by omega)]
        · rw [getD_set_other _ _ _ _ e]
          exact hv j (by omega)
  have h0 := lay (w * h) 0 (List.replicate (w * h) 0) (Nat.zero_add _) List.length_replicate (fun j hj => absurd hj (Nat.not_lt_zero _))
  refine Ev.congr (g := _) (r := _) (fun k => ?_) h0
  have g1 : (0 : Int) ≤ (L.length : Int) := by omega
  have g2 : ((L.length : Int) : Int).toNat ≤ 35184372088832 := by omega
  rw [spec_tyFar.f, if_pos g1, if_pos g2, Option.bind_some, Int.toNat_natCast, List.length_replicate, hL]
  rfl
end Go.Proofs.YtplifefnjeledaaDoorL
