/- The program's parts over isBall: one for each first cell. -/
import Derived.Test.YtplifefnjeledaaDoorLFarB
import Derived.Test.YtplifefnjeledaaDoorQx14
set_option linter.unusedVariables false
set_option linter.unusedSimpArgs false
namespace Go.Proofs.YtplifefnjeledaaDoorL
open Go.RowKit Go.Proofs.YtplifefnjeledaaDoor.Q Go.Proofs.YtplifefnjeledaaDoorW.PrintWords Go.Proofs.YtplifefnjeledaaDoorW.PrintLast Go.Proofs.YtplifefnjeledaaDoorM Go.Proofs.YtplifefnjeledaaDoorV
open BF

/-- The parts whose first cells lie before i. -/
noncomputable def partsTo (acc : Nat → Bool) (adj : Nat → List Nat) (n i : Nat) : List (List Int) := (roots acc adj i).map fun t => intsN (comp acc adj n t)
theorem parts_isBall_l1 {w h : Nat} (hs : Size w h) {L : List Int} (hL : L.length = w * h) {i : Nat} (hin : i < w * h) (x5 : List (List Int)) (n13 i14 : Int) (far : List Int) (hfl : far.length = w * h) (hfr : ∀ j, BF.Reach (accB L) (adjOf w h) i j → 0 ≤ far.getD j 0) (hfn : ∀ j, j < w * h → ¬ BF.Reach (accB L) (adjOf w h) i j → far.getD j 0 = -1) (res : List (List Int))
    (hC : Ev (fun k => impl_tray_parts_at_impl_isBall.l1 k x5 (i : Int) (intsN (comp (accB L) (adjOf w h) (w * h) i)) n13 i14 far (far.length : Int) ((w * h : Nat) : Int) (w : Int) (h : Int) L) res) :
    ∀ (d t : Nat), t + d = w * h → Ev (fun k => impl_tray_parts_at_impl_isBall.l1 k x5 (i : Int) (intsN (comp (accB L) (adjOf w h) t i)) n13 i14 far (far.length : Int) (t : Int) (w : Int) (h : Int) L) res := by
  have hp := hs.p
  intro d
  induction d with
  | zero =>
    intro t ht
    have e : t = w * h := by omega
    subst e
    exact hC
  | succ d ih =>
    intro t ht
    have hI := ih (t + 1) (by omega)
    have g0 : (t : Int) < (far.length : Int) := by omega
    have g1 : (0 : Int) ≤ (t : Int) := by omega
    have em : wrap64 ((t : Int) + 1) = ((t + 1 : Nat) : Int) := wrapN (t + 1) (by omega) (by omega)
    have rb := rd_nat far t
    have hle : (comp (accB L) (adjOf w h) t i).length ≤ t := comp_le t i
    rcases Classical.em (BF.Reach (accB L) (adjOf w h) i t) with x | x
    · have c : far.getD t 0 ≥ 0 := hfr t x
      have e : comp (accB L) (adjOf w h) (t + 1) i = comp (accB L) (adjOf w h) t i ++ [t] := comp_pos x
      rw [e, ← intsN_snoc] at hI
      have g8 : (intsN (comp (accB L) (adjOf w h) t i)).length < 17592186044416 := by rw [intsN_len]; omega
      refine Ev.step (fun k => ?_) hI
      rw [impl_tray_parts_at_impl_isBall.l1, if_pos g0, if_pos g1, if_pos g0, rb, if_pos c, if_pos g8, em]
    · have c : ¬ far.getD t 0 ≥ 0 := by rw [hfn t (by omega) x]; decide
      have e : comp (accB L) (adjOf w h) (t + 1) i = comp (accB L) (adjOf w h) t i := comp_neg x
      rw [e] at hI
      refine Ev.step (fun k => ?_) hI
      rw [impl_tray_parts_at_impl_isBall.l1, if_pos g0, if_pos g1, if_pos g0, rb, if_neg c, em]
theorem parts_isBall_l0 {w h : Nat} (hs : Size w h) {L : List Int} (hL : L.length = w * h) : ∀ (d i : Nat), i + d = w * h →
    Ev (fun k => impl_tray_parts_at_impl_isBall.l0 k (partsTo (accB L) (adjOf w h) (w * h) i) (L.length : Int) (i : Int) (w : Int) (h : Int) L) (partsTo (accB L) (adjOf w h) (w * h) (w * h)) := by
  have hp := hs.p
  have hn := adj_lt hs
  intro d
  induction d with
  | zero =>
    intro i hi
    have e : i = w * h := by omega
    subst e
    have g0 : ¬ ((w * h : Nat) : Int) < (L.length : Int) := by omega
    exact Ev.step (f := fun _ => some (partsTo (accB L) (adjOf w h) (w * h) (w * h))) (fun k => by rw [impl_tray_parts_at_impl_isBall.l0, if_neg g0]) (Ev.now _)
  | succ d ih =>
    intro i hi
    have hin : i < w * h := by omega
    have hI := ih (i + 1) (by omega)
    have g0 : (i : Int) < (L.length : Int) := by omega
    have em : wrap64 ((i : Int) + 1) = ((i + 1 : Nat) : Int) := wrapN (i + 1) (by omega) (by omega)
    have DF := dist_isBall_ev hs hL hin
    obtain ⟨f1, f2, f3⟩ := BF.farOf_spec (acc := accB L) hn hin
    generalize BF.farOf (accB L) (adjOf w h) (w * h) i = far at DF f1 f2 f3
    have X := parts_isBall_l1 hs hL hin (partsTo (accB L) (adjOf w h) (w * h) i) (L.length : Int) (i : Int) far f1 f2 f3 (partsTo (accB L) (adjOf w h) (w * h) (w * h)) ?_ (w * h) 0 (Nat.zero_add _)
    · refine Ev.step (f := fun k => (impl_tray_distances_at_impl_isBall.f k (w : Int) (h : Int) L (i : Int)).bind fun t308 => (impl_tray_parts_at_impl_isBall.l1 k (partsTo (accB L) (adjOf w h) (w * h) i) (i : Int) (([] : List Int)) (L.length : Int) (i : Int) t308 (t308.length : Int) 0 (w : Int) (h : Int) L)) (fun k => ?_) (Ev.bind (f := fun k t308 => (impl_tray_parts_at_impl_isBall.l1 k (partsTo (accB L) (adjOf w h) (w * h) i) (i : Int) (([] : List Int)) (L.length : Int) (i : Int) t308 (t308.length : Int) 0 (w : Int) (h : Int) L)) DF X)
      rw [impl_tray_parts_at_impl_isBall.l0, if_pos g0]
    · have g1 : ¬ ((w * h : Nat) : Int) < (far.length : Int) := by omega
      by_cases hr : Root (accB L) (adjOf w h) i
      · obtain ⟨l, hl⟩ := (root_iff (n := w * h) (adj_sym hs) hin).1 hr
        have e1 : partsTo (accB L) (adjOf w h) (w * h) (i + 1) = partsTo (accB L) (adjOf w h) (w * h) i ++ [intsN (comp (accB L) (adjOf w h) (w * h) i)] := by
          unfold partsTo
          rw [roots_pos hr, List.map_append]
          rfl
        rw [e1] at hI
        have hpl : (partsTo (accB L) (adjOf w h) (w * h) i).length ≤ i := by
          unfold partsTo
          rw [List.length_map]
          exact roots_le i
        have g2 : ((intsN (comp (accB L) (adjOf w h) (w * h) i)).length : Int) > 0 := by rw [intsN_len, hl, List.length_cons]; omega
        have g3 : (0 : Int) < ((intsN (comp (accB L) (adjOf w h) (w * h) i)).length : Int) := g2
        have g4 : rd (intsN (comp (accB L) (adjOf w h) (w * h) i)) 0 = (i : Int) := by rw [hl]; rfl
        have g5 : (partsTo (accB L) (adjOf w h) (w * h) i).length < 5864062014805 := by omega
        refine Ev.step (fun k => ?_) hI
        rw [impl_tray_parts_at_impl_isBall.l1, if_neg g1, if_pos g2, if_pos g3, if_pos g4, if_pos g5, em]
      · have e1 : partsTo (accB L) (adjOf w h) (w * h) (i + 1) = partsTo (accB L) (adjOf w h) (w * h) i := by
          unfold partsTo
          rw [roots_neg hr]
        rw [e1] at hI
        rcases hc : comp (accB L) (adjOf w h) (w * h) i with _ | ⟨j, l⟩
        · have g2 : ¬ ((intsN ([] : List Nat)).length : Int) > 0 := by decide
          refine Ev.step (fun k => ?_) hI
          rw [impl_tray_parts_at_impl_isBall.l1, if_neg g1, if_neg g2, em]
        · have hji : ¬ j = i := fun e => hr ((root_iff (n := w * h) (adj_sym hs) hin).2 ⟨l, by rw [hc, e]⟩)
          have g2 : ((intsN (j :: l)).length : Int) > 0 := by rw [intsN_len, List.length_cons]; omega
          have g3 : (0 : Int) < ((intsN (j :: l)).length : Int) := g2
          have g4 : ¬ rd (intsN (j :: l)) 0 = (i : Int) := by
            have : rd (intsN (j :: l)) 0 = (j : Int) := rfl
            rw [this]
            omega
          refine Ev.step (fun k => ?_) hI
          rw [impl_tray_parts_at_impl_isBall.l1, if_neg g1, if_pos g2, if_pos g3, if_neg g4, em]
theorem parts_isBall_ev {w h : Nat} (hs : Size w h) {L : List Int} (hL : L.length = w * h) : Ev (fun k => impl_tray_parts_at_impl_isBall.f k (w : Int) (h : Int) L) (partsTo (accB L) (adjOf w h) (w * h) (w * h)) := by
  have h0 := parts_isBall_l0 hs hL (w * h) 0 (Nat.zero_add _)
  refine Ev.congr (g := _) (r := _) (fun k => ?_) h0
  rw [impl_tray_parts_at_impl_isBall.f]
  rfl
end Go.Proofs.YtplifefnjeledaaDoorL
