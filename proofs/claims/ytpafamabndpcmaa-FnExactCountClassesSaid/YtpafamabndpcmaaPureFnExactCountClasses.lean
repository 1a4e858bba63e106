/- The program's CountClasses returns what the reference's returns: for all arguments the law FnExactCountClasses returns true. -/
import Derived.Test.YtpafamabndpcmaaQx12
import Derived.Test.YtpafamabndpcmaaLAsk
set_option linter.unusedVariables false
set_option linter.unusedSimpArgs false
namespace Go.Proofs.Ytpafamabndpcmaa.Pure
open Go.RowKit Go.Proofs.Ytpafamabndpcmaa.Q Go.Proofs.YtpafamabndpcmaaW.PrintWords Go.Proofs.YtpafamabndpcmaaW.PrintLast
open Go.Proofs.YtpafamabndpcmaaL
def sumK (kp : Nat → Int) (l : List Nat) (a : Int) : Int := l.foldl (fun a m => wrap64 (a + kp m)) a
theorem spec_sum (W H C D : Nat) (kp : Nat → Int) (hk : ∀ m, m < 8 → fitsN W H m = true → Ev (fun k => spec_cnKept.f k (W : Int) (H : Int) (C : Int) (D : Int) (m : Int)) (kp m)) (v : Int) :
    ∀ (d m : Nat), m + d = 8 → ∀ (a : Int) (n : Nat), n ≤ m → n + ((List.range' m d).filter (fitsN W H)).length ≠ 0 →
      v = wrap64 (Int.tdiv (sumK kp ((List.range' m d).filter (fitsN W H)) a) ((n + ((List.range' m d).filter (fitsN W H)).length : Nat) : Int)) →
      Ev (fun k => spec_cnClasses.l0 k (W : Int) (H : Int) (C : Int) (D : Int) a (n : Int) (m : Int)) v := by
  intro d
  induction d with
  | zero =>
    intro m hm a n hn h0 hv
    have e : m = 8 := by omega
    subst e
    have g0 : ¬ ((8 : Nat) : Int) < 8 := by omega
    simp only [List.range'_zero, List.filter_nil, List.length_nil, Nat.add_zero] at h0 hv
    have g1 : ¬ ((n : Nat) : Int) = 0 := by omega
    rw [hv]
    refine Ev.step (f := fun _ => some _) (fun k => ?_) (Ev.now _)
    rw [spec_cnClasses.l0, if_neg g0, if_neg g1]
    rfl
  | succ d ih =>
    intro m hm a n hn h0 hv
    have g0 : (m : Int) < 8 := by omega
    have em : wrap64 ((m : Int) + 1) = ((m + 1 : Nat) : Int) := wn (n := m + 1) (by omega) (by omega)
    have en : wrap64 ((n : Int) + 1) = ((n + 1 : Nat) : Int) := wn (n := n + 1) (by omega) (by omega)
    have hf := fits_eq W H m (by omega)
    rw [List.range'_succ, List.filter_cons] at h0 hv
    cases c : fitsN W H m with
    | false =>
      rw [c] at hf h0 hv
      rw [if_neg Bool.false_ne_true] at h0 hv
      have hI := ih (m + 1) (by omega) a n (by omega) h0 hv
      refine Ev.step (fun k => ?_) hI
      rw [spec_cnClasses.l0, if_pos g0, hf, Option.bind_some, if_neg Bool.false_ne_true, em]
    | true =>
      rw [c] at hf h0 hv
      rw [if_pos rfl] at h0 hv
      rw [List.length_cons] at h0 hv
      have e1 : n + (((List.range' (m + 1) d).filter (fitsN W H)).length + 1) = (n + 1) + ((List.range' (m + 1) d).filter (fitsN W H)).length := by omega
      rw [e1] at h0 hv
      have hI := ih (m + 1) (by omega) (wrap64 (a + kp m)) (n + 1) (by omega) h0 hv
      refine Ev.step (f := fun k => (spec_cnKept.f k (W : Int) (H : Int) (C : Int) (D : Int) (m : Int)).bind fun t254 => (spec_cnClasses.l0 k (W : Int) (H : Int) (C : Int) (D : Int) (wrap64 (a + t254)) ((n + 1 : Nat) : Int) ((m + 1 : Nat) : Int))) (fun k => ?_) ?_
      · rw [spec_cnClasses.l0, if_pos g0, hf, Option.bind_some, if_pos rfl, em, en]
      · exact Ev.bind (f := fun k t254 => (spec_cnClasses.l0 k (W : Int) (H : Int) (C : Int) (D : Int) (wrap64 (a + t254)) ((n + 1 : Nat) : Int) ((m + 1 : Nat) : Int))) (hk m (by omega) c) hI
theorem impl_sum (W H C D : Nat) (kp : Nat → Int) (hk : ∀ m, m < 8 → fitsN W H m = true → Ev (fun k => impl_kept.f k (W : Int) (H : Int) (C : Int) (D : Int) (m : Int)) (kp m))
    (l : List Nat) (hl : ∀ m ∈ l, m < 8 ∧ fitsN W H m = true) (hlen : l.length ≤ 8) (hne : l.length ≠ 0) (L : List Int) (hL : L = l.map (fun m : Nat => (m : Int))) (v : Int) :
    ∀ (d i : Nat), i + d = l.length → ∀ (a : Int),
      v = wrap64 (Int.tdiv (sumK kp (l.drop i) a) ((l.length : Nat) : Int)) →
      Ev (fun k => impl_CountClasses.l0 k (W : Int) (H : Int) (C : Int) (D : Int) a L L (L.length : Int) (i : Int)) (v, true) := by
  have hLl : L.length = l.length := by rw [hL, List.length_map]
  intro d
  induction d with
  | zero =>
    intro i hi a hv
    have e : i = l.length := by omega
    subst e
    rw [List.drop_length] at hv
    have g0 : ¬ ((l.length : Nat) : Int) < (L.length : Int) := by omega
    have g1 : ¬ (L.length : Int) = 0 := by omega
    refine Ev.step (f := fun _ => some (v, true)) (fun k => ?_) (Ev.now _)
    rw [impl_CountClasses.l0, if_neg g0, if_neg g1, hv, hLl]
    rfl
  | succ d ih =>
    intro i hi a hv
    have hlt : i < l.length := by omega
    have hlt2 : i < L.length := by omega
    rw [List.drop_eq_getElem_cons hlt] at hv
    have g0 : (i : Int) < (L.length : Int) := by omega
    have g1 : (0 : Int) ≤ (i : Int) := by omega
    have em : wrap64 ((i : Int) + 1) = ((i + 1 : Nat) : Int) := wn (n := i + 1) (by omega) (by omega)
    obtain ⟨m8, mf⟩ := hl _ (List.getElem_mem hlt)
    have er : L[i] = ((l[i] : Nat) : Int) := by subst hL; rw [List.getElem_map]
    have hI := ih (i + 1) (by omega) (wrap64 (a + kp l[i])) hv
    refine Ev.step (f := fun k => (impl_kept.f k (W : Int) (H : Int) (C : Int) (D : Int) ((l[i] : Nat) : Int)).bind fun t265 => (impl_CountClasses.l0 k (W : Int) (H : Int) (C : Int) (D : Int) (wrap64 (a + t265)) L L (L.length : Int) ((i + 1 : Nat) : Int))) (fun k => ?_) ?_
    · rw [impl_CountClasses.l0, if_pos g0, if_pos g1, if_pos g0, rd_in hlt2, er, em]
    · exact Ev.bind (f := fun k t265 => (impl_CountClasses.l0 k (W : Int) (H : Int) (C : Int) (D : Int) (wrap64 (a + t265)) L L (L.length : Int) ((i + 1 : Nat) : Int))) (hk _ m8 mf) hI
theorem FnExactCountClasses : laws_FnExactCountClasses.Pure := by
  intro w h c d hw hh hc hd
  suffices H : Ev (fun k => laws_FnExactCountClasses.f k w h c d) true from H.rounds
  have law : ∀ v : Int × Bool, Ev (fun k => spec_CountClasses.f k w h c d) v → Ev (fun k => impl_CountClasses.f k w h c d) v → Ev (fun k => laws_FnExactCountClasses.f k w h c d) true := by
    intro v e1 e2
    refine Ev.congr (f := fun k => (spec_CountClasses.f k w h c d).bind fun b1 => (impl_CountClasses.f k w h c d).bind fun b2 => if b2.1 = b1.1 then (if (b2.2 != b1.2) = true then some false else some true) else some false) (g := _) (r := _) (fun k => by rw [laws_FnExactCountClasses.f]) ?_
    refine Ev.bind (f := fun k b1 => (impl_CountClasses.f k w h c d).bind fun b2 => if b2.1 = b1.1 then (if (b2.2 != b1.2) = true then some false else some true) else some false) e1 ?_
    refine Ev.bind (f := fun k b2 => if b2.1 = v.1 then (if (b2.2 != v.2) = true then some false else some true) else some false) e2 ?_
    rw [if_pos rfl, if_neg (by simp)]
    exact Ev.now _
  have I0 : ∀ b : Int × Bool, b.2 = false → Ev (fun k => impl_countTrays.f k w h c d) b → Ev (fun k => impl_CountClasses.f k w h c d) (0, false) := by
    intro b hb hE
    refine Ev.congr (f := fun k => (impl_countTrays.f k w h c d).bind fun bt259 => (if bt259.2 = true then ((impl_fitting.f k w h).bind fun t261 => (impl_CountClasses.l0 k w h c d 0 t261 t261 (t261.length : Int) 0)) else (some (0, false)))) (g := _) (r := _) (fun k => by rw [impl_CountClasses.f]) ?_
    refine Ev.bind (f := fun k bt259 => (if bt259.2 = true then ((impl_fitting.f k w h).bind fun t261 => (impl_CountClasses.l0 k w h c d 0 t261 t261 (t261.length : Int) 0)) else (some (0, false)))) hE ?_
    rw [hb]
    exact Ev.now _
  rcases asked w h c d hc hd with ⟨a1, a2⟩ | ⟨W, H, C, D, ⟨rfl, rfl⟩, ⟨rfl, rfl⟩, ha, a1, a2⟩
  · refine law (0, false) ?_ (I0 _ rfl (trays_none w h c d a2))
    refine Ev.congr (f := fun _ => some (0, false)) (g := _) (r := _) (fun k => ?_) (Ev.now _)
    rw [spec_CountClasses.f, a1, Option.bind_some, if_neg Bool.false_ne_true]
  · obtain ⟨⟨n, g⟩, t1, t2⟩ := trays_same W H C D ha a2
    have S1 : ∀ v, Ev (fun k => if g = true then ((spec_cnClasses.f k (W : Int) (H : Int) (C : Int) (D : Int)).bind fun t258 => (some (t258, true))) else (some (0, false))) v → Ev (fun k => spec_CountClasses.f k (W : Int) (H : Int) (C : Int) (D : Int)) v := by
      intro v hv
      refine Ev.congr (f := fun k => (spec_cnTrays.f k (W : Int) (H : Int) (C : Int) (D : Int)).bind fun bt256 => (if bt256.2 = true then ((spec_cnClasses.f k (W : Int) (H : Int) (C : Int) (D : Int)).bind fun t258 => (some (t258, true))) else (some (0, false)))) (g := _) (r := _) (fun k => by rw [spec_CountClasses.f, a1, Option.bind_some, if_pos rfl]) ?_
      exact Ev.bind (f := fun k bt256 => (if bt256.2 = true then ((spec_cnClasses.f k (W : Int) (H : Int) (C : Int) (D : Int)).bind fun t258 => (some (t258, true))) else (some (0, false)))) t1 hv
    cases g with
    | false => exact law (0, false) (S1 _ (Ev.now _)) (I0 _ rfl t2)
    | true =>
      have hcd := ha.cd
      have hp := ha.p
      have hK : ∀ m, ∃ r : Int, m < 8 → fitsN W H m = true → Ev (fun k => spec_cnKept.f k (W : Int) (H : Int) (C : Int) (D : Int) (m : Int)) r ∧ Ev (fun k => impl_kept.f k (W : Int) (H : Int) (C : Int) (D : Int) (m : Int)) r := by
        intro m
        by_cases hm : m < 8 ∧ fitsN W H m = true
        · obtain ⟨r, k1, k2⟩ := kept_same W H m C D ha.w0 ha.w1 ha.h0 ha.h1 ha.p hm.1 hm.2 (by omega) (by omega)
          exact ⟨r, fun _ _ => ⟨k1, k2⟩⟩
        · exact ⟨0, fun h1 h2 => absurd ⟨h1, h2⟩ hm⟩
      obtain ⟨kp, hkp⟩ := Classical.axiomOfChoice hK
      have hL := fitting_ev W H ha.w0 ha.w1 ha.h0 ha.h1
      have er : List.range' 0 8 = List.range 8 := rfl
      have hne : ((List.range 8).filter (fitsN W H)).length ≠ 0 := by
        have h0 : (0 : Nat) ∈ (List.range 8).filter (fitsN W H) := List.mem_filter.2 ⟨List.mem_range.2 (by omega), by unfold fitsN; simp⟩
        intro hz
        rw [List.length_eq_zero_iff.1 hz] at h0
        cases h0
      have s := spec_sum W H C D kp (fun m h1 h2 => (hkp m h1 h2).1) _ 8 0 rfl 0 0 (Nat.le_refl _) (by rw [er, Nat.zero_add]; exact hne) rfl
      rw [er, Nat.zero_add] at s
      have i := impl_sum W H C D kp (fun m h1 h2 => (hkp m h1 h2).2) ((List.range 8).filter (fitsN W H)) (fun m hm => ⟨List.mem_range.1 (List.mem_filter.1 hm).1, (List.mem_filter.1 hm).2⟩) (List.length_filter_le ..) hne (fitL W H) rfl _ _ 0 (Nat.zero_add _) 0 rfl
      rw [List.drop_zero] at i
      refine law (_, true) (S1 _ (Ev.bind (f := fun k t258 => some (t258, true)) (Ev.congr (g := _) (r := _) (fun k => by rw [spec_cnClasses.f]; rfl) s) (Ev.now _))) ?_
      refine Ev.congr (f := fun k => (impl_countTrays.f k (W : Int) (H : Int) (C : Int) (D : Int)).bind fun bt259 => (if bt259.2 = true then ((impl_fitting.f k (W : Int) (H : Int)).bind fun t261 => (impl_CountClasses.l0 k (W : Int) (H : Int) (C : Int) (D : Int) 0 t261 t261 (t261.length : Int) 0)) else (some (0, false)))) (g := _) (r := _) (fun k => by rw [impl_CountClasses.f]) ?_
      refine Ev.bind (f := fun k bt259 => (if bt259.2 = true then ((impl_fitting.f k (W : Int) (H : Int)).bind fun t261 => (impl_CountClasses.l0 k (W : Int) (H : Int) (C : Int) (D : Int) 0 t261 t261 (t261.length : Int) 0)) else (some (0, false)))) t2 ?_
      show Ev (fun k => ((impl_fitting.f k (W : Int) (H : Int)).bind fun t261 => (impl_CountClasses.l0 k (W : Int) (H : Int) (C : Int) (D : Int) 0 t261 t261 (t261.length : Int) 0))) _
      exact Ev.bind (f := fun k t261 => (impl_CountClasses.l0 k (W : Int) (H : Int) (C : Int) (D : Int) 0 t261 t261 (t261.length : Int) 0)) hL i
end Go.Proofs.Ytpafamabndpcmaa.Pure
