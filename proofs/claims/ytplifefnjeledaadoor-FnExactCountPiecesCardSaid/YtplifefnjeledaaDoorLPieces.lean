/- The reference's skPieces numbers the parts of the balls. -/
import Derived.Test.YtplifefnjeledaaDoorLFarB
import Derived.Test.YtplifefnjeledaaDoorQx11
import Derived.Test.YtplifefnjeledaaDoorQx1
set_option linter.unusedVariables false
set_option linter.unusedSimpArgs false
namespace Go.Proofs.YtplifefnjeledaaDoorL
open Go.RowKit Go.Proofs.YtplifefnjeledaaDoor.Q Go.Proofs.YtplifefnjeledaaDoorW.PrintWords Go.Proofs.YtplifefnjeledaaDoorW.PrintLast Go.Proofs.YtplifefnjeledaaDoorM Go.Proofs.YtplifefnjeledaaDoorV
open BF

theorem tyBall_is (c : Int) : spec_tyBall.f c = some (ballB c) := by
  unfold ballB
  rw [spec_tyBall.f]
  by_cases h : c = 111
  · rw [if_pos h, decide_eq_true h]; rfl
  · rw [if_neg h, decide_eq_false h, Bool.false_or]
    by_cases h2 : c ≥ 97
    · rw [if_pos h2, decide_eq_true h2]; rfl
    · rw [if_neg h2, decide_eq_false h2]; rfl
theorem sk_acc (L : List Int) (b : Nat) : spec_tyBall.f (L.getD b 0) = some (accB L b) := tyBall_is _
theorem sk_l3 {w h : Nat} {L : List Int} (hL : L.length = w * h) (hn36 : w * h ≤ 36) {r0 : Nat} {far0 : List Int} {u i : Nat} {cnt : Nat} (x27 : List Int) (x28 x29 : Int) (res : List Int × Int)
    (s : List Int × List Nat) (t b : Nat) (hlen : s.1.length = w * h) (hle : s.2.length ≤ w * h) (hb : (adjOf w h u)[t]? = some b) (hbn : b < w * h) (ht : t < 100)
    (hC : Ev (fun k => spec_skPieces.l3 k (visit (accB L) (cnt : Int) s b).1 (cnt : Int) (intsN (visit (accB L) (cnt : Int) s b).2) (i : Int) x27 x28 x29 (intsN (adjOf w h u)) ((intsN (adjOf w h u)).length : Int) ((t + 1 : Nat) : Int) (w : Int) (h : Int) L) res) :
    Ev (fun k => spec_skPieces.l3 k s.1 (cnt : Int) (intsN s.2) (i : Int) x27 x28 x29 (intsN (adjOf w h u)) ((intsN (adjOf w h u)).length : Int) (t : Int) (w : Int) (h : Int) L) res := by
  obtain ⟨eb, tb⟩ := at_nat hb
  have g1 : (0 : Int) ≤ (t : Int) := by omega
  have g2 : (0 : Int) ≤ (b : Int) := by omega
  have g3 : (b : Int) < (s.1.length : Int) := by omega
  have g4 : (b : Int) < (L.length : Int) := by omega
  have em : wrap64 ((t : Int) + 1) = ((t + 1 : Nat) : Int) := wrapN (t + 1) (by omega) (by omega)
  have rb := rd_nat s.1 b
  have rL := rd_nat L b
  have ea := sk_acc L b
  cases c2 : accB L b with
  | false =>
    rw [c2] at ea
    have hv : visit (accB L) (cnt : Int) s b = s := by
      unfold visit
      rw [if_neg (fun x => by rw [c2] at x; cases x.1)]
    rw [hv] at hC
    refine Ev.step (fun k => ?_) hC
    rw [spec_skPieces.l3, if_pos tb, if_pos g1, if_pos tb, eb, if_pos g2, if_pos g4, rL, ea, Option.bind_some, if_neg Bool.false_ne_true, em]
  | true =>
    rw [c2] at ea
    by_cases c1 : s.1.getD b 0 < 0
    · have hv : visit (accB L) (cnt : Int) s b = (s.1.set b (cnt : Int), s.2 ++ [b]) := by
        unfold visit
        rw [if_pos ⟨c2, c1⟩]
      rw [hv, ← intsN_snoc] at hC
      have g8 : (intsN s.2).length < 17592186044416 := by rw [intsN_len]; omega
      refine Ev.step (fun k => ?_) hC
      rw [spec_skPieces.l3, if_pos tb, if_pos g1, if_pos tb, eb, if_pos g2, if_pos g4, rL, ea, Option.bind_some, if_pos rfl, if_pos g3, rb, if_pos c1, if_pos g8, em, Int.toNat_natCast]
    · have hv : visit (accB L) (cnt : Int) s b = s := by
        unfold visit
        rw [if_neg (fun x => c1 x.2)]
      rw [hv] at hC
      refine Ev.step (fun k => ?_) hC
      rw [spec_skPieces.l3, if_pos tb, if_pos g1, if_pos tb, eb, if_pos g2, if_pos g4, rL, ea, Option.bind_some, if_pos rfl, if_pos g3, rb, if_neg c1, em]
theorem sk_l1 {w h : Nat} (hs : Size w h) {L : List Int} (hL : L.length = w * h) : ∀ (d i : Nat), i + d = w * h → ∀ (out : List Int) (cnt : Nat), Pieces (accB L) (adjOf w h) (w * h) i out cnt →
    ∃ out' cnt', Pieces (accB L) (adjOf w h) (w * h) (w * h) out' cnt' ∧ Ev (fun k => spec_skPieces.l1 k out (cnt : Int) L (L.length : Int) (i : Int) (w : Int) (h : Int) L) (out', (cnt' : Int)) := by
  have hp := hs.p
  have hn := adj_lt hs
  intro d
  induction d with
  | zero =>
    intro i hi out cnt hP
    have e : i = w * h := by omega
    subst e
    have g0 : ¬ ((w * h : Nat) : Int) < (L.length : Int) := by omega
    exact ⟨out, cnt, hP, Ev.step (f := fun _ => some (out, (cnt : Int))) (fun k => by rw [spec_skPieces.l1, if_neg g0]) (Ev.now _)⟩
  | succ d ih =>
    intro i hi out cnt hP
    have hin : i < w * h := by omega
    have hlen := hP.len
    have hcnt : cnt ≤ i := by rw [hP.cnt]; exact roots_le i
    have g0 : (i : Int) < (L.length : Int) := by omega
    have g1 : (0 : Int) ≤ (i : Int) := by omega
    have g2 : (i : Int) < (out.length : Int) := by omega
    have em : wrap64 ((i : Int) + 1) = ((i + 1 : Nat) : Int) := wrapN (i + 1) (by omega) (by omega)
    have ea := sk_acc L i
    have rL := rd_nat L i
    have rO := rd_nat out i
    cases c : accB L i with
    | false =>
      rw [c] at ea
      obtain ⟨o, cn, hP', hE⟩ := ih (i + 1) (by omega) out cnt (hP.skip hin (.inl c)).1
      refine ⟨o, cn, hP', Ev.step (f := fun k => spec_skPieces.j2 k out (cnt : Int) (i : Int) L (L.length : Int) (i : Int) true (w : Int) (h : Int) L) (fun k => ?_) (Ev.step (fun k => ?_) hE)⟩
      · rw [spec_skPieces.l1, if_pos g0, if_pos g1, if_pos g0, rL, ea, Option.bind_some, if_neg Bool.false_ne_true]
      · rw [spec_skPieces.j2, if_pos rfl, em]
    | true =>
      rw [c] at ea
      by_cases co : 0 ≤ out.getD i 0
      · obtain ⟨o, cn, hP', hE⟩ := ih (i + 1) (by omega) out cnt (hP.skip hin (.inr co)).1
        refine ⟨o, cn, hP', Ev.step (f := fun k => spec_skPieces.j2 k out (cnt : Int) (i : Int) L (L.length : Int) (i : Int) true (w : Int) (h : Int) L) (fun k => ?_) (Ev.step (fun k => ?_) hE)⟩
        · rw [spec_skPieces.l1, if_pos g0, if_pos g1, if_pos g0, rL, ea, Option.bind_some, if_pos rfl, if_pos g2, rO, decide_eq_true (show out.getD i 0 ≥ 0 from co)]
        · rw [spec_skPieces.j2, if_pos rfl, em]
      · obtain ⟨hroot, hno⟩ := hP.root (adj_sym hs) hin c (by omega)
        have hf : ∀ j, BF.Reach (accB L) (adjOf w h) i j → out.getD j 0 < 0 := fun j hj => by rw [hno j (hj.lt hn hin) hj]; decide
        obtain ⟨s1, s2, s3⟩ := search (Q := fun v => v = (cnt : Int)) (fun _ _ => (cnt : Int)) (fun v x => by have : v = (cnt : Int) := x; omega) (fun _ _ _ => rfl) hn hin c hlen hf (v := (cnt : Int)) rfl (w * h) (Nat.le_refl _)
        generalize hlp : loop (accB L) (adjOf w h) (fun _ _ => (cnt : Int)) (w * h) 0 (out.set i (cnt : Int), [i]) = fin at s1 s2 s3
        have hP2 := hP.more hn hin hroot hno s1 s2 s3
        obtain ⟨o, cn, hP', hE⟩ := ih (i + 1) (by omega) fin.1 (cnt + 1) hP2
        have EM := Aside0.mk em
        clear em
        have ec : wrap64 ((cnt : Int) + 1) = ((cnt + 1 : Nat) : Int) := wrapN (cnt + 1) (by omega) (by omega)
        have EC := Aside0.mk ec
        clear ec
        have X := BF.run (acc := accB L) (adj := adjOf w h) (Q := fun v => v = (cnt : Int)) (n := w * h) (r := i) (far0 := out) (c := (cnt : Int)) (fun _ _ => (cnt : Int)) (fun v x => by have : v = (cnt : Int) := x; omega) hn hin hf (fun far u x => ⟨rfl, by have : far.getD u 0 = (cnt : Int) := x; omega⟩)
          (fun s m => Ev (fun k => spec_skPieces.l2 k s.1 (cnt : Int) (intsN s.2) (m : Int) L (L.length : Int) (i : Int) (w : Int) (h : Int) L) (o, (cn : Int))) (fun s => Ev (fun k => spec_skPieces.l1 k s.1 ((cnt + 1 : Nat) : Int) L (L.length : Int) ((i + 1 : Nat) : Int) (w : Int) (h : Int) L) (o, (cn : Int))) ?_ ?_ (w * h) 0 (out.set i (cnt : Int), [i]) (by omega) (Nat.zero_le _) (start_good hin c hlen rfl (by omega)) (by rw [hlp]; exact hE)
        · refine ⟨o, cn, hP', Ev.step (f := fun k => spec_skPieces.j2 k out (cnt : Int) (i : Int) L (L.length : Int) (i : Int) false (w : Int) (h : Int) L) (fun k => ?_) (Ev.step (fun k => ?_) X)⟩
          · rw [spec_skPieces.l1, if_pos g0, if_pos g1, if_pos g0, rL, ea, Option.bind_some, if_pos rfl, if_pos g2, rO, decide_eq_false (show ¬ out.getD i 0 ≥ 0 from co)]
          · rw [spec_skPieces.j2, if_neg Bool.false_ne_true, if_pos g1, if_pos g2, Int.toNat_natCast]
            rfl
        · intro s m u hG hm hmn hun hre hq hC
          obtain ⟨eu, iu⟩ := at_nat hm
          have g1 : (0 : Int) ≤ (m : Int) := by omega
          have em2 : wrap64 ((m : Int) + 1) = ((m + 1 : Nat) : Int) := wrapN (m + 1) (by omega) (by omega)
          have hq' : s.1.getD u 0 = (cnt : Int) := hq
          have Y := BF.inner (acc := accB L) (adj := adjOf w h) (Q := fun v => v = (cnt : Int)) (n := w * h) (r := i) (far0 := out) (c := (cnt : Int)) (fun v x => by have : v = (cnt : Int) := x; omega) hn hf (v := (cnt : Int)) (z := (cnt : Int)) rfl (u := u) (i := m) hre (by omega) (by omega)
            (fun s' t => Ev (fun k => spec_skPieces.l3 k s'.1 (cnt : Int) (intsN s'.2) (m : Int) L (L.length : Int) (i : Int) (intsN (adjOf w h u)) ((intsN (adjOf w h u)).length : Int) (t : Int) (w : Int) (h : Int) L) (o, (cn : Int)))
            (fun s' t b hG' hi' hz' hzb hb hbn hC' => sk_l3 (r0 := i) (far0 := out) hL hp L (L.length : Int) (i : Int) (o, (cn : Int)) s' t b hG'.inv.len (hG'.le hn hin) hb hbn (by have := (List.getElem?_eq_some_iff.1 hb).1; have := adj_small w h u; omega) hC')
            (adjOf w h u).length 0 s (Nat.zero_add _) hG hm hq' ?_
          · refine Ev.step (f := fun k => (spec_tyNear.f k (w : Int) (h : Int) L (u : Int)).bind fun t251 => (spec_skPieces.l3 k s.1 (cnt : Int) (intsN s.2) (m : Int) L (L.length : Int) (i : Int) t251 (t251.length : Int) 0 (w : Int) (h : Int) L)) (fun k => ?_) (Ev.bind (f := fun k t251 => (spec_skPieces.l3 k s.1 (cnt : Int) (intsN s.2) (m : Int) L (L.length : Int) (i : Int) t251 (t251.length : Int) 0 (w : Int) (h : Int) L)) (near_ev hs hun L) Y)
            rw [spec_skPieces.l2, if_pos iu, if_pos g1, eu]
          · rw [layer_drop (val := fun _ _ => (cnt : Int))]
            have g0 : ¬ (((adjOf w h u).length : Nat) : Int) < ((intsN (adjOf w h u)).length : Int) := by rw [intsN_len]; omega
            refine Ev.step (fun k => ?_) hC
            rw [spec_skPieces.l3, if_neg g0, em2]
        · intro s hG hK
          have g0 : ¬ ((s.2.length : Nat) : Int) < ((intsN s.2).length : Int) := by rw [intsN_len]; omega
          refine Ev.step (fun k => ?_) hK
          rw [spec_skPieces.l2, if_neg g0, EC.out, EM.out]
theorem sk_ev {w h : Nat} (hs : Size w h) {L : List Int} (hL : L.length = w * h) : ∃ out cnt, Pieces (accB L) (adjOf w h) (w * h) (w * h) out cnt ∧ Ev (fun k => spec_skPieces.f k (w : Int) (h : Int) L) (out, (cnt : Int)) := by
  have hp := hs.p
  obtain ⟨o, cn, hP, hE⟩ := sk_l1 hs hL (w * h) 0 (Nat.zero_add _) (List.replicate (w * h) (-1)) 0 Pieces.start
  refine ⟨o, cn, hP, ?_⟩
  have lay : ∀ (d i : Nat) (F : List Int), i + d = w * h → F.length = w * h → (∀ j, j < i → F.getD j 0 = -1) → Ev (fun k => spec_skPieces.l0 k F ((w * h : Nat) : Int) (i : Int) (w : Int) (h : Int) L) (o, (cn : Int)) := by
    intro d
    induction d with
    | zero =>
      intro i F hi hF hv
      have e : i = w * h := by omega
      subst e
      have eF : F = List.replicate (w * h) (-1) := by
        apply List.ext_getElem
        · rw [hF, List.length_replicate]
        · intro j h1 h2
          have := hv j (by omega)
          rw [List.getD_eq_getElem?_getD, List.getElem?_eq_getElem h1] at this
          rw [List.getElem_replicate]
          exact this
      subst eF
      have g0 : ¬ ((w * h : Nat) : Int) < ((w * h : Nat) : Int) := by omega
      refine Ev.step (fun k => ?_) hE
      rw [spec_skPieces.l0, if_neg g0]
      rfl
    | succ d ih =>
      intro i F hi hF hv
      have g0 : (i : Int) < ((w * h : Nat) : Int) := by omega
      have g1 : (0 : Int) ≤ (i : Int) := by omega
      have g2 : (i : Int) < (F.length : Int) := by omega
      have em : wrap64 ((i : Int) + 1) = ((i + 1 : Nat) : Int) := wrapN (i + 1) (by omega) (by omega)
      refine Ev.step (fun k => ?_) (ih (i + 1) (F.set i (-1)) (by omega) (by rw [List.length_set]; exact hF) (fun j hj => ?_))
      · rw [spec_skPieces.l0, if_pos g0, if_pos g1, if_pos g2, Int.toNat_natCast, em]
      · by_cases e : i = j
        · rw [← e, getD_set_same _ _ _ (by omega)]
        · rw [getD_set_other _ _ _ _ e]
          exact hv j (by omega)
  have h0 := lay (w * h) 0 (List.replicate (w * h) 0) (Nat.zero_add _) List.length_replicate (fun j hj => absurd hj (Nat.not_lt_zero _))
  refine Ev.congr (g := _) (r := _) (fun k => ?_) h0
  have g1 : (0 : Int) ≤ (L.length : Int) := by omega
  have g2 : ((L.length : Int) : Int).toNat ≤ 35184372088832 := by omega
  rw [spec_skPieces.f, if_pos g1, if_pos g2, Option.bind_some, Int.toNat_natCast, List.length_replicate, hL]
  rfl
end Go.Proofs.YtplifefnjeledaaDoorL
