/- The program's CountKept returns what the reference's returns: for all arguments the law FnExactCountKept returns true. -/
import Derived.Test.YtpafamabndpcmaaQx11
import Derived.Test.YtpafamabndpcmaaLAsk
set_option linter.unusedVariables false
set_option linter.unusedSimpArgs false
namespace Go.Proofs.Ytpafamabndpcmaa.Pure
open Go.RowKit Go.Proofs.Ytpafamabndpcmaa.Q Go.Proofs.YtpafamabndpcmaaW.PrintWords Go.Proofs.YtpafamabndpcmaaW.PrintLast
open Go.Proofs.YtpafamabndpcmaaL
theorem index_ev (l : List Int) (a : Int) (hl : l.length ≤ 8) : ∀ (d i : Nat), l.length - i = d → i ≤ l.length →
    ∃ r : Int, Ev (fun k => slices_Index_int_int.l0 k l a (l.length : Int) (i : Int)) r ∧ (0 ≤ r ↔ a ∈ l.drop i) := by
  intro d
  induction d with
  | zero =>
    intro i hd hi
    have e : i = l.length := by omega
    subst e
    have g0 : ¬ ((l.length : Int) < (l.length : Int)) := by omega
    refine ⟨-1, Ev.step (f := fun _ => some (-1)) (fun k => by rw [slices_Index_int_int.l0, if_neg g0]) (Ev.now _), ?_⟩
    rw [List.drop_length]
    simp
  | succ d ih =>
    intro i hd hi
    have hlt : i < l.length := by omega
    have g0 : (i : Int) < (l.length : Int) := by omega
    have g1 : (0 : Int) ≤ (i : Int) := by omega
    have e : wrap64 ((i : Int) + 1) = ((i + 1 : Nat) : Int) := wn (n := i + 1) (by omega) (by omega)
    rw [List.drop_eq_getElem_cons hlt]
    by_cases c : a = l[i]
    · refine ⟨(i : Int), Ev.step (f := fun _ => some (i : Int)) (fun k => by rw [slices_Index_int_int.l0, if_pos g0, if_pos g1, if_pos g0, rd_in hlt, if_pos c]) (Ev.now _), ?_⟩
      exact ⟨fun _ => by rw [c]; exact List.mem_cons_self .., fun _ => g1⟩
    · obtain ⟨r, hr, hm⟩ := ih (i + 1) (by omega) (by omega)
      refine ⟨r, Ev.step (fun k => by rw [slices_Index_int_int.l0, if_pos g0, if_pos g1, if_pos g0, rd_in hlt, if_neg c, e]) hr, hm.trans ?_⟩
      exact ⟨fun h => List.mem_cons_of_mem _ h, fun h => (List.mem_cons.1 h).resolve_left c⟩
theorem contains_ev (l : List Int) (a : Int) (hl : l.length ≤ 8) : Ev (fun k => slices_Contains_int_int.f k l a) (decide (a ∈ l)) := by
  obtain ⟨r, hr, hm⟩ := index_ev l a hl l.length 0 rfl (Nat.zero_le _)
  rw [List.drop_zero] at hm
  refine Ev.congr (f := fun k => (slices_Index_int_int.f k l a).bind fun t => some (decide (t ≥ 0))) (g := _) (r := _) (fun k => ?_) (Ev.bind (g := fun k => slices_Index_int_int.f k l a) (f := fun k t => some (decide (t ≥ 0))) (a := r) hr ?_)
  · rw [slices_Contains_int_int.f]
  · have e : decide (r ≥ 0) = decide (a ∈ l) := decide_eq_decide.2 hm
    show Ev (fun _ => some (decide (r ≥ 0))) _
    rw [e]
    exact Ev.now _
theorem FnExactCountKept : laws_FnExactCountKept.Pure := by
  intro w h c d m hw hh hc hd hm
  suffices H : Ev (fun k => laws_FnExactCountKept.f k w h c d m) true from H.rounds
  have law : ∀ v : Int × Bool, Ev (fun k => spec_CountKept.f k w h c d m) v → Ev (fun k => impl_CountKept.f k w h c d m) v → Ev (fun k => laws_FnExactCountKept.f k w h c d m) true := by
    intro v e1 e2
    refine Ev.congr (f := fun k => (spec_CountKept.f k w h c d m).bind fun b1 => (impl_CountKept.f k w h c d m).bind fun b2 => if b2.1 = b1.1 then (if (b2.2 != b1.2) = true then some false else some true) else some false) (g := _) (r := _) (fun k => by rw [laws_FnExactCountKept.f]) ?_
    refine Ev.bind (f := fun k b1 => (impl_CountKept.f k w h c d m).bind fun b2 => if b2.1 = b1.1 then (if (b2.2 != b1.2) = true then some false else some true) else some false) e1 ?_
    refine Ev.bind (f := fun k b2 => if b2.1 = v.1 then (if (b2.2 != v.2) = true then some false else some true) else some false) e2 ?_
    rw [if_pos rfl, if_neg (by simp)]
    exact Ev.now _
  rcases asked w h c d hc hd with ⟨a1, a2⟩ | ⟨W, H, C, D, ⟨rfl, rfl⟩, ⟨rfl, rfl⟩, ha, a1, a2⟩
  · refine law (0, false) ?_ ?_
    · refine Ev.step (f := fun _ => some (0, false)) (fun k => ?_) (Ev.now _)
      rw [spec_CountKept.f, a1, Option.bind_some, if_neg Bool.false_ne_true, spec_CountKept.j0, if_pos rfl]
    · refine Ev.congr (f := fun k => (impl_countTrays.f k w h c d).bind fun b => if b.2 = true then ((impl_fitting.f k w h).bind fun t244 => ((slices_Contains_int_int.f k t244 m).bind fun t247 => (if t247 = true then ((impl_kept.f k w h c d m).bind fun t248 => (some (t248, true))) else (some (0, false))))) else (some (0, false))) (g := _) (r := _) (fun k => by rw [impl_CountKept.f]) ?_
      refine Ev.bind (f := fun k b => if b.2 = true then ((impl_fitting.f k w h).bind fun t244 => ((slices_Contains_int_int.f k t244 m).bind fun t247 => (if t247 = true then ((impl_kept.f k w h c d m).bind fun t248 => (some (t248, true))) else (some (0, false))))) else (some (0, false))) (trays_none w h c d a2) ?_
      exact Ev.now _
  · obtain ⟨⟨n, g⟩, t1, t2⟩ := trays_same W H C D ha a2
    have hL := fitting_ev W H ha.w0 ha.w1 ha.h0 ha.h1
    have hC := contains_ev (fitL W H) m (fitL_len W H)
    -- the program's
    have I : ∀ v, (g = true → decide (m ∈ fitL W H) = true → Ev (fun k => (impl_kept.f k (W : Int) (H : Int) (C : Int) (D : Int) m).bind fun t => some (t, true)) v) → (g = true → decide (m ∈ fitL W H) = false → v = (0, false)) → (g = false → v = (0, false)) → Ev (fun k => impl_CountKept.f k (W : Int) (H : Int) (C : Int) (D : Int) m) v := by
      intro v v1 v2 v3
      refine Ev.congr (f := fun k => (impl_countTrays.f k (W : Int) (H : Int) (C : Int) (D : Int)).bind fun b => if b.2 = true then ((impl_fitting.f k (W : Int) (H : Int)).bind fun t244 => ((slices_Contains_int_int.f k t244 m).bind fun t247 => (if t247 = true then ((impl_kept.f k (W : Int) (H : Int) (C : Int) (D : Int) m).bind fun t248 => (some (t248, true))) else (some (0, false))))) else (some (0, false))) (g := _) (r := _) (fun k => by rw [impl_CountKept.f]) ?_
      refine Ev.bind (f := fun k b => if b.2 = true then ((impl_fitting.f k (W : Int) (H : Int)).bind fun t244 => ((slices_Contains_int_int.f k t244 m).bind fun t247 => (if t247 = true then ((impl_kept.f k (W : Int) (H : Int) (C : Int) (D : Int) m).bind fun t248 => (some (t248, true))) else (some (0, false))))) else (some (0, false))) t2 ?_
      cases g with
      | false => rw [v3 rfl]; exact Ev.now _
      | true =>
        show Ev (fun k => (impl_fitting.f k (W : Int) (H : Int)).bind fun t244 => ((slices_Contains_int_int.f k t244 m).bind fun t247 => (if t247 = true then ((impl_kept.f k (W : Int) (H : Int) (C : Int) (D : Int) m).bind fun t248 => (some (t248, true))) else (some (0, false))))) v
        refine Ev.bind (f := fun k t244 => ((slices_Contains_int_int.f k t244 m).bind fun t247 => (if t247 = true then ((impl_kept.f k (W : Int) (H : Int) (C : Int) (D : Int) m).bind fun t248 => (some (t248, true))) else (some (0, false))))) hL ?_
        refine Ev.bind (f := fun k t247 => (if t247 = true then ((impl_kept.f k (W : Int) (H : Int) (C : Int) (D : Int) m).bind fun t248 => (some (t248, true))) else (some (0, false)))) hC ?_
        cases hb : decide (m ∈ fitL W H) with
        | false => rw [v2 rfl hb]; exact Ev.now _
        | true => exact v1 rfl hb
    -- the reference's: what is left when the question's move is known to fit or not
    have Sj : ∀ (x : Bool) v, (x = true → v = (0, false)) → (x = false → g = false → v = (0, false)) → (x = false → g = true → Ev (fun k => (spec_cnKept.f k (W : Int) (H : Int) (C : Int) (D : Int) m).bind fun t => some (t, true)) v) → Ev (fun k => spec_CountKept.j0 k (W : Int) (H : Int) (C : Int) (D : Int) m x) v := by
      intro x v v1 v2 v3
      cases x with
      | true => rw [v1 rfl]; exact Ev.step (f := fun _ => some (0, false)) (fun k => by rw [spec_CountKept.j0, if_pos rfl]) (Ev.now _)
      | false =>
        refine Ev.step (f := fun k => (spec_cnTrays.f k (W : Int) (H : Int) (C : Int) (D : Int)).bind fun b => (if b.2 = true then ((spec_cnKept.f k (W : Int) (H : Int) (C : Int) (D : Int) m).bind fun t146 => (some (t146, true))) else (some (0, false)))) (fun k => by rw [spec_CountKept.j0, if_neg Bool.false_ne_true]) ?_
        refine Ev.bind (f := fun k b => (if b.2 = true then ((spec_cnKept.f k (W : Int) (H : Int) (C : Int) (D : Int) m).bind fun t146 => (some (t146, true))) else (some (0, false)))) t1 ?_
        cases g with
        | false => rw [v2 rfl rfl]; exact Ev.now _
        | true => exact v3 rfl rfl
    by_cases hin : 0 ≤ m ∧ m ≤ 7
    · obtain ⟨M, rfl⟩ := Int.eq_ofNat_of_zero_le hin.1
      have h8 : M < 8 := by omega
      have hmem : decide ((M : Int) ∈ fitL W H) = fitsN W H M := by
        cases hf : fitsN W H M with
        | true => exact decide_eq_true ((fitL_mem W H _).2 ⟨M, h8, hf, rfl⟩)
        | false =>
          refine decide_eq_false fun x => ?_
          obtain ⟨M', _, h2, h3⟩ := (fitL_mem W H _).1 x
          have : M' = M := by omega
          rw [this, hf] at h2
          cases h2
      have hSf : ∀ k, spec_CountKept.f k (W : Int) (H : Int) (C : Int) (D : Int) (M : Int) = spec_CountKept.j0 k (W : Int) (H : Int) (C : Int) (D : Int) (M : Int) (!fitsN W H M) := by
        intro k
        have hi : spec_l1In.f (M : Int) 0 7 = some true := by
          unfold spec_l1In.f
          rw [if_pos (show (M : Int) ≥ 0 by omega), decide_eq_true hin.2]
        rw [spec_CountKept.f, a1, Option.bind_some, if_pos rfl, hi, Option.bind_some, if_pos rfl, fits_eq W H M h8, Option.bind_some]
      cases hf : fitsN W H M with
      | false =>
        rw [hf] at hmem hSf
        refine law (0, false) (Ev.congr (g := _) (r := _) hSf (Sj true _ (fun _ => rfl) (fun x => nomatch x) (fun x => nomatch x))) (I _ (fun _ x => by rw [hmem] at x; cases x) (fun _ _ => rfl) (fun _ => rfl))
      | true =>
        rw [hf] at hmem hSf
        cases g with
        | false => exact law (0, false) (Ev.congr (g := _) (r := _) hSf (Sj false _ (fun x => nomatch x) (fun _ _ => rfl) (fun _ x => nomatch x))) (I _ (fun x => nomatch x) (fun x => nomatch x) (fun _ => rfl))
        | true =>
          have hcd := ha.cd
          have hp := ha.p
          obtain ⟨r, k1, k2⟩ := kept_same W H M C D ha.w0 ha.w1 ha.h0 ha.h1 ha.p h8 hf (by omega) (by omega)
          exact law (r, true) (Ev.congr (g := _) (r := _) hSf (Sj false _ (fun x => nomatch x) (fun _ x => nomatch x) (fun _ _ => Ev.bind (f := fun _ t => some (t, true)) k1 (Ev.now _)))) (I _ (fun _ _ => Ev.bind (f := fun _ t => some (t, true)) k2 (Ev.now _)) (fun _ x => by rw [hmem] at x; cases x) (fun x => nomatch x))
    · have hmem : decide (m ∈ fitL W H) = false := by
        refine decide_eq_false fun x => ?_
        obtain ⟨M', h1, _, h3⟩ := (fitL_mem W H _).1 x
        omega
      have hSf : ∀ k, spec_CountKept.f k (W : Int) (H : Int) (C : Int) (D : Int) m = spec_CountKept.j0 k (W : Int) (H : Int) (C : Int) (D : Int) m true := by
        intro k
        have hi : spec_l1In.f m 0 7 = some false := by
          unfold spec_l1In.f
          by_cases h0 : m ≥ 0
          · rw [if_pos h0, decide_eq_false (by omega)]
          · rw [if_neg h0]
        rw [spec_CountKept.f, a1, Option.bind_some, if_pos rfl, hi, Option.bind_some, if_neg Bool.false_ne_true]
      exact law (0, false) (Ev.congr (g := _) (r := _) hSf (Sj true _ (fun _ => rfl) (fun x => nomatch x) (fun x => nomatch x))) (I _ (fun _ x => by rw [hmem] at x; cases x) (fun _ _ => rfl) (fun _ => rfl))
end Go.Proofs.Ytpafamabndpcmaa.Pure
