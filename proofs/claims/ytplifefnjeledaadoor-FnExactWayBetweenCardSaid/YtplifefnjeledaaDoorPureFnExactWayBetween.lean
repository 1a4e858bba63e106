/- The program's WayBetween returns what the reference's returns: for all arguments the law FnExactWayBetween returns true. -/
import Derived.Test.YtplifefnjeledaaDoorQx10
import Derived.Test.YtplifefnjeledaaDoorLTray
import Derived.Test.YtplifefnjeledaaDoorLFar
set_option linter.unusedVariables false
set_option linter.unusedSimpArgs false
namespace Go.Proofs.YtplifefnjeledaaDoor.Pure
open Go.RowKit Go.Proofs.YtplifefnjeledaaDoor.Q Go.Proofs.YtplifefnjeledaaDoorW.PrintWords Go.Proofs.YtplifefnjeledaaDoorW.PrintLast Go.Proofs.YtplifefnjeledaaDoorM Go.Proofs.YtplifefnjeledaaDoorV
open Go.Proofs.YtplifefnjeledaaDoorL
theorem size_of {t : ByteArray} (h : good t = true) : Size (W t) (H t) := by
  obtain ⟨f1, f2, f3, f4, f5, f6, f7⟩ := good_facts h
  exact ⟨f1, f2, f3, f4, f5⟩
theorem law_of (t : ByteArray) (a b : Int) (ht : ¬ (t.size : Int) > 1048576) (v : Int × Bool) (e1 : Ev (fun k => spec_WayBetween.f k t a b) v) (e2 : Ev (fun k => impl_WayBetween.f k t a b) v) : Ev (fun k => laws_FnExactWayBetween.f k t a b) true := by
  refine Ev.congr (f := fun k => (spec_WayBetween.f k t a b).bind fun b1 => (impl_WayBetween.f k t a b).bind fun b2 => if b2.1 = b1.1 then (if (b2.2 != b1.2) = true then some false else some true) else some false) (g := _) (r := _) (fun k => by rw [laws_FnExactWayBetween.f, if_neg ht]) ?_
  refine Ev.bind (f := fun k b1 => (impl_WayBetween.f k t a b).bind fun b2 => if b2.1 = b1.1 then (if (b2.2 != b1.2) = true then some false else some true) else some false) e1 ?_
  refine Ev.bind (f := fun k b2 => if b2.1 = v.1 then (if (b2.2 != v.2) = true then some false else some true) else some false) e2 ?_
  rw [if_pos rfl, if_neg (by simp)]
  exact Ev.now _
theorem l1In_eq (a n : Int) : spec_l1In.f a 0 n = some (inW a 0 n) := by
  unfold spec_l1In.f inW
  by_cases h : a ≥ 0
  · rw [if_pos h, decide_eq_true (show 0 ≤ a from h), Bool.true_and]
  · rw [if_neg h, decide_eq_false (show ¬ 0 ≤ a from h), Bool.false_and]
theorem FnExactWayBetween : laws_FnExactWayBetween.Pure := by
  intro t a b _ _ _
  suffices X : Ev (fun k => laws_FnExactWayBetween.f k t a b) true from X.rounds
  by_cases ht : (t.size : Int) > 1048576
  · refine Ev.congr (f := fun _ => some true) (g := _) (r := _) (fun k => by rw [laws_FnExactWayBetween.f, if_pos ht]) (Ev.now _)
  have ht' : t.size ≤ 1048576 := by omega
  have hi := isTray_eq t ht'
  have hr := tyRead_eq t
  by_cases hg : good t = true
  · obtain ⟨f1, f2, f3, f4, f5, f6, f7⟩ := good_facts hg
    have hs := size_of hg
    have hre := read_eq t ht'
    rw [hg] at hi
    rw [if_pos hg] at hr
    generalize W t = w at *
    generalize H t = h at *
    generalize CS t = L at *
    have hpos : 1 * 1 ≤ w * h := Nat.mul_le_mul hs.w0 hs.h0
    have ew : wrap64 ((L.length : Int) - 1) = ((w * h : Nat) : Int) - 1 := by
      rw [f6]
      unfold wrap64
      omega
    -- the program's question for its two numbers
    have hN : Ev (fun k => impl_isNumber.f k t [a, b]) (inW a 0 (((w * h : Nat) : Int) - 1) && inW b 0 (((w * h : Nat) : Int) - 1)) := by
      refine Ev.congr (f := fun k => (impl_IsTray.f k t).bind fun t186 => (if t186 = true then ((impl_read.f t).bind fun bt187 => ((impl_areWithin.f [a, b] 0 (wrap64 ((bt187.2.2.length : Int) - 1))).bind fun t192 => (some t192))) else (some false))) (g := _) (r := _) (fun k => by rw [impl_isNumber.f]) ?_
      refine Ev.bind (f := fun k t186 => (if t186 = true then ((impl_read.f t).bind fun bt187 => ((impl_areWithin.f [a, b] 0 (wrap64 ((bt187.2.2.length : Int) - 1))).bind fun t192 => (some t192))) else (some false))) hi ?_
      refine Ev.congr (f := fun _ => some (inW a 0 (((w * h : Nat) : Int) - 1) && inW b 0 (((w * h : Nat) : Int) - 1))) (g := _) (r := _) (fun k => ?_) (Ev.now _)
      rw [if_pos rfl, hre, Option.bind_some]
      show (impl_areWithin.f [a, b] 0 (wrap64 ((L.length : Int) - 1))).bind _ = _
      rw [ew, impl_areWithin.f, if_pos ⟨Nat.succ_pos _, by show 2 ≤ 1000000; decide⟩, Option.bind_some]
      simp
    have I : ∀ v, (inW a 0 (((w * h : Nat) : Int) - 1) && inW b 0 (((w * h : Nat) : Int) - 1)) = false → v = (0, false) → Ev (fun k => impl_WayBetween.f k t a b) v := by
      intro v e hv
      rw [e] at hN
      refine Ev.congr (f := fun k => (impl_isNumber.f k t [a, b]).bind fun t224 => (if t224 = true then ((impl_read.f t).bind fun bt225 => ((impl_tray_distances_at_impl_isOpen.f k bt225.1 bt225.2.1 bt225.2.2 a).bind fun t230 => (if 0 ≤ b then (if b < (t230.length : Int) then (some (mx (rd t230 b) 0, decide ((rd t230 b) ≥ 0))) else (none)) else (none)))) else (some (0, false)))) (g := _) (r := _) (fun k => by rw [impl_WayBetween.f]) ?_
      refine Ev.bind (f := fun k t224 => (if t224 = true then ((impl_read.f t).bind fun bt225 => ((impl_tray_distances_at_impl_isOpen.f k bt225.1 bt225.2.1 bt225.2.2 a).bind fun t230 => (if 0 ≤ b then (if b < (t230.length : Int) then (some (mx (rd t230 b) 0, decide ((rd t230 b) ≥ 0))) else (none)) else (none)))) else (some (0, false)))) hN ?_
      rw [hv]
      exact Ev.now _
    have S : ∀ v, (∀ k, (if inW a 0 (((w * h : Nat) : Int) - 1) = true then spec_WayBetween.j0 k a b (!inW b 0 (((w * h : Nat) : Int) - 1)) (w : Int) (h : Int) L else spec_WayBetween.j0 k a b true (w : Int) (h : Int) L) = spec_WayBetween.j0 k a b (!(inW a 0 (((w * h : Nat) : Int) - 1) && inW b 0 (((w * h : Nat) : Int) - 1))) (w : Int) (h : Int) L) →
        Ev (fun k => spec_WayBetween.j0 k a b (!(inW a 0 (((w * h : Nat) : Int) - 1) && inW b 0 (((w * h : Nat) : Int) - 1))) (w : Int) (h : Int) L) v → Ev (fun k => spec_WayBetween.f k t a b) v := by
      intro v hv hE
      refine Ev.congr (f := fun k => (spec_tyRead.f k t).bind fun bt153 => (if bt153.2.2.2 = true then ((spec_l1In.f a 0 (wrap64 ((bt153.2.2.1.length : Int) - 1))).bind fun t160 => (if t160 = true then ((spec_l1In.f b 0 (wrap64 ((bt153.2.2.1.length : Int) - 1))).bind fun t161 => (spec_WayBetween.j0 k a b (!t161) bt153.1 bt153.2.1 bt153.2.2.1)) else (spec_WayBetween.j0 k a b true bt153.1 bt153.2.1 bt153.2.2.1))) else (spec_WayBetween.j0 k a b true bt153.1 bt153.2.1 bt153.2.2.1))) (g := _) (r := _) (fun k => by rw [spec_WayBetween.f]) ?_
      refine Ev.bind (f := fun k bt153 => (if bt153.2.2.2 = true then ((spec_l1In.f a 0 (wrap64 ((bt153.2.2.1.length : Int) - 1))).bind fun t160 => (if t160 = true then ((spec_l1In.f b 0 (wrap64 ((bt153.2.2.1.length : Int) - 1))).bind fun t161 => (spec_WayBetween.j0 k a b (!t161) bt153.1 bt153.2.1 bt153.2.2.1)) else (spec_WayBetween.j0 k a b true bt153.1 bt153.2.1 bt153.2.2.1))) else (spec_WayBetween.j0 k a b true bt153.1 bt153.2.1 bt153.2.2.1))) hr ?_
      refine Ev.congr (g := _) (r := _) (fun k => ?_) hE
      show (if true = true then ((spec_l1In.f a 0 (wrap64 ((L.length : Int) - 1))).bind fun t160 => (if t160 = true then ((spec_l1In.f b 0 (wrap64 ((L.length : Int) - 1))).bind fun t161 => (spec_WayBetween.j0 k a b (!t161) (w : Int) (h : Int) L)) else (spec_WayBetween.j0 k a b true (w : Int) (h : Int) L))) else (spec_WayBetween.j0 k a b true (w : Int) (h : Int) L)) = _
      rw [if_pos rfl, ew, l1In_eq, l1In_eq, Option.bind_some, Option.bind_some]
      exact hv k
    cases ca : inW a 0 (((w * h : Nat) : Int) - 1) with
    | false =>
      rw [ca] at I S
      refine law_of t a b ht (0, false) (S _ (fun k => ?_) (Ev.step (f := fun _ => some (0, false)) (fun k => ?_) (Ev.now _))) (I _ (Bool.false_and _) rfl)
      · rw [if_neg Bool.false_ne_true, Bool.false_and, Bool.not_false]
      · rw [spec_WayBetween.j0, Bool.false_and, Bool.not_false, if_pos rfl]
    | true =>
      cases cb : inW b 0 (((w * h : Nat) : Int) - 1) with
      | false =>
        rw [ca, cb] at I S
        refine law_of t a b ht (0, false) (S _ (fun k => ?_) (Ev.step (f := fun _ => some (0, false)) (fun k => ?_) (Ev.now _))) (I _ (Bool.and_false _) rfl)
        · rw [if_pos rfl, Bool.and_false]
        · rw [spec_WayBetween.j0, Bool.and_false, Bool.not_false, if_pos rfl]
      | true =>
        rw [ca, cb] at S hN
        unfold inW at ca cb
        rw [Bool.and_eq_true, decide_eq_true_eq, decide_eq_true_eq] at ca cb
        obtain ⟨A, rfl⟩ := Int.eq_ofNat_of_zero_le ca.1
        obtain ⟨B, rfl⟩ := Int.eq_ofNat_of_zero_le cb.1
        have hA : A < w * h := by omega
        have hB : B < w * h := by omega
        have SF := spec_far_ev hs f6 hA
        have IF := dist_isOpen_ev hs f6 hA
        have hfs := BF.farOf_spec (acc := accO L) (adj_lt hs) hA
        generalize BF.farOf (accO L) (adjOf w h) (w * h) A = F at SF IF hfs
        have g1 : (0 : Int) ≤ (B : Int) := by omega
        have g2 : (B : Int) < (F.length : Int) := by rw [hfs.1]; omega
        have hval : F.getD B 0 = -1 ∨ 0 ≤ F.getD B 0 := by
          rcases Classical.em (BF.Reach (accO L) (adjOf w h) A B) with x | x
          · exact .inr (hfs.2.1 B x)
          · exact .inl (hfs.2.2 B hB x)
        have fin : ∀ v : Int × Bool, v = (if F.getD B 0 < 0 then (0, false) else (F.getD B 0, true)) → Ev (fun k => laws_FnExactWayBetween.f k t (A : Int) (B : Int)) true := by
          intro v hv
          refine law_of t _ _ ht v (S _ (fun k => by rw [if_pos rfl]; rfl) ?_) ?_
          · refine Ev.step (f := fun k => (spec_tyFar.f k (w : Int) (h : Int) L (A : Int)).bind fun t162 => (if 0 ≤ (B : Int) then (if (B : Int) < (t162.length : Int) then (if (rd t162 (B : Int)) < 0 then (some (0, false)) else (some (rd t162 (B : Int), true))) else (none)) else (none))) (fun k => by rw [spec_WayBetween.j0]; rfl) ?_
            refine Ev.bind (f := fun k t162 => (if 0 ≤ (B : Int) then (if (B : Int) < (t162.length : Int) then (if (rd t162 (B : Int)) < 0 then (some (0, false)) else (some (rd t162 (B : Int), true))) else (none)) else (none))) SF ?_
            rw [if_pos g1, if_pos g2, rd_nat, hv]
            by_cases c : F.getD B 0 < 0
            · rw [if_pos c, if_pos c]; exact Ev.now _
            · rw [if_neg c, if_neg c]; exact Ev.now _
          · refine Ev.congr (f := fun k => (impl_isNumber.f k t [(A : Int), (B : Int)]).bind fun t224 => (if t224 = true then ((impl_read.f t).bind fun bt225 => ((impl_tray_distances_at_impl_isOpen.f k bt225.1 bt225.2.1 bt225.2.2 (A : Int)).bind fun t230 => (if 0 ≤ (B : Int) then (if (B : Int) < (t230.length : Int) then (some (mx (rd t230 (B : Int)) 0, decide ((rd t230 (B : Int)) ≥ 0))) else (none)) else (none)))) else (some (0, false)))) (g := _) (r := _) (fun k => by rw [impl_WayBetween.f]) ?_
            refine Ev.bind (f := fun k t224 => (if t224 = true then ((impl_read.f t).bind fun bt225 => ((impl_tray_distances_at_impl_isOpen.f k bt225.1 bt225.2.1 bt225.2.2 (A : Int)).bind fun t230 => (if 0 ≤ (B : Int) then (if (B : Int) < (t230.length : Int) then (some (mx (rd t230 (B : Int)) 0, decide ((rd t230 (B : Int)) ≥ 0))) else (none)) else (none)))) else (some (0, false)))) hN ?_
            refine Ev.congr (f := fun k => (impl_tray_distances_at_impl_isOpen.f k (w : Int) (h : Int) L (A : Int)).bind fun t230 => (if 0 ≤ (B : Int) then (if (B : Int) < (t230.length : Int) then (some (mx (rd t230 (B : Int)) 0, decide ((rd t230 (B : Int)) ≥ 0))) else (none)) else (none))) (g := _) (r := _) (fun k => by rw [Bool.true_and, if_pos rfl, hre, Option.bind_some]) ?_
            refine Ev.bind (f := fun k t230 => (if 0 ≤ (B : Int) then (if (B : Int) < (t230.length : Int) then (some (mx (rd t230 (B : Int)) 0, decide ((rd t230 (B : Int)) ≥ 0))) else (none)) else (none))) IF ?_
            rw [if_pos g1, if_pos g2, rd_nat, hv]
            rcases hval with c | c
            · rw [c]
              exact Ev.now _
            · rw [if_neg (by omega), decide_eq_true (show F.getD B 0 ≥ 0 from c)]
              have em : mx (F.getD B 0) 0 = F.getD B 0 := by unfold mx; first | omega | (split <;> omega)
              rw [em]
              exact Ev.now _
        exact fin _ rfl
  · rw [Bool.eq_false_iff.2 hg] at hi
    rw [if_neg hg] at hr
    refine law_of t a b ht (0, false) ?_ ?_
    · refine Ev.congr (f := fun k => (spec_tyRead.f k t).bind fun bt153 => (if bt153.2.2.2 = true then ((spec_l1In.f a 0 (wrap64 ((bt153.2.2.1.length : Int) - 1))).bind fun t160 => (if t160 = true then ((spec_l1In.f b 0 (wrap64 ((bt153.2.2.1.length : Int) - 1))).bind fun t161 => (spec_WayBetween.j0 k a b (!t161) bt153.1 bt153.2.1 bt153.2.2.1)) else (spec_WayBetween.j0 k a b true bt153.1 bt153.2.1 bt153.2.2.1))) else (spec_WayBetween.j0 k a b true bt153.1 bt153.2.1 bt153.2.2.1))) (g := _) (r := _) (fun k => by rw [spec_WayBetween.f]) ?_
      refine Ev.bind (f := fun k bt153 => (if bt153.2.2.2 = true then ((spec_l1In.f a 0 (wrap64 ((bt153.2.2.1.length : Int) - 1))).bind fun t160 => (if t160 = true then ((spec_l1In.f b 0 (wrap64 ((bt153.2.2.1.length : Int) - 1))).bind fun t161 => (spec_WayBetween.j0 k a b (!t161) bt153.1 bt153.2.1 bt153.2.2.1)) else (spec_WayBetween.j0 k a b true bt153.1 bt153.2.1 bt153.2.2.1))) else (spec_WayBetween.j0 k a b true bt153.1 bt153.2.1 bt153.2.2.1))) hr ?_
      refine Ev.step (f := fun _ => some (0, false)) (fun k => ?_) (Ev.now _)
      show (if false = true then _ else spec_WayBetween.j0 (k + 1) a b true _ _ _) = _
      rw [if_neg Bool.false_ne_true, spec_WayBetween.j0, if_pos rfl]
    · have hN : Ev (fun k => impl_isNumber.f k t [a, b]) false := by
        refine Ev.congr (f := fun k => (impl_IsTray.f k t).bind fun t186 => (if t186 = true then ((impl_read.f t).bind fun bt187 => ((impl_areWithin.f [a, b] 0 (wrap64 ((bt187.2.2.length : Int) - 1))).bind fun t192 => (some t192))) else (some false))) (g := _) (r := _) (fun k => by rw [impl_isNumber.f]) ?_
        refine Ev.bind (f := fun k t186 => (if t186 = true then ((impl_read.f t).bind fun bt187 => ((impl_areWithin.f [a, b] 0 (wrap64 ((bt187.2.2.length : Int) - 1))).bind fun t192 => (some t192))) else (some false))) hi ?_
        exact Ev.now _
      refine Ev.congr (f := fun k => (impl_isNumber.f k t [a, b]).bind fun t224 => (if t224 = true then ((impl_read.f t).bind fun bt225 => ((impl_tray_distances_at_impl_isOpen.f k bt225.1 bt225.2.1 bt225.2.2 a).bind fun t230 => (if 0 ≤ b then (if b < (t230.length : Int) then (some (mx (rd t230 b) 0, decide ((rd t230 b) ≥ 0))) else (none)) else (none)))) else (some (0, false)))) (g := _) (r := _) (fun k => by rw [impl_WayBetween.f]) ?_
      refine Ev.bind (f := fun k t224 => (if t224 = true then ((impl_read.f t).bind fun bt225 => ((impl_tray_distances_at_impl_isOpen.f k bt225.1 bt225.2.1 bt225.2.2 a).bind fun t230 => (if 0 ≤ b then (if b < (t230.length : Int) then (some (mx (rd t230 b) 0, decide ((rd t230 b) ≥ 0))) else (none)) else (none)))) else (some (0, false)))) hN ?_
      exact Ev.now _
end Go.Proofs.YtplifefnjeledaaDoor.Pure
