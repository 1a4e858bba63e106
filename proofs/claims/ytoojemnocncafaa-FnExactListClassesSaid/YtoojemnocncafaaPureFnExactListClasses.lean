/- The program's ListClasses returns what the reference's returns: for all arguments the law FnExactListClasses returns true. -/
import Derived.Test.YtoojemnocncafaaQLawFnExactListClasses
import Derived.Test.YtoojemnocncafaaLCn
set_option linter.unusedVariables false
set_option linter.unusedSimpArgs false
namespace Go.Proofs.YtoojemnocncafaaL
namespace CG
open Go.RowKit Go.Proofs.Ytoojemnocncafaa.Q Go.Proofs.YtoojemnocncafaaW.PrintWords Go.Proofs.YtoojemnocncafaaW.PrintLast
open CM (cols fact)
/-- How many trays there are, by factorials. -/
def manyN (n a b : Nat) : Bool :=
  match ((impl_binomial.f 40 (n : Int) (a : Int)).bind fun t118 => ((impl_binomial.f 40 (wrap64 ((n : Int) - (a : Int))) (b : Int)).bind fun t119 => (if (wrap64 (t118 * t119)) > 1000000000000000 then (some (0, false)) else (some (wrap64 (t118 * t119), true))))) with
  | none => true
  | some r => !r.2 || (decide (0 ≤ r.1) && decide (r.1.toNat * (fact a * fact b * fact (n - a - b)) = fact n))
def manyAll (n : Nat) : Bool := (List.range (n + 1)).all fun a => (List.range (n - a + 1)).all fun b => manyN n a b
theorem many_n : ∀ i : Fin 36, manyAll (i.val + 1) = true := by decide +kernel
theorem many_one {n a b : Nat} (h0 : 1 ≤ n) (h1 : n ≤ 36) (h2 : a + b ≤ n) : manyN n a b = true := by
  have h := many_n ⟨n - 1, by omega⟩
  have en : n - 1 + 1 = n := by omega
  simp only [en] at h
  exact List.all_eq_true.1 (List.all_eq_true.1 h a (List.mem_range.2 (by omega))) b (List.mem_range.2 (by omega))
theorem many_eq {n a b : Nat} (h2 : a + b ≤ n) {r : Int × Bool} (h : manyN n a b = true) (hr : ((impl_binomial.f 40 (n : Int) (a : Int)).bind fun t118 => ((impl_binomial.f 40 (wrap64 ((n : Int) - (a : Int))) (b : Int)).bind fun t119 => (if (wrap64 (t118 * t119)) > 1000000000000000 then (some (0, false)) else (some (wrap64 (t118 * t119), true))))) = some r) (hk : r.2 = true) :
    r.1 = ((cols (List.replicate n 1) a b).length : Int) := by
  unfold manyN at h
  rw [hr] at h
  simp only [hk, Bool.not_true, Bool.false_or, Bool.and_eq_true, decide_eq_true_eq] at h
  have e := CM.fact_cols n a b (n - a - b) (by omega)
  have hp : 0 < fact a * fact b * fact (n - a - b) := Nat.mul_pos (Nat.mul_pos (CM.fact_pos a) (CM.fact_pos b)) (CM.fact_pos _)
  have e2 := Nat.eq_of_mul_eq_mul_right hp (h.2.trans e.symm)
  omega
theorem trays_num (w h c d : Nat) (ha : Asks w h c d) (h2 : impl_isFilled.f (w : Int) (h : Int) (c : Int) (d : Int) = some true) :
    ∃ r : Int × Bool, Ev (fun k => spec_cnTrays.f k (w : Int) (h : Int) (c : Int) (d : Int)) r ∧ Ev (fun k => impl_countTrays.f k (w : Int) (h : Int) (c : Int) (d : Int)) r ∧ (r.2 = true → r.1 = ((TT w h c d).length : Int)) := by
  have hm : (w : Int) * (h : Int) = ((w * h : Nat) : Int) := (Int.natCast_mul _ _).symm
  have hw0 : 1 * 1 ≤ w * h := Nat.mul_le_mul ha.w0 ha.h0
  have hp := ha.p
  have hcd := ha.cd
  have hw : wrap64 ((w * h : Nat) : Int) = ((w * h : Nat) : Int) := wrapSmall (by omega) (by omega)
  have e := of_decide_eq_true (one_n ((w * h : Nat) : Int) (c : Int) (d : Int) (by omega) (by omega) (by omega) (by omega) (by omega) (by omega))
  obtain ⟨e1, e2⟩ := e
  obtain ⟨r, hr⟩ := Option.ne_none_iff_exists'.1 e2
  have hnum := many_eq (n := w * h) (a := c) (b := d) (by omega) (r := r) (many_one (by omega) (by omega) (by omega)) hr
  rw [hr] at e1
  refine ⟨r, ?_, ?_, hnum⟩
  · refine Ev.of (g := fun k => spec_cnTrays.f k (w : Int) (h : Int) (c : Int) (d : Int)) (fun k => spec_cnTrays.mono _ _ _ _ k) (k := 40) ?_
    show spec_cnTrays.f 40 _ _ _ _ = _
    rw [spec_cnTrays.f, hm, hw]
    exact e1
  · refine Ev.of (g := fun k => impl_countTrays.f k (w : Int) (h : Int) (c : Int) (d : Int)) (fun k => impl_countTrays.mono _ _ _ _ k) (k := 40) ?_
    show impl_countTrays.f 40 _ _ _ _ = _
    rw [impl_countTrays.f, h2, hm, hw, Option.bind_some, if_pos rfl]
    exact hr
theorem TT_pos {w h c d : Nat} (hcd : c + d ≤ w * h) : 0 < (TT w h c d).length := by
  have e := CM.fact_cols (w * h) c d (w * h - c - d) (by omega)
  have hp := CM.fact_pos (w * h)
  rw [← e] at hp
  exact Nat.pos_of_mul_pos_right hp
end CG
end Go.Proofs.YtoojemnocncafaaL
namespace Go.Proofs.Ytoojemnocncafaa.Pure
open Go.RowKit Go.Proofs.Ytoojemnocncafaa.Q Go.Proofs.YtoojemnocncafaaW.PrintWords Go.Proofs.YtoojemnocncafaaW.PrintLast Go.Proofs.YtoojemnocncafaaV
open Go.Proofs.YtoojemnocncafaaL.CG
theorem R_nil (n₀ : Nat) (W : World) : Kd.R Kd.string 9 W n₀ (fun _ => True) (.slice none 0 0) ([] : List ByteArray) :=
  Kd.R_of_own (h1 := fun _ => rfl) ⟨rfl, .inl ⟨rfl, rfl⟩⟩ (fun _ _ => trivial)
theorem no_S {x y za zb : Int} {W : World} (H : Calls Try.prog 4 #[.int .i64 x, .int .i64 y, .int .i64 za, .int .i64 zb] W fun e w' => e = .returned (.tuple #[.slice none 0 0, .bool false]) ∧ Below W.heap.size W w') :
    Calls Try.prog 4 #[.int .i64 x, .int .i64 y, .int .i64 za, .int .i64 zb] W fun e w' => ∃ v0_ : Value, e = .returned (.tuple #[v0_, .bool false]) ∧ Kd.V Kd.string 9 w' 0 (fun _ => True) v0_ ([] : List ByteArray) ∧ Below W.heap.size W w' :=
  H.mono fun e w' hh => ⟨_, hh.1, Kd.R_V (R_nil 0 w'), hh.2⟩
theorem no_I {x y za zb : Int} {W : World} (H : Calls Try.prog 5 #[.int .i64 x, .int .i64 y, .int .i64 za, .int .i64 zb] W fun e w' => e = .returned (.tuple #[.slice none 0 0, .bool false]) ∧ Below W.heap.size W w') :
    Calls Try.prog 5 #[.int .i64 x, .int .i64 y, .int .i64 za, .int .i64 zb] W fun e w' => ∃ v0_ : Value, e = .returned (.tuple #[v0_, .bool false]) ∧ Kd.R Kd.string 9 w' W.heap.size (fun _ => True) v0_ ([] : List ByteArray) ∧ Below W.heap.size W w' :=
  H.mono fun e w' hh => ⟨_, hh.1, R_nil _ w', hh.2⟩
theorem texts_back (L : List ByteArray) : (L.map fun t => t.data.toList).map encStr = L.map Value.string := (FL.encs_str L).symm
theorem FnExactListClasses : laws_FnExactListClasses.Pure := by
  intro a0 a1 a2 a3 w0 w1 w2 w3
  rcases asked a0 a1 a2 a3 w2 w3 with ⟨s1, s2⟩ | ⟨w, h, c, d, ⟨rfl, rfl⟩, ⟨rfl, rfl⟩, ha, s1, s2⟩
  · obtain ⟨k, hk⟩ := (trays_none a0 a1 a2 a3 s2).rounds
    refine ⟨[], false, by simp, fun W => no_S ?_, fun W => no_I ?_⟩
    · exact LK.listS_no (many := 0) (cls := 0) (asked := false) (ok := false) W (fun h => nomatch h) (fun W => (spec_cnAsked.calls _ _ _ _ _ W s1).mono fun e w' hh => ⟨hh.1, hh.2.below⟩) (fun h => nomatch h) (fun h => nomatch h)
    · exact LK.listI_no (many := 0) (ok := false) W (fun h => nomatch h) (fun W => (impl_countTrays.calls k _ _ _ _ _ _ W hk).mono fun e w' hh => ⟨hh.1, hh.2.below⟩)
  · have hs : Sz w h := ⟨ha.w0, ha.w1, ha.h0, ha.h1, ha.p⟩
    have hcd := ha.cd
    have hp := ha.p
    obtain ⟨⟨many, ok⟩, t1, t2, hnum⟩ := trays_num w h c d ha s2
    obtain ⟨k1, hk1⟩ := t1.rounds
    obtain ⟨k2, hk2⟩ := t2.rounds
    have HA : ∀ W, Calls Try.prog 9 #[.int .i64 (w : Int), .int .i64 (h : Int), .int .i64 (c : Int), .int .i64 (d : Int)] W fun e w' => e = .returned (.bool true) ∧ Below W.heap.size W w' := fun W => (spec_cnAsked.calls _ _ _ _ _ W s1).mono fun e w' hh => ⟨hh.1, hh.2.below⟩
    have HT : ∀ W, Calls Try.prog 10 #[.int .i64 (w : Int), .int .i64 (h : Int), .int .i64 (c : Int), .int .i64 (d : Int)] W fun e w' => e = .returned (.tuple #[.int .i64 many, .bool ok]) ∧ Below W.heap.size W w' := fun W => (spec_cnTrays.calls k1 _ _ _ _ _ _ W hk1).mono fun e w' hh => ⟨hh.1, hh.2.below⟩
    have HI : ∀ W, Calls Try.prog 13 #[.int .i64 (w : Int), .int .i64 (h : Int), .int .i64 (c : Int), .int .i64 (d : Int)] W fun e w' => e = .returned (.tuple #[.int .i64 many, .bool ok]) ∧ Below W.heap.size W w' := fun W => (impl_countTrays.calls k2 _ _ _ _ _ _ W hk2).mono fun e w' hh => ⟨hh.1, hh.2.below⟩
    by_cases hgo : ok = true ∧ ¬ many > 5000
    · obtain ⟨rfl, hmany⟩ := hgo
      have hnum := hnum rfl
      have hnum : many = ((TT w h c d).length : Int) := hnum
      have hN := cls_le w h c d
      obtain ⟨k3, hk3⟩ := (classes_ev hs (by omega) (by omega) (by omega) (fix_sum hs c d)).rounds
      have HC : ∀ W, Calls Try.prog 11 #[.int .i64 (w : Int), .int .i64 (h : Int), .int .i64 (c : Int), .int .i64 (d : Int)] W fun e w' => e = .returned (.int .i64 (((cls w h c d).length : Nat) : Int)) ∧ Below W.heap.size W w' := fun W => spec_cnClasses.calls k3 _ _ _ _ _ W hk3
      obtain ⟨k4, hk4⟩ := (fitting_ev w h ha.w0 ha.w1 ha.h0 ha.h1).rounds
      have HF : ∀ W, Calls Try.prog 14 #[.int .i64 (w : Int), .int .i64 (h : Int)] W fun e w' => ∃ v0_ : Value, e = .returned v0_ ∧ Kd.R (Kd.int .i64) 3 w' W.heap.size (fun _ => True) v0_ ((ms w h).map fun m : Nat => (m : Int)) ∧ Below W.heap.size W w' := fun W => impl_fitting.calls k4 _ _ _ W hk4
      have hlv := leaves_len (c := c) (d := d) (w := w) (h := h) hcd
      have hpos := TT_pos hcd
      have I := fun W => FL.listI_yes (n := w * h) (x := (w : Int)) (y := (h : Int)) (many := many) (wl := c) (bl := d) (ml := (ms w h).map fun m : Nat => (m : Int)) (tx := tx w) (mvf := mvf w h) (Good := Go.Proofs.YtoojemnocncafaaL.CG.Good) W (con_I hs) hcd (fun x hx => (nomatch hx)) hmany
        (by show (FL.leaves (lsI w h) (w * h) [] c d).length ≤ 1000000; rw [hlv]; omega) (by show 0 < (FL.leaves (lsI w h) (w * h) [] c d).length; rw [hlv]; exact hpos) HI HF
      have eI : FL.sortedT (FL.leaves (FL.leastI (tx w) (mvf w h) ((ms w h).map fun m : Nat => (m : Int))) (w * h) [] c d) = ((cls w h c d).map (tx w)).map fun t => t.data.toList := list_I hs hcd
      rw [eI] at I
      have hlen : (((cls w h c d).map (tx w)).map fun t => t.data.toList).length = (cls w h c d).length := by rw [List.length_map, List.length_map]
      by_cases hbig : (cls w h c d).length > 200
      · refine ⟨[], false, by simp, fun W => no_S ?_, fun W => no_I ?_⟩
        · exact LK.listS_no W (fun _ _ _ => by omega) HA (fun _ => HT) (fun _ _ _ => HC)
        · refine (I W).mono fun e w' hh => ?_
          obtain ⟨V, h1, h2⟩ := hh
          rw [hlen, if_pos hbig] at h1
          exact ⟨h1, h2⟩
      · refine ⟨(cls w h c d).map (tx w), true, by rw [List.length_map]; omega, fun W => ?_, fun W => ?_⟩
        · have S := LK.listS_yes (many := many) (cls := (((cls w h c d).length : Nat) : Int)) (con_S hs) W (a := c) (b := d) (by omega) (by omega) (fun x hx => (nomatch hx)) hmany (by omega) (by rw [list_S, List.length_map]; omega) HA HT HC
          refine S.mono fun e w' hh => ?_
          obtain ⟨V, h1, h2, h3⟩ := hh
          rw [list_S] at h2
          exact ⟨V, h1, Kd.R_V (Kd.R_of_own (h1 := fun _ => rfl) h2 (fun _ _ => trivial)), h3⟩
        · refine (I W).mono fun e w' hh => ?_
          obtain ⟨V, h1, h2⟩ := hh
          rw [hlen, if_neg hbig, texts_back] at h1
          have h3 := h1.2
          rw [show (cls w h c d).length = ((cls w h c d).map (tx w)).length from (List.length_map ..).symm] at h3
          exact ⟨V, h1.1, Kd.R_of_own (h1 := fun _ => rfl) h3 (fun _ _ => trivial), h2⟩
    · have hno : ok = true → many > 5000 := fun e => Decidable.byContradiction fun x => hgo ⟨e, x⟩
      refine ⟨[], false, by simp, fun W => no_S ?_, fun W => no_I ?_⟩
      · exact LK.listS_no (cls := 0) W (fun _ e x => absurd (hno e) x) HA (fun _ => HT) (fun _ e x => absurd (hno e) x)
      · exact LK.listI_no W hno HI
end Go.Proofs.Ytoojemnocncafaa.Pure
