/- The program's CanSolve returns what the reference's returns: for every board the law FnExactCanSolve returns true. -/
import Derived.Test.YtcblfoaomlokoaaLBoard
import Derived.Test.YtcblfoaomlokoaaLHole
import Derived.Test.YtcblfoaomlokoaaQx5
import Derived.Test.YtcblfoaomlokoaaQx4
import Derived.Test.YtcblfoaomlokoaaQx2
import Derived.Test.YtcblfoaomlokoaaQx9
import Derived.Test.YtcblfoaomlokoaaQx8
import Derived.Test.YtcblfoaomlokoaaQx6
import Derived.Test.YtcblfoaomlokoaaQx11
set_option linter.unusedVariables false
set_option linter.unusedSimpArgs false
namespace Go.Proofs.Ytcblfoaomlokoaa.Pure
open Go.RowKit Go.Proofs.Ytcblfoaomlokoaa.Q Go.Proofs.YtcblfoaomlokoaaW.PrintWords Go.Proofs.YtcblfoaomlokoaaW.PrintLast Go.Proofs.YtcblfoaomlokoaaV Go.Proofs.YtcblfoaomlokoaaL

def P (a c : Int) : Bool := decide (c > 0) && (decide (a = 0) || decide (a > c))
def cntI (a : Int) (ys : List Int) : Nat := (ys.filter fun c => P a c).length
def cntS (c : Int) (ys : List Int) : Nat := (ys.filter fun a => P a c).length
def inv : List Int → Nat
  | [] => 0
  | a :: t => cntI a t + inv t
def inv2 (pre : List Int) : List Int → Nat
  | [] => 0
  | c :: t => cntS c pre + inv2 (pre ++ [c]) t
def sumS (pre : List Int) : List Int → Nat
  | [] => 0
  | c :: t => cntS c pre + sumS pre t
theorem sumS_nil : ∀ l : List Int, sumS [] l = 0
  | [] => rfl
  | c :: t => by
    rw [sumS, sumS_nil t]
    rfl
theorem sumS_snoc (pre : List Int) (c : Int) : ∀ l : List Int, sumS (pre ++ [c]) l = sumS pre l + cntI c l
  | [] => rfl
  | d :: t => by
    rw [sumS, sumS, sumS_snoc pre c t]
    unfold cntS cntI
    rw [List.filter_append, List.length_append, List.filter_cons (x := d)]
    cases h : P c d with
    | true =>
      simp [h]
      omega
    | false =>
      simp [h]
      omega
theorem inv2_eq : ∀ (l pre : List Int), inv2 pre l = inv l + sumS pre l
  | [], _ => rfl
  | c :: t, pre => by
    rw [inv2, inv, sumS, inv2_eq t (pre ++ [c]), sumS_snoc]
    omega
theorem cntI_le (a : Int) (ys : List Int) : cntI a ys ≤ ys.length := List.length_filter_le _ _
theorem inv_le : ∀ (l : List Int) (n : Nat), l.length ≤ n → inv l ≤ n * l.length
  | [], n, _ => Nat.zero_le _
  | a :: t, n, h => by
    rw [List.length_cons] at h
    have h1 := inv_le t n (by omega)
    have h2 := cntI_le a t
    rw [inv, List.length_cons, Nat.mul_succ]
    omega
theorem bit_eq (b : Bool) : impl_bit.f b = some (if b = true then 1 else 0) := by
  rw [impl_bit.f]
  cases b <;> rfl
theorem impl_inner (a x n i : Int) (l ys : List Int) (hl : ys.length ≤ 1000) (R : Int) : ∀ (d j acc : Nat), ys.length - j = d → j ≤ ys.length → acc + cntI x (ys.drop j) < 1000000 →
    Ev (fun k => impl_Board_parity.l0 k ((acc + cntI x (ys.drop j) : Nat) : Int) l n (wrap64 (i + 1)) a l) R → Ev (fun k => impl_Board_parity.l1 k (acc : Int) x l n i ys (ys.length : Int) (j : Int) a l) R := by
  intro d
  induction d with
  | zero =>
    intro j acc hd hj hb hR
    have e : j = ys.length := by omega
    subst e
    have g : ¬ ((ys.length : Int) < (ys.length : Int)) := by omega
    rw [List.drop_length] at hR
    exact Ev.step (fun k => by rw [impl_Board_parity.l1, if_neg g]; rfl) hR
  | succ d ih =>
    intro j acc hd hj hb hR
    have hlt : j < ys.length := by omega
    have g : (j : Int) < (ys.length : Int) := by omega
    have g0 : (0 : Int) ≤ (j : Int) := by omega
    rw [List.drop_eq_getElem_cons hlt] at hb hR
    have hc : cntI x (ys[j] :: ys.drop (j + 1)) = (if P x ys[j] = true then 1 else 0) + cntI x (ys.drop (j + 1)) := by
      unfold cntI
      rw [List.filter_cons]
      by_cases h : P x ys[j] = true
      · rw [if_pos h, if_pos h, List.length_cons, Nat.add_comm]
      · rw [if_neg h, if_neg h, Nat.zero_add]
    rw [hc, ← Nat.add_assoc] at hb hR
    have h1 := ih (j + 1) (acc + (if P x ys[j] = true then 1 else 0)) (by omega) (by omega) hb hR
    have e : wrap64 ((j : Int) + 1) = ((j + 1 : Nat) : Int) := wb (by omega) rfl
    have ha : acc + (if P x ys[j] = true then 1 else 0) < 4000000 := by omega
    obtain ⟨z, hz⟩ : ∃ z, ys[j] = z := ⟨_, rfl⟩
    have hr : rd ys (j : Int) = z := by rw [rd_at hlt, hz]
    rw [hz] at h1 ha
    refine Ev.step (fun k => ?_) h1
    rw [impl_Board_parity.l1, if_pos g, if_pos g0, if_pos g, hr, e]
    by_cases hp : z > 0
    · rw [if_pos hp]
      by_cases hx : x = 0
      · have hP : P x z = true := by unfold P; rw [decide_eq_true hp, decide_eq_true hx]; rfl
        rw [hP, if_pos rfl] at ha
        rw [if_pos hx, bit_eq, Option.bind_some, if_pos rfl, hP, if_pos rfl, wb ha (z := (acc : Int) + 1) rfl]
      · rw [if_neg hx, bit_eq, Option.bind_some]
        by_cases hy : x > z
        · have hP : P x z = true := by unfold P; rw [decide_eq_true hp, decide_eq_true hy, Bool.or_true]; rfl
          rw [hP, if_pos rfl] at ha
          rw [decide_eq_true hy, if_pos rfl, hP, if_pos rfl, wb ha (z := (acc : Int) + 1) rfl]
        · have hP : P x z = false := by unfold P; rw [decide_eq_false hx, decide_eq_false hy]; rw [Bool.or_self, Bool.and_false]
          have h0 : ¬ false = true := by decide
          rw [hP, if_neg h0] at ha
          rw [decide_eq_false hy, if_neg h0, hP, if_neg h0, wb ha (z := (acc : Int) + 0) rfl]
    · have hP : P x z = false := by unfold P; rw [decide_eq_false hp, Bool.false_and]
      have h0 : ¬ false = true := by decide
      rw [hP, if_neg h0] at ha
      rw [if_neg hp, bit_eq, Option.bind_some, if_neg h0, hP, if_neg h0, wb ha (z := (acc : Int) + 0) rfl]
def RI (a h q acc : Int) : Int := Int.tmod (wrap64 ((wrap64 ((wrap64 ((wrap64 ((wrap64 ((wrap64 (acc + a)) - 1)) - (Int.tmod h a))) + q)) - 1)) - (wrap64 (Int.tdiv h a)))) 2
theorem impl_outer (a : Int) (ha : ¬ a = 0) (l : List Int) (hl : l.length ≤ 1000) : ∀ (d i acc : Nat), l.length - i = d → i ≤ l.length → acc + inv (l.drop i) < 1000000 →
    Ev (fun k => impl_Board_parity.l0 k (acc : Int) l (l.length : Int) (i : Int) a l) (RI a (zf l 0) (wrap64 ((l.length : Int) / a)) ((acc + inv (l.drop i) : Nat) : Int)) := by
  intro d
  induction d with
  | zero =>
    intro i acc hd hi hb
    have e : i = l.length := by omega
    subst e
    have g : ¬ ((l.length : Int) < (l.length : Int)) := by omega
    have hh : impl_Board_high.f a l = some (wrap64 ((l.length : Int) / a)) := by rw [impl_Board_high.f, if_neg ha]
    rw [List.drop_length]
    refine Ev.step (f := fun k => (impl_Board_hole.f k a l).bind fun t147 => _) (fun k => by rw [impl_Board_parity.l0, if_neg g]) (Ev.bind (hole_eq a l (by omega)) ⟨0, fun k _ => ?_⟩)
    rw [if_neg ha, hh, Option.bind_some]
    rfl
  | succ d ih =>
    intro i acc hd hi hb
    have hlt : i < l.length := by omega
    have g : (i : Int) < (l.length : Int) := by omega
    have g0 : (0 : Int) ≤ (i : Int) := by omega
    have e : wrap64 ((i : Int) + 1) = ((i + 1 : Nat) : Int) := wb (by omega) rfl
    have g1 : (0 : Int) ≤ ((i + 1 : Nat) : Int) := by omega
    have g2 : ((i + 1 : Nat) : Int) ≤ (l.length : Int) := by omega
    rw [List.drop_eq_getElem_cons hlt, inv, ← Nat.add_assoc] at hb
    rw [List.drop_eq_getElem_cons hlt, inv, ← Nat.add_assoc]
    have h1 := ih (i + 1) (acc + cntI l[i] (l.drop (i + 1))) (by omega) (by omega) hb
    have hy : (l.drop (i + 1)).length ≤ 1000 := by rw [List.length_drop]; omega
    rw [← e] at h1
    have h2 := impl_inner a l[i] (l.length : Int) (i : Int) l (l.drop (i + 1)) hy _ (l.drop (i + 1)).length 0 acc rfl (Nat.zero_le _) (by rw [List.drop_zero]; omega) (by rw [List.drop_zero]; exact h1)
    refine Ev.step (fun k => ?_) h2
    rw [impl_Board_parity.l0, if_pos g, if_pos g0, if_pos g, e, if_pos g1, if_pos g2, rd_at hlt, Option.bind_some, Int.toNat_natCast]
    rfl
def qv (n x : Int) : Int := Int.tmod (wrap64 ((wrap64 (x + n)) - 1)) n
theorem sameQ_all : ((List.range 10).all fun (n : Nat) => (List.range n).all fun (x : Nat) => (List.range n).all fun (c : Nat) => decide (qv (n : Int) (x : Int) > qv (n : Int) (c : Int)) == P (x : Int) (c : Int)) = true := by decide +kernel
theorem sameQ (n : Nat) (hn : n < 10) (x : Nat) (hx : x < n) (c : Nat) (hc : c < n) : decide (qv (n : Int) (x : Int) > qv (n : Int) (c : Int)) = P (x : Int) (c : Int) :=
  eq_of_beq (List.all_eq_true.1 (List.all_eq_true.1 (List.all_eq_true.1 sameQ_all n (List.mem_range.2 hn)) x (List.mem_range.2 hx)) c (List.mem_range.2 hc))
def InR (n : Nat) (x : Int) : Prop := ∃ k : Nat, k < n ∧ x = (k : Int)
theorem spec_inner (a i c : Int) (l ys : List Int) (n : Nat) (hn : n < 10) (hn0 : 0 < n) (hc : InR n c) (hys : ∀ y ∈ ys, InR n y) (hl : ys.length ≤ 1000) (R : Int) : ∀ (d j acc : Nat), ys.length - j = d → j ≤ ys.length → acc + cntS c (ys.drop j) < 1000000 →
    Ev (fun k => spec_blParity.l0 k (n : Int) ((acc + cntS c (ys.drop j) : Nat) : Int) l (l.length : Int) (wrap64 (i + 1)) a l) R → Ev (fun k => spec_blParity.l1 k (n : Int) (acc : Int) c l (l.length : Int) i ys (ys.length : Int) (j : Int) a l) R := by
  intro d
  induction d with
  | zero =>
    intro j acc hd hj hb hR
    have e : j = ys.length := by omega
    subst e
    have g : ¬ ((ys.length : Int) < (ys.length : Int)) := by omega
    rw [List.drop_length] at hR
    exact Ev.step (fun k => by rw [spec_blParity.l1, if_neg g]; rfl) hR
  | succ d ih =>
    intro j acc hd hj hb hR
    have hlt : j < ys.length := by omega
    have g : (j : Int) < (ys.length : Int) := by omega
    have g0 : (0 : Int) ≤ (j : Int) := by omega
    have gn : ¬ (n : Int) = 0 := by omega
    obtain ⟨x, hx1, hx2⟩ := hys _ (List.getElem_mem hlt)
    obtain ⟨c', hc1, hc2⟩ := hc
    have hQ := sameQ n hn x hx1 c' hc1
    rw [← hc2] at hQ
    rw [List.drop_eq_getElem_cons hlt, hx2] at hb hR
    have hcnt : cntS c ((x : Int) :: ys.drop (j + 1)) = (if P (x : Int) c = true then 1 else 0) + cntS c (ys.drop (j + 1)) := by
      unfold cntS
      rw [List.filter_cons]
      by_cases h : P (x : Int) c = true
      · rw [if_pos h, if_pos h, List.length_cons, Nat.add_comm]
      · rw [if_neg h, if_neg h, Nat.zero_add]
    rw [hcnt, ← Nat.add_assoc] at hb hR
    have h1 := ih (j + 1) (acc + (if P (x : Int) c = true then 1 else 0)) (by omega) (by omega) hb hR
    have e : wrap64 ((j : Int) + 1) = ((j + 1 : Nat) : Int) := wb (by omega) rfl
    have ha : acc + (if P (x : Int) c = true then 1 else 0) < 4000000 := by omega
    have hr : rd ys (j : Int) = (x : Int) := by rw [rd_at hlt, hx2]
    refine Ev.step (fun k => ?_) h1
    rw [spec_blParity.l1, if_pos g, if_pos g0, if_pos g, if_neg gn, hr, e]
    by_cases hp : qv (n : Int) (x : Int) > qv (n : Int) c
    · rw [decide_eq_true hp] at hQ
      rw [← hQ, if_pos rfl] at ha
      rw [← hQ, if_pos rfl]
      refine (if_pos hp).trans ?_
      rw [wb ha (z := (acc : Int) + 1) rfl]
    · rw [decide_eq_false hp] at hQ
      have h0 : ¬ false = true := by decide
      rw [← hQ, if_neg h0]
      refine (if_neg hp).trans ?_
      rfl
theorem inv2_le : ∀ (l pre : List Int), inv2 pre l ≤ (pre.length + l.length) * l.length
  | [], _ => Nat.zero_le _
  | c :: t, pre => by
    have h1 := inv2_le t (pre ++ [c])
    have h2 : cntS c pre ≤ pre.length := List.length_filter_le _ _
    rw [List.length_append, List.length_singleton] at h1
    rw [inv2, List.length_cons, Nat.mul_succ]
    have e : pre.length + 1 + t.length = pre.length + (t.length + 1) := by omega
    rw [e] at h1
    omega
theorem spec_outer (a : Int) (l : List Int) (hl : l.length < 10) (hin : ∀ y ∈ l, InR l.length y) : ∀ (d i acc : Nat), l.length - i = d → i ≤ l.length → acc + inv2 (l.take i) (l.drop i) < 1000000 →
    Ev (fun k => spec_blParity.l0 k (l.length : Int) (acc : Int) l (l.length : Int) (i : Int) a l) (Int.tmod ((acc + inv2 (l.take i) (l.drop i) : Nat) : Int) 2) := by
  intro d
  induction d with
  | zero =>
    intro i acc hd hi hb
    have e : i = l.length := by omega
    subst e
    have g : ¬ ((l.length : Int) < (l.length : Int)) := by omega
    rw [List.drop_length]
    exact Ev.step (f := fun _ => some (Int.tmod (acc : Int) 2)) (fun k => by rw [spec_blParity.l0, if_neg g]) (Ev.now _)
  | succ d ih =>
    intro i acc hd hi hb
    have hlt : i < l.length := by omega
    have g : (i : Int) < (l.length : Int) := by omega
    have g0 : (0 : Int) ≤ (i : Int) := by omega
    have g2 : (i : Int) ≤ (l.length : Int) := by omega
    have e : wrap64 ((i : Int) + 1) = ((i + 1 : Nat) : Int) := wb (by omega) rfl
    have ht : l.take (i + 1) = l.take i ++ [l[i]] := List.take_succ_eq_append_getElem hlt
    rw [List.drop_eq_getElem_cons hlt, inv2, ← Nat.add_assoc, ← ht] at hb
    rw [List.drop_eq_getElem_cons hlt, inv2, ← Nat.add_assoc, ← ht]
    have h1 := ih (i + 1) (acc + cntS l[i] (l.take i)) (by omega) (by omega) hb
    rw [← e] at h1
    have hy : (l.take i).length ≤ 1000 := by rw [List.length_take]; omega
    have h2 := spec_inner a (i : Int) l[i] l (l.take i) l.length hl (by omega) (hin _ (List.getElem_mem hlt)) (fun y hy => hin y (List.mem_of_mem_take hy)) hy _ (l.take i).length 0 acc rfl (Nat.zero_le _) (by rw [List.drop_zero]; omega) (by rw [List.drop_zero]; exact h1)
    refine Ev.step (fun k => ?_) h2
    rw [spec_blParity.l0, if_pos g, if_pos g0, if_pos g, if_pos g2, rd_at hlt, Option.bind_some, Int.toNat_natCast]
    rfl
def XX (w i c : Int) : Int := wrap64 ((Int.tmod i w) - (Int.tmod (wrap64 (c - 1)) w))
def YY (w i c : Int) : Int := wrap64 ((wrap64 (Int.tdiv i w)) - (wrap64 (Int.tdiv (wrap64 (c - 1)) w)))
def stepsV (w i c : Int) : Int := wrap64 ((mx (XX w i c) (wrap64 (-(XX w i c)))) + (mx (YY w i c) (wrap64 (-(YY w i c)))))
theorem l1Abs_eq (z : Int) : spec_l1Abs.f z = some (mx z (wrap64 (-z))) := by
  rw [spec_l1Abs.f, spec_l1Most.f]
  obtain ⟨y, hy⟩ : ∃ y, wrap64 (-z) = y := ⟨_, rfl⟩
  rw [hy]
  unfold mx
  by_cases h1 : z > y
  · rw [if_pos h1, Option.bind_some, if_neg (by omega)]
  · by_cases h2 : z < y
    · rw [if_neg h1, Option.bind_some, if_pos h2]
    · have e : z = y := by omega
      rw [if_neg h1, Option.bind_some, if_neg h2, e]
theorem steps_eq (w i c : Int) (l : List Int) (hw : ¬ w = 0) : spec_blSteps.f w l i (wrap64 (c - 1)) = some (stepsV w i c) := by
  rw [spec_blSteps.f, if_neg hw, l1Abs_eq, Option.bind_some, l1Abs_eq, Option.bind_some]
  rfl
theorem last_all : ((List.range 4).all fun (W : Nat) => (List.range 4).all fun (H : Nat) => (List.range (W * H)).all fun (i : Nat) => (decide (0 ≤ stepsV (W : Int) (i : Int) ((W * H : Nat) : Int)) && decide (stepsV (W : Int) (i : Int) ((W * H : Nat) : Int) < 10)) && (List.range 100).all fun (T : Nat) => Int.tmod (stepsV (W : Int) (i : Int) ((W * H : Nat) : Int) + (T : Int)) 2 == RI (W : Int) (i : Int) (wrap64 (((W * H : Nat) : Int) / (W : Int))) (T : Int)) = true := by decide +kernel
theorem last_same (W : Nat) (hW : W < 4) (H : Nat) (hH : H < 4) (i : Nat) (hi : i < W * H) : ∃ s : Nat, stepsV (W : Int) (i : Int) ((W * H : Nat) : Int) = (s : Int) ∧ s < 10 ∧ ∀ T : Nat, T < 100 → Int.tmod ((s + T : Nat) : Int) 2 = RI (W : Int) (i : Int) (wrap64 (((W * H : Nat) : Int) / (W : Int))) (T : Int) := by
  have h := List.all_eq_true.1 (List.all_eq_true.1 (List.all_eq_true.1 last_all W (List.mem_range.2 hW)) H (List.mem_range.2 hH)) i (List.mem_range.2 hi)
  rw [Bool.and_eq_true, Bool.and_eq_true, decide_eq_true_eq, decide_eq_true_eq] at h
  obtain ⟨⟨h0, h1⟩, h2⟩ := h
  obtain ⟨s, hs⟩ := Int.eq_ofNat_of_zero_le h0
  refine ⟨s, hs, by omega, fun T hT => ?_⟩
  have h3 := eq_of_beq (List.all_eq_true.1 h2 T (List.mem_range.2 hT))
  rw [hs] at h3
  exact h3
theorem parity_same {a : Int} {l : List Int} (hb : isB a l = true) (hl : l.length ≤ 1048576) : ∃ r : Int, Ev (fun k => spec_blParity.f k a l) r ∧ Ev (fun k => impl_Board_parity.f k a l) r := by
  obtain ⟨W, H, i, h1, h2, h3, h4, h5, h6, h7, h8⟩ := hole_at hb
  obtain ⟨_, _, _, _, _, _, _, _, hall⟩ := isB_facts hb
  have ha : ¬ a = 0 := by omega
  have hsz : W * H < 10 := by
    have hW : W = 1 ∨ W = 2 ∨ W = 3 := by omega
    rcases hW with rfl | rfl | rfl <;> omega
  have hn : l.length < 10 := by omega
  have hin : ∀ y ∈ l, InR l.length y := by
    intro y hy
    have hR : ((List.range l.length).map fun (i : Nat) => (i : Int)).Perm l := by
      refine perm_of_subset _ _ (rangeI_nodup _) (fun x hx => ?_) (by simp)
      obtain ⟨k, hk, rfl⟩ := List.mem_map.1 hx
      exact hall k (List.mem_range.1 hk)
    obtain ⟨k, hk, rfl⟩ := List.mem_map.1 (hR.symm.subset hy)
    exact ⟨k, List.mem_range.1 hk, rfl⟩
  have hT : inv l < 100 := by
    have := inv_le l 9 (by omega)
    omega
  obtain ⟨s, hs, hs10, hlast⟩ := last_same W h4 H h6 i h7
  have e2 : inv2 [] l = inv l := by rw [inv2_eq, sumS_nil, Nat.add_zero]
  refine ⟨Int.tmod ((s + inv l : Nat) : Int) 2, ?_, ?_⟩
  · have S := spec_outer a l hn hin l.length 0 s rfl (Nat.zero_le _) (by rw [List.take_zero, List.drop_zero, e2]; omega)
    rw [List.take_zero, List.drop_zero, e2] at S
    have hst : spec_blSteps.f a l (zf l 0) (wrap64 ((l.length : Int) - 1)) = some (s : Int) := by
      rw [steps_eq a (zf l 0) (l.length : Int) l ha, h8, h1, h2, hs]
    refine Ev.congr (fun k => rfl) (Ev.bind (blHole_eq a l hl) (Ev.congr (fun k => ?_) S))
    rw [hst, Option.bind_some]
    rfl
  · have I := impl_outer a ha l (by omega) l.length 0 0 rfl (Nat.zero_le _) (by rw [List.drop_zero]; omega)
    rw [List.drop_zero, Nat.zero_add, h8, h1, h2, ← hlast (inv l) hT] at I
    refine Ev.congr (fun k => ?_) I
    rw [h1]
    unfold impl_Board_parity.f
    rw [h2]
    rfl

def lineOk (W n : Nat) (x0 x1 x2 : Nat) : Bool := match spec_blCan.f 20 (W : Int) ([(x0 : Int), (x1 : Int), (x2 : Int)].take n), impl_Board_canSolve.f 20 (W : Int) ([(x0 : Int), (x1 : Int), (x2 : Int)].take n) with
  | some x, some y => x == y
  | _, _ => false
theorem line_all : ((List.range 4).all fun W => (List.range 4).all fun H => (List.range 3).all fun x0 => (List.range 3).all fun x1 => (List.range 3).all fun x2 => !(decide ((W = 1 ∧ 0 < H) ∨ (H = 1 ∧ 0 < W))) || lineOk W (W * H) x0 x1 x2) = true := by decide +kernel
theorem line_same (W H : Nat) (l : List Int) (hW : W < 4) (hH : H < 4) (hwh : (W = 1 ∧ 0 < H) ∨ (H = 1 ∧ 0 < W)) (hl : l.length = W * H) (hin : ∀ y ∈ l, InR l.length y) :
    ∃ r : Bool, spec_blCan.f 20 (W : Int) l = some r ∧ impl_Board_canSolve.f 20 (W : Int) l = some r := by
  have hn : l.length ≤ 3 ∧ 0 < l.length := by
    rw [hl]
    rcases hwh with ⟨rfl, h⟩ | ⟨rfl, h⟩ <;> omega
  obtain ⟨x0, x1, x2, b0, b1, b2, e⟩ : ∃ x0 x1 x2 : Nat, x0 < 3 ∧ x1 < 3 ∧ x2 < 3 ∧ l = [(x0 : Int), (x1 : Int), (x2 : Int)].take (W * H) := by
    rw [← hl]
    have hx : ∀ y ∈ l, ∃ k : Nat, k < 3 ∧ y = (k : Int) := fun y hy => by
      obtain ⟨k, hk, e⟩ := hin y hy
      exact ⟨k, by omega, e⟩
    match l, hn, hx with
    | [a], _, hx =>
      obtain ⟨x0, b0, rfl⟩ := hx a (by simp)
      exact ⟨x0, 0, 0, b0, by omega, by omega, rfl⟩
    | [a, b], _, hx =>
      obtain ⟨x0, b0, rfl⟩ := hx a (by simp)
      obtain ⟨x1, b1, rfl⟩ := hx b (by simp)
      exact ⟨x0, x1, 0, b0, b1, by omega, rfl⟩
    | [a, b, c], _, hx =>
      obtain ⟨x0, b0, rfl⟩ := hx a (by simp)
      obtain ⟨x1, b1, rfl⟩ := hx b (by simp)
      obtain ⟨x2, b2, rfl⟩ := hx c (by simp)
      exact ⟨x0, x1, x2, b0, b1, b2, rfl⟩
    | [], h, _ => exact absurd h.2 (by simp)
    | _ :: _ :: _ :: _ :: _, h, _ => exact absurd h.1 (by simp)
  have X := List.all_eq_true.1 (List.all_eq_true.1 (List.all_eq_true.1 (List.all_eq_true.1 (List.all_eq_true.1 line_all W (List.mem_range.2 hW)) H (List.mem_range.2 hH)) x0 (List.mem_range.2 b0)) x1 (List.mem_range.2 b1)) x2 (List.mem_range.2 b2)
  rw [decide_eq_true hwh, Bool.not_true, Bool.false_or] at X
  unfold lineOk at X
  rw [← e] at X
  cases hs : spec_blCan.f 20 (W : Int) l with
  | none => rw [hs] at X; cases X
  | some r =>
    rw [hs] at X
    cases hi : impl_Board_canSolve.f 20 (W : Int) l with
    | none => rw [hi] at X; cases X
    | some q =>
      rw [hi] at X
      have : r = q := by simpa using X
      exact ⟨r, rfl, by rw [this]⟩
theorem can_same {a : Int} {l : List Int} (hb : isB a l = true) (hl : l.length ≤ 1048576) : ∃ r : Bool, Ev (fun k => spec_blCan.f k a l) r ∧ Ev (fun k => impl_Board_canSolve.f k a l) r := by
  obtain ⟨W, H, h1, h2, h3, h4, h5, h6, hall⟩ := isB_facts hb
  have hin : ∀ y ∈ l, InR l.length y := by
    intro y hy
    have hR : ((List.range l.length).map fun (i : Nat) => (i : Int)).Perm l := by
      refine perm_of_subset _ _ (rangeI_nodup _) (fun x hx => ?_) (by simp)
      obtain ⟨k, hk, rfl⟩ := List.mem_map.1 hx
      exact hall k (List.mem_range.1 hk)
    obtain ⟨k, hk, rfl⟩ := List.mem_map.1 (hR.symm.subset hy)
    exact ⟨k, List.mem_range.1 hk, rfl⟩
  by_cases hwh : (W = 1 ∧ 0 < H) ∨ (H = 1 ∧ 0 < W)
  · obtain ⟨r, e1, e2⟩ := line_same W H l h4 h6 hwh h2 hin
    rw [h1]
    exact ⟨r, Ev.of (spec_blCan.mono _ _) e1, Ev.of (impl_Board_canSolve.mono _ _) e2⟩
  · obtain ⟨p, S, I⟩ := parity_same hb hl
    have w2 : 1 < W := by omega
    have h2' : 1 < H := by omega
    have ha : ¬ a = 0 := by omega
    have ga : a > 1 := by omega
    have hsz : W * H < 10 := by
      have hW : W = 1 ∨ W = 2 ∨ W = 3 := by omega
      rcases hW with rfl | rfl | rfl <;> omega
    have hpos : 0 < W * H := Nat.mul_pos h3 h5
    have hq : wrap64 ((l.length : Int) / a) = (H : Int) := by
      have e : (l.length : Int) / a = (H : Int) := by
        rw [h1, h2, Int.natCast_mul]
        exact Int.mul_ediv_cancel_left _ (by omega)
      rw [e]
      exact wrB (by omega) (by omega)
    have gh : (H : Int) > 1 := by omega
    have hH : impl_Board_high.f a l = some (H : Int) := by rw [impl_Board_high.f, if_neg ha, hq]
    refine ⟨decide (p = 0), ?_, ?_⟩
    · refine Ev.congr (g := _) (r := _) (fun k => by rw [spec_blCan.f, if_neg ha, if_pos ga, hq, decide_eq_true gh]) (Ev.step (f := fun k => (spec_blParity.f k a l).bind fun t124 => (some (t124 == 0))) (fun k => by rw [spec_blCan.j0, if_pos rfl]) (Ev.bind S ⟨0, fun k _ => rfl⟩))
    · refine Ev.congr (f := fun k => (impl_Board_parity.f k a l).bind fun p => some (decide (p = 0))) (g := _) (r := _) (fun k => ?_) (Ev.bind I (Ev.now _))
      rw [impl_Board_canSolve.f, if_pos ⟨by omega, by omega⟩, if_pos (by omega), hH, Option.bind_some, if_pos ⟨by omega, by omega⟩]
      cases impl_Board_parity.f k a l with
      | none => rfl
      | some q =>
        rw [Option.bind_some, Option.bind_some, if_pos ⟨by omega, by omega⟩, Option.bind_some, if_pos (by omega), if_pos (by omega)]
theorem alike (a : Int) (l : List Int) (hl : l.length ≤ 1048576) : ∃ r : Bool × Bool, Ev (fun k => spec_CanSolve.f k a l) r ∧ Ev (fun k => impl_CanSolve.f k a l) r := by
  have hI : impl_IsBoard.f a l = some (isB a l) := isBoard_eq a l (by omega)
  have hG := blGood_eq a l hl
  cases hb : isB a l with
  | true =>
    rw [hb] at hI hG
    obtain ⟨r, hS, hP⟩ := can_same hb hl
    refine ⟨(r, true), Ev.congr (fun k => rfl) (Ev.bind hG ?_), ?_⟩
    · exact Ev.congr (g := _) (r := (r, true)) (fun k => if_pos rfl) (Ev.bind hS (Ev.now _))
    · refine Ev.congr (f := fun k => (impl_Board_canSolve.f k a l).bind fun t160 => (some (t160, true))) (g := _) (r := (r, true)) (fun k => by rw [impl_CanSolve.f, hI, Option.bind_some, if_pos rfl]) (Ev.bind hP (Ev.now _))
  | false =>
    rw [hb] at hI hG
    refine ⟨(false, false), Ev.congr (fun k => rfl) (Ev.bind hG ⟨0, fun k _ => rfl⟩), ⟨0, fun k _ => ?_⟩⟩
    show impl_CanSolve.f k a l = _
    rw [impl_CanSolve.f, hI, Option.bind_some]
    rfl

theorem tail (a : Int) (l : List Int) (hl : l.length ≤ 1048576) (b : Bool) : Ev (fun k => laws_FnExactCanSolve.j0 k (b != b) a l a l) true := by
  have hb : (b != b) = false := by cases b <;> rfl
  rw [hb]
  refine Ev.step (f := fun k => (laws_toBoard.f k a l).bind fun bt170 => ((laws_eqBoard.f k a l bt170.1 bt170.2).bind fun t174 => (if t174 = true then (some true) else (some false)))) (fun k => by rw [laws_FnExactCanSolve.j0, if_neg (by decide)]) (Ev.bind (toBoard_eq a l hl) (Ev.bind (eqBoard_same a l hl) (Ev.now _)))
theorem FnExactCanSolve : ∀ (a : Int) (l : List Int), (Lit.int .i64 a).wf = true → l.length ≤ maxLen → (∀ x ∈ l, (Lit.int .i64 x).wf = true) → ∃ k, laws_FnExactCanSolve.f k a l = some true := by
  intro a l _ hm _
  by_cases hl : l.length ≤ 1048576
  · have g : ¬ ((1048576 : Int) - (l.length : Int)) < 0 := by omega
    refine Ev.rounds (Ev.congr (fun k => by rw [laws_FnExactCanSolve.f, szBoard_small a l hl, Option.bind_some, if_neg g]) ?_)
    have tb := toBoard_eq a l hl
    obtain ⟨r, hS, hI⟩ := alike a l hl
    refine Ev.bind tb (Ev.bind hS (Ev.bind tb (Ev.bind hI ?_)))
    refine Ev.congr (g := _) (r := true) (fun k => if_neg (by cases r.1 <;> decide)) (tail a l hl r.2)
  · exact ⟨0, by rw [laws_FnExactCanSolve.f, szBoard_great a l hl hm]; rfl⟩
end Go.Proofs.Ytcblfoaomlokoaa.Pure
