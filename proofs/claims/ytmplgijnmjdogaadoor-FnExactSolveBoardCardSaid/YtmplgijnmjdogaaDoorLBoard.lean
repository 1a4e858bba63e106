/- Boards: what the laws' own looks (szBoard, toBoard, eqBoard), the reference's blGood and the program's IsBoard say of a width and a list of cells. -/
import Derived.Test.YtmplgijnmjdogaaDoorWWords
import Derived.Test.YtmplgijnmjdogaaDoorVBoard
import Derived.Test.YtmplgijnmjdogaaDoorQx1
import Derived.Test.YtmplgijnmjdogaaDoorQx11
import Derived.Test.YtmplgijnmjdogaaDoorQx17
import Derived.Test.YtmplgijnmjdogaaDoorQx2
set_option linter.unusedVariables false
set_option linter.unusedSimpArgs false
namespace Go.Proofs.YtmplgijnmjdogaaDoorL
open Go.RowKit Go.Proofs.YtmplgijnmjdogaaDoor.Q Go.Proofs.YtmplgijnmjdogaaDoorW.PrintWords Go.Proofs.YtmplgijnmjdogaaDoorW.PrintLast Go.Proofs.YtmplgijnmjdogaaDoorV

theorem wrB {n : Int} (h0 : -9223372036854775808 ≤ n) (h1 : n ≤ 9223372036854775807) : wrap64 n = n := by
  unfold wrap64
  omega
theorem wb {n : Nat} {z : Int} (h : n < 4000000) (hz : z = (n : Int)) : wrap64 z = (n : Int) := by
  rw [hz]
  exact wrB (by omega) (by omega)
theorem wi {z y : Int} (h0 : -4000000 ≤ y) (h1 : y ≤ 4000000) (hz : z = y) : wrap64 z = y := by
  rw [hz]
  exact wrB (by omega) (by omega)
theorem rd_at {l : List Int} {i : Nat} (h : i < l.length) : rd l (i : Int) = l[i] := by
  unfold rd
  rw [Int.toNat_natCast, List.getD_eq_getElem?_getD, List.getElem?_eq_getElem h]
  rfl
/-! ### the laws' own looks -/
theorem szBoard_small (a : Int) (l : List Int) (h : l.length ≤ 1048576) : laws_szBoard.f a l 1048576 = some ((1048576 : Int) - (l.length : Int)) := by
  have e : wrap64 ((1048576 : Int) - (l.length : Int)) = (1048576 : Int) - (l.length : Int) := wrB (by omega) (by omega)
  have g : ¬ ((1048576 : Int) - (l.length : Int)) < 0 := by omega
  rw [laws_szBoard.f, laws_szIntS.f, e, if_neg g, Option.bind_some, if_neg g]
theorem szBoard_great (a : Int) (l : List Int) (h : ¬ l.length ≤ 1048576) (hm : l.length ≤ maxLen) : laws_szBoard.f a l 1048576 = some (-1) := by
  have hm' : l.length ≤ 9223372036854775807 := hm
  have e : wrap64 ((1048576 : Int) - (l.length : Int)) = (1048576 : Int) - (l.length : Int) := wrB (by omega) (by omega)
  have g : ((1048576 : Int) - (l.length : Int)) < 0 := by omega
  rw [laws_szBoard.f, laws_szIntS.f, e, if_pos g, Option.bind_some]
  rfl
theorem toInts_l0 (l : List Int) (h : l.length ≤ 1048576) : ∀ (d i : Nat), l.length - i = d → i ≤ l.length →
    Ev (fun k => laws_toIntS.l0 k l (l.take i ++ List.replicate (l.length - i) 0) (i : Int)) l := by
  intro d
  induction d with
  | zero =>
    intro i hd hi
    have e : i = l.length := by omega
    subst e
    have g : ¬ ((l.length : Int) < (l.length : Int)) := by omega
    have e2 : l.take l.length ++ List.replicate (l.length - l.length) 0 = l := by simp
    rw [e2]
    exact Ev.step (f := fun _ => some l) (fun k => by rw [laws_toIntS.l0, if_neg g]) (Ev.now _)
  | succ d ih =>
    intro i hd hi
    have hlt : i < l.length := by omega
    have h1 := ih (i + 1) (by omega) (by omega)
    have g : (i : Int) < (l.length : Int) := by omega
    have g0 : (0 : Int) ≤ (i : Int) := by omega
    have g1 : (i : Int) < ((l.take i ++ List.replicate (l.length - i) 0).length : Int) := by simp; omega
    have b : i + 1 < 4000000 := by omega
    have hset : (l.take i ++ List.replicate (l.length - i) 0).set (i : Int).toNat l[i] = l.take (i + 1) ++ List.replicate (l.length - (i + 1)) 0 := by
      have e : l.length - i = (l.length - (i + 1)) + 1 := by omega
      rw [Int.toNat_natCast, List.set_append_right _ _ (by rw [List.length_take]; omega), List.length_take, Nat.min_eq_left (by omega), Nat.sub_self, e, List.replicate_succ, List.set_cons_zero, List.take_succ_eq_append_getElem hlt, List.append_assoc]
      rfl
    have e : wrap64 ((i : Int) + 1) = ((i + 1 : Nat) : Int) := wb b rfl
    exact Ev.step (fun k => by rw [laws_toIntS.l0, if_pos g, if_pos g0, if_pos g1, rd_at hlt, hset, e]) h1
theorem toBoard_eq (a : Int) (l : List Int) (h : l.length ≤ 1048576) : Ev (fun k => laws_toBoard.f k a l) (a, l) := by
  have h1 := toInts_l0 l h l.length 0 rfl (Nat.zero_le _)
  rw [List.take_zero, List.nil_append, Nat.sub_zero] at h1
  have g0 : (0 : Int) ≤ (l.length : Int) := by omega
  have g1 : ((l.length : Int) : Int).toNat ≤ 35184372088832 := by rw [Int.toNat_natCast]; omega
  have h2 : Ev (fun k => laws_toIntS.f k l) l := Ev.congr (g := _) (r := _) (fun k => by rw [laws_toIntS.f, if_pos g0, if_pos g1, Int.toNat_natCast]; rfl) h1
  exact Ev.congr (g := _) (r := _) (fun k => rfl) (Ev.bind h2 (Ev.now _))
theorem eqInts_same (l : List Int) (hl : l.length ≤ 1048576) : Ev (fun k => laws_eqIntS.f k l l) true := by
  have key : ∀ (d i : Nat), l.length - i = d → i ≤ l.length → Ev (fun k => laws_eqIntS.l0 k l l (i : Int)) true := by
    intro d
    induction d with
    | zero =>
      intro i hd hi
      have g : ¬ ((i : Int) < (l.length : Int)) := by omega
      exact Ev.step (f := fun _ => some true) (fun k => by rw [laws_eqIntS.l0, if_neg g]) (Ev.now _)
    | succ d ih =>
      intro i hd hi
      have h1 := ih (i + 1) (by omega) (by omega)
      have g : (i : Int) < (l.length : Int) := by omega
      have g0 : (0 : Int) ≤ (i : Int) := by omega
      have b : i + 1 < 4000000 := by omega
      have e : wrap64 ((i : Int) + 1) = ((i + 1 : Nat) : Int) := wb b rfl
      exact Ev.step (fun k => by rw [laws_eqIntS.l0, if_pos g, if_pos g0, if_pos g, if_pos rfl, e]) h1
  refine Ev.congr (g := _) (r := true) (fun k => ?_) (key l.length 0 rfl (Nat.zero_le _))
  show laws_eqIntS.f k l l = _
  rw [laws_eqIntS.f, if_pos rfl]
  rfl
theorem eqBoard_same (a : Int) (l : List Int) (hl : l.length ≤ 1048576) : Ev (fun k => laws_eqBoard.f k a l a l) true := by
  refine Ev.congr (f := fun k => (laws_eqIntS.f k l l).bind fun t127 => (if t127 = true then (some true) else (some false))) (g := _) (r := true) (fun k => by rw [laws_eqBoard.f, if_pos rfl]) (Ev.bind (eqInts_same l hl) (Ev.now _))
/-! ### boards -/
def allIn (l : List Int) : Bool := (List.range l.length).all fun k => l.contains (k : Int)
def isB (w : Int) (l : List Int) : Bool := (decide (1 ≤ w) && decide (w ≤ 3)) && ((decide (1 ≤ (l.length : Int)) && decide ((l.length : Int) ≤ 3 * w)) && (decide ((l.length : Int) % w = 0) && allIn l))
theorem l1Has_eq (l : List Int) (x : Int) (hl : l.length ≤ 1048576) : Ev (fun k => spec_l1Has.f k l x) (l.contains x) := by
  have key : ∀ (d i : Nat), l.length - i = d → i ≤ l.length → Ev (fun k => spec_l1Has.l0 k x l (l.length : Int) (i : Int)) ((l.drop i).contains x) := by
    intro d
    induction d with
    | zero =>
      intro i hd hi
      have g : ¬ ((i : Int) < (l.length : Int)) := by omega
      have e : i = l.length := by omega
      subst e
      rw [List.drop_length]
      exact Ev.step (f := fun _ => some false) (fun k => by rw [spec_l1Has.l0, if_neg g]) (Ev.now _)
    | succ d ih =>
      intro i hd hi
      have hlt : i < l.length := by omega
      have h1 := ih (i + 1) (by omega) (by omega)
      have g : (i : Int) < (l.length : Int) := by omega
      have g0 : (0 : Int) ≤ (i : Int) := by omega
      have b : i + 1 < 4000000 := by omega
      have e : wrap64 ((i : Int) + 1) = ((i + 1 : Nat) : Int) := wb b rfl
      rw [List.drop_eq_getElem_cons hlt, List.contains_cons]
      by_cases hx : l[i] = x
      · have hb : (x == l[i]) = true := by rw [hx]; exact beq_self_eq_true x
        rw [hb, Bool.true_or]
        exact Ev.step (f := fun _ => some true) (fun k => by rw [spec_l1Has.l0, if_pos g, if_pos g0, if_pos g, rd_at hlt, if_pos hx]) (Ev.now _)
      · have hb : (x == l[i]) = false := beq_eq_false_iff_ne.2 fun h => hx h.symm
        rw [hb, Bool.false_or]
        exact Ev.step (fun k => by rw [spec_l1Has.l0, if_pos g, if_pos g0, if_pos g, rd_at hlt, if_neg hx, e]) h1
  have := key l.length 0 rfl (Nat.zero_le _)
  rw [List.drop_zero] at this
  exact this
theorem blGood_l0 (w : Int) (l : List Int) (hl : l.length ≤ 1048576) : ∀ (d i : Nat), l.length - i = d → i ≤ l.length →
    Ev (fun k => spec_blGood.l0 k (l.length : Int) (i : Int) w l) ((List.range' i (l.length - i)).all fun k => l.contains (k : Int)) := by
  intro d
  induction d with
  | zero =>
    intro i hd hi
    have e : i = l.length := by omega
    subst e
    have g : ¬ ((l.length : Int) < (l.length : Int)) := by omega
    rw [Nat.sub_self]
    exact Ev.step (f := fun _ => some true) (fun k => by rw [spec_blGood.l0, if_neg g]) (Ev.now _)
  | succ d ih =>
    intro i hd hi
    have hlt : i < l.length := by omega
    have h1 := ih (i + 1) (by omega) (by omega)
    have g : (i : Int) < (l.length : Int) := by omega
    have b : i + 1 < 4000000 := by omega
    have e : wrap64 ((i : Int) + 1) = ((i + 1 : Nat) : Int) := wb b rfl
    have e2 : l.length - i = (l.length - (i + 1)) + 1 := by omega
    rw [e2, List.range'_succ, List.all_cons]
    refine Ev.step (f := fun k => (spec_l1Has.f k l (i : Int)).bind fun t107 => (if t107 = true then (spec_blGood.l0 k (l.length : Int) ((i + 1 : Nat) : Int) w l) else (some false))) (fun k => by rw [spec_blGood.l0, if_pos g, e]) (Ev.bind (l1Has_eq l (i : Int) hl) ?_)
    cases hc : l.contains (i : Int) with
    | true =>
      rw [Bool.true_and]
      exact Ev.congr (g := _) (r := _) (fun k => if_pos rfl) h1
    | false =>
      rw [Bool.false_and]
      exact ⟨0, fun k _ => rfl⟩
theorem blGood_eq (w : Int) (l : List Int) (hl : l.length ≤ 1048576) : Ev (fun k => spec_blGood.f k w l) (isB w l) := by
  have J1 : Ev (fun k => spec_blGood.j0 k (l.length : Int) true w l) false := Ev.step (f := fun _ => some false) (fun k => by rw [spec_blGood.j0, if_pos rfl]) (Ev.now _)
  unfold isB
  by_cases c1 : 1 ≤ w
  · by_cases c2 : w ≤ 3
    · have e1 : spec_l1In.f w 1 3 = some true := by rw [spec_l1In.f, if_pos c1, decide_eq_true c2]
      have e3 : wrap64 (3 * w) = 3 * w := wrB (by omega) (by omega)
      rw [decide_eq_true c1, decide_eq_true c2, Bool.true_and, Bool.true_and]
      by_cases c3 : 1 ≤ (l.length : Int)
      · by_cases c4 : (l.length : Int) ≤ 3 * w
        · have e2 : spec_l1In.f (l.length : Int) 1 (3 * w) = some true := by rw [spec_l1In.f, if_pos c3, decide_eq_true c4]
          have hw0 : ¬ w = 0 := by omega
          rw [decide_eq_true c3, decide_eq_true c4, Bool.true_and, Bool.true_and]
          by_cases c5 : (l.length : Int) % w = 0
          · have hb : ((l.length : Int) % w != 0) = false := by rw [c5]; rfl
            rw [decide_eq_true c5, Bool.true_and]
            have h0 := blGood_l0 w l hl l.length 0 rfl (Nat.zero_le _)
            have e0 : (List.range' 0 (l.length - 0)) = List.range l.length := by rw [Nat.sub_zero, List.range_eq_range']
            rw [e0] at h0
            refine Ev.congr (f := fun k => spec_blGood.j0 k (l.length : Int) false w l) (g := _) (r := _) (fun k => by rw [spec_blGood.f, e1, Option.bind_some, if_pos rfl, e3, e2, Option.bind_some, if_pos rfl, if_neg hw0, hb]) ?_
            exact Ev.step (fun k => by rw [spec_blGood.j0, if_neg (by decide)]; rfl) h0
          · have hb : ((l.length : Int) % w != 0) = true := by rw [bne_iff_ne]; exact c5
            rw [decide_eq_false c5, Bool.false_and]
            exact Ev.congr (g := _) (r := _) (fun k => by rw [spec_blGood.f, e1, Option.bind_some, if_pos rfl, e3, e2, Option.bind_some, if_pos rfl, if_neg hw0, hb]) J1
        · have e2 : spec_l1In.f (l.length : Int) 1 (3 * w) = some false := by rw [spec_l1In.f, if_pos c3, decide_eq_false c4]
          rw [decide_eq_false c4, Bool.and_false, Bool.false_and]
          exact Ev.congr (g := _) (r := _) (fun k => by rw [spec_blGood.f, e1, Option.bind_some, if_pos rfl, e3, e2, Option.bind_some, if_neg (by decide)]) J1
      · have e2 : spec_l1In.f (l.length : Int) 1 (3 * w) = some false := by rw [spec_l1In.f, if_neg c3]
        rw [decide_eq_false c3, Bool.false_and, Bool.false_and]
        exact Ev.congr (g := _) (r := _) (fun k => by rw [spec_blGood.f, e1, Option.bind_some, if_pos rfl, e3, e2, Option.bind_some, if_neg (by decide)]) J1
    · have e1 : spec_l1In.f w 1 3 = some false := by rw [spec_l1In.f, if_pos c1, decide_eq_false c2]
      rw [decide_eq_false c2, Bool.and_false, Bool.false_and]
      exact Ev.congr (g := _) (r := _) (fun k => by rw [spec_blGood.f, e1, Option.bind_some, if_neg (by decide)]) J1
  · have e1 : spec_l1In.f w 1 3 = some false := by rw [spec_l1In.f, if_neg c1]
    rw [decide_eq_false c1, Bool.false_and, Bool.false_and]
    exact Ev.congr (g := _) (r := _) (fun k => by rw [spec_blGood.f, e1, Option.bind_some, if_neg (by decide)]) J1
/-! ### sorted lists -/
theorem perm_of_subset : ∀ (R l : List Int), R.Nodup → (∀ x ∈ R, x ∈ l) → R.length = l.length → R.Perm l
  | [], l, _, _, hlen => by
    have : l = [] := List.eq_nil_of_length_eq_zero hlen.symm
    rw [this]
  | a :: R, l, hn, hs, hlen => by
    have ha : a ∈ l := hs a (List.mem_cons_self ..)
    have hp := List.perm_cons_erase ha
    rw [List.nodup_cons] at hn
    have h1 : R.Perm (l.erase a) := by
      refine perm_of_subset R (l.erase a) hn.2 (fun x hx => ?_) ?_
      · have hxa : x ≠ a := fun e => hn.1 (e ▸ hx)
        exact (List.mem_erase_of_ne hxa).2 (hs x (List.mem_cons_of_mem _ hx))
      · rw [List.length_erase_of_mem ha]
        rw [List.length_cons] at hlen
        omega
    exact (List.Perm.cons a h1).trans hp.symm
theorem sorted_unique : ∀ (l1 l2 : List Int), l1.Pairwise (· ≤ ·) → l2.Pairwise (· ≤ ·) → l1.Perm l2 → l1 = l2
  | [], l2, _, _, hp => by rw [List.nil_perm.1 hp]
  | a :: t, [], _, _, hp => absurd (List.perm_nil.1 hp) (by simp)
  | a :: t, b :: s, h1, h2, hp => by
    rw [List.pairwise_cons] at h1 h2
    have hab : a = b := by
      have ha : a ∈ b :: s := hp.subset (List.mem_cons_self ..)
      have hb : b ∈ a :: t := hp.symm.subset (List.mem_cons_self ..)
      rcases List.mem_cons.1 ha with e | ha
      · exact e
      · rcases List.mem_cons.1 hb with e | hb
        · exact e.symm
        · have := h1.1 b hb
          have := h2.1 a ha
          omega
    subst hab
    rw [sorted_unique t s h1.2 h2.2 (List.Perm.cons_inv hp)]
theorem rangeI_pairwise (n : Nat) : ((List.range n).map fun (i : Nat) => (i : Int)).Pairwise (· ≤ ·) := by
  rw [List.pairwise_map]
  refine List.Pairwise.imp ?_ (List.pairwise_lt_range (n := n))
  intro a b h
  omega
theorem rangeI_nodup (n : Nat) : ((List.range n).map fun (i : Nat) => (i : Int)).Nodup := by
  unfold List.Nodup
  rw [List.pairwise_map]
  refine List.Pairwise.imp ?_ (List.pairwise_lt_range (n := n))
  intro a b h
  omega
theorem sortI_iff (l : List Int) : (sortI l = (List.range l.length).map fun (i : Nat) => (i : Int)) ↔ allIn l = true := by
  unfold allIn
  rw [List.all_eq_true]
  have hp : (sortI l).Perm l := List.mergeSort_perm l _
  constructor
  · intro h k hk
    rw [List.contains_iff_mem]
    have : (k : Int) ∈ sortI l := by rw [h]; exact List.mem_map.2 ⟨k, hk, rfl⟩
    exact hp.subset this
  · intro h
    have hR : ((List.range l.length).map fun (i : Nat) => (i : Int)).Perm l := by
      refine perm_of_subset _ _ (rangeI_nodup _) (fun x hx => ?_) (by simp)
      obtain ⟨k, hk, rfl⟩ := List.mem_map.1 hx
      exact List.contains_iff_mem.1 (h k hk)
    have hs : (sortI l).Pairwise (· ≤ ·) := by
      have := List.pairwise_mergeSort (le := fun (x y : Int) => decide (x ≤ y)) (fun a b c hab hbc => by simp only [decide_eq_true_eq] at *; omega) (fun a b => by simp only [Bool.or_eq_true, decide_eq_true_eq]; omega) l
      exact this.imp fun h => by simpa using h
    exact sorted_unique _ _ hs (rangeI_pairwise _) (hp.trans hR.symm)
theorem isBoard_isB (w : Int) (l : List Int) : isBoardB w l = isB w l := by
  unfold isBoardB isB inB
  have hS : decide (sortI l = (List.range l.length).map fun (i : Nat) => (i : Int)) = allIn l := by
    rw [Bool.eq_iff_iff, decide_eq_true_eq]
    exact sortI_iff l
  rw [hS]
  by_cases c1 : 1 ≤ w ∧ w ≤ 3
  · obtain ⟨c1, c2⟩ := c1
    rw [decide_eq_true c1, decide_eq_true c2, Bool.true_and, Bool.true_and]
    by_cases c5 : (l.length : Int) % w = 0
    · rw [decide_eq_true c5, Bool.true_and, Bool.true_and]
      congr 1
      have hw : w = 1 ∨ w = 2 ∨ w = 3 := by omega
      rcases hw with rfl | rfl | rfl
      · rw [Int.ediv_one]
        simp
      · rw [Bool.eq_iff_iff]
        simp only [Bool.and_eq_true, decide_eq_true_eq]
        omega
      · rw [Bool.eq_iff_iff]
        simp only [Bool.and_eq_true, decide_eq_true_eq]
        omega
    · rw [decide_eq_false c5, Bool.false_and, Bool.false_and, Bool.and_false]
      try rfl
  · have h : (decide (1 ≤ w) && decide (w ≤ 3)) = false := by
      rw [Bool.and_eq_false_iff, decide_eq_false_iff_not, decide_eq_false_iff_not]
      omega
    rw [h, Bool.false_and, Bool.false_and]
theorem isBoard_eq (w : Int) (l : List Int) (hl : l.length ≤ 2000000) : impl_IsBoard.f w l = some (isB w l) := by
  rw [impl_IsBoard.f, if_pos hl, isBoard_isB]
end Go.Proofs.YtmplgijnmjdogaaDoorL
