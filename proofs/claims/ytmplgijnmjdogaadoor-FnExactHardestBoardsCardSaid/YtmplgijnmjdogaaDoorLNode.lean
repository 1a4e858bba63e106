/- Boards: what the laws' own looks (szBoard, toBoard, eqBoard), the reference's blGood and the program's IsBoard say of a width and a list of cells. -/
import Derived.Test.YtmplgijnmjdogaaDoorWWords
import Derived.Test.YtmplgijnmjdogaaDoorQx3
import Derived.Test.YtmplgijnmjdogaaDoorQx1
import Derived.Test.YtmplgijnmjdogaaDoorQx4
import Derived.Test.YtmplgijnmjdogaaDoorQx2
import Derived.Test.YtmplgijnmjdogaaDoorQx5
import Derived.Test.YtmplgijnmjdogaaDoorQx7
import Derived.Test.YtmplgijnmjdogaaDoorQx6
set_option linter.unusedVariables false
set_option linter.unusedSimpArgs false
namespace Go.Proofs.YtmplgijnmjdogaaDoorL
open Go.RowKit Go.Proofs.YtmplgijnmjdogaaDoor.Q Go.Proofs.YtmplgijnmjdogaaDoorW.PrintWords Go.Proofs.YtmplgijnmjdogaaDoorW.PrintLast

theorem wrB {n : Int} (h0 : -9223372036854775808 ≤ n) (h1 : n ≤ 9223372036854775807) : wrap64 n = n := by
  unfold wrap64
  omega
theorem wb {n : Nat} {z : Int} (h : n < 4000000) (hz : z = (n : Int)) : wrap64 z = (n : Int) := by
  rw [hz]
  exact wrB (by omega) (by omega)
theorem wi {z y : Int} (h0 : -4000000 ≤ y) (h1 : y ≤ 4000000) (hz : z = y) : wrap64 z = y := by
  rw [hz]
  exact wrB (by omega) (by omega)
theorem rd_at {l : List Int} {i : Nat} (h : i < l.length) : rd l (i : Int) = l[i] := by
  unfold rd
  rw [Int.toNat_natCast, List.getD_eq_getElem?_getD, List.getElem?_eq_getElem h]
  rfl
/-! ### the laws' own looks -/
/-! ### boards -/
def allIn (l : List Int) : Bool := (List.range l.length).all fun k => l.contains (k : Int)
def isB (w : Int) (l : List Int) : Bool := (decide (1 ≤ w) && decide (w ≤ 3)) && ((decide (1 ≤ (l.length : Int)) && decide ((l.length : Int) ≤ 3 * w)) && (decide ((l.length : Int) % w = 0) && allIn l))
theorem l1Has_eq (l : List Int) (x : Int) (hl : l.length ≤ 1048576) : Ev (fun k => spec_l1Has.f k l x) (l.contains x) := by
  have key : ∀ (d i : Nat), l.length - i = d → i ≤ l.length → Ev (fun k => spec_l1Has.l0 k x l (l.length : Int) (i : Int)) ((l.drop i).contains x) := by
    intro d
    induction d with
    | zero =>
      intro i hd hi
      have g : ¬ ((i : Int) < (l.length : Int)) := by omega
      have e : i = l.length := by omega
      subst e
      rw [List.drop_length]
      exact Ev.step (f := fun _ => some false) (fun k => by rw [spec_l1Has.l0, if_neg g]) (Ev.now _)
    | succ d ih =>
      intro i hd hi
      have hlt : i < l.length := by omega
      have h1 := ih (i + 1) (by omega) (by omega)
      have g : (i : Int) < (l.length : Int) := by omega
      have g0 : (0 : Int) ≤ (i : Int) := by omega
      have b : i + 1 < 4000000 := by omega
      have e : wrap64 ((i : Int) + 1) = ((i + 1 : Nat) : Int) := wb b rfl
      rw [List.drop_eq_getElem_cons hlt, List.contains_cons]
      by_cases hx : l[i] = x
      · have hb : (x == l[i]) = true := by rw [hx]; exact beq_self_eq_true x
        rw [hb, Bool.true_or]
        exact Ev.step (f := fun _ => some true) (fun k => by rw [spec_l1Has.l0, if_pos g, if_pos g0, if_pos g, rd_at hlt, if_pos hx]) (Ev.now _)
      · have hb : (x == l[i]) = false := beq_eq_false_iff_ne.2 fun h => hx h.symm
        rw [hb, Bool.false_or]
        exact Ev.step (fun k => by rw [spec_l1Has.l0, if_pos g, if_pos g0, if_pos g, rd_at hlt, if_neg hx, e]) h1
  have := key l.length 0 rfl (Nat.zero_le _)
  rw [List.drop_zero] at this
  exact this
/-! ### sorted lists -/
theorem perm_of_subset : ∀ (R l : List Int), R.Nodup → (∀ x ∈ R, x ∈ l) → R.length = l.length → R.Perm l
  | [], l, _, _, hlen => by
    have : l = [] := List.eq_nil_of_length_eq_zero hlen.symm
    rw [this]
  | a :: R, l, hn, hs, hlen => by
    have ha : a ∈ l := hs a (List.mem_cons_self ..)
    have hp := List.perm_cons_erase ha
    rw [List.nodup_cons] at hn
    have h1 : R.Perm (l.erase a) := by
      refine perm_of_subset R (l.erase a) hn.2 (fun x hx => ?_) ?_
      · have hxa : x ≠ a := fun e => hn.1 (e ▸ hx)
        exact (List.mem_erase_of_ne hxa).2 (hs x (List.mem_cons_of_mem _ hx))
      · rw [List.length_erase_of_mem ha]
        rw [List.length_cons] at hlen
        omega
    exact (List.Perm.cons a h1).trans hp.symm
theorem sorted_unique : ∀ (l1 l2 : List Int), l1.Pairwise (· ≤ ·) → l2.Pairwise (· ≤ ·) → l1.Perm l2 → l1 = l2
  | [], l2, _, _, hp => by rw [List.nil_perm.1 hp]
  | a :: t, [], _, _, hp => absurd (List.perm_nil.1 hp) (by simp)
  | a :: t, b :: s, h1, h2, hp => by
    rw [List.pairwise_cons] at h1 h2
    have hab : a = b := by
      have ha : a ∈ b :: s := hp.subset (List.mem_cons_self ..)
      have hb : b ∈ a :: t := hp.symm.subset (List.mem_cons_self ..)
      rcases List.mem_cons.1 ha with e | ha
      · exact e
      · rcases List.mem_cons.1 hb with e | hb
        · exact e.symm
        · have := h1.1 b hb
          have := h2.1 a ha
          omega
    subst hab
    rw [sorted_unique t s h1.2 h2.2 (List.Perm.cons_inv hp)]
theorem rangeI_pairwise (n : Nat) : ((List.range n).map fun (i : Nat) => (i : Int)).Pairwise (· ≤ ·) := by
  rw [List.pairwise_map]
  refine List.Pairwise.imp ?_ (List.pairwise_lt_range (n := n))
  intro a b h
  omega
theorem rangeI_nodup (n : Nat) : ((List.range n).map fun (i : Nat) => (i : Int)).Nodup := by
  unfold List.Nodup
  rw [List.pairwise_map]
  refine List.Pairwise.imp ?_ (List.pairwise_lt_range (n := n))
  intro a b h
  omega
end Go.Proofs.YtmplgijnmjdogaaDoorL
namespace Go.Proofs.YtmplgijnmjdogaaDoorL
open Go.RowKit Go.Proofs.YtmplgijnmjdogaaDoor.Q Go.Proofs.YtmplgijnmjdogaaDoorW.PrintWords Go.Proofs.YtmplgijnmjdogaaDoorW.PrintLast
def zf : List Int → Nat → Int
  | [], _ => -1
  | c :: t, i => if c = 0 then (i : Int) else zf t (i + 1)
theorem blHole_eq (a : Int) (l : List Int) (hl : l.length ≤ 1048576) : Ev (fun k => spec_blHole.f k a l) (zf l 0) := by
  have key : ∀ (d i : Nat), l.length - i = d → i ≤ l.length → Ev (fun k => spec_blHole.l0 k l (l.length : Int) (i : Int)) (zf (l.drop i) i) := by
    intro d
    induction d with
    | zero =>
      intro i hd hi
      have g : ¬ ((i : Int) < (l.length : Int)) := by omega
      have e : i = l.length := by omega
      subst e
      rw [List.drop_length, zf]
      exact Ev.step (f := fun _ => some (-1)) (fun k => by rw [spec_blHole.l0, if_neg g]) (Ev.now _)
    | succ d ih =>
      intro i hd hi
      have hlt : i < l.length := by omega
      have h1 := ih (i + 1) (by omega) (by omega)
      have g : (i : Int) < (l.length : Int) := by omega
      have g0 : (0 : Int) ≤ (i : Int) := by omega
      have b : i + 1 < 4000000 := by omega
      have e : wrap64 ((i : Int) + 1) = ((i + 1 : Nat) : Int) := wb b rfl
      rw [List.drop_eq_getElem_cons hlt, zf]
      by_cases hx : l[i] = 0
      · rw [if_pos hx]
        exact Ev.step (f := fun _ => some (i : Int)) (fun k => by rw [spec_blHole.l0, if_pos g, if_pos g0, if_pos g, rd_at hlt, if_pos hx]) (Ev.now _)
      · rw [if_neg hx]
        exact Ev.step (fun k => by rw [spec_blHole.l0, if_pos g, if_pos g0, if_pos g, rd_at hlt, if_neg hx, e]) h1
  exact key l.length 0 rfl (Nat.zero_le _)
theorem index_eq (l : List Int) (hl : l.length ≤ 1048576) : Ev (fun k => slices_Index_int_int.f k l 0) (zf l 0) := by
  have key : ∀ (d i : Nat), l.length - i = d → i ≤ l.length → Ev (fun k => slices_Index_int_int.l0 k l 0 (l.length : Int) (i : Int)) (zf (l.drop i) i) := by
    intro d
    induction d with
    | zero =>
      intro i hd hi
      have g : ¬ ((i : Int) < (l.length : Int)) := by omega
      have e : i = l.length := by omega
      subst e
      rw [List.drop_length, zf]
      exact Ev.step (f := fun _ => some (-1)) (fun k => by rw [slices_Index_int_int.l0, if_neg g]) (Ev.now _)
    | succ d ih =>
      intro i hd hi
      have hlt : i < l.length := by omega
      have h1 := ih (i + 1) (by omega) (by omega)
      have g : (i : Int) < (l.length : Int) := by omega
      have g0 : (0 : Int) ≤ (i : Int) := by omega
      have b : i + 1 < 4000000 := by omega
      have e : wrap64 ((i : Int) + 1) = ((i + 1 : Nat) : Int) := wb b rfl
      rw [List.drop_eq_getElem_cons hlt, zf]
      by_cases hx : l[i] = 0
      · rw [if_pos hx]
        exact Ev.step (f := fun _ => some (i : Int)) (fun k => by rw [slices_Index_int_int.l0, if_pos g, if_pos g0, if_pos g, rd_at hlt, if_pos hx.symm]) (Ev.now _)
      · rw [if_neg hx]
        exact Ev.step (fun k => by rw [slices_Index_int_int.l0, if_pos g, if_pos g0, if_pos g, rd_at hlt, if_neg (fun h => hx h.symm), e]) h1
  exact key l.length 0 rfl (Nat.zero_le _)

theorem zf_at : ∀ (l : List Int) (s : Nat), (0 : Int) ∈ l → ∃ i, i < l.length ∧ zf l s = ((s + i : Nat) : Int) ∧ l[i]? = some 0 ∧ ∀ j, j < i → l[j]? ≠ some 0
  | [], _, h => absurd h (by simp)
  | c :: t, s, h => by
    by_cases hc : c = 0
    · exact ⟨0, by simp, by rw [zf, if_pos hc]; simp, by rw [hc]; rfl, fun j hj => absurd hj (Nat.not_lt_zero _)⟩
    · have ht : (0 : Int) ∈ t := by
        rcases List.mem_cons.1 h with e | e
        · exact absurd e.symm hc
        · exact e
      obtain ⟨i, h1, h2, h3, h4⟩ := zf_at t (s + 1) ht
      refine ⟨i + 1, by rw [List.length_cons]; omega, ?_, ?_, ?_⟩
      · rw [zf, if_neg hc, h2]
        congr 1
        omega
      · rw [List.getElem?_cons_succ]; exact h3
      · intro j hj
        cases j with
        | zero => rw [List.getElem?_cons_zero]; intro e; exact hc (Option.some.inj e)
        | succ j => rw [List.getElem?_cons_succ]; exact h4 j (by omega)
theorem hole_eq (w : Int) (l : List Int) (hl : l.length ≤ 1048576) : Ev (fun k => impl_Board_hole.f k w l) (zf l 0) :=
  Ev.congr (fun k => rfl) (Ev.bind (index_eq l hl) (Ev.now _))
theorem ediv_small {w n : Int} (hw : 1 ≤ w) (h : n % w = 0) : ∃ q, n = w * q ∧ n / w = q := by
  refine ⟨n / w, ?_, rfl⟩
  have := Int.mul_ediv_add_emod n w
  omega
/-- What a board is: its size, and its values. -/
theorem isB_facts {w : Int} {l : List Int} (h : isB w l = true) : ∃ W H : Nat, w = (W : Int) ∧ l.length = W * H ∧ 0 < W ∧ W < 4 ∧ 0 < H ∧ H < 4 ∧ ∀ k, k < l.length → (k : Int) ∈ l := by
  unfold isB allIn at h
  simp only [Bool.and_eq_true, decide_eq_true_eq, List.all_eq_true, List.mem_range, List.contains_iff_mem] at h
  obtain ⟨⟨h1, h2⟩, ⟨h3, h4⟩, h5, h6⟩ := h
  have hw : w = 1 ∨ w = 2 ∨ w = 3 := by omega
  rcases hw with rfl | rfl | rfl
  · exact ⟨1, l.length, rfl, by omega, by omega, by omega, by omega, by omega, h6⟩
  · exact ⟨2, l.length / 2, rfl, by omega, by omega, by omega, by omega, by omega, h6⟩
  · exact ⟨3, l.length / 3, rfl, by omega, by omega, by omega, by omega, by omega, h6⟩
theorem hole_at {w : Int} {l : List Int} (h : isB w l = true) : ∃ W H i : Nat, w = (W : Int) ∧ l.length = W * H ∧ 0 < W ∧ W < 4 ∧ 0 < H ∧ H < 4 ∧ i < W * H ∧ zf l 0 = (i : Int) := by
  obtain ⟨W, H, h1, h2, h3, h4, h5, h6, h7⟩ := isB_facts h
  have h0 : (0 : Int) ∈ l := h7 0 (by rw [h2]; exact Nat.mul_pos h3 h5)
  obtain ⟨i, a, b, _⟩ := zf_at l 0 h0
  exact ⟨W, H, i, h1, h2, h3, h4, h5, h6, by rw [← h2]; exact a, by rw [b, Nat.zero_add]⟩
end Go.Proofs.YtmplgijnmjdogaaDoorL
namespace Go.Proofs.YtmplgijnmjdogaaDoorL
open Go.RowKit Go.Proofs.YtmplgijnmjdogaaDoor.Q Go.Proofs.YtmplgijnmjdogaaDoorW.PrintWords Go.Proofs.YtmplgijnmjdogaaDoorW.PrintLast
def inS (x lo hi : Int) : Bool := decide (lo ≤ x) && decide (x ≤ hi)
theorem l1In_eq (x lo hi : Int) : spec_l1In.f x lo hi = some (inS x lo hi) := by
  rw [spec_l1In.f]
  unfold inS
  by_cases h : lo ≤ x
  · rw [if_pos h, decide_eq_true h, Bool.true_and]
  · rw [if_neg h, decide_eq_false h, Bool.false_and]
def jS (x y w n : Int) : Int := if inS x 0 (wrap64 (w - 1)) = true then (if inS y 0 (wrap64 ((wrap64 (n / w)) - 1)) = true then wrap64 ((wrap64 (y * w)) + x) else -1) else -1
def aS (w n h d : Int) : Int := if d = 0 then jS (Int.tmod h w) (wrap64 ((wrap64 (Int.tdiv h w)) - 1)) w n else (if d = 1 then jS (wrap64 ((Int.tmod h w) + 1)) (wrap64 (Int.tdiv h w)) w n else (if d = 2 then jS (Int.tmod h w) (wrap64 ((wrap64 (Int.tdiv h w)) + 1)) w n else jS (wrap64 ((Int.tmod h w) - 1)) (wrap64 (Int.tdiv h w)) w n))
theorem j0_eq (w : Int) (l : List Int) (hw : ¬ w = 0) (x y : Int) : Ev (fun k => spec_blAhead.j0 k x y w l) (jS x y w (l.length : Int)) := by
  refine Ev.step (f := fun _ => some (jS x y w (l.length : Int))) (fun k => ?_) (Ev.now _)
  rw [spec_blAhead.j0, l1In_eq, Option.bind_some]
  unfold jS
  cases h1 : inS x 0 (wrap64 (w - 1)) with
  | false => rfl
  | true =>
    rw [if_pos rfl, if_pos rfl, if_neg hw, l1In_eq, Option.bind_some]
    cases h2 : inS y 0 (wrap64 ((wrap64 ((l.length : Int) / w)) - 1)) with
    | false => rfl
    | true => rw [if_pos rfl, if_pos rfl]
theorem ahead_eq (w : Int) (l : List Int) (hl : l.length ≤ 1048576) (hw : ¬ w = 0) (d : Int) : Ev (fun k => spec_blAhead.f k w l d) (aS w (l.length : Int) (zf l 0) d) := by
  refine Ev.congr (fun k => rfl) (Ev.bind (blHole_eq w l hl) ?_)
  unfold aS
  by_cases h0 : d = 0
  · rw [if_pos h0]
    exact Ev.congr (fun k => by rw [if_neg hw, if_pos h0]) (j0_eq w l hw _ _)
  · rw [if_neg h0]
    by_cases h1 : d = 1
    · rw [if_pos h1]
      exact Ev.congr (fun k => by rw [if_neg hw, if_neg h0, if_pos h1]) (j0_eq w l hw _ _)
    · rw [if_neg h1]
      by_cases h2 : d = 2
      · rw [if_pos h2]
        exact Ev.congr (fun k => by rw [if_neg hw, if_neg h0, if_neg h1, if_pos h2]) (j0_eq w l hw _ _)
      · rw [if_neg h2]
        exact Ev.congr (fun k => by rw [if_neg hw, if_neg h0, if_neg h1, if_neg h2]) (j0_eq w l hw _ _)
def t2 (w h x c : Int) (b : Bool) : Int := if b = true then wrap64 (h + w) else (if c = 108 then (if x > 0 then wrap64 (h - 1) else -1) else -1)
def t1 (w n h x y c : Int) (b : Bool) : Int := if b = true then wrap64 (h + 1) else (if c = 100 then t2 w h x c (decide (y < wrap64 ((wrap64 (n / w)) - 1))) else t2 w h x c false)
def t0 (w n h x y c : Int) (b : Bool) : Int := if b = true then wrap64 (h - w) else (if c = 114 then t1 w n h x y c (decide (x < wrap64 (w - 1))) else t1 w n h x y c false)
def aI (w n h c : Int) : Int := if c = 117 then t0 w n h (Int.tmod h w) (wrap64 (Int.tdiv h w)) c (decide (wrap64 (Int.tdiv h w) > 0)) else t0 w n h (Int.tmod h w) (wrap64 (Int.tdiv h w)) c false
theorem t2_eq (w : Int) (l : List Int) (h x c : Int) (b : Bool) : Ev (fun k => impl_Board_target.j2 k c h x b w l) (t2 w h x c b) := by
  refine Ev.step (f := fun _ => some (t2 w h x c b)) (fun k => ?_) (Ev.now _)
  rw [impl_Board_target.j2]
  unfold t2
  by_cases h1 : b = true
  · rw [if_pos h1, if_pos h1]
  · rw [if_neg h1, if_neg h1]
    by_cases h2 : c = 108
    · rw [if_pos h2, if_pos h2]
      by_cases h3 : x > 0
      · rw [if_pos h3, if_pos h3]
      · rw [if_neg h3, if_neg h3]
    · rw [if_neg h2, if_neg h2]
theorem t1_eq (w : Int) (l : List Int) (hw : ¬ w = 0) (h x y c : Int) (b : Bool) : Ev (fun k => impl_Board_target.j1 k c h x y b w l) (t1 w (l.length : Int) h x y c b) := by
  have hh : impl_Board_high.f w l = some (wrap64 ((l.length : Int) / w)) := by rw [impl_Board_high.f, if_neg hw]
  unfold t1
  by_cases h1 : b = true
  · rw [if_pos h1]
    exact Ev.step (f := fun _ => some (wrap64 (h + 1))) (fun k => by rw [impl_Board_target.j1, if_pos h1]) (Ev.now _)
  · rw [if_neg h1]
    by_cases h2 : c = 100
    · rw [if_pos h2]
      exact Ev.step (fun k => by rw [impl_Board_target.j1, if_neg h1, if_pos h2, hh, Option.bind_some]) (t2_eq w l h x c _)
    · rw [if_neg h2]
      exact Ev.step (fun k => by rw [impl_Board_target.j1, if_neg h1, if_neg h2]) (t2_eq w l h x c _)
theorem t0_eq (w : Int) (l : List Int) (hw : ¬ w = 0) (h x y c : Int) (b : Bool) : Ev (fun k => impl_Board_target.j0 k c h x y b w l) (t0 w (l.length : Int) h x y c b) := by
  unfold t0
  by_cases h1 : b = true
  · rw [if_pos h1]
    exact Ev.step (f := fun _ => some (wrap64 (h - w))) (fun k => by rw [impl_Board_target.j0, if_pos h1]) (Ev.now _)
  · rw [if_neg h1]
    by_cases h2 : c = 114
    · rw [if_pos h2]
      exact Ev.step (fun k => by rw [impl_Board_target.j0, if_neg h1, if_pos h2]) (t1_eq w l hw h x y c _)
    · rw [if_neg h2]
      exact Ev.step (fun k => by rw [impl_Board_target.j0, if_neg h1, if_neg h2]) (t1_eq w l hw h x y c _)
theorem target_eq (w : Int) (l : List Int) (hl : l.length ≤ 1048576) (hw : ¬ w = 0) (c : Int) : Ev (fun k => impl_Board_target.f k w l c) (aI w (l.length : Int) (zf l 0) c) := by
  refine Ev.congr (fun k => rfl) (Ev.bind (hole_eq w l hl) ?_)
  unfold aI
  by_cases h0 : c = 117
  · rw [if_pos h0]
    exact Ev.congr (fun k => by rw [if_neg hw, if_pos h0]) (t0_eq w l hw _ _ _ _ _)
  · rw [if_neg h0]
    exact Ev.congr (fun k => by rw [if_neg hw, if_neg h0]) (t0_eq w l hw _ _ _ _ _)
def dirC (d : Nat) : Int := if d = 0 then 117 else (if d = 1 then 114 else (if d = 2 then 100 else 108))
def goodZ (n : Nat) (z : Int) : Bool := decide (z = -1) || (decide (0 ≤ z) && decide (z < (n : Int)))
theorem same_all : ((List.range 4).all fun (W : Nat) => (List.range 4).all fun (H : Nat) => (List.range (W * H)).all fun (i : Nat) => (List.range 4).all fun (d : Nat) => (aS (W : Int) ((W * H : Nat) : Int) (i : Int) (d : Int) == aI (W : Int) ((W * H : Nat) : Int) (i : Int) (dirC d)) && goodZ (W * H) (aS (W : Int) ((W * H : Nat) : Int) (i : Int) (d : Int))) = true := by decide +kernel
theorem same_at (W : Nat) (hW : W < 4) (H : Nat) (hH : H < 4) (i : Nat) (hi : i < W * H) (d : Nat) (hd : d < 4) : aI (W : Int) ((W * H : Nat) : Int) (i : Int) (dirC d) = aS (W : Int) ((W * H : Nat) : Int) (i : Int) (d : Int) ∧ goodZ (W * H) (aS (W : Int) ((W * H : Nat) : Int) (i : Int) (d : Int)) = true := by
  have h := List.all_eq_true.1 (List.all_eq_true.1 (List.all_eq_true.1 (List.all_eq_true.1 same_all W (List.mem_range.2 hW)) H (List.mem_range.2 hH)) i (List.mem_range.2 hi)) d (List.mem_range.2 hd)
  rw [Bool.and_eq_true] at h
  exact ⟨(eq_of_beq h.1).symm, h.2⟩
/-- Cells of W columns and H rows, a hole among them. -/
def Cells (W H : Nat) (l : List Int) : Prop := l.length = W * H ∧ (0 : Int) ∈ l
theorem own_eq (l : List Int) (hl : l.length ≤ 1000000) : spec_l1Own.f l = some l := by
  have g : ([] : List Int).length + l.length < 17592186044416 := by rw [List.length_nil]; omega
  rw [spec_l1Own.f, Option.bind_some, if_pos g, List.nil_append]
theorem clone_eq (l : List Int) (hl : l.length ≤ 1000000) : slices_Clone_int_int.f l = some l := by
  rw [slices_Clone_int_int.f, if_pos (by omega)]
/-- The board behind a move. -/
def nb (W H : Nat) (l : List Int) (d : Nat) : Option (List Int) := if d < 4 then (if aS (W : Int) ((W * H : Nat) : Int) (zf l 0) (d : Int) < 0 then none else some ((l.set (zf l 0).toNat (rd l (aS (W : Int) ((W * H : Nat) : Int) (zf l 0) (d : Int)))).set (aS (W : Int) ((W * H : Nat) : Int) (zf l 0) (d : Int)).toNat 0)) else none
/-- All numbers below W * H. -/
def Nd (W H : Nat) (l : List Int) : Prop := l.length = W * H ∧ ∀ k : Nat, k < W * H → (k : Int) ∈ l
theorem nd_isB {W H : Nat} {l : List Int} (hW0 : 0 < W) (hW : W < 4) (hH0 : 0 < H) (hH : H < 4) (h : Nd W H l) : isB (W : Int) l = true := by
  obtain ⟨h1, h2⟩ := h
  have h3 : W = 1 ∨ W = 2 ∨ W = 3 := by omega
  unfold isB allIn
  simp only [Bool.and_eq_true, decide_eq_true_eq, List.all_eq_true, List.mem_range, List.contains_iff_mem]
  refine ⟨⟨by omega, by omega⟩, ⟨?_, ?_⟩, ?_, fun k hk => h2 k (by omega)⟩
  · have : 0 < W * H := Nat.mul_pos hW0 hH0
    omega
  · rcases h3 with rfl | rfl | rfl <;> omega
  · rcases h3 with rfl | rfl | rfl <;> omega
theorem nd_perm {W H : Nat} {l : List Int} (h : Nd W H l) : ((List.range (W * H)).map fun (i : Nat) => (i : Int)).Perm l :=
  perm_of_subset _ _ (rangeI_nodup _) (fun x hx => by
    obtain ⟨k, hk, rfl⟩ := List.mem_map.1 hx
    exact h.2 k (List.mem_range.1 hk)) (by simp [h.1])
theorem nd_of_perm {W H : Nat} {l : List Int} (h : ((List.range (W * H)).map fun (i : Nat) => (i : Int)).Perm l) : Nd W H l := by
  refine ⟨by rw [← h.length_eq]; simp, fun k hk => h.subset (List.mem_map.2 ⟨k, List.mem_range.2 hk, rfl⟩)⟩
theorem nd_vals {W H : Nat} {l : List Int} (h : Nd W H l) : ∀ x ∈ l, 0 ≤ x ∧ x < ((W * H : Nat) : Int) := fun x hx => by
  obtain ⟨k, hk, rfl⟩ := List.mem_map.1 ((nd_perm h).symm.subset hx)
  have := List.mem_range.1 hk
  omega
/-- One step of a hole, in both, as a function of the cells. -/
theorem step_nb {W H : Nat} {l : List Int} (hW0 : 0 < W) (hW : W < 4) (hH : H < 4) (hc : Cells W H l) (d : Nat) (hd : d < 4) :
    (∃ z, z < 0 ∧ nb W H l d = none ∧ Ev (fun k => spec_blAhead.f k (W : Int) l (d : Int)) z ∧ Ev (fun k => impl_Board_moved.f k (W : Int) l (dirC d)) (0, ([] : List Int), false)) ∨
    (∃ (z : Int) (M : List Int), ¬ z < 0 ∧ nb W H l d = some M ∧ Ev (fun k => spec_blAhead.f k (W : Int) l (d : Int)) z ∧ Ev (fun k => spec_blMove.f k (W : Int) l (d : Int)) ((W : Int), M) ∧ Ev (fun k => impl_Board_moved.f k (W : Int) l (dirC d)) ((W : Int), M, true)) := by
  obtain ⟨hlen, hmem⟩ := hc
  have hWH : W * H < 10 := by
    have h3 : W = 1 ∨ W = 2 ∨ W = 3 := by omega
    rcases h3 with rfl | rfl | rfl <;> omega
  have hl : l.length ≤ 1048576 := by omega
  have hw : ¬ (W : Int) = 0 := by omega
  obtain ⟨i, hi, hzf, _⟩ := zf_at l 0 hmem
  rw [Nat.zero_add] at hzf
  rw [hlen] at hi
  obtain ⟨hsame, hgood⟩ := same_at W hW H hH i hi d hd
  have A := ahead_eq (W : Int) l hl hw (d : Int)
  have T := target_eq (W : Int) l hl hw (dirC d)
  have HS := blHole_eq (W : Int) l hl
  have HI := hole_eq (W : Int) l hl
  have hnb : nb W H l d = if aS (W : Int) ((W * H : Nat) : Int) (i : Int) (d : Int) < 0 then none else some ((l.set i (rd l (aS (W : Int) ((W * H : Nat) : Int) (i : Int) (d : Int)))).set (aS (W : Int) ((W * H : Nat) : Int) (i : Int) (d : Int)).toNat 0) := by
    unfold nb
    rw [if_pos hd, hzf, Int.toNat_natCast]
  rw [hzf] at HS HI
  rw [hzf, hlen] at A T
  rw [hsame] at T
  obtain ⟨z, hz⟩ : ∃ z, aS (W : Int) ((W * H : Nat) : Int) (i : Int) (d : Int) = z := ⟨_, rfl⟩
  rw [hz] at A T hgood hnb
  by_cases hneg : z < 0
  · refine .inl ⟨z, hneg, by rw [hnb, if_pos hneg], A, ?_⟩
    exact Ev.congr (fun k => rfl) (Ev.bind T ⟨0, fun k _ => if_pos hneg⟩)
  · have hz0 : 0 ≤ z ∧ z < ((W * H : Nat) : Int) := by
      unfold goodZ at hgood
      rw [Bool.or_eq_true, Bool.and_eq_true, decide_eq_true_eq, decide_eq_true_eq, decide_eq_true_eq] at hgood
      omega
    obtain ⟨zz, rfl⟩ := Int.eq_ofNat_of_zero_le hz0.1
    have hzz : zz < l.length := by omega
    have g0 : (0 : Int) ≤ (zz : Int) := by omega
    have g1 : (zz : Int) < (l.length : Int) := by omega
    have g2 : (0 : Int) ≤ (i : Int) := by omega
    have g3 : (i : Int) < (l.length : Int) := by omega
    refine .inr ⟨(zz : Int), (l.set i (rd l (zz : Int))).set zz 0, hneg, by rw [hnb, if_neg hneg, Int.toNat_natCast], A, ?_, ?_⟩
    · refine Ev.congr (f := fun k => (spec_blHole.f k (W : Int) l).bind fun t128 => ((spec_blAhead.f k (W : Int) l (d : Int)).bind fun t129 => (if 0 ≤ t129 then (if t129 < (l.length : Int) then (if 0 ≤ t128 then (if t128 < (l.length : Int) then (if t129 < (l.length : Int) then (some ((W : Int), ((l.set (t128 : Int).toNat (rd l t129)).set (t129 : Int).toNat 0))) else (none)) else (none)) else (none)) else (none)) else (none)))) (fun k => ?_) (Ev.bind HS (Ev.bind A ⟨0, fun k _ => ?_⟩))
      · rw [spec_blMove.f, own_eq l (by omega), Option.bind_some]
      · rw [if_pos g0, if_pos g1, if_pos g2, if_pos g3, if_pos g1, Int.toNat_natCast, Int.toNat_natCast]
    · refine Ev.congr (fun k => rfl) (Ev.bind T (Ev.congr (f := fun k => (impl_Board_hole.f k (W : Int) l).bind fun t180 => (if 0 ≤ (zz : Int) then (if (zz : Int) < (l.length : Int) then (if 0 ≤ t180 then (if t180 < (l.length : Int) then (some ((W : Int), ((l.set (t180 : Int).toNat (rd l (zz : Int))).set ((zz : Int) : Int).toNat 0), true)) else (none)) else (none)) else (none)) else (none))) (fun k => ?_) (Ev.bind HI ⟨0, fun k _ => ?_⟩)))
      · rw [if_neg hneg, clone_eq l (by omega), Option.bind_some]
      · rw [if_pos g0, if_pos g1, if_pos g2, if_pos g3, Int.toNat_natCast, Int.toNat_natCast]
end Go.Proofs.YtmplgijnmjdogaaDoorL
