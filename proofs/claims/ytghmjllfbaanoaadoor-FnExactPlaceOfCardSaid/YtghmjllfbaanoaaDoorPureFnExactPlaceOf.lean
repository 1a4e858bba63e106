/- The program's PlaceOf returns what the reference's returns: for all arguments the law FnExactPlaceOf returns true. -/
import Derived.Test.YtghmjllfbaanoaaDoorLTray
import Derived.Test.YtghmjllfbaanoaaDoorQx7
set_option linter.unusedVariables false
set_option linter.unusedSimpArgs false
namespace Go.Proofs.YtghmjllfbaanoaaDoor.Pure
open Go.RowKit Go.Proofs.YtghmjllfbaanoaaDoor.Q Go.Proofs.YtghmjllfbaanoaaDoorW.PrintWords Go.Proofs.YtghmjllfbaanoaaDoorW.PrintLast Go.Proofs.YtghmjllfbaanoaaDoorM Go.Proofs.YtghmjllfbaanoaaDoorL

theorem one_byte {s : ByteArray} (h : s.size = 1) : ∃ c : UInt8, s = ⟨#[c]⟩ := by
  obtain ⟨a⟩ := s
  have hz : a.size = 1 := h
  obtain ⟨l⟩ := a
  match l, hz with
  | [c], _ => exact ⟨c, rfl⟩
/-- The first place of c at or behind i; -1 if there is none. -/
def first (c : Int) : List Int → Nat → Int
  | [], _ => -1
  | x :: l, i => if x = c then (i : Int) else first c l (i + 1)
theorem first_ge (c : Int) : ∀ (l : List Int) (i : Nat), first c l i = -1 ∨ 0 ≤ first c l i
  | [], _ => .inl rfl
  | x :: l, i => by
    rw [first]
    by_cases h : x = c
    · rw [if_pos h]; exact .inr (by omega)
    · rw [if_neg h]; exact first_ge c l (i + 1)
def placed (w : Nat) (n : Int) : Int × Int × Bool := if 0 ≤ n then (Int.tmod n (w : Int), wrap64 (Int.tdiv n (w : Int)), true) else (0, 0, false)
theorem next {i n : Nat} (h : n < 1000000) (hi : i < n) : wrap64 ((i : Int) + 1) = ((i + 1 : Nat) : Int) := by rw [wr (by omega) (by omega)]; rfl
theorem rd_at {cs : List Int} {i : Nat} (hlt : i < cs.length) : rd cs (i : Int) = cs[i] := by
  unfold rd
  rw [Int.toNat_natCast, List.getD_eq_getElem?_getD, List.getElem?_eq_getElem hlt]
  rfl
theorem index_first (cs : List Int) (c : Int) (hl : cs.length < 1000000) : ∀ (d i : Nat), cs.length - i = d → i ≤ cs.length →
    Ev (fun k => slices_Index_byte_byte.l0 k cs c (cs.length : Int) (i : Int)) (first c (cs.drop i) i) := by
  intro d
  induction d with
  | zero =>
    intro i hd hi
    have e : i = cs.length := by omega
    subst e
    rw [List.drop_length]
    refine Ev.step (f := fun _ => some (-1)) (fun k => ?_) (Ev.now _)
    rw [slices_Index_byte_byte.l0, if_neg (by omega)]
  | succ d ih =>
    intro i hd hi
    have hlt : i < cs.length := by omega
    have h1 := ih (i + 1) (by omega) (by omega)
    rw [List.drop_eq_getElem_cons hlt, first]
    have g1 : (i : Int) < (cs.length : Int) := by omega
    have g2 : (0 : Int) ≤ (i : Int) := by omega
    by_cases e : cs[i] = c
    · rw [if_pos e]
      refine Ev.step (f := fun _ => some (i : Int)) (fun k => ?_) (Ev.now _)
      rw [slices_Index_byte_byte.l0, if_pos g1, if_pos g2, if_pos g1, rd_at hlt, if_pos e.symm]
    · rw [if_neg e]
      refine Ev.step (fun k => ?_) h1
      rw [slices_Index_byte_byte.l0, if_pos g1, if_pos g2, if_pos g1, rd_at hlt, if_neg (Ne.symm e), next hl hlt]
theorem l0_first (s : ByteArray) (hs : (0 : Int) < (s.size : Int)) (cs : List Int) (w h : Nat) (hw : 1 ≤ w) (c : Int) (hb : bt s 0 = c) (hl : cs.length < 1000000) : ∀ (d i : Nat), cs.length - i = d → i ≤ cs.length →
    Ev (fun k => spec_PlaceOf.l0 k s cs (cs.length : Int) (i : Int) (w : Int) (h : Int) cs) (placed w (first c (cs.drop i) i)) := by
  have HB : Aside0 (bt s 0 = c) := ⟨hb⟩
  clear hb
  have hw0 : ¬ ((w : Int) = 0) := by omega
  intro d
  induction d with
  | zero =>
    intro i hd hi
    have e : i = cs.length := by omega
    subst e
    rw [List.drop_length]
    refine Ev.step (f := fun _ => some (0, 0, false)) (fun k => ?_) (Ev.now _)
    rw [spec_PlaceOf.l0, if_neg (by omega)]
  | succ d ih =>
    intro i hd hi
    have hlt : i < cs.length := by omega
    have h1 := ih (i + 1) (by omega) (by omega)
    have g1 : (i : Int) < (cs.length : Int) := by omega
    have g2 : (0 : Int) ≤ (i : Int) := by omega
    rw [List.drop_eq_getElem_cons hlt, first]
    by_cases e : cs[i] = c
    · rw [if_pos e]
      have hp : placed w (i : Int) = (Int.tmod (i : Int) (w : Int), wrap64 (Int.tdiv (i : Int) (w : Int)), true) := by unfold placed; rw [if_pos g2]
      rw [hp]
      refine Ev.step (f := fun _ => some (Int.tmod (i : Int) (w : Int), wrap64 (Int.tdiv (i : Int) (w : Int)), true)) (fun k => ?_) (Ev.now _)
      rw [spec_PlaceOf.l0, if_pos g1, if_pos g2, if_pos g1, if_pos hs, rd_at hlt, HB.out, if_pos e, if_neg hw0]
    · rw [if_neg e]
      refine Ev.step (fun k => ?_) h1
      rw [spec_PlaceOf.l0, if_pos g1, if_pos g2, if_pos g1, if_pos hs, rd_at hlt, HB.out, if_neg e, next hl hlt]
theorem j0_true (s : ByteArray) (a b : Int) (cs : List Int) : Ev (fun k => spec_PlaceOf.j0 k s true a b cs) (0, 0, false) :=
  Ev.step (f := fun _ => some (0, 0, false)) (fun k => by rw [spec_PlaceOf.j0, if_pos rfl]) (Ev.now _)
theorem cellOf_true (t s : ByteArray) : Ev (fun k => impl_cellOf.j0 k t s true) (0, false) :=
  Ev.step (f := fun _ => some (0, false)) (fun k => by rw [impl_cellOf.j0, if_pos rfl]) (Ev.now _)
theorem cellOf_false (t s : ByteArray) (c : Int) (ht : t.size ≤ 1048576) (hl : (CS t).length < 1000000) (hs : (0 : Int) < (s.size : Int)) (hb : bt s 0 = c) :
    Ev (fun k => impl_cellOf.j0 k t s false) (first c (CS t) 0, decide (first c (CS t) 0 ≥ 0)) := by
  have h1 := index_first (CS t) c hl (CS t).length 0 rfl (Nat.zero_le _)
  rw [List.drop_zero] at h1
  refine Ev.step (f := fun k => (slices_Index_byte_byte.f k (CS t) c).bind fun t243 => some (t243, decide (t243 ≥ 0))) (fun k => ?_) (Ev.bind (a := first c (CS t) 0) h1 (Ev.now _))
  rw [impl_cellOf.j0, if_neg (by decide), read_eq t ht, Option.bind_some, if_pos hs, hb]
theorem tell (g : Nat → Option (Int × Int × Bool)) (f : Nat → Option (Int × Int × Bool)) (r : Int × Int × Bool) (h1 : Ev g r) (h2 : Ev f r) :
    Ev (fun k => (g k).bind fun b1 => (f k).bind fun b2 => (if b2.1 = b1.1 then (if b2.2.1 = b1.2.1 then (if (b2.2.2 != b1.2.2) = true then (some false) else (some true)) else (some false)) else (some false))) true := by
  refine Ev.bind h1 (Ev.bind h2 ?_)
  refine ⟨0, fun k _ => ?_⟩
  simp
/-- What the program makes of a cell's number. -/
theorem end_of (t : ByteArray) (ht : t.size ≤ 1048576) (hw : 1 ≤ W t) (b : Int × Bool) (s : ByteArray) (h : Ev (fun k => impl_cellOf.f k t s) b) :
    Ev (fun k => impl_PlaceOf.f k t s) (if b.2 = true then (Int.tmod b.1 (W t : Int), wrap64 (Int.tdiv b.1 (W t : Int)), true) else (0, 0, false)) := by
  refine Ev.congr (fun k => rfl) (Ev.bind h ?_)
  refine ⟨0, fun k _ => ?_⟩
  have hw0 : ¬ ((W t : Int) = 0) := by omega
  by_cases hb : b.2 = true
  · show (if b.2 = true then _ else _) = _
    rw [if_pos hb, if_pos hb, read_eq t ht, Option.bind_some, if_neg hw0]
  · show (if b.2 = true then _ else _) = _
    rw [if_neg hb, if_neg hb]
theorem FnExactPlaceOf : laws_FnExactPlaceOf.Pure := by
  intro t s _ _
  by_cases ht : (t.size : Int) > 1048576
  · exact ⟨0, by rw [laws_FnExactPlaceOf.f, if_pos ht]⟩
  by_cases hs : (s.size : Int) > 1048576
  · exact ⟨0, by rw [laws_FnExactPlaceOf.f, if_neg ht, if_pos hs]⟩
  refine Ev.rounds (Ev.congr (fun k => by rw [laws_FnExactPlaceOf.f, if_neg ht, if_neg hs]) ?_)
  have ht' : t.size ≤ 1048576 := by omega
  have hi := isTray_eq t ht'
  have hr := tyRead_eq t
  by_cases hg : good t = true
  · obtain ⟨f1, f2, f3, f4, f5, f6, f7⟩ := good_facts hg
    have hl : (CS t).length < 1000000 := by omega
    rw [hg] at hi
    rw [if_pos hg] at hr
    by_cases h1 : s.size = 1
    · obtain ⟨c, rfl⟩ := one_byte h1
      have hb : bt (⟨#[c]⟩ : ByteArray) 0 = (c.toNat : Int) := rfl
      have z1 : (((⟨#[c]⟩ : ByteArray).size : Nat) : Int) = 1 := rfl
      have z0 : (0 : Int) < ((⟨#[c]⟩ : ByteArray).size : Int) := by rw [z1]; decide
      by_cases hn : 97 ≤ (c.toNat : Int) ∧ (c.toNat : Int) ≤ 102
      · have hz := l0_first ⟨#[c]⟩ z0 (CS t) (W t) (H t) f1 _ hb hl (CS t).length 0 rfl (Nat.zero_le _)
        rw [List.drop_zero] at hz
        have hc := cellOf_false t ⟨#[c]⟩ _ ht' hl z0 hb
        have hcell : Ev (fun k => impl_cellOf.f k t ⟨#[c]⟩) (first (c.toNat : Int) (CS t) 0, decide (first (c.toNat : Int) (CS t) 0 ≥ 0)) := by
          refine Ev.congr (fun k => rfl) (Ev.bind hi ?_)
          refine Ev.congr (f := fun k => impl_cellOf.j0 k t ⟨#[c]⟩ false) (g := _) (fun k => ?_) hc
          rw [if_pos rfl, if_pos z1, if_pos z0, impl_isName.f, hb, if_pos hn.1, Option.bind_some, decide_eq_true hn.2]
          rfl
        have he := end_of t ht' f1 _ _ hcell
        have hpl : (if decide (first (c.toNat : Int) (CS t) 0 ≥ 0) = true then (Int.tmod (first (c.toNat : Int) (CS t) 0) (W t : Int), wrap64 (Int.tdiv (first (c.toNat : Int) (CS t) 0) (W t : Int)), true) else (0, 0, false)) = placed (W t) (first (c.toNat : Int) (CS t) 0) := by
          unfold placed
          by_cases hf : 0 ≤ first (c.toNat : Int) (CS t) 0
          · rw [if_pos hf, if_pos (decide_eq_true hf)]
          · rw [if_neg hf, if_neg (by rw [decide_eq_false hf]; decide)]
        have he' : Ev (fun k => impl_PlaceOf.f k t ⟨#[c]⟩) (placed (W t) (first (c.toNat : Int) (CS t) 0)) := by rw [← hpl]; exact he
        refine tell _ _ _ (Ev.congr (fun k => rfl) (Ev.bind hr ?_)) he'
        refine Ev.congr (f := fun k => spec_PlaceOf.j0 k ⟨#[c]⟩ false (W t : Int) (H t : Int) (CS t)) (g := _) (fun k => ?_) (Ev.step (fun k => ?_) hz)
        · rw [if_pos rfl, if_pos z1, if_pos z0, hb, if_neg (Int.not_lt.2 hn.1), decide_eq_false (Int.not_lt.2 hn.2)]
        · rw [spec_PlaceOf.j0, if_neg (by decide)]
          rfl
      · have hcell : Ev (fun k => impl_cellOf.f k t ⟨#[c]⟩) (0, false) := by
          refine Ev.congr (fun k => rfl) (Ev.bind hi ?_)
          refine Ev.congr (f := fun k => impl_cellOf.j0 k t ⟨#[c]⟩ true) (g := _) (fun k => ?_) (cellOf_true _ _)
          rw [if_pos rfl, if_pos z1, if_pos z0, impl_isName.f, hb]
          by_cases h97 : (c.toNat : Int) ≥ 97
          · rw [if_pos h97, Option.bind_some, decide_eq_false (fun h => hn ⟨h97, h⟩)]
            rfl
          · rw [if_neg h97, Option.bind_some]
            rfl
        refine tell _ _ (0, 0, false) (Ev.congr (fun k => rfl) (Ev.bind hr ?_)) (end_of t ht' f1 _ _ hcell)
        refine Ev.congr (f := fun k => spec_PlaceOf.j0 k ⟨#[c]⟩ true (W t : Int) (H t : Int) (CS t)) (g := _) (fun k => ?_) (j0_true _ _ _ _)
        rw [if_pos rfl, if_pos z1, if_pos z0, hb]
        by_cases h97 : (c.toNat : Int) < 97
        · rw [if_pos h97]
        · rw [if_neg h97, decide_eq_true (Int.not_le.1 fun h => hn ⟨Int.not_lt.1 h97, h⟩)]
    · have z1 : ¬ ((s.size : Int) = 1) := by omega
      have hcell : Ev (fun k => impl_cellOf.f k t s) (0, false) := by
        refine Ev.congr (fun k => rfl) (Ev.bind hi ?_)
        refine Ev.congr (f := fun k => impl_cellOf.j0 k t s true) (g := _) (fun k => ?_) (cellOf_true _ _)
        rw [if_pos rfl, if_neg z1]
      refine tell _ _ (0, 0, false) (Ev.congr (fun k => rfl) (Ev.bind hr ?_)) (end_of t ht' f1 _ _ hcell)
      refine Ev.congr (f := fun k => spec_PlaceOf.j0 k s true (W t : Int) (H t : Int) (CS t)) (g := _) (fun k => ?_) (j0_true _ _ _ _)
      rw [if_pos rfl, if_neg z1]
  · rw [Bool.eq_false_iff.2 hg] at hi
    rw [if_neg hg] at hr
    have hcell : Ev (fun k => impl_cellOf.f k t s) (0, false) := Ev.congr (fun k => rfl) (Ev.bind hi (cellOf_true t s))
    refine tell _ _ (0, 0, false) (Ev.congr (fun k => rfl) (Ev.bind hr (j0_true s 0 0 []))) (Ev.congr (fun k => rfl) (Ev.bind hcell ?_))
    exact Ev.now _

end Go.Proofs.YtghmjllfbaanoaaDoor.Pure
