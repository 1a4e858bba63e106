/- Puzzles: what the reference's puGood and the program's IsPuzzle say. -/
import Derived.Test.YtcglmngfglmcgaaDoorLTray
import Derived.Test.YtcglmngfglmcgaaDoorVWithin
import Derived.Test.YtcglmngfglmcgaaDoorQx4
import Derived.Test.YtcglmngfglmcgaaDoorQx3
import Derived.Test.YtcglmngfglmcgaaDoorQx11
import Derived.Test.YtcglmngfglmcgaaDoorQx9
import Derived.Test.YtcglmngfglmcgaaDoorQx10
import Derived.Test.YtcglmngfglmcgaaDoorQx1
set_option linter.unusedVariables false
set_option linter.unusedSimpArgs false
namespace Go.Proofs.YtcglmngfglmcgaaDoorL
open Go.RowKit Go.Proofs.YtcglmngfglmcgaaDoor.Q Go.Proofs.YtcglmngfglmcgaaDoorW.PrintWords Go.Proofs.YtcglmngfglmcgaaDoorW.PrintLast Go.Proofs.YtcglmngfglmcgaaDoorM Go.Proofs.YtcglmngfglmcgaaDoorV
theorem one_byte {s : ByteArray} (h : s.size = 1) : ∃ c : UInt8, s = ⟨#[c]⟩ := by
  obtain ⟨a⟩ := s
  have hz : a.size = 1 := h
  obtain ⟨l⟩ := a
  match l, hz with
  | [c], _ => exact ⟨c, rfl⟩
/-- The first place of c at or behind i; -1 if there is none. -/
def first (c : Int) : List Int → Nat → Int
  | [], _ => -1
  | x :: l, i => if x = c then (i : Int) else first c l (i + 1)
theorem first_ge (c : Int) : ∀ (l : List Int) (i : Nat), first c l i = -1 ∨ 0 ≤ first c l i
  | [], _ => .inl rfl
  | x :: l, i => by
    rw [first]
    by_cases h : x = c
    · rw [if_pos h]; exact .inr (by omega)
    · rw [if_neg h]; exact first_ge c l (i + 1)
theorem next {i n : Nat} (h : n < 1000000) (hi : i < n) : wrap64 ((i : Int) + 1) = ((i + 1 : Nat) : Int) := by rw [wr (by omega) (by omega)]; rfl
theorem rd_at {cs : List Int} {i : Nat} (hlt : i < cs.length) : rd cs (i : Int) = cs[i] := by
  unfold rd
  rw [Int.toNat_natCast, List.getD_eq_getElem?_getD, List.getElem?_eq_getElem hlt]
  rfl
theorem index_first (cs : List Int) (c : Int) (hl : cs.length < 1000000) : ∀ (d i : Nat), cs.length - i = d → i ≤ cs.length →
    Ev (fun k => slices_Index_byte_byte.l0 k cs c (cs.length : Int) (i : Int)) (first c (cs.drop i) i) := by
  intro d
  induction d with
  | zero =>
    intro i hd hi
    have e : i = cs.length := by omega
    subst e
    rw [List.drop_length]
    refine Ev.step (f := fun _ => some (-1)) (fun k => ?_) (Ev.now _)
    rw [slices_Index_byte_byte.l0, if_neg (by omega)]
  | succ d ih =>
    intro i hd hi
    have hlt : i < cs.length := by omega
    have h1 := ih (i + 1) (by omega) (by omega)
    rw [List.drop_eq_getElem_cons hlt, first]
    have g1 : (i : Int) < (cs.length : Int) := by omega
    have g2 : (0 : Int) ≤ (i : Int) := by omega
    by_cases e : cs[i] = c
    · rw [if_pos e]
      refine Ev.step (f := fun _ => some (i : Int)) (fun k => ?_) (Ev.now _)
      rw [slices_Index_byte_byte.l0, if_pos g1, if_pos g2, if_pos g1, rd_at hlt, if_pos e.symm]
    · rw [if_neg e]
      refine Ev.step (fun k => ?_) h1
      rw [slices_Index_byte_byte.l0, if_pos g1, if_pos g2, if_pos g1, rd_at hlt, if_neg (Ne.symm e), next hl hlt]
theorem cellOf_true (t s : ByteArray) : Ev (fun k => impl_cellOf.j0 k t s true) (0, false) :=
  Ev.step (f := fun _ => some (0, false)) (fun k => by rw [impl_cellOf.j0, if_pos rfl]) (Ev.now _)
theorem cellOf_false (t s : ByteArray) (c : Int) (ht : t.size ≤ 1048576) (hl : (CS t).length < 1000000) (hs : (0 : Int) < (s.size : Int)) (hb : bt s 0 = c) :
    Ev (fun k => impl_cellOf.j0 k t s false) (first c (CS t) 0, decide (first c (CS t) 0 ≥ 0)) := by
  have h1 := index_first (CS t) c hl (CS t).length 0 rfl (Nat.zero_le _)
  rw [List.drop_zero] at h1
  refine Ev.step (f := fun k => (slices_Index_byte_byte.f k (CS t) c).bind fun t243 => some (t243, decide (t243 ≥ 0))) (fun k => ?_) (Ev.bind (a := first c (CS t) 0) h1 (Ev.now _))
  rw [impl_cellOf.j0, if_neg (by decide), read_eq t ht, Option.bind_some, if_pos hs, hb]
theorem place_first (cs : List Int) (c : Int) (hl : cs.length < 1000000) : ∀ (d i : Nat), cs.length - i = d → i ≤ cs.length →
    Ev (fun k => spec_tiPlace.l0 k c cs (cs.length : Int) (i : Int)) (first c (cs.drop i) i) := by
  intro d
  induction d with
  | zero =>
    intro i hd hi
    have e : i = cs.length := by omega
    subst e
    rw [List.drop_length]
    refine Ev.step (f := fun _ => some (-1)) (fun k => ?_) (Ev.now _)
    rw [spec_tiPlace.l0, if_neg (by omega)]
  | succ d ih =>
    intro i hd hi
    have hlt : i < cs.length := by omega
    have h1 := ih (i + 1) (by omega) (by omega)
    rw [List.drop_eq_getElem_cons hlt, first]
    have g1 : (i : Int) < (cs.length : Int) := by omega
    have g2 : (0 : Int) ≤ (i : Int) := by omega
    by_cases e : cs[i] = c
    · rw [if_pos e]
      refine Ev.step (f := fun _ => some (i : Int)) (fun k => ?_) (Ev.now _)
      rw [spec_tiPlace.l0, if_pos g1, if_pos g2, if_pos g1, rd_at hlt, if_pos e]
    · rw [if_neg e]
      refine Ev.step (fun k => ?_) h1
      rw [spec_tiPlace.l0, if_pos g1, if_pos g2, if_pos g1, rd_at hlt, if_neg e, next hl hlt]
theorem l1In_w (a b c : Int) : spec_l1In.f a b c = some (inW a b c) := by
  unfold inW
  rw [spec_l1In.f]
  by_cases h : b ≤ a
  · rw [if_pos h, decide_eq_true h, Bool.true_and]
  · rw [if_neg h, decide_eq_false h, Bool.false_and]
theorem isNum_ev {t : ByteArray} (g : Int) (ht : t.size ≤ 1048576) (hg : good t = true) (hl1 : 1 ≤ (CS t).length) (hl : (CS t).length < 1000000) : Ev (fun k => impl_isNumber.f k t ([g] : List Int)) (inW g 0 (((CS t).length : Int) - 1)) := by
  have hi := isTray_eq t ht
  rw [hg] at hi
  have hw : wrap64 (((CS t).length : Int) - 1) = ((CS t).length : Int) - 1 := wr (by omega) (by omega)
  refine Ev.congr (fun k => rfl) (Ev.bind hi ⟨0, fun k _ => ?_⟩)
  show ite _ _ _ = _
  rw [if_pos rfl, read_eq t ht, Option.bind_some]
  show (impl_areWithin.f [g] 0 (wrap64 (((CS t).length : Int) - 1))).bind _ = _
  rw [hw, impl_areWithin.f, if_pos (by simp), Option.bind_some]
  simp
theorem puz_same (t s : ByteArray) (g : Int) (ht : t.size ≤ 1048576) : ∃ b : Bool, Ev (fun k => spec_puGood.f k t s g) b ∧ Ev (fun k => impl_IsPuzzle.f k t s g) b ∧ (b = true → good t = true ∧ 0 ≤ g ∧ g < ((CS t).length : Int)) := by
  have hi := isTray_eq t ht
  have hr := tyRead_eq t
  by_cases hg : good t = true
  · obtain ⟨f1, f2, f3, f4, f5, f6, f7⟩ := good_facts hg
    have hl : (CS t).length < 1000000 := by omega
    have hl1 : 1 ≤ (CS t).length := by
      rw [f6]
      exact Nat.mul_pos f1 f3
    have hN := isNum_ev g ht hg hl1 hl
    rw [hg] at hi
    rw [if_pos hg] at hr
    have noName : (∀ k, impl_cellOf.f k t s = (impl_IsTray.f k t).bind fun t155 => if t155 = true then impl_cellOf.j0 k t s true else impl_cellOf.j0 k t s true) → spec_reName.f s = some false → ∃ b : Bool, Ev (fun k => spec_puGood.f k t s g) b ∧ Ev (fun k => impl_IsPuzzle.f k t s g) b ∧ (b = true → good t = true ∧ 0 ≤ g ∧ g < ((CS t).length : Int)) := by
      intro h1 h2
      refine ⟨false, Ev.congr (fun k => rfl) (Ev.bind hr ?_), ?_, fun h => by cases h⟩
      · refine Ev.congr (f := fun k => (spec_reName.f s).bind fun t125 => _) (g := _) (r := false) (fun k => if_pos rfl) ⟨0, fun k _ => ?_⟩
        rw [h2]
        rfl
      · have hc : Ev (fun k => impl_cellOf.f k t s) (0, false) := Ev.congr h1 (Ev.bind hi (Ev.congr (fun k => if_pos rfl) (cellOf_true t s)))
        exact Ev.congr (fun k => rfl) (Ev.bind hc ⟨0, fun k _ => rfl⟩)
    by_cases h1 : s.size = 1
    · obtain ⟨c, rfl⟩ := one_byte h1
      have hb : bt (⟨#[c]⟩ : ByteArray) 0 = (c.toNat : Int) := rfl
      have z1 : (((⟨#[c]⟩ : ByteArray).size : Nat) : Int) = 1 := rfl
      have z0 : (0 : Int) < ((⟨#[c]⟩ : ByteArray).size : Int) := by rw [z1]; decide
      by_cases hn : 97 ≤ (c.toNat : Int) ∧ (c.toNat : Int) ≤ 102
      · have hc := cellOf_false t ⟨#[c]⟩ _ ht hl z0 hb
        have hcell : Ev (fun k => impl_cellOf.f k t ⟨#[c]⟩) (first (c.toNat : Int) (CS t) 0, decide (first (c.toNat : Int) (CS t) 0 ≥ 0)) := by
          refine Ev.congr (fun k => rfl) (Ev.bind hi ?_)
          refine Ev.congr (f := fun k => impl_cellOf.j0 k t ⟨#[c]⟩ false) (g := _) (fun k => ?_) hc
          rw [if_pos rfl, if_pos z1, if_pos z0, impl_isName.f, hb, if_pos hn.1, Option.bind_some, decide_eq_true hn.2]
          rfl
        have hren : spec_reName.f (⟨#[c]⟩ : ByteArray) = some true := by
          rw [spec_reName.f, if_pos z1, if_pos z0, hb, if_pos hn.1, decide_eq_true hn.2]
        have hpl := place_first (CS t) (c.toNat : Int) hl (CS t).length 0 rfl (Nat.zero_le _)
        rw [List.drop_zero] at hpl
        have hw : wrap64 (((CS t).length : Int) - 1) = ((CS t).length : Int) - 1 := wr (by omega) (by omega)
        have SP : ∀ r : Bool, Ev (fun k => (if first (c.toNat : Int) (CS t) 0 < 0 then (some false) else ((spec_l1In.f g 0 (wrap64 (((CS t).length : Int) - 1))).bind fun t127 => (if t127 = true then (if 0 ≤ g then (if g < ((CS t).length : Int) then (some ((rd (CS t) g) != 35)) else (none)) else (none)) else (some false))))) r → Ev (fun k => spec_puGood.f k t ⟨#[c]⟩ g) r := by
          intro r h
          refine Ev.congr (fun k => rfl) (Ev.bind hr ?_)
          refine Ev.congr (f := fun k => (spec_tiPlace.f k (W t : Int) (H t : Int) (CS t) (c.toNat : Int)).bind fun t126 => (if t126 < 0 then (some false) else ((spec_l1In.f g 0 (wrap64 (((CS t).length : Int) - 1))).bind fun t127 => (if t127 = true then (if 0 ≤ g then (if g < ((CS t).length : Int) then (some ((rd (CS t) g) != 35)) else (none)) else (none)) else (some false))))) (g := _) (r := _) (fun k => ?_) (Ev.bind hpl h)
          show ite _ _ _ = _
          rw [if_pos rfl, hren, Option.bind_some, if_pos rfl, if_pos z0, hb]
        by_cases hf : 0 ≤ first (c.toNat : Int) (CS t) 0
        · have hf2 : ¬ first (c.toNat : Int) (CS t) 0 < 0 := by omega
          have hcb : decide (first (c.toNat : Int) (CS t) 0 ≥ 0) = true := decide_eq_true hf
          rw [hcb] at hcell
          cases hq : inW g 0 (((CS t).length : Int) - 1) with
          | true =>
            rw [hq] at hN
            have hb2 := hq
            unfold inW at hb2
            rw [Bool.and_eq_true, decide_eq_true_eq, decide_eq_true_eq] at hb2
            have g0 : 0 ≤ g := hb2.1
            have g1 : g < ((CS t).length : Int) := by omega
            refine ⟨(rd (CS t) g) != 35, SP _ ⟨0, fun k _ => ?_⟩, ?_, fun _ => ⟨hg, g0, g1⟩⟩
            · show ite _ _ _ = _
              rw [if_neg hf2, hw, l1In_w, hq, Option.bind_some, if_pos rfl, if_pos g0, if_pos g1]
            · refine Ev.congr (fun k => rfl) (Ev.bind hcell ?_)
              refine Ev.congr (f := fun k => (impl_isNumber.f k t ([g] : List Int)).bind fun t176 => (if t176 = true then ((impl_read.f t).bind fun bt177 => (if 0 ≤ g then (if g < (bt177.2.2.length : Int) then (some ((rd bt177.2.2 g) != 35)) else (none)) else (none))) else (some false))) (g := _) (r := _) (fun k => if_pos rfl) (Ev.bind hN ⟨0, fun k _ => ?_⟩)
              show ite _ _ _ = _
              rw [if_pos rfl, read_eq t ht, Option.bind_some, if_pos g0, if_pos g1]
          | false =>
            rw [hq] at hN
            refine ⟨false, SP _ ⟨0, fun k _ => ?_⟩, ?_, fun h => by cases h⟩
            · show ite _ _ _ = _
              rw [if_neg hf2, hw, l1In_w, hq, Option.bind_some, if_neg (by decide)]
            · refine Ev.congr (fun k => rfl) (Ev.bind hcell ?_)
              exact Ev.congr (f := fun k => (impl_isNumber.f k t ([g] : List Int)).bind fun t176 => (if t176 = true then ((impl_read.f t).bind fun bt177 => (if 0 ≤ g then (if g < (bt177.2.2.length : Int) then (some ((rd bt177.2.2 g) != 35)) else (none)) else (none))) else (some false))) (g := _) (r := _) (fun k => if_pos rfl) (Ev.bind hN ⟨0, fun k _ => rfl⟩)
        · have hf2 : first (c.toNat : Int) (CS t) 0 < 0 := by omega
          have hcb : decide (first (c.toNat : Int) (CS t) 0 ≥ 0) = false := decide_eq_false hf
          rw [hcb] at hcell
          refine ⟨false, SP _ ⟨0, fun k _ => if_pos hf2⟩, Ev.congr (fun k => rfl) (Ev.bind hcell ⟨0, fun k _ => rfl⟩), fun h => by cases h⟩
      · refine noName (fun k => ?_) ?_
        · rw [impl_cellOf.f]
          congr 1
          funext b
          by_cases hbb : b = true
          · rw [if_pos hbb, if_pos hbb, if_pos z1, if_pos z0, impl_isName.f, hb]
            by_cases h97 : (c.toNat : Int) ≥ 97
            · rw [if_pos h97, Option.bind_some, decide_eq_false (fun h => hn ⟨h97, h⟩)]
              rfl
            · rw [if_neg h97, Option.bind_some]
              rfl
          · rw [if_neg hbb, if_neg hbb]
        · rw [spec_reName.f, if_pos z1, if_pos z0, hb]
          by_cases h97 : (c.toNat : Int) ≥ 97
          · rw [if_pos h97, decide_eq_false (fun h => hn ⟨h97, h⟩)]
          · rw [if_neg h97]
    · have z1 : ¬ ((s.size : Int) = 1) := by omega
      refine noName (fun k => ?_) ?_
      · rw [impl_cellOf.f]
        congr 1
        funext b
        by_cases hbb : b = true
        · rw [if_pos hbb, if_pos hbb, if_neg z1]
        · rw [if_neg hbb, if_neg hbb]
      · rw [spec_reName.f, if_neg z1]
  · rw [Bool.eq_false_iff.2 hg] at hi
    rw [if_neg hg] at hr
    have hcell : Ev (fun k => impl_cellOf.f k t s) (0, false) := Ev.congr (fun k => rfl) (Ev.bind hi (cellOf_true t s))
    exact ⟨false, Ev.congr (fun k => rfl) (Ev.bind hr ⟨0, fun k _ => rfl⟩), Ev.congr (fun k => rfl) (Ev.bind hcell ⟨0, fun k _ => rfl⟩), fun h => by cases h⟩
theorem sz_cases (t s : ByteArray) (g : Int) (h0 : t.size ≤ 140737488351232) (h1 : s.size ≤ 140737488351232) : (∃ v, laws_szPuzzle.f t s g 1048576 = some v ∧ v < 0) ∨ (∃ v, laws_szPuzzle.f t s g 1048576 = some v ∧ ¬ v < 0 ∧ t.size ≤ 1048576) := by
  have e0 : wrap64 ((1048576 : Int) - (t.size : Int)) = (1048576 : Int) - (t.size : Int) := wr (by omega) (by omega)
  have e1 : wrap64 ((1048576 : Int) - (t.size : Int) - (s.size : Int)) = (1048576 : Int) - (t.size : Int) - (s.size : Int) := wr (by omega) (by omega)
  rw [laws_szPuzzle.f, e0, e1]
  by_cases c0 : (1048576 : Int) - (t.size : Int) < 0
  · rw [if_pos c0]
    exact .inl ⟨_, rfl, by decide⟩
  · rw [if_neg c0]
    by_cases c1 : (1048576 : Int) - (t.size : Int) - (s.size : Int) < 0
    · rw [if_pos c1]
      exact .inl ⟨_, rfl, by decide⟩
    · rw [if_neg c1]
      exact .inr ⟨_, rfl, c1, by omega⟩
end Go.Proofs.YtcglmngfglmcgaaDoorL
