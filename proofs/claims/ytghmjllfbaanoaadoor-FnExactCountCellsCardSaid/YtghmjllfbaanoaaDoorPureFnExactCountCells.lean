/- The program's CountCells returns what the reference's returns: for all arguments the law FnExactCountCells returns true. -/
import Derived.Test.YtghmjllfbaanoaaDoorLTray
import Derived.Test.YtghmjllfbaanoaaDoorQx4
set_option linter.unusedVariables false
set_option linter.unusedSimpArgs false
namespace Go.Proofs.YtghmjllfbaanoaaDoor.Pure
open Go.RowKit Go.Proofs.YtghmjllfbaanoaaDoor.Q Go.Proofs.YtghmjllfbaanoaaDoorW.PrintWords Go.Proofs.YtghmjllfbaanoaaDoorW.PrintLast Go.Proofs.YtghmjllfbaanoaaDoorM Go.Proofs.YtghmjllfbaanoaaDoorL

/-- The one byte of a text of one byte. -/
theorem one_byte {s : ByteArray} (h : s.size = 1) : ∃ c : UInt8, s = ⟨#[c]⟩ ∧ bt s 0 = (c.toNat : Int) := by
  obtain ⟨a⟩ := s
  have hz : a.size = 1 := h
  obtain ⟨l⟩ := a
  match l, hz with
  | [c], _ => exact ⟨c, rfl, rfl⟩
theorem isCell_of (c : UInt8) : impl_isCell.f ⟨#[c]⟩ = some (okc c) := by
  have h : ∀ k : Fin 256, impl_isCell.f ⟨#[UInt8.ofNat k.val]⟩ = some (okc (UInt8.ofNat k.val)) := by decide +kernel
  have := h ⟨c.toNat, c.toNat_lt⟩
  simpa using this
theorem tyOne_of (c : UInt8) : spec_tyOne.f ⟨#[c]⟩ = some (okc c) := by
  have h : ∀ k : Fin 256, spec_tyOne.f ⟨#[UInt8.ofNat k.val]⟩ = some (okc (UInt8.ofNat k.val)) := by decide +kernel
  have := h ⟨c.toNat, c.toNat_lt⟩
  simpa using this
theorem ne_slash {c : UInt8} (h : okc c = true) : c ≠ 47 := by
  rintro rfl
  revert h
  decide
theorem l0_count (c : UInt8) (cs : List Int) (hl : cs.length < 1000000) : ∀ (d i n : Nat), cs.length - i = d → i ≤ cs.length → n ≤ i →
    Ev (fun k => spec_CountCells.l0 k ⟨#[c]⟩ (n : Int) cs (cs.length : Int) (i : Int)) (((n + (cs.drop i).count (c.toNat : Int) : Nat) : Int), true) := by
  have hb : Aside0 (bt (⟨#[c]⟩ : ByteArray) 0 = (c.toNat : Int)) := ⟨rfl⟩
  have hs : (0 : Int) < ((⟨#[c]⟩ : ByteArray).size : Int) := by show (0 : Int) < ((1 : Nat) : Int); decide
  intro d
  induction d with
  | zero =>
    intro i n hd hi hn
    have e : i = cs.length := by omega
    subst e
    rw [List.drop_length, List.count_nil, Nat.add_zero]
    refine Ev.step (f := fun _ => some ((n : Int), true)) (fun k => ?_) (Ev.now _)
    rw [spec_CountCells.l0, if_neg (by omega)]
  | succ d ih =>
    intro i n hd hi hn
    have hlt : i < cs.length := by omega
    have hrd : rd cs (i : Int) = cs[i] := by
      unfold rd
      rw [Int.toNat_natCast, List.getD_eq_getElem?_getD, List.getElem?_eq_getElem hlt]
      rfl
    have hw : wrap64 ((i : Int) + 1) = ((i + 1 : Nat) : Int) := by rw [wr (by omega) (by omega)]; rfl
    have hwn : wrap64 ((n : Int) + 1) = ((n + 1 : Nat) : Int) := by rw [wr (by omega) (by omega)]; rfl
    rw [List.drop_eq_getElem_cons hlt]
    by_cases e : cs[i] = (c.toNat : Int)
    · have h1 := ih (i + 1) (n + 1) (by omega) (by omega) (by omega)
      rw [e, List.count_cons_self]
      rw [show n + 1 + (cs.drop (i + 1)).count (c.toNat : Int) = n + ((cs.drop (i + 1)).count (c.toNat : Int) + 1) by omega] at h1
      refine Ev.step (fun k => ?_) h1
      rw [spec_CountCells.l0, if_pos (by omega), if_pos (by omega), if_pos (by omega), if_pos hs, hrd, hb.out, if_pos e, hw, hwn]
    · have h1 := ih (i + 1) n (by omega) (by omega) (by omega)
      rw [List.count_cons_of_ne e]
      refine Ev.step (fun k => ?_) h1
      rw [spec_CountCells.l0, if_pos (by omega), if_pos (by omega), if_pos (by omega), if_pos hs, hrd, hb.out, if_neg e, hw]
theorem counts (t : ByteArray) (c : UInt8) (h : c ≠ 47) : (CS t).count (c.toNat : Int) = t.data.toList.count c := by
  show (ints (rowsOf t).flatten).count (c.toNat : Int) = _
  rw [ints_count _ _ c.toNat_lt]
  have h3 := splitC_count 47 c h t.data.toList
  have h4 : (rowsOf t).flatten = (splitC 47 t.data.toList).flatten := rfl
  rw [h4]
  simpa using h3
theorem j0_true (s : ByteArray) (a b : Int) (cs : List Int) : Ev (fun k => spec_CountCells.j0 k s true a b cs) (0, false) :=
  Ev.step (f := fun _ => some (0, false)) (fun k => by rw [spec_CountCells.j0, if_pos rfl]) (Ev.now _)
theorem tell (g : Nat → Option (Int × Bool)) (f : Nat → Option (Int × Bool)) (r : Int × Bool) (h1 : Ev g r) (h2 : Ev f r) :
    Ev (fun k => (g k).bind fun b1 => (f k).bind fun b2 => (if b2.1 = b1.1 then (if (b2.2 != b1.2) = true then (some false) else (some true)) else (some false))) true := by
  refine Ev.bind h1 (Ev.bind h2 ?_)
  refine ⟨0, fun k _ => ?_⟩
  simp
theorem FnExactCountCells : laws_FnExactCountCells.Pure := by
  intro t s _ _
  by_cases ht : (t.size : Int) > 1048576
  · exact ⟨0, by rw [laws_FnExactCountCells.f, if_pos ht]⟩
  by_cases hs : (s.size : Int) > 1048576
  · exact ⟨0, by rw [laws_FnExactCountCells.f, if_neg ht, if_pos hs]⟩
  refine Ev.rounds (Ev.congr (fun k => by rw [laws_FnExactCountCells.f, if_neg ht, if_neg hs]) ?_)
  have hi := isTray_eq t (by omega)
  have hr := tyRead_eq t
  by_cases hg : good t = true
  · obtain ⟨f1, f2, f3, f4, f5, f6, f7⟩ := good_facts hg
    rw [hg] at hi
    rw [if_pos hg] at hr
    by_cases h1 : s.size = 1
    · obtain ⟨c, rfl, -⟩ := one_byte h1
      by_cases ho : okc c = true
      · have hz := l0_count c (CS t) (by omega) (CS t).length 0 0 (by omega) (by omega) (by omega)
        rw [List.drop_zero, Nat.zero_add, counts t c (ne_slash ho)] at hz
        refine tell _ _ (((t.data.toList.count c : Nat) : Int), true) (Ev.congr (fun k => rfl) (Ev.bind hr ?_)) (Ev.congr (fun k => rfl) (Ev.bind hi ?_))
        · refine Ev.congr (f := fun k => spec_CountCells.j0 k ⟨#[c]⟩ false (W t : Int) (H t : Int) (CS t)) (fun k => ?_) (Ev.step (fun k => ?_) hz)
          · rw [if_pos rfl, tyOne_of, ho]; rfl
          · rw [spec_CountCells.j0, if_neg (by decide)]; rfl
        · refine Ev.congr (f := fun _ => some (((t.data.toList.count c : Nat) : Int), true)) (fun k => ?_) (Ev.now _)
          rw [if_pos rfl, isCell_of, ho]
          simp only [Option.bind_some, if_true]
          rw [strings_Count.f, if_pos (show (⟨#[c]⟩ : ByteArray).size = 1 from rfl)]
          show some (((Lib.count t.data.toList [c] : Nat) : Int), true) = _
          rw [Lib.count_one]
      · have ho' : okc c = false := Bool.eq_false_iff.2 ho
        refine tell _ _ (0, false) (Ev.congr (fun k => rfl) (Ev.bind hr ?_)) (Ev.congr (fun k => rfl) (Ev.bind hi ?_))
        · refine Ev.congr (fun k => ?_) (j0_true ⟨#[c]⟩ (W t : Int) (H t : Int) (CS t))
          rw [if_pos rfl, tyOne_of, ho']; rfl
        · refine Ev.congr (f := fun _ => some (0, false)) (fun k => ?_) (Ev.now _)
          rw [if_pos rfl, isCell_of, ho']
          rfl
    · refine tell _ _ (0, false) (Ev.congr (fun k => rfl) (Ev.bind hr ?_)) (Ev.congr (fun k => rfl) (Ev.bind hi ?_))
      · refine Ev.congr (fun k => ?_) (j0_true s (W t : Int) (H t : Int) (CS t))
        rw [if_pos rfl, spec_tyOne.f, if_neg (by omega)]; rfl
      · refine Ev.congr (f := fun _ => some (0, false)) (fun k => ?_) (Ev.now _)
        rw [if_pos rfl, impl_isCell.f, if_neg (by omega)]
        rfl
  · rw [Bool.eq_false_iff.2 hg] at hi
    rw [if_neg hg] at hr
    refine tell _ _ (0, false) (Ev.congr (fun k => rfl) (Ev.bind hr ?_)) (Ev.congr (fun k => rfl) (Ev.bind hi (Ev.now _)))
    exact j0_true s 0 0 []

end Go.Proofs.YtghmjllfbaanoaaDoor.Pure
