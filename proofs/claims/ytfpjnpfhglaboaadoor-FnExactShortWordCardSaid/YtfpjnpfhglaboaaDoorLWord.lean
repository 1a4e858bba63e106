/- Words of directions: what the reference's tiWord and the program's IsWord say of a text. -/
import Derived.Lib.SlTrimSet
import Derived.Lib.Join
import Derived.Test.YtfpjnpfhglaboaaDoorWWords
import Derived.Test.YtfpjnpfhglaboaaDoorQx1
import Derived.Test.YtfpjnpfhglaboaaDoorQx2
set_option linter.unusedVariables false
set_option linter.unusedSimpArgs false
namespace Go.Proofs.YtfpjnpfhglaboaaDoorL
open Go.RowKit Go.Proofs.YtfpjnpfhglaboaaDoor.Q Go.Proofs.YtfpjnpfhglaboaaDoorW.PrintWords Go.Proofs.YtfpjnpfhglaboaaDoorW.PrintLast

theorem wrW {n : Int} (h0 : -9223372036854775808 ≤ n) (h1 : n ≤ 9223372036854775807) : wrap64 n = n := by
  unfold wrap64
  omega
theorem wmW {n : Nat} {z : Int} (h : n < 1000000) (hz : z = (n : Int)) : wrap64 z = (n : Int) := by
  rw [hz]
  exact wrW (by omega) (by omega)
theorem takeW_impW {p : UInt8 → Bool} {l : List UInt8} {x : UInt8} (h : x ∈ l.takeWhile p) : p x = true := List.all_eq_true.1 (List.all_takeWhile (p := p) (l := l)) x h
theorem dropW_nilW {p : UInt8 → Bool} : ∀ {l : List UInt8}, (∀ x ∈ l, p x = true) → l.dropWhile p = []
  | [], _ => rfl
  | a :: l, h => by
    rw [List.dropWhile_cons, if_pos (h a (List.mem_cons_self ..))]
    exact dropW_nilW fun x hx => h x (List.mem_cons_of_mem _ hx)
theorem trimS_nilW (cs : List UInt8) (l : List UInt8) : Lib.trimS l cs = [] ↔ l.all (cs.contains ·) = true := by
  unfold Lib.trimS Lib.trimLeftS Lib.trimRightS
  rw [List.all_eq_true]
  constructor
  · intro h
    have h1 : ∀ x ∈ (l.reverse.dropWhile (cs.contains ·)).reverse, cs.contains x = true := by
      intro x hx
      have h2 := List.takeWhile_append_dropWhile (p := (cs.contains ·)) (l := (l.reverse.dropWhile (cs.contains ·)).reverse)
      rw [h, List.append_nil] at h2
      rw [← h2] at hx
      exact takeW_impW hx
    intro x hx
    have h3 := List.takeWhile_append_dropWhile (p := (cs.contains ·)) (l := l.reverse)
    have h4 : x ∈ l.reverse := List.mem_reverse.2 hx
    rw [← h3] at h4
    rcases List.mem_append.1 h4 with h5 | h5
    · exact takeW_impW h5
    · exact h1 x (List.mem_reverse.2 h5)
  · intro h
    have h1 : l.reverse.dropWhile (cs.contains ·) = [] := by
      refine dropW_nilW ?_
      intro x hx
      exact h x (List.mem_reverse.1 hx)
    rw [h1]
    rfl
def isDirB (c : UInt8) : Bool := ([117, 114, 100, 108] : List UInt8).contains c
/-- The number of a direction; -1: none. -/
def dirI (c : UInt8) : Int := if c = 117 then 0 else if c = 114 then 1 else if c = 100 then 2 else if c = 108 then 3 else -1
theorem dirI_neg : ∀ c : UInt8, decide (dirI c < 0) = !isDirB c := by
  have h : ∀ k : Fin 256, decide (dirI (UInt8.ofNat k.val) < 0) = !isDirB (UInt8.ofNat k.val) := by decide +kernel
  intro c
  have := h ⟨c.toNat, c.toNat_lt⟩
  simpa using this
theorem tiDir_eq : ∀ c : UInt8, Ev (fun k => spec_tiDir.f k ⟨#[c]⟩) (dirI c) := by
  have h : ∀ k : Fin 256, spec_tiDir.f 6 ⟨#[UInt8.ofNat k.val]⟩ = some (dirI (UInt8.ofNat k.val)) := by decide +kernel
  intro c
  have := h ⟨c.toNat, c.toNat_lt⟩
  exact Ev.of (spec_tiDir.mono _) (by simpa using this)
theorem cut_one (a : ByteArray) (i : Nat) (h : i < a.size) : a.extract i (i + 1) = ⟨#[a.data[i]'h]⟩ := by
  apply ByteArray.ext
  rw [ByteArray.data_extract]
  apply Array.ext
  · simp
    have : a.data.size = a.size := rfl
    omega
  · intro j h1 h2
    have hj : j = 0 := by simp at h2; omega
    subst hj
    simp
def wordOk (t : ByteArray) : Bool := decide (t.size ≤ 40) && t.data.toList.all isDirB
theorem tiWord_l0 (t : ByteArray) (ht : t.size ≤ 40) : ∀ (d i : Nat), t.size - i = d → i ≤ t.size → Ev (fun k => spec_tiWord.l0 k t (i : Int)) ((t.data.toList.drop i).all isDirB) := by
  intro d
  induction d with
  | zero =>
    intro i hd hi
    have e : i = t.size := by omega
    subst e
    have g : ¬ ((t.size : Int) < (t.size : Int)) := by omega
    have e2 : t.data.toList.drop t.size = [] := List.drop_eq_nil_of_le (by rw [Array.length_toList]; exact Nat.le_refl _)
    rw [e2, List.all_nil]
    exact Ev.step (f := fun _ => some true) (fun k => by rw [spec_tiWord.l0, if_neg g]) (Ev.now _)
  | succ d ih =>
    intro i hd hi
    have hlt : i < t.size := by omega
    have hl : i < t.data.toList.length := by rw [Array.length_toList]; exact hlt
    have h1 := ih (i + 1) (by omega) (by omega)
    have g : (i : Int) < (t.size : Int) := by omega
    have g0 : (0 : Int) ≤ (i : Int) := by omega
    have g1 : (i : Int) ≤ ((i + 1 : Nat) : Int) := by omega
    have g2 : ((i + 1 : Nat) : Int) ≤ (t.size : Int) := by omega
    have b : i + 1 < 1000000 := by omega
    have e : wrap64 ((i : Int) + 1) = ((i + 1 : Nat) : Int) := wmW b rfl
    have D := tiDir_eq (t.data[i]'hlt)
    have hn := dirI_neg (t.data[i]'hlt)
    rw [List.drop_eq_getElem_cons hl, List.all_cons, Array.getElem_toList]
    refine Ev.step (f := fun k => (spec_tiDir.f k ⟨#[t.data[i]'hlt]⟩).bind fun t102 => (if t102 < 0 then (some false) else (spec_tiWord.l0 k t ((i + 1 : Nat) : Int)))) (fun k => ?_) (Ev.bind D ?_)
    · rw [spec_tiWord.l0, if_pos g, if_pos g0, e, if_pos g1, if_pos g2, Int.toNat_natCast, Int.toNat_natCast, cut_one t i hlt]
    · by_cases hb : isDirB (t.data[i]'hlt) = true
      · rw [hb, Bool.not_true] at hn
        rw [hb, Bool.true_and]
        refine Ev.congr (g := _) (r := _) (fun k => if_neg (of_decide_eq_false hn)) h1
      · rw [Bool.eq_false_iff.2 hb, Bool.not_false] at hn
        rw [Bool.eq_false_iff.2 hb, Bool.false_and]
        refine ⟨0, fun k _ => if_pos (of_decide_eq_true hn)⟩
theorem tiWord_eq (t : ByteArray) : Ev (fun k => spec_tiWord.f k t) (wordOk t) := by
  unfold wordOk
  by_cases h : t.size ≤ 40
  · have g : ¬ (t.size : Int) > 40 := by omega
    rw [decide_eq_true h, Bool.true_and]
    exact Ev.congr (g := _) (r := _) (fun k => by rw [spec_tiWord.f, if_neg g]; rfl) (tiWord_l0 t h t.size 0 rfl (Nat.zero_le _))
  · have g : (t.size : Int) > 40 := by omega
    rw [decide_eq_false h, Bool.false_and]
    exact ⟨0, fun k _ => by show spec_tiWord.f k t = _; rw [spec_tiWord.f, if_pos g]⟩
theorem isWord_eq (t : ByteArray) : impl_IsWord.f t = some (wordOk t) := by
  unfold wordOk
  rw [impl_IsWord.f]
  by_cases h : t.size ≤ 40
  · have g : (t.size : Int) ≤ 40 := by omega
    rw [decide_eq_true h, Bool.true_and, if_pos g, strings_Trim.f, if_pos (by omega), if_pos (by decide), if_pos (by decide), Option.bind_some]
    rw [Lib.toList_data]
    show some ((Lib.trimS t.data.toList [117, 114, 100, 108]) == []) = _
    have e : ((Lib.trimS t.data.toList [117, 114, 100, 108]) == []) = t.data.toList.all (([117, 114, 100, 108] : List UInt8).contains ·) := by
      rw [Bool.eq_iff_iff, beq_iff_eq, trimS_nilW]
    rw [e]
    rfl
  · have g : ¬ (t.size : Int) ≤ 40 := by omega
    rw [decide_eq_false h, Bool.false_and, if_neg g]
end Go.Proofs.YtfpjnpfhglaboaaDoorL
