/- The program's ShortWord returns what the reference's returns: for all arguments the law FnExactShortWord returns true. -/
import Derived.Test.YtfpjnpfhglaboaaDoorLWord
import Derived.Test.YtfpjnpfhglaboaaDoorVCompact
import Derived.Test.YtfpjnpfhglaboaaDoorQx1
import Derived.Test.YtfpjnpfhglaboaaDoorQx2
set_option linter.unusedVariables false
set_option linter.unusedSimpArgs false
namespace Go.Proofs.YtfpjnpfhglaboaaDoor.Pure
open Go.RowKit Go.Proofs.YtfpjnpfhglaboaaDoor.Q Go.Proofs.YtfpjnpfhglaboaaDoorW.PrintWords Go.Proofs.YtfpjnpfhglaboaaDoorW.PrintLast Go.Proofs.YtfpjnpfhglaboaaDoorL Go.Proofs.YtfpjnpfhglaboaaDoorV
def DA (t : ByteArray) : Array Int := (t.data.toList.map fun b => ((b.toNat : Nat) : Int)).toArray
def sS (t : ByteArray) (i : Nat) : ByteArray := strOfNums (Lib.compactUpTo (DA t) i)
theorem DA_at (t : ByteArray) (i : Nat) (h : i < t.size) : (DA t)[i]! = (((t.data[i]'h).toNat : Nat) : Int) := by
  have hl : i < t.data.size := h
  unfold DA
  simp [hl]
  rw [Array.getElem?_eq_getElem hl]
  rfl
theorem num_ne (a b : UInt8) : (((a.toNat : Nat) : Int) ≠ ((b.toNat : Nat) : Int)) ↔ a ≠ b := by
  constructor
  · intro h e
    exact h (by rw [e])
  · intro h e
    exact h (UInt8.toNat_inj.1 (by omega))
theorem sS_succ (t : ByteArray) (i : Nat) (h : i < t.size) : sS t (i + 1) = if Lib.keeps (DA t) i = true then sS t i ++ ⟨#[t.data[i]'h]⟩ else sS t i := by
  unfold sS
  rw [Lib.compactUpTo_succ]
  by_cases hk : Lib.keeps (DA t) i = true
  · rw [if_pos hk, if_pos hk, DA_at t i h]
    apply ByteArray.ext
    rw [ByteArray.data_append]
    unfold strOfNums
    simp
  · rw [if_neg hk, if_neg hk, List.append_nil]
theorem sS_size (t : ByteArray) (i : Nat) : (sS t i).size ≤ i := by
  unfold sS strOfNums Lib.compactUpTo
  show (List.map _ _).toArray.size ≤ i
  simp only [List.size_toArray, List.length_map]
  have := List.length_filter_le (Lib.keeps (DA t)) (List.range i)
  rw [List.length_range] at this
  exact this
theorem btA (t : ByteArray) (i : Nat) (h : i < t.size) : bt t (i : Int) = (((t.data[i]'h).toNat : Nat) : Int) := by
  have hl : i < t.data.size := h
  unfold bt
  rw [Int.toNat_natCast, dif_pos h]
  rfl
theorem keeps_zero (t : ByteArray) : Lib.keeps (DA t) 0 = true := by simp [Lib.keeps]
theorem keeps_ne (t : ByteArray) (i : Nat) (h : i + 1 < t.size) : Lib.keeps (DA t) (i + 1) = true ↔ ¬ bt t ((i + 1 : Nat) : Int) = bt t (i : Int) := by
  rw [btA t (i + 1) h, btA t i (by omega)]
  unfold Lib.keeps
  rw [decide_eq_true_eq, Nat.add_sub_cancel, DA_at t (i + 1) h, DA_at t i (by omega)]
  constructor
  · rintro (h1 | h1)
    · cases h1
    · exact h1
  · exact fun h1 => .inr h1
theorem tiShort_l0 (t : ByteArray) (hs : t.size ≤ 40) : ∀ (d i : Nat), t.size - i = d → i ≤ t.size → Ev (fun k => spec_tiShort.l0 k t (sS t i) (i : Int)) (sS t t.size) := by
  intro d
  induction d with
  | zero =>
    intro i hd hi
    have e : i = t.size := by omega
    subst e
    have g : ¬ ((t.size : Int) < (t.size : Int)) := by omega
    exact Ev.step (f := fun _ => some (sS t t.size)) (fun k => by rw [spec_tiShort.l0, if_neg g]) (Ev.now _)
  | succ d ih =>
    intro i hd hi
    have hlt : i < t.size := by omega
    have hI := ih (i + 1) (by omega) (by omega)
    have hst := sS_succ t i hlt
    have hsz := sS_size t i
    have g : (i : Int) < (t.size : Int) := by omega
    have g0 : (0 : Int) ≤ (i : Int) := by omega
    have g1 : (i : Int) ≤ ((i + 1 : Nat) : Int) := by omega
    have g2 : ((i + 1 : Nat) : Int) ≤ (t.size : Int) := by omega
    have b : i + 1 < 1000000 := by omega
    have e : wrap64 ((i : Int) + 1) = ((i + 1 : Nat) : Int) := wmW b rfl
    have e1 : (⟨#[t.data[i]'hlt]⟩ : ByteArray).size = 1 := rfl
    have g3 : (sS t i).size + (t.extract i (i + 1)).size ≤ 9223372036854775807 := by
      rw [cut_one t i hlt, e1]
      omega
    refine Ev.step (f := fun k => spec_tiShort.l0 k t (sS t (i + 1)) ((i + 1 : Nat) : Int)) (fun k => ?_) hI
    cases i with
    | zero =>
      rw [keeps_zero, if_pos rfl, ← cut_one t 0 hlt] at hst
      have gz : ((0 : Nat) : Int) = 0 := rfl
      rw [spec_tiShort.l0, if_pos g, if_pos gz, if_pos g0, e, if_pos g1, if_pos g2, Int.toNat_natCast, Int.toNat_natCast, if_pos g3, hst]
    | succ i =>
      have gz : ¬ ((i + 1 : Nat) : Int) = 0 := by omega
      have em : wrap64 (((i + 1 : Nat) : Int) - 1) = (i : Int) := wmW (n := i) (by omega) (by omega)
      have g4 : (0 : Int) ≤ (i : Int) := by omega
      have g5 : (i : Int) < (t.size : Int) := by omega
      have hk := keeps_ne t i hlt
      by_cases hb : bt t ((i + 1 : Nat) : Int) = bt t (i : Int)
      · rw [if_neg (fun h => hk.1 h hb)] at hst
        rw [spec_tiShort.l0, if_pos g, if_neg gz, if_pos g0, em, if_pos g4, if_pos g5, if_pos hb, e, hst]
      · rw [if_pos (hk.2 hb), ← cut_one t (i + 1) hlt] at hst
        rw [spec_tiShort.l0, if_pos g, if_neg gz, if_pos g0, em, if_pos g4, if_pos g5, if_neg hb, e, if_pos g1, if_pos g2, Int.toNat_natCast, Int.toNat_natCast, if_pos g3, hst]
theorem tiShort_eq (t : ByteArray) (hs : t.size ≤ 40) : Ev (fun k => spec_tiShort.f k t) (sS t t.size) :=
  Ev.congr (fun k => rfl) (tiShort_l0 t hs t.size 0 rfl (Nat.zero_le _))
theorem alike (t : ByteArray) : ∃ r : ByteArray × Bool, Ev (fun k => spec_ShortWord.f k t) r ∧ impl_ShortWord.f t = some r := by
  have hS := tiWord_eq t
  have hI := isWord_eq t
  cases hw : wordOk t with
  | false =>
    rw [hw] at hS hI
    refine ⟨(⟨#[]⟩, false), Ev.congr (fun k => rfl) (Ev.bind hS ⟨0, fun k _ => rfl⟩), ?_⟩
    rw [impl_ShortWord.f, hI, Option.bind_some]
    rfl
  | true =>
    rw [hw] at hS hI
    have hs : t.size ≤ 40 := by
      unfold wordOk at hw
      rw [Bool.and_eq_true, decide_eq_true_eq] at hw
      exact hw.1
    have hT := tiShort_eq t hs
    have hl : (t.data.toList.map fun b => ((b.toNat : Nat) : Int)).length = t.size := by rw [List.length_map, Array.length_toList]; rfl
    refine ⟨(sS t t.size, true), Ev.congr (fun k => rfl) (Ev.bind hS ?_), ?_⟩
    · exact Ev.congr (f := fun k => (spec_tiShort.f k t).bind fun t104 => (some (t104, true))) (g := _) (r := (sS t t.size, true)) (fun k => if_pos rfl) (Ev.bind hT (Ev.now _))
    · rw [impl_ShortWord.f, hI, Option.bind_some, if_pos rfl, if_pos (by omega), hl]
      rfl
theorem FnExactShortWord : laws_FnExactShortWord.Pure := by
  intro a _
  by_cases hta : (a.size : Int) > 1048576
  · exact ⟨0, by rw [laws_FnExactShortWord.f, if_pos hta]⟩
  refine Ev.rounds (Ev.congr (fun k => by rw [laws_FnExactShortWord.f, if_neg hta]) ?_)
  obtain ⟨r, hS, hI⟩ := alike a
  refine Ev.bind hS ⟨0, fun k _ => ?_⟩
  show (impl_ShortWord.f a).bind _ = _
  have hb : ¬ (r.2 != r.2) = true := by cases r.2 <;> decide
  rw [hI, Option.bind_some, if_pos rfl, if_neg hb]
end Go.Proofs.YtfpjnpfhglaboaaDoor.Pure
