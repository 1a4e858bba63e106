/- Plain laws of trays as texts: rows between slashes, the reference's scan of a text, names that occur at most once. No program stands in this text. -/
import Derived.Lib.SplitLaws
import Derived.Lib.IndexBytes
import Derived.Lib.SlTrimSet
import Derived.Lib.Join
import Derived.Test.YtplifefnjeledaaDoorWWords
set_option linter.unusedVariables false
set_option linter.unusedSimpArgs false
namespace Go.Proofs.YtplifefnjeledaaDoorM
open Go.Proofs.YtplifefnjeledaaDoorW.PrintWords

/-- The pieces between the bytes c. -/
def splitC (c : UInt8) : List UInt8 → List (List UInt8)
 | [] => [[]]
 | b :: l => if b = c then [] :: splitC c l else match splitC c l with
  | [] => [[b]]
  | r :: rs => (b :: r) :: rs
theorem splitC_form (c : UInt8) (l : List UInt8) : ∃ r rs, splitC c l = r :: rs := by
 cases l with
 | nil => exact ⟨[], [], rfl⟩
 | cons b l =>
  unfold splitC
  split
  ·exact ⟨_, _, rfl⟩
  ·split <;> exact ⟨_, _, rfl⟩
theorem splitC_at (c : UInt8) (l : List UInt8) : splitC c (c :: l) = [] :: splitC c l := by
 rw [splitC, if_pos rfl]
theorem splitC_ne {c b : UInt8} (h : b ≠ c) {l r : List UInt8} {rs : List (List UInt8)} (e : splitC c l = r :: rs) : splitC c (b :: l) = (b :: r) :: rs := by
 rw [splitC, if_neg h, e]
theorem index_cons_ne {b c : UInt8} (h : b ≠ c) (l : List UInt8) (hi : Lib.index l [c] ≠ -1) : Lib.index (b :: l) [c] = Lib.index l [c] + 1 := by
 rw [Lib.index_one] at *
 rw [Lib.index_one]
 have hb : (b == c) = false := beq_eq_false_iff_ne.2 h
 have hm : (Lib.indexByte l c == -1) = false := beq_eq_false_iff_ne.2 hi
 rw [Lib.indexByte, hb, hm]
 simp
theorem index_found {c : UInt8} : ∀ {l : List UInt8} {k : Nat}, Lib.count l [c] = k + 1 → Lib.index l [c] ≠ -1 ∧ 0 ≤ Lib.index l [c] := by
 intro l k h
 rw [Lib.count_one] at h
 have hm : c ∈ l := List.count_pos_iff.1 (by omega)
 rw [Lib.index_one]
 clear h
 induction l with
 | nil => cases hm
 | cons b l ih =>
  rw [Lib.indexByte]
  by_cases e : b = c
  ·rw [if_pos (beq_iff_eq.2 e)]
   decide
  ·have := ih (by
    rcases List.mem_cons.1 hm with h | h
    ·exact absurd h.symm e
    ·exact h)
   rw [if_neg (by simpa using e), if_neg (by simpa using this.1)]
   omega
theorem splitK_eq (c : UInt8) : ∀ l : List UInt8, Lib.splitK [c] 0 (Lib.count l [c]) l = splitC c l := by
 intro l
 induction l with
 | nil => rfl
 | cons b l ih =>
  by_cases e : b = c
  ·subst e
   rw [Lib.count_cons_eq, splitC_at, Nat.add_comm]
   rw [Lib.splitK, if_neg]
   ·have h0 : Lib.index (b :: l) [b] = 0 := by rw [Lib.index_one, Lib.indexByte, if_pos (by simp)]
    rw [h0, ← ih]
    rfl
   ·rw [Lib.index_one, Lib.indexByte, if_pos (by simp)]
    decide
  ·rw [Lib.count_cons_ne b c l e]
   cases hk : Lib.count l [c] with
   | zero =>
    rw [hk] at ih
    have h1 : splitC c l = [l] := ih.symm
    rw [splitC_ne e h1]
    rfl
   | succ k =>
    rw [hk] at ih
    obtain ⟨hi, hi0⟩ := index_found hk
    have hi2 := index_cons_ne e l hi
    rw [Lib.splitK, if_neg (by simpa using hi)] at ih
    rw [Lib.splitK, hi2, if_neg (by simp; omega), splitC_ne e ih.symm]
    obtain ⟨i, hi3⟩ := Int.eq_ofNat_of_zero_le hi0
    rw [hi3]
    have e1 : ((i : Int) + 1).toNat = i + 1 := by omega
    rw [e1]
    simp
theorem splitC_count (c n : UInt8) (h : n ≠ c) : ∀ l, (splitC c l).flatten.count n = l.count n := by
 intro l
 induction l with
 | nil => rfl
 | cons b l ih =>
  obtain ⟨r, rs, e⟩ := splitC_form c l
  by_cases hb : b = c
  ·subst hb
   rw [splitC_at, List.flatten_cons, List.nil_append, ih, List.count_cons]
   simp [Ne.symm h]
  ·rw [splitC_ne hb e, List.flatten_cons, List.cons_append, List.count_cons, List.count_cons, ← ih, e, List.flatten_cons]
theorem splitC_len (c : UInt8) : ∀ l, (splitC c l).flatten.length + (splitC c l).length = l.length + 1 := by
 intro l
 induction l with
 | nil => rfl
 | cons b l ih =>
  obtain ⟨r, rs, e⟩ := splitC_form c l
  by_cases hb : b = c
  ·subst hb
   rw [splitC_at]
   simp only [List.flatten_cons, List.nil_append, List.length_cons]
   omega
  ·rw [splitC_ne hb e]
   rw [e] at ih
   simp only [List.flatten_cons, List.cons_append, List.length_cons, List.length_append] at ih ⊢
   omega

/-- Is a byte a cell? -/
def okc (c : UInt8) : Bool := c == 35 || (c == 46 || (c == 111 || (decide (97 ≤ c.toNat) && decide (c.toNat ≤ 102))))
def ints (l : List UInt8) : List Int := l.map fun b => (b.toNat : Int)
theorem ints_append (a b : List UInt8) : ints (a ++ b) = ints a ++ ints b := by simp [ints]
theorem ints_length (a : List UInt8) : (ints a).length = a.length := by simp [ints]

/-- The reference's scan: what is left, the place in the row, the columns and rows so far, the cells so far. -/
def scan : List UInt8 → Nat → Nat → Nat → List Int → Option (Nat × Nat × List Int)
 | [], x, w, h, cs => if x = 0 ∨ (0 < h ∧ x ≠ w) then none else some (x, h + 1, cs)
 | c :: l, x, w, h, cs => if c = 47 then (if x = 0 ∨ (0 < h ∧ x ≠ w) then none else scan l 0 x (h + 1) cs) else (if okc c = true then scan l (x + 1) w h (cs ++ [(c.toNat : Int)]) else none)
def scanned (x w h : Nat) (cs : List Int) : List (List UInt8) → Option (Nat × Nat × List Int)
 | [] => none
 | r :: rs => if (r.all okc = true ∧ x + r.length ≠ 0) ∧ (h = 0 ∨ x + r.length = w) ∧ rs.all (fun q => q.all okc && decide (q.length = x + r.length)) = true then some (x + r.length, h + 1 + rs.length, cs ++ ints r ++ ints rs.flatten) else none
theorem scan_eq : ∀ (l : List UInt8) (x w h : Nat) (cs : List Int), scan l x w h cs = scanned x w h cs (splitC 47 l) := by
 intro l
 induction l with
 | nil =>
  intro x w h cs
  simp only [scan, splitC, scanned, List.all_nil, List.length_nil, Nat.add_zero, List.flatten_nil, ints, List.map_nil, List.append_nil, and_true, true_and]
  by_cases c1 : x = 0 ∨ (0 < h ∧ x ≠ w)
  ·rw [if_pos c1, if_neg]
   rintro ⟨h1, h2⟩
   omega
  ·rw [if_neg c1, if_pos]
   constructor <;> omega
 | cons c l ih =>
  intro x w h cs
  obtain ⟨r, rs, e⟩ := splitC_form 47 l
  by_cases hc : c = 47
  ·subst hc
   rw [scan, if_pos rfl, splitC_at, e]
   simp only [scanned, List.all_nil, List.length_nil, Nat.add_zero, true_and]
   by_cases c1 : x = 0 ∨ (0 < h ∧ x ≠ w)
   ·rw [if_pos c1, if_neg]
    rintro ⟨h1, h2, _⟩
    omega
   ·rw [if_neg c1, ih, e]
    simp only [scanned, Nat.zero_add, List.all_cons, Bool.and_eq_true, decide_eq_true_eq, List.length_cons, List.flatten_cons]
    by_cases c2 : (r.all okc = true ∧ r.length ≠ 0) ∧ (h + 1 = 0 ∨ r.length = x) ∧ rs.all (fun q => q.all okc && decide (q.length = r.length)) = true
    ·have hx : r.length = x := by omega
     rw [if_pos c2, if_pos]
     ·rw [hx, ints_append]
      simp [ints]
      omega
     ·rw [← hx]
      exact ⟨c2.1.2, by omega, ⟨c2.1.1, rfl⟩, c2.2.2⟩
    ·rw [if_neg c2, if_neg]
     rintro ⟨h1, h2, ⟨h3, h4⟩, h5⟩
     refine c2 ⟨⟨h3, by omega⟩, .inr h4, ?_⟩
     rw [h4]
     exact h5
  ·rw [scan, if_neg hc, splitC_ne hc e]
   simp only [scanned, List.all_cons, Bool.and_eq_true, List.length_cons]
   by_cases ho : okc c = true
   ·rw [if_pos ho, ih, e]
    simp only [scanned, ho, true_and]
    have ex : x + 1 + r.length = x + (r.length + 1) := by omega
    rw [ex]
    simp only [ints, List.map_cons, List.append_assoc, List.cons_append, List.nil_append]
   ·rw [if_neg ho, if_neg]
    rintro ⟨⟨⟨h1, _⟩, _⟩, _⟩
    exact ho h1

/-- Names that occur at most once. -/
def isNm (n : Int) : Bool := decide (97 ≤ n) && decide (n ≤ 102)
def uniq : List Int → List Int → Bool
 | _, [] => true
 | pre, c :: rest => !(isNm c && pre.contains c) && uniq (pre ++ [c]) rest
theorem uniq_iff : ∀ (rest pre : List Int), (∀ n, isNm n = true → pre.count n ≤ 1) → (uniq pre rest = true ↔ ∀ n, isNm n = true → (pre ++ rest).count n ≤ 1) := by
 intro rest
 induction rest with
 | nil =>
  intro pre hp
  simp only [uniq, List.append_nil, true_iff]
  exact hp
 | cons c rest ih =>
  intro pre hp
  simp only [uniq, Bool.and_eq_true, Bool.not_eq_true', Bool.and_eq_false_iff]
  by_cases h : isNm c = true ∧ pre.contains c = true
  ·constructor
   ·rintro ⟨h1 | h1, _⟩
    ·rw [h.1] at h1; cases h1
    ·rw [h.2] at h1; cases h1
   ·intro h1
    have h2 := h1 c h.1
    have h3 : 0 < pre.count c := List.count_pos_iff.2 (by simpa using h.2)
    rw [List.count_append, List.count_cons] at h2
    simp at h2
    omega
  ·have hp' : ∀ n, isNm n = true → (pre ++ [c]).count n ≤ 1 := by
    intro n hn
    rw [List.count_append, List.count_singleton]
    by_cases e : c = n
    ·subst e
     have h0 : pre.count c = 0 := by
      rw [List.count_eq_zero]
      intro hm
      exact h ⟨hn, by simpa using hm⟩
     rw [h0]
     simp
    ·have := hp n hn
     simp [e]
     omega
   have h2 := ih (pre ++ [c]) hp'
   rw [List.append_assoc] at h2
   constructor
   ·rintro ⟨_, h3⟩
    exact h2.1 h3
   ·intro h3
    refine ⟨?_, h2.2 h3⟩
    by_cases h4 : isNm c = true
    ·right
     cases h5 : pre.contains c with
     | false => rfl
     | true => exact absurd ⟨h4, h5⟩ h
    ·left
     simpa using h4

/-- A tray as rows. -/
def rowsOf (t : ByteArray) : List (List UInt8) := splitC 47 t.data.toList
def shaped : List (List UInt8) → Bool
 | [] => false
 | r :: rs => ((decide (1 ≤ r.length) && decide (r.length ≤ 7)) && (decide (rs.length + 1 ≤ 7) && decide (r.length * (rs.length + 1) ≤ 36))) && (r :: rs).all (fun q => q.all okc && decide (q.length = r.length))
def named (rs : List (List UInt8)) : Bool := uniq [] (ints rs.flatten)
def good (t : ByteArray) : Bool := shaped (rowsOf t) && named (rowsOf t)
def W (t : ByteArray) : Nat := (rowsOf t).head?.elim 0 List.length
def H (t : ByteArray) : Nat := (rowsOf t).length
def CS (t : ByteArray) : List Int := ints (rowsOf t).flatten
theorem rows_form (t : ByteArray) : ∃ r rs, rowsOf t = r :: rs := splitC_form 47 _
theorem flat_len {n : Nat} : ∀ {l : List (List UInt8)}, (∀ q ∈ l, q.length = n) → l.flatten.length = n * l.length
 | [], _ => by simp
 | q :: l, h => by
  rw [List.flatten_cons, List.length_append, flat_len (fun q hq => h q (List.mem_cons_of_mem _ hq)), h q (List.mem_cons_self ..), List.length_cons, Nat.mul_add]
  omega
theorem shaped_iff {r : List UInt8} {rs : List (List UInt8)} : shaped (r :: rs) = true ↔ (1 ≤ r.length ∧ r.length ≤ 7) ∧ (rs.length + 1 ≤ 7 ∧ r.length * (rs.length + 1) ≤ 36) ∧ ∀ q ∈ r :: rs, q.all okc = true ∧ q.length = r.length := by
 unfold shaped
 simp only [Bool.and_eq_true, decide_eq_true_eq, List.all_eq_true]
 constructor
 ·rintro ⟨⟨h1, h2⟩, h3⟩; exact ⟨h1, h2, h3⟩
 ·rintro ⟨h1, h2, h3⟩; exact ⟨⟨h1, h2⟩, h3⟩
theorem good_facts {t : ByteArray} (h : good t = true) : 1 ≤ W t ∧ W t ≤ 7 ∧ 1 ≤ H t ∧ H t ≤ 7 ∧ W t * H t ≤ 36 ∧ (CS t).length = W t * H t ∧ t.size + 1 = W t * H t + H t := by
 obtain ⟨r, rs, e⟩ := rows_form t
 have hs : shaped (r :: rs) = true := by
  unfold good at h
  rw [e] at h
  simp only [Bool.and_eq_true] at h
  exact h.1
 obtain ⟨⟨h1, h2⟩, ⟨h3, h4⟩, h5⟩ := shaped_iff.1 hs
 have hW : W t = r.length := by unfold W; rw [e]; rfl
 have hH : H t = rs.length + 1 := by unfold H; rw [e]; rfl
 have hf : (r :: rs).flatten.length = r.length * (rs.length + 1) := by
  have := flat_len (n := r.length) (l := r :: rs) (fun q hq => (h5 q hq).2)
  simpa using this
 have hl := splitC_len 47 t.data.toList
 have e' : splitC 47 t.data.toList = r :: rs := e
 rw [e', hf] at hl
 have hz : t.data.toList.length = t.size := by rw [Array.length_toList]; rfl
 refine ⟨by omega, by omega, by omega, by omega, by rw [hW, hH]; exact h4, ?_, ?_⟩
 ·unfold CS
  rw [e, ints_length, hf, hW, hH]
 ·rw [hW, hH]
  rw [hz] at hl
  simp at hl
  omega
end Go.Proofs.YtplifefnjeledaaDoorM
