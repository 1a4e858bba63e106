/- Plain laws of trays as texts: rows between slashes, the reference's scan of a text, names that occur at most once. No program stands in this text. -/
import Derived.Lib.SplitLaws
import Derived.Lib.IndexBytes
import Derived.Lib.SlTrimSet
import Derived.Lib.Join
import Derived.Test.YtoojemnocncafaaWWords
import Derived.Test.YtoojemnocncafaaVText
import Derived.Test.YtoojemnocncafaaVMv
import Derived.Test.YtoojemnocncafaaVMir
import Derived.Test.YtoojemnocncafaaQx4
import Derived.Test.YtoojemnocncafaaQx7
import Derived.Test.YtoojemnocncafaaQx9
import Derived.Test.YtoojemnocncafaaQx8
import Derived.Test.YtoojemnocncafaaQx10
set_option linter.unusedVariables false
set_option linter.unusedSimpArgs false
namespace Go.Proofs.YtoojemnocncafaaM
open Go.Proofs.YtoojemnocncafaaW.PrintWords

/-- The pieces between the bytes c. -/
def splitC (c : UInt8) : List UInt8 → List (List UInt8)
  | [] => [[]]
  | b :: l => if b = c then [] :: splitC c l else match splitC c l with
    | [] => [[b]]
    | r :: rs => (b :: r) :: rs
theorem splitC_form (c : UInt8) (l : List UInt8) : ∃ r rs, splitC c l = r :: rs := by
  cases l with
  | nil => exact ⟨[], [], rfl⟩
  | cons b l =>
    unfold splitC
    split
    · exact ⟨_, _, rfl⟩
    · split <;> exact ⟨_, _, rfl⟩
theorem splitC_at (c : UInt8) (l : List UInt8) : splitC c (c :: l) = [] :: splitC c l := by
  rw [splitC, if_pos rfl]
theorem splitC_ne {c b : UInt8} (h : b ≠ c) {l r : List UInt8} {rs : List (List UInt8)} (e : splitC c l = r :: rs) : splitC c (b :: l) = (b :: r) :: rs := by
  rw [splitC, if_neg h, e]
theorem index_cons_ne {b c : UInt8} (h : b ≠ c) (l : List UInt8) (hi : Lib.index l [c] ≠ -1) : Lib.index (b :: l) [c] = Lib.index l [c] + 1 := by
  rw [Lib.index_one] at *
  rw [Lib.index_one]
  have hb : (b == c) = false := beq_eq_false_iff_ne.2 h
  have hm : (Lib.indexByte l c == -1) = false := beq_eq_false_iff_ne.2 hi
  rw [Lib.indexByte, hb, hm]
  simp
theorem index_found {c : UInt8} : ∀ {l : List UInt8} {k : Nat}, Lib.count l [c] = k + 1 → Lib.index l [c] ≠ -1 ∧ 0 ≤ Lib.index l [c] := by
  intro l k h
  rw [Lib.count_one] at h
  have hm : c ∈ l := List.count_pos_iff.1 (by omega)
  rw [Lib.index_one]
  clear h
  induction l with
  | nil => cases hm
  | cons b l ih =>
    rw [Lib.indexByte]
    by_cases e : b = c
    · rw [if_pos (beq_iff_eq.2 e)]
      decide
    · have := ih (by
        rcases List.mem_cons.1 hm with h | h
        · exact absurd h.symm e
        · exact h)
      rw [if_neg (by simpa using e), if_neg (by simpa using this.1)]
      omega
theorem splitK_eq (c : UInt8) : ∀ l : List UInt8, Lib.splitK [c] 0 (Lib.count l [c]) l = splitC c l := by
  intro l
  induction l with
  | nil => rfl
  | cons b l ih =>
    by_cases e : b = c
    · subst e
      rw [Lib.count_cons_eq, splitC_at, Nat.add_comm]
      rw [Lib.splitK, if_neg]
      · have h0 : Lib.index (b :: l) [b] = 0 := by rw [Lib.index_one, Lib.indexByte, if_pos (by simp)]
        rw [h0, ← ih]
        rfl
      · rw [Lib.index_one, Lib.indexByte, if_pos (by simp)]
        decide
    · rw [Lib.count_cons_ne b c l e]
      cases hk : Lib.count l [c] with
      | zero =>
        rw [hk] at ih
        have h1 : splitC c l = [l] := ih.symm
        rw [splitC_ne e h1]
        rfl
      | succ k =>
        rw [hk] at ih
        obtain ⟨hi, hi0⟩ := index_found hk
        have hi2 := index_cons_ne e l hi
        rw [Lib.splitK, if_neg (by simpa using hi)] at ih
        rw [Lib.splitK, hi2, if_neg (by simp; omega), splitC_ne e ih.symm]
        obtain ⟨i, hi3⟩ := Int.eq_ofNat_of_zero_le hi0
        rw [hi3]
        have e1 : ((i : Int) + 1).toNat = i + 1 := by omega
        rw [e1]
        simp
theorem splitC_count (c n : UInt8) (h : n ≠ c) : ∀ l, (splitC c l).flatten.count n = l.count n := by
  intro l
  induction l with
  | nil => rfl
  | cons b l ih =>
    obtain ⟨r, rs, e⟩ := splitC_form c l
    by_cases hb : b = c
    · subst hb
      rw [splitC_at, List.flatten_cons, List.nil_append, ih, List.count_cons]
      simp [Ne.symm h]
    · rw [splitC_ne hb e, List.flatten_cons, List.cons_append, List.count_cons, List.count_cons, ← ih, e, List.flatten_cons]
theorem splitC_len (c : UInt8) : ∀ l, (splitC c l).flatten.length + (splitC c l).length = l.length + 1 := by
  intro l
  induction l with
  | nil => rfl
  | cons b l ih =>
    obtain ⟨r, rs, e⟩ := splitC_form c l
    by_cases hb : b = c
    · subst hb
      rw [splitC_at]
      simp only [List.flatten_cons, List.nil_append, List.length_cons]
      omega
    · rw [splitC_ne hb e]
      rw [e] at ih
      simp only [List.flatten_cons, List.cons_append, List.length_cons, List.length_append] at ih ⊢
      omega

/-- Is a byte a cell? -/
def okc (c : UInt8) : Bool := c == 35 || (c == 46 || (c == 111 || (decide (97 ≤ c.toNat) && decide (c.toNat ≤ 102))))
def ints (l : List UInt8) : List Int := l.map fun b => (b.toNat : Int)
theorem ints_append (a b : List UInt8) : ints (a ++ b) = ints a ++ ints b := by simp [ints]
theorem ints_length (a : List UInt8) : (ints a).length = a.length := by simp [ints]

/-- The reference's scan: what is left, the place in the row, the columns and rows so far, the cells so far. -/
def scan : List UInt8 → Nat → Nat → Nat → List Int → Option (Nat × Nat × List Int)
  | [], x, w, h, cs => if x = 0 ∨ (0 < h ∧ x ≠ w) then none else some (x, h + 1, cs)
  | c :: l, x, w, h, cs => if c = 47 then (if x = 0 ∨ (0 < h ∧ x ≠ w) then none else scan l 0 x (h + 1) cs) else (if okc c = true then scan l (x + 1) w h (cs ++ [(c.toNat : Int)]) else none)
def scanned (x w h : Nat) (cs : List Int) : List (List UInt8) → Option (Nat × Nat × List Int)
  | [] => none
  | r :: rs => if (r.all okc = true ∧ x + r.length ≠ 0) ∧ (h = 0 ∨ x + r.length = w) ∧ rs.all (fun q => q.all okc && decide (q.length = x + r.length)) = true then some (x + r.length, h + 1 + rs.length, cs ++ ints r ++ ints rs.flatten) else none
theorem scan_eq : ∀ (l : List UInt8) (x w h : Nat) (cs : List Int), scan l x w h cs = scanned x w h cs (splitC 47 l) := by
  intro l
  induction l with
  | nil =>
    intro x w h cs
    simp only [scan, splitC, scanned, List.all_nil, List.length_nil, Nat.add_zero, List.flatten_nil, ints, List.map_nil, List.append_nil, and_true, true_and]
    by_cases c1 : x = 0 ∨ (0 < h ∧ x ≠ w)
    · rw [if_pos c1, if_neg]
      rintro ⟨h1, h2⟩
      omega
    · rw [if_neg c1, if_pos]
      constructor <;> omega
  | cons c l ih =>
    intro x w h cs
    obtain ⟨r, rs, e⟩ := splitC_form 47 l
    by_cases hc : c = 47
    · subst hc
      rw [scan, if_pos rfl, splitC_at, e]
      simp only [scanned, List.all_nil, List.length_nil, Nat.add_zero, true_and]
      by_cases c1 : x = 0 ∨ (0 < h ∧ x ≠ w)
      · rw [if_pos c1, if_neg]
        rintro ⟨h1, h2, _⟩
        omega
      · rw [if_neg c1, ih, e]
        simp only [scanned, Nat.zero_add, List.all_cons, Bool.and_eq_true, decide_eq_true_eq, List.length_cons, List.flatten_cons]
        by_cases c2 : (r.all okc = true ∧ r.length ≠ 0) ∧ (h + 1 = 0 ∨ r.length = x) ∧ rs.all (fun q => q.all okc && decide (q.length = r.length)) = true
        · have hx : r.length = x := by omega
          rw [if_pos c2, if_pos]
          · rw [hx, ints_append]
            simp [ints]
            omega
          · rw [← hx]
            exact ⟨c2.1.2, by omega, ⟨c2.1.1, rfl⟩, c2.2.2⟩
        · rw [if_neg c2, if_neg]
          rintro ⟨h1, h2, ⟨h3, h4⟩, h5⟩
          refine c2 ⟨⟨h3, by omega⟩, .inr h4, ?_⟩
          rw [h4]
          exact h5
    · rw [scan, if_neg hc, splitC_ne hc e]
      simp only [scanned, List.all_cons, Bool.and_eq_true, List.length_cons]
      by_cases ho : okc c = true
      · rw [if_pos ho, ih, e]
        simp only [scanned, ho, true_and]
        have ex : x + 1 + r.length = x + (r.length + 1) := by omega
        rw [ex]
        simp only [ints, List.map_cons, List.append_assoc, List.cons_append, List.nil_append]
      · rw [if_neg ho, if_neg]
        rintro ⟨⟨⟨h1, _⟩, _⟩, _⟩
        exact ho h1

/-- Names that occur at most once. -/
def isNm (n : Int) : Bool := decide (97 ≤ n) && decide (n ≤ 102)
def uniq : List Int → List Int → Bool
  | _, [] => true
  | pre, c :: rest => !(isNm c && pre.contains c) && uniq (pre ++ [c]) rest
theorem uniq_iff : ∀ (rest pre : List Int), (∀ n, isNm n = true → pre.count n ≤ 1) → (uniq pre rest = true ↔ ∀ n, isNm n = true → (pre ++ rest).count n ≤ 1) := by
  intro rest
  induction rest with
  | nil =>
    intro pre hp
    simp only [uniq, List.append_nil, true_iff]
    exact hp
  | cons c rest ih =>
    intro pre hp
    simp only [uniq, Bool.and_eq_true, Bool.not_eq_true', Bool.and_eq_false_iff]
    by_cases h : isNm c = true ∧ pre.contains c = true
    · constructor
      · rintro ⟨h1 | h1, _⟩
        · rw [h.1] at h1; cases h1
        · rw [h.2] at h1; cases h1
      · intro h1
        have h2 := h1 c h.1
        have h3 : 0 < pre.count c := List.count_pos_iff.2 (by simpa using h.2)
        rw [List.count_append, List.count_cons] at h2
        simp at h2
        omega
    · have hp' : ∀ n, isNm n = true → (pre ++ [c]).count n ≤ 1 := by
        intro n hn
        rw [List.count_append, List.count_singleton]
        by_cases e : c = n
        · subst e
          have h0 : pre.count c = 0 := by
            rw [List.count_eq_zero]
            intro hm
            exact h ⟨hn, by simpa using hm⟩
          rw [h0]
          simp
        · have := hp n hn
          simp [e]
          omega
      have h2 := ih (pre ++ [c]) hp'
      rw [List.append_assoc] at h2
      constructor
      · rintro ⟨_, h3⟩
        exact h2.1 h3
      · intro h3
        refine ⟨?_, h2.2 h3⟩
        by_cases h4 : isNm c = true
        · right
          cases h5 : pre.contains c with
          | false => rfl
          | true => exact absurd ⟨h4, h5⟩ h
        · left
          simpa using h4

/-- A tray as rows. -/
def rowsOf (t : ByteArray) : List (List UInt8) := splitC 47 t.data.toList
def shaped : List (List UInt8) → Bool
  | [] => false
  | r :: rs => ((decide (1 ≤ r.length) && decide (r.length ≤ 7)) && (decide (rs.length + 1 ≤ 7) && decide (r.length * (rs.length + 1) ≤ 36))) && (r :: rs).all (fun q => q.all okc && decide (q.length = r.length))
def named (rs : List (List UInt8)) : Bool := uniq [] (ints rs.flatten)
def good (t : ByteArray) : Bool := shaped (rowsOf t) && named (rowsOf t)
def W (t : ByteArray) : Nat := (rowsOf t).head?.elim 0 List.length
def H (t : ByteArray) : Nat := (rowsOf t).length
def CS (t : ByteArray) : List Int := ints (rowsOf t).flatten
theorem rows_form (t : ByteArray) : ∃ r rs, rowsOf t = r :: rs := splitC_form 47 _
theorem flat_len {n : Nat} : ∀ {l : List (List UInt8)}, (∀ q ∈ l, q.length = n) → l.flatten.length = n * l.length
  | [], _ => by simp
  | q :: l, h => by
    rw [List.flatten_cons, List.length_append, flat_len (fun q hq => h q (List.mem_cons_of_mem _ hq)), h q (List.mem_cons_self ..), List.length_cons, Nat.mul_add]
    omega
theorem shaped_iff {r : List UInt8} {rs : List (List UInt8)} : shaped (r :: rs) = true ↔ (1 ≤ r.length ∧ r.length ≤ 7) ∧ (rs.length + 1 ≤ 7 ∧ r.length * (rs.length + 1) ≤ 36) ∧ ∀ q ∈ r :: rs, q.all okc = true ∧ q.length = r.length := by
  unfold shaped
  simp only [Bool.and_eq_true, decide_eq_true_eq, List.all_eq_true]
  constructor
  · rintro ⟨⟨h1, h2⟩, h3⟩; exact ⟨h1, h2, h3⟩
  · rintro ⟨h1, h2, h3⟩; exact ⟨⟨h1, h2⟩, h3⟩
theorem good_facts {t : ByteArray} (h : good t = true) : 1 ≤ W t ∧ W t ≤ 7 ∧ 1 ≤ H t ∧ H t ≤ 7 ∧ W t * H t ≤ 36 ∧ (CS t).length = W t * H t ∧ t.size + 1 = W t * H t + H t := by
  obtain ⟨r, rs, e⟩ := rows_form t
  have hs : shaped (r :: rs) = true := by
    unfold good at h
    rw [e] at h
    simp only [Bool.and_eq_true] at h
    exact h.1
  obtain ⟨⟨h1, h2⟩, ⟨h3, h4⟩, h5⟩ := shaped_iff.1 hs
  have hW : W t = r.length := by unfold W; rw [e]; rfl
  have hH : H t = rs.length + 1 := by unfold H; rw [e]; rfl
  have hf : (r :: rs).flatten.length = r.length * (rs.length + 1) := by
    have := flat_len (n := r.length) (l := r :: rs) (fun q hq => (h5 q hq).2)
    simpa using this
  have hl := splitC_len 47 t.data.toList
  have e' : splitC 47 t.data.toList = r :: rs := e
  rw [e', hf] at hl
  have hz : t.data.toList.length = t.size := by rw [Array.length_toList]; rfl
  refine ⟨by omega, by omega, by omega, by omega, by rw [hW, hH]; exact h4, ?_, ?_⟩
  · unfold CS
    rw [e, ints_length, hf, hW, hH]
  · rw [hW, hH]
    rw [hz] at hl
    simp at hl
    omega
end Go.Proofs.YtoojemnocncafaaM
namespace Go.Proofs.YtoojemnocncafaaM
open Go.Proofs.YtoojemnocncafaaW.PrintWords

/-- The pieces of n. -/
def chunks {α : Type} (n : Nat) (l : List α) : List (List α) := (List.range ((l.length + n - 1) / n)).map fun i => (l.drop (i * n)).take n
theorem chunks_many {n m : Nat} (hn : 0 < n) : (n * m + n - 1) / n = m := by
  rw [Nat.add_sub_assoc (by omega), Nat.mul_add_div hn, Nat.div_eq_of_lt (by omega), Nat.add_zero]
theorem chunks_eq {α : Type} {n m : Nat} (hn : 0 < n) {l : List α} (h : l.length = n * m) : chunks n l = (List.range m).map fun i => (l.drop (i * n)).take n := by
  unfold chunks
  rw [h, chunks_many hn]
theorem chunks_length {α : Type} {n m : Nat} (hn : 0 < n) {l : List α} (h : l.length = n * m) : (chunks n l).length = m := by
  rw [chunks_eq hn h, List.length_map, List.length_range]
theorem chunks_each {α : Type} {n m : Nat} (hn : 0 < n) {l : List α} (h : l.length = n * m) : ∀ q ∈ chunks n l, q.length = n := by
  intro q hq
  rw [chunks_eq hn h] at hq
  obtain ⟨i, hi, rfl⟩ := List.mem_map.1 hq
  have hi' := List.mem_range.1 hi
  have : (i + 1) * n ≤ n * m := by rw [Nat.mul_comm n]; exact Nat.mul_le_mul_right _ (by omega)
  rw [Nat.add_mul, Nat.one_mul] at this
  rw [List.length_take, List.length_drop, h]
  omega
theorem cut_flatten {α : Type} {n : Nat} (hn : 0 < n) : ∀ {m : Nat} {l : List α}, l.length = n * m → (chunks n l).flatten = l
  | 0, l, h => by
    rw [chunks_eq hn h]
    have : l = [] := List.eq_nil_of_length_eq_zero (by rw [h, Nat.mul_zero])
    rw [this]
    rfl
  | m + 1, l, h => by
    have hle : n ≤ l.length := by rw [h, Nat.mul_add]; omega
    have h2 : (l.drop n).length = n * m := by rw [List.length_drop, h, Nat.mul_add]; omega
    have ih := cut_flatten hn h2
    rw [chunks_eq hn h2] at ih
    rw [chunks_eq hn h, List.range_succ_eq_map, List.map_cons, List.flatten_cons, Nat.zero_mul, List.drop_zero, List.map_map]
    conv => rhs; rw [← List.take_append_drop n l, ← ih]
    congr 2
    apply List.map_congr_left
    intro i _
    show (l.drop ((i + 1) * n)).take n = ((l.drop n).drop (i * n)).take n
    rw [List.drop_drop, Nat.add_mul, Nat.one_mul, Nat.add_comm n]
theorem chunks_map {α β : Type} (f : α → β) (n : Nat) (l : List α) : chunks n (l.map f) = (chunks n l).map (List.map f) := by
  unfold chunks
  rw [List.length_map, List.map_map]
  apply List.map_congr_left
  intro i _
  simp [List.map_drop, List.map_take]
theorem chunks_rows {α : Type} {n : Nat} (hn : 0 < n) {rs : List (List α)} (h : ∀ q ∈ rs, q.length = n) : chunks n rs.flatten = rs := by
  induction rs with
  | nil => unfold chunks; simp; omega
  | cons q rs ih =>
    have hq := h q (List.mem_cons_self ..)
    have ih' := ih fun q hq => h q (List.mem_cons_of_mem _ hq)
    have hl : rs.flatten.length = n * rs.length := by
      clear ih ih'
      induction rs with
      | nil => simp
      | cons p rs ih => rw [List.flatten_cons, List.length_append, ih (fun q hq => h q (by simp at hq ⊢; rcases hq with h | h <;> simp [h])), h p (by simp), List.length_cons, Nat.mul_add]; omega
    have hl2 : (q :: rs).flatten.length = n * (rs.length + 1) := by rw [List.flatten_cons, List.length_append, hl, hq, Nat.mul_add]; omega
    rw [chunks_eq hn hl] at ih'
    rw [chunks_eq hn hl2, List.range_succ_eq_map, List.map_cons, Nat.zero_mul, List.drop_zero, List.map_map, List.flatten_cons]
    congr 1
    · rw [List.take_append_of_le_length (by omega), List.take_of_length_le (by omega)]
    · conv => rhs; rw [← ih']
      apply List.map_congr_left
      intro i _
      show ((q ++ rs.flatten).drop ((i + 1) * n)).take n = _
      have e : (i + 1) * n = q.length + i * n := by rw [Nat.add_mul, Nat.one_mul, hq]; omega
      rw [e, List.drop_length_add_append]
/-- A cell. -/
def at_ (w : Nat) (cs : List UInt8) (x y : Nat) : UInt8 := cs.getD (y * w + x) 0
/-- Turned by a quarter clockwise; each row backwards: as rows. -/
def turnG (w h : Nat) (cs : List UInt8) : List (List UInt8) := (List.range w).map fun x => (List.range h).map fun j => at_ w cs x (h - 1 - j)
def mirG (w h : Nat) (cs : List UInt8) : List (List UInt8) := (List.range h).map fun y => (List.range w).map fun j => at_ w cs (w - 1 - j) y
theorem turnG_len (w h : Nat) (cs : List UInt8) : (turnG w h cs).length = w := by simp [turnG]
theorem mirG_len (w h : Nat) (cs : List UInt8) : (mirG w h cs).length = h := by simp [mirG]
theorem turnG_each (w h : Nat) (cs : List UInt8) : ∀ q ∈ turnG w h cs, q.length = h := by
  intro q hq
  obtain ⟨x, _, rfl⟩ := List.mem_map.1 hq
  simp
theorem mirG_each (w h : Nat) (cs : List UInt8) : ∀ q ∈ mirG w h cs, q.length = w := by
  intro q hq
  obtain ⟨x, _, rfl⟩ := List.mem_map.1 hq
  simp
theorem rowsFlat {α : Type} {n : Nat} : ∀ {l : List (List α)}, (∀ q ∈ l, q.length = n) → l.flatten.length = n * l.length
  | [], _ => by simp
  | q :: l, h => by
    rw [List.flatten_cons, List.length_append, rowsFlat (fun q hq => h q (List.mem_cons_of_mem _ hq)), h q (List.mem_cons_self ..), List.length_cons, Nat.mul_add]
    omega
theorem turnG_flat (w h : Nat) (cs : List UInt8) : (turnG w h cs).flatten.length = h * w := by rw [rowsFlat (turnG_each w h cs), turnG_len]
theorem mirG_flat (w h : Nat) (cs : List UInt8) : (mirG w h cs).flatten.length = w * h := by rw [rowsFlat (mirG_each w h cs), mirG_len]
/-- A cell of rows of equal length. -/
theorem flat_at {α : Type} {n : Nat} : ∀ {l : List (List α)}, (∀ q ∈ l, q.length = n) → ∀ {i j : Nat} {q : List α}, l[i]? = some q → j < n → l.flatten[i * n + j]? = q[j]?
  | [], _, i, j, q, hi, _ => by simp at hi
  | p :: l, h, i, j, q, hi, hj => by
    have hp : p.length = n := h p (List.mem_cons_self ..)
    match i with
    | 0 =>
      simp at hi
      subst hi
      rw [List.flatten_cons, Nat.zero_mul, Nat.zero_add, List.getElem?_append_left (by omega)]
    | i + 1 =>
      have h2 := flat_at (l := l) (fun q hq => h q (List.mem_cons_of_mem _ hq)) (i := i) (j := j) (q := q) (by simpa using hi) hj
      have e : (i + 1) * n + j = p.length + (i * n + j) := by rw [Nat.add_mul, Nat.one_mul, hp]; omega
      rw [List.flatten_cons, e, List.getElem?_append_right (by omega), Nat.add_sub_cancel_left, h2]
theorem turn_at (w h : Nat) (cs : List UInt8) {x j : Nat} (hx : x < w) (hj : j < h) : (turnG w h cs).flatten[x * h + j]? = some (at_ w cs x (h - 1 - j)) := by
  rw [flat_at (turnG_each w h cs) (q := (List.range h).map fun j => at_ w cs x (h - 1 - j)) (by simp [turnG, hx]) hj]
  simp [hj]
theorem mir_at (w h : Nat) (cs : List UInt8) {y j : Nat} (hy : y < h) (hj : j < w) : (mirG w h cs).flatten[y * w + j]? = some (at_ w cs (w - 1 - j) y) := by
  rw [flat_at (mirG_each w h cs) (q := (List.range w).map fun j => at_ w cs (w - 1 - j) y) (by simp [mirG, hy]) hj]
  simp [hj]
/-- The mirrored rows, as cut and turned about. -/
theorem mir_rows {w h : Nat} (hw : 0 < w) {cs : List UInt8} (hl : cs.length = w * h) : (chunks w cs).map List.reverse = mirG w h cs := by
  rw [chunks_eq hw hl, List.map_map]
  unfold mirG
  apply List.map_congr_left
  intro y hy
  have hy' := List.mem_range.1 hy
  have hle : (y + 1) * w ≤ w * h := by rw [Nat.mul_comm w]; exact Nat.mul_le_mul_right _ (by omega)
  rw [Nat.add_mul, Nat.one_mul] at hle
  have h1 : ((cs.drop (y * w)).take w).length = w := by rw [List.length_take, List.length_drop, hl]; omega
  apply List.ext_getElem
  · simp [h1]
  · intro j h2 h3
    have hj : j < w := by simpa using h3
    simp only [Function.comp_apply, List.getElem_reverse, List.getElem_take, List.getElem_drop, List.getElem_map, List.getElem_range, h1]
    unfold at_
    rw [List.getD_eq_getElem?_getD, List.getElem?_eq_getElem (by omega)]
    rfl
/-- What the quarter turn has laid behind k cells: place j's source is (h - 1 - j % h) * w + j / h. -/
def srcT (w h j : Nat) : Nat := (h - 1 - j % h) * w + j / h
def dstT (w h k : Nat) : Nat := (k % w) * h + (h - 1 - k / w)
theorem turn_bij : ∀ w h : Fin 8, ∀ k j : Fin 37, k.val < w.val * h.val → j.val < w.val * h.val → (decide (srcT w.val h.val j.val = k.val)) = decide (j.val = dstT w.val h.val k.val) := by decide +kernel
theorem dst_lt : ∀ w h : Fin 8, ∀ k : Fin 37, k.val < w.val * h.val → dstT w.val h.val k.val < w.val * h.val ∧ k.val / w.val < h.val ∧ k.val % w.val < w.val := by decide +kernel
theorem src_lt : ∀ w h : Fin 8, ∀ k : Fin 37, k.val < w.val * h.val → srcT w.val h.val k.val < w.val * h.val ∧ k.val / h.val < w.val ∧ k.val % h.val < h.val := by decide +kernel
def partT (w h : Nat) (cs : List UInt8) (k : Nat) : List UInt8 := (List.range (w * h)).map fun j => if srcT w h j < k then cs.getD (srcT w h j) 0 else 0
theorem partT_len (w h : Nat) (cs : List UInt8) (k : Nat) : (partT w h cs k).length = w * h := by simp [partT]
theorem partT_zero (w h : Nat) (cs : List UInt8) : partT w h cs 0 = List.replicate (w * h) 0 := by
  apply List.ext_getElem <;> simp [partT]
theorem partT_at (w h : Nat) (cs : List UInt8) (k : Nat) {j : Nat} (hj : j < w * h) : (partT w h cs k)[j]? = some (if srcT w h j < k then cs.getD (srcT w h j) 0 else 0) := by
  unfold partT
  rw [List.getElem?_map, List.getElem?_range hj]
  rfl
theorem partT_step {w h k : Nat} (hw : w ≤ 7) (hh : h ≤ 7) (hm : w * h ≤ 36) (hk : k < w * h) (cs : List UInt8) : (partT w h cs k).set (dstT w h k) (cs.getD k 0) = partT w h cs (k + 1) := by
  apply List.ext_getElem?
  intro j
  by_cases hj : j < w * h
  · have hb := turn_bij ⟨w, by omega⟩ ⟨h, by omega⟩ ⟨k, by omega⟩ ⟨j, by omega⟩ hk hj
    simp only at hb
    rw [List.getElem?_set, partT_at w h cs _ hj, partT_at w h cs _ hj, partT_len]
    by_cases e : j = dstT w h k
    · have hs : srcT w h j = k := by rw [decide_eq_true e] at hb; exact of_decide_eq_true hb
      rw [if_pos e.symm, if_pos (by omega), hs, if_pos (by omega)]
    · have hs : srcT w h j ≠ k := by rw [decide_eq_false e] at hb; exact of_decide_eq_false hb
      rw [if_neg (fun h => e h.symm)]
      by_cases l : srcT w h j < k
      · rw [if_pos l, if_pos (by omega)]
      · rw [if_neg l, if_neg (by omega)]
  · rw [List.getElem?_eq_none (by rw [List.length_set, partT_len]; omega), List.getElem?_eq_none (by rw [partT_len]; omega)]
theorem partT_all {w h : Nat} (hw : w ≤ 7) (hh : h ≤ 7) (hm : w * h ≤ 36) (cs : List UInt8) : partT w h cs (w * h) = (turnG w h cs).flatten := by
  apply List.ext_getElem?
  intro j
  by_cases hj : j < w * h
  · obtain ⟨h1, h2, h3⟩ := src_lt ⟨w, by omega⟩ ⟨h, by omega⟩ ⟨j, by omega⟩ hj
    simp only at h1 h2 h3
    have e : j = (j / h) * h + j % h := by rw [Nat.mul_comm]; exact (Nat.div_add_mod j h).symm
    conv => rhs; rw [e]
    rw [turn_at w h cs h2 h3]
    rw [partT_at w h cs _ hj, if_pos h1]
    rfl
  · rw [List.getElem?_eq_none (by rw [partT_len]; omega), List.getElem?_eq_none (by rw [turnG_flat, Nat.mul_comm]; omega)]
end Go.Proofs.YtoojemnocncafaaM
namespace Go.Proofs.YtoojemnocncafaaL
namespace CG
open Go.RowKit Go.Proofs.Ytoojemnocncafaa.Q Go.Proofs.YtoojemnocncafaaW.PrintWords Go.Proofs.YtoojemnocncafaaW.PrintLast Go.Proofs.YtoojemnocncafaaM Go.Proofs.YtoojemnocncafaaV
theorem wr {n : Int} (h0 : -9223372036854775808 ≤ n) (h1 : n ≤ 9223372036854775807) : wrap64 n = n := by
  unfold wrap64
  omega
theorem wm {n : Nat} {z : Int} (h : n < 1000000) (hz : z = (n : Int)) : wrap64 z = (n : Int) := by
  rw [hz]
  exact wr (by omega) (by omega)
def tl (rs : List (List UInt8)) : List UInt8 := (rs.map (47 :: ·)).flatten
def txt : List (List UInt8) → List UInt8
  | [] => []
  | r :: rs => r ++ tl rs
theorem tl_append (a b : List (List UInt8)) : tl (a ++ b) = tl a ++ tl b := by simp [tl]
theorem tl_cons (r : List UInt8) (rs : List (List UInt8)) : tl (r :: rs) = 47 :: r ++ tl rs := by simp [tl]
theorem txt_append {a b : List (List UInt8)} (ha : a ≠ []) (hb : b ≠ []) : txt (a ++ b) = txt a ++ 47 :: txt b := by
  match a, b, ha, hb with
  | r :: rs, s :: ss, _, _ => simp [txt, tl_append, tl_cons]
theorem txt_join (rs : List (List UInt8)) : Lib.join rs [47] = txt rs := by
  match rs with
  | [] => rfl
  | r :: rs =>
    rw [Lib.join_cons]
    rfl
theorem strOf_ints (l : List UInt8) : strOfNums (ints l) = ⟨l.toArray⟩ := by
  unfold strOfNums ints
  congr 2
  rw [List.map_map]
  conv => rhs; rw [← List.map_id l]
  congr 1
  funext b
  simp
theorem take_flat {n : Nat} : ∀ {l : List (List UInt8)}, (∀ q ∈ l, q.length = n) → ∀ (i : Nat) (hi : i < l.length), (l.flatten.take ((i + 1) * n)).drop (i * n) = l[i]
  | [], _, i, hi => absurd hi (Nat.not_lt_zero _)
  | q :: l, h, i, hi => by
    have hq : q.length = n := h q (List.mem_cons_self ..)
    match i with
    | 0 =>
      rw [List.flatten_cons, Nat.zero_mul, List.drop_zero, Nat.zero_add, Nat.one_mul, List.take_append_of_le_length (by omega), List.take_of_length_le (by omega)]
      rfl
    | i + 1 =>
      have h1 := take_flat (l := l) (fun q hq => h q (List.mem_cons_of_mem _ hq)) i (by simpa using hi)
      have e1 : (i + 1 + 1) * n = q.length + (i + 1) * n := by rw [Nat.add_mul (i + 1), hq]; omega
      have e2 : (i + 1) * n = q.length + i * n := by rw [Nat.add_mul i, hq]; omega
      rw [List.flatten_cons, e1, List.take_length_add_append]
      conv => lhs; rw [e2]
      rw [List.drop_length_add_append, List.getElem_cons_succ, ← h1, ← e2]
theorem txt_take (rs : List (List UInt8)) (i : Nat) (hi : i < rs.length) (h0 : 0 < i) : txt (rs.take (i + 1)) = txt (rs.take i) ++ 47 :: rs[i] := by
  rw [List.take_succ_eq_append_getElem hi, txt_append]
  · simp [txt, tl]
  · intro h
    have := congrArg List.length h
    rw [List.length_take, List.length_nil] at this
    omega
  · simp
theorem tl_length (n : Nat) : ∀ {rs : List (List UInt8)}, (∀ q ∈ rs, q.length = n) → (tl rs).length = rs.length * (n + 1)
  | [], _ => by simp [tl]
  | q :: rs, h => by
    rw [tl_cons, List.length_append, tl_length n (fun q hq => h q (List.mem_cons_of_mem _ hq)), List.length_cons, List.length_cons, h q (List.mem_cons_self ..), Nat.add_mul, Nat.one_mul]
    omega
theorem txt_length {n : Nat} {rs : List (List UInt8)} (h : ∀ q ∈ rs, q.length = n) : (txt rs).length ≤ rs.length * (n + 1) := by
  match rs with
  | [] => simp [txt]
  | q :: rs =>
    have h1 := tl_length n (fun q hq => h q (List.mem_cons_of_mem _ hq))
    have h2 := h q (List.mem_cons_self ..)
    rw [txt, List.length_append, h1, h2, List.length_cons, Nat.add_mul, Nat.one_mul]
    omega
theorem ints_cut (l : List UInt8) (a b : Nat) : ((ints l).take b).drop a = ints ((l.take b).drop a) := by
  unfold ints
  rw [List.map_drop, List.map_take]
theorem app_mk (a b : List UInt8) : (⟨a.toArray⟩ : ByteArray) ++ (⟨b.toArray⟩ : ByteArray) = ⟨(a ++ b).toArray⟩ := by
  apply ByteArray.ext
  rw [ByteArray.data_append, List.append_toArray]
theorem size_mk (l : List UInt8) : (⟨l.toArray⟩ : ByteArray).size = l.length := by rw [Lib.size_eq]
theorem text_l0 (w : Nat) (rs : List (List UInt8)) (hr : ∀ q ∈ rs, q.length = w) (hw : w ≤ 100) (hh : rs.length ≤ 100) : ∀ (d i : Nat), rs.length - i = d → i ≤ rs.length →
    Ev (fun k => spec_tyText.l0 k ⟨(txt (rs.take i)).toArray⟩ (i : Int) (w : Int) (rs.length : Int) (ints rs.flatten)) ⟨(txt rs).toArray⟩ := by
  have hf : rs.flatten.length = w * rs.length := flat_len hr
  intro d
  induction d with
  | zero =>
    intro i hd hi
    have e : i = rs.length := by omega
    subst e
    rw [List.take_length]
    refine Ev.step (f := fun _ => some ⟨(txt rs).toArray⟩) (fun k => ?_) (Ev.now _)
    rw [spec_tyText.l0, if_neg (by omega)]
  | succ d ih =>
    intro i hd hi
    have hlt : i < rs.length := by omega
    have h1 := ih (i + 1) (by omega) (by omega)
    have g0 : (i : Int) < (rs.length : Int) := by omega
    have m1 : i * w ≤ 100 * 100 := Nat.mul_le_mul (by omega) hw
    have m2 : (i + 1) * w ≤ 100 * 100 := Nat.mul_le_mul (by omega) hw
    have m3 : (i + 1) * w ≤ w * rs.length := by rw [Nat.mul_comm w]; exact Nat.mul_le_mul_right _ (by omega)
    have m4 : i * w ≤ (i + 1) * w := Nat.mul_le_mul_right _ (by omega)
    have g1 : (0 : Int) ≤ ((i * w : Nat) : Int) := by omega
    have g2 : ((i * w : Nat) : Int) ≤ (((i + 1) * w : Nat) : Int) := by omega
    have g3 : (((i + 1) * w : Nat) : Int) ≤ ((ints rs.flatten).length : Int) := by rw [ints_length, hf]; omega
    have hq : (rs[i]).length = w := hr _ (List.getElem_mem hlt)
    have ht : (txt (rs.take i)).length ≤ 100 * 101 := by
      have z1 := txt_length (n := w) (rs := rs.take i) (fun q hq => hr q (List.mem_of_mem_take hq))
      have z2 : (rs.take i).length * (w + 1) ≤ 100 * 101 := Nat.mul_le_mul (by rw [List.length_take]; omega) (by omega)
      omega
    have s1 : (⟨(txt (rs.take i)).toArray⟩ : ByteArray).size + 1 ≤ 9223372036854775807 := by rw [size_mk]; omega
    have s2 : (⟨(txt (rs.take i)).toArray⟩ : ByteArray).size + (⟨(rs[i]).toArray⟩ : ByteArray).size ≤ 9223372036854775807 := by rw [size_mk, size_mk]; omega
    have s3 : (⟨(txt (rs.take i) ++ [47]).toArray⟩ : ByteArray).size + (⟨(rs[i]).toArray⟩ : ByteArray).size ≤ 9223372036854775807 := by rw [size_mk, size_mk, List.length_append, List.length_singleton]; omega
    have hcut : strOfNums (((ints rs.flatten).take ((((i + 1) * w : Nat) : Int)).toNat).drop (((i * w : Nat) : Int)).toNat) = ⟨(rs[i]).toArray⟩ := by
      rw [Int.toNat_natCast, Int.toNat_natCast, ints_cut, take_flat hr i hlt, strOf_ints]
    have b1 : i * w < 1000000 := by omega
    have b2 : (i + 1) * w < 1000000 := by omega
    have b3 : i + 1 < 1000000 := by omega
    have hi0 : 0 < i ↔ ((i : Int) > 0) := by omega
    have e0 : wrap64 ((i : Int) * (w : Int)) = ((i * w : Nat) : Int) := wm b1 (Int.natCast_mul _ _).symm
    have e1 : wrap64 ((i : Int) + 1) = ((i + 1 : Nat) : Int) := wm b3 rfl
    have e2 : wrap64 (((i + 1 : Nat) : Int) * (w : Int)) = (((i + 1) * w : Nat) : Int) := wm b2 (Int.natCast_mul _ _).symm
    have h47 : (⟨#[47]⟩ : ByteArray) = ⟨([47] : List UInt8).toArray⟩ := rfl
    refine Ev.step (fun k => ?_) h1
    rw [spec_tyText.l0, if_pos g0, e1, e2, e0]
    by_cases hi1 : 0 < i
    · rw [if_pos (hi0.1 hi1), if_pos s1, if_pos g1, if_pos g2, if_pos g3, Option.bind_some, hcut, h47, app_mk, if_pos s3, app_mk, txt_take rs i hlt hi1, List.append_assoc]
      rfl
    · have hz : i = 0 := Nat.eq_zero_of_not_pos hi1
      rw [if_neg (fun h => hi1 (hi0.2 h)), if_pos g1, if_pos g2, if_pos g3, Option.bind_some, hcut, if_pos s2, app_mk]
      subst hz
      rw [List.take_succ_eq_append_getElem hlt]
      simp [txt, tl]
/-- THE REFERENCE's WRITING. -/
theorem tyText_eq (w : Nat) (rs : List (List UInt8)) (hr : ∀ q ∈ rs, q.length = w) (hw : w ≤ 100) (hh : rs.length ≤ 100) :
    Ev (fun k => spec_tyText.f k (w : Int) (rs.length : Int) (ints rs.flatten)) ⟨(txt rs).toArray⟩ :=
  text_l0 w rs hr hw hh rs.length 0 rfl (Nat.zero_le _)
/-- A tray's text, by its cells. -/
def T (w : Nat) (cs : List UInt8) : ByteArray := ⟨(txt (chunks w cs)).toArray⟩
theorem ints_drop (l : List UInt8) (a : Nat) : (ints l).drop a = ints (l.drop a) := by unfold ints; rw [List.map_drop]
theorem ints_take (l : List UInt8) (a : Nat) : (ints l).take a = ints (l.take a) := by unfold ints; rw [List.map_take]
theorem pieces_eq (w : Nat) (cs : List UInt8) : (pieces w (ints cs)).map (·.data.toList) = chunks w cs := by
  unfold pieces chunks nch
  rw [List.map_map, ints_length]
  apply List.map_congr_left
  intro i _
  show (piece w (ints cs) i).data.toList = _
  unfold piece
  rw [ints_drop, ints_take, strOf_ints]
theorem textOf_eq (w : Nat) (cs : List UInt8) : textOf w (ints cs) = T w cs := by
  unfold textOf T
  rw [pieces_eq, txt_join]
theorem T_size {w h : Nat} {cs : List UInt8} (hl : cs.length = w * h) (hw0 : 0 < w) (hw : w ≤ 100) (hh : h ≤ 100) : (T w cs).size ≤ 10100 := by
  unfold T
  rw [size_mk]
  have h1 := txt_length (chunks_each hw0 hl)
  rw [chunks_length hw0 hl] at h1
  have h2 : h * (w + 1) ≤ 100 * 101 := Nat.mul_le_mul hh (by omega)
  omega
theorem trayText_eq {w h : Nat} {cs : List UInt8} (hl : cs.length = w * h) (hw0 : 0 < w) (hw : w ≤ 100) (hh0 : 0 < h) (hh : h ≤ 100) (a : Int) : impl_tray_text.f (w : Int) a (ints cs) = some (T w cs) := by
  have h1 : w * h ≤ 100 * 100 := Nat.mul_le_mul hw hh
  have h2 : 0 < w * h := Nat.mul_pos hw0 hh0
  have h3 := T_size hl hw0 hw hh
  rw [← textOf_eq] at h3
  have g1 : (0 : Int) < (w : Int) := by omega
  have g2 : (w : Int) ≤ 1000000 := by omega
  have g3 : 0 < (ints cs).length := by rw [ints_length]; omega
  have g4 : (ints cs).length ≤ 1000000 := by rw [ints_length]; omega
  have g5 : (textOf (w : Int).toNat (ints cs)).size ≤ 140737488355328 := by rw [Int.toNat_natCast]; omega
  rw [impl_tray_text.f, if_pos g1, if_pos g2, if_pos g3, if_pos g4, if_pos g5, Int.toNat_natCast, textOf_eq]
theorem tyText_cs {w h : Nat} {cs : List UInt8} (hl : cs.length = w * h) (hw0 : 0 < w) (hw : w ≤ 100) (hh : h ≤ 100) : Ev (fun k => spec_tyText.f k (w : Int) (h : Int) (ints cs)) (T w cs) := by
  have h1 := chunks_length hw0 hl
  have h2 := tyText_eq w (chunks w cs) (chunks_each hw0 hl) hw (by omega)
  rw [h1, cut_flatten hw0 hl] at h2
  exact h2
theorem rd_ints {l : List UInt8} {i : Nat} (h : i < l.length) : rd (ints l) (i : Int) = ((l.getD i 0).toNat : Int) := by
  unfold rd ints
  rw [Int.toNat_natCast, List.getD_eq_getElem?_getD, List.getD_eq_getElem?_getD, List.getElem?_map, List.getElem?_eq_getElem h]
  rfl
theorem ints_snoc (l : List UInt8) (c : UInt8) : ints (l ++ [c]) = ints l ++ [(c.toNat : Int)] := by rw [ints_append]; rfl
theorem turned_l0 {w h : Nat} {cs : List UInt8} (hl : cs.length = w * h) (hw0 : 0 < w) (hh0 : 0 < h) (hw : w ≤ 7) (hh : h ≤ 7) (hm : w * h ≤ 36) :
    ∀ (d i : Nat), w * h - i = d → i ≤ w * h → Ev (fun k => impl_tray_turned.l0 k (ints cs) ((ints cs).length : Int) (i : Int) (w : Int) (h : Int) (ints cs) (h : Int) (w : Int) (ints (partT w h cs i))) ((h : Int), (w : Int), ints (turnG w h cs).flatten) := by
  intro d
  induction d with
  | zero =>
    intro i hd hi
    have e : i = w * h := by omega
    subst e
    rw [partT_all hw hh hm]
    have g : ¬ ((w * h : Nat) : Int) < ((ints cs).length : Int) := by rw [ints_length, hl]; omega
    exact Ev.step (f := fun _ => some ((h : Int), (w : Int), ints (turnG w h cs).flatten)) (fun k => by rw [impl_tray_turned.l0, if_neg g]) (Ev.now _)
  | succ d ih =>
    intro i hd hi
    have hlt : i < w * h := by omega
    have hic : i < cs.length := by omega
    have h1 := ih (i + 1) (by omega) (by omega)
    obtain ⟨d1, d2, d3⟩ := dst_lt ⟨w, by omega⟩ ⟨h, by omega⟩ ⟨i, by omega⟩ hlt
    simp only at d1 d2 d3
    have g : (i : Int) < ((ints cs).length : Int) := by rw [ints_length, hl]; omega
    have g0 : (0 : Int) ≤ (i : Int) := by omega
    have gw : ¬ (w : Int) = 0 := by omega
    have b : i + 1 < 1000000 := by omega
    have hmod : Int.tmod (i : Int) (w : Int) = ((i % w : Nat) : Int) := rfl
    have hdiv : Int.tdiv (i : Int) (w : Int) = ((i / w : Nat) : Int) := rfl
    obtain ⟨q, hq⟩ : ∃ q, i / w = q := ⟨_, rfl⟩
    obtain ⟨r, hr⟩ : ∃ r, i % w = r := ⟨_, rfl⟩
    have hdst : dstT w h i = r * h + (h - 1 - q) := by unfold dstT; rw [hq, hr]
    rw [hq] at d2 hdiv
    rw [hr] at d3 hmod
    have m1 : r * h ≤ 7 * 7 := Nat.mul_le_mul (by omega) hh
    have b1 : r * h < 1000000 := by omega
    have b2 : r * h + (h - 1 - q) < 1000000 := by omega
    have b3 : h - 1 < 1000000 := by omega
    have b4 : h - 1 - q < 1000000 := by omega
    have b5 : q < 1000000 := by omega
    have z3 : (h : Int) - 1 = ((h - 1 : Nat) : Int) := by omega
    have z4 : ((h - 1 : Nat) : Int) - ((q : Nat) : Int) = ((h - 1 - q : Nat) : Int) := by omega
    have t0 : (0 : Int) ≤ ((dstT w h i : Nat) : Int) := by omega
    have t1 : ((dstT w h i : Nat) : Int) < ((ints (partT w h cs i)).length : Int) := by rw [ints_length, partT_len]; omega
    have hset : (ints (partT w h cs i)).set (((dstT w h i : Nat) : Int)).toNat (rd (ints cs) (i : Int)) = ints (partT w h cs (i + 1)) := by
      rw [Int.toNat_natCast, rd_ints hic, ← partT_step hw hh hm hlt cs]
      unfold ints
      rw [List.map_set]
    have hz0 : r * h + (h - 1 - q) = dstT w h i := hdst.symm
    have e : wrap64 ((i : Int) + 1) = ((i + 1 : Nat) : Int) := wm b rfl
    have e1 : wrap64 ((r : Int) * (h : Int)) = ((r * h : Nat) : Int) := wm b1 (Int.natCast_mul _ _).symm
    have e3 : wrap64 ((h : Int) - 1) = ((h - 1 : Nat) : Int) := wm b3 z3
    have e4 : wrap64 (((h - 1 : Nat) : Int) - ((q : Nat) : Int)) = ((h - 1 - q : Nat) : Int) := wm b4 z4
    have e5 : wrap64 ((q : Nat) : Int) = ((q : Nat) : Int) := wm b5 rfl
    have e2 : wrap64 (((r * h : Nat) : Int) + ((h - 1 - q : Nat) : Int)) = ((dstT w h i : Nat) : Int) := by rw [← hz0]; exact wm b2 (Int.natCast_add _ _).symm
    refine Ev.step (fun k => ?_) h1
    rw [impl_tray_turned.l0, if_pos g, if_pos g0, if_pos g, if_neg gw, hmod, hdiv, impl_tray_number.f, Option.bind_some, e5, e3, e4, e1, e2, if_pos t0, if_pos t1, hset, e]
/-- THE PROGRAM's TURN. -/
theorem turned_eq {w h : Nat} {cs : List UInt8} (hl : cs.length = w * h) (hw0 : 0 < w) (hh0 : 0 < h) (hw : w ≤ 7) (hh : h ≤ 7) (hm : w * h ≤ 36) : Ev (fun k => impl_tray_turned.f k (w : Int) (h : Int) (ints cs)) ((h : Int), (w : Int), ints (turnG w h cs).flatten) := by
  have h1 := turned_l0 hl hw0 hh0 hw hh hm (w * h) 0 rfl (Nat.zero_le _)
  have g0 : (0 : Int) ≤ ((ints cs).length : Int) := by omega
  have g1 : (((ints cs).length : Int) : Int).toNat ≤ 281474976710656 := by rw [ints_length, hl]; omega
  have e : ints (partT w h cs 0) = List.replicate (((ints cs).length : Int) : Int).toNat 0 := by
    rw [partT_zero, ints_length, hl, Int.toNat_natCast]
    unfold ints
    rw [List.map_replicate]
    rfl
  rw [e] at h1
  exact Ev.congr (g := _) (r := _) (fun k => by rw [impl_tray_turned.f, if_pos g0, if_pos g1]; rfl) h1
theorem revAt_mid {α : Type} (A q C : List α) : revAt A.length q.length (A ++ (q ++ C)) = A ++ (q.reverse ++ C) := by
  unfold revAt
  have h1 : (A ++ (q ++ C)).take A.length = A := List.take_left' rfl
  have h2 : (A ++ (q ++ C)).drop A.length = q ++ C := List.drop_left' rfl
  have h3 : (q ++ C).take q.length = q := List.take_left' rfl
  have h4 : (A ++ (q ++ C)).drop (A.length + q.length) = C := by rw [← List.append_assoc]; exact List.drop_left' (by rw [List.length_append])
  rw [h1, h2, h3, h4, List.append_assoc]
theorem mirL_rows {n : Nat} {rs : List (List Int)} (h : ∀ q ∈ rs, q.length = n) : ∀ k, k ≤ rs.length → mirL n rs.flatten (List.range k) = ((rs.take k).map List.reverse).flatten ++ (rs.drop k).flatten
  | 0, _ => by simp [mirL]
  | k + 1, hk => by
    have hlt : k < rs.length := hk
    have ih := mirL_rows h k (by omega)
    have hq : (rs[k]).length = n := h _ (List.getElem_mem hlt)
    have hA : (((rs.take k).map List.reverse).flatten).length = k * n := by
      rw [rowsFlat (n := n) (fun q hq => by obtain ⟨p, hp, rfl⟩ := List.mem_map.1 hq; rw [List.length_reverse]; exact h p (List.mem_of_mem_take hp)), List.length_map, List.length_take, Nat.min_eq_left (by omega), Nat.mul_comm]
    have hlen : rs.flatten.length = n * rs.length := rowsFlat h
    have hm : min n (rs.flatten.length - k * n) = n := by
      have : (k + 1) * n ≤ n * rs.length := by rw [Nat.mul_comm n]; exact Nat.mul_le_mul_right _ hk
      rw [Nat.add_mul, Nat.one_mul] at this
      rw [hlen]
      omega
    have e1 : mirL n rs.flatten (List.range (k + 1)) = revAt (k * n) (min n (rs.flatten.length - k * n)) (mirL n rs.flatten (List.range k)) := by
      unfold mirL
      rw [List.range_succ, List.foldl_append]
      rfl
    rw [e1, ih, hm, List.drop_eq_getElem_cons hlt, List.flatten_cons]
    have := revAt_mid (((rs.take k).map List.reverse).flatten) rs[k] (rs.drop (k + 1)).flatten
    rw [hA, hq] at this
    rw [this, List.take_succ_eq_append_getElem hlt, List.map_append, List.flatten_append, List.append_assoc]
    simp
theorem mirL_eq {w h : Nat} (hw : 0 < w) {cs : List UInt8} (hl : cs.length = w * h) : mirL w (ints cs) (List.range (nch w (ints cs).length)) = ints (mirG w h cs).flatten := by
  have hl2 : (ints cs).length = w * h := by rw [ints_length, hl]
  have hn : nch w (ints cs).length = h := by unfold nch; rw [hl2]; exact chunks_many hw
  have e0 : chunks w (ints cs) = (chunks w cs).map (List.map fun b => (b.toNat : Int)) := chunks_map _ w cs
  have h1 := mirL_rows (chunks_each hw hl2) h (by rw [chunks_length hw hl2]; exact Nat.le_refl _)
  have h2 := chunks_length hw hl2
  rw [cut_flatten hw hl2, List.take_of_length_le (by omega), List.drop_eq_nil_of_le (by omega), List.flatten_nil, List.append_nil] at h1
  rw [hn, h1, e0, ← mir_rows hw hl]
  unfold ints
  rw [List.map_flatten, List.map_map, List.map_map]
  congr 1
  apply List.map_congr_left
  intro q _
  show (q.map _).reverse = (q.reverse).map _
  rw [List.map_reverse]
/-- THE PROGRAM's MIRRORED TRAY. -/
theorem mirrored_eq {w h : Nat} {cs : List UInt8} (hl : cs.length = w * h) (hw0 : 0 < w) (hh0 : 0 < h) (hw : w ≤ 100) (hh : h ≤ 100) : impl_tray_mirrored.f (w : Int) (h : Int) (ints cs) = some ((w : Int), (h : Int), ints (mirG w h cs).flatten) := by
  have h1 : w * h ≤ 100 * 100 := Nat.mul_le_mul hw hh
  have h2 : 0 < w * h := Nat.mul_pos hw0 hh0
  have g1 : (0 : Int) < (w : Int) := by omega
  have g2 : (w : Int) ≤ 1000000 := by omega
  have g3 : 0 < (ints cs).length := by rw [ints_length]; omega
  have g4 : (ints cs).length ≤ 1000000 := by rw [ints_length]; omega
  rw [impl_tray_mirrored.f, if_pos g1, if_pos g2, if_pos g3, if_pos g4, Int.toNat_natCast, mirL_eq hw0 hl]
/-- A tray: columns, rows, cells. -/
structure Gr where
  w : Nat
  h : Nat
  cs : List UInt8
structure GOk (g : Gr) : Prop where
  len : g.cs.length = g.w * g.h
  w0 : 0 < g.w
  h0 : 0 < g.h
  w7 : g.w ≤ 7
  h7 : g.h ≤ 7
  m : g.w * g.h ≤ 36
def tG (g : Gr) : Gr := ⟨g.h, g.w, (turnG g.w g.h g.cs).flatten⟩
def mG (g : Gr) : Gr := ⟨g.w, g.h, (mirG g.w g.h g.cs).flatten⟩
theorem tG_ok {g : Gr} (h : GOk g) : GOk (tG g) := ⟨turnG_flat _ _ _, h.h0, h.w0, h.h7, h.w7, by rw [show (tG g).w * (tG g).h = g.h * g.w from rfl, Nat.mul_comm]; exact h.m⟩
theorem mG_ok {g : Gr} (h : GOk g) : GOk (mG g) := ⟨mirG_flat _ _ _, h.w0, h.h0, h.w7, h.h7, h.m⟩
def pick (n : Nat) (f : Nat → Nat) (cs : List UInt8) : List UInt8 := (List.range n).map fun p => cs.getD (f p) 0
theorem pick_at {n : Nat} {f : Nat → Nat} {cs : List UInt8} {p : Nat} (hp : p < n) : (pick n f cs).getD p 0 = cs.getD (f p) 0 := by
  unfold pick
  simp [List.getD, hp]
theorem turn_pick {w h : Nat} (hw : w ≤ 7) (hh : h ≤ 7) (hm : w * h ≤ 36) (cs : List UInt8) : (turnG w h cs).flatten = pick (w * h) (srcT w h) cs := by
  rw [← partT_all hw hh hm cs]
  unfold partT pick
  refine List.map_congr_left fun p hp => ?_
  have hp := List.mem_range.1 hp
  have := (src_lt ⟨w, by omega⟩ ⟨h, by omega⟩ ⟨p, by omega⟩ hp).1
  rw [if_pos this]
theorem pick_pick {n : Nat} {f g : Nat → Nat} {cs : List UInt8} (hg : ∀ p, p < n → g p < n) : pick n g (pick n f cs) = pick n (fun p => f (g p)) cs := by
  show (List.range n).map _ = (List.range n).map _
  refine List.map_congr_left fun p hp => ?_
  exact pick_at (hg p (List.mem_range.1 hp))
theorem pick_id {n : Nat} {f : Nat → Nat} {cs : List UInt8} (hl : cs.length = n) (hf : ∀ p, p < n → f p = p) : pick n f cs = cs := by
  apply List.ext_getElem
  · simp [pick, hl]
  · intro i h1 h2
    have hi : i < n := by omega
    simp [pick, hf i hi, List.getD, h2]
def itG : Nat → Gr → Gr
  | 0, g => g
  | n + 1, g => itG n (tG g)
theorem itG_ok : ∀ (n : Nat) {g : Gr}, GOk g → GOk (itG n g)
  | 0, _, h => h
  | n + 1, _, h => itG_ok n (tG_ok h)
/-- The tray behind a move. -/
def mvG (i : Nat) (g : Gr) : Gr := itG (i % 4) (if 4 ≤ i then mG g else g)
theorem mvG_ok (i : Nat) {g : Gr} (h : GOk g) : GOk (mvG i g) := by
  unfold mvG
  split
  · exact itG_ok _ (mG_ok h)
  · exact itG_ok _ h
def gT (g : Gr) : ByteArray := T g.w g.cs
theorem it_ev : ∀ (n : Nat) {g : Gr}, GOk g → Ev (fun k => itL (fun a b l => impl_tray_turned.f k a b l) n (g.w : Int) (g.h : Int) (ints g.cs)) (((itG n g).w : Int), ((itG n g).h : Int), ints (itG n g).cs) := by
  intro n
  induction n with
  | zero => exact fun h => Ev.now _
  | succ n ih =>
    intro g h
    exact Ev.bind (turned_eq h.len h.w0 h.h0 h.w7 h.h7 h.m) (ih (tG_ok h))
theorem moved_ev {g : Gr} (h : GOk g) (i : Nat) : Ev (fun k => impl_tray_moved.f k (g.w : Int) (g.h : Int) (ints g.cs) (i : Int)) (((mvG i g).w : Int), ((mvG i g).h : Int), ints (mvG i g).cs) := by
  have e0 : (0 : Int) ≤ (i : Int) := by omega
  have e1 : ((i : Int) % 4).toNat = i % 4 := by omega
  by_cases h4 : 4 ≤ i
  · have g4 : (4 : Int) ≤ (i : Int) := by omega
    have M := mirrored_eq h.len h.w0 h.h0 (by have := h.w7; omega) (by have := h.h7; omega)
    have I := it_ev (i % 4) (mG_ok h)
    have e2 : mvG i g = itG (i % 4) (mG g) := by unfold mvG; rw [if_pos h4]
    rw [e2]
    refine Ev.congr (g := _) (r := _) (fun k => ?_) I
    unfold impl_tray_moved.f
    rw [if_pos e0, if_pos g4, M, Option.bind_some, e1]
    rfl
  · have g4 : ¬ (4 : Int) ≤ (i : Int) := by omega
    have I := it_ev (i % 4) h
    have e2 : mvG i g = itG (i % 4) g := by unfold mvG; rw [if_neg h4]
    rw [e2]
    refine Ev.congr (g := _) (r := _) (fun k => ?_) I
    unfold impl_tray_moved.f
    rw [if_pos e0, if_neg g4, Option.bind_some, e1]
theorem gText {g : Gr} (h : GOk g) (a : Int) : impl_tray_text.f (g.w : Int) a (ints g.cs) = some (gT g) :=
  trayText_eq h.len h.w0 (by have := h.w7; omega) h.h0 (by have := h.h7; omega) a
theorem gTextS {g : Gr} (h : GOk g) : Ev (fun k => spec_tyText.f k (g.w : Int) (g.h : Int) (ints g.cs)) (gT g) :=
  tyText_cs h.len h.w0 (by have := h.w7; omega) (by have := h.h7; omega)
end CG
end Go.Proofs.YtoojemnocncafaaL
