/- Plain laws of rows of equal length: cutting a list into pieces, the quarter turn and the mirrored tray. No program stands in this text. -/
import Derived.Test.YtcglmngfglmcgaaDoorMTray
set_option linter.unusedVariables false
set_option linter.unusedSimpArgs false
namespace Go.Proofs.YtcglmngfglmcgaaDoorM
open Go.Proofs.YtcglmngfglmcgaaDoorW.PrintWords

/-- The pieces of n. -/
def chunks {α : Type} (n : Nat) (l : List α) : List (List α) := (List.range ((l.length + n - 1) / n)).map fun i => (l.drop (i * n)).take n
theorem chunks_many {n m : Nat} (hn : 0 < n) : (n * m + n - 1) / n = m := by
  rw [Nat.add_sub_assoc (by omega), Nat.mul_add_div hn, Nat.div_eq_of_lt (by omega), Nat.add_zero]
theorem chunks_eq {α : Type} {n m : Nat} (hn : 0 < n) {l : List α} (h : l.length = n * m) : chunks n l = (List.range m).map fun i => (l.drop (i * n)).take n := by
  unfold chunks
  rw [h, chunks_many hn]
theorem chunks_length {α : Type} {n m : Nat} (hn : 0 < n) {l : List α} (h : l.length = n * m) : (chunks n l).length = m := by
  rw [chunks_eq hn h, List.length_map, List.length_range]
theorem chunks_each {α : Type} {n m : Nat} (hn : 0 < n) {l : List α} (h : l.length = n * m) : ∀ q ∈ chunks n l, q.length = n := by
  intro q hq
  rw [chunks_eq hn h] at hq
  obtain ⟨i, hi, rfl⟩ := List.mem_map.1 hq
  have hi' := List.mem_range.1 hi
  have : (i + 1) * n ≤ n * m := by rw [Nat.mul_comm n]; exact Nat.mul_le_mul_right _ (by omega)
  rw [Nat.add_mul, Nat.one_mul] at this
  rw [List.length_take, List.length_drop, h]
  omega
theorem cut_flatten {α : Type} {n : Nat} (hn : 0 < n) : ∀ {m : Nat} {l : List α}, l.length = n * m → (chunks n l).flatten = l
  | 0, l, h => by
    rw [chunks_eq hn h]
    have : l = [] := List.eq_nil_of_length_eq_zero (by rw [h, Nat.mul_zero])
    rw [this]
    rfl
  | m + 1, l, h => by
    have hle : n ≤ l.length := by rw [h, Nat.mul_add]; omega
    have h2 : (l.drop n).length = n * m := by rw [List.length_drop, h, Nat.mul_add]; omega
    have ih := cut_flatten hn h2
    rw [chunks_eq hn h2] at ih
    rw [chunks_eq hn h, List.range_succ_eq_map, List.map_cons, List.flatten_cons, Nat.zero_mul, List.drop_zero, List.map_map]
    conv => rhs; rw [← List.take_append_drop n l, ← ih]
    congr 2
    apply List.map_congr_left
    intro i _
    show (l.drop ((i + 1) * n)).take n = ((l.drop n).drop (i * n)).take n
    rw [List.drop_drop, Nat.add_mul, Nat.one_mul, Nat.add_comm n]
theorem chunks_map {α β : Type} (f : α → β) (n : Nat) (l : List α) : chunks n (l.map f) = (chunks n l).map (List.map f) := by
  unfold chunks
  rw [List.length_map, List.map_map]
  apply List.map_congr_left
  intro i _
  simp [List.map_drop, List.map_take]
theorem chunks_rows {α : Type} {n : Nat} (hn : 0 < n) {rs : List (List α)} (h : ∀ q ∈ rs, q.length = n) : chunks n rs.flatten = rs := by
  induction rs with
  | nil => unfold chunks; simp; omega
  | cons q rs ih =>
    have hq := h q (List.mem_cons_self ..)
    have ih' := ih fun q hq => h q (List.mem_cons_of_mem _ hq)
    have hl : rs.flatten.length = n * rs.length := by
      clear ih ih'
      induction rs with
      | nil => simp
      | cons p rs ih => rw [List.flatten_cons, List.length_append, ih (fun q hq => h q (by simp at hq ⊢; rcases hq with h | h <;> simp [h])), h p (by simp), List.length_cons, Nat.mul_add]; omega
    have hl2 : (q :: rs).flatten.length = n * (rs.length + 1) := by rw [List.flatten_cons, List.length_append, hl, hq, Nat.mul_add]; omega
    rw [chunks_eq hn hl] at ih'
    rw [chunks_eq hn hl2, List.range_succ_eq_map, List.map_cons, Nat.zero_mul, List.drop_zero, List.map_map, List.flatten_cons]
    congr 1
    · rw [List.take_append_of_le_length (by omega), List.take_of_length_le (by omega)]
    · conv => rhs; rw [← ih']
      apply List.map_congr_left
      intro i _
      show ((q ++ rs.flatten).drop ((i + 1) * n)).take n = _
      have e : (i + 1) * n = q.length + i * n := by rw [Nat.add_mul, Nat.one_mul, hq]; omega
      rw [e, List.drop_length_add_append]
/-- A cell. -/
def at_ (w : Nat) (cs : List UInt8) (x y : Nat) : UInt8 := cs.getD (y * w + x) 0
/-- Turned by a quarter clockwise; each row backwards: as rows. -/
def turnG (w h : Nat) (cs : List UInt8) : List (List UInt8) := (List.range w).map fun x => (List.range h).map fun j => at_ w cs x (h - 1 - j)
def mirG (w h : Nat) (cs : List UInt8) : List (List UInt8) := (List.range h).map fun y => (List.range w).map fun j => at_ w cs (w - 1 - j) y
theorem turnG_len (w h : Nat) (cs : List UInt8) : (turnG w h cs).length = w := by simp [turnG]
theorem mirG_len (w h : Nat) (cs : List UInt8) : (mirG w h cs).length = h := by simp [mirG]
theorem turnG_each (w h : Nat) (cs : List UInt8) : ∀ q ∈ turnG w h cs, q.length = h := by
  intro q hq
  obtain ⟨x, _, rfl⟩ := List.mem_map.1 hq
  simp
theorem mirG_each (w h : Nat) (cs : List UInt8) : ∀ q ∈ mirG w h cs, q.length = w := by
  intro q hq
  obtain ⟨x, _, rfl⟩ := List.mem_map.1 hq
  simp
theorem rowsFlat {α : Type} {n : Nat} : ∀ {l : List (List α)}, (∀ q ∈ l, q.length = n) → l.flatten.length = n * l.length
  | [], _ => by simp
  | q :: l, h => by
    rw [List.flatten_cons, List.length_append, rowsFlat (fun q hq => h q (List.mem_cons_of_mem _ hq)), h q (List.mem_cons_self ..), List.length_cons, Nat.mul_add]
    omega
theorem turnG_flat (w h : Nat) (cs : List UInt8) : (turnG w h cs).flatten.length = h * w := by rw [rowsFlat (turnG_each w h cs), turnG_len]
theorem mirG_flat (w h : Nat) (cs : List UInt8) : (mirG w h cs).flatten.length = w * h := by rw [rowsFlat (mirG_each w h cs), mirG_len]
/-- A cell of rows of equal length. -/
theorem flat_at {α : Type} {n : Nat} : ∀ {l : List (List α)}, (∀ q ∈ l, q.length = n) → ∀ {i j : Nat} {q : List α}, l[i]? = some q → j < n → l.flatten[i * n + j]? = q[j]?
  | [], _, i, j, q, hi, _ => by simp at hi
  | p :: l, h, i, j, q, hi, hj => by
    have hp : p.length = n := h p (List.mem_cons_self ..)
    match i with
    | 0 =>
      simp at hi
      subst hi
      rw [List.flatten_cons, Nat.zero_mul, Nat.zero_add, List.getElem?_append_left (by omega)]
    | i + 1 =>
      have h2 := flat_at (l := l) (fun q hq => h q (List.mem_cons_of_mem _ hq)) (i := i) (j := j) (q := q) (by simpa using hi) hj
      have e : (i + 1) * n + j = p.length + (i * n + j) := by rw [Nat.add_mul, Nat.one_mul, hp]; omega
      rw [List.flatten_cons, e, List.getElem?_append_right (by omega), Nat.add_sub_cancel_left, h2]
theorem turn_at (w h : Nat) (cs : List UInt8) {x j : Nat} (hx : x < w) (hj : j < h) : (turnG w h cs).flatten[x * h + j]? = some (at_ w cs x (h - 1 - j)) := by
  rw [flat_at (turnG_each w h cs) (q := (List.range h).map fun j => at_ w cs x (h - 1 - j)) (by simp [turnG, hx]) hj]
  simp [hj]
theorem mir_at (w h : Nat) (cs : List UInt8) {y j : Nat} (hy : y < h) (hj : j < w) : (mirG w h cs).flatten[y * w + j]? = some (at_ w cs (w - 1 - j) y) := by
  rw [flat_at (mirG_each w h cs) (q := (List.range w).map fun j => at_ w cs (w - 1 - j) y) (by simp [mirG, hy]) hj]
  simp [hj]
/-- The mirrored rows, as cut and turned about. -/
theorem mir_rows {w h : Nat} (hw : 0 < w) {cs : List UInt8} (hl : cs.length = w * h) : (chunks w cs).map List.reverse = mirG w h cs := by
  rw [chunks_eq hw hl, List.map_map]
  unfold mirG
  apply List.map_congr_left
  intro y hy
  have hy' := List.mem_range.1 hy
  have hle : (y + 1) * w ≤ w * h := by rw [Nat.mul_comm w]; exact Nat.mul_le_mul_right _ (by omega)
  rw [Nat.add_mul, Nat.one_mul] at hle
  have h1 : ((cs.drop (y * w)).take w).length = w := by rw [List.length_take, List.length_drop, hl]; omega
  apply List.ext_getElem
  · simp [h1]
  · intro j h2 h3
    have hj : j < w := by simpa using h3
    simp only [Function.comp_apply, List.getElem_reverse, List.getElem_take, List.getElem_drop, List.getElem_map, List.getElem_range, h1]
    unfold at_
    rw [List.getD_eq_getElem?_getD, List.getElem?_eq_getElem (by omega)]
    rfl
/-- What the quarter turn has laid behind k cells: place j's source is (h - 1 - j % h) * w + j / h. -/
def srcT (w h j : Nat) : Nat := (h - 1 - j % h) * w + j / h
def dstT (w h k : Nat) : Nat := (k % w) * h + (h - 1 - k / w)
theorem turn_bij : ∀ w h : Fin 8, ∀ k j : Fin 37, k.val < w.val * h.val → j.val < w.val * h.val → (decide (srcT w.val h.val j.val = k.val)) = decide (j.val = dstT w.val h.val k.val) := by decide +kernel
theorem dst_lt : ∀ w h : Fin 8, ∀ k : Fin 37, k.val < w.val * h.val → dstT w.val h.val k.val < w.val * h.val ∧ k.val / w.val < h.val ∧ k.val % w.val < w.val := by decide +kernel
theorem src_lt : ∀ w h : Fin 8, ∀ k : Fin 37, k.val < w.val * h.val → srcT w.val h.val k.val < w.val * h.val ∧ k.val / h.val < w.val ∧ k.val % h.val < h.val := by decide +kernel
def partT (w h : Nat) (cs : List UInt8) (k : Nat) : List UInt8 := (List.range (w * h)).map fun j => if srcT w h j < k then cs.getD (srcT w h j) 0 else 0
theorem partT_len (w h : Nat) (cs : List UInt8) (k : Nat) : (partT w h cs k).length = w * h := by simp [partT]
theorem partT_zero (w h : Nat) (cs : List UInt8) : partT w h cs 0 = List.replicate (w * h) 0 := by
  apply List.ext_getElem <;> simp [partT]
theorem partT_at (w h : Nat) (cs : List UInt8) (k : Nat) {j : Nat} (hj : j < w * h) : (partT w h cs k)[j]? = some (if srcT w h j < k then cs.getD (srcT w h j) 0 else 0) := by
  unfold partT
  rw [List.getElem?_map, List.getElem?_range hj]
  rfl
theorem partT_step {w h k : Nat} (hw : w ≤ 7) (hh : h ≤ 7) (hm : w * h ≤ 36) (hk : k < w * h) (cs : List UInt8) : (partT w h cs k).set (dstT w h k) (cs.getD k 0) = partT w h cs (k + 1) := by
  apply List.ext_getElem?
  intro j
  by_cases hj : j < w * h
  · have hb := turn_bij ⟨w, by omega⟩ ⟨h, by omega⟩ ⟨k, by omega⟩ ⟨j, by omega⟩ hk hj
    simp only at hb
    rw [List.getElem?_set, partT_at w h cs _ hj, partT_at w h cs _ hj, partT_len]
    by_cases e : j = dstT w h k
    · have hs : srcT w h j = k := by rw [decide_eq_true e] at hb; exact of_decide_eq_true hb
      rw [if_pos e.symm, if_pos (by omega), hs, if_pos (by omega)]
    · have hs : srcT w h j ≠ k := by rw [decide_eq_false e] at hb; exact of_decide_eq_false hb
      rw [if_neg (fun h => e h.symm)]
      by_cases l : srcT w h j < k
      · rw [if_pos l, if_pos (by omega)]
      · rw [if_neg l, if_neg (by omega)]
  · rw [List.getElem?_eq_none (by rw [List.length_set, partT_len]; omega), List.getElem?_eq_none (by rw [partT_len]; omega)]
theorem partT_all {w h : Nat} (hw : w ≤ 7) (hh : h ≤ 7) (hm : w * h ≤ 36) (cs : List UInt8) : partT w h cs (w * h) = (turnG w h cs).flatten := by
  apply List.ext_getElem?
  intro j
  by_cases hj : j < w * h
  · obtain ⟨h1, h2, h3⟩ := src_lt ⟨w, by omega⟩ ⟨h, by omega⟩ ⟨j, by omega⟩ hj
    simp only at h1 h2 h3
    have e : j = (j / h) * h + j % h := by rw [Nat.mul_comm]; exact (Nat.div_add_mod j h).symm
    conv => rhs; rw [e]
    rw [turn_at w h cs h2 h3]
    rw [partT_at w h cs _ hj, if_pos h1]
    rfl
  · rw [List.getElem?_eq_none (by rw [partT_len]; omega), List.getElem?_eq_none (by rw [turnG_flat, Nat.mul_comm]; omega)]
end Go.Proofs.YtcglmngfglmcgaaDoorM
