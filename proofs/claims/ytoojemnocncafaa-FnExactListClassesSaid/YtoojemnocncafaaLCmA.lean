/- Lists of colours with given weights: order, number, and what stays as it is under a move. No program stands in this text. -/
import Derived.Test.YtoojemnocncafaaWWords
import Derived.Lib.SlicesCompact
import Derived.Lib.RowBridge
import Derived.Lib.MinMaxS
import Derived.Sort.Walk0
set_option linter.unusedVariables false
set_option linter.unusedSimpArgs false
namespace Go.Proofs.YtoojemnocncafaaL
namespace CM
/-- All rows of colours for blocks of the sizes ss with the weights a (walls) and b (balls), in order. -/
def cols : List Nat → Nat → Nat → List (List Int)
  | [], a, b => if a + b = 0 then [[]] else []
  | s :: ss, a, b => (if s ≤ a then (cols ss (a - s) b).map (35 :: ·) else []) ++ ((cols ss a b).map (46 :: ·) ++ (if s ≤ b then (cols ss a (b - s)).map (111 :: ·) else []))
def wt (x : Int) : List Nat → List Int → Nat
  | s :: ss, c :: cs => (if c = x then s else 0) + wt x ss cs
  | _, _ => 0
def Gd (x : Int) : Prop := x = 35 ∨ x = 46 ∨ x = 111
theorem mem_cons_map {x y : Int} {c : List Int} {L : List (List Int)} : (x :: c) ∈ L.map (y :: ·) ↔ x = y ∧ c ∈ L := by
  rw [List.mem_map]
  constructor
  · rintro ⟨d, hd, e⟩
    injection e with e1 e2
    subst e1 e2
    exact ⟨rfl, hd⟩
  · rintro ⟨rfl, h⟩
    exact ⟨c, h, rfl⟩
theorem nil_map {y : Int} {L : List (List Int)} : ¬ ([] : List Int) ∈ L.map (y :: ·) := by
  rw [List.mem_map]
  rintro ⟨d, _, e⟩
  cases e
theorem mem_if {p : Prop} [Decidable p] {L : List (List Int)} {c : List Int} : c ∈ (if p then L else []) ↔ p ∧ c ∈ L := by
  by_cases h : p
  · rw [if_pos h]
    exact ⟨fun x => ⟨h, x⟩, fun x => x.2⟩
  · rw [if_neg h]
    exact ⟨fun x => (nomatch x), fun x => absurd x.1 h⟩
theorem mem_cols : ∀ (ss : List Nat) (a b : Nat) (c : List Int), c ∈ cols ss a b ↔ c.length = ss.length ∧ (∀ x ∈ c, Gd x) ∧ wt 35 ss c = a ∧ wt 111 ss c = b
  | [], a, b, c => by
    unfold cols
    rw [mem_if, List.mem_singleton]
    constructor
    · rintro ⟨h, rfl⟩
      exact ⟨rfl, fun x hx => (nomatch hx), by show 0 = a; omega, by show 0 = b; omega⟩
    · rintro ⟨h, _, h1, h2⟩
      have e := List.eq_nil_of_length_eq_zero h
      subst e
      have h1 : 0 = a := h1
      have h2 : 0 = b := h2
      exact ⟨by omega, rfl⟩
  | s :: ss, a, b, [] => by
    unfold cols
    rw [List.mem_append, List.mem_append, mem_if, mem_if]
    constructor
    · rintro (h | h | h)
      · exact absurd h.2 nil_map
      · exact absurd h nil_map
      · exact absurd h.2 nil_map
    · rintro ⟨h, _⟩
      cases h
  | s :: ss, a, b, x :: c => by
    unfold cols
    rw [List.mem_append, List.mem_append, mem_if, mem_if, mem_cons_map, mem_cons_map, mem_cons_map, mem_cols, mem_cols, mem_cols]
    simp only [wt, List.length_cons]
    constructor
    · rintro (⟨h0, rfl, h1, h2, h3, h4⟩ | ⟨rfl, h1, h2, h3, h4⟩ | ⟨h0, rfl, h1, h2, h3, h4⟩)
      · refine ⟨by omega, fun y hy => (List.mem_cons.1 hy).elim (fun e => .inl e) (h2 y), ?_, ?_⟩
        · rw [if_pos rfl]; omega
        · rw [if_neg (by decide)]; omega
      · refine ⟨by omega, fun y hy => (List.mem_cons.1 hy).elim (fun e => .inr (.inl e)) (h2 y), ?_, ?_⟩
        · rw [if_neg (by decide)]; omega
        · rw [if_neg (by decide)]; omega
      · refine ⟨by omega, fun y hy => (List.mem_cons.1 hy).elim (fun e => .inr (.inr e)) (h2 y), ?_, ?_⟩
        · rw [if_neg (by decide)]; omega
        · rw [if_pos rfl]; omega
    · rintro ⟨h1, h2, h3, h4⟩
      have h2' : ∀ y ∈ c, Gd y := fun y hy => h2 y (List.mem_cons_of_mem _ hy)
      rcases h2 x (List.mem_cons_self ..) with rfl | rfl | rfl
      · rw [if_pos rfl] at h3
        rw [if_neg (by decide)] at h4
        exact .inl ⟨by omega, rfl, by omega, h2', by omega, by omega⟩
      · rw [if_neg (by decide)] at h3
        rw [if_neg (by decide)] at h4
        exact .inr (.inl ⟨rfl, by omega, h2', by omega, by omega⟩)
      · rw [if_neg (by decide)] at h3
        rw [if_pos rfl] at h4
        exact .inr (.inr ⟨by omega, rfl, by omega, h2', by omega, by omega⟩)
/-- Before, cell by cell. -/
def Lx : List Int → List Int → Prop
  | x :: a, y :: b => x < y ∨ (x = y ∧ Lx a b)
  | _, _ => False
theorem Lx_irrefl : ∀ a, ¬ Lx a a
  | [], h => h
  | x :: a, h => by
    rcases h with h | ⟨_, h⟩
    · omega
    · exact Lx_irrefl a h
theorem pair_if {p : Prop} [Decidable p] {L : List (List Int)} {R : List Int → List Int → Prop} (h : L.Pairwise R) : (if p then L else []).Pairwise R := by
  by_cases hp : p
  · rw [if_pos hp]; exact h
  · rw [if_neg hp]; exact .nil
theorem cols_lx : ∀ (ss : List Nat) (a b : Nat), (cols ss a b).Pairwise Lx
  | [], a, b => by
    unfold cols
    exact pair_if (List.pairwise_singleton _ _)
  | s :: ss, a, b => by
    have hm : ∀ (z : Int) (L : List (List Int)), L.Pairwise Lx → (L.map (z :: ·)).Pairwise Lx := fun z L h => List.pairwise_map.2 (h.imp fun h => .inr ⟨rfl, h⟩)
    have hx : ∀ {z1 z2 : Int} {L1 L2 : List (List Int)}, z1 < z2 → ∀ c ∈ L1.map (z1 :: ·), ∀ d ∈ L2.map (z2 :: ·), Lx c d := by
      intro z1 z2 L1 L2 hz c hc d hd
      obtain ⟨c', _, rfl⟩ := List.mem_map.1 hc
      obtain ⟨d', _, rfl⟩ := List.mem_map.1 hd
      exact .inl hz
    unfold cols
    refine List.pairwise_append.2 ⟨pair_if (hm _ _ (cols_lx ..)), List.pairwise_append.2 ⟨hm _ _ (cols_lx ..), pair_if (hm _ _ (cols_lx ..)), fun c hc d hd => hx (by decide) c hc d (mem_if.1 hd).2⟩, fun c hc d hd => ?_⟩
    rcases List.mem_append.1 hd with hd | hd
    · exact hx (by decide) c (mem_if.1 hc).2 d hd
    · exact hx (by decide) c (mem_if.1 hc).2 d (mem_if.1 hd).2
theorem cols_nodup (ss : List Nat) (a b : Nat) : (cols ss a b).Nodup :=
  (cols_lx ss a b).imp fun {x y} h e => by subst e; exact Lx_irrefl _ h
theorem len_if {p : Prop} [Decidable p] (L : List (List Int)) (z : Int) : (if p then L.map (z :: ·) else []).length = if p then L.length else 0 := by
  by_cases h : p
  · rw [if_pos h, if_pos h, List.length_map]
  · rw [if_neg h, if_neg h, List.length_nil]
theorem len_cols (s : Nat) (ss : List Nat) (a b : Nat) : (cols (s :: ss) a b).length = (if s ≤ a then (cols ss (a - s) b).length else 0) + ((cols ss a b).length + (if s ≤ b then (cols ss a (b - s)).length else 0)) := by
  conv => lhs; unfold cols
  rw [List.length_append, List.length_append, len_if, len_if, List.length_map]
theorem cols_le : ∀ (ss : List Nat) (a b : Nat), (cols ss a b).length ≤ 3 ^ ss.length
  | [], a, b => by
    unfold cols
    by_cases h : a + b = 0
    · rw [if_pos h]; exact Nat.le_refl _
    · rw [if_neg h]; exact Nat.zero_le _
  | s :: ss, a, b => by
    rw [len_cols, List.length_cons, Nat.pow_succ]
    have h1 := cols_le ss (a - s) b
    have h2 := cols_le ss a b
    have h3 := cols_le ss a (b - s)
    by_cases c1 : s ≤ a <;> by_cases c2 : s ≤ b <;> simp only [c1, c2, if_true, if_false] <;> omega
-- blocks of one cell
theorem ones_none : ∀ (n a b : Nat), n < a + b → cols (List.replicate n 1) a b = []
  | 0, a, b, h => by
    show (if a + b = 0 then [[]] else []) = []
    rw [if_neg (by omega)]
  | n + 1, a, b, h => by
    rw [List.replicate_succ]
    unfold cols
    rw [ones_none n a b (by omega)]
    by_cases c1 : 1 ≤ a <;> by_cases c2 : 1 ≤ b
    · rw [if_pos c1, if_pos c2, ones_none n (a - 1) b (by omega), ones_none n a (b - 1) (by omega)]; rfl
    · rw [if_pos c1, if_neg c2, ones_none n (a - 1) b (by omega)]; rfl
    · rw [if_neg c1, if_pos c2, ones_none n a (b - 1) (by omega)]; rfl
    · omega
def fact : Nat → Nat
  | 0 => 1
  | n + 1 => (n + 1) * fact n
theorem fact_pos : ∀ n, 0 < fact n
  | 0 => by decide
  | n + 1 => Nat.mul_pos (Nat.succ_pos _) (fact_pos n)
theorem fact_cols : ∀ (n a b c : Nat), a + b + c = n → (cols (List.replicate n 1) a b).length * (fact a * fact b * fact c) = fact n
  | 0, a, b, c, h => by
    obtain ⟨rfl, rfl, rfl⟩ : a = 0 ∧ b = 0 ∧ c = 0 := by omega
    rfl
  | n + 1, a, b, c, h => by
    have hA : (if 1 ≤ a then (cols (List.replicate n 1) (a - 1) b).length else 0) * (fact a * fact b * fact c) = a * fact n := by
      cases a with
      | zero => simp
      | succ a =>
        have ih := fact_cols n a b c (by omega)
        rw [if_pos (by omega), Nat.add_sub_cancel, ← ih]
        show _ * ((a + 1) * fact a * fact b * fact c) = _
        simp only [Nat.mul_assoc, Nat.mul_left_comm (a + 1)]
    have hB : (if 1 ≤ b then (cols (List.replicate n 1) a (b - 1)).length else 0) * (fact a * fact b * fact c) = b * fact n := by
      cases b with
      | zero => simp
      | succ b =>
        have ih := fact_cols n a b c (by omega)
        rw [if_pos (by omega), Nat.add_sub_cancel, ← ih]
        show _ * (fact a * ((b + 1) * fact b) * fact c) = _
        simp only [Nat.mul_assoc, Nat.mul_left_comm (b + 1)]
    have hC : (cols (List.replicate n 1) a b).length * (fact a * fact b * fact c) = c * fact n := by
      cases c with
      | zero => rw [ones_none n a b (by omega)]; simp
      | succ c =>
        have ih := fact_cols n a b c (by omega)
        rw [← ih]
        show _ * (fact a * fact b * ((c + 1) * fact c)) = _
        simp only [Nat.mul_assoc, Nat.mul_left_comm (c + 1)]
    rw [List.replicate_succ, len_cols, Nat.add_mul, Nat.add_mul, hA, hB, hC, ← Nat.add_mul, ← Nat.add_mul]
    show (a + (c + b)) * fact n = (n + 1) * fact n
    rw [show a + (c + b) = n + 1 by omega]
-- sums
def sumN : Nat → (Nat → Nat) → Nat
  | 0, _ => 0
  | k + 1, f => sumN k f + f k
theorem sumN_congr : ∀ {k : Nat} {f g : Nat → Nat}, (∀ i, i < k → f i = g i) → sumN k f = sumN k g
  | 0, _, _, _ => rfl
  | k + 1, f, g, h => by
    show sumN k f + f k = sumN k g + g k
    rw [sumN_congr (fun i hi => h i (by omega)), h k (by omega)]
theorem sumN_zero : ∀ (k : Nat), sumN k (fun _ => 0) = 0
  | 0 => rfl
  | k + 1 => by show sumN k _ + 0 = 0; rw [sumN_zero k]
theorem sumN_add : ∀ (k : Nat) (f g : Nat → Nat), sumN k (fun i => f i + g i) = sumN k f + sumN k g
  | 0, _, _ => rfl
  | k + 1, f, g => by
    show sumN k (fun i => f i + g i) + (f k + g k) = (sumN k f + f k) + (sumN k g + g k)
    rw [sumN_add k]
    omega
theorem sumN_front : ∀ (k : Nat) (f : Nat → Nat), sumN (k + 1) f = f 0 + sumN k (fun i => f (i + 1))
  | 0, f => by show 0 + f 0 = f 0 + 0; omega
  | k + 1, f => by
    show sumN (k + 1) f + f (k + 1) = f 0 + (sumN k (fun i => f (i + 1)) + f (k + 1))
    rw [sumN_front k]
    omega
theorem sumN_one : ∀ (K k0 : Nat) (P : Nat → Prop) [DecidablePred P], k0 < K → sumN K (fun k => if P k then (if k0 = k then 1 else 0) else 0) = if P k0 then 1 else 0
  | 0, k0, P, _, h => by omega
  | K + 1, k0, P, _, h => by
    show sumN K _ + (if P K then (if k0 = K then 1 else 0) else 0) = _
    by_cases e : k0 = K
    · subst e
      rw [if_pos rfl, sumN_congr (g := fun _ => 0) (fun i hi => by rw [if_neg (by omega : ¬ k0 = i), ite_self]), sumN_zero, Nat.zero_add]
    · rw [sumN_one K k0 P (by omega), if_neg e, ite_self, Nat.add_zero]
/-- Counted by places or by blocks. -/
theorem dbl (K : Nat) (P : Nat → Prop) [DecidablePred P] (ci : Nat → Nat) : ∀ (n : Nat), (∀ p, p < n → ci p < K) →
    sumN n (fun p => if P (ci p) then 1 else 0) = sumN K (fun k => if P k then sumN n (fun p => if ci p = k then 1 else 0) else 0)
  | 0, _ => by
    show 0 = sumN K (fun k => if P k then 0 else 0)
    rw [sumN_congr (g := fun _ => 0) (fun i _ => ite_self _), sumN_zero]
  | n + 1, h => by
    have e : sumN K (fun k => if P k then sumN (n + 1) (fun p => if ci p = k then 1 else 0) else 0) = sumN K (fun k => (if P k then sumN n (fun p => if ci p = k then 1 else 0) else 0) + (if P k then (if ci n = k then 1 else 0) else 0)) :=
      sumN_congr fun i _ => by
        by_cases hP : P i
        · rw [if_pos hP, if_pos hP, if_pos hP]; rfl
        · rw [if_neg hP, if_neg hP, if_neg hP]
    rw [e, sumN_add, ← dbl K P ci n (fun p hp => h p (by omega)), sumN_one K (ci n) P (h n (by omega))]
    rfl
theorem wt_sum (x : Int) : ∀ (ss : List Nat) (c : List Int), c.length = ss.length → wt x ss c = sumN ss.length (fun k => if c.getD k 46 = x then ss.getD k 0 else 0)
  | [], [], _ => rfl
  | s :: ss, y :: c, h => by
    rw [List.length_cons, sumN_front]
    show (if y = x then s else 0) + wt x ss c = _
    rw [wt_sum x ss c (by simpa using h)]
    rfl
/-- A row of cells picked from another. -/
def pk (n : Nat) (f : Nat → Nat) (l : List Int) : List Int := (List.range n).map fun p => l.getD (f p) 46
theorem pk_len (n : Nat) (f : Nat → Nat) (l : List Int) : (pk n f l).length = n := by simp [pk]
theorem pk_at {n : Nat} {f : Nat → Nat} {l : List Int} {p : Nat} (hp : p < n) : (pk n f l).getD p 46 = l.getD (f p) 46 := by
  unfold pk
  simp [List.getD, hp]
theorem ext_at {n : Nat} {a b : List Int} (ha : a.length = n) (hb : b.length = n) (h : ∀ p, p < n → a.getD p 46 = b.getD p 46) : a = b := by
  apply List.ext_getElem (by omega)
  intro i h1 h2
  have := h i (by omega)
  rw [List.getD_eq_getElem?_getD, List.getD_eq_getElem?_getD, List.getElem?_eq_getElem h1, List.getElem?_eq_getElem h2] at this
  exact this
theorem pk_pk {n : Nat} {f g : Nat → Nat} {l : List Int} (hg : ∀ p, p < n → g p < n) : pk n g (pk n f l) = pk n (fun p => f (g p)) l := by
  show (List.range n).map _ = (List.range n).map _
  refine List.map_congr_left fun p hp => ?_
  exact pk_at (hg p (List.mem_range.1 hp))
theorem pk_id {n : Nat} {f : Nat → Nat} {l : List Int} (hl : l.length = n) (hf : ∀ p, p < n → f p = p) : pk n f l = l :=
  ext_at (pk_len ..) hl fun p hp => by rw [pk_at hp, hf p hp]
theorem getD_gd {l : List Int} {p : Nat} (hp : p < l.length) (h : ∀ x ∈ l, Gd x) : Gd (l.getD p 46) := by
  rw [List.getD_eq_getElem?_getD, List.getElem?_eq_getElem hp]
  exact h _ (List.getElem_mem hp)
theorem pk_gd {n m : Nat} {f : Nat → Nat} {l : List Int} (hl : l.length = m) (hf : ∀ p, p < n → f p < m) (h : ∀ x ∈ l, Gd x) : ∀ x ∈ pk n f l, Gd x := by
  intro x hx
  obtain ⟨p, hp, rfl⟩ := List.mem_map.1 hx
  exact getD_gd (by rw [hl]; exact hf p (List.mem_range.1 hp)) h
theorem wt_ones (x : Int) (n : Nat) (l : List Int) (hl : l.length = n) : wt x (List.replicate n 1) l = sumN n (fun p => if l.getD p 46 = x then 1 else 0) := by
  rw [wt_sum x _ _ (by rw [hl, List.length_replicate]), List.length_replicate]
  refine sumN_congr fun i hi => ?_
  rw [List.getD_eq_getElem?_getD (l := List.replicate n 1), List.getElem?_replicate, if_pos hi]
  rfl
theorem mem_ones (n a b : Nat) (l : List Int) : l ∈ cols (List.replicate n 1) a b ↔ l.length = n ∧ (∀ x ∈ l, Gd x) ∧ sumN n (fun p => if l.getD p 46 = 35 then 1 else 0) = a ∧ sumN n (fun p => if l.getD p 46 = 111 then 1 else 0) = b := by
  rw [mem_cols, List.length_replicate]
  constructor
  · rintro ⟨h1, h2, h3, h4⟩
    rw [wt_ones _ _ _ h1] at h3 h4
    exact ⟨h1, h2, h3, h4⟩
  · rintro ⟨h1, h2, h3, h4⟩
    refine ⟨h1, h2, ?_, ?_⟩
    · rw [wt_ones _ _ _ h1]; exact h3
    · rw [wt_ones _ _ _ h1]; exact h4
/-- A move is one to one on places: it leaves the weights. -/
theorem perm_sum (n : Nat) (f g : Nat → Nat) (P : Nat → Prop) [DecidablePred P] (hf : ∀ p, p < n → f p < n) (hg : ∀ p, p < n → g p < n ∧ f (g p) = p) (hgf : ∀ p, p < n → g (f p) = p) : sumN n (fun p => if P (f p) then 1 else 0) = sumN n (fun p => if P p then 1 else 0) := by
  rw [dbl n P f n hf]
  refine sumN_congr fun k hk => ?_
  by_cases hP : P k
  · rw [if_pos hP, if_pos hP]
    have h1 := sumN_one n (g k) (fun _ => True) (hg k hk).1
    rw [if_pos trivial] at h1
    refine Eq.trans (sumN_congr fun p hp => ?_) h1
    rw [if_pos trivial]
    by_cases e : f p = k
    · rw [if_pos e, if_pos (by rw [← e]; exact hgf p hp)]
    · rw [if_neg e, if_neg (fun x => e (by rw [← x]; exact (hg k hk).2))]
  · rw [if_neg hP, if_neg hP]
theorem pk_mem {n a b : Nat} {f g : Nat → Nat} {l : List Int} (hf : ∀ p, p < n → f p < n) (hg : ∀ p, p < n → g p < n ∧ f (g p) = p) (hgf : ∀ p, p < n → g (f p) = p) (h : l ∈ cols (List.replicate n 1) a b) : pk n f l ∈ cols (List.replicate n 1) a b := by
  obtain ⟨h1, h2, h3, h4⟩ := (mem_ones n a b l).1 h
  refine (mem_ones n a b _).2 ⟨pk_len .., pk_gd h1 hf h2, ?_, ?_⟩
  · rw [← h3, ← perm_sum n f g (fun p => l.getD p 46 = 35) hf hg hgf]
    exact sumN_congr fun p hp => by rw [pk_at hp]
  · rw [← h4, ← perm_sum n f g (fun p => l.getD p 46 = 111) hf hg hgf]
    exact sumN_congr fun p hp => by rw [pk_at hp]
/-- What a move leaves as it is: a colour for each block of places. -/
theorem fix_count (n : Nat) (f : Nat → Nat) (R ss : List Nat) (ci : Nat → Nat) (a b : Nat)
    (h1 : ∀ p, p < n → f p < n ∧ ci p < R.length ∧ ci (f p) = ci p) (h2 : ∀ k, k < R.length → R.getD k 0 < n ∧ ci (R.getD k 0) = k)
    (h3 : ∀ p, p < n → R.getD (ci p) 0 = p ∨ R.getD (ci p) 0 = f p ∨ R.getD (ci p) 0 = f (f p) ∨ R.getD (ci p) 0 = f (f (f p)))
    (h4 : ss.length = R.length) (h5 : ∀ k, k < R.length → ss.getD k 0 = sumN n (fun p => if ci p = k then 1 else 0)) :
    ((cols (List.replicate n 1) a b).filter (fun l => decide (pk n f l = l))).length = (cols ss a b).length := by
  have hw : ∀ (x : Int) (c : List Int), c.length = R.length → wt x ss c = sumN n (fun p => if (pk n ci c).getD p 46 = x then 1 else 0) := by
    intro x c hc
    rw [wt_sum x ss c (by omega), h4, sumN_congr (k := n) (g := fun p => if c.getD (ci p) 46 = x then 1 else 0) (fun p hp => by rw [pk_at hp]), dbl R.length (fun k => c.getD k 46 = x) ci n (fun p hp => (h1 p hp).2.1)]
    exact sumN_congr fun k hk => by rw [h5 k hk]
  have key : ((cols (List.replicate n 1) a b).filter (fun l => decide (pk n f l = l))).Perm ((cols ss a b).map (pk n ci)) := by
    refine (List.perm_ext_iff_of_nodup ((cols_nodup ..).filter _) ?_).2 fun l => ?_
    · refine List.pairwise_map.2 (List.Pairwise.imp_of_mem ?_ (cols_nodup ss a b))
      intro c d hc hd hne e
      have lc := ((mem_cols ss a b c).1 hc).1
      have ld := ((mem_cols ss a b d).1 hd).1
      refine hne (ext_at (n := R.length) (by omega) (by omega) fun k hk => ?_)
      obtain ⟨g1, g2⟩ := h2 k hk
      have e1 := pk_at (f := ci) (l := c) g1
      have e2 := pk_at (f := ci) (l := d) g1
      rw [g2] at e1 e2
      rw [← e1, ← e2, e]
    · rw [List.mem_filter, List.mem_map, mem_ones, decide_eq_true_eq]
      constructor
      · rintro ⟨⟨l1, l2, l3, l4⟩, hfix⟩
        have hstep : ∀ p, p < n → l.getD (f p) 46 = l.getD p 46 := fun p hp => by
          have := pk_at (f := f) (l := l) hp
          rw [hfix] at this
          exact this.symm
        have hr : ∀ p, p < n → l.getD (R.getD (ci p) 0) 46 = l.getD p 46 := by
          intro p hp
          have f1 := (h1 p hp).1
          have f2 := (h1 _ f1).1
          rcases h3 p hp with e | e | e | e
          · rw [e]
          · rw [e, hstep p hp]
          · rw [e, hstep _ f1, hstep p hp]
          · rw [e, hstep _ f2, hstep _ f1, hstep p hp]
        have hc : pk n ci (pk R.length (fun k => R.getD k 0) l) = l := by
          refine ext_at (pk_len ..) l1 fun p hp => ?_
          rw [pk_at hp, pk_at (h1 p hp).2.1]
          exact hr p hp
        refine ⟨pk R.length (fun k => R.getD k 0) l, (mem_cols ss a b _).2 ⟨by rw [pk_len, h4], pk_gd l1 (fun k hk => (h2 k hk).1) l2, ?_, ?_⟩, hc⟩
        · rw [hw _ _ (pk_len ..), hc]; exact l3
        · rw [hw _ _ (pk_len ..), hc]; exact l4
      · rintro ⟨c, hc, rfl⟩
        obtain ⟨c1, c2, c3, c4⟩ := (mem_cols ss a b c).1 hc
        rw [hw _ _ (by omega)] at c3 c4
        refine ⟨⟨pk_len .., pk_gd (m := R.length) (by omega) (fun p hp => (h1 p hp).2.1) c2, c3, c4⟩, ?_⟩
        refine ext_at (pk_len ..) (pk_len ..) fun p hp => ?_
        rw [pk_at hp, pk_at (h1 p hp).1, pk_at hp, (h1 p hp).2.2]
  rw [key.length_eq, List.length_map]
end CM
end Go.Proofs.YtoojemnocncafaaL
namespace Go.Proofs.YtoojemnocncafaaL
namespace CM
theorem sum_swap {α β : Type} (P : β → α → Bool) (T : List α) : ∀ M : List β, (M.map fun m => T.countP (P m)).sum = (T.map fun l => M.countP (fun m => P m l)).sum
  | [] => by
    show 0 = _
    induction T with
    | nil => rfl
    | cons t T ih => rw [List.map_cons, List.sum_cons, ← ih]; rfl
  | m :: M => by
    rw [List.map_cons, List.sum_cons, sum_swap P T M]
    clear sum_swap
    induction T with
    | nil => rfl
    | cons t T ih =>
      rw [List.map_cons, List.sum_cons, List.map_cons, List.sum_cons, ← ih, List.countP_cons, List.countP_cons]
      omega
theorem perm_of_sub {α : Type} [DecidableEq α] : ∀ {A B : List α}, A.Nodup → (∀ x ∈ A, x ∈ B) → B.length ≤ A.length → A.Perm B
  | [], B, _, _, h => by
    have e : B = [] := List.eq_nil_of_length_eq_zero (by simpa using h)
    rw [e]
  | x :: A, B, hA, hs, hl => by
    have hx := hs x (List.mem_cons_self ..)
    have hp := List.perm_cons_erase hx
    obtain ⟨hx1, hA1⟩ := List.nodup_cons.1 hA
    have hlen := hp.length_eq
    rw [List.length_cons] at hlen hl
    refine (List.Perm.cons x (perm_of_sub hA1 (fun y hy => ?_) (by omega))).trans hp.symm
    have hy1 := hs y (List.mem_cons_of_mem _ hy)
    have hne : y ≠ x := fun e => hx1 (e ▸ hy)
    exact (List.mem_erase_of_ne hne).2 hy1
theorem burnside {α : Type} [DecidableEq α] (T : List α) (hT : T.Nodup) (M : List Nat) (act : Nat → α → α) (own : α → Bool)
    (hmaps : ∀ m ∈ M, ∀ l ∈ T, act m l ∈ T) (hinj : ∀ m ∈ M, ∀ l ∈ T, ∀ l' ∈ T, act m l = act m l' → l = l')
    (hpt : ∀ l ∈ T, M.countP (fun m => decide (act m l = l)) = M.countP (fun m => own (act m l))) :
    (M.map (fun m => (T.filter (fun l => decide (act m l = l))).length)).sum = M.length * (T.filter own).length := by
  have e1 : (M.map (fun m => (T.filter (fun l => decide (act m l = l))).length)) = (M.map fun m => T.countP (fun l => decide (act m l = l))) :=
    List.map_congr_left fun m _ => List.countP_eq_length_filter.symm
  rw [e1, sum_swap (fun m l => decide (act m l = l)) T M, show (T.map fun l => M.countP (fun m => decide (act m l = l))) = (T.map fun l => M.countP (fun m => own (act m l))) from List.map_congr_left hpt, ← sum_swap (fun m l => own (act m l)) T M]
  have e2 : (M.map fun m => T.countP (fun l => own (act m l))) = M.map fun _ => (T.filter own).length := by
    refine List.map_congr_left fun m hm => ?_
    have hp : (T.map (act m)).Perm T := by
      refine perm_of_sub ?_ ?_ (by rw [List.length_map]; exact Nat.le_refl _)
      · refine List.pairwise_map.2 (List.Pairwise.imp_of_mem ?_ hT)
        intro a b ha hb hne e
        exact hne (hinj m hm a ha b hb e)
      · intro x hx
        obtain ⟨l, hl, rfl⟩ := List.mem_map.1 hx
        exact hmaps m hm l hl
    have := hp.countP_eq own
    rw [List.countP_map] at this
    rw [← List.countP_eq_length_filter]
    exact this
  rw [e2]
  clear e1 e2 hpt hinj hmaps
  induction M with
  | nil => simp
  | cons m M ih => rw [List.map_cons, List.sum_cons, ih, List.length_cons, Nat.succ_mul]; omega
/-- t is the least of the texts f m, m from M. -/
structure Lst (M : List Nat) (f : Nat → List UInt8) (t : List UInt8) : Prop where
  mem : ∃ m ∈ M, t = f m
  le : ∀ m ∈ M, t ≤ f m
theorem Lst.uniq {M M' : List Nat} {f g : Nat → List UInt8} {t u : List UInt8} (h : Lst M f t) (k : Lst M' g u) (h1 : ∀ m ∈ M, ∃ m' ∈ M', f m = g m') (h2 : ∀ m ∈ M', ∃ m' ∈ M, g m = f m') : t = u := by
  obtain ⟨m, hm, e⟩ := h.mem
  obtain ⟨m', hm', e'⟩ := k.mem
  obtain ⟨a, ha, ea⟩ := h1 m hm
  obtain ⟨b, hb, eb⟩ := h2 m' hm'
  refine List.le_antisymm ?_ ?_
  · rw [e', eb]; exact h.le b hb
  · rw [e, ea]; exact k.le a ha
theorem Lst.same {M : List Nat} {f : Nat → List UInt8} {t u : List UInt8} (h : Lst M f t) (k : Lst M f u) : t = u := h.uniq k (fun m hm => ⟨m, hm, rfl⟩) (fun m hm => ⟨m, hm, rfl⟩)
/-- The least so far: the start stands for the move s. -/
theorem fold_lst {f : Nat → List UInt8} (step : ByteArray → Nat → ByteArray) (ms : List Nat) (p : Nat → Bool) (hstep : ∀ t m, m ∈ ms → (step t m).data.toList = if p m = true ∧ f m < t.data.toList then f m else t.data.toList) :
    ∀ (D : List Nat) (t0 : ByteArray), Lst D f t0.data.toList → Lst (D ++ ms.filter p) f ((ms.foldl step t0).data.toList) := by
  induction ms with
  | nil => intro D t0 h; simpa using h
  | cons m ms ih =>
    intro D t0 h
    have hs := hstep t0 m (List.mem_cons_self ..)
    have ih' := ih (fun t m hm => hstep t m (List.mem_cons_of_mem _ hm))
    rw [List.foldl_cons, List.filter_cons]
    by_cases hp : p m = true
    · rw [if_pos hp]
      have h1 : Lst (D ++ [m]) f (step t0 m).data.toList := by
        rw [hs]
        by_cases hlt : f m < t0.data.toList
        · rw [if_pos ⟨hp, hlt⟩]
          refine ⟨⟨m, by simp, rfl⟩, fun m' hm' => ?_⟩
          rcases List.mem_append.1 hm' with hm' | hm'
          · exact List.le_trans (List.le_of_lt hlt) (h.le m' hm')
          · rw [List.mem_singleton.1 hm']; exact List.le_refl _
        · rw [if_neg (fun x => hlt x.2)]
          obtain ⟨d, hd, e⟩ := h.mem
          refine ⟨⟨d, List.mem_append_left _ hd, e⟩, fun m' hm' => ?_⟩
          rcases List.mem_append.1 hm' with hm' | hm'
          · exact h.le m' hm'
          · rw [List.mem_singleton.1 hm']; exact List.not_lt.1 hlt
      have h2 := ih' _ _ h1
      rw [List.append_assoc] at h2
      exact h2
    · rw [if_neg hp]
      have e : (step t0 m).data.toList = t0.data.toList := by rw [hs, if_neg (fun x => hp x.1)]
      exact ih' D _ (by rw [e]; exact h)
theorem min_data (m t : ByteArray) : (Lib.minS m t).data.toList = if t.data.toList < m.data.toList then t.data.toList else m.data.toList := by
  unfold Lib.minS
  by_cases h : t.data.toList < m.data.toList
  · rw [if_pos h, if_neg]
    rintro (h1 | h1)
    · exact List.lt_asymm h h1
    · rw [h1] at h
      exact List.lt_irrefl _ h
  · rw [if_neg h, if_pos]
    rw [List.not_lt] at h
    exact List.le_iff_lt_or_eq.1 h
/-- Taken together, a sorted row is strictly sorted and has the same texts. -/
theorem compact_ok {zs : List (List UInt8)} (hs : zs.Pairwise (· ≤ ·)) : (Lib.compact zs).Pairwise (· < ·) ∧ ∀ t, t ∈ Lib.compact zs ↔ t ∈ zs := by
  have hat : ∀ i (h : i < zs.length), zs.toArray[i]! = zs[i] := fun i h => by simp [h]
  have hle : ∀ i j (hi : i < zs.length) (hj : j < zs.length), i ≤ j → zs[i] ≤ zs[j] := by
    intro i j hi hj hij
    rcases Nat.lt_or_ge i j with h | h
    · exact List.pairwise_iff_getElem.1 hs i j hi hj h
    · have : i = j := by omega
      subst this
      exact List.le_refl _
  have key : ∀ m, m ≤ zs.length → (Lib.compactUpTo zs.toArray m).Pairwise (· < ·) ∧ ∀ t, t ∈ Lib.compactUpTo zs.toArray m ↔ ∃ j, ∃ h : j < zs.length, j < m ∧ zs[j] = t := by
    intro m
    induction m with
    | zero =>
      intro _
      have e : Lib.compactUpTo zs.toArray 0 = [] := rfl
      rw [e]
      exact ⟨.nil, fun t => ⟨fun h => (nomatch h), fun ⟨_, _, h, _⟩ => absurd h (Nat.not_lt_zero _)⟩⟩
    | succ m ih =>
      intro hm
      obtain ⟨i1, i2⟩ := ih (by omega)
      have hlt : m < zs.length := by omega
      rw [Lib.compactUpTo_succ]
      by_cases hk : Lib.keeps zs.toArray m = true
      · rw [if_pos hk, hat m hlt]
        refine ⟨List.pairwise_append.2 ⟨i1, List.pairwise_singleton _ _, fun x hx y hy => ?_⟩, fun t => ?_⟩
        · rw [List.mem_singleton.1 hy]
          obtain ⟨j, hj, hjm, rfl⟩ := (i2 x).1 hx
          have hm0 : m ≠ 0 := by omega
          have hne : zs[m] ≠ zs[m - 1] := by
            unfold Lib.keeps at hk
            simpa [hm0, hat m hlt, hat (m - 1) (by omega : m - 1 < zs.length)] using hk
          have h1 := hle j (m - 1) hj (by omega) (by omega)
          have h2 := hle (m - 1) m (by omega) hlt (by omega)
          rcases List.le_iff_lt_or_eq.1 h2 with h3 | h3
          · rcases List.le_iff_lt_or_eq.1 h1 with h4 | h4
            · exact List.lt_trans h4 h3
            · rw [h4]; exact h3
          · exact absurd h3.symm hne
        · rw [List.mem_append, List.mem_singleton, i2]
          constructor
          · rintro (⟨j, hj, h, e⟩ | e)
            · exact ⟨j, hj, by omega, e⟩
            · exact ⟨m, hlt, by omega, e.symm⟩
          · rintro ⟨j, hj, h, e⟩
            rcases Nat.lt_or_ge j m with h1 | h1
            · exact .inl ⟨j, hj, h1, e⟩
            · have : j = m := by omega
              subst this
              exact .inr e.symm
      · rw [if_neg hk, List.append_nil]
        refine ⟨i1, fun t => ?_⟩
        rw [i2]
        constructor
        · rintro ⟨j, hj, h, e⟩
          exact ⟨j, hj, by omega, e⟩
        · rintro ⟨j, hj, h, e⟩
          rcases Nat.lt_or_ge j m with h1 | h1
          · exact ⟨j, hj, h1, e⟩
          · have : j = m := by omega
            subst this
            have hj0 : j ≠ 0 := by
              rintro rfl
              exact hk (by unfold Lib.keeps; simp)
            have heq : zs[j] = zs[j - 1] := by
              unfold Lib.keeps at hk
              simpa [hj0, hat j hlt, hat (j - 1) (by omega : j - 1 < zs.length)] using hk
            exact ⟨j - 1, by omega, by omega, by rw [← heq]; exact e⟩
  obtain ⟨k1, k2⟩ := key zs.length (Nat.le_refl _)
  refine ⟨k1, fun t => ?_⟩
  rw [show Lib.compact zs = Lib.compactUpTo zs.toArray zs.length from rfl, k2, List.mem_iff_getElem]
  exact ⟨fun ⟨j, hj, _, e⟩ => ⟨j, hj, e⟩, fun ⟨j, hj, e⟩ => ⟨j, hj, hj, e⟩⟩
theorem sort_ok (L : List (List UInt8)) : (L.mergeSort fun x y => decide (x ≤ y)).Pairwise (· ≤ ·) := by
  have h := List.pairwise_mergeSort (le := fun x y : List UInt8 => decide (x ≤ y)) (fun a b c h1 h2 => decide_eq_true (List.le_trans (of_decide_eq_true h1) (of_decide_eq_true h2))) (fun a b => by rw [Bool.or_eq_true, decide_eq_true_eq, decide_eq_true_eq]; exact List.le_total a b) L
  exact h.imp fun h => of_decide_eq_true h
/-- Sorted and taken together: the one strictly sorted row of these texts. -/
theorem sorted_eq (L : List (List UInt8)) (g : List (List UInt8)) (hg : g.Pairwise (· < ·)) (hm : ∀ t, t ∈ g ↔ t ∈ L) : Lib.compact (L.mergeSort fun x y => decide (x ≤ y)) = g := by
  obtain ⟨h1, h2⟩ := compact_ok (sort_ok L)
  have nd : ∀ {A : List (List UInt8)}, A.Pairwise (· < ·) → A.Nodup := fun h => h.imp fun h e => by subst e; exact List.lt_irrefl _ h
  refine List.Perm.eq_of_pairwise (le := (· < ·)) (fun a b _ _ h1 h2 => absurd h1 (List.lt_asymm h2)) h1 hg ((List.perm_ext_iff_of_nodup (nd h1) (nd hg)).2 fun t => ?_)
  rw [h2, hm, List.mem_mergeSort]
end CM
end Go.Proofs.YtoojemnocncafaaL
