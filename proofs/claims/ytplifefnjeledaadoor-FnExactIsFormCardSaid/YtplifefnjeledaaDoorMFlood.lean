/- Plain laws of a search over numbered cells: what it marks is what can be reached. No program stands in this text. -/

set_option linter.unusedVariables false
set_option linter.unusedSimpArgs false
namespace Go.Proofs.YtplifefnjeledaaDoorM
namespace BF
/-- One neighbour is looked at. -/
def visit (acc : Nat → Bool) (v : Int) (s : List Int × List Nat) (k : Nat) : List Int × List Nat := if acc k = true ∧ s.1.getD k 0 < 0 then (s.1.set k v, s.2 ++ [k]) else s
/-- All neighbours of a cell. -/
def layer (acc : Nat → Bool) (adj : Nat → List Nat) (val : List Int → Nat → Int) (s : List Int × List Nat) (u : Nat) : List Int × List Nat := (adj u).foldl (visit acc (val s.1 u)) s
def loop (acc : Nat → Bool) (adj : Nat → List Nat) (val : List Int → Nat → Int) : Nat → Nat → List Int × List Nat → List Int × List Nat
 | 0, _, s => s
 | f + 1, i, s => if h : i < s.2.length then loop acc adj val f (i + 1) (layer acc adj val s (s.2[i]'h)) else s
inductive Reach (acc : Nat → Bool) (adj : Nat → List Nat) (r : Nat) : Nat → Prop
 | start : acc r = true → Reach acc adj r r
 | step {a b : Nat} : Reach acc adj r a → b ∈ adj a → acc b = true → Reach acc adj r b
theorem Reach.acc {acc : Nat → Bool} {adj : Nat → List Nat} {r j : Nat} (h : Reach acc adj r j) : acc j = true := by
 cases h with
 | start h => exact h
 | step _ _ h => exact h
theorem Reach.acc0 {acc : Nat → Bool} {adj : Nat → List Nat} {r j : Nat} (h : Reach acc adj r j) : acc r = true := by
 induction h with
 | start h => exact h
 | step _ _ _ ih => exact ih
theorem Reach.trans {acc : Nat → Bool} {adj : Nat → List Nat} {a b c : Nat} (h1 : Reach acc adj a b) (h2 : Reach acc adj b c) : Reach acc adj a c := by
 induction h2 with
 | start _ => exact h1
 | step _ hb hc ih => exact ih.step hb hc
theorem Reach.symm {acc : Nat → Bool} {adj : Nat → List Nat} (hs : ∀ a b, b ∈ adj a → a ∈ adj b) {a b : Nat} (h : Reach acc adj a b) : Reach acc adj b a := by
 induction h with
 | start h => exact .start h
 | step h1 hb hc ih => exact (Reach.step (.start hc) (hs _ _ hb) h1.acc).trans ih
theorem Reach.lt {acc : Nat → Bool} {adj : Nat → List Nat} {n r j : Nat} (hn : ∀ a b, b ∈ adj a → b < n) (hr : r < n) (h : Reach acc adj r j) : j < n := by
 cases h with
 | start _ => exact hr
 | step _ hb _ => exact hn _ _ hb
structure Inv (acc : Nat → Bool) (adj : Nat → List Nat) (Q : Int → Prop) (n r : Nat) (far0 : List Int) (s : List Int × List Nat) : Prop where
 len : s.1.length = n
 reach : ∀ j ∈ s.2, Reach acc adj r j
 val : ∀ j ∈ s.2, Q (s.1.getD j 0)
 old : ∀ j, j ∉ s.2 → s.1.getD j 0 = far0.getD j 0
 nodup : s.2.Nodup
theorem getD_set_same (l : List Int) (k : Nat) (v : Int) (h : k < l.length) : (l.set k v).getD k 0 = v := by
 simp [List.getD, h]
theorem getD_set_other (l : List Int) (k j : Nat) (v : Int) (h : k ≠ j) : (l.set k v).getD j 0 = l.getD j 0 := by
 simp [List.getD, List.getElem?_set_ne h]
section
variable {acc : Nat → Bool} {adj : Nat → List Nat} {Q : Int → Prop} {n r : Nat} {far0 : List Int}
theorem visit_sub (v : Int) (s : List Int × List Nat) (k : Nat) : ∃ t, (visit acc v s k).2 = s.2 ++ t := by
 unfold visit
 split
 ·exact ⟨[k], rfl⟩
 ·exact ⟨[], (List.append_nil _).symm⟩
theorem foldl_sub (v : Int) : ∀ (ks : List Nat) (s : List Int × List Nat), ∃ t, (ks.foldl (visit acc v) s).2 = s.2 ++ t := by
 intro ks
 induction ks with
 | nil => exact fun s => ⟨[], (List.append_nil _).symm⟩
 | cons k ks ih =>
  intro s
  obtain ⟨t1, h1⟩ := visit_sub (acc := acc) v s k
  obtain ⟨t2, h2⟩ := ih (visit acc v s k)
  exact ⟨t1 ++ t2, by rw [List.foldl_cons, h2, h1, List.append_assoc]⟩
theorem visit_inv (hQ0 : ∀ v, Q v → 0 ≤ v) (hn : ∀ a b, b ∈ adj a → b < n) (hf : ∀ j, Reach acc adj r j → far0.getD j 0 < 0) {v : Int} (hv : Q v) {u : Nat} (hu : Reach acc adj r u)
  {s : List Int × List Nat} (h : Inv acc adj Q n r far0 s) {k : Nat} (hk : k ∈ adj u) : Inv acc adj Q n r far0 (visit acc v s k) ∧ (acc k = true → k ∈ (visit acc v s k).2) := by
 unfold visit
 by_cases hc : acc k = true ∧ s.1.getD k 0 < 0
 ·rw [if_pos hc]
  have hkn : k < s.1.length := by rw [h.len]; exact hn _ _ hk
  have hkq : k ∉ s.2 := fun hm => by have := hQ0 _ (h.val k hm); omega
  refine ⟨⟨by simpa using h.len, fun j hj => ?_, fun j hj => ?_, fun j hj => ?_, ?_⟩, fun _ => List.mem_append_right _ (List.mem_singleton.2 rfl)⟩
  ·rcases List.mem_append.1 hj with hj | hj
   ·exact h.reach j hj
   ·rw [List.mem_singleton.1 hj]
    exact hu.step hk hc.1
  ·rcases List.mem_append.1 hj with hj | hj
   ·have hne : k ≠ j := fun e => hkq (e ▸ hj)
    show Q ((s.1.set k v).getD j 0)
    rw [getD_set_other _ _ _ _ hne]
    exact h.val j hj
   ·rw [List.mem_singleton.1 hj]
    show Q ((s.1.set k v).getD k 0)
    rw [getD_set_same _ _ _ hkn]
    exact hv
  ·have hj2 : j ∉ s.2 ∧ j ≠ k := by simpa using hj
   show (s.1.set k v).getD j 0 = _
   rw [getD_set_other _ _ _ _ (Ne.symm hj2.2)]
   exact h.old j hj2.1
  ·rw [List.nodup_append]
   refine ⟨h.nodup, by simp, fun a ha b hb => ?_⟩
   rw [List.mem_singleton.1 hb]
   exact fun e => hkq (e ▸ ha)
 ·rw [if_neg hc]
  refine ⟨h, fun ha => ?_⟩
  have h1 : ¬ s.1.getD k 0 < 0 := fun h2 => hc ⟨ha, h2⟩
  rcases Decidable.em (k ∈ s.2) with hm | hm
  ·exact hm
  ·have := h.old k hm
   have := hf k (hu.step hk ha)
   omega
theorem foldl_inv (hQ0 : ∀ v, Q v → 0 ≤ v) (hn : ∀ a b, b ∈ adj a → b < n) (hf : ∀ j, Reach acc adj r j → far0.getD j 0 < 0) {v : Int} (hv : Q v) {u : Nat} (hu : Reach acc adj r u) :
  ∀ (ks : List Nat) (s : List Int × List Nat), Inv acc adj Q n r far0 s → (∀ k ∈ ks, k ∈ adj u) → Inv acc adj Q n r far0 (ks.foldl (visit acc v) s) ∧ ∀ k ∈ ks, acc k = true → k ∈ (ks.foldl (visit acc v) s).2 := by
 intro ks
 induction ks with
 | nil => exact fun s h _ => ⟨h, fun k hk => by cases hk⟩
 | cons k ks ih =>
  intro s h hk
  obtain ⟨h1, h2⟩ := visit_inv hQ0 hn hf hv hu h (hk k (List.mem_cons_self ..))
  obtain ⟨h3, h4⟩ := ih _ h1 (fun x hx => hk x (List.mem_cons_of_mem _ hx))
  refine ⟨h3, fun x hx ha => ?_⟩
  rcases List.mem_cons.1 hx with rfl | hx
  ·obtain ⟨t, ht⟩ := foldl_sub (acc := acc) v ks (visit acc v s x)
   rw [List.foldl_cons, ht]
   exact List.mem_append_left _ (h2 ha)
  ·exact h4 x hx ha
theorem nodup_le : ∀ {n : Nat} {q : List Nat}, q.Nodup → (∀ j ∈ q, j < n) → q.length ≤ n := by
 intro n
 induction n with
 | zero =>
  intro q _ hn
  cases q with
  | nil => exact Nat.le_refl _
  | cons a q => exact absurd (hn a (List.mem_cons_self ..)) (Nat.not_lt_zero _)
 | succ n ih =>
  intro q hq hn
  by_cases hm : n ∈ q
  ·have h1 := ih (hq.erase n) (fun j hj => by
    have h2 := hn j (List.mem_of_mem_erase hj)
    have h3 : j ≠ n := fun e => by rw [e] at hj; exact (List.Nodup.mem_erase_iff hq).1 hj |>.1 rfl
    omega)
   have h4 := List.length_erase_of_mem hm
   omega
  ·have := ih hq (fun j hj => by
    have h2 := hn j hj
    have h3 : j ≠ n := fun e => hm (e ▸ hj)
    omega)
   omega
theorem loop_spec (val : List Int → Nat → Int) (hQ0 : ∀ v, Q v → 0 ≤ v) (hval : ∀ (far : List Int) (u : Nat), Q (far.getD u 0) → Q (val far u)) (hn : ∀ a b, b ∈ adj a → b < n) (hr : r < n) (hf : ∀ j, Reach acc adj r j → far0.getD j 0 < 0) :
  ∀ (f i : Nat) (s : List Int × List Nat), n - i ≤ f → i ≤ s.2.length → r ∈ s.2 → Inv acc adj Q n r far0 s → (∀ m (h : m < s.2.length), m < i → ∀ b ∈ adj s.2[m], acc b = true → b ∈ s.2) →
  Inv acc adj Q n r far0 (loop acc adj val f i s) ∧ ∀ j, Reach acc adj r j → j ∈ (loop acc adj val f i s).2 := by
 have fin : ∀ (s : List Int × List Nat), r ∈ s.2 → (∀ m (h : m < s.2.length), ∀ b ∈ adj s.2[m], acc b = true → b ∈ s.2) → ∀ j, Reach acc adj r j → j ∈ s.2 := by
  intro s hr hc j hj
  induction hj with
  | start _ => exact hr
  | step _ hb ha ih =>
   obtain ⟨m, hm, e⟩ := List.getElem_of_mem ih
   exact hc m hm _ (by rw [e]; exact hb) ha
 intro f
 induction f with
 | zero =>
  intro i s hfu hi hrq h hc
  have hle : s.2.length ≤ n := nodup_le h.nodup fun j hj => (h.reach j hj).lt hn hr
  exact ⟨h, fin s hrq fun m hm => hc m hm (by omega)⟩
 | succ f ih =>
  intro i s hfu hi hrq h hc
  rw [loop]
  by_cases hlt : i < s.2.length
  ·rw [dif_pos hlt]
   have hmem : s.2[i] ∈ s.2 := List.getElem_mem hlt
   obtain ⟨h1, h2⟩ := foldl_inv hQ0 hn hf (hval s.1 s.2[i] (h.val _ hmem)) (h.reach _ hmem) (adj s.2[i]) s h (fun k hk => hk)
   obtain ⟨t, ht⟩ := foldl_sub (acc := acc) (val s.1 s.2[i]) (adj s.2[i]) s
   have hle : s.2.length ≤ n := nodup_le h.nodup fun j hj => (h.reach j hj).lt hn hr
   have ht' : (layer acc adj val s s.2[i]).2 = s.2 ++ t := ht
   refine ih (i + 1) (layer acc adj val s s.2[i]) (by omega) (by rw [ht', List.length_append]; omega) (by rw [ht']; exact List.mem_append_left _ hrq) h1 fun m hm hmi b hb ha => ?_
   have hget : (layer acc adj val s s.2[i]).2[m] = s.2[m]'(by omega) := by
    simp only [ht']
    rw [List.getElem_append_left (by omega)]
   rw [hget] at hb
   by_cases e : m = i
   ·subst e
    exact h2 b hb ha
   ·rw [ht']
    exact List.mem_append_left _ (hc m (by omega) (by omega) b hb ha)
  ·rw [dif_neg hlt]
   exact ⟨h, fin s hrq fun m hm => hc m hm (by omega)⟩
theorem start_inv (hr : r < n) (ha : acc r = true) (hl : far0.length = n) {v : Int} (hv : Q v) : Inv acc adj Q n r far0 (far0.set r v, [r]) where
 len := by simpa using hl
 reach := fun j hj => by rw [List.mem_singleton.1 hj]; exact .start ha
 val := fun j hj => by
  rw [List.mem_singleton.1 hj]
  show Q ((far0.set r v).getD r 0)
  rw [getD_set_same _ _ _ (by omega)]
  exact hv
 old := fun j hj => getD_set_other _ _ _ _ (fun e => hj (by rw [e]; exact List.mem_singleton.2 rfl))
 nodup := by simp
/-- What the search marks. -/
theorem search (val : List Int → Nat → Int) (hQ0 : ∀ v, Q v → 0 ≤ v) (hval : ∀ (far : List Int) (u : Nat), Q (far.getD u 0) → Q (val far u)) (hn : ∀ a b, b ∈ adj a → b < n) (hr : r < n) (ha : acc r = true) (hl : far0.length = n)
  (hf : ∀ j, Reach acc adj r j → far0.getD j 0 < 0) {v : Int} (hv : Q v) (f : Nat) (hfu : n ≤ f) :
  (loop acc adj val f 0 (far0.set r v, [r])).1.length = n ∧ (∀ j, Reach acc adj r j → Q ((loop acc adj val f 0 (far0.set r v, [r])).1.getD j 0)) ∧ ∀ j, ¬ Reach acc adj r j → (loop acc adj val f 0 (far0.set r v, [r])).1.getD j 0 = far0.getD j 0 := by
 obtain ⟨h1, h2⟩ := loop_spec val hQ0 hval hn hr hf f 0 (far0.set r v, [r]) (by omega) (Nat.zero_le _) (List.mem_singleton.2 rfl) (start_inv hr ha hl hv) (fun m _ hm => absurd hm (Nat.not_lt_zero _))
 exact ⟨h1.len, fun j hj => h1.val j (h2 j hj), fun j hj => h1.old j (fun hm => hj (h1.reach j hm))⟩
end
end BF
end Go.Proofs.YtplifefnjeledaaDoorM
namespace Go.Proofs.YtplifefnjeledaaDoorM
namespace BF
structure Good (acc : Nat → Bool) (adj : Nat → List Nat) (Q : Int → Prop) (n r : Nat) (far0 : List Int) (c : Int) (s : List Int × List Nat) : Prop where
 inv : Inv acc adj Q n r far0 s
 bd : ∀ j ∈ s.2, s.1.getD j 0 ≤ (s.2.length : Int) + c
section
variable {acc : Nat → Bool} {adj : Nat → List Nat} {Q : Int → Prop} {n r : Nat} {far0 : List Int} {c : Int}
theorem Good.le (hn : ∀ a b, b ∈ adj a → b < n) (hr : r < n) {s : List Int × List Nat} (h : Good acc adj Q n r far0 c s) : s.2.length ≤ n := nodup_le h.inv.nodup fun j hj => (h.inv.reach j hj).lt hn hr
theorem visit_good (hQ0 : ∀ v, Q v → 0 ≤ v) (hn : ∀ a b, b ∈ adj a → b < n) (hf : ∀ j, Reach acc adj r j → far0.getD j 0 < 0) {v : Int} (hv : Q v) {u : Nat} (hu : Reach acc adj r u)
  {s : List Int × List Nat} (h : Good acc adj Q n r far0 c s) {k : Nat} (hk : k ∈ adj u) (hvb : v ≤ (s.2.length : Int) + 1 + c) : Good acc adj Q n r far0 c (visit acc v s k) := by
 refine ⟨(visit_inv hQ0 hn hf hv hu h.inv hk).1, ?_⟩
 unfold visit
 by_cases hc : acc k = true ∧ s.1.getD k 0 < 0
 ·rw [if_pos hc]
  have hkn : k < s.1.length := by rw [h.inv.len]; exact hn _ _ hk
  have hkq : k ∉ s.2 := fun hm => by have := hQ0 _ (h.inv.val k hm); omega
  intro j hj
  show (s.1.set k v).getD j 0 ≤ ((s.2 ++ [k]).length : Int) + c
  rw [List.length_append, List.length_singleton]
  rcases List.mem_append.1 hj with hj | hj
  ·have hne : k ≠ j := fun e => hkq (e ▸ hj)
   rw [getD_set_other _ _ _ _ hne]
   have := h.bd j hj
   omega
  ·rw [List.mem_singleton.1 hj, getD_set_same _ _ _ hkn]
   omega
 ·rw [if_neg hc]
  exact h.bd
theorem visit_keep {s : List Int × List Nat} {v : Int} {k u i : Nat} (hi : s.2[i]? = some u) (h0 : 0 ≤ s.1.getD u 0) : (visit acc v s k).2[i]? = some u ∧ (visit acc v s k).1.getD u 0 = s.1.getD u 0 := by
 unfold visit
 by_cases hc : acc k = true ∧ s.1.getD k 0 < 0
 ·rw [if_pos hc]
  refine ⟨?_, ?_⟩
  ·show (s.2 ++ [k])[i]? = some u
   rw [List.getElem?_append_left (List.getElem?_eq_some_iff.1 hi).1]
   exact hi
  ·show (s.1.set k v).getD u 0 = _
   rw [getD_set_other _ _ _ _ (fun e => by rw [e] at hc; omega)]
 ·rw [if_neg hc]
  exact ⟨hi, rfl⟩
/-- The neighbours of one cell, one by one. -/
theorem inner (hQ0 : ∀ v, Q v → 0 ≤ v) (hn : ∀ a b, b ∈ adj a → b < n) (hf : ∀ j, Reach acc adj r j → far0.getD j 0 < 0) {v z : Int} (hv : Q v) {u i : Nat} (hu : Reach acc adj r u) (hz : 0 ≤ z) (hvz : v ≤ z + 1)
  (C : List Int × List Nat → Nat → Prop)
  (hs : ∀ (s : List Int × List Nat) (t b : Nat), Good acc adj Q n r far0 c s → s.2[i]? = some u → s.1.getD u 0 = z → z ≤ (s.2.length : Int) + c → (adj u)[t]? = some b → b < n → C (visit acc v s b) (t + 1) → C s t) :
  ∀ (d t : Nat) (s : List Int × List Nat), t + d = (adj u).length → Good acc adj Q n r far0 c s → s.2[i]? = some u → s.1.getD u 0 = z → C (((adj u).drop t).foldl (visit acc v) s) (adj u).length → C s t := by
 intro d
 induction d with
 | zero =>
  intro t s ht _ _ _ hC
  have e : t = (adj u).length := by omega
  subst e
  rw [List.drop_length] at hC
  exact hC
 | succ d ih =>
  intro t s ht hG hi hzz hC
  have hlt : t < (adj u).length := by omega
  have hb : (adj u)[t] ∈ adj u := List.getElem_mem hlt
  rw [List.drop_eq_getElem_cons hlt, List.foldl_cons] at hC
  have hmem : u ∈ s.2 := List.mem_of_getElem? hi
  have hbd := hG.bd u hmem
  rw [hzz] at hbd
  obtain ⟨k1, k2⟩ := visit_keep (acc := acc) (v := v) (k := (adj u)[t]) hi (by omega)
  exact hs s t _ hG hi hzz hbd (List.getElem?_eq_getElem hlt) (hn _ _ hb) (ih (t + 1) _ (by omega) (visit_good hQ0 hn hf hv hu hG hb (by omega)) k1 (by rw [k2]; exact hzz) hC)
theorem layer_good (hQ0 : ∀ v, Q v → 0 ≤ v) (hn : ∀ a b, b ∈ adj a → b < n) (hf : ∀ j, Reach acc adj r j → far0.getD j 0 < 0) {v z : Int} (hv : Q v) {u i : Nat} (hu : Reach acc adj r u) (hz : 0 ≤ z) (hvz : v ≤ z + 1) :
  ∀ (ks : List Nat) (s : List Int × List Nat), (∀ k ∈ ks, k ∈ adj u) → Good acc adj Q n r far0 c s → s.2[i]? = some u → s.1.getD u 0 = z → Good acc adj Q n r far0 c (ks.foldl (visit acc v) s) := by
 intro ks
 induction ks with
 | nil => exact fun s _ h _ _ => h
 | cons k ks ih =>
  intro s hk hG hi hzz
  have hmem : u ∈ s.2 := List.mem_of_getElem? hi
  have hbd := hG.bd u hmem
  rw [hzz] at hbd
  obtain ⟨k1, k2⟩ := visit_keep (acc := acc) (v := v) (k := k) hi (by omega)
  rw [List.foldl_cons]
  exact ih _ (fun x hx => hk x (List.mem_cons_of_mem _ hx)) (visit_good hQ0 hn hf hv hu hG (hk k (List.mem_cons_self ..)) (by omega)) k1 (by rw [k2]; exact hzz)
/-- The search, cell after cell. -/
theorem run (val : List Int → Nat → Int) (hQ0 : ∀ v, Q v → 0 ≤ v) (hn : ∀ a b, b ∈ adj a → b < n) (hr : r < n) (hf : ∀ j, Reach acc adj r j → far0.getD j 0 < 0)
  (hval : ∀ (far : List Int) (u : Nat), Q (far.getD u 0) → Q (val far u) ∧ val far u ≤ far.getD u 0 + 1) (C : List Int × List Nat → Nat → Prop) (K : List Int × List Nat → Prop)
  (hstep : ∀ (s : List Int × List Nat) (i u : Nat), Good acc adj Q n r far0 c s → s.2[i]? = some u → i < n → u < n → Reach acc adj r u → Q (s.1.getD u 0) → C (layer acc adj val s u) (i + 1) → C s i)
  (hdone : ∀ (s : List Int × List Nat), Good acc adj Q n r far0 c s → K s → C s s.2.length) :
  ∀ (f i : Nat) (s : List Int × List Nat), n - i ≤ f → i ≤ s.2.length → Good acc adj Q n r far0 c s → K (loop acc adj val f i s) → C s i := by
 intro f
 induction f with
 | zero =>
  intro i s hfu hi hG hK
  have hle := hG.le hn hr
  have e : i = s.2.length := by omega
  subst e
  exact hdone s hG hK
 | succ f ih =>
  intro i s hfu hi hG hK
  rw [loop] at hK
  by_cases hlt : i < s.2.length
  ·rw [dif_pos hlt] at hK
   have hle := hG.le hn hr
   have hmem : s.2[i] ∈ s.2 := List.getElem_mem hlt
   have hre := hG.inv.reach _ hmem
   have hQu := hG.inv.val _ hmem
   obtain ⟨hq, hb⟩ := hval s.1 s.2[i] hQu
   have hi2 : s.2[i]? = some s.2[i] := List.getElem?_eq_getElem hlt
   have hG2 : Good acc adj Q n r far0 c (layer acc adj val s s.2[i]) := layer_good hQ0 hn hf hq hre (hQ0 _ hQu) hb (adj s.2[i]) s (fun k hk => hk) hG hi2 rfl
   obtain ⟨t, ht⟩ := foldl_sub (acc := acc) (val s.1 s.2[i]) (adj s.2[i]) s
   have ht' : (layer acc adj val s s.2[i]).2 = s.2 ++ t := ht
   exact hstep s i _ hG hi2 (by omega) (hre.lt hn hr) hre hQu (ih (i + 1) _ (by omega) (by rw [ht', List.length_append]; omega) hG2 hK)
  ·rw [dif_neg hlt] at hK
   have e : i = s.2.length := by omega
   subst e
   exact hdone s hG hK
theorem start_good (hr : r < n) (ha : acc r = true) (hl : far0.length = n) {v : Int} (hv : Q v) (hvc : v ≤ 1 + c) : Good acc adj Q n r far0 c (far0.set r v, [r]) where
 inv := start_inv hr ha hl hv
 bd := fun j hj => by
  rw [List.mem_singleton.1 hj]
  show (far0.set r v).getD r 0 ≤ (([r] : List Nat).length : Int) + c
  rw [getD_set_same _ _ _ (by omega), List.length_singleton]
  omega
end
/-- How far each cell is from one, -1 where there is no way. -/
def farOf (acc : Nat → Bool) (adj : Nat → List Nat) (n r : Nat) : List Int :=
 if acc r = true then (loop acc adj (fun far u => far.getD u 0 + 1) n 0 ((List.replicate n (-1)).set r 0, [r])).1 else List.replicate n (-1)
theorem rep_at (n j : Nat) (h : j < n) : (List.replicate n (-1 : Int)).getD j 0 = -1 := by
 rw [List.getD_eq_getElem?_getD, List.getElem?_replicate, if_pos h]
 rfl
theorem farOf_spec {acc : Nat → Bool} {adj : Nat → List Nat} {n r : Nat} (hn : ∀ a b, b ∈ adj a → b < n) (hr : r < n) :
  (farOf acc adj n r).length = n ∧ (∀ j, Reach acc adj r j → 0 ≤ (farOf acc adj n r).getD j 0) ∧ ∀ j, j < n → ¬ Reach acc adj r j → (farOf acc adj n r).getD j 0 = -1 := by
 unfold farOf
 by_cases ha : acc r = true
 ·rw [if_pos ha]
  obtain ⟨h1, h2, h3⟩ := search (Q := fun v => 0 ≤ v) (fun far u => far.getD u 0 + 1) (fun _ h => h) (fun far u h => by show 0 ≤ far.getD u 0 + 1; have : 0 ≤ far.getD u 0 := h; omega) hn hr ha (far0 := List.replicate n (-1)) (List.length_replicate)
   (fun j hj => by rw [rep_at n j (hj.lt hn hr)]; decide) (v := 0) (Int.le_refl 0) n (Nat.le_refl _)
  exact ⟨h1, h2, fun j hj hn' => by rw [h3 j hn', rep_at n j hj]⟩
 ·rw [if_neg ha]
  exact ⟨List.length_replicate, fun j hj => absurd hj.acc0 ha, fun j hj _ => rep_at n j hj⟩
-- the parts
def Root (acc : Nat → Bool) (adj : Nat → List Nat) (i : Nat) : Prop := acc i = true ∧ ∀ j, j < i → ¬ Reach acc adj j i
open Classical in
noncomputable def roots (acc : Nat → Bool) (adj : Nat → List Nat) (i : Nat) : List Nat := (List.range i).filter (fun t => decide (Root acc adj t))
open Classical in
noncomputable def comp (acc : Nat → Bool) (adj : Nat → List Nat) (n t : Nat) : List Nat := (List.range n).filter (fun j => decide (Reach acc adj t j))
section
open Classical
variable {acc : Nat → Bool} {adj : Nat → List Nat} {n : Nat}
theorem mem_roots {i t : Nat} : t ∈ roots acc adj i ↔ t < i ∧ Root acc adj t := by
 unfold roots
 rw [List.mem_filter, List.mem_range, decide_eq_true_iff]
theorem roots_pos {i : Nat} (h : Root acc adj i) : roots acc adj (i + 1) = roots acc adj i ++ [i] := by
 unfold roots
 rw [List.range_succ, List.filter_append, List.filter_cons, if_pos (decide_eq_true h)]
 rfl
theorem roots_neg {i : Nat} (h : ¬ Root acc adj i) : roots acc adj (i + 1) = roots acc adj i := by
 unfold roots
 rw [List.range_succ, List.filter_append, List.filter_cons, if_neg (by rw [decide_eq_false h]; exact Bool.false_ne_true), List.filter_nil, List.append_nil]
theorem roots_le (i : Nat) : (roots acc adj i).length ≤ i := by
 unfold roots
 have := List.length_filter_le (fun t => decide (Root acc adj t)) (List.range i)
 rw [List.length_range] at this
 exact this
theorem least {P : Nat → Prop} : ∀ m, (∃ t, t ≤ m ∧ P t) → ∃ t, t ≤ m ∧ P t ∧ ∀ s, s < t → ¬ P s := by
 intro m
 induction m with
 | zero =>
  rintro ⟨t, ht, hp⟩
  exact ⟨t, ht, hp, fun s hs => by omega⟩
 | succ m ih =>
  rintro ⟨t, ht, hp⟩
  by_cases h : ∃ t, t ≤ m ∧ P t
  ·obtain ⟨t', a, b, c⟩ := ih h
   exact ⟨t', by omega, b, c⟩
  ·exact ⟨t, ht, hp, fun s hs hs' => h ⟨s, by omega, hs'⟩⟩
theorem root_of {j : Nat} (h : acc j = true) : ∃ t, t ≤ j ∧ Root acc adj t ∧ Reach acc adj t j := by
 obtain ⟨t, h1, h2, h3⟩ := least (P := fun t => Reach acc adj t j) j ⟨j, Nat.le_refl _, .start h⟩
 exact ⟨t, h1, ⟨h2.acc0, fun s hs hs' => h3 s hs (hs'.trans h2)⟩, h2⟩
/-- What the reference's table of pieces holds when the cells before i are done. -/
structure Pieces (acc : Nat → Bool) (adj : Nat → List Nat) (n i : Nat) (out : List Int) (cnt : Nat) : Prop where
 len : out.length = n
 cnt : cnt = (roots acc adj i).length
 told : ∀ (idx t j : Nat), (roots acc adj i)[idx]? = some t → Reach acc adj t j → out.getD j 0 = (idx : Int)
 none : ∀ j, j < n → (∀ t ∈ roots acc adj i, ¬ Reach acc adj t j) → out.getD j 0 = -1
theorem Pieces.start : Pieces acc adj n 0 (List.replicate n (-1)) 0 where
 len := List.length_replicate
 cnt := rfl
 told := fun idx t j h => by simp [roots] at h
 none := fun j hj _ => rep_at n j hj
theorem Pieces.at_ {i cnt j : Nat} {out : List Int} (h : Pieces acc adj n i out cnt) (hj : j < n) : (0 ≤ out.getD j 0 ∧ ∃ t ∈ roots acc adj i, Reach acc adj t j) ∨ (out.getD j 0 = -1 ∧ ∀ t ∈ roots acc adj i, ¬ Reach acc adj t j) := by
 by_cases hx : ∃ t ∈ roots acc adj i, Reach acc adj t j
 ·obtain ⟨t, ht, hr⟩ := hx
  obtain ⟨idx, hlt, e⟩ := List.getElem_of_mem ht
  have := h.told idx t j (by rw [List.getElem?_eq_getElem hlt, e]) hr
  exact .inl ⟨by omega, t, ht, hr⟩
 ·have hx' : ∀ t ∈ roots acc adj i, ¬ Reach acc adj t j := fun t ht hr => hx ⟨t, ht, hr⟩
  exact .inr ⟨h.none j hj hx', hx'⟩
theorem Pieces.skip {i cnt : Nat} {out : List Int} (h : Pieces acc adj n i out cnt) (hi : i < n) (hs : acc i = false ∨ 0 ≤ out.getD i 0) : Pieces acc adj n (i + 1) out cnt ∧ ¬ Root acc adj i := by
 have hr : ¬ Root acc adj i := by
  rintro ⟨a, b⟩
  rcases hs with hs | hs
  ·rw [hs] at a
   cases a
  ·rcases h.at_ hi with ⟨_, t, ht, hr⟩ | ⟨e, _⟩
   ·exact b t (mem_roots.1 ht).1 hr
   ·omega
 refine ⟨⟨h.len, ?_, ?_, ?_⟩, hr⟩
 ·rw [roots_neg hr]; exact h.cnt
 ·rw [roots_neg hr]; exact h.told
 ·rw [roots_neg hr]; exact h.none
theorem Pieces.root (hsy : ∀ a b, b ∈ adj a → a ∈ adj b) {i cnt : Nat} {out : List Int} (h : Pieces acc adj n i out cnt) (hi : i < n) (ha : acc i = true) (ho : out.getD i 0 < 0) : Root acc adj i ∧ ∀ j, j < n → Reach acc adj i j → out.getD j 0 = -1 := by
 have hno : ∀ t ∈ roots acc adj i, ¬ Reach acc adj t i := by
  rcases h.at_ hi with ⟨e, _⟩ | ⟨_, x⟩
  ·omega
  ·exact x
 refine ⟨⟨ha, fun j hj hr => ?_⟩, fun j hj hr => h.none j hj fun t ht hr' => hno t ht (hr'.trans (hr.symm hsy))⟩
 obtain ⟨t, h1, h2, h3⟩ := root_of (acc := acc) (adj := adj) hr.acc0
 exact hno t (mem_roots.2 ⟨by omega, h2⟩) (h3.trans hr)
theorem Pieces.more (hn : ∀ a b, b ∈ adj a → b < n) {i cnt : Nat} {out out' : List Int} (h : Pieces acc adj n i out cnt) (hi : i < n) (hr : Root acc adj i) (ho : ∀ j, j < n → Reach acc adj i j → out.getD j 0 = -1) (hl : out'.length = n)
  (h1 : ∀ j, Reach acc adj i j → out'.getD j 0 = (cnt : Int)) (h2 : ∀ j, ¬ Reach acc adj i j → out'.getD j 0 = out.getD j 0) : Pieces acc adj n (i + 1) out' (cnt + 1) where
 len := hl
 cnt := by rw [roots_pos hr, List.length_append, ← h.cnt]; rfl
 told := fun idx t j hx hre => by
  rw [roots_pos hr] at hx
  rcases Nat.lt_or_ge idx (roots acc adj i).length with hlt | hge
  ·rw [List.getElem?_append_left hlt] at hx
   have e := h.told idx t j hx hre
   rw [h2 j (fun hij => ?_), e]
   have hjn : j < n := hij.lt hn hi
   have := ho j hjn hij
   omega
  ·rw [List.getElem?_append_right hge] at hx
   have hz : idx - (roots acc adj i).length = 0 := by
    have := (List.getElem?_eq_some_iff.1 hx).1
    rw [List.length_singleton] at this
    omega
   rw [hz] at hx
   obtain rfl : i = t := by simpa using hx
   rw [h1 j hre, h.cnt]
   omega
 none := fun j hj hx => by
  rw [roots_pos hr] at hx
  have hni : ¬ Reach acc adj i j := hx i (by simp)
  rw [h2 j hni]
  exact h.none j hj fun t ht => hx t (List.mem_append_left _ ht)
/-- A cell is the first of its part if no cell before it is reached from it. -/
theorem root_iff (hsy : ∀ a b, b ∈ adj a → a ∈ adj b) {i : Nat} (hi : i < n) : Root acc adj i ↔ ∃ l, comp acc adj n i = i :: l := by
 have hfil : ∀ (m : Nat), m ≤ n → (∀ j, j < m → ¬ Reach acc adj i j) → comp acc adj n i = (List.range' m (n - m)).filter (fun j => decide (Reach acc adj i j)) := by
  intro m hm hno
  unfold comp
  have e : List.range n = List.range m ++ List.range' m (n - m) := by
   obtain ⟨d, rfl⟩ : ∃ d, n = m + d := ⟨n - m, by omega⟩
   rw [List.range_add, List.range'_eq_map_range, Nat.add_sub_cancel_left]
  rw [e, List.filter_append]
  have : (List.range m).filter (fun j => decide (Reach acc adj i j)) = [] := by
   rw [List.filter_eq_nil_iff]
   intro j hj
   rw [decide_eq_true_iff]
   exact hno j (List.mem_range.1 hj)
  rw [this, List.nil_append]
 constructor
 ·rintro ⟨ha, hb⟩
  have e := hfil i (by omega) (fun j hj hr => hb j hj (hr.symm hsy))
  obtain ⟨d, hd⟩ : ∃ d, n - i = d + 1 := ⟨n - i - 1, by omega⟩
  rw [hd, List.range'_succ, List.filter_cons, if_pos (decide_eq_true (Reach.start ha))] at e
  exact ⟨_, e⟩
 ·rintro ⟨l, e⟩
  have hm : i ∈ comp acc adj n i := by rw [e]; exact List.mem_cons_self ..
  unfold comp at hm
  rw [List.mem_filter, decide_eq_true_iff] at hm
  refine ⟨hm.2.acc, fun j hj hr => ?_⟩
  have hsort : (comp acc adj n i).Pairwise (· < ·) := by
   unfold comp
   exact List.Pairwise.filter _ List.pairwise_lt_range
  have hj2 : j ∈ comp acc adj n i := by
   unfold comp
   rw [List.mem_filter, decide_eq_true_iff, List.mem_range]
   exact ⟨by omega, hr.symm hsy⟩
  rw [e] at hsort hj2
  rcases List.mem_cons.1 hj2 with rfl | hj2
  ·omega
  ·have := (List.pairwise_cons.1 hsort).1 j hj2
   omega
theorem comp_le (t i : Nat) : (comp acc adj t i).length ≤ t := by
 unfold comp
 have := List.length_filter_le (fun j => decide (Reach acc adj i j)) (List.range t)
 rw [List.length_range] at this
 exact this
theorem comp_pos {i t : Nat} (x : Reach acc adj i t) : comp acc adj (t + 1) i = comp acc adj t i ++ [t] := by
 unfold comp
 rw [List.range_succ, List.filter_append, List.filter_cons, if_pos (decide_eq_true x)]
 rfl
theorem comp_neg {i t : Nat} (x : ¬ Reach acc adj i t) : comp acc adj (t + 1) i = comp acc adj t i := by
 unfold comp
 rw [List.range_succ, List.filter_append, List.filter_cons, if_neg (by rw [decide_eq_false x]; exact Bool.false_ne_true), List.filter_nil, List.append_nil]
theorem comp_nil {i : Nat} (hn : acc i = false) : comp acc adj n i = [] := by
 unfold comp
 rw [List.filter_eq_nil_iff]
 intro j _
 rw [decide_eq_true_iff]
 intro h
 have := h.acc0
 rw [hn] at this
 cases this
end
end BF
end Go.Proofs.YtplifefnjeledaaDoorM
