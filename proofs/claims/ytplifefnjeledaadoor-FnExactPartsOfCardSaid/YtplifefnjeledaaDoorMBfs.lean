/- Plain laws of a search over numbered cells: what it marks is what can be reached. No program stands in this text. -/
set_option linter.unusedVariables false
set_option linter.unusedSimpArgs false
namespace Go.Proofs.YtplifefnjeledaaDoorM
namespace BF
/-- One neighbour is looked at. -/
def visit (acc : Nat → Bool) (v : Int) (s : List Int × List Nat) (k : Nat) : List Int × List Nat := if acc k = true ∧ s.1.getD k 0 < 0 then (s.1.set k v, s.2 ++ [k]) else s
/-- All neighbours of a cell. -/
def layer (acc : Nat → Bool) (adj : Nat → List Nat) (val : List Int → Nat → Int) (s : List Int × List Nat) (u : Nat) : List Int × List Nat := (adj u).foldl (visit acc (val s.1 u)) s
def loop (acc : Nat → Bool) (adj : Nat → List Nat) (val : List Int → Nat → Int) : Nat → Nat → List Int × List Nat → List Int × List Nat
  | 0, _, s => s
  | f + 1, i, s => if h : i < s.2.length then loop acc adj val f (i + 1) (layer acc adj val s (s.2[i]'h)) else s
inductive Reach (acc : Nat → Bool) (adj : Nat → List Nat) (r : Nat) : Nat → Prop
  | start : acc r = true → Reach acc adj r r
  | step {a b : Nat} : Reach acc adj r a → b ∈ adj a → acc b = true → Reach acc adj r b
theorem Reach.acc {acc : Nat → Bool} {adj : Nat → List Nat} {r j : Nat} (h : Reach acc adj r j) : acc j = true := by
  cases h with
  | start h => exact h
  | step _ _ h => exact h
theorem Reach.acc0 {acc : Nat → Bool} {adj : Nat → List Nat} {r j : Nat} (h : Reach acc adj r j) : acc r = true := by
  induction h with
  | start h => exact h
  | step _ _ _ ih => exact ih
theorem Reach.trans {acc : Nat → Bool} {adj : Nat → List Nat} {a b c : Nat} (h1 : Reach acc adj a b) (h2 : Reach acc adj b c) : Reach acc adj a c := by
  induction h2 with
  | start _ => exact h1
  | step _ hb hc ih => exact ih.step hb hc
theorem Reach.symm {acc : Nat → Bool} {adj : Nat → List Nat} (hs : ∀ a b, b ∈ adj a → a ∈ adj b) {a b : Nat} (h : Reach acc adj a b) : Reach acc adj b a := by
  induction h with
  | start h => exact .start h
  | step h1 hb hc ih => exact (Reach.step (.start hc) (hs _ _ hb) h1.acc).trans ih
theorem Reach.lt {acc : Nat → Bool} {adj : Nat → List Nat} {n r j : Nat} (hn : ∀ a b, b ∈ adj a → b < n) (hr : r < n) (h : Reach acc adj r j) : j < n := by
  cases h with
  | start _ => exact hr
  | step _ hb _ => exact hn _ _ hb
structure Inv (acc : Nat → Bool) (adj : Nat → List Nat) (Q : Int → Prop) (n r : Nat) (far0 : List Int) (s : List Int × List Nat) : Prop where
  len : s.1.length = n
  reach : ∀ j ∈ s.2, Reach acc adj r j
  val : ∀ j ∈ s.2, Q (s.1.getD j 0)
  old : ∀ j, j ∉ s.2 → s.1.getD j 0 = far0.getD j 0
  nodup : s.2.Nodup
theorem getD_set_same (l : List Int) (k : Nat) (v : Int) (h : k < l.length) : (l.set k v).getD k 0 = v := by
  simp [List.getD, h]
theorem getD_set_other (l : List Int) (k j : Nat) (v : Int) (h : k ≠ j) : (l.set k v).getD j 0 = l.getD j 0 := by
  simp [List.getD, List.getElem?_set_ne h]
section
variable {acc : Nat → Bool} {adj : Nat → List Nat} {Q : Int → Prop} {n r : Nat} {far0 : List Int}
theorem visit_sub (v : Int) (s : List Int × List Nat) (k : Nat) : ∃ t, (visit acc v s k).2 = s.2 ++ t := by
  unfold visit
  split
  · exact ⟨[k], rfl⟩
  · exact ⟨[], (List.append_nil _).symm⟩
theorem foldl_sub (v : Int) : ∀ (ks : List Nat) (s : List Int × List Nat), ∃ t, (ks.foldl (visit acc v) s).2 = s.2 ++ t := by
  intro ks
  induction ks with
  | nil => exact fun s => ⟨[], (List.append_nil _).symm⟩
  | cons k ks ih =>
    intro s
    obtain ⟨t1, h1⟩ := visit_sub (acc := acc) v s k
    obtain ⟨t2, h2⟩ := ih (visit acc v s k)
    exact ⟨t1 ++ t2, by rw [List.foldl_cons, h2, h1, List.append_assoc]⟩
theorem visit_inv (hQ0 : ∀ v, Q v → 0 ≤ v) (hn : ∀ a b, b ∈ adj a → b < n) (hf : ∀ j, Reach acc adj r j → far0.getD j 0 < 0) {v : Int} (hv : Q v) {u : Nat} (hu : Reach acc adj r u)
    {s : List Int × List Nat} (h : Inv acc adj Q n r far0 s) {k : Nat} (hk : k ∈ adj u) : Inv acc adj Q n r far0 (visit acc v s k) ∧ (acc k = true → k ∈ (visit acc v s k).2) := by
  unfold visit
  by_cases hc : acc k = true ∧ s.1.getD k 0 < 0
  · rw [if_pos hc]
    have hkn : k < s.1.length := by rw [h.len]; exact hn _ _ hk
    have hkq : k ∉ s.2 := fun hm => by have := hQ0 _ (h.val k hm); omega
    refine ⟨⟨by simpa using h.len, fun j hj => ?_, fun j hj => ?_, fun j hj => ?_, ?_⟩, fun _ => List.mem_append_right _ (List.mem_singleton.2 rfl)⟩
    · rcases List.mem_append.1 hj with hj | hj
      · exact h.reach j hj
      · rw [List.mem_singleton.1 hj]
        exact hu.step hk hc.1
    · rcases List.mem_append.1 hj with hj | hj
      · have hne : k ≠ j := fun e => hkq (e ▸ hj)
        show Q ((s.1.set k v).getD j 0)
        rw [getD_set_other _ _ _ _ hne]
        exact h.val j hj
      · rw [List.mem_singleton.1 hj]
        show Q ((s.1.set k v).getD k 0)
        rw [getD_set_same _ _ _ hkn]
        exact hv
    · have hj2 : j ∉ s.2 ∧ j ≠ k := by simpa using hj
      show (s.1.set k v).getD j 0 = _
      rw [getD_set_other _ _ _ _ (Ne.symm hj2.2)]
      exact h.old j hj2.1
    · rw [List.nodup_append]
      refine ⟨h.nodup, by simp, fun a ha b hb => ?_⟩
      rw [List.mem_singleton.1 hb]
      exact fun e => hkq (e ▸ ha)
  · rw [if_neg hc]
    refine ⟨h, fun ha => ?_⟩
    have h1 : ¬ s.1.getD k 0 < 0 := fun h2 => hc ⟨ha, h2⟩
    rcases Decidable.em (k ∈ s.2) with hm | hm
    · exact hm
    · have := h.old k hm
      have := hf k (hu.step hk ha)
      omega
theorem foldl_inv (hQ0 : ∀ v, Q v → 0 ≤ v) (hn : ∀ a b, b ∈ adj a → b < n) (hf : ∀ j, Reach acc adj r j → far0.getD j 0 < 0) {v : Int} (hv : Q v) {u : Nat} (hu : Reach acc adj r u) :
    ∀ (ks : List Nat) (s : List Int × List Nat), Inv acc adj Q n r far0 s → (∀ k ∈ ks, k ∈ adj u) → Inv acc adj Q n r far0 (ks.foldl (visit acc v) s) ∧ ∀ k ∈ ks, acc k = true → k ∈ (ks.foldl (visit acc v) s).2 := by
  intro ks
  induction ks with
  | nil => exact fun s h _ => ⟨h, fun k hk => by cases hk⟩
  | cons k ks ih =>
    intro s h hk
    obtain ⟨h1, h2⟩ := visit_inv hQ0 hn hf hv hu h (hk k (List.mem_cons_self ..))
    obtain ⟨h3, h4⟩ := ih _ h1 (fun x hx => hk x (List.mem_cons_of_mem _ hx))
    refine ⟨h3, fun x hx ha => ?_⟩
    rcases List.mem_cons.1 hx with rfl | hx
    · obtain ⟨t, ht⟩ := foldl_sub (acc := acc) v ks (visit acc v s x)
      rw [List.foldl_cons, ht]
      exact List.mem_append_left _ (h2 ha)
    · exact h4 x hx ha
theorem nodup_le : ∀ {n : Nat} {q : List Nat}, q.Nodup → (∀ j ∈ q, j < n) → q.length ≤ n := by
  intro n
  induction n with
  | zero =>
    intro q _ hn
    cases q with
    | nil => exact Nat.le_refl _
    | cons a q => exact absurd (hn a (List.mem_cons_self ..)) (Nat.not_lt_zero _)
  | succ n ih =>
    intro q hq hn
    by_cases hm : n ∈ q
    · have h1 := ih (hq.erase n) (fun j hj => by
        have h2 := hn j (List.mem_of_mem_erase hj)
        have h3 : j ≠ n := fun e => by rw [e] at hj; exact (List.Nodup.mem_erase_iff hq).1 hj |>.1 rfl
        omega)
      have h4 := List.length_erase_of_mem hm
      omega
    · have := ih hq (fun j hj => by
        have h2 := hn j hj
        have h3 : j ≠ n := fun e => hm (e ▸ hj)
        omega)
      omega
theorem loop_spec (val : List Int → Nat → Int) (hQ0 : ∀ v, Q v → 0 ≤ v) (hval : ∀ (far : List Int) (u : Nat), Q (far.getD u 0) → Q (val far u)) (hn : ∀ a b, b ∈ adj a → b < n) (hr : r < n) (hf : ∀ j, Reach acc adj r j → far0.getD j 0 < 0) :
    ∀ (f i : Nat) (s : List Int × List Nat), n - i ≤ f → i ≤ s.2.length → r ∈ s.2 → Inv acc adj Q n r far0 s → (∀ m (h : m < s.2.length), m < i → ∀ b ∈ adj s.2[m], acc b = true → b ∈ s.2) →
    Inv acc adj Q n r far0 (loop acc adj val f i s) ∧ ∀ j, Reach acc adj r j → j ∈ (loop acc adj val f i s).2 := by
  have fin : ∀ (s : List Int × List Nat), r ∈ s.2 → (∀ m (h : m < s.2.length), ∀ b ∈ adj s.2[m], acc b = true → b ∈ s.2) → ∀ j, Reach acc adj r j → j ∈ s.2 := by
    intro s hr hc j hj
    induction hj with
    | start _ => exact hr
    | step _ hb ha ih =>
      obtain ⟨m, hm, e⟩ := List.getElem_of_mem ih
      exact hc m hm _ (by rw [e]; exact hb) ha
  intro f
  induction f with
  | zero =>
    intro i s hfu hi hrq h hc
    have hle : s.2.length ≤ n := nodup_le h.nodup fun j hj => (h.reach j hj).lt hn hr
    exact ⟨h, fin s hrq fun m hm => hc m hm (by omega)⟩
  | succ f ih =>
    intro i s hfu hi hrq h hc
    rw [loop]
    by_cases hlt : i < s.2.length
    · rw [dif_pos hlt]
      have hmem : s.2[i] ∈ s.2 := List.getElem_mem hlt
      obtain ⟨h1, h2⟩ := foldl_inv hQ0 hn hf (hval s.1 s.2[i] (h.val _ hmem)) (h.reach _ hmem) (adj s.2[i]) s h (fun k hk => hk)
      obtain ⟨t, ht⟩ := foldl_sub (acc := acc) (val s.1 s.2[i]) (adj s.2[i]) s
      have hle : s.2.length ≤ n := nodup_le h.nodup fun j hj => (h.reach j hj).lt hn hr
      have ht' : (layer acc adj val s s.2[i]).2 = s.2 ++ t := ht
      refine ih (i + 1) (layer acc adj val s s.2[i]) (by omega) (by rw [ht', List.length_append]; omega) (by rw [ht']; exact List.mem_append_left _ hrq) h1 fun m hm hmi b hb ha => ?_
      have hget : (layer acc adj val s s.2[i]).2[m] = s.2[m]'(by omega) := by
        simp only [ht']
        rw [List.getElem_append_left (by omega)]
      rw [hget] at hb
      by_cases e : m = i
      · subst e
        exact h2 b hb ha
      · rw [ht']
        exact List.mem_append_left _ (hc m (by omega) (by omega) b hb ha)
    · rw [dif_neg hlt]
      exact ⟨h, fin s hrq fun m hm => hc m hm (by omega)⟩
theorem start_inv (hr : r < n) (ha : acc r = true) (hl : far0.length = n) {v : Int} (hv : Q v) : Inv acc adj Q n r far0 (far0.set r v, [r]) where
  len := by simpa using hl
  reach := fun j hj => by rw [List.mem_singleton.1 hj]; exact .start ha
  val := fun j hj => by
    rw [List.mem_singleton.1 hj]
    show Q ((far0.set r v).getD r 0)
    rw [getD_set_same _ _ _ (by omega)]
    exact hv
  old := fun j hj => getD_set_other _ _ _ _ (fun e => hj (by rw [e]; exact List.mem_singleton.2 rfl))
  nodup := by simp
/-- What the search marks. -/
theorem search (val : List Int → Nat → Int) (hQ0 : ∀ v, Q v → 0 ≤ v) (hval : ∀ (far : List Int) (u : Nat), Q (far.getD u 0) → Q (val far u)) (hn : ∀ a b, b ∈ adj a → b < n) (hr : r < n) (ha : acc r = true) (hl : far0.length = n)
    (hf : ∀ j, Reach acc adj r j → far0.getD j 0 < 0) {v : Int} (hv : Q v) (f : Nat) (hfu : n ≤ f) :
    (loop acc adj val f 0 (far0.set r v, [r])).1.length = n ∧ (∀ j, Reach acc adj r j → Q ((loop acc adj val f 0 (far0.set r v, [r])).1.getD j 0)) ∧ ∀ j, ¬ Reach acc adj r j → (loop acc adj val f 0 (far0.set r v, [r])).1.getD j 0 = far0.getD j 0 := by
  obtain ⟨h1, h2⟩ := loop_spec val hQ0 hval hn hr hf f 0 (far0.set r v, [r]) (by omega) (Nat.zero_le _) (List.mem_singleton.2 rfl) (start_inv hr ha hl hv) (fun m _ hm => absurd hm (Nat.not_lt_zero _))
  exact ⟨h1.len, fun j hj => h1.val j (h2 j hj), fun j hj => h1.old j (fun hm => hj (h1.reach j hm))⟩
end
end BF
end Go.Proofs.YtplifefnjeledaaDoorM
