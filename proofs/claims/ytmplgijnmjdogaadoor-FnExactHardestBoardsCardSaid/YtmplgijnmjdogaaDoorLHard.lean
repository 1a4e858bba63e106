/- Plain laws of a search with words: each node is found under its first shortest word, and the greedy way by distances is that word. No program stands in this text. -/
import Derived.Test.YtmplgijnmjdogaaDoorLReach
import Derived.Test.YtmplgijnmjdogaaDoorLNode
import Derived.Test.YtmplgijnmjdogaaDoorVBText
import Derived.Test.YtmplgijnmjdogaaDoorQx4
import Derived.Test.YtmplgijnmjdogaaDoorVOrc
import Derived.Test.YtmplgijnmjdogaaDoorQx7
import Derived.Test.YtmplgijnmjdogaaDoorQx3
import Derived.Test.YtmplgijnmjdogaaDoorVHardT
import Derived.Test.YtmplgijnmjdogaaDoorQx9
import Derived.Test.YtmplgijnmjdogaaDoorQx8
set_option linter.unusedVariables false
set_option linter.unusedSimpArgs false
set_option linter.unusedSectionVars false
namespace Go.Proofs.YtmplgijnmjdogaaDoorM
namespace SK
/-- Words of one length, by their first difference. -/
def lex : List Nat → List Nat → Prop
  | a :: p, b :: q => a < b ∨ (a = b ∧ lex p q)
  | _, _ => False
def sl (p q : List Nat) : Prop := p.length < q.length ∨ (p.length = q.length ∧ lex p q)
def sle (p q : List Nat) : Prop := p = q ∨ sl p q
theorem lex_irrefl : ∀ p : List Nat, ¬ lex p p
  | [] => fun h => h
  | a :: p => fun h => by
    rcases h with h | ⟨_, h⟩
    · omega
    · exact lex_irrefl p h
theorem lex_trans : ∀ p q r : List Nat, lex p q → lex q r → lex p r
  | a :: p, b :: q, c :: r, h1, h2 => by
    rcases h1 with h1 | ⟨e1, h1⟩
    · rcases h2 with h2 | ⟨e2, h2⟩
      · exact .inl (by omega)
      · exact .inl (by omega)
    · rcases h2 with h2 | ⟨e2, h2⟩
      · exact .inl (by omega)
      · exact .inr ⟨by omega, lex_trans p q r h1 h2⟩
  | [], _, _, h, _ => h.elim
  | _ :: _, [], _, h, _ => h.elim
  | _ :: _, _ :: _, [], _, h => h.elim
theorem lex_app : ∀ (p q s t : List Nat), p.length = q.length → lex p q → lex (p ++ s) (q ++ t)
  | a :: p, b :: q, s, t, hl, h => by
    rcases h with h | ⟨e, h⟩
    · exact .inl h
    · exact .inr ⟨e, lex_app p q s t (by simpa using hl) h⟩
  | [], _, _, _, _, h => h.elim
  | _ :: _, [], _, _, _, h => h.elim
theorem lex_last : ∀ (p : List Nat) (d e : Nat), d < e → lex (p ++ [d]) (p ++ [e])
  | [], d, e, h => .inl h
  | a :: p, d, e, h => .inr ⟨rfl, lex_last p d e h⟩
theorem lex_total : ∀ p q : List Nat, p.length = q.length → p = q ∨ lex p q ∨ lex q p
  | [], [], _ => .inl rfl
  | [], _ :: _, h => by simp at h
  | _ :: _, [], h => by simp at h
  | a :: p, b :: q, h => by
    rcases Nat.lt_trichotomy a b with h1 | h1 | h1
    · exact .inr (.inl (.inl h1))
    · rcases lex_total p q (by simpa using h) with h2 | h2 | h2
      · exact .inl (by rw [h1, h2])
      · exact .inr (.inl (.inr ⟨h1, h2⟩))
      · exact .inr (.inr (.inr ⟨h1.symm, h2⟩))
    · exact .inr (.inr (.inl h1))
theorem sl_irrefl (p : List Nat) : ¬ sl p p := by
  rintro (h | ⟨_, h⟩)
  · omega
  · exact lex_irrefl p h
theorem sl_trans {p q r : List Nat} (h1 : sl p q) (h2 : sl q r) : sl p r := by
  rcases h1 with h1 | ⟨e1, h1⟩ <;> rcases h2 with h2 | ⟨e2, h2⟩
  · exact .inl (by omega)
  · exact .inl (by omega)
  · exact .inl (by omega)
  · exact .inr ⟨by omega, lex_trans _ _ _ h1 h2⟩
theorem sle_trans {p q r : List Nat} (h1 : sle p q) (h2 : sle q r) : sle p r := by
  rcases h1 with rfl | h1
  · exact h2
  · rcases h2 with rfl | h2
    · exact .inr h1
    · exact .inr (sl_trans h1 h2)
theorem sle_len {p q : List Nat} (h : sle p q) : p.length ≤ q.length := by
  rcases h with rfl | h | ⟨h, _⟩ <;> omega
theorem sle_anti {p q : List Nat} (h1 : sle p q) (h2 : sle q p) : p = q := by
  rcases h1 with h1 | h1
  · exact h1
  · rcases h2 with h2 | h2
    · exact h2.symm
    · exact absurd (sl_trans h1 h2) (sl_irrefl _)
theorem sl_app {p q : List Nat} (h : sl p q) (d e : Nat) : sl (p ++ [d]) (q ++ [e]) := by
  rcases h with h | ⟨e1, h⟩
  · exact .inl (by simp; omega)
  · exact .inr ⟨by simp [e1], lex_app _ _ _ _ e1 h⟩
theorem sle_app {p q : List Nat} (h : sle p q) (d : Nat) : sle (p ++ [d]) (q ++ [d]) := by
  rcases h with rfl | h
  · exact .inl rfl
  · exact .inr (sl_app h d d)
theorem sl_last (p : List Nat) {d e : Nat} (h : d < e) : sl (p ++ [d]) (p ++ [e]) := .inr ⟨by simp, lex_last p d e h⟩
theorem sl_snoc (p : List Nat) (d : Nat) : sl p (p ++ [d]) := .inl (by simp)
section
variable {α : Type} [DecidableEq α]
/-- Where a word leads. -/
def run (nb : α → Nat → Option α) : α → List Nat → Option α
  | x, [] => some x
  | x, d :: p => (nb x d).bind fun y => run nb y p
theorem run_app (nb : α → Nat → Option α) : ∀ (p q : List Nat) (x : α), run nb x (p ++ q) = (run nb x p).bind fun y => run nb y q
  | [], q, x => rfl
  | d :: p, q, x => by
    show (nb x d).bind _ = ((nb x d).bind _).bind _
    cases nb x d with
    | none => rfl
    | some y => exact run_app nb p q y
theorem run_snoc (nb : α → Nat → Option α) (p : List Nat) (d : Nat) (x : α) : run nb x (p ++ [d]) = (run nb x p).bind fun y => nb y d := by
  rw [run_app]
  congr 1
  funext y
  show (nb y d).bind (fun z => some z) = _
  cases nb y d <;> rfl
abbrev Ent (α : Type) := α × List Nat
def look (nb : α → Nat → Option α) (x : α) (p : List Nat) (s : List (Ent α)) (d : Nat) : List (Ent α) :=
  match nb x d with
  | none => s
  | some y => if y ∈ s.map (·.1) then s else s ++ [(y, p ++ [d])]
def layer (nb : α → Nat → Option α) (s : List (Ent α)) (e : Ent α) : List (Ent α) := look nb e.1 e.2 (look nb e.1 e.2 (look nb e.1 e.2 (look nb e.1 e.2 s 0) 1) 2) 3
def loop (nb : α → Nat → Option α) : Nat → Nat → List (Ent α) → List (Ent α)
  | 0, _, s => s
  | f + 1, i, s => if h : i < s.length then loop nb f (i + 1) (layer nb s s[i]) else s
/-- What holds while entry i is looked at, its directions below d done. -/
structure Inv (nb : α → Nat → Option α) (b : α) (P : α → Prop) (i d : Nat) (s : List (Ent α)) : Prop where
  head : s[0]? = some (b, [])
  runs : ∀ e ∈ s, run nb b e.2 = some e.1
  ok : ∀ e ∈ s, P e.1
  nodup : (s.map (·.1)).Nodup
  ord : s.Pairwise fun a c => sl a.2 c.2
  closed : ∀ (j : Nat) (e : Ent α), s[j]? = some e → ∀ (c : Nat) (y : α), (j < i ∨ (j = i ∧ c < d)) → nb e.1 c = some y → ∃ e2 ∈ s, e2.1 = y ∧ sle e2.2 (e.2 ++ [c])
  low : ∀ e, s[i]? = some e → ∀ e2 ∈ s, sl e2.2 (e.2 ++ [d])
theorem inv_start (nb : α → Nat → Option α) (b : α) (P : α → Prop) (hP : P b) : Inv nb b P 0 0 [(b, [])] := by
  refine ⟨rfl, fun e he => ?_, fun e he => ?_, by simp, by simp, fun j e hj c y h => ?_, fun e he e2 h2 => ?_⟩
  · obtain rfl := List.mem_singleton.1 he
    rfl
  · obtain rfl := List.mem_singleton.1 he
    exact hP
  · omega
  · obtain rfl := List.mem_singleton.1 h2
    exact .inl (by simp)
theorem inv_look {nb : α → Nat → Option α} {b : α} {P : α → Prop} (hn : ∀ x d y, P x → nb x d = some y → P y) {i d : Nat} {s : List (Ent α)} {e : Ent α} (he : s[i]? = some e) (h : Inv nb b P i d s) :
    Inv nb b P i (d + 1) (look nb e.1 e.2 s d) ∧ (look nb e.1 e.2 s d)[i]? = some e := by
  have hil := (List.getElem?_eq_some_iff.1 he).1
  have hem : e ∈ s := List.mem_of_getElem? he
  have stay : ∀ s2, s2 = s → (∀ y, nb e.1 d = some y → ∃ e2 ∈ s, e2.1 = y ∧ sle e2.2 (e.2 ++ [d])) → Inv nb b P i (d + 1) s2 ∧ s2[i]? = some e := by
    rintro s2 rfl hy
    refine ⟨⟨h.head, h.runs, h.ok, h.nodup, h.ord, fun j e' hj c y hc hb => ?_, fun e' he' e2 h2 => ?_⟩, he⟩
    · by_cases hd : j < i ∨ (j = i ∧ c < d)
      · exact h.closed j e' hj c y hd hb
      · have e1 : j = i := by omega
        have e2 : c = d := by omega
        subst e1 e2
        rw [he] at hj
        obtain rfl := Option.some.inj hj
        exact hy y hb
    · exact sl_trans (h.low e' he' e2 h2) (sl_last _ (by omega))
  unfold look
  cases hb : nb e.1 d with
  | none => exact stay s rfl (fun y hy => by rw [hb] at hy; cases hy)
  | some y =>
    by_cases hm : y ∈ s.map (·.1)
    · show Inv nb b P i (d + 1) (if y ∈ s.map (·.1) then s else _) ∧ (if y ∈ s.map (·.1) then s else _)[i]? = some e
      rw [if_pos hm]
      refine stay s rfl (fun z hz => ?_)
      rw [hb] at hz
      obtain rfl := Option.some.inj hz
      obtain ⟨e2, h2, rfl⟩ := List.mem_map.1 hm
      exact ⟨e2, h2, rfl, .inr (h.low e he e2 h2)⟩
    · show Inv nb b P i (d + 1) (if y ∈ s.map (·.1) then s else _) ∧ (if y ∈ s.map (·.1) then s else _)[i]? = some e
      rw [if_neg hm]
      have h0 : 0 < s.length := by omega
      have hi2 : (s ++ [(y, e.2 ++ [d])])[i]? = some e := by rw [List.getElem?_append_left hil]; exact he
      refine ⟨⟨by rw [List.getElem?_append_left h0]; exact h.head, fun e' h' => ?_, fun e' h' => ?_, ?_, ?_, fun j e' hj c z hc hz => ?_, fun e' he' e2 h2 => ?_⟩, hi2⟩
      · rcases List.mem_append.1 h' with h' | h'
        · exact h.runs e' h'
        · obtain rfl := List.mem_singleton.1 h'
          rw [run_snoc, h.runs e hem]
          exact hb
      · rcases List.mem_append.1 h' with h' | h'
        · exact h.ok e' h'
        · obtain rfl := List.mem_singleton.1 h'
          exact hn _ _ _ (h.ok e hem) hb
      · rw [List.map_append, List.nodup_append]
        refine ⟨h.nodup, by simp, fun a ha c hc => ?_⟩
        obtain rfl := List.mem_singleton.1 hc
        rintro rfl
        exact hm ha
      · rw [List.pairwise_append]
        refine ⟨h.ord, by simp, fun a ha c hc => ?_⟩
        obtain rfl := List.mem_singleton.1 hc
        exact h.low e he a ha
      · have hjl : j < s.length := by omega
        rw [List.getElem?_append_left hjl] at hj
        by_cases hd : j < i ∨ (j = i ∧ c < d)
        · obtain ⟨e2, m, h1, h2⟩ := h.closed j e' hj c z hd hz
          exact ⟨e2, List.mem_append_left _ m, h1, h2⟩
        · have e1 : j = i := by omega
          have e2 : c = d := by omega
          subst e1 e2
          rw [he] at hj
          obtain rfl := Option.some.inj hj
          rw [hb] at hz
          obtain rfl := Option.some.inj hz
          exact ⟨_, List.mem_append_right _ (List.mem_singleton.2 rfl), rfl, .inl rfl⟩
      · rw [hi2] at he'
        obtain rfl := Option.some.inj he'
        rcases List.mem_append.1 h2 with h2 | h2
        · exact sl_trans (h.low e he e2 h2) (sl_last _ (by omega))
        · obtain rfl := List.mem_singleton.1 h2
          exact sl_last _ (by omega)
theorem inv_layer {nb : α → Nat → Option α} {b : α} {P : α → Prop} (hn : ∀ x d y, P x → nb x d = some y → P y) (h4 : ∀ x d, 4 ≤ d → nb x d = none) {i : Nat} {s : List (Ent α)} {e : Ent α} (he : s[i]? = some e) (h : Inv nb b P i 0 s) :
    Inv nb b P (i + 1) 0 (layer nb s e) := by
  obtain ⟨h1, e1⟩ := inv_look hn he h
  obtain ⟨h2, e2⟩ := inv_look hn e1 h1
  obtain ⟨h3, e3⟩ := inv_look hn e2 h2
  obtain ⟨h5, e5⟩ := inv_look hn e3 h3
  unfold layer
  generalize look nb e.1 e.2 (look nb e.1 e.2 (look nb e.1 e.2 (look nb e.1 e.2 s 0) 1) 2) 3 = t at h5 e5
  refine ⟨h5.head, h5.runs, h5.ok, h5.nodup, h5.ord, fun j e' hj c y hc hb => ?_, fun e' he' e2 h2 => ?_⟩
  · have c4 : c < 4 := by
      refine Classical.byContradiction fun hc4 => ?_
      rw [h4 _ _ (by omega)] at hb
      cases hb
    exact h5.closed j e' hj c y (by omega) hb
  · obtain ⟨hil, hie⟩ := List.getElem?_eq_some_iff.1 he'
    obtain ⟨hjl, hje⟩ := List.getElem?_eq_some_iff.1 e5
    have hp := List.pairwise_iff_getElem.1 h5.ord i (i + 1) hjl hil (by omega)
    rw [hie, hje] at hp
    exact sl_trans (h5.low e e5 e2 h2) (sl_app hp _ _)
/-- The search has come to its end. -/
structure Full (nb : α → Nat → Option α) (b : α) (P : α → Prop) (s : List (Ent α)) : Prop where
  head : s[0]? = some (b, [])
  runs : ∀ e ∈ s, run nb b e.2 = some e.1
  ok : ∀ e ∈ s, P e.1
  nodup : (s.map (·.1)).Nodup
  ord : s.Pairwise fun a c => sl a.2 c.2
  closed : ∀ e ∈ s, ∀ (c : Nat) (y : α), nb e.1 c = some y → ∃ e2 ∈ s, e2.1 = y ∧ sle e2.2 (e.2 ++ [c])
theorem inv_full {nb : α → Nat → Option α} {b : α} {P : α → Prop} {i : Nat} {s : List (Ent α)} (h : Inv nb b P i 0 s) (hi : s.length ≤ i) : Full nb b P s :=
  ⟨h.head, h.runs, h.ok, h.nodup, h.ord, fun e he c y hb => by
    obtain ⟨j, hj⟩ := List.mem_iff_getElem?.1 he
    exact h.closed j e hj c y (.inl (by have := (List.getElem?_eq_some_iff.1 hj).1; omega)) hb⟩
theorem loop_full {nb : α → Nat → Option α} {b : α} {P : α → Prop} (hn : ∀ x d y, P x → nb x d = some y → P y) (h4 : ∀ x d, 4 ≤ d → nb x d = none) {N : Nat} (hN : ∀ l : List α, l.Nodup → (∀ x ∈ l, P x) → l.length ≤ N) :
    ∀ (f i : Nat) (s : List (Ent α)), N < f + i → Inv nb b P i 0 s → Full nb b P (loop nb f i s)
  | 0, i, s, hf, h => by
    have := hN _ h.nodup (fun x hx => by obtain ⟨e, he, rfl⟩ := List.mem_map.1 hx; exact h.ok e he)
    rw [List.length_map] at this
    exact inv_full (s := s) h (by omega)
  | f + 1, i, s, hf, h => by
    unfold loop
    by_cases hi : i < s.length
    · rw [dif_pos hi]
      exact loop_full hn h4 hN f (i + 1) _ (by omega) (inv_layer hn h4 (List.getElem?_eq_getElem hi) h)
    · rw [dif_neg hi]
      exact inv_full h (by omega)
theorem Full.covers {nb : α → Nat → Option α} {b : α} {P : α → Prop} {s : List (Ent α)} (h : Full nb b P s) : ∀ (n : Nat) (p : List Nat) (y : α), p.length = n → run nb b p = some y → ∃ e ∈ s, e.1 = y ∧ sle e.2 p := by
  intro n
  induction n with
  | zero =>
    intro p y hp hr
    obtain rfl := List.eq_nil_of_length_eq_zero hp
    obtain rfl := Option.some.inj hr
    exact ⟨_, List.mem_of_getElem? h.head, rfl, .inl rfl⟩
  | succ n ih =>
    intro p y hp hr
    have hne : p ≠ [] := by rintro rfl; simp at hp
    have e := List.dropLast_concat_getLast hne
    rw [← e, run_snoc] at hr
    cases hx : run nb b p.dropLast with
    | none => rw [hx] at hr; cases hr
    | some x =>
      rw [hx] at hr
      have hr : nb x (p.getLast hne) = some y := hr
      obtain ⟨e1, m1, rfl, l1⟩ := ih p.dropLast x (by rw [List.length_dropLast]; omega) hx
      obtain ⟨e2, m2, h2, l2⟩ := h.closed e1 m1 _ y hr
      refine ⟨e2, m2, h2, ?_⟩
      rw [← e]
      exact sle_trans l2 (sle_app l1 _)
/-- The word under which a node is found. -/
def wordOf (s : List (Ent α)) (x : α) : Option (List Nat) := (s.find? fun e => decide (e.1 = x)).map (·.2)
theorem Full.uniq {nb : α → Nat → Option α} {b : α} {P : α → Prop} {s : List (Ent α)} (h : Full nb b P s) {e1 e2 : Ent α} (m1 : e1 ∈ s) (m2 : e2 ∈ s) (he : e1.1 = e2.1) : e1 = e2 := by
  have hnd := h.nodup
  clear h
  induction s with
  | nil => cases m1
  | cons a t ih =>
    rw [List.map_cons, List.nodup_cons] at hnd
    rcases List.mem_cons.1 m1 with r1 | n1 <;> rcases List.mem_cons.1 m2 with r2 | n2
    · rw [r1, r2]
    · subst r1
      exact absurd (List.mem_map.2 ⟨e2, n2, he.symm⟩ : e1.1 ∈ t.map (·.1)) hnd.1
    · subst r2
      exact absurd (List.mem_map.2 ⟨e1, n1, he⟩ : e2.1 ∈ t.map (·.1)) hnd.1
    · exact ih n1 n2 hnd.2
/-- The first shortest word. -/
theorem Full.least {nb : α → Nat → Option α} {b : α} {P : α → Prop} {s : List (Ent α)} (h : Full nb b P s) {e : Ent α} (m : e ∈ s) {p : List Nat} (hr : run nb b p = some e.1) : sle e.2 p := by
  obtain ⟨e2, m2, h2, l2⟩ := h.covers p.length p e.1 rfl hr
  rw [h.uniq m2 m h2] at l2
  exact l2
/-! ### moves that can be taken back -/
theorem run_back {nb : α → Nat → Option α} {P : α → Prop} (hn : ∀ x d y, P x → nb x d = some y → P y) (hb : ∀ x d y, P x → nb x d = some y → ∃ c, nb y c = some x) : ∀ (p : List Nat) (x y : α), P x → run nb x p = some y → P y ∧ ∃ q : List Nat, q.length = p.length ∧ run nb y q = some x
  | [], x, y, hx, h => by
    obtain rfl := Option.some.inj h
    exact ⟨hx, [], rfl, rfl⟩
  | d :: p, x, y, hx, h => by
    have h : (nb x d).bind (fun z => run nb z p) = some y := h
    cases hz : nb x d with
    | none => rw [hz] at h; cases h
    | some z =>
      rw [hz] at h
      have h : run nb z p = some y := h
      obtain ⟨hy, q, hq, hr⟩ := run_back hn hb p z y (hn _ _ _ hx hz) h
      obtain ⟨c, hc⟩ := hb _ _ _ hx hz
      refine ⟨hy, q ++ [c], by simp [hq], ?_⟩
      rw [run_snoc, hr]
      exact hc
/-- How far a node lies from the search's start, or -1. -/
def farOf (s : List (Ent α)) (x : α) : Int := match s.find? (fun e => decide (e.1 = x)) with
  | some e => (e.2.length : Int)
  | none => -1
theorem farOf_some {s : List (Ent α)} {x : α} {m : Nat} (h : farOf s x = (m : Int)) : ∃ e ∈ s, e.1 = x ∧ e.2.length = m := by
  unfold farOf at h
  cases hf : s.find? (fun e => decide (e.1 = x)) with
  | none => rw [hf] at h; simp at h
  | some e =>
    rw [hf] at h
    have h : ((e.2.length : Nat) : Int) = (m : Int) := h
    refine ⟨e, List.mem_of_find?_eq_some hf, ?_, by omega⟩
    have := List.find?_some hf
    simpa using this
theorem Full.far {nb : α → Nat → Option α} {b : α} {P : α → Prop} {s : List (Ent α)} (h : Full nb b P s) {e : Ent α} (m : e ∈ s) : farOf s e.1 = (e.2.length : Int) := by
  unfold farOf
  cases hf : s.find? (fun e' => decide (e'.1 = e.1)) with
  | none =>
    have := List.find?_eq_none.1 hf e m
    simp at this
  | some e2 =>
    have h2 : e2.1 = e.1 := by simpa using List.find?_some hf
    rw [h.uniq (List.mem_of_find?_eq_some hf) m h2]
/-- The first direction that leads nearer. -/
def pick (nb : α → Nat → Option α) (far : α → Int) (m : Int) (x : α) : Nat → Nat → Option (Nat × α)
  | 0, _ => none
  | f + 1, d => match nb x d with
    | none => pick nb far m x f (d + 1)
    | some y => if far y = m then some (d, y) else pick nb far m x f (d + 1)
def greedy (nb : α → Nat → Option α) (far : α → Int) : Nat → α → List Nat
  | 0, _ => []
  | m + 1, x => match pick nb far (m : Int) x 4 0 with
    | none => greedy nb far m x
    | some (d, y) => d :: greedy nb far m y
theorem pick_some {nb : α → Nat → Option α} {far : α → Int} {m : Int} {x : α} : ∀ (f c d : Nat) (y : α), c ≤ d → d < c + f → nb x d = some y → far y = m →
    ∃ d' y', pick nb far m x f c = some (d', y') ∧ c ≤ d' ∧ d' ≤ d ∧ nb x d' = some y' ∧ far y' = m
  | 0, c, d, y, h1, h2, _, _ => by omega
  | f + 1, c, d, y, h1, h2, h3, h4 => by
    have next : (nb x c = none ∨ ∃ z, nb x c = some z ∧ ¬ far z = m) → ∃ d' y', pick nb far m x f (c + 1) = some (d', y') ∧ c ≤ d' ∧ d' ≤ d ∧ nb x d' = some y' ∧ far y' = m := by
      intro hc
      have hne : c ≠ d := by
        rintro rfl
        rcases hc with hc | ⟨z, hc, hz⟩
        · rw [hc] at h3; cases h3
        · rw [hc] at h3
          obtain rfl := Option.some.inj h3
          exact hz h4
      obtain ⟨d', y', a, b, c', e, g⟩ := pick_some f (c + 1) d y (by omega) (by omega) h3 h4
      exact ⟨d', y', a, by omega, c', e, g⟩
    unfold pick
    cases hc : nb x c with
    | none => exact next (.inl hc)
    | some z =>
      by_cases hz : far z = m
      · exact ⟨c, z, by simp [hz], Nat.le_refl _, h1, hc, hz⟩
      · obtain ⟨d', y', a, r⟩ := next (.inr ⟨z, hc, hz⟩)
        exact ⟨d', y', by simp [hz, a], r⟩
/-- The greedy way is the first shortest word. -/
theorem greedy_least {nb : α → Nat → Option α} {g : α} {P : α → Prop} {s : List (Ent α)} (hF : Full nb g P s) (hn : ∀ x d y, P x → nb x d = some y → P y) (h4 : ∀ x d, 4 ≤ d → nb x d = none) (hb : ∀ x d y, P x → nb x d = some y → ∃ c, nb y c = some x) :
    ∀ (m : Nat) (x : α), P x → farOf s x = (m : Int) → run nb x (greedy nb (farOf s) m x) = some g ∧ (greedy nb (farOf s) m x).length = m ∧ ∀ p, run nb x p = some g → sle (greedy nb (farOf s) m x) p
  | 0, x, hx, hfar => by
    obtain ⟨e, he, rfl, hl⟩ := farOf_some hfar
    have hr := hF.runs e he
    rw [List.eq_nil_of_length_eq_zero hl] at hr
    obtain hr := Option.some.inj hr
    refine ⟨by rw [← hr]; rfl, rfl, fun p hp => ?_⟩
    show sle [] p
    cases p with
    | nil => exact .inl rfl
    | cons d p => exact .inr (.inl (by simp))
  | m + 1, x, hx, hfar => by
    obtain ⟨e, he, rfl, hl⟩ := farOf_some hfar
    -- distances, both ways
    have hgP : P g := hF.ok _ (List.mem_of_getElem? hF.head)
    have near : ∀ (y : α) (q : List Nat), P y → run nb y q = some g → ∃ n : Nat, farOf s y = (n : Int) ∧ n ≤ q.length := by
      intro y q hy hq
      obtain ⟨_, q2, hq2, hr2⟩ := run_back hn hb q y g hy hq
      obtain ⟨e2, m2, h2, l2⟩ := hF.covers q2.length q2 y rfl hr2
      refine ⟨e2.2.length, by rw [← h2]; exact hF.far m2, ?_⟩
      have := sle_len l2
      omega
    have far_run : ∀ (y : α) (n : Nat), farOf s y = (n : Int) → ∃ q, q.length = n ∧ run nb y q = some g := by
      intro y n hy
      obtain ⟨e2, m2, rfl, hl2⟩ := farOf_some hy
      obtain ⟨_, q, hq, hr⟩ := run_back hn hb e2.2 g e2.1 hgP (hF.runs _ m2)
      exact ⟨q, by omega, hr⟩
    -- a neighbour lies nearer
    obtain ⟨q, hql, hq⟩ := far_run e.1 (m + 1) hfar
    cases q with
    | nil => simp at hql
    | cons d q =>
      have hq : (nb e.1 d).bind (fun z => run nb z q) = some g := hq
      cases hy : nb e.1 d with
      | none => rw [hy] at hq; cases hq
      | some y =>
        rw [hy] at hq
        have hq : run nb y q = some g := hq
        have hyP := hn _ _ _ hx hy
        have lower : ∀ (c : Nat) (z : α), nb e.1 c = some z → ∀ n : Nat, farOf s z = (n : Int) → m ≤ n := by
          intro c z hc n hz
          obtain ⟨r, hrl, hr⟩ := far_run z n hz
          obtain ⟨n2, h2, h3⟩ := near e.1 (c :: r) hx (by show (nb e.1 c).bind _ = _; rw [hc]; exact hr)
          rw [hfar] at h2
          simp only [List.length_cons] at h3
          omega
        obtain ⟨n, hyn, hle⟩ := near y q hyP hq
        have hnm : n = m := by
          have := lower d y hy n hyn
          simp only [List.length_cons] at hql
          omega
        subst hnm
        have hd4 : d < 4 := by
          refine Classical.byContradiction fun h => ?_
          rw [h4 _ _ (by omega)] at hy
          cases hy
        obtain ⟨d', y', hpk, _, _, hy', hf'⟩ := pick_some 4 0 d y (Nat.zero_le _) (by omega) hy hyn
        obtain ⟨g1, g2, g3⟩ := greedy_least hF hn h4 hb n y' (hn _ _ _ hx hy') hf'
        have eg : greedy nb (farOf s) (n + 1) e.1 = d' :: greedy nb (farOf s) n y' := by
          rw [greedy, hpk]
        rw [eg]
        refine ⟨by show (nb e.1 d').bind _ = _; rw [hy']; exact g1, by simp [g2], fun p hp => ?_⟩
        cases p with
        | nil =>
          obtain rfl := Option.some.inj hp
          have := near e.1 [] hx rfl
          obtain ⟨n2, h2, h3⟩ := this
          rw [hfar] at h2
          simp at h3
          omega
        | cons c p =>
          have hp : (nb e.1 c).bind (fun z => run nb z p) = some g := hp
          cases hz : nb e.1 c with
          | none => rw [hz] at hp; cases hp
          | some z =>
            rw [hz] at hp
            have hp : run nb z p = some g := hp
            obtain ⟨n2, hn2, hl2⟩ := near z p (hn _ _ _ hx hz) hp
            have h3 := lower c z hz n2 hn2
            by_cases hlen : p.length = n
            · have hzn : farOf s z = (n : Int) := by rw [hn2]; congr 1; omega
              have hc4 : c < 4 := by
                refine Classical.byContradiction fun h => ?_
                rw [h4 _ _ (by omega)] at hz
                cases hz
              obtain ⟨d2, y2, hpk2, _, hle2, _, _⟩ := pick_some 4 0 c z (Nat.zero_le _) (by omega) hz hzn
              rw [hpk] at hpk2
              obtain ⟨rfl, rfl⟩ := Prod.mk.inj (Option.some.inj hpk2)
              by_cases hcd : c = d'
              · subst hcd
                rw [hy'] at hz
                obtain rfl := Option.some.inj hz
                rcases g3 p hp with h5 | h5 | ⟨h5, h6⟩
                · exact .inl (by rw [h5])
                · exact .inr (.inl (by simp; omega))
                · exact .inr (.inr ⟨by simp [h5], .inr ⟨rfl, h6⟩⟩)
              · exact .inr (.inr ⟨by simp [g2, hlen], .inl (by omega)⟩)
            · exact .inr (.inl (by simp [g2]; omega))
/-- Both ways of telling the word are one. -/
theorem both {nb : α → Nat → Option α} {g b : α} {P : α → Prop} {s t : List (Ent α)} (hF : Full nb g P s) (hT : Full nb b P t) (hn : ∀ x d y, P x → nb x d = some y → P y) (h4 : ∀ x d, 4 ≤ d → nb x d = none) (hb : ∀ x d y, P x → nb x d = some y → ∃ c, nb y c = some x)
    {m : Nat} (hfar : farOf s b = (m : Int)) : (g, greedy nb (farOf s) m b) ∈ t := by
  have hbP : P b := hT.ok _ (List.mem_of_getElem? hT.head)
  obtain ⟨h1, h2, h3⟩ := greedy_least hF hn h4 hb m b hbP hfar
  obtain ⟨e, he, h5, h6⟩ := hT.covers _ _ g rfl h1
  have h7 := h3 e.2 (by rw [hT.runs e he, h5])
  have : e = (g, greedy nb (farOf s) m b) := by
    rw [← h5, ← sle_anti h6 h7]
  rw [← this]
  exact he
/-- A node lies in a search just where the search's start lies in that node's. -/
theorem sym {nb : α → Nat → Option α} {g b : α} {P : α → Prop} {s t : List (Ent α)} (hF : Full nb g P s) (hT : Full nb b P t) (hn : ∀ x d y, P x → nb x d = some y → P y) (hb : ∀ x d y, P x → nb x d = some y → ∃ c, nb y c = some x)
    (h : g ∈ t.map (·.1)) : b ∈ s.map (·.1) := by
  obtain ⟨e, he, rfl⟩ := List.mem_map.1 h
  obtain ⟨_, q, hq, hr⟩ := run_back hn hb e.2 b e.1 (hT.ok _ (List.mem_of_getElem? hT.head)) (hT.runs e he)
  obtain ⟨e2, m2, h2, _⟩ := hF.covers q.length q b rfl hr
  exact List.mem_map.2 ⟨e2, m2, h2⟩
end
end SK
end Go.Proofs.YtmplgijnmjdogaaDoorM
namespace Go.Proofs.YtmplgijnmjdogaaDoorL
open Go.RowKit Go.Proofs.YtmplgijnmjdogaaDoor.Q Go.Proofs.YtmplgijnmjdogaaDoorW.PrintWords Go.Proofs.YtmplgijnmjdogaaDoorW.PrintLast Go.Proofs.YtmplgijnmjdogaaDoorM
def valid (W H : Nat) : Bool := (codes W H).all fun c => ndB (W * H) (dec (W * H) c) && (enc (dec (W * H) c) == c)
theorem valid_all : ((List.range 4).all fun W => (List.range 4).all fun H => valid W H) = true := by decide +kernel
theorem ndB_iff {W H : Nat} {l : List Int} : ndB (W * H) l = true ↔ Nd W H l := by
  unfold ndB Nd
  simp only [Bool.and_eq_true, beq_iff_eq, List.all_eq_true, List.mem_range, List.contains_iff_mem]
theorem nodup_sub {α : Type} [DecidableEq α] : ∀ (a b : List α), a.Nodup → (∀ x ∈ a, x ∈ b) → a.length ≤ b.length
  | [], b, _, _ => Nat.zero_le _
  | x :: t, b, hn, hs => by
    obtain ⟨u, v, rfl⟩ := List.append_of_mem (hs x List.mem_cons_self)
    rw [List.nodup_cons] at hn
    have := nodup_sub t (u ++ v) hn.2 (fun y hy => by
      have := hs y (List.mem_cons_of_mem _ hy)
      rcases List.mem_append.1 this with h | h
      · exact List.mem_append_left _ h
      · rcases List.mem_cons.1 h with rfl | h
        · exact absurd hy hn.1
        · exact List.mem_append_right _ h)
    rw [List.length_append] at this
    rw [List.length_cons, List.length_append, List.length_cons]
    omega
theorem enc_lt : ∀ (l : List Int), (∀ x ∈ l, 0 ≤ x ∧ x < 8) → enc l < 8 ^ l.length
  | [], _ => by simp [enc]
  | x :: t, h => by
    have hx := h x List.mem_cons_self
    have := enc_lt t (fun y hy => h y (List.mem_cons_of_mem _ hy))
    show x.toNat + 8 * enc t < 8 ^ (t.length + 1)
    rw [Nat.pow_succ]
    omega
section
variable {W H : Nat} (hW0 : 0 < W) (hW : W < 4) (hH0 : 0 < H) (hH : H < 4) (h6 : W * H ≤ 6)
include hW0 hW hH0 hH h6
theorem nd8 {l : List Int} (h : Nd W H l) : ∀ x ∈ l, 0 ≤ x ∧ x < 8 := fun x hx => by
  have := nd_vals h x hx
  omega
theorem nd_dec {l : List Int} (h : Nd W H l) : dec (W * H) (enc l) = l := by
  rw [← h.1]
  exact dec_enc l (nd8 hW0 hW hH0 hH h6 h)
theorem nd_inj {l m : List Int} (h : Nd W H l) (h' : Nd W H m) (he : enc l = enc m) : l = m := by
  rw [← nd_dec hW0 hW hH0 hH h6 h, ← nd_dec hW0 hW hH0 hH h6 h', he]
theorem nd_mem {l : List Int} (h : Nd W H l) : l ∈ permsOf (rngI (W * H)) := mem_permsOf _ _ (nd_perm h)
theorem nb_four (x : List Int) (d : Nat) (hd : 4 ≤ d) : nb W H x d = none := by
  unfold nb
  rw [if_neg (by omega)]
theorem nb_back {x : List Int} {d : Nat} {y : List Int} (hx : Nd W H x) (h : nb W H x d = some y) : Nd W H y ∧ nb W H y ((d + 2) % 4) = some x := by
  have hd : d < 4 := by
    refine Classical.byContradiction fun hd => ?_
    rw [nb_four hW0 hW hH0 hH h6 x d (by omega)] at h
    cases h
  have hb := (facts hW0 hW hH0 hH h6).2.2
  unfold back at hb
  have := List.all_eq_true.1 (List.all_eq_true.1 hb x (nd_mem hW0 hW hH0 hH h6 hx)) d (List.mem_range.2 hd)
  rw [h] at this
  simp only [Bool.and_eq_true, beq_iff_eq] at this
  exact ⟨ndB_iff.1 this.1, this.2⟩
theorem nb_nd : ∀ x d y, Nd W H x → nb W H x d = some y → Nd W H y := fun x d y hx h => (nb_back hW0 hW hH0 hH h6 hx h).1
theorem nb_rev : ∀ x d y, Nd W H x → nb W H x d = some y → ∃ c, nb W H y c = some x := fun x d y hx h => ⟨_, (nb_back hW0 hW hH0 hH h6 hx h).2⟩
theorem nd_few : ∀ l : List (List Int), l.Nodup → (∀ x ∈ l, Nd W H x) → l.length ≤ 262144 := by
  intro l hn hl
  have h1 : (l.map enc).Nodup := by
    rw [List.nodup_iff_pairwise_ne, List.pairwise_map]
    refine List.Pairwise.imp_of_mem ?_ (List.nodup_iff_pairwise_ne.1 hn)
    intro a b ha hb hab e
    exact hab (nd_inj hW0 hW hH0 hH h6 (hl a ha) (hl b hb) e)
  have := nodup_sub (l.map enc) (List.range 262144) h1 (fun x hx => by
    obtain ⟨y, hy, rfl⟩ := List.mem_map.1 hx
    refine List.mem_range.2 (Nat.lt_of_lt_of_le (enc_lt y (nd8 hW0 hW hH0 hH h6 (hl y hy))) ?_)
    rw [(hl y hy).1]
    exact Nat.pow_le_pow_right (by omega) h6)
  simpa using this
theorem solved_nd : Nd W H (solvedL (W * H)) := by
  have hv := List.all_eq_true.1 (List.all_eq_true.1 valid_all W (List.mem_range.2 hW)) H (List.mem_range.2 hH)
  obtain ⟨t, ht, _⟩ := (facts hW0 hW hH0 hH h6).1
  unfold valid at hv
  have h1 := List.all_eq_true.1 hv (enc (solvedL (W * H))) (by rw [ht]; exact List.mem_cons_self)
  simp only [Bool.and_eq_true] at h1
  have hn : 0 < W * H := Nat.mul_pos hW0 hH0
  have hl : (solvedL (W * H)).length = W * H := by
    unfold solvedL
    simp
    omega
  have h8 : ∀ x ∈ solvedL (W * H), 0 ≤ x ∧ x < 8 := by
    intro x hx
    unfold solvedL at hx
    rcases List.mem_append.1 hx with hx | hx
    · obtain ⟨i, hi, rfl⟩ := List.mem_map.1 hx
      have := List.mem_range.1 hi
      omega
    · obtain rfl := List.mem_singleton.1 hx
      omega
  have e := dec_enc (solvedL (W * H)) h8
  rw [hl] at e
  rw [e] at h1
  exact ndB_iff.1 h1.1
/-- The search from a board. -/
def sk (W H : Nat) (b : List Int) : List (SK.Ent (List Int)) := SK.loop (nb W H) 262145 0 [(b, [])]
theorem sk_full {b : List Int} (hb : Nd W H b) : SK.Full (nb W H) b (Nd W H) (sk W H b) :=
  SK.loop_full (nb_nd hW0 hW hH0 hH h6) (nb_four hW0 hW hH0 hH h6) (nd_few hW0 hW hH0 hH h6) 262145 0 _ (by omega) (SK.inv_start _ _ _ hb)
theorem linked_mem {F : List Int → Prop} (hF : ∀ x y d, Nd W H x → F y → nb W H x d = some y → F x) : ∀ (t cs : List Nat), (∀ c ∈ t, Nd W H (dec (W * H) c) ∧ enc (dec (W * H) c) = c) → linked W H cs t = true → (∀ c ∈ cs, ∃ l, Nd W H l ∧ enc l = c ∧ F l) → ∀ c ∈ t, F (dec (W * H) c)
  | [], _, _, _, _, _, h => by cases h
  | c :: t, cs, hv, hl, hc, c2, h2 => by
    unfold linked at hl
    rw [Bool.and_eq_true] at hl
    have hc0 : F (dec (W * H) c) := by
      obtain ⟨d, _, hd⟩ := List.any_eq_true.1 hl.1
      cases hy : nb W H (dec (W * H) c) d with
      | none => rw [hy] at hd; cases hd
      | some y =>
        rw [hy] at hd
        obtain ⟨l, h3, h4, h5⟩ := hc (enc y) (List.contains_iff_mem.1 hd)
        have hyn := nb_nd hW0 hW hH0 hH h6 _ _ _ (hv c List.mem_cons_self).1 hy
        obtain rfl := nd_inj hW0 hW hH0 hH h6 h3 hyn h4
        exact hF _ _ d (hv c List.mem_cons_self).1 h5 hy
    rcases List.mem_cons.1 h2 with rfl | h2
    · exact hc0
    · refine linked_mem hF t (c :: cs) (fun x hx => hv x (List.mem_cons_of_mem _ hx)) hl.2 (fun x hx => ?_) c2 h2
      rcases List.mem_cons.1 hx with rfl | hx
      · exact ⟨_, (hv x List.mem_cons_self).1, (hv x List.mem_cons_self).2, hc0⟩
      · exact hc x hx
/-- Which boards the search from the solved one finds. -/
theorem found_iff {l : List Int} (hl : Nd W H l) : l ∈ (sk W H (solvedL (W * H))).map (·.1) ↔ (codes W H).contains (enc l) = true := by
  have hg := solved_nd hW0 hW hH0 hH h6
  have hF := sk_full hW0 hW hH0 hH h6 hg
  obtain ⟨⟨t, ht, hlk⟩, hsh, _⟩ := facts hW0 hW hH0 hH h6
  constructor
  · intro hm
    obtain ⟨e, he, rfl⟩ := List.mem_map.1 hm
    have key : ∀ (p : List Nat) (x y : List Int), Nd W H x → (codes W H).contains (enc x) = true → SK.run (nb W H) x p = some y → (codes W H).contains (enc y) = true := by
      intro p
      induction p with
      | nil =>
        intro x y _ hx hr
        obtain rfl := Option.some.inj hr
        exact hx
      | cons d p ih =>
        intro x y hxn hx hr
        have hr : (nb W H x d).bind (fun z => SK.run (nb W H) z p) = some y := hr
        cases hz : nb W H x d with
        | none => rw [hz] at hr; cases hr
        | some z =>
          rw [hz] at hr
          have hd : d < 4 := by
            refine Classical.byContradiction fun hd => ?_
            rw [nb_four hW0 hW hH0 hH h6 x d (by omega)] at hz
            cases hz
          unfold shut at hsh
          have h1 := List.all_eq_true.1 (List.all_eq_true.1 hsh (enc x) (List.contains_iff_mem.1 hx)) d (List.mem_range.2 hd)
          rw [nd_dec hW0 hW hH0 hH h6 hxn, hz] at h1
          exact ih z y (nb_nd hW0 hW hH0 hH h6 _ _ _ hxn hz) h1 hr
    exact key e.2 _ _ hg (by rw [ht]; simp) (hF.runs e he)
  · intro hc
    have hv := List.all_eq_true.1 (List.all_eq_true.1 valid_all W (List.mem_range.2 hW)) H (List.mem_range.2 hH)
    unfold valid at hv
    have hv' : ∀ c ∈ codes W H, Nd W H (dec (W * H) c) ∧ enc (dec (W * H) c) = c := fun c hc => by
      have := List.all_eq_true.1 hv c hc
      simp only [Bool.and_eq_true, beq_iff_eq] at this
      exact ⟨ndB_iff.1 this.1, this.2⟩
    have hgm : solvedL (W * H) ∈ (sk W H (solvedL (W * H))).map (·.1) := List.mem_map.2 ⟨_, List.mem_of_getElem? hF.head, rfl⟩
    have step : ∀ x y d, Nd W H x → y ∈ (sk W H (solvedL (W * H))).map (·.1) → nb W H x d = some y → x ∈ (sk W H (solvedL (W * H))).map (·.1) := by
      intro x y d hx hy hn
      obtain ⟨c, hcc⟩ := nb_rev hW0 hW hH0 hH h6 _ _ _ hx hn
      obtain ⟨e, he, rfl⟩ := List.mem_map.1 hy
      obtain ⟨e2, h2, h3, _⟩ := hF.closed e he c x hcc
      exact List.mem_map.2 ⟨e2, h2, h3⟩
    have hmem := List.contains_iff_mem.1 hc
    rw [ht] at hmem
    rcases List.mem_cons.1 hmem with h1 | h1
    · rw [nd_inj hW0 hW hH0 hH h6 hl hg h1]
      exact hgm
    · have := linked_mem hW0 hW hH0 hH h6 (F := fun x => x ∈ (sk W H (solvedL (W * H))).map (·.1)) step t _ (fun c hc => hv' c (by rw [ht]; exact List.mem_cons_of_mem _ hc)) hlk (fun c hc => by
        obtain rfl := List.mem_singleton.1 hc
        exact ⟨_, hg, rfl, hgm⟩) _ h1
      rw [nd_dec hW0 hW hH0 hH h6 hl] at this
      exact this
end
end Go.Proofs.YtmplgijnmjdogaaDoorL
namespace Go.Proofs.YtmplgijnmjdogaaDoorL
open Go.RowKit Go.Proofs.YtmplgijnmjdogaaDoor.Q Go.Proofs.YtmplgijnmjdogaaDoorW.PrintWords Go.Proofs.YtmplgijnmjdogaaDoorW.PrintLast Go.Proofs.YtmplgijnmjdogaaDoorV
/-- A digit. -/
def dg (x : Int) : UInt8 := UInt8.ofNat (48 + x.toNat)
def one (b : UInt8) : ByteArray := ⟨#[b]⟩
/-- What stands before a cell. -/
def sepAt (w i : Nat) : List UInt8 := if i = 0 then [] else if i % w = 0 then [47] else [44]
def tx (w : Nat) (l : List Int) : Nat → List UInt8
  | 0 => []
  | i + 1 => tx w l i ++ sepAt w i ++ [dg (l.getD i 0)]
theorem tx_len (w : Nat) (l : List Int) : ∀ i, (tx w l i).length ≤ 2 * i
  | 0 => Nat.le_refl _
  | i + 1 => by
    have := tx_len w l i
    have hs : (sepAt w i).length ≤ 1 := by
      unfold sepAt
      split
      · exact Nat.zero_le _
      · split <;> exact Nat.le_refl _
    rw [tx, List.length_append, List.length_append, List.length_singleton]
    omega
def bts (l : List UInt8) : ByteArray := ⟨l.toArray⟩
theorem bytes_size (l : List UInt8) : (bts l).size = l.length := by
  show l.toArray.size = _
  simp
theorem bytes_app (a b : List UInt8) : bts a ++ bts b = bts (a ++ b) := by
  apply ByteArray.ext
  rw [ByteArray.data_append]
  simp [bts]
def lt (p : List Int) : List UInt8 := Lib.join (p.map fun x => [dg x]) [44]
theorem join_len (s : UInt8) : ∀ (xs : List (List UInt8)) (n : Nat), (∀ x ∈ xs, x.length ≤ n) → (Lib.join xs [s]).length ≤ (n + 1) * xs.length
  | [], n, _ => Nat.zero_le _
  | x :: r, n, h => by
    rw [Lib.join_cons]
    have h1 := h x (List.mem_cons_self ..)
    have : ∀ (r : List (List UInt8)), (∀ y ∈ r, y.length ≤ n) → (Lib.joinTail [s] r).length ≤ (n + 1) * r.length := by
      intro r
      induction r with
      | nil => exact fun _ => Nat.zero_le _
      | cons y r ih =>
        intro hr
        have h2 := hr y (List.mem_cons_self ..)
        have h3 := ih (fun z hz => hr z (List.mem_cons_of_mem _ hz))
        unfold Lib.joinTail at h3 ⊢
        simp only [List.map_cons, List.flatten_cons, List.length_append, List.length_cons, List.length_nil] at h3 ⊢
        rw [Nat.mul_add, Nat.mul_one]
        omega
    have h4 := this r (fun y hy => h y (List.mem_cons_of_mem _ hy))
    rw [List.length_append, List.length_cons, Nat.mul_add, Nat.mul_one]
    omega
theorem itoa_eq (x : Int) (h0 : 0 ≤ x) (h1 : x < 10) : strconv_Itoa_81.f x = some (bts [dg x]) := by
  rw [strconv_Itoa_81.f, if_pos h0, if_pos (by omega), Lib.decDigits, dif_pos (by omega)]
  rfl
theorem join_eq (rows : List (List UInt8)) (s : UInt8) (h1 : rows.length ≤ 100) (h2 : ∀ x ∈ rows, x.length ≤ 100) : strings_Join.f (rows.map bts) ⟨#[s]⟩ = some (bts (Lib.join rows [s])) := by
  have e : (rows.map bts).map (·.data.toList) = rows := by
    rw [List.map_map]
    conv => rhs; rw [← List.map_id rows]
    rfl
  have hlen := join_len s rows 100 h2
  have hb : (101) * rows.length ≤ 101 * 100 := Nat.mul_le_mul_left _ h1
  rw [strings_Join.f, e]
  have g1 : (rows.map bts).length ≤ 140737488355328 := by rw [List.length_map]; omega
  have g2 : (Lib.join rows (⟨#[s]⟩ : ByteArray).data.toList).length ≤ 140737488355328 := by
    show (Lib.join rows [s]).length ≤ _
    omega
  rw [if_pos g1, if_pos g2]
  rfl
theorem listText_eq (p : List Int) (hl : p.length ≤ 9) (hv : ∀ x ∈ p, 0 ≤ x ∧ x < 10) : Ev (fun k => impl_listText.f k p) (bts (lt p)) := by
  have key : ∀ (d i : Nat), p.length - i = d → i ≤ p.length → Ev (fun k => impl_listText.l0 k (((p.take i).map fun x => [dg x]).map bts) p (p.length : Int) (i : Int)) (bts (lt p)) := by
    intro d
    induction d with
    | zero =>
      intro i hd hi
      have e : i = p.length := by omega
      subst e
      have g : ¬ ((p.length : Int) < (p.length : Int)) := by omega
      have hj := join_eq (p.map fun x => [dg x]) 44 (by rw [List.length_map]; omega) (fun x hx => by obtain ⟨y, _, rfl⟩ := List.mem_map.1 hx; simp)
      rw [List.take_length]
      exact Ev.step (f := fun _ => some (bts (lt p))) (fun k => by rw [impl_listText.l0, if_neg g, hj]; rfl) (Ev.now _)
    | succ d ih =>
      intro i hd hi
      have hlt : i < p.length := by omega
      have h1 := ih (i + 1) (by omega) (by omega)
      have g : (i : Int) < (p.length : Int) := by omega
      have gi : (0 : Int) ≤ (i : Int) := by omega
      have e : wrap64 ((i : Int) + 1) = ((i + 1 : Nat) : Int) := wb (by omega) rfl
      have hx := hv p[i] (List.getElem_mem hlt)
      have gl : (((p.take i).map fun x => [dg x]).map bts).length < 8796093022208 := by rw [List.length_map, List.length_map, List.length_take]; omega
      rw [List.take_succ_eq_append_getElem hlt, List.map_append, List.map_append] at h1
      exact Ev.step (fun k => by rw [impl_listText.l0, if_pos g, if_pos gi, if_pos g, rd_at hlt, itoa_eq _ hx.1 hx.2, Option.bind_some, if_pos gl, e]; rfl) h1
  exact Ev.congr (fun k => rfl) (key p.length 0 rfl (Nat.zero_le _))
theorem mapO_ev {f : Nat → Nat → Option ByteArray} {T : Nat → ByteArray} : ∀ (n : Nat), (∀ j, j < n → Ev (fun k => f k j) (T j)) → Ev (fun k => mapO (f k) n) ((List.range n).map T)
  | 0, _ => Ev.now _
  | n + 1, h => by
    rw [List.range_succ, List.map_append]
    refine Ev.bind (f := fun k l => (f k n).bind fun x => some (l ++ [x])) (mapO_ev n (fun j hj => h j (by omega))) ?_
    exact Ev.bind (f := fun k x => some ((List.range n).map T ++ [x])) (h n (by omega)) (Ev.now _)
theorem rows_eq (W H : Nat) (l : List Int) (w0 : 1 ≤ W) (w1 : W ≤ 3) (h0 : 1 ≤ H) (h1 : H ≤ 3) (hlen : l.length = W * H) : nch W l.length = H ∧ Lib.join ((List.range H).map fun j => lt (btPiece W l j)) [47] = tx W l l.length := by
  have hW : W = 1 ∨ W = 2 ∨ W = 3 := by omega
  have hH : H = 1 ∨ H = 2 ∨ H = 3 := by omega
  rcases hW with rfl | rfl | rfl <;> rcases hH with rfl | rfl | rfl
  · match l, hlen with
    | [a], _ => exact ⟨by kernel_rfl, by kernel_rfl⟩
  · match l, hlen with
    | [a, b], _ => exact ⟨by kernel_rfl, by kernel_rfl⟩
  · match l, hlen with
    | [a, b, c], _ => exact ⟨by kernel_rfl, by kernel_rfl⟩
  · match l, hlen with
    | [a, b], _ => exact ⟨by kernel_rfl, by kernel_rfl⟩
  · match l, hlen with
    | [a, b, c, d], _ => exact ⟨by kernel_rfl, by kernel_rfl⟩
  · match l, hlen with
    | [a, b, c, d, e, f], _ => exact ⟨by kernel_rfl, by kernel_rfl⟩
  · match l, hlen with
    | [a, b, c], _ => exact ⟨by kernel_rfl, by kernel_rfl⟩
  · match l, hlen with
    | [a, b, c, d, e, f], _ => exact ⟨by kernel_rfl, by kernel_rfl⟩
  · match l, hlen with
    | [a, b, c, d, e, f, g, h, i], _ => exact ⟨by kernel_rfl, by kernel_rfl⟩
theorem boardText_eq (W H : Nat) (l : List Int) (w0 : 1 ≤ W) (w1 : W ≤ 3) (h0 : 1 ≤ H) (h1 : H ≤ 3) (hlen : l.length = W * H) (hv : ∀ x ∈ l, 0 ≤ x ∧ x < 10) : Ev (fun k => impl_boardText.f k (W : Int) l) (bts (tx W l l.length)) := by
  have h9 : W * H ≤ 3 * 3 := Nat.mul_le_mul w1 h1
  have hp : 0 < W * H := Nat.mul_pos w0 h0
  obtain ⟨hn, hr⟩ := rows_eq W H l w0 w1 h0 h1 hlen
  have g : (0 < (W : Int) ∧ (W : Int) ≤ 1000000) ∧ (0 < l.length ∧ l.length ≤ 1000000) := by omega
  have hT : Ev (fun k => mapO (fun j => impl_listText.f k (btPiece W l j)) H) ((List.range H).map fun j => bts (lt (btPiece W l j))) :=
    mapO_ev H (fun j _ => listText_eq _ (by rw [btPiece_len]; omega) (fun x hx => hv x (List.mem_of_mem_drop (List.mem_of_mem_take hx))))
  have hj := join_eq ((List.range H).map fun j => lt (btPiece W l j)) 47 (by rw [List.length_map, List.length_range]; omega) (fun x hx => by
    obtain ⟨j, _, rfl⟩ := List.mem_map.1 hx
    have := join_len 44 ((btPiece W l j).map fun x => [dg x]) 1 (fun y hy => by obtain ⟨z, _, rfl⟩ := List.mem_map.1 hy; simp)
    rw [List.length_map, btPiece_len] at this
    unfold lt
    omega)
  rw [List.map_map, hr] at hj
  refine Ev.congr (f := fun k => (mapO (fun j => impl_listText.f k (btPiece W l j)) H).bind fun rows => strings_Join.f rows ⟨#[47]⟩) (fun k => ?_) (Ev.bind hT ⟨0, fun k _ => hj⟩)
  rw [impl_boardText.f, if_pos g, Int.toNat_natCast, hn]
theorem dg_inj {x y : Int} (hx : 0 ≤ x ∧ x < 10) (hy : 0 ≤ y ∧ y < 10) (h : dg x = dg y) : x = y := by
  unfold dg at h
  have := congrArg UInt8.toNat h
  rw [UInt8.toNat_ofNat', UInt8.toNat_ofNat'] at this
  omega
theorem tx_inj (w : Nat) (l m : List Int) (hl : ∀ x ∈ l, 0 ≤ x ∧ x < 10) (hm : ∀ x ∈ m, 0 ≤ x ∧ x < 10) : ∀ i, i ≤ l.length → i ≤ m.length → tx w l i = tx w m i → l.take i = m.take i
  | 0, _, _, _ => rfl
  | i + 1, h1, h2, h => by
    rw [tx, tx] at h
    have h3 := List.append_inj' h rfl
    have h4 := List.append_cancel_right h3.1
    have e1 := tx_inj w l m hl hm i (by omega) (by omega) h4
    have e2 : dg (l.getD i 0) = dg (m.getD i 0) := by simpa using h3.2
    have g1 : l.getD i 0 = l[i] := by rw [List.getD_eq_getElem?_getD, List.getElem?_eq_getElem (by omega)]; rfl
    have g2 : m.getD i 0 = m[i] := by rw [List.getD_eq_getElem?_getD, List.getElem?_eq_getElem (by omega)]; rfl
    rw [g1, g2] at e2
    rw [List.take_succ_eq_append_getElem (by omega), List.take_succ_eq_append_getElem (by omega), e1, dg_inj (hl _ (List.getElem_mem (by omega))) (hm _ (List.getElem_mem (by omega))) e2]
theorem text_inj (w : Nat) {l m : List Int} (hl : ∀ x ∈ l, 0 ≤ x ∧ x < 10) (hm : ∀ x ∈ m, 0 ≤ x ∧ x < 10) (hlen : l.length = m.length) (h : bts (tx w l l.length) = bts (tx w m m.length)) : l = m := by
  have h2 : tx w l l.length = tx w m m.length := by
    have := congrArg (fun b : ByteArray => b.data.toList) h
    simpa [bts] using this
  rw [← hlen] at h2
  have := tx_inj w l m hl hm l.length (Nat.le_refl _) (by omega) h2
  rw [List.take_length, hlen, List.take_length] at this
  exact this
end Go.Proofs.YtmplgijnmjdogaaDoorL
namespace Go.Proofs.YtmplgijnmjdogaaDoorL
open Go.RowKit Go.Proofs.YtmplgijnmjdogaaDoor.Q Go.Proofs.YtmplgijnmjdogaaDoorW.PrintWords Go.Proofs.YtmplgijnmjdogaaDoorW.PrintLast Go.Proofs.YtmplgijnmjdogaaDoorV Go.Proofs.YtmplgijnmjdogaaDoorM
/-- A word's bytes. -/
def wbs (p : List Nat) : ByteArray := bts (p.map fun d => UInt8.ofNat (dirC d).toNat)
theorem wb_snoc (p : List Nat) (d : Nat) : wbs p ++ SE.one (dirC d) = wbs (p ++ [d]) := by
  show bts _ ++ bts [UInt8.ofNat (dirC d).toNat] = _
  rw [bytes_app]
  unfold wbs
  rw [List.map_append, List.map_singleton]
def txt (W : Nat) (l : List Int) : ByteArray := bts (tx W l l.length)
def ie (W : Nat) (e : SK.Ent (List Int)) : SE.Ent := (e.1, wbs e.2, txt W e.1)
def mvk (W k : Nat) : SE.Mv := fun l d => impl_Board_moved.f k (W : Int) l d
def txk (W k : Nat) : List Int → Option ByteArray := fun l => impl_boardText.f k (W : Int) l
theorem ev_shift {α : Type} {g : Nat → Option α} {r : α} (h : Ev g r) (c : Nat) : Ev (fun k => g (k + c)) r := by
  obtain ⟨K, hK⟩ := h
  exact ⟨K, fun k hk => hK (k + c) (by omega)⟩
section
variable {W H : Nat} (hW0 : 0 < W) (hW : W < 4) (hH0 : 0 < H) (hH : H < 4) (h6 : W * H ≤ 6)
include hW0 hW hH0 hH h6
theorem nd_cells {l : List Int} (h : Nd W H l) : Cells W H l := ⟨h.1, h.2 0 (Nat.mul_pos hW0 hH0)⟩
theorem nd10 {l : List Int} (h : Nd W H l) : ∀ x ∈ l, 0 ≤ x ∧ x < 10 := fun x hx => by
  have := nd_vals h x hx
  omega
theorem txt_inj {l m : List Int} (hl : Nd W H l) (hm : Nd W H m) (h : txt W l = txt W m) : l = m :=
  text_inj W (nd10 hW0 hW hH0 hH h6 hl) (nd10 hW0 hW hH0 hH h6 hm) (by rw [hl.1, hm.1]) h
theorem txt_ev {l : List Int} (h : Nd W H l) : Ev (fun k => txk W k l) (txt W l) := boardText_eq W H l hW0 (by omega) hH0 (by omega) h.1 (nd10 hW0 hW hH0 hH h6 h)
theorem txt_size {l : List Int} (h : Nd W H l) : (txt W l).size ≤ 1000000 := by
  unfold txt
  rw [bytes_size]
  have := tx_len W l l.length
  have := h.1
  omega
theorem look_nd {t : List (SK.Ent (List Int))} (ht : ∀ e ∈ t, Nd W H e.1) {x : List Int} (hx : Nd W H x) (p : List Nat) (d : Nat) : ∀ e ∈ SK.look (nb W H) x p t d, Nd W H e.1 := by
  unfold SK.look
  cases hy : nb W H x d with
  | none => exact ht
  | some y =>
    intro e he
    dsimp only at he
    split at he
    · exact ht e he
    · rcases List.mem_append.1 he with he | he
      · exact ht e he
      · obtain rfl := List.mem_singleton.1 he
        exact nb_nd hW0 hW hH0 hH h6 _ _ _ hx hy
theorem has_iff {t : List (SK.Ent (List Int))} (ht : ∀ e ∈ t, Nd W H e.1) {y : List Int} (hy : Nd W H y) : RB.hasB ((t.map (ie W)).map fun e => e.2.2) (txt W y) = decide (y ∈ t.map (·.1)) := by
  by_cases h : y ∈ t.map (·.1)
  · rw [decide_eq_true h]
    obtain ⟨e, he, rfl⟩ := List.mem_map.1 h
    exact (RB.hasB_iff _ _).2 (List.mem_map.2 ⟨_, List.mem_map.2 ⟨e, he, rfl⟩, rfl⟩)
  · rw [decide_eq_false h]
    refine Bool.eq_false_iff.2 (fun h2 => h ?_)
    obtain ⟨e2, h3, h4⟩ := List.mem_map.1 ((RB.hasB_iff _ _).1 h2)
    obtain ⟨e, he, rfl⟩ := List.mem_map.1 h3
    have := txt_inj hW0 hW hH0 hH h6 (ht e he) hy h4
    exact List.mem_map.2 ⟨e, he, this⟩
theorem ilook {t : List (SK.Ent (List Int))} (ht : ∀ e ∈ t, Nd W H e.1) {e : SK.Ent (List Int)} (he : Nd W H e.1) {d : Nat} (hd : d < 4) :
    Ev (fun k => SE.lk (mvk W k) (txk W k) (W : Int) (ie W e) (dirC d) (t.map (ie W))) ((SK.look (nb W H) e.1 e.2 t d).map (ie W)) := by
  rcases step_nb hW0 hW hH (nd_cells hW0 hW hH0 hH h6 he) d hd with ⟨z, hz, hn, _, hI⟩ | ⟨z, M, hz, hn, _, _, hI⟩
  · have e1 : SK.look (nb W H) e.1 e.2 t d = t := by unfold SK.look; rw [hn]
    rw [e1]
    refine Ev.congr (fun k => rfl) ?_
    exact Ev.bind (f := fun k (r : Int × List Int × Bool) => if r.2.2 = true then (if r.1 = (W : Int) then (txk W k r.2.1).bind fun t_1 => if t_1.size ≤ 1000000 then (if RB.hasB ((t.map (ie W)).map (·.2.2)) t_1 = true then some (t.map (ie W)) else some (t.map (ie W) ++ [(r.2.1, (ie W e).2.1 ++ SE.one (dirC d), t_1)])) else none else none) else some (t.map (ie W))) hI (Ev.now _)
  · have hM := nb_nd hW0 hW hH0 hH h6 _ _ _ he hn
    refine Ev.congr (fun k => rfl) ?_
    refine Ev.bind (f := fun k (r : Int × List Int × Bool) => if r.2.2 = true then (if r.1 = (W : Int) then (txk W k r.2.1).bind fun t_1 => if t_1.size ≤ 1000000 then (if RB.hasB ((t.map (ie W)).map (·.2.2)) t_1 = true then some (t.map (ie W)) else some (t.map (ie W) ++ [(r.2.1, (ie W e).2.1 ++ SE.one (dirC d), t_1)])) else none else none) else some (t.map (ie W))) hI ?_
    refine Ev.congr (f := fun k => (txk W k M).bind fun t_1 => if t_1.size ≤ 1000000 then (if RB.hasB ((t.map (ie W)).map (·.2.2)) t_1 = true then some (t.map (ie W)) else some (t.map (ie W) ++ [(M, (ie W e).2.1 ++ SE.one (dirC d), t_1)])) else none) (fun k => by rw [if_pos rfl, if_pos rfl]) (Ev.bind (txt_ev hW0 hW hH0 hH h6 hM) ⟨0, fun k _ => ?_⟩)
    rw [if_pos (txt_size hW0 hW hH0 hH h6 hM), has_iff hW0 hW hH0 hH h6 ht hM]
    unfold SK.look
    rw [hn]
    by_cases hm : M ∈ t.map (·.1)
    · rw [if_pos (decide_eq_true hm)]
      dsimp only
      rw [if_pos hm]
    · rw [if_neg (by rw [decide_eq_false hm]; decide)]
      dsimp only
      rw [if_neg hm, List.map_append, List.map_singleton]
      show some (t.map (ie W) ++ [(M, wbs e.2 ++ SE.one (dirC d), txt W M)]) = some (t.map (ie W) ++ [(M, wbs (e.2 ++ [d]), txt W M)])
      rw [wb_snoc]
theorem ilayer {t : List (SK.Ent (List Int))} (ht : ∀ e ∈ t, Nd W H e.1) {e : SK.Ent (List Int)} (he : Nd W H e.1) :
    Ev (fun k => SE.lks (mvk W k) (txk W k) (W : Int) (ie W e) SE.dirsI (t.map (ie W))) ((SK.layer (nb W H) t e).map (ie W)) := by
  have n1 := look_nd hW0 hW hH0 hH h6 ht he e.2 0
  have n2 := look_nd hW0 hW hH0 hH h6 n1 he e.2 1
  have n3 := look_nd hW0 hW hH0 hH h6 n2 he e.2 2
  have L0 := ilook hW0 hW hH0 hH h6 ht he (d := 0) (by omega)
  have L1 := ilook hW0 hW hH0 hH h6 n1 he (d := 1) (by omega)
  have L2 := ilook hW0 hW hH0 hH h6 n2 he (d := 2) (by omega)
  have L3 := ilook hW0 hW hH0 hH h6 n3 he (d := 3) (by omega)
  exact Ev.bind (f := fun k s => SE.lks (mvk W k) (txk W k) (W : Int) (ie W e) [114, 100, 108] s) L0 (Ev.bind (f := fun k s => SE.lks (mvk W k) (txk W k) (W : Int) (ie W e) [100, 108] s) L1 (Ev.bind (f := fun k s => SE.lks (mvk W k) (txk W k) (W : Int) (ie W e) [108] s) L2 (Ev.bind (f := fun k s => SE.lks (mvk W k) (txk W k) (W : Int) (ie W e) [] s) L3 (Ev.now _))))
theorem iloop {b : List Int} : ∀ (m i : Nat) (t : List (SK.Ent (List Int))), 262144 < m + i → SK.Inv (nb W H) b (Nd W H) i 0 t → ∀ c, Ev (fun k => SE.loopF (mvk W (k + c)) (txk W (k + c)) (W : Int) k i (t.map (ie W))) ((SK.loop (nb W H) m i t).map (ie W))
  | 0, i, t, hm, hI, c => by
    have hlen : t.length ≤ 262144 := by
      have := nd_few hW0 hW hH0 hH h6 _ hI.nodup (fun x hx => by obtain ⟨e, he, rfl⟩ := List.mem_map.1 hx; exact hI.ok e he)
      simpa using this
    refine Ev.step (f := fun _ => some (t.map (ie W))) (fun k => ?_) (Ev.now _)
    rw [SE.loopF, List.getElem?_map, List.getElem?_eq_none (by omega)]
    rfl
  | m + 1, i, t, hm, hI, c => by
    by_cases hi : i < t.length
    · have e1 : SK.loop (nb W H) (m + 1) i t = SK.loop (nb W H) m (i + 1) (SK.layer (nb W H) t t[i]) := by rw [SK.loop, dif_pos hi]
      rw [e1]
      have hge : t[i]? = some t[i] := List.getElem?_eq_getElem hi
      have ih := iloop m (i + 1) (SK.layer (nb W H) t t[i]) (by omega) (SK.inv_layer (nb_nd hW0 hW hH0 hH h6) (nb_four hW0 hW hH0 hH h6) hge hI) (c + 1)
      have hl := ev_shift (ilayer hW0 hW hH0 hH h6 hI.ok (hI.ok t[i] (List.getElem_mem hi))) (c + 1)
      refine Ev.step (f := fun k => (SE.lks (mvk W (k + (c + 1))) (txk W (k + (c + 1))) (W : Int) (ie W t[i]) SE.dirsI (t.map (ie W))).bind (SE.loopF (mvk W (k + (c + 1))) (txk W (k + (c + 1))) (W : Int) k (i + 1))) (fun k => ?_) (Ev.bind (f := fun k s => SE.loopF (mvk W (k + (c + 1))) (txk W (k + (c + 1))) (W : Int) k (i + 1) s) hl ih)
      rw [SE.loopF, List.getElem?_map, hge, show k + 1 + c = k + (c + 1) by omega]
      rfl
    · have e1 : SK.loop (nb W H) (m + 1) i t = t := by rw [SK.loop, dif_neg hi]
      rw [e1]
      refine Ev.step (f := fun _ => some (t.map (ie W))) (fun k => ?_) (Ev.now _)
      rw [SE.loopF, List.getElem?_map, List.getElem?_eq_none (by omega)]
      rfl
/-- The program's search. -/
theorem srch_ev {b : List Int} (hb : Nd W H b) : Ev (fun k => SE.srch (mvk W k) (txk W k) (W : Int) k b) ((sk W H b).map (ie W)) := by
  refine Ev.bind (f := fun k t => if t.size ≤ 1000000 then SE.loopF (mvk W k) (txk W k) (W : Int) k 0 [(b, ByteArray.empty, t)] else none) (txt_ev hW0 hW hH0 hH h6 hb) ?_
  refine Ev.congr (f := fun k => SE.loopF (mvk W (k + 0)) (txk W (k + 0)) (W : Int) k 0 (([(b, [])] : List (SK.Ent (List Int))).map (ie W))) (fun k => ?_) (iloop hW0 hW hH0 hH h6 262145 0 [(b, [])] (by omega) (SK.inv_start _ _ _ hb) 0)
  rw [if_pos (txt_size hW0 hW hH0 hH h6 hb)]
  rfl
end
end Go.Proofs.YtmplgijnmjdogaaDoorL
namespace Go.Proofs.YtmplgijnmjdogaaDoorL
open Go.RowKit Go.Proofs.YtmplgijnmjdogaaDoor.Q Go.Proofs.YtmplgijnmjdogaaDoorW.PrintWords Go.Proofs.YtmplgijnmjdogaaDoorW.PrintLast Go.Proofs.YtmplgijnmjdogaaDoorV Go.Proofs.YtmplgijnmjdogaaDoorM
def rk9 : List Int → Int → Int
  | [], a => a
  | x :: t, a => rk9 t (9 * a + x)
theorem rk9_inj : ∀ (l m : List Int) (a b : Int), l.length = m.length → (∀ x ∈ l, 0 ≤ x ∧ x < 9) → (∀ x ∈ m, 0 ≤ x ∧ x < 9) → rk9 l a = rk9 m b → a = b ∧ l = m
  | [], [], a, b, _, _, _, h => ⟨h, rfl⟩
  | [], _ :: _, _, _, h, _, _, _ => by simp at h
  | _ :: _, [], _, _, h, _, _, _ => by simp at h
  | x :: t, y :: u, a, b, hl, hx, hy, h => by
    have h1 := hx x List.mem_cons_self
    have h2 := hy y List.mem_cons_self
    obtain ⟨e1, e2⟩ := rk9_inj t u (9 * a + x) (9 * b + y) (by simpa using hl) (fun z hz => hx z (List.mem_cons_of_mem _ hz)) (fun z hz => hy z (List.mem_cons_of_mem _ hz)) h
    have e3 : a = b := by omega
    have e4 : x = y := by omega
    exact ⟨e3, by rw [e4, e2]⟩
theorem rank_l0 (l : List Int) (hl : l.length ≤ 6) (hv : ∀ x ∈ l, 0 ≤ x ∧ x < 9) : ∀ (d i : Nat) (a : Int), l.length - i = d → i ≤ l.length → 0 ≤ a → a < 9 ^ i → Ev (fun k => spec_blRank.l0 k a l (l.length : Int) (i : Int)) (rk9 (l.drop i) a) := by
  intro d
  induction d with
  | zero =>
    intro i a hd hi ha _
    have e : i = l.length := by omega
    subst e
    rw [List.drop_length]
    exact Ev.step (f := fun _ => some a) (fun k => by rw [spec_blRank.l0, if_neg (by omega)]) (Ev.now _)
  | succ d ih =>
    intro i a hd hi ha hb
    have hlt : i < l.length := by omega
    have hx := hv l[i] (List.getElem_mem hlt)
    have h9 : (9 : Int) ^ i ≤ 9 ^ 5 := by
      have : (9 : Nat) ^ i ≤ 9 ^ 5 := Nat.pow_le_pow_right (by omega) (by omega)
      exact_mod_cast this
    have h95 : (9 : Int) ^ 5 = 59049 := by decide
    have e1 : wrap64 (9 * a) = 9 * a := wrB (by omega) (by omega)
    have e2 : wrap64 (9 * a + l[i]) = 9 * a + l[i] := wrB (by omega) (by omega)
    have e3 : wrap64 ((i : Int) + 1) = ((i + 1 : Nat) : Int) := wb (by omega) (by omega)
    have hb2 : 9 * a + l[i] < 9 ^ (i + 1) := by
      rw [Int.pow_succ]
      omega
    rw [List.drop_eq_getElem_cons hlt]
    refine Ev.step (f := fun k => spec_blRank.l0 k (9 * a + l[i]) l (l.length : Int) ((i + 1 : Nat) : Int)) (fun k => ?_) (ih (i + 1) (9 * a + l[i]) (by omega) (by omega) (by omega) hb2)
    rw [spec_blRank.l0, if_pos (by omega), if_pos (by omega), if_pos (by omega), rd_at hlt, e1, e2, e3]
theorem rank_ev (w : Int) (l : List Int) (hl : l.length ≤ 6) (hv : ∀ x ∈ l, 0 ≤ x ∧ x < 9) : Ev (fun k => spec_blRank.f k w l) (rk9 l 0) :=
  Ev.congr (fun k => rfl) (rank_l0 l hl hv l.length 0 0 (by omega) (by omega) (by omega) (by decide))
def sn (e : SK.Ent (List Int)) : BA.Nd := (e.1, (e.2.length : Int))
def rks (t : List (SK.Ent (List Int))) : List Int := t.map fun e => rk9 e.1 0
section
variable {W H : Nat} (hW0 : 0 < W) (hW : W < 4) (hH0 : 0 < H) (hH : H < 4) (h6 : W * H ≤ 6)
include hW0 hW hH0 hH h6
theorem nd9 {l : List Int} (h : Nd W H l) : ∀ x ∈ l, 0 ≤ x ∧ x < 9 := fun x hx => by
  have := nd_vals h x hx
  omega
theorem rk_ev {l : List Int} (h : Nd W H l) : Ev (fun k => (spec_blAll.F k (W : Int)).rk l) (rk9 l 0) := rank_ev (W : Int) l (by rw [h.1]; exact h6) (nd9 hW0 hW hH0 hH h6 h)
theorem rk_iff {t : List (SK.Ent (List Int))} (ht : ∀ e ∈ t, Nd W H e.1) {y : List Int} (hy : Nd W H y) : (rks t).contains (rk9 y 0) = decide (y ∈ t.map (·.1)) := by
  by_cases h : y ∈ t.map (·.1)
  · rw [decide_eq_true h]
    obtain ⟨e, he, rfl⟩ := List.mem_map.1 h
    exact List.contains_iff_mem.2 (List.mem_map.2 ⟨e, he, rfl⟩)
  · rw [decide_eq_false h]
    refine Bool.eq_false_iff.2 (fun h2 => h ?_)
    obtain ⟨e, he, h4⟩ := List.mem_map.1 (List.contains_iff_mem.1 h2)
    have := (rk9_inj _ _ _ _ (by rw [(ht e he).1, hy.1]) (nd9 hW0 hW hH0 hH h6 (ht e he)) (nd9 hW0 hW hH0 hH h6 hy) h4).2
    exact List.mem_map.2 ⟨e, he, this⟩
/-- What the search's list keeps: boards; words no longer than the list. -/
def Ok (W H : Nat) (t : List (SK.Ent (List Int))) : Prop := (∀ e ∈ t, Nd W H e.1) ∧ ∀ e ∈ t, e.2.length ≤ t.length
theorem look_ok {t : List (SK.Ent (List Int))} (ht : Ok W H t) {e : SK.Ent (List Int)} (he : e ∈ t) (d : Nat) : Ok W H (SK.look (nb W H) e.1 e.2 t d) ∧ e ∈ SK.look (nb W H) e.1 e.2 t d := by
  refine ⟨⟨look_nd hW0 hW hH0 hH h6 ht.1 (ht.1 e he) e.2 d, ?_⟩, ?_⟩
  · unfold SK.look
    cases nb W H e.1 d with
    | none => exact ht.2
    | some y =>
      dsimp only
      by_cases hm : y ∈ t.map (·.1)
      · rw [if_pos hm]
        exact ht.2
      · rw [if_neg hm]
        intro x hx
        rw [List.length_append, List.length_singleton]
        rcases List.mem_append.1 hx with hx | hx
        · have := ht.2 x hx
          omega
        · obtain rfl := List.mem_singleton.1 hx
          have := ht.2 e he
          simp
          omega
  · unfold SK.look
    cases nb W H e.1 d with
    | none => exact he
    | some y =>
      dsimp only
      by_cases hm : y ∈ t.map (·.1)
      · rw [if_pos hm]
        exact he
      · rw [if_neg hm]
        exact List.mem_append_left _ he
theorem slook {t : List (SK.Ent (List Int))} (ht : Ok W H t) (hlen : t.length ≤ 270000) {e : SK.Ent (List Int)} (he : e ∈ t) {d : Nat} (hd : d < 4) :
    Ev (fun k => BA.lk (spec_blAll.F k (W : Int)) (W : Int) (sn e) (d : Int) (t.map sn, rks t)) ((SK.look (nb W H) e.1 e.2 t d).map sn, rks (SK.look (nb W H) e.1 e.2 t d)) := by
  have hen := ht.1 e he
  rcases step_nb hW0 hW hH (nd_cells hW0 hW hH0 hH h6 hen) d hd with ⟨z, hz, hn, hA, _⟩ | ⟨z, M, hz, hn, hA, hM, _⟩
  · have e1 : SK.look (nb W H) e.1 e.2 t d = t := by unfold SK.look; rw [hn]
    rw [e1]
    refine Ev.congr (fun k => rfl) (Ev.bind (g := fun k => (spec_blAll.F k (W : Int)).ah e.1 (d : Int)) (f := fun k t_1 => if t_1 < 0 then some (t.map sn, rks t) else ((spec_blAll.F k (W : Int)).mv e.1 (d : Int)).bind fun r => if r.1 = (W : Int) then ((spec_blAll.F k (W : Int)).rk r.2).bind fun q => ((spec_blAll.F k (W : Int)).ha (rks t) q).bind fun b => if b = true then some (t.map sn, rks t) else some (t.map sn ++ [(r.2, wrap64 ((e.2.length : Int) + 1))], rks t ++ [q]) else none) hA ⟨0, fun k _ => if_pos hz⟩)
  · have hMn := nb_nd hW0 hW hH0 hH h6 _ _ _ hen hn
    have hel := ht.2 e he
    have ew : wrap64 ((e.2.length : Int) + 1) = ((e.2.length + 1 : Nat) : Int) := wb (by omega) (by omega)
    have hH1 : Ev (fun k => (spec_blAll.F k (W : Int)).ha (rks t) (rk9 M 0)) ((rks t).contains (rk9 M 0)) := l1Has_eq (rks t) (rk9 M 0) (by unfold rks; rw [List.length_map]; omega)
    refine Ev.congr (fun k => rfl) (Ev.bind (g := fun k => (spec_blAll.F k (W : Int)).ah e.1 (d : Int)) (f := fun k t_1 => if t_1 < 0 then some (t.map sn, rks t) else ((spec_blAll.F k (W : Int)).mv e.1 (d : Int)).bind fun r => if r.1 = (W : Int) then ((spec_blAll.F k (W : Int)).rk r.2).bind fun q => ((spec_blAll.F k (W : Int)).ha (rks t) q).bind fun b => if b = true then some (t.map sn, rks t) else some (t.map sn ++ [(r.2, wrap64 ((e.2.length : Int) + 1))], rks t ++ [q]) else none) hA ?_)
    refine Ev.congr (f := fun k => ((spec_blAll.F k (W : Int)).mv e.1 (d : Int)).bind fun r => if r.1 = (W : Int) then ((spec_blAll.F k (W : Int)).rk r.2).bind fun q => ((spec_blAll.F k (W : Int)).ha (rks t) q).bind fun b => if b = true then some (t.map sn, rks t) else some (t.map sn ++ [(r.2, wrap64 ((e.2.length : Int) + 1))], rks t ++ [q]) else none) (fun k => if_neg hz) (Ev.bind (g := fun k => (spec_blAll.F k (W : Int)).mv e.1 (d : Int)) (f := fun k (r : Int × List Int) => if r.1 = (W : Int) then ((spec_blAll.F k (W : Int)).rk r.2).bind fun q => ((spec_blAll.F k (W : Int)).ha (rks t) q).bind fun b => if b = true then some (t.map sn, rks t) else some (t.map sn ++ [(r.2, wrap64 ((e.2.length : Int) + 1))], rks t ++ [q]) else none) hM ?_)
    refine Ev.congr (f := fun k => ((spec_blAll.F k (W : Int)).rk M).bind fun q => ((spec_blAll.F k (W : Int)).ha (rks t) q).bind fun b => if b = true then some (t.map sn, rks t) else some (t.map sn ++ [(M, wrap64 ((e.2.length : Int) + 1))], rks t ++ [q])) (fun k => if_pos rfl) (Ev.bind (g := fun k => (spec_blAll.F k (W : Int)).rk M) (f := fun k q => ((spec_blAll.F k (W : Int)).ha (rks t) q).bind fun b => if b = true then some (t.map sn, rks t) else some (t.map sn ++ [(M, wrap64 ((e.2.length : Int) + 1))], rks t ++ [q])) (rk_ev hW0 hW hH0 hH h6 hMn) (Ev.bind (f := fun k b => if b = true then some (t.map sn, rks t) else some (t.map sn ++ [(M, wrap64 ((e.2.length : Int) + 1))], rks t ++ [rk9 M 0])) hH1 ⟨0, fun k _ => ?_⟩))
    rw [rk_iff hW0 hW hH0 hH h6 ht.1 hMn, ew]
    unfold SK.look
    rw [hn]
    by_cases hm : M ∈ t.map (·.1)
    · rw [if_pos (decide_eq_true hm)]
      dsimp only
      rw [if_pos hm]
    · rw [if_neg (by rw [decide_eq_false hm]; decide)]
      dsimp only
      rw [if_neg hm]
      unfold rks
      rw [List.map_append, List.map_singleton, List.map_append, List.map_singleton]
      have : sn (M, e.2 ++ [d]) = (M, ((e.2.length + 1 : Nat) : Int)) := by
        unfold sn
        rw [List.length_append, List.length_singleton]
      rw [this]
theorem slayer {t : List (SK.Ent (List Int))} (ht : Ok W H t) (hlen : t.length ≤ 262144) {e : SK.Ent (List Int)} (he : e ∈ t) :
    Ev (fun k => BA.lks (spec_blAll.F k (W : Int)) (W : Int) (sn e) BA.dirsN (t.map sn, rks t)) ((SK.layer (nb W H) t e).map sn, rks (SK.layer (nb W H) t e)) := by
  have ll : ∀ (t : List (SK.Ent (List Int))) (d : Nat), (SK.look (nb W H) e.1 e.2 t d).length ≤ t.length + 1 := fun t d => by
    unfold SK.look
    cases nb W H e.1 d with
    | none => exact Nat.le_succ _
    | some y =>
      dsimp only
      split
      · exact Nat.le_succ _
      · simp
  obtain ⟨o1, m1⟩ := look_ok hW0 hW hH0 hH h6 ht he 0
  obtain ⟨o2, m2⟩ := look_ok hW0 hW hH0 hH h6 o1 m1 1
  obtain ⟨o3, m3⟩ := look_ok hW0 hW hH0 hH h6 o2 m2 2
  have l1 := ll t 0
  have l2 := ll (SK.look (nb W H) e.1 e.2 t 0) 1
  have l3 := ll (SK.look (nb W H) e.1 e.2 (SK.look (nb W H) e.1 e.2 t 0) 1) 2
  have L0 := slook hW0 hW hH0 hH h6 ht (by omega) he (d := 0) (by omega)
  have L1 := slook hW0 hW hH0 hH h6 o1 (by omega) m1 (d := 1) (by omega)
  have L2 := slook hW0 hW hH0 hH h6 o2 (by omega) m2 (d := 2) (by omega)
  have L3 := slook hW0 hW hH0 hH h6 o3 (by omega) m3 (d := 3) (by omega)
  exact Ev.bind (f := fun k s => BA.lks (spec_blAll.F k (W : Int)) (W : Int) (sn e) [1, 2, 3] s) L0 (Ev.bind (f := fun k s => BA.lks (spec_blAll.F k (W : Int)) (W : Int) (sn e) [2, 3] s) L1 (Ev.bind (f := fun k s => BA.lks (spec_blAll.F k (W : Int)) (W : Int) (sn e) [3] s) L2 (Ev.bind (f := fun k s => BA.lks (spec_blAll.F k (W : Int)) (W : Int) (sn e) [] s) L3 (Ev.now _))))
theorem layer_ok {t : List (SK.Ent (List Int))} (ht : Ok W H t) {e : SK.Ent (List Int)} (he : e ∈ t) : Ok W H (SK.layer (nb W H) t e) := by
  obtain ⟨o1, m1⟩ := look_ok hW0 hW hH0 hH h6 ht he 0
  obtain ⟨o2, m2⟩ := look_ok hW0 hW hH0 hH h6 o1 m1 1
  obtain ⟨o3, m3⟩ := look_ok hW0 hW hH0 hH h6 o2 m2 2
  exact (look_ok hW0 hW hH0 hH h6 o3 m3 3).1
theorem sloop {b : List Int} : ∀ (m i : Nat) (t : List (SK.Ent (List Int))), 262144 < m + i → SK.Inv (nb W H) b (Nd W H) i 0 t → Ok W H t → ∀ c, Ev (fun k => BA.loopF (spec_blAll.F (k + c) (W : Int)) (W : Int) k i (t.map sn, rks t)) ((SK.loop (nb W H) m i t).map sn)
  | 0, i, t, hm, hI, hO, c => by
    have hlen : t.length ≤ 262144 := by
      have := nd_few hW0 hW hH0 hH h6 _ hI.nodup (fun x hx => by obtain ⟨e, he, rfl⟩ := List.mem_map.1 hx; exact hI.ok e he)
      simpa using this
    refine Ev.step (f := fun _ => some (t.map sn)) (fun k => ?_) (Ev.now _)
    rw [BA.loopF, List.getElem?_map, List.getElem?_eq_none (by omega)]
    rfl
  | m + 1, i, t, hm, hI, hO, c => by
    have hlen : t.length ≤ 262144 := by
      have := nd_few hW0 hW hH0 hH h6 _ hI.nodup (fun x hx => by obtain ⟨e, he, rfl⟩ := List.mem_map.1 hx; exact hI.ok e he)
      simpa using this
    by_cases hi : i < t.length
    · have e1 : SK.loop (nb W H) (m + 1) i t = SK.loop (nb W H) m (i + 1) (SK.layer (nb W H) t t[i]) := by rw [SK.loop, dif_pos hi]
      rw [e1]
      have hge : t[i]? = some t[i] := List.getElem?_eq_getElem hi
      have ih := sloop m (i + 1) (SK.layer (nb W H) t t[i]) (by omega) (SK.inv_layer (nb_nd hW0 hW hH0 hH h6) (nb_four hW0 hW hH0 hH h6) hge hI) (layer_ok hW0 hW hH0 hH h6 hO (List.getElem_mem hi)) (c + 1)
      have hl := ev_shift (slayer hW0 hW hH0 hH h6 hO hlen (List.getElem_mem hi)) (c + 1)
      refine Ev.step (f := fun k => (BA.lks (spec_blAll.F (k + (c + 1)) (W : Int)) (W : Int) (sn t[i]) BA.dirsN (t.map sn, rks t)).bind (BA.loopF (spec_blAll.F (k + (c + 1)) (W : Int)) (W : Int) k (i + 1))) (fun k => ?_) (Ev.bind (f := fun k s => BA.loopF (spec_blAll.F (k + (c + 1)) (W : Int)) (W : Int) k (i + 1) s) hl ih)
      rw [BA.loopF, List.getElem?_map, hge, show k + 1 + c = k + (c + 1) by omega]
      rfl
    · have e1 : SK.loop (nb W H) (m + 1) i t = t := by rw [SK.loop, dif_neg hi]
      rw [e1]
      refine Ev.step (f := fun _ => some (t.map sn)) (fun k => ?_) (Ev.now _)
      rw [BA.loopF, List.getElem?_map, List.getElem?_eq_none (by omega)]
      rfl
theorem sk_len {b : List Int} (hb : Nd W H b) : (sk W H b).length ≤ 262144 := by
  have hF := sk_full hW0 hW hH0 hH h6 hb
  have := nd_few hW0 hW hH0 hH h6 _ hF.nodup (fun x hx => by obtain ⟨e, he, rfl⟩ := List.mem_map.1 hx; exact hF.ok e he)
  simpa using this
theorem loop_ok : ∀ (m i : Nat) (t : List (SK.Ent (List Int))), Ok W H t → Ok W H (SK.loop (nb W H) m i t)
  | 0, i, t, hO => hO
  | m + 1, i, t, hO => by
    by_cases hi : i < t.length
    · rw [SK.loop, dif_pos hi]
      exact loop_ok m (i + 1) _ (layer_ok hW0 hW hH0 hH h6 hO (List.getElem_mem hi))
    · rw [SK.loop, dif_neg hi]
      exact hO
theorem sk_words {b : List Int} (hb : Nd W H b) : ∀ e ∈ sk W H b, e.2.length ≤ 262144 := fun e he => by
  have := (loop_ok hW0 hW hH0 hH h6 262145 0 [(b, [])] ⟨fun e he => by obtain rfl := List.mem_singleton.1 he; exact hb, fun e he => by obtain rfl := List.mem_singleton.1 he; exact Nat.zero_le _⟩).2 e he
  have h2 := sk_len hW0 hW hH0 hH h6 hb
  exact Nat.le_trans this h2
theorem solved_ev : Ev (fun k => spec_blSolved.f k (W : Int) (H : Int)) ((W : Int), solvedL (W * H)) := by
  refine Ev.of (spec_blSolved.mono _ _) (k := 20) ?_
  rcases size_cases hW0 hW hH0 hH h6 with ⟨rfl, rfl⟩ | ⟨rfl, rfl⟩ | ⟨rfl, rfl⟩ | ⟨rfl, rfl⟩ | ⟨rfl, rfl⟩ | ⟨rfl, rfl⟩ | ⟨rfl, rfl⟩ | ⟨rfl, rfl⟩ <;> decide +kernel
def node (W : Nat) (e : SK.Ent (List Int)) : S55 := ⟨⟨(W : Int), e.1⟩, (e.2.length : Int)⟩
/-- The reference's list of all boards. -/
theorem all_ev : Ev (fun k => spec_blAll.f k (W : Int) (H : Int)) ((sk W H (solvedL (W * H))).map (node W)) := by
  have hg := solved_nd hW0 hW hH0 hH h6
  refine Ev.congr (fun k => rfl) (Ev.bind (f := fun k (r : Int × List Int) => (spec_blRank.f k r.1 r.2).bind fun q => (BA.loopF (spec_blAll.F k r.1) r.1 k 0 ([(r.2, 0)], [q])).bind fun (res : List BA.Nd) => if res.length ≤ 1000000 then some (res.map fun (e : BA.Nd) => (⟨⟨r.1, e.1⟩, e.2⟩ : S55)) else none) (solved_ev hW0 hW hH0 hH h6) ?_)
  refine Ev.bind (f := fun k q => (BA.loopF (spec_blAll.F k (W : Int)) (W : Int) k 0 ([(solvedL (W * H), 0)], [q])).bind fun (res : List BA.Nd) => if res.length ≤ 1000000 then some (res.map fun (e : BA.Nd) => (⟨⟨(W : Int), e.1⟩, e.2⟩ : S55)) else none) (rk_ev hW0 hW hH0 hH h6 hg) ?_
  have hl := sloop hW0 hW hH0 hH h6 262145 0 [(solvedL (W * H), [])] (by omega) (SK.inv_start _ _ _ hg) ⟨fun e he => by obtain rfl := List.mem_singleton.1 he; exact hg, fun e he => by obtain rfl := List.mem_singleton.1 he; exact Nat.zero_le _⟩ 0
  refine Ev.bind (g := fun k => BA.loopF (spec_blAll.F k (W : Int)) (W : Int) k 0 ([(solvedL (W * H), 0)], [rk9 (solvedL (W * H)) 0])) (f := fun k (res : List BA.Nd) => if res.length ≤ 1000000 then some (res.map fun (e : BA.Nd) => (⟨⟨(W : Int), e.1⟩, e.2⟩ : S55)) else none) hl ⟨0, fun k _ => ?_⟩
  have := sk_len hW0 hW hH0 hH h6 hg
  show (if ((sk W H (solvedL (W * H))).map sn).length ≤ 1000000 then _ else _) = _
  rw [if_pos (by rw [List.length_map]; omega), List.map_map]
  rfl
end
end Go.Proofs.YtmplgijnmjdogaaDoorL
namespace Go.Proofs.YtmplgijnmjdogaaDoorL
open Go.RowKit Go.Proofs.YtmplgijnmjdogaaDoor.Q Go.Proofs.YtmplgijnmjdogaaDoorW.PrintWords Go.Proofs.YtmplgijnmjdogaaDoorW.PrintLast Go.Proofs.YtmplgijnmjdogaaDoorV Go.Proofs.YtmplgijnmjdogaaDoorM
/-! ### slices.Compare -/
def cmpL : List Int → List Int → Int
  | x :: t, y :: u => if x < y then -1 else if x > y then 1 else cmpL t u
  | _, _ => 0
theorem cmp_l0 (l m : List Int) (hl : l.length ≤ 1000) (hm : m.length = l.length) : ∀ (d i : Nat), l.length - i = d → i ≤ l.length → Ev (fun k => slices_Compare_int_int.l0 k l m l (l.length : Int) (i : Int)) (cmpL (l.drop i) (m.drop i)) := by
  intro d
  induction d with
  | zero =>
    intro i hd hi
    have e : i = l.length := by omega
    subst e
    rw [List.drop_length]
    exact Ev.step (f := fun _ => some 0) (fun k => by rw [slices_Compare_int_int.l0, if_neg (by omega), if_neg (by omega)]) (Ev.now _)
  | succ d ih =>
    intro i hd hi
    have hlt : i < l.length := by omega
    have hlt2 : i < m.length := by omega
    have e3 : wrap64 ((i : Int) + 1) = ((i + 1 : Nat) : Int) := wb (by omega) (by omega)
    rw [List.drop_eq_getElem_cons hlt, List.drop_eq_getElem_cons hlt2]
    have hn : ∀ x : Int, cmp_isNaN_int.f x = some false := fun x => by rw [cmp_isNaN_int.f]; simp
    have hc : cmp_Compare_int.f l[i] m[i] = some (if l[i] < m[i] then -1 else if l[i] > m[i] then 1 else 0) := by
      rw [cmp_Compare_int.f, hn, hn, Option.bind_some, Option.bind_some, if_neg (by decide), if_neg (by decide)]
      split
      · rfl
      · split <;> rfl
    have ST : ∀ k, slices_Compare_int_int.l0 (k + 1) l m l (l.length : Int) (i : Int) = (if (if l[i] < m[i] then -1 else if l[i] > m[i] then 1 else 0 : Int) = 0 then slices_Compare_int_int.l0 k l m l (l.length : Int) ((i + 1 : Nat) : Int) else some (if l[i] < m[i] then -1 else if l[i] > m[i] then 1 else 0)) := fun k => by
      rw [slices_Compare_int_int.l0, if_pos (by omega), if_pos (by omega), if_pos (by omega), if_neg (by omega), if_pos (by omega), rd_at hlt, rd_at hlt2, hc, Option.bind_some, e3]
    rw [cmpL]
    by_cases h1 : l[i] < m[i]
    · rw [if_pos h1] at ST ⊢
      exact Ev.step (f := fun _ => some (-1)) (fun k => by rw [ST, if_neg (by decide)]) (Ev.now _)
    · rw [if_neg h1] at ST ⊢
      by_cases h2 : l[i] > m[i]
      · rw [if_pos h2] at ST ⊢
        exact Ev.step (f := fun _ => some 1) (fun k => by rw [ST, if_neg (by decide)]) (Ev.now _)
      · rw [if_neg h2] at ST ⊢
        exact Ev.step (f := fun k => slices_Compare_int_int.l0 k l m l (l.length : Int) ((i + 1 : Nat) : Int)) (fun k => by rw [ST, if_pos rfl]) (ih (i + 1) (by omega) (by omega))
theorem cmp_ev (l m : List Int) (hl : l.length ≤ 1000) (hm : m.length = l.length) : Ev (fun k => slices_Compare_int_int.f k l m) (cmpL l m) :=
  Ev.congr (fun k => rfl) (cmp_l0 l m hl hm l.length 0 (by omega) (by omega))
theorem cmp_rk : ∀ (l m : List Int) (a b : Int), l.length = m.length → (∀ x ∈ l, 0 ≤ x ∧ x < 9) → (∀ x ∈ m, 0 ≤ x ∧ x < 9) → (rk9 l a < rk9 m b ↔ a < b ∨ (a = b ∧ cmpL l m < 0))
  | [], [], a, b, _, _, _ => by
    show a < b ↔ a < b ∨ (a = b ∧ (0 : Int) < 0)
    omega
  | [], _ :: _, _, _, h, _, _ => by simp at h
  | _ :: _, [], _, _, h, _, _ => by simp at h
  | x :: t, y :: u, a, b, hl, hx, hy => by
    have h1 := hx x List.mem_cons_self
    have h2 := hy y List.mem_cons_self
    have ih := cmp_rk t u (9 * a + x) (9 * b + y) (by simpa using hl) (fun z hz => hx z (List.mem_cons_of_mem _ hz)) (fun z hz => hy z (List.mem_cons_of_mem _ hz))
    show rk9 t (9 * a + x) < rk9 u (9 * b + y) ↔ a < b ∨ (a = b ∧ (if x < y then (-1 : Int) else if x > y then 1 else cmpL t u) < 0)
    rw [ih]
    by_cases e1 : x < y
    · rw [if_pos e1]
      omega
    · rw [if_neg e1]
      by_cases e2 : x > y
      · rw [if_pos e2]
        omega
      · rw [if_neg e2]
        omega
/-! ### insertion -/
open HS in
theorem ins_perm (rk : List Int → Int) (L : List (List Int)) (x : List Int) : (insR rk L x).Perm (x :: L) := by
  unfold insR
  refine List.perm_middle.trans ?_
  rw [List.take_append_drop]
open HS in
theorem posR_spec (rk : List Int → Int) (L : List (List Int)) (x : List Int) : ∀ k, (∀ j, posR rk L x k ≤ j → j < k → rk x < rk (L.getD j [])) ∧ (0 < posR rk L x k → ¬ rk x < rk (L.getD (posR rk L x k - 1) []))
  | 0 => ⟨fun j _ h => by omega, fun h => by
      unfold posR at h
      omega⟩
  | m + 1 => by
    obtain ⟨h1, h2⟩ := posR_spec rk L x m
    by_cases h : rk x < rk (L.getD m [])
    · have e : posR rk L x (m + 1) = posR rk L x m := by rw [posR, if_pos h]
      rw [e]
      refine ⟨fun j hj hlt => ?_, h2⟩
      by_cases hjm : j = m
      · subst hjm
        exact h
      · exact h1 j hj (by omega)
    · have e : posR rk L x (m + 1) = m + 1 := by rw [posR, if_neg h]
      rw [e]
      exact ⟨fun j hj hlt => by omega, fun _ => h⟩
open HS in
theorem ins_sorted (rk : List Int → Int) (L : List (List Int)) (x : List Int) (h : L.Pairwise (fun x y => rk x ≤ rk y)) : (insR rk L x).Pairwise (fun x y => rk x ≤ rk y) := by
  obtain ⟨s1, s2⟩ := posR_spec rk L x L.length
  have hle := posR_le rk L x L.length
  unfold insR
  generalize posR rk L x L.length = p at s1 s2 hle
  have hg : ∀ j (hj : j < L.length), L.getD j [] = L[j] := fun j hj => by rw [List.getD_eq_getElem?_getD, List.getElem?_eq_getElem hj]; rfl
  have h0 := h
  rw [← List.take_append_drop p L, List.pairwise_append] at h0
  obtain ⟨t1, t2, t3⟩ := h0
  have xd : ∀ b ∈ L.drop p, rk x ≤ rk b := fun b hb => by
    obtain ⟨i, hi, rfl⟩ := List.mem_iff_getElem.1 hb
    rw [List.getElem_drop]
    rw [List.length_drop] at hi
    have := s1 (p + i) (by omega) (by omega)
    rw [hg _ (by omega)] at this
    omega
  have tx : ∀ a ∈ L.take p, rk a ≤ rk x := fun a ha => by
    obtain ⟨i, hi, rfl⟩ := List.mem_iff_getElem.1 ha
    rw [List.getElem_take]
    rw [List.length_take] at hi
    have h3 := s2 (by omega)
    rw [hg _ (by omega)] at h3
    by_cases hp : i = p - 1
    · subst hp
      omega
    · have := List.pairwise_iff_getElem.1 h i (p - 1) (by omega) (by omega) (by omega)
      omega
  rw [List.pairwise_append]
  refine ⟨t1, List.pairwise_cons.2 ⟨xd, t2⟩, fun a ha b hb => ?_⟩
  rcases List.mem_cons.1 hb with rfl | hb
  · exact tx a ha
  · exact t3 a ha b hb
open HS in
theorem hard_facts (rk : List Int → Int) (most : Int) : ∀ (s : List BA.Nd) (L : List (List Int)), L.Pairwise (fun x y => rk x ≤ rk y) →
    (hardL rk most s L).Perm ((s.filter fun e => !decide (e.2 < most)).map (fun e => e.1) ++ L) ∧ (hardL rk most s L).Pairwise (fun x y => rk x ≤ rk y)
  | [], L, h => ⟨List.Perm.refl _, h⟩
  | e :: t, L, h => by
    by_cases hp : e.2 < most
    · obtain ⟨h1, h2⟩ := hard_facts rk most t L h
      rw [skip_step rk most hp, List.filter_cons_of_neg (by simp [hp])]
      exact ⟨h1, h2⟩
    · obtain ⟨h1, h2⟩ := hard_facts rk most t (insR rk L e.1) (ins_sorted rk L e.1 h)
      rw [ins_step rk most hp, List.filter_cons_of_pos (by simp [hp])]
      refine ⟨h1.trans ?_, h2⟩
      refine (List.Perm.append_left _ (ins_perm rk L e.1)).trans ?_
      exact List.perm_middle
theorem perms_few : ((List.range 7).all fun n => decide ((permsOf (rngI n)).length ≤ 720)) = true := by decide +kernel
section
variable {W H : Nat} (hW0 : 0 < W) (hW : W < 4) (hH0 : 0 < H) (hH : H < 4) (h6 : W * H ≤ 6)
include hW0 hW hH0 hH h6
theorem nd_720 (l : List (List Int)) (hn : l.Nodup) (hl : ∀ x ∈ l, Nd W H x) : l.length ≤ 720 := by
  have h1 : ∀ x ∈ l, x ∈ permsOf (rngI (W * H)) := fun x hx => mem_permsOf _ _ (nd_perm (hl x hx))
  have h2 := List.Nodup.length_le_of_subset hn h1
  have h3 := List.all_eq_true.1 perms_few (W * H) (List.mem_range.2 (by omega))
  have h4 := of_decide_eq_true h3
  omega
theorem solvedI_ev : Ev (fun k => impl_solved.f k (W : Int) (H : Int)) ((W : Int), solvedL (W * H)) := by
  refine Ev.of (impl_solved.mono _ _) (k := 20) ?_
  rcases size_cases hW0 hW hH0 hH h6 with ⟨rfl, rfl⟩ | ⟨rfl, rfl⟩ | ⟨rfl, rfl⟩ | ⟨rfl, rfl⟩ | ⟨rfl, rfl⟩ | ⟨rfl, rfl⟩ | ⟨rfl, rfl⟩ | ⟨rfl, rfl⟩ <;> decide +kernel
/-- The search of the solved board. -/
abbrev skS (W H : Nat) : List (SK.Ent (List Int)) := sk W H (solvedL (W * H))
theorem skS_full : SK.Full (nb W H) (solvedL (W * H)) (Nd W H) (skS W H) := sk_full hW0 hW hH0 hH h6 (solved_nd hW0 hW hH0 hH h6)
theorem skS_pos : 0 < (skS W H).length := (List.getElem?_eq_some_iff.1 (skS_full hW0 hW hH0 hH h6).head).1
theorem skS_last {e0 : SK.Ent (List Int)} (h0 : (skS W H)[(skS W H).length - 1]? = some e0) : ∀ e ∈ skS W H, e.2.length ≤ e0.2.length := by
  intro e he
  obtain ⟨i, hi, rfl⟩ := List.mem_iff_getElem.1 he
  obtain ⟨hl, rfl⟩ := List.getElem?_eq_some_iff.1 h0
  by_cases hp : i = (skS W H).length - 1
  · have : ∀ j (hj : j < (skS W H).length), j = i → ((skS W H)[i]).2.length ≤ ((skS W H)[j]).2.length := fun j hj e => by
      subst e
      exact Nat.le_refl _
    exact this _ hl hp.symm
  · have := List.pairwise_iff_getElem.1 (skS_full hW0 hW hH0 hH h6).ord i ((skS W H).length - 1) hi hl (by omega)
    exact SK.sle_len (.inr this)
/-- The farthest boards, as they are found. -/
def farS (W H n : Nat) : List (List Int) := ((skS W H).filter fun e => decide (e.2.length = n)).map fun e => e.1
theorem farS_sub (n : Nat) : (farS W H n).Sublist ((skS W H).map fun e => e.1) := List.filter_sublist.map _
theorem farS_nd (n : Nat) : (farS W H n).Nodup ∧ ∀ l ∈ farS W H n, Nd W H l := by
  have hF := skS_full hW0 hW hH0 hH h6
  refine ⟨(farS_sub hW0 hW hH0 hH h6 n).nodup hF.nodup, fun l hl => ?_⟩
  obtain ⟨e, he, rfl⟩ := List.mem_map.1 ((farS_sub hW0 hW hH0 hH h6 n).subset hl)
  exact hF.ok e he
theorem rk_anti {l m : List Int} (hl : Nd W H l) (hm : Nd W H m) (h1 : rk9 l 0 ≤ rk9 m 0) (h2 : rk9 m 0 ≤ rk9 l 0) : l = m :=
  (rk9_inj l m 0 0 (by rw [hl.1, hm.1]) (nd9 hW0 hW hH0 hH h6 hl) (nd9 hW0 hW hH0 hH h6 hm) (Int.le_antisymm h1 h2)).2
/-- What the reference lists. -/
theorem spec_far {e0 : SK.Ent (List Int)} (h0 : (skS W H)[(skS W H).length - 1]? = some e0) :
    (HS.hardL (fun l => rk9 l 0) (e0.2.length : Int) ((skS W H).map sn) []).Perm (farS W H e0.2.length) ∧ (HS.hardL (fun l => rk9 l 0) (e0.2.length : Int) ((skS W H).map sn) []).Pairwise (fun x y => rk9 x 0 ≤ rk9 y 0) := by
  obtain ⟨h1, h2⟩ := hard_facts (fun l => rk9 l 0) (e0.2.length : Int) ((skS W H).map sn) [] List.Pairwise.nil
  refine ⟨h1.trans ?_, h2⟩
  rw [List.append_nil, List.filter_map, List.map_map]
  unfold farS
  rw [List.filter_congr (q := fun e => decide (e.2.length = e0.2.length)) (fun e he => ?_)]
  · exact List.Perm.refl _
  · have := skS_last hW0 hW hH0 hH h6 h0 e he
    show (!decide ((e.2.length : Int) < (e0.2.length : Int))) = decide (e.2.length = e0.2.length)
    by_cases h : e.2.length = e0.2.length
    · rw [decide_eq_true h, decide_eq_false (by omega)]
      rfl
    · rw [decide_eq_false h, decide_eq_true (by omega)]
      rfl
theorem wbs_size (p : List Nat) : (wbs p).size = p.length := by
  unfold wbs
  rw [bytes_size, List.length_map]
/-- What the program lists. -/
theorem impl_far {e0 : SK.Ent (List Int)} : ((((skS W H).map (ie W)).filter fun e => decide (e.2.1.size = (ie W e0).2.1.size)).map fun e => e.1) = farS W H e0.2.length := by
  rw [List.filter_map, List.map_map]
  unfold farS
  rw [List.filter_congr (q := fun e => decide (e.2.length = e0.2.length)) (fun e he => ?_)]
  · rfl
  · show decide ((wbs e.2).size = (wbs e0.2).size) = _
    rw [wbs_size hW0 hW hH0 hH h6, wbs_size hW0 hW hH0 hH h6]
theorem same_far {n : Nat} {L G : List (List Int)} (hL : L.Perm (farS W H n)) (hG : G.Perm (farS W H n)) (sL : L.Pairwise (fun x y => rk9 x 0 ≤ rk9 y 0)) (sG : G.Pairwise (fun x y => rk9 x 0 ≤ rk9 y 0)) : L = G := by
  have hN := (farS_nd hW0 hW hH0 hH h6 n).2
  exact List.Perm.eq_of_pairwise (le := fun x y => rk9 x 0 ≤ rk9 y 0) (fun a b ha hb h1 h2 => rk_anti hW0 hW hH0 hH h6 (hN a (hL.subset ha)) (hN b (hG.subset hb)) h1 h2) sL sG (hL.trans hG.symm)
end
end Go.Proofs.YtmplgijnmjdogaaDoorL
