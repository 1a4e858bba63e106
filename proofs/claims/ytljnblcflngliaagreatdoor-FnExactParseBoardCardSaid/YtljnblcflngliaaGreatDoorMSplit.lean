/- Plain laws of texts cut at a byte: cut and joined again. No program stands in this text. -/
import Derived.Lib.SplitLaws
import Derived.Lib.IndexBytes
import Derived.Lib.SlTrimSet
import Derived.Lib.Join
import Derived.Test.YtljnblcflngliaaGreatDoorWWords
set_option linter.unusedVariables false
set_option linter.unusedSimpArgs false
namespace Go.Proofs.YtljnblcflngliaaGreatDoorM
open Go.Proofs.YtljnblcflngliaaGreatDoorW.PrintWords

/-- The pieces between the bytes c. -/
def splitC (c : UInt8) : List UInt8 → List (List UInt8)
  | [] => [[]]
  | b :: l => if b = c then [] :: splitC c l else match splitC c l with
    | [] => [[b]]
    | r :: rs => (b :: r) :: rs
theorem splitC_form (c : UInt8) (l : List UInt8) : ∃ r rs, splitC c l = r :: rs := by
  cases l with
  | nil => exact ⟨[], [], rfl⟩
  | cons b l =>
    unfold splitC
    split
    · exact ⟨_, _, rfl⟩
    · split <;> exact ⟨_, _, rfl⟩
theorem splitC_at (c : UInt8) (l : List UInt8) : splitC c (c :: l) = [] :: splitC c l := by
  rw [splitC, if_pos rfl]
theorem splitC_ne {c b : UInt8} (h : b ≠ c) {l r : List UInt8} {rs : List (List UInt8)} (e : splitC c l = r :: rs) : splitC c (b :: l) = (b :: r) :: rs := by
  rw [splitC, if_neg h, e]
theorem index_cons_ne {b c : UInt8} (h : b ≠ c) (l : List UInt8) (hi : Lib.index l [c] ≠ -1) : Lib.index (b :: l) [c] = Lib.index l [c] + 1 := by
  rw [Lib.index_one] at *
  rw [Lib.index_one]
  have hb : (b == c) = false := beq_eq_false_iff_ne.2 h
  have hm : (Lib.indexByte l c == -1) = false := beq_eq_false_iff_ne.2 hi
  rw [Lib.indexByte, hb, hm]
  simp
theorem index_found {c : UInt8} : ∀ {l : List UInt8} {k : Nat}, Lib.count l [c] = k + 1 → Lib.index l [c] ≠ -1 ∧ 0 ≤ Lib.index l [c] := by
  intro l k h
  rw [Lib.count_one] at h
  have hm : c ∈ l := List.count_pos_iff.1 (by omega)
  rw [Lib.index_one]
  clear h
  induction l with
  | nil => cases hm
  | cons b l ih =>
    rw [Lib.indexByte]
    by_cases e : b = c
    · rw [if_pos (beq_iff_eq.2 e)]
      decide
    · have := ih (by
        rcases List.mem_cons.1 hm with h | h
        · exact absurd h.symm e
        · exact h)
      rw [if_neg (by simpa using e), if_neg (by simpa using this.1)]
      omega
theorem splitK_eq (c : UInt8) : ∀ l : List UInt8, Lib.splitK [c] 0 (Lib.count l [c]) l = splitC c l := by
  intro l
  induction l with
  | nil => rfl
  | cons b l ih =>
    by_cases e : b = c
    · subst e
      rw [Lib.count_cons_eq, splitC_at, Nat.add_comm]
      rw [Lib.splitK, if_neg]
      · have h0 : Lib.index (b :: l) [b] = 0 := by rw [Lib.index_one, Lib.indexByte, if_pos (by simp)]
        rw [h0, ← ih]
        rfl
      · rw [Lib.index_one, Lib.indexByte, if_pos (by simp)]
        decide
    · rw [Lib.count_cons_ne b c l e]
      cases hk : Lib.count l [c] with
      | zero =>
        rw [hk] at ih
        have h1 : splitC c l = [l] := ih.symm
        rw [splitC_ne e h1]
        rfl
      | succ k =>
        rw [hk] at ih
        obtain ⟨hi, hi0⟩ := index_found hk
        have hi2 := index_cons_ne e l hi
        rw [Lib.splitK, if_neg (by simpa using hi)] at ih
        rw [Lib.splitK, hi2, if_neg (by simp; omega), splitC_ne e ih.symm]
        obtain ⟨i, hi3⟩ := Int.eq_ofNat_of_zero_le hi0
        rw [hi3]
        have e1 : ((i : Int) + 1).toNat = i + 1 := by omega
        rw [e1]
        simp
theorem splitC_len (c : UInt8) : ∀ l, (splitC c l).flatten.length + (splitC c l).length = l.length + 1 := by
  intro l
  induction l with
  | nil => rfl
  | cons b l ih =>
    obtain ⟨r, rs, e⟩ := splitC_form c l
    by_cases hb : b = c
    · subst hb
      rw [splitC_at]
      simp only [List.flatten_cons, List.nil_append, List.length_cons]
      omega
    · rw [splitC_ne hb e]
      rw [e] at ih
      simp only [List.flatten_cons, List.cons_append, List.length_cons, List.length_append] at ih ⊢
      omega


theorem splitC_join (c : UInt8) : ∀ l : List UInt8, Lib.join (splitC c l) [c] = l
  | [] => rfl
  | b :: l => by
    have ih := splitC_join c l
    obtain ⟨r, rs, e⟩ := splitC_form c l
    rw [e, Lib.join_cons] at ih
    by_cases h : b = c
    · subst h
      rw [splitC_at, e, Lib.join_cons]
      unfold Lib.joinTail at ih ⊢
      rw [List.map_cons, List.flatten_cons]
      show [] ++ (([b] ++ r) ++ _) = _
      rw [List.nil_append, List.append_assoc, ih]
      rfl
    · rw [splitC_ne h e, Lib.join_cons]
      show b :: (r ++ _) = _
      rw [ih]
theorem splitC_app (c : UInt8) : ∀ (x l : List UInt8), c ∉ x → ∀ r rs, splitC c l = r :: rs → splitC c (x ++ l) = (x ++ r) :: rs
  | [], l, _, r, rs, e => e
  | b :: x, l, h, r, rs, e => by
    have h1 : b ≠ c := fun e => h (e ▸ List.mem_cons_self ..)
    have h2 := splitC_app c x l (fun m => h (List.mem_cons_of_mem _ m)) r rs e
    exact splitC_ne h1 h2
theorem join_split (c : UInt8) : ∀ (xs : List (List UInt8)), xs ≠ [] → (∀ x ∈ xs, c ∉ x) → splitC c (Lib.join xs [c]) = xs
  | [], h, _ => absurd rfl h
  | [x], _, h => by
    have := splitC_app c x [] (h x (List.mem_cons_self ..)) [] [] rfl
    rw [List.append_nil] at this
    rw [Lib.join_one]
    exact this
  | x :: y :: r, _, h => by
    have ih := join_split c (y :: r) (by simp) (fun z hz => h z (List.mem_cons_of_mem _ hz))
    have e : Lib.join (x :: y :: r) [c] = x ++ (c :: Lib.join (y :: r) [c]) := by
      rw [Lib.join_cons, Lib.join_cons]
      unfold Lib.joinTail
      rw [List.map_cons, List.flatten_cons]
      simp
    rw [e]
    have h1 : splitC c (c :: Lib.join (y :: r) [c]) = [] :: (y :: r) := by rw [splitC_at, ih]
    have h2 := splitC_app c x _ (h x (List.mem_cons_self ..)) [] (y :: r) h1
    rw [List.append_nil] at h2
    exact h2
end Go.Proofs.YtljnblcflngliaaGreatDoorM
