/- The hole of a board: what both sides' looks for it say, and where it lies. -/
import Derived.Test.YtmplgijnmjdogaaDoorLBoard
import Derived.Test.YtmplgijnmjdogaaDoorQx2
import Derived.Test.YtmplgijnmjdogaaDoorQx12
set_option linter.unusedVariables false
set_option linter.unusedSimpArgs false
namespace Go.Proofs.YtmplgijnmjdogaaDoorL
open Go.RowKit Go.Proofs.YtmplgijnmjdogaaDoor.Q Go.Proofs.YtmplgijnmjdogaaDoorW.PrintWords Go.Proofs.YtmplgijnmjdogaaDoorW.PrintLast Go.Proofs.YtmplgijnmjdogaaDoorV
def zf : List Int → Nat → Int
  | [], _ => -1
  | c :: t, i => if c = 0 then (i : Int) else zf t (i + 1)
theorem blHole_eq (a : Int) (l : List Int) (hl : l.length ≤ 1048576) : Ev (fun k => spec_blHole.f k a l) (zf l 0) := by
  have key : ∀ (d i : Nat), l.length - i = d → i ≤ l.length → Ev (fun k => spec_blHole.l0 k l (l.length : Int) (i : Int)) (zf (l.drop i) i) := by
    intro d
    induction d with
    | zero =>
      intro i hd hi
      have g : ¬ ((i : Int) < (l.length : Int)) := by omega
      have e : i = l.length := by omega
      subst e
      rw [List.drop_length, zf]
      exact Ev.step (f := fun _ => some (-1)) (fun k => by rw [spec_blHole.l0, if_neg g]) (Ev.now _)
    | succ d ih =>
      intro i hd hi
      have hlt : i < l.length := by omega
      have h1 := ih (i + 1) (by omega) (by omega)
      have g : (i : Int) < (l.length : Int) := by omega
      have g0 : (0 : Int) ≤ (i : Int) := by omega
      have b : i + 1 < 4000000 := by omega
      have e : wrap64 ((i : Int) + 1) = ((i + 1 : Nat) : Int) := wb b rfl
      rw [List.drop_eq_getElem_cons hlt, zf]
      by_cases hx : l[i] = 0
      · rw [if_pos hx]
        exact Ev.step (f := fun _ => some (i : Int)) (fun k => by rw [spec_blHole.l0, if_pos g, if_pos g0, if_pos g, rd_at hlt, if_pos hx]) (Ev.now _)
      · rw [if_neg hx]
        exact Ev.step (fun k => by rw [spec_blHole.l0, if_pos g, if_pos g0, if_pos g, rd_at hlt, if_neg hx, e]) h1
  exact key l.length 0 rfl (Nat.zero_le _)
theorem index_eq (l : List Int) (hl : l.length ≤ 1048576) : Ev (fun k => slices_Index_int_int.f k l 0) (zf l 0) := by
  have key : ∀ (d i : Nat), l.length - i = d → i ≤ l.length → Ev (fun k => slices_Index_int_int.l0 k l 0 (l.length : Int) (i : Int)) (zf (l.drop i) i) := by
    intro d
    induction d with
    | zero =>
      intro i hd hi
      have g : ¬ ((i : Int) < (l.length : Int)) := by omega
      have e : i = l.length := by omega
      subst e
      rw [List.drop_length, zf]
      exact Ev.step (f := fun _ => some (-1)) (fun k => by rw [slices_Index_int_int.l0, if_neg g]) (Ev.now _)
    | succ d ih =>
      intro i hd hi
      have hlt : i < l.length := by omega
      have h1 := ih (i + 1) (by omega) (by omega)
      have g : (i : Int) < (l.length : Int) := by omega
      have g0 : (0 : Int) ≤ (i : Int) := by omega
      have b : i + 1 < 4000000 := by omega
      have e : wrap64 ((i : Int) + 1) = ((i + 1 : Nat) : Int) := wb b rfl
      rw [List.drop_eq_getElem_cons hlt, zf]
      by_cases hx : l[i] = 0
      · rw [if_pos hx]
        exact Ev.step (f := fun _ => some (i : Int)) (fun k => by rw [slices_Index_int_int.l0, if_pos g, if_pos g0, if_pos g, rd_at hlt, if_pos hx.symm]) (Ev.now _)
      · rw [if_neg hx]
        exact Ev.step (fun k => by rw [slices_Index_int_int.l0, if_pos g, if_pos g0, if_pos g, rd_at hlt, if_neg (fun h => hx h.symm), e]) h1
  exact key l.length 0 rfl (Nat.zero_le _)

theorem zf_at : ∀ (l : List Int) (s : Nat), (0 : Int) ∈ l → ∃ i, i < l.length ∧ zf l s = ((s + i : Nat) : Int) ∧ l[i]? = some 0 ∧ ∀ j, j < i → l[j]? ≠ some 0
  | [], _, h => absurd h (by simp)
  | c :: t, s, h => by
    by_cases hc : c = 0
    · exact ⟨0, by simp, by rw [zf, if_pos hc]; simp, by rw [hc]; rfl, fun j hj => absurd hj (Nat.not_lt_zero _)⟩
    · have ht : (0 : Int) ∈ t := by
        rcases List.mem_cons.1 h with e | e
        · exact absurd e.symm hc
        · exact e
      obtain ⟨i, h1, h2, h3, h4⟩ := zf_at t (s + 1) ht
      refine ⟨i + 1, by rw [List.length_cons]; omega, ?_, ?_, ?_⟩
      · rw [zf, if_neg hc, h2]
        congr 1
        omega
      · rw [List.getElem?_cons_succ]; exact h3
      · intro j hj
        cases j with
        | zero => rw [List.getElem?_cons_zero]; intro e; exact hc (Option.some.inj e)
        | succ j => rw [List.getElem?_cons_succ]; exact h4 j (by omega)
theorem hole_eq (w : Int) (l : List Int) (hl : l.length ≤ 1048576) : Ev (fun k => impl_Board_hole.f k w l) (zf l 0) :=
  Ev.congr (fun k => rfl) (Ev.bind (index_eq l hl) (Ev.now _))
theorem ediv_small {w n : Int} (hw : 1 ≤ w) (h : n % w = 0) : ∃ q, n = w * q ∧ n / w = q := by
  refine ⟨n / w, ?_, rfl⟩
  have := Int.mul_ediv_add_emod n w
  omega
/-- What a board is: its size, and its values. -/
theorem isB_facts {w : Int} {l : List Int} (h : isB w l = true) : ∃ W H : Nat, w = (W : Int) ∧ l.length = W * H ∧ 0 < W ∧ W < 4 ∧ 0 < H ∧ H < 4 ∧ ∀ k, k < l.length → (k : Int) ∈ l := by
  unfold isB allIn at h
  simp only [Bool.and_eq_true, decide_eq_true_eq, List.all_eq_true, List.mem_range, List.contains_iff_mem] at h
  obtain ⟨⟨h1, h2⟩, ⟨h3, h4⟩, h5, h6⟩ := h
  have hw : w = 1 ∨ w = 2 ∨ w = 3 := by omega
  rcases hw with rfl | rfl | rfl
  · exact ⟨1, l.length, rfl, by omega, by omega, by omega, by omega, by omega, h6⟩
  · exact ⟨2, l.length / 2, rfl, by omega, by omega, by omega, by omega, by omega, h6⟩
  · exact ⟨3, l.length / 3, rfl, by omega, by omega, by omega, by omega, by omega, h6⟩
theorem hole_at {w : Int} {l : List Int} (h : isB w l = true) : ∃ W H i : Nat, w = (W : Int) ∧ l.length = W * H ∧ 0 < W ∧ W < 4 ∧ 0 < H ∧ H < 4 ∧ i < W * H ∧ zf l 0 = (i : Int) := by
  obtain ⟨W, H, h1, h2, h3, h4, h5, h6, h7⟩ := isB_facts h
  have h0 : (0 : Int) ∈ l := h7 0 (by rw [h2]; exact Nat.mul_pos h3 h5)
  obtain ⟨i, a, b, _⟩ := zf_at l 0 h0
  exact ⟨W, H, i, h1, h2, h3, h4, h5, h6, by rw [← h2]; exact a, by rw [b, Nat.zero_add]⟩
end Go.Proofs.YtmplgijnmjdogaaDoorL
