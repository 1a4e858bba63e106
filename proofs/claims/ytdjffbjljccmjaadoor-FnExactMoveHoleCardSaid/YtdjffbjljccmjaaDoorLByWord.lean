/- Moves by a word: what both sides make of a board and a text. -/
import Derived.Test.YtdjffbjljccmjaaDoorLMoves
import Derived.Test.YtdjffbjljccmjaaDoorQx5
import Derived.Test.YtdjffbjljccmjaaDoorQx10
set_option linter.unusedVariables false
set_option linter.unusedSimpArgs false
namespace Go.Proofs.YtdjffbjljccmjaaDoorL
open Go.RowKit Go.Proofs.YtdjffbjljccmjaaDoor.Q Go.Proofs.YtdjffbjljccmjaaDoorW.PrintWords Go.Proofs.YtdjffbjljccmjaaDoorW.PrintLast Go.Proofs.YtdjffbjljccmjaaDoorV
theorem bytes_at (t : ByteArray) (i : Nat) (h : i < t.size) : rd (bytesOf t) (i : Int) = (((t.data[i]'h).toNat : Nat) : Int) := by
  have hl : i < (bytesOf t).length := by rw [bytesOf_length]; exact h
  rw [rd_at hl]
  have hl2 : i < t.data.toList.length := by rw [Array.length_toList]; exact h
  have e : (t.data.toList.map fun b => ((b.toNat : Nat) : Int))[i]? = some (((t.data[i]'h).toNat : Nat) : Int) := by
    rw [List.getElem?_map, List.getElem?_eq_getElem hl2, Array.getElem_toList]
    rfl
  exact (List.getElem_eq_iff hl).2 e
theorem runs (W H : Nat) (hW0 : 0 < W) (hW : W < 4) (hH : H < 4) (t : ByteArray) (ht : t.size ≤ 40) (hok : t.data.toList.all isDirB = true) : ∀ (d i : Nat) (l : List Int), t.size - i = d → i ≤ t.size → Cells W H l →
    ∃ r : Int × List Int × Bool, Ev (fun k => spec_MoveByWord.l0 k t (i : Int) (W : Int) l) r ∧ Ev (fun k => impl_MoveByWord.l0 k (bytesOf t) (t.size : Int) (i : Int) (W : Int) l) r ∧ r.2.1.length ≤ 1048576 := by
  intro d
  induction d with
  | zero =>
    intro i l hd hi hc
    have e : i = t.size := by omega
    subst e
    have g : ¬ ((t.size : Int) < (t.size : Int)) := by omega
    have hlen : l.length ≤ 1048576 := by
      have h3 : W = 1 ∨ W = 2 ∨ W = 3 := by omega
      have := hc.1
      rcases h3 with rfl | rfl | rfl <;> omega
    exact ⟨((W : Int), l, true), Ev.step (f := fun _ => some ((W : Int), l, true)) (fun k => by rw [spec_MoveByWord.l0, if_neg g]) (Ev.now _), Ev.step (f := fun _ => some ((W : Int), l, true)) (fun k => by rw [impl_MoveByWord.l0, if_neg g]) (Ev.now _), hlen⟩
  | succ d ih =>
    intro i l hd hi hc
    have hlt : i < t.size := by omega
    have hl : i < t.data.toList.length := by rw [Array.length_toList]; exact hlt
    have hb : isDirB (t.data[i]'hlt) = true := by
      have := List.all_eq_true.1 hok _ (List.getElem_mem hl)
      rwa [Array.getElem_toList] at this
    have D := tiDir_eq (t.data[i]'hlt)
    have g : (i : Int) < (t.size : Int) := by omega
    have g0 : (0 : Int) ≤ (i : Int) := by omega
    have g1 : (i : Int) ≤ ((i + 1 : Nat) : Int) := by omega
    have g2 : ((i + 1 : Nat) : Int) ≤ (t.size : Int) := by omega
    have g3 : (i : Int) < ((bytesOf t).length : Int) := by rw [bytesOf_length]; exact g
    have e : wrap64 ((i : Int) + 1) = ((i + 1 : Nat) : Int) := wb (by omega) rfl
    have hS : ∀ k, spec_MoveByWord.l0 (k + 1) t (i : Int) (W : Int) l = (spec_tiDir.f k ⟨#[t.data[i]'hlt]⟩).bind fun t141 => ((spec_blAhead.f k (W : Int) l t141).bind fun t142 => (if t142 < 0 then (some (0, ([] : List Int), false)) else ((spec_blMove.f k (W : Int) l t141).bind fun bt143 => (spec_MoveByWord.l0 k t ((i + 1 : Nat) : Int) bt143.1 bt143.2)))) := by
      intro k
      rw [spec_MoveByWord.l0, if_pos g, if_pos g0, e, if_pos g1, if_pos g2, Int.toNat_natCast, Int.toNat_natCast, cut_one t i hlt]
    have hI : ∀ k, impl_MoveByWord.l0 (k + 1) (bytesOf t) (t.size : Int) (i : Int) (W : Int) l = (impl_Board_moved.f k (W : Int) l (((t.data[i]'hlt).toNat : Nat) : Int)).bind fun bt197 => (if bt197.2.2 = true then (impl_MoveByWord.l0 k (bytesOf t) (t.size : Int) ((i + 1 : Nat) : Int) bt197.1 bt197.2.1) else (some (0, ([] : List Int), false))) := by
      intro k
      rw [impl_MoveByWord.l0, if_pos g, if_pos g0, if_pos g3, e, bytes_at t i hlt]
    rcases step_both hW0 hW hH hc hb with ⟨z, hz, A, M⟩ | ⟨z, M, hz, hcM, A, B, C⟩
    · refine ⟨(0, [], false), Ev.step hS (Ev.bind D (Ev.bind A ⟨0, fun k _ => if_pos hz⟩)), Ev.step hI (Ev.bind M ⟨0, fun k _ => rfl⟩), Nat.zero_le _⟩
    · obtain ⟨r, h1, h2, h3⟩ := ih (i + 1) M (by omega) (by omega) hcM
      refine ⟨r, Ev.step hS (Ev.bind D (Ev.bind A ?_)), Ev.step hI (Ev.bind C ?_), h3⟩
      · exact Ev.congr (f := fun k => (spec_blMove.f k (W : Int) l (dirI (t.data[i]'hlt))).bind fun bt143 => (spec_MoveByWord.l0 k t ((i + 1 : Nat) : Int) bt143.1 bt143.2)) (g := _) (r := r) (fun k => if_neg hz) (Ev.bind B h1)
      · exact Ev.congr (g := _) (r := r) (fun k => if_pos rfl) h2
theorem byWord (a : Int) (l : List Int) (t : ByteArray) (hl : l.length ≤ 1048576) : ∃ r : Int × List Int × Bool, Ev (fun k => spec_MoveByWord.f k a l t) r ∧ Ev (fun k => impl_MoveByWord.f k a l t) r ∧ r.2.1.length ≤ 1048576 := by
  have hI : impl_IsBoard.f a l = some (isB a l) := isBoard_eq a l (by omega)
  have hG := blGood_eq a l hl
  have hS := tiWord_eq t
  have hW := isWord_eq t
  have hf : ¬ false = true := by decide
  have SJ : Ev (fun k => spec_MoveByWord.j0 k t true a l) (0, ([] : List Int), false) := Ev.step (f := fun _ => some (0, ([] : List Int), false)) (fun k => by rw [spec_MoveByWord.j0, if_pos rfl]) (Ev.now _)
  have IJ : Ev (fun k => impl_MoveByWord.j0 k t true a l) (0, ([] : List Int), false) := Ev.step (f := fun _ => some (0, ([] : List Int), false)) (fun k => by rw [impl_MoveByWord.j0, if_pos rfl]) (Ev.now _)
  cases hb : isB a l with
  | false =>
    rw [hb] at hI hG
    refine ⟨(0, [], false), Ev.congr (fun k => rfl) (Ev.bind hG SJ), Ev.congr (fun k => ?_) IJ, Nat.zero_le _⟩
    rw [impl_MoveByWord.f, hI, Option.bind_some, if_neg hf]
  | true =>
    rw [hb] at hI hG
    cases hw : wordOk t with
    | false =>
      rw [hw] at hS hW
      refine ⟨(0, [], false), Ev.congr (fun k => rfl) (Ev.bind hG ?_), Ev.congr (fun k => ?_) IJ, Nat.zero_le _⟩
      · exact Ev.congr (f := fun k => (spec_tiWord.f k t).bind fun t136 => (spec_MoveByWord.j0 k t (!t136) a l)) (g := _) (r := (0, ([] : List Int), false)) (fun k => if_pos rfl) (Ev.bind hS SJ)
      · rw [impl_MoveByWord.f, hI, Option.bind_some, if_pos rfl, hW, Option.bind_some]
        rfl
    | true =>
      rw [hw] at hS hW
      have hw2 := hw
      unfold wordOk at hw2
      rw [Bool.and_eq_true, decide_eq_true_eq] at hw2
      obtain ⟨hs, hok⟩ := hw2
      obtain ⟨W, H, h1, h2, h3, h4, h5, h6, h7⟩ := isB_facts hb
      subst h1
      have hc : Cells W H l := ⟨h2, h7 0 (by rw [h2]; exact Nat.mul_pos h3 h5)⟩
      have hl9 : l.length ≤ 1000000 := by
        have h3' : W = 1 ∨ W = 2 ∨ W = 3 := by omega
        rcases h3' with rfl | rfl | rfl <;> omega
      obtain ⟨r, R1, R2, R3⟩ := runs W H h3 h4 h6 t hs hok t.size 0 l rfl (Nat.zero_le _) hc
      refine ⟨r, Ev.congr (fun k => rfl) (Ev.bind hG ?_), ?_, R3⟩
      · refine Ev.congr (f := fun k => (spec_tiWord.f k t).bind fun t136 => (spec_MoveByWord.j0 k t (!t136) (W : Int) l)) (g := _) (r := r) (fun k => if_pos rfl) (Ev.bind hS ?_)
        refine Ev.step (fun k => ?_) R1
        show spec_MoveByWord.j0 (k + 1) t false (W : Int) l = _
        rw [spec_MoveByWord.j0, if_neg hf, own_eq l hl9, Option.bind_some]
        rfl
      · refine Ev.congr (f := fun k => impl_MoveByWord.j0 k t false (W : Int) l) (g := _) (r := r) (fun k => ?_) (Ev.step (fun k => ?_) R2)
        · rw [impl_MoveByWord.f, hI, Option.bind_some, if_pos rfl, hW, Option.bind_some]
          rfl
        · have g40 : t.size ≤ 140737488351232 := by omega
          rw [impl_MoveByWord.j0, if_neg hf, clone_eq l hl9, Option.bind_some, if_pos g40, Option.bind_some, bytesOf_length]
          rfl
end Go.Proofs.YtdjffbjljccmjaaDoorL
