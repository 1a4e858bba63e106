/- The laws' own looks at long lists: markInts (numbers laid into a list) and heldInts (the numbers still lie there). -/
import Derived.Test.YtljnblcflngliaaGreatDoorLBoardP
import Derived.Test.YtljnblcflngliaaGreatDoorQx6
import Derived.Test.YtljnblcflngliaaGreatDoorQx7
set_option linter.unusedVariables false
set_option linter.unusedSimpArgs false
namespace Go.Proofs.YtljnblcflngliaaGreatDoorL
open Go.RowKit Go.Proofs.YtljnblcflngliaaGreatDoor.Q Go.Proofs.YtljnblcflngliaaGreatDoorW.PrintWords Go.Proofs.YtljnblcflngliaaGreatDoorW.PrintLast

def marks (n : Nat) : List Int := (List.range n).map fun j => ((j + 1 : Nat) : Int)
theorem marks_len (n : Nat) : (marks n).length = n := by simp [marks]
theorem marks_succ (n : Nat) : marks (n + 1) = marks n ++ [((n + 1 : Nat) : Int)] := by
  unfold marks
  rw [List.range_succ, List.map_append]
  rfl
theorem marks_at {n i : Nat} (h : i < (marks n).length) : (marks n)[i] = ((i + 1 : Nat) : Int) := by
  unfold marks at h ⊢
  rw [List.getElem_map, List.getElem_range]
theorem markInts_eq (l : List Int) (hl : l.length ≤ 1048576) : Ev (fun k => laws_markIntS.f k l 1) (((l.length + 1 : Nat) : Int), marks l.length) := by
  have key : ∀ (d i : Nat), l.length - i = d → i ≤ l.length → Ev (fun k => laws_markIntS.l0 k (marks i ++ l.drop i) ((i + 1 : Nat) : Int) (i : Int)) (((l.length + 1 : Nat) : Int), marks l.length) := by
    intro d
    induction d with
    | zero =>
      intro i hd hi
      have e : i = l.length := by omega
      subst e
      rw [List.drop_length, List.append_nil]
      have g : ¬ ((l.length : Int) < ((marks l.length).length : Int)) := by rw [marks_len]; omega
      exact Ev.step (f := fun _ => some (((l.length + 1 : Nat) : Int), marks l.length)) (fun k => by rw [laws_markIntS.l0, if_neg g]) (Ev.now _)
    | succ d ih =>
      intro i hd hi
      have hlt : i < l.length := by omega
      have h1 := ih (i + 1) (by omega) (by omega)
      have g : (i : Int) < ((marks i ++ l.drop i).length : Int) := by rw [List.length_append, marks_len, List.length_drop]; omega
      have g0 : (0 : Int) ≤ (i : Int) := by omega
      have b : i + 1 < 4000000 := by omega
      have b2 : i + 1 + 1 < 4000000 := by omega
      have hset : (marks i ++ l.drop i).set (i : Int).toNat ((i + 1 : Nat) : Int) = marks (i + 1) ++ l.drop (i + 1) := by
        rw [Int.toNat_natCast, List.set_append_right _ _ (by rw [marks_len]; omega), marks_len, Nat.sub_self, List.drop_eq_getElem_cons hlt, List.set_cons_zero, marks_succ, List.append_assoc]
        rfl
      have e : wrap64 ((i : Int) + 1) = ((i + 1 : Nat) : Int) := wb b rfl
      have e2 : wrap64 (((i + 1 : Nat) : Int) + 1) = ((i + 1 + 1 : Nat) : Int) := wb b2 rfl
      exact Ev.step (fun k => by rw [laws_markIntS.l0, if_pos g, if_pos g0, hset, e, e2]) h1
  exact key l.length 0 rfl (Nat.zero_le _)
theorem heldInts_eq (n : Nat) (hn : n ≤ 1048576) : Ev (fun k => laws_heldIntS.f k (marks n) 1) ((n + 1 : Nat) : Int) := by
  have key : ∀ (d i : Nat), n - i = d → i ≤ n → Ev (fun k => laws_heldIntS.l0 k (marks n) ((i + 1 : Nat) : Int) (i : Int)) ((n + 1 : Nat) : Int) := by
    intro d
    induction d with
    | zero =>
      intro i hd hi
      have e : i = n := by omega
      subst e
      have g : ¬ ((i : Int) < ((marks i).length : Int)) := by rw [marks_len]; omega
      exact Ev.step (f := fun _ => some ((i + 1 : Nat) : Int)) (fun k => by rw [laws_heldIntS.l0, if_neg g]) (Ev.now _)
    | succ d ih =>
      intro i hd hi
      have h1 := ih (i + 1) (by omega) (by omega)
      have hlt : i < (marks n).length := by rw [marks_len]; omega
      have g : (i : Int) < ((marks n).length : Int) := by omega
      have g0 : (0 : Int) ≤ (i : Int) := by omega
      have b : i + 1 < 4000000 := by omega
      have b2 : i + 1 + 1 < 4000000 := by omega
      have hrd : rd (marks n) (i : Int) = ((i + 1 : Nat) : Int) := by rw [rd_at hlt, marks_at hlt]
      have e : wrap64 ((i : Int) + 1) = ((i + 1 : Nat) : Int) := wb b rfl
      have e2 : wrap64 (((i + 1 : Nat) : Int) + 1) = ((i + 1 + 1 : Nat) : Int) := wb b2 rfl
      exact Ev.step (fun k => by rw [laws_heldIntS.l0, if_pos g, if_pos g0, hrd, if_pos rfl, e, e2]) h1
  exact key n 0 rfl (Nat.zero_le _)
theorem markBoard_eq (a : Int) (l : List Int) (hl : l.length ≤ 1048576) : Ev (fun k => laws_markBoard.f k a l 1) (((l.length + 1 : Nat) : Int), marks l.length) :=
  Ev.congr (fun k => rfl) (Ev.bind (markInts_eq l hl) (Ev.now _))
theorem heldBoard_eq (a : Int) (n : Nat) (hn : n ≤ 1048576) : Ev (fun k => laws_heldBoard.f k a (marks n) 1) ((n + 1 : Nat) : Int) := by
  refine Ev.congr (fun k => rfl) (Ev.bind (heldInts_eq n hn) ⟨0, fun k _ => ?_⟩)
  have g : ¬ ((n + 1 : Nat) : Int) < 0 := by omega
  show ite _ _ _ = _
  rw [if_neg g]
end Go.Proofs.YtljnblcflngliaaGreatDoorL
