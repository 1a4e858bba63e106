/- The program's HoleOf returns what the reference's returns: for every board the law FnExactHoleOf returns true. -/
import Derived.Test.YtpbojlppeaobmaaLBoard
import Derived.Test.YtpbojlppeaobmaaQx4
set_option linter.unusedVariables false
set_option linter.unusedSimpArgs false
namespace Go.Proofs.Ytpbojlppeaobmaa.Pure
open Go.RowKit Go.Proofs.Ytpbojlppeaobmaa.Q Go.Proofs.YtpbojlppeaobmaaW.PrintWords Go.Proofs.YtpbojlppeaobmaaW.PrintLast Go.Proofs.YtpbojlppeaobmaaV Go.Proofs.YtpbojlppeaobmaaL

def zf : List Int → Nat → Int
  | [], _ => -1
  | c :: t, i => if c = 0 then (i : Int) else zf t (i + 1)
theorem blHole_eq (a : Int) (l : List Int) (hl : l.length ≤ 1048576) : Ev (fun k => spec_blHole.f k a l) (zf l 0) := by
  have key : ∀ (d i : Nat), l.length - i = d → i ≤ l.length → Ev (fun k => spec_blHole.l0 k l (l.length : Int) (i : Int)) (zf (l.drop i) i) := by
    intro d
    induction d with
    | zero =>
      intro i hd hi
      have g : ¬ ((i : Int) < (l.length : Int)) := by omega
      have e : i = l.length := by omega
      subst e
      rw [List.drop_length, zf]
      exact Ev.step (f := fun _ => some (-1)) (fun k => by rw [spec_blHole.l0, if_neg g]) (Ev.now _)
    | succ d ih =>
      intro i hd hi
      have hlt : i < l.length := by omega
      have h1 := ih (i + 1) (by omega) (by omega)
      have g : (i : Int) < (l.length : Int) := by omega
      have g0 : (0 : Int) ≤ (i : Int) := by omega
      have b : i + 1 < 4000000 := by omega
      have e : wrap64 ((i : Int) + 1) = ((i + 1 : Nat) : Int) := wb b rfl
      rw [List.drop_eq_getElem_cons hlt, zf]
      by_cases hx : l[i] = 0
      · rw [if_pos hx]
        exact Ev.step (f := fun _ => some (i : Int)) (fun k => by rw [spec_blHole.l0, if_pos g, if_pos g0, if_pos g, rd_at hlt, if_pos hx]) (Ev.now _)
      · rw [if_neg hx]
        exact Ev.step (fun k => by rw [spec_blHole.l0, if_pos g, if_pos g0, if_pos g, rd_at hlt, if_neg hx, e]) h1
  exact key l.length 0 rfl (Nat.zero_le _)
theorem index_eq (l : List Int) (hl : l.length ≤ 1048576) : Ev (fun k => slices_Index_int_int.f k l 0) (zf l 0) := by
  have key : ∀ (d i : Nat), l.length - i = d → i ≤ l.length → Ev (fun k => slices_Index_int_int.l0 k l 0 (l.length : Int) (i : Int)) (zf (l.drop i) i) := by
    intro d
    induction d with
    | zero =>
      intro i hd hi
      have g : ¬ ((i : Int) < (l.length : Int)) := by omega
      have e : i = l.length := by omega
      subst e
      rw [List.drop_length, zf]
      exact Ev.step (f := fun _ => some (-1)) (fun k => by rw [slices_Index_int_int.l0, if_neg g]) (Ev.now _)
    | succ d ih =>
      intro i hd hi
      have hlt : i < l.length := by omega
      have h1 := ih (i + 1) (by omega) (by omega)
      have g : (i : Int) < (l.length : Int) := by omega
      have g0 : (0 : Int) ≤ (i : Int) := by omega
      have b : i + 1 < 4000000 := by omega
      have e : wrap64 ((i : Int) + 1) = ((i + 1 : Nat) : Int) := wb b rfl
      rw [List.drop_eq_getElem_cons hlt, zf]
      by_cases hx : l[i] = 0
      · rw [if_pos hx]
        exact Ev.step (f := fun _ => some (i : Int)) (fun k => by rw [slices_Index_int_int.l0, if_pos g, if_pos g0, if_pos g, rd_at hlt, if_pos hx.symm]) (Ev.now _)
      · rw [if_neg hx]
        exact Ev.step (fun k => by rw [slices_Index_int_int.l0, if_pos g, if_pos g0, if_pos g, rd_at hlt, if_neg (fun h => hx h.symm), e]) h1
  exact key l.length 0 rfl (Nat.zero_le _)
theorem alike (a : Int) (l : List Int) (hl : l.length ≤ 1048576) : ∃ r : Int × Bool, Ev (fun k => spec_HoleOf.f k a l) r ∧ Ev (fun k => impl_HoleOf.f k a l) r := by
  have hI : impl_IsBoard.f a l = some (isB a l) := isBoard_eq a l (by omega)
  have hG := blGood_eq a l hl
  cases hb : isB a l with
  | true =>
    rw [hb] at hI hG
    refine ⟨(zf l 0, true), Ev.congr (fun k => rfl) (Ev.bind hG ?_), ?_⟩
    · exact Ev.congr (g := _) (r := (zf l 0, true)) (fun k => if_pos rfl) (Ev.bind (blHole_eq a l hl) (Ev.now _))
    · refine Ev.congr (f := fun k => (impl_Board_hole.f k a l).bind fun t154 => (some (t154, true))) (g := _) (r := (zf l 0, true)) (fun k => by rw [impl_HoleOf.f, hI, Option.bind_some, if_pos rfl]) (Ev.bind (a := zf l 0) (Ev.congr (fun k => rfl) (Ev.bind (index_eq l hl) (Ev.now _))) (Ev.now _))
  | false =>
    rw [hb] at hI hG
    refine ⟨(0, false), Ev.congr (fun k => rfl) (Ev.bind hG ⟨0, fun k _ => rfl⟩), ⟨0, fun k _ => ?_⟩⟩
    show impl_HoleOf.f k a l = _
    rw [impl_HoleOf.f, hI, Option.bind_some]
    rfl

theorem tail (a : Int) (l : List Int) (hl : l.length ≤ 1048576) (b : Bool) : Ev (fun k => laws_FnExactHoleOf.j0 k (b != b) a l a l) true := by
  have hb : (b != b) = false := by cases b <;> rfl
  rw [hb]
  refine Ev.step (f := fun k => (laws_toBoard.f k a l).bind fun bt170 => ((laws_eqBoard.f k a l bt170.1 bt170.2).bind fun t174 => (if t174 = true then (some true) else (some false)))) (fun k => by rw [laws_FnExactHoleOf.j0, if_neg (by decide)]) (Ev.bind (toBoard_eq a l hl) (Ev.bind (eqBoard_same a l hl) (Ev.now _)))
theorem FnExactHoleOf : ∀ (a : Int) (l : List Int), (Lit.int .i64 a).wf = true → l.length ≤ maxLen → (∀ x ∈ l, (Lit.int .i64 x).wf = true) → ∃ k, laws_FnExactHoleOf.f k a l = some true := by
  intro a l _ hm _
  by_cases hl : l.length ≤ 1048576
  · have g : ¬ ((1048576 : Int) - (l.length : Int)) < 0 := by omega
    refine Ev.rounds (Ev.congr (fun k => by rw [laws_FnExactHoleOf.f, szBoard_small a l hl, Option.bind_some, if_neg g]) ?_)
    have tb := toBoard_eq a l hl
    obtain ⟨r, hS, hI⟩ := alike a l hl
    refine Ev.bind tb (Ev.bind hS (Ev.bind tb (Ev.bind hI ?_)))
    refine Ev.congr (g := _) (r := true) (fun k => if_pos rfl) (tail a l hl r.2)
  · exact ⟨0, by rw [laws_FnExactHoleOf.f, szBoard_great a l hl hm]; rfl⟩
end Go.Proofs.Ytpbojlppeaobmaa.Pure
