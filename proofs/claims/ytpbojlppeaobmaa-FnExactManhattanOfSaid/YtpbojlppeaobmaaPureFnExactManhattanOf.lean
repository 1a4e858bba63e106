/- The program's ManhattanOf returns what the reference's returns: for every board the law FnExactManhattanOf returns true. -/
import Derived.Test.YtpbojlppeaobmaaLBoard
import Derived.Test.YtpbojlppeaobmaaQx4
import Derived.Test.YtpbojlppeaobmaaQx5
set_option linter.unusedVariables false
set_option linter.unusedSimpArgs false
namespace Go.Proofs.Ytpbojlppeaobmaa.Pure
open Go.RowKit Go.Proofs.Ytpbojlppeaobmaa.Q Go.Proofs.YtpbojlppeaobmaaW.PrintWords Go.Proofs.YtpbojlppeaobmaaW.PrintLast Go.Proofs.YtpbojlppeaobmaaW.PrintMore Go.Proofs.YtpbojlppeaobmaaV Go.Proofs.YtpbojlppeaobmaaL

def XX (w i c : Int) : Int := wrap64 ((Int.tmod i w) - (Int.tmod (wrap64 (c - 1)) w))
def YY (w i c : Int) : Int := wrap64 ((wrap64 (Int.tdiv i w)) - (wrap64 (Int.tdiv (wrap64 (c - 1)) w)))
def stp (w i c acc : Int) : Int := wrap64 (acc + (wrap64 ((mx (XX w i c) (wrap64 (-(XX w i c)))) + (mx (YY w i c) (wrap64 (-(YY w i c)))))))
def mf (w : Int) : List Int → Nat → Int → Int
  | [], _, acc => acc
  | c :: t, i, acc => mf w t (i + 1) (if c > 0 then stp w i c acc else acc)
theorem l1Abs_eq (z : Int) : spec_l1Abs.f z = some (mx z (wrap64 (-z))) := by
  rw [spec_l1Abs.f, spec_l1Most.f]
  obtain ⟨y, hy⟩ : ∃ y, wrap64 (-z) = y := ⟨_, rfl⟩
  rw [hy]
  unfold mx
  by_cases h1 : z > y
  · rw [if_pos h1, Option.bind_some, if_neg (by omega)]
  · by_cases h2 : z < y
    · rw [if_neg h1, Option.bind_some, if_pos h2]
    · have e : z = y := by omega
      rw [if_neg h1, Option.bind_some, if_neg h2, e]
theorem steps_eq (w i c : Int) (l : List Int) (hw : ¬ w = 0) : spec_blSteps.f w l i (wrap64 (c - 1)) = some (wrap64 ((mx (XX w i c) (wrap64 (-(XX w i c)))) + (mx (YY w i c) (wrap64 (-(YY w i c)))))) := by
  rw [spec_blSteps.f, if_neg hw, l1Abs_eq, Option.bind_some, l1Abs_eq, Option.bind_some]
  rfl
theorem spec_loop (w : Int) (hw : ¬ w = 0) (l : List Int) (hl : l.length ≤ 1048576) : ∀ (d i : Nat) (acc : Int), l.length - i = d → i ≤ l.length → Ev (fun k => spec_ManhattanOf.l0 k acc l (l.length : Int) (i : Int) w l) (mf w (l.drop i) i acc, true) := by
  intro d
  induction d with
  | zero =>
    intro i acc hd hi
    have g : ¬ ((i : Int) < (l.length : Int)) := by omega
    have e : i = l.length := by omega
    subst e
    rw [List.drop_length, mf]
    exact Ev.step (f := fun _ => some (acc, true)) (fun k => by rw [spec_ManhattanOf.l0, if_neg g]) (Ev.now _)
  | succ d ih =>
    intro i acc hd hi
    have hlt : i < l.length := by omega
    have g : (i : Int) < (l.length : Int) := by omega
    have g0 : (0 : Int) ≤ (i : Int) := by omega
    have b : i + 1 < 4000000 := by omega
    have e : wrap64 ((i : Int) + 1) = ((i + 1 : Nat) : Int) := wb b rfl
    rw [List.drop_eq_getElem_cons hlt, mf]
    by_cases hx : l[i] > 0
    · rw [if_pos hx]
      have h1 := ih (i + 1) (stp w i l[i] acc) (by omega) (by omega)
      exact Ev.step (fun k => by rw [spec_ManhattanOf.l0, if_pos g, if_pos g0, if_pos g, rd_at hlt, if_pos hx, steps_eq w i l[i] l hw, Option.bind_some, e]; rfl) h1
    · rw [if_neg hx]
      have h1 := ih (i + 1) acc (by omega) (by omega)
      exact Ev.step (fun k => by rw [spec_ManhattanOf.l0, if_pos g, if_pos g0, if_pos g, rd_at hlt, if_neg hx, e]) h1
theorem impl_loop (w : Int) (hw : ¬ w = 0) (l : List Int) (hl : l.length ≤ 1048576) : ∀ (d i : Nat) (acc : Int), l.length - i = d → i ≤ l.length → Ev (fun k => impl_ManhattanOf.l0 k acc l (l.length : Int) (i : Int) w l) (mf w (l.drop i) i acc, true) := by
  intro d
  induction d with
  | zero =>
    intro i acc hd hi
    have g : ¬ ((i : Int) < (l.length : Int)) := by omega
    have e : i = l.length := by omega
    subst e
    rw [List.drop_length, mf]
    exact Ev.step (f := fun _ => some (acc, true)) (fun k => by rw [impl_ManhattanOf.l0, if_neg g]) (Ev.now _)
  | succ d ih =>
    intro i acc hd hi
    have hlt : i < l.length := by omega
    have g : (i : Int) < (l.length : Int) := by omega
    have g0 : (0 : Int) ≤ (i : Int) := by omega
    have b : i + 1 < 4000000 := by omega
    have e : wrap64 ((i : Int) + 1) = ((i + 1 : Nat) : Int) := wb b rfl
    rw [List.drop_eq_getElem_cons hlt, mf]
    by_cases hx : l[i] > 0
    · rw [if_pos hx]
      have h1 := ih (i + 1) (stp w i l[i] acc) (by omega) (by omega)
      exact Ev.step (fun k => by rw [impl_ManhattanOf.l0, if_pos g, if_pos g0, if_pos g, rd_at hlt, if_pos hx, if_neg hw, e]; rfl) h1
    · rw [if_neg hx]
      have h1 := ih (i + 1) acc (by omega) (by omega)
      exact Ev.step (fun k => by rw [impl_ManhattanOf.l0, if_pos g, if_pos g0, if_pos g, rd_at hlt, if_neg hx, e]) h1
theorem alike (a : Int) (l : List Int) (hl : l.length ≤ 1048576) : ∃ r : Int × Bool, Ev (fun k => spec_ManhattanOf.f k a l) r ∧ Ev (fun k => impl_ManhattanOf.f k a l) r := by
  have hI : impl_IsBoard.f a l = some (isB a l) := isBoard_eq a l (by omega)
  have hG := blGood_eq a l hl
  cases hb : isB a l with
  | true =>
    have ha : ¬ a = 0 := by
      unfold isB at hb
      simp only [Bool.and_eq_true, decide_eq_true_eq] at hb
      omega
    rw [hb] at hI hG
    refine ⟨(mf a l 0 0, true), Ev.congr (fun k => rfl) (Ev.bind hG ?_), ?_⟩
    · exact Ev.congr (g := _) (r := (mf a l 0 0, true)) (fun k => if_pos rfl) (spec_loop a ha l hl l.length 0 0 rfl (Nat.zero_le _))
    · exact Ev.congr (g := _) (r := (mf a l 0 0, true)) (fun k => by rw [impl_ManhattanOf.f, hI, Option.bind_some, if_pos rfl]; rfl) (impl_loop a ha l hl l.length 0 0 rfl (Nat.zero_le _))
  | false =>
    rw [hb] at hI hG
    refine ⟨(0, false), Ev.congr (fun k => rfl) (Ev.bind hG ⟨0, fun k _ => rfl⟩), ⟨0, fun k _ => ?_⟩⟩
    show impl_ManhattanOf.f k a l = _
    rw [impl_ManhattanOf.f, hI, Option.bind_some]
    rfl

theorem tail (a : Int) (l : List Int) (hl : l.length ≤ 1048576) (b : Bool) : Ev (fun k => laws_FnExactManhattanOf.j0 k (b != b) a l a l) true := by
  have hb : (b != b) = false := by cases b <;> rfl
  rw [hb]
  refine Ev.step (f := fun k => (laws_toBoard.f k a l).bind fun bt170 => ((laws_eqBoard.f k a l bt170.1 bt170.2).bind fun t174 => (if t174 = true then (some true) else (some false)))) (fun k => by rw [laws_FnExactManhattanOf.j0, if_neg (by decide)]) (Ev.bind (toBoard_eq a l hl) (Ev.bind (eqBoard_same a l hl) (Ev.now _)))
theorem FnExactManhattanOf : ∀ (a : Int) (l : List Int), (Lit.int .i64 a).wf = true → l.length ≤ maxLen → (∀ x ∈ l, (Lit.int .i64 x).wf = true) → ∃ k, laws_FnExactManhattanOf.f k a l = some true := by
  intro a l _ hm _
  by_cases hl : l.length ≤ 1048576
  · have g : ¬ ((1048576 : Int) - (l.length : Int)) < 0 := by omega
    refine Ev.rounds (Ev.congr (fun k => by rw [laws_FnExactManhattanOf.f, szBoard_small a l hl, Option.bind_some, if_neg g]) ?_)
    have tb := toBoard_eq a l hl
    obtain ⟨r, hS, hI⟩ := alike a l hl
    refine Ev.bind tb (Ev.bind hS (Ev.bind tb (Ev.bind hI ?_)))
    refine Ev.congr (g := _) (r := true) (fun k => if_pos rfl) (tail a l hl r.2)
  · exact ⟨0, by rw [laws_FnExactManhattanOf.f, szBoard_great a l hl hm]; rfl⟩
end Go.Proofs.Ytpbojlppeaobmaa.Pure
