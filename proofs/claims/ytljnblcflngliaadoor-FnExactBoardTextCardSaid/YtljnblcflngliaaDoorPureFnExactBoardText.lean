/- The program's BoardText returns what the reference's returns: for every board the law FnExactBoardText returns true. -/
import Derived.Test.YtljnblcflngliaaDoorLBText
import Derived.Test.YtljnblcflngliaaDoorQx4
import Derived.Test.YtljnblcflngliaaDoorQx6
import Derived.Test.YtljnblcflngliaaDoorQx7
set_option linter.unusedVariables false
set_option linter.unusedSimpArgs false
namespace Go.Proofs.YtljnblcflngliaaDoor.Pure
open Go.RowKit Go.Proofs.YtljnblcflngliaaDoor.Q Go.Proofs.YtljnblcflngliaaDoorW.PrintWords Go.Proofs.YtljnblcflngliaaDoorW.PrintLast Go.Proofs.YtljnblcflngliaaDoorV Go.Proofs.YtljnblcflngliaaDoorL
theorem alike (a : Int) (l : List Int) (hl : l.length ≤ 1048576) : ∃ r : ByteArray × Bool, Ev (fun k => spec_BoardText.f k a l) r ∧ Ev (fun k => impl_BoardText.f k a l) r := by
  have G := blGood_eq a l hl
  have hI : impl_IsBoard.f a l = some (isB a l) := isBoard_eq a l (by omega)
  cases hb : isB a l with
  | false =>
    rw [hb] at G hI
    refine ⟨(⟨#[]⟩, false), Ev.congr (fun k => rfl) (Ev.bind G ⟨0, fun k _ => rfl⟩), ⟨0, fun k _ => ?_⟩⟩
    show impl_BoardText.f k a l = _
    rw [impl_BoardText.f, hI]
    rfl
  | true =>
    rw [hb] at G hI
    obtain ⟨W, H, rfl, h2, h3, h4, h5, h6, h7⟩ := isB_facts hb
    have h9 : W * H ≤ 3 * 3 := Nat.mul_le_mul (by omega) (by omega)
    have hv : ∀ x ∈ l, 0 ≤ x ∧ x < 10 := fun x hx => by
      have := vals hb x hx
      omega
    have S := blText_eq W l h3 (by omega) hv
    have I := boardText_eq W H l h3 (by omega) h5 (by omega) h2 hv
    refine ⟨(bts (tx W l l.length), true), Ev.congr (fun k => rfl) (Ev.bind G ?_), ?_⟩
    · exact Ev.congr (f := fun k => (spec_blText.f k (W : Int) l).bind fun t122 => (some (t122, true))) (g := _) (r := _) (fun k => if_pos rfl) (Ev.bind S (Ev.now _))
    · refine Ev.congr (f := fun k => (impl_boardText.f k (W : Int) l).bind fun t145 => (some (t145, true))) (g := _) (r := _) (fun k => ?_) (Ev.bind I (Ev.now _))
      rw [impl_BoardText.f, hI, Option.bind_some, if_pos rfl]
theorem FnExactBoardText : ∀ (a : Int) (l : List Int), (Lit.int .i64 a).wf = true → l.length ≤ maxLen → (∀ x ∈ l, (Lit.int .i64 x).wf = true) → ∃ k, laws_FnExactBoardText.f k a l = some true := by
  intro a l _ hm _
  by_cases hl : l.length ≤ 1048576
  · have g : ¬ ((1048576 : Int) - (l.length : Int)) < 0 := by omega
    refine Ev.rounds (Ev.congr (fun k => by rw [laws_FnExactBoardText.f, szBoard_small a l hl, Option.bind_some, if_neg g]) ?_)
    have tb := toBoard_eq a l hl
    obtain ⟨⟨r1, r2⟩, hS, hI⟩ := alike a l hl
    have hb : (r2 != r2) = false := by cases r2 <;> rfl
    have hf : ¬ false = true := by decide
    have J0 : Ev (fun k => laws_FnExactBoardText.j0 k false a l a l) true := by
      refine Ev.step (f := fun k => (laws_toBoard.f k a l).bind fun bt166 => ((laws_eqBoard.f k a l bt166.1 bt166.2).bind fun t170 => (if t170 = true then (some true) else (some false)))) (fun k => by rw [laws_FnExactBoardText.j0, if_neg hf]) ?_
      exact Ev.bind tb (Ev.bind (eqBoard_same a l hl) (Ev.now _))
    refine Ev.bind tb (Ev.bind hS (Ev.bind tb (Ev.bind hI ?_)))
    exact Ev.congr (f := fun k => laws_FnExactBoardText.j0 k false a l a l) (g := _) (r := true) (fun k => (if_pos rfl).trans (by rw [hb])) J0
  · exact ⟨0, by rw [laws_FnExactBoardText.f, szBoard_great a l hl hm]; rfl⟩
end Go.Proofs.YtljnblcflngliaaDoor.Pure
