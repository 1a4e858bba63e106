/- The program's IsBoard returns what the reference's returns: for every board the law FnExactIsBoard returns true. -/
import Derived.Test.YtpbojlppeaobmaaLBoard
import Derived.Test.YtpbojlppeaobmaaQx2
set_option linter.unusedVariables false
set_option linter.unusedSimpArgs false
namespace Go.Proofs.Ytpbojlppeaobmaa.Pure
open Go.RowKit Go.Proofs.Ytpbojlppeaobmaa.Q Go.Proofs.YtpbojlppeaobmaaW.PrintWords Go.Proofs.YtpbojlppeaobmaaW.PrintLast Go.Proofs.YtpbojlppeaobmaaV Go.Proofs.YtpbojlppeaobmaaL

theorem FnExactIsBoard : ∀ (a : Int) (l : List Int), (Lit.int .i64 a).wf = true → l.length ≤ maxLen → (∀ x ∈ l, (Lit.int .i64 x).wf = true) → ∃ k, laws_FnExactIsBoard.f k a l = some true := by
  intro a l _ hm _
  by_cases hl : l.length ≤ 1048576
  · have g : ¬ ((1048576 : Int) - (l.length : Int)) < 0 := by omega
    refine Ev.rounds (Ev.congr (fun k => by rw [laws_FnExactIsBoard.f, szBoard_small a l hl, Option.bind_some, if_neg g]) ?_)
    have tb := toBoard_eq a l hl
    have hI : impl_IsBoard.f a l = some (isB a l) := isBoard_eq a l (by omega)
    refine Ev.bind tb (Ev.bind (a := isB a l) (Ev.congr (fun k => rfl) (Ev.bind (blGood_eq a l hl) (Ev.now _))) (Ev.bind tb ?_))
    refine Ev.congr (f := fun k => (laws_toBoard.f k a l).bind fun bt141 => ((laws_eqBoard.f k a l bt141.1 bt141.2).bind fun t145 => (if t145 = true then (some true) else (some false)))) (g := _) (r := true) (fun k => ?_) (Ev.bind tb (Ev.bind (eqBoard_same a l hl) (Ev.now _)))
    show (impl_IsBoard.f a l).bind _ = _
    rw [hI, Option.bind_some, if_neg (by cases isB a l <;> decide)]
  · exact ⟨0, by rw [laws_FnExactIsBoard.f, szBoard_great a l hl hm]; rfl⟩
end Go.Proofs.Ytpbojlppeaobmaa.Pure
