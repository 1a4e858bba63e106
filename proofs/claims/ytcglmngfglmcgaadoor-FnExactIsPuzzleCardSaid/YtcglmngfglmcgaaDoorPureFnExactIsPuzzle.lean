/- The program's IsPuzzle returns what the reference's returns: for every puzzle the law FnExactIsPuzzle returns true. -/
import Derived.Test.YtcglmngfglmcgaaDoorLPuz
import Derived.Test.YtcglmngfglmcgaaDoorQx5
import Derived.Test.YtcglmngfglmcgaaDoorQx9
import Derived.Test.YtcglmngfglmcgaaDoorQx10
set_option linter.unusedVariables false
set_option linter.unusedSimpArgs false
namespace Go.Proofs.YtcglmngfglmcgaaDoor.Pure
open Go.RowKit Go.Proofs.YtcglmngfglmcgaaDoor.Q Go.Proofs.YtcglmngfglmcgaaDoorW.PrintWords Go.Proofs.YtcglmngfglmcgaaDoorW.PrintLast Go.Proofs.YtcglmngfglmcgaaDoorM Go.Proofs.YtcglmngfglmcgaaDoorL Go.Proofs.YtcglmngfglmcgaaDoorV
theorem FnExactIsPuzzle : ∀ (t s : ByteArray) (g : Int), t.size ≤ 140737488351232 → s.size ≤ 140737488351232 → (Lit.int .i64 g).wf = true → ∃ k, laws_FnExactIsPuzzle.f k t s g = some true := by
  intro t s g h0 h1 _
  rcases sz_cases t s g h0 h1 with ⟨v, hv, c⟩ | ⟨v, hv, c, ht⟩
  · exact ⟨0, by rw [laws_FnExactIsPuzzle.f, hv, Option.bind_some, if_pos c]⟩
  obtain ⟨b, S, I, _⟩ := puz_same t s g ht
  have S' : Ev (fun k => spec_IsPuzzle.f k t s g) b := Ev.congr (fun k => rfl) (Ev.bind S (Ev.now _))
  refine Ev.rounds (Ev.congr (fun k => by rw [laws_FnExactIsPuzzle.f, hv, Option.bind_some, if_neg c, laws_toPuzzle.f, Option.bind_some]) ?_)
  refine Ev.bind S' (Ev.bind (Ev.now _) (Ev.bind I ⟨0, fun k _ => ?_⟩))
  have hb : ¬ (b != b) = true := by cases b <;> decide
  show ite _ _ _ = _
  rw [if_neg hb]
end Go.Proofs.YtcglmngfglmcgaaDoor.Pure
