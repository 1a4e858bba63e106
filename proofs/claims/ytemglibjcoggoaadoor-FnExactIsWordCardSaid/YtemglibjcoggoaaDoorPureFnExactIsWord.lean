/- The program's IsWord returns what the reference's returns: for all arguments the law FnExactIsWord returns true. -/
import Derived.Test.YtemglibjcoggoaaDoorLWord
import Derived.Test.YtemglibjcoggoaaDoorQx1
set_option linter.unusedVariables false
set_option linter.unusedSimpArgs false
namespace Go.Proofs.YtemglibjcoggoaaDoor.Pure
open Go.RowKit Go.Proofs.YtemglibjcoggoaaDoor.Q Go.Proofs.YtemglibjcoggoaaDoorW.PrintWords Go.Proofs.YtemglibjcoggoaaDoorW.PrintLast Go.Proofs.YtemglibjcoggoaaDoorL
theorem FnExactIsWord : laws_FnExactIsWord.Pure := by
  intro a _
  by_cases hta : (a.size : Int) > 1048576
  · exact ⟨0, by rw [laws_FnExactIsWord.f, if_pos hta]⟩
  refine Ev.rounds (Ev.congr (fun k => by rw [laws_FnExactIsWord.f, if_neg hta]) ?_)
  refine Ev.bind (a := wordOk a) (Ev.congr (fun k => rfl) (Ev.bind (tiWord_eq a) (Ev.now _))) ?_
  refine ⟨0, fun k _ => ?_⟩
  show (impl_IsWord.f a).bind _ = _
  rw [isWord_eq a, Option.bind_some]
  cases wordOk a <;> rfl
end Go.Proofs.YtemglibjcoggoaaDoor.Pure
