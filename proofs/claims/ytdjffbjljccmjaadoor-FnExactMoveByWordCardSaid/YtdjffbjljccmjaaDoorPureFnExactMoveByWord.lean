/- The program's MoveByWord returns what the reference's returns: for every board and every text the law FnExactMoveByWord returns true. -/
import Derived.Test.YtdjffbjljccmjaaDoorLByWord
import Derived.Test.YtdjffbjljccmjaaDoorLMarkB
import Derived.Test.YtdjffbjljccmjaaDoorQx14
set_option linter.unusedVariables false
set_option linter.unusedSimpArgs false
namespace Go.Proofs.YtdjffbjljccmjaaDoor.Pure
open Go.RowKit Go.Proofs.YtdjffbjljccmjaaDoor.Q Go.Proofs.YtdjffbjljccmjaaDoorW.PrintWords Go.Proofs.YtdjffbjljccmjaaDoorW.PrintLast Go.Proofs.YtdjffbjljccmjaaDoorV Go.Proofs.YtdjffbjljccmjaaDoorL
theorem alike (a : Int) (l : List Int) (t : ByteArray) (hl : l.length ≤ 1048576) : ∃ r : Int × List Int × Bool, Ev (fun k => spec_MoveByWord.f k a l t) r ∧ Ev (fun k => impl_MoveByWord.f k a l t) r ∧ r.2.1.length ≤ 1048576 := byWord a l t hl
theorem FnExactMoveByWord : ∀ (a : Int) (l : List Int) (t : ByteArray), (Lit.int .i64 a).wf = true → l.length ≤ maxLen → (∀ x ∈ l, (Lit.int .i64 x).wf = true) → t.size ≤ 140737488351232 → ∃ k, laws_FnExactMoveByWord.f k a l t = some true := by
  intro a l t _ hm _ _
  by_cases hta : (t.size : Int) > 1048576
  · exact ⟨0, by rw [laws_FnExactMoveByWord.f, if_pos hta]⟩
  by_cases hl : l.length ≤ 1048576
  · have g : ¬ ((1048576 : Int) - (l.length : Int)) < 0 := by omega
    refine Ev.rounds (Ev.congr (fun k => by rw [laws_FnExactMoveByWord.f, if_neg hta, szBoard_small a l hl, Option.bind_some, if_neg g]) ?_)
    have tb := toBoard_eq a l hl
    obtain ⟨⟨r1, r2, r3⟩, hS, hI, hr⟩ := alike a l t hl
    have hb : (r3 != r3) = false := by cases r3 <;> rfl
    have hf : ¬ false = true := by decide
    have er := eqBoard_same r1 r2 hr
    have mr := markBoard_eq r1 r2 hr
    have hr2 := heldBoard_eq r1 r2.length hr
    have ma := markBoard_eq a l hl
    have n0 : ¬ ((l.length + 1 : Nat) : Int) < 0 := by omega
    have n1 : ¬ ((r2.length + 1 : Nat) : Int) < 0 := by omega
    have J2 : Ev (fun k => laws_FnExactMoveByWord.j2 k ((r2.length + 1 : Nat) : Int) false r1 (marks r2.length)) true := by
      refine Ev.step (f := fun k => (laws_heldBoard.f k r1 (marks r2.length) 1).bind fun t316 => (if t316 < 0 then (some false) else (if t316 = ((r2.length + 1 : Nat) : Int) then (some true) else (some false)))) (fun k => by rw [laws_FnExactMoveByWord.j2, if_neg hf]) (Ev.bind hr2 ⟨0, fun k _ => ?_⟩)
      rw [if_neg n1, if_pos rfl]
    have J1 : Ev (fun k => laws_FnExactMoveByWord.j1 k t r3 false a l r1 r2 r1 r2) true := by
      refine Ev.step (f := fun k => (laws_markBoard.f k r1 r2 1).bind fun bt302 => ((laws_heldBoard.f k r1 bt302.2 1).bind fun t304 => (if t304 < 0 then (some false) else (if t304 = bt302.1 then ((laws_toBoard.f k a l).bind fun bt305 => ((impl_MoveByWord.f k bt305.1 bt305.2 t).bind fun bt309 => ((laws_eqBoard.f k bt309.1 bt309.2.1 r1 r2).bind fun t315 => (if t315 = true then (laws_FnExactMoveByWord.j2 k bt302.1 (bt309.2.2 != r3) r1 bt302.2) else (laws_FnExactMoveByWord.j2 k bt302.1 true r1 bt302.2))))) else (some false))))) (fun k => by rw [laws_FnExactMoveByWord.j1, if_neg hf]) ?_
      refine Ev.bind mr (Ev.bind hr2 ?_)
      refine Ev.congr (f := fun k => (laws_toBoard.f k a l).bind fun bt305 => ((impl_MoveByWord.f k bt305.1 bt305.2 t).bind fun bt309 => ((laws_eqBoard.f k bt309.1 bt309.2.1 r1 r2).bind fun t315 => (if t315 = true then (laws_FnExactMoveByWord.j2 k ((r2.length + 1 : Nat) : Int) (bt309.2.2 != r3) r1 (marks r2.length)) else (laws_FnExactMoveByWord.j2 k ((r2.length + 1 : Nat) : Int) true r1 (marks r2.length)))))) (g := _) (r := true) (fun k => (if_neg n1).trans (if_pos rfl)) ?_
      refine Ev.bind tb (Ev.bind hI (Ev.bind er ?_))
      exact Ev.congr (f := fun k => laws_FnExactMoveByWord.j2 k ((r2.length + 1 : Nat) : Int) false r1 (marks r2.length)) (g := _) (r := true) (fun k => (if_pos rfl).trans (by rw [hb])) J2
    have J0 : Ev (fun k => laws_FnExactMoveByWord.j0 k t r3 r3 false a l r1 r2 a l r1 r2) true := by
      refine Ev.step (f := fun k => (laws_toBoard.f k a l).bind fun bt294 => ((laws_eqBoard.f k a l bt294.1 bt294.2).bind fun t298 => (if t298 = true then ((laws_markBoard.f k a l 1).bind fun bt299 => (if bt299.1 < 0 then (laws_FnExactMoveByWord.j1 k t r3 true a l r1 r2 r1 r2) else ((laws_eqBoard.f k r1 r2 r1 r2).bind fun t301 => (if t301 = true then (laws_FnExactMoveByWord.j1 k t r3 (r3 != r3) a l r1 r2 r1 r2) else (laws_FnExactMoveByWord.j1 k t r3 true a l r1 r2 r1 r2))))) else (some false)))) (fun k => by rw [laws_FnExactMoveByWord.j0, if_neg hf]) ?_
      refine Ev.bind tb (Ev.bind (eqBoard_same a l hl) ?_)
      refine Ev.congr (f := fun k => (laws_markBoard.f k a l 1).bind fun bt299 => (if bt299.1 < 0 then (laws_FnExactMoveByWord.j1 k t r3 true a l r1 r2 r1 r2) else ((laws_eqBoard.f k r1 r2 r1 r2).bind fun t301 => (if t301 = true then (laws_FnExactMoveByWord.j1 k t r3 (r3 != r3) a l r1 r2 r1 r2) else (laws_FnExactMoveByWord.j1 k t r3 true a l r1 r2 r1 r2))))) (g := _) (r := true) (fun k => if_pos rfl) ?_
      refine Ev.bind ma ?_
      refine Ev.congr (f := fun k => (laws_eqBoard.f k r1 r2 r1 r2).bind fun t301 => (if t301 = true then (laws_FnExactMoveByWord.j1 k t r3 (r3 != r3) a l r1 r2 r1 r2) else (laws_FnExactMoveByWord.j1 k t r3 true a l r1 r2 r1 r2))) (g := _) (r := true) (fun k => if_neg n0) (Ev.bind er ?_)
      exact Ev.congr (f := fun k => laws_FnExactMoveByWord.j1 k t r3 false a l r1 r2 r1 r2) (g := _) (r := true) (fun k => (if_pos rfl).trans (by rw [hb])) J1
    refine Ev.bind tb (Ev.bind hS (Ev.bind tb (Ev.bind hI (Ev.bind er ?_))))
    exact Ev.congr (f := fun k => laws_FnExactMoveByWord.j0 k t r3 r3 false a l r1 r2 a l r1 r2) (g := _) (r := true) (fun k => (if_pos rfl).trans (by rw [hb])) J0
  · exact ⟨0, by rw [laws_FnExactMoveByWord.f, if_neg hta, szBoard_great a l hl hm]; rfl⟩
end Go.Proofs.YtdjffbjljccmjaaDoor.Pure
