/- The program's MoveHole returns what the reference's returns: for every board and every text the law FnExactMoveHole returns true. -/
import Derived.Test.YtdjffbjljccmjaaDoorLByWord
import Derived.Test.YtdjffbjljccmjaaDoorLMarkB
import Derived.Test.YtdjffbjljccmjaaDoorQx6
import Derived.Test.YtdjffbjljccmjaaDoorQx11
import Derived.Test.YtdjffbjljccmjaaDoorQx13
set_option linter.unusedVariables false
set_option linter.unusedSimpArgs false
namespace Go.Proofs.YtdjffbjljccmjaaDoor.Pure
open Go.RowKit Go.Proofs.YtdjffbjljccmjaaDoor.Q Go.Proofs.YtdjffbjljccmjaaDoorW.PrintWords Go.Proofs.YtdjffbjljccmjaaDoorW.PrintLast Go.Proofs.YtdjffbjljccmjaaDoorV Go.Proofs.YtdjffbjljccmjaaDoorL

theorem contains_one : ∀ c : UInt8, decide (0 ≤ Lib.indexByte (⟨#[117, 114, 100, 108]⟩ : ByteArray).data.toList c) = isDirB c := by
  have h : ∀ k : Fin 256, decide (0 ≤ Lib.indexByte (⟨#[117, 114, 100, 108]⟩ : ByteArray).data.toList (UInt8.ofNat k.val)) = isDirB (UInt8.ofNat k.val) := by decide +kernel
  intro c
  have := h ⟨c.toNat, c.toNat_lt⟩
  simpa using this
theorem dir_not (t : ByteArray) (h : t.size ≠ 1) : Ev (fun k => spec_tiDir.f k t) (-1) := by
  have key : ∀ (d i : Nat), 4 - i = d → i ≤ 4 → Ev (fun k => spec_tiDir.l0 k t (i : Int)) (-1) := by
    intro d
    induction d with
    | zero =>
      intro i hd hi
      have g : ¬ ((i : Int) < 4) := by omega
      exact Ev.step (f := fun _ => some (-1)) (fun k => by rw [spec_tiDir.l0, if_neg g]) (Ev.now _)
    | succ d ih =>
      intro i hd hi
      have h1 := ih (i + 1) (by omega) (by omega)
      have g : (i : Int) < 4 := by omega
      have g0 : (0 : Int) ≤ (i : Int) := by omega
      have g1 : (i : Int) ≤ ((i + 1 : Nat) : Int) := by omega
      have g2 : ((i + 1 : Nat) : Int) ≤ (((⟨#[117, 114, 100, 108]⟩ : ByteArray).size : Nat) : Int) := by
        have : (⟨#[117, 114, 100, 108]⟩ : ByteArray).size = 4 := rfl
        omega
      have e : wrap64 ((i : Int) + 1) = ((i + 1 : Nat) : Int) := wb (by omega) rfl
      have hD : spec_tiDirs.f = some (⟨#[117, 114, 100, 108]⟩ : ByteArray) := rfl
      have hne : ¬ t.toList = ((⟨#[117, 114, 100, 108]⟩ : ByteArray).extract i (i + 1)).toList := by
        intro he
        rw [Lib.toList_data, Lib.toList_data] at he
        have hl : t.size = ((⟨#[117, 114, 100, 108]⟩ : ByteArray).extract i (i + 1)).size := by
          have h2 := congrArg List.length he
          rw [Array.length_toList, Array.length_toList] at h2
          exact h2
        rw [ByteArray.size_extract] at hl
        have : (⟨#[117, 114, 100, 108]⟩ : ByteArray).size = 4 := rfl
        omega
      exact Ev.step (fun k => by rw [spec_tiDir.l0, if_pos g, hD, Option.bind_some, if_pos g0, e, if_pos g1, if_pos g2, Int.toNat_natCast, Int.toNat_natCast, if_neg hne]) h1
  exact key 4 0 rfl (by omega)
theorem alike (a : Int) (l : List Int) (t : ByteArray) (hl : l.length ≤ 1048576) : ∃ r : Int × List Int × Bool, Ev (fun k => spec_MoveHole.f k a l t) r ∧ Ev (fun k => impl_MoveHole.f k a l t) r ∧ r.2.1.length ≤ 1048576 := by
  by_cases hz : t.size = 1
  · obtain ⟨c, rfl⟩ := Lib.one_byte t hz
    have D := tiDir_eq c
    have hn := dirI_neg c
    have hd : impl_isDir.f ⟨#[c]⟩ = some (isDirB c) := by
      have g : (((⟨#[c]⟩ : ByteArray).size : Nat) : Int) = 1 := rfl
      have hc : strings_Contains.f (⟨#[117, 114, 100, 108]⟩ : ByteArray) ⟨#[c]⟩ = some (isDirB c) := by
        rw [strings_Contains.f, if_pos hz, ← contains_one c]
        rfl
      rw [impl_isDir.f, if_pos g, hc, Option.bind_some]
    cases hb : isDirB c with
    | false =>
      rw [hb, Bool.not_false] at hn
      rw [hb] at hd
      refine ⟨(0, [], false), Ev.congr (fun k => rfl) (Ev.bind D ⟨0, fun k _ => if_pos (of_decide_eq_true hn)⟩), ⟨0, fun k _ => ?_⟩, Nat.zero_le _⟩
      show impl_MoveHole.f k a l _ = _
      rw [impl_MoveHole.f, hd, Option.bind_some]
      rfl
    | true =>
      rw [hb, Bool.not_true] at hn
      rw [hb] at hd
      obtain ⟨r, h1, h2, h3⟩ := byWord a l ⟨#[c]⟩ hl
      refine ⟨r, Ev.congr (fun k => rfl) (Ev.bind D ?_), ?_, h3⟩
      · exact Ev.congr (f := fun k => (spec_MoveByWord.f k a l ⟨#[c]⟩).bind fun bt150 => (some (bt150.1, bt150.2.1, bt150.2.2))) (g := _) (r := r) (fun k => if_neg (of_decide_eq_false hn)) (Ev.bind h1 (Ev.now _))
      · refine Ev.congr (f := fun k => (impl_MoveByWord.f k a l ⟨#[c]⟩).bind fun bt206 => (some (bt206.1, bt206.2.1, bt206.2.2))) (g := _) (r := r) (fun k => ?_) (Ev.bind h2 (Ev.now _))
        rw [impl_MoveHole.f, hd, Option.bind_some, if_pos rfl]
  · have D := dir_not t hz
    have hd : impl_isDir.f t = some false := by
      have g : ¬ ((t.size : Nat) : Int) = 1 := by omega
      rw [impl_isDir.f, if_neg g]
    refine ⟨(0, [], false), Ev.congr (fun k => rfl) (Ev.bind D ⟨0, fun k _ => if_pos (by decide)⟩), ⟨0, fun k _ => ?_⟩, Nat.zero_le _⟩
    show impl_MoveHole.f k a l _ = _
    rw [impl_MoveHole.f, hd, Option.bind_some]
    rfl
theorem FnExactMoveHole : ∀ (a : Int) (l : List Int) (t : ByteArray), (Lit.int .i64 a).wf = true → l.length ≤ maxLen → (∀ x ∈ l, (Lit.int .i64 x).wf = true) → t.size ≤ 140737488351232 → ∃ k, laws_FnExactMoveHole.f k a l t = some true := by
  intro a l t _ hm _ _
  by_cases hta : (t.size : Int) > 1048576
  · exact ⟨0, by rw [laws_FnExactMoveHole.f, if_pos hta]⟩
  by_cases hl : l.length ≤ 1048576
  · have g : ¬ ((1048576 : Int) - (l.length : Int)) < 0 := by omega
    refine Ev.rounds (Ev.congr (fun k => by rw [laws_FnExactMoveHole.f, if_neg hta, szBoard_small a l hl, Option.bind_some, if_neg g]) ?_)
    have tb := toBoard_eq a l hl
    obtain ⟨⟨r1, r2, r3⟩, hS, hI, hr⟩ := alike a l t hl
    have hb : (r3 != r3) = false := by cases r3 <;> rfl
    have hf : ¬ false = true := by decide
    have er := eqBoard_same r1 r2 hr
    have mr := markBoard_eq r1 r2 hr
    have hr2 := heldBoard_eq r1 r2.length hr
    have ma := markBoard_eq a l hl
    have n0 : ¬ ((l.length + 1 : Nat) : Int) < 0 := by omega
    have n1 : ¬ ((r2.length + 1 : Nat) : Int) < 0 := by omega
    have J2 : Ev (fun k => laws_FnExactMoveHole.j2 k ((r2.length + 1 : Nat) : Int) false r1 (marks r2.length)) true := by
      refine Ev.step (f := fun k => (laws_heldBoard.f k r1 (marks r2.length) 1).bind fun t316 => (if t316 < 0 then (some false) else (if t316 = ((r2.length + 1 : Nat) : Int) then (some true) else (some false)))) (fun k => by rw [laws_FnExactMoveHole.j2, if_neg hf]) (Ev.bind hr2 ⟨0, fun k _ => ?_⟩)
      rw [if_neg n1, if_pos rfl]
    have J1 : Ev (fun k => laws_FnExactMoveHole.j1 k t r3 false a l r1 r2 r1 r2) true := by
      refine Ev.step (f := fun k => (laws_markBoard.f k r1 r2 1).bind fun bt302 => ((laws_heldBoard.f k r1 bt302.2 1).bind fun t304 => (if t304 < 0 then (some false) else (if t304 = bt302.1 then ((laws_toBoard.f k a l).bind fun bt305 => ((impl_MoveHole.f k bt305.1 bt305.2 t).bind fun bt309 => ((laws_eqBoard.f k bt309.1 bt309.2.1 r1 r2).bind fun t315 => (if t315 = true then (laws_FnExactMoveHole.j2 k bt302.1 (bt309.2.2 != r3) r1 bt302.2) else (laws_FnExactMoveHole.j2 k bt302.1 true r1 bt302.2))))) else (some false))))) (fun k => by rw [laws_FnExactMoveHole.j1, if_neg hf]) ?_
      refine Ev.bind mr (Ev.bind hr2 ?_)
      refine Ev.congr (f := fun k => (laws_toBoard.f k a l).bind fun bt305 => ((impl_MoveHole.f k bt305.1 bt305.2 t).bind fun bt309 => ((laws_eqBoard.f k bt309.1 bt309.2.1 r1 r2).bind fun t315 => (if t315 = true then (laws_FnExactMoveHole.j2 k ((r2.length + 1 : Nat) : Int) (bt309.2.2 != r3) r1 (marks r2.length)) else (laws_FnExactMoveHole.j2 k ((r2.length + 1 : Nat) : Int) true r1 (marks r2.length)))))) (g := _) (r := true) (fun k => (if_neg n1).trans (if_pos rfl)) ?_
      refine Ev.bind tb (Ev.bind hI (Ev.bind er ?_))
      exact Ev.congr (f := fun k => laws_FnExactMoveHole.j2 k ((r2.length + 1 : Nat) : Int) false r1 (marks r2.length)) (g := _) (r := true) (fun k => (if_pos rfl).trans (by rw [hb])) J2
    have J0 : Ev (fun k => laws_FnExactMoveHole.j0 k t r3 r3 false a l r1 r2 a l r1 r2) true := by
      refine Ev.step (f := fun k => (laws_toBoard.f k a l).bind fun bt294 => ((laws_eqBoard.f k a l bt294.1 bt294.2).bind fun t298 => (if t298 = true then ((laws_markBoard.f k a l 1).bind fun bt299 => (if bt299.1 < 0 then (laws_FnExactMoveHole.j1 k t r3 true a l r1 r2 r1 r2) else ((laws_eqBoard.f k r1 r2 r1 r2).bind fun t301 => (if t301 = true then (laws_FnExactMoveHole.j1 k t r3 (r3 != r3) a l r1 r2 r1 r2) else (laws_FnExactMoveHole.j1 k t r3 true a l r1 r2 r1 r2))))) else (some false)))) (fun k => by rw [laws_FnExactMoveHole.j0, if_neg hf]) ?_
      refine Ev.bind tb (Ev.bind (eqBoard_same a l hl) ?_)
      refine Ev.congr (f := fun k => (laws_markBoard.f k a l 1).bind fun bt299 => (if bt299.1 < 0 then (laws_FnExactMoveHole.j1 k t r3 true a l r1 r2 r1 r2) else ((laws_eqBoard.f k r1 r2 r1 r2).bind fun t301 => (if t301 = true then (laws_FnExactMoveHole.j1 k t r3 (r3 != r3) a l r1 r2 r1 r2) else (laws_FnExactMoveHole.j1 k t r3 true a l r1 r2 r1 r2))))) (g := _) (r := true) (fun k => if_pos rfl) ?_
      refine Ev.bind ma ?_
      refine Ev.congr (f := fun k => (laws_eqBoard.f k r1 r2 r1 r2).bind fun t301 => (if t301 = true then (laws_FnExactMoveHole.j1 k t r3 (r3 != r3) a l r1 r2 r1 r2) else (laws_FnExactMoveHole.j1 k t r3 true a l r1 r2 r1 r2))) (g := _) (r := true) (fun k => if_neg n0) (Ev.bind er ?_)
      exact Ev.congr (f := fun k => laws_FnExactMoveHole.j1 k t r3 false a l r1 r2 r1 r2) (g := _) (r := true) (fun k => (if_pos rfl).trans (by rw [hb])) J1
    refine Ev.bind tb (Ev.bind hS (Ev.bind tb (Ev.bind hI (Ev.bind er ?_))))
    exact Ev.congr (f := fun k => laws_FnExactMoveHole.j0 k t r3 r3 false a l r1 r2 a l r1 r2) (g := _) (r := true) (fun k => (if_pos rfl).trans (by rw [hb])) J0
  · exact ⟨0, by rw [laws_FnExactMoveHole.f, if_neg hta, szBoard_great a l hl hm]; rfl⟩
end Go.Proofs.YtdjffbjljccmjaaDoor.Pure
