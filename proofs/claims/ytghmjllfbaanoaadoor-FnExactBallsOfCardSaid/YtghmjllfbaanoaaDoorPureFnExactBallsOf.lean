/- The program's BallsOf returns what the reference's returns: for all arguments the law FnExactBallsOf returns true. -/
import Derived.Test.YtghmjllfbaanoaaDoorLMark
import Derived.Test.YtghmjllfbaanoaaDoorQx25
set_option linter.unusedVariables false
set_option linter.unusedSimpArgs false
namespace Go.Proofs.YtghmjllfbaanoaaDoor.Pure
open Go.RowKit Go.Proofs.YtghmjllfbaanoaaDoor.Q Go.Proofs.YtghmjllfbaanoaaDoorW.PrintWords Go.Proofs.YtghmjllfbaanoaaDoorW.PrintLast Go.Proofs.YtghmjllfbaanoaaDoorM Go.Proofs.YtghmjllfbaanoaaDoorL

def ball (c : Int) : Bool := decide (c = 111) || (decide (97 ≤ c) && decide (c ≤ 102))
theorem tyBall_eq (c : Int) : spec_tyBall.f c = some (ball c) := by
  unfold ball
  rw [spec_tyBall.f]
  by_cases h : c = 111
  · rw [if_pos h, decide_eq_true h]; rfl
  · rw [if_neg h, decide_eq_false h, Bool.false_or]
    by_cases h2 : c ≥ 97
    · rw [if_pos h2, decide_eq_true h2]; rfl
    · rw [if_neg h2, decide_eq_false h2]; rfl
theorem isBall_eq (c : Int) : impl_isBall.f c = some (ball c) := by
  unfold ball
  rw [impl_isBall.f, impl_isName.f]
  by_cases h : c = 111
  · rw [if_pos h, decide_eq_true h]; rfl
  · rw [if_neg h, decide_eq_false h, Bool.false_or]
    by_cases h2 : c ≥ 97
    · rw [if_pos h2, decide_eq_true h2]; rfl
    · rw [if_neg h2, decide_eq_false h2]; rfl
def balls : List Int → Nat → List Int
  | [], _ => []
  | c :: l, i => if ball c = true then (i : Int) :: balls l (i + 1) else balls l (i + 1)
theorem balls_len : ∀ (l : List Int) (i : Nat), (balls l i).length ≤ l.length
  | [], _ => Nat.le_refl _
  | c :: l, i => by
    have := balls_len l (i + 1)
    rw [balls]
    by_cases h : ball c = true
    · rw [if_pos h, List.length_cons, List.length_cons]; omega
    · rw [if_neg h, List.length_cons]; omega
theorem spec_loop (cs : List Int) (hl : cs.length < 1000) : ∀ (d i : Nat) (acc : List Int), cs.length - i = d → i ≤ cs.length → acc.length ≤ i →
    Ev (fun k => spec_tyBalls.l0 k acc cs (cs.length : Int) (i : Int)) (acc ++ balls (cs.drop i) i) := by
  intro d
  induction d with
  | zero =>
    intro i acc hd hi ha
    have g : ¬ ((i : Int) < (cs.length : Int)) := by omega
    have e : i = cs.length := by omega
    subst e
    rw [List.drop_length, balls, List.append_nil]
    exact Ev.step (f := fun _ => some acc) (fun k => by rw [spec_tyBalls.l0, if_neg g]) (Ev.now _)
  | succ d ih =>
    intro i acc hd hi ha
    have hlt : i < cs.length := by omega
    have g : (i : Int) < (cs.length : Int) := by omega
    have g0 : (0 : Int) ≤ (i : Int) := by omega
    have b : i + 1 < 1000000 := by omega
    have g1 : acc.length < 17592186044416 := by omega
    have g2 : acc.length ≤ i + 1 := by omega
    have g3 : (acc ++ [(i : Int)]).length ≤ i + 1 := by rw [List.length_append, List.length_singleton]; omega
    have h1 := ih (i + 1) acc (by omega) (by omega) g2
    have h2 := ih (i + 1) (acc ++ [(i : Int)]) (by omega) (by omega) g3
    have e : wrap64 ((i : Int) + 1) = ((i + 1 : Nat) : Int) := wm b rfl
    rw [List.drop_eq_getElem_cons hlt, balls]
    by_cases hb : ball cs[i] = true
    · rw [if_pos hb]
      rw [List.append_assoc] at h2
      exact Ev.step (fun k => by rw [spec_tyBalls.l0, if_pos g, if_pos g0, if_pos g, rd_in hlt, tyBall_eq, Option.bind_some, if_pos hb, if_pos g1, e]) h2
    · rw [if_neg hb]
      exact Ev.step (fun k => by rw [spec_tyBalls.l0, if_pos g, if_pos g0, if_pos g, rd_in hlt, tyBall_eq, Option.bind_some, if_neg hb, e]) h1
theorem impl_loop (cs : List Int) (hl : cs.length < 1000) : ∀ (d i : Nat) (acc : List Int), cs.length - i = d → i ≤ cs.length → acc.length ≤ i →
    Ev (fun k => impl_tray_indices_at_impl_isBall.l0 k acc cs (cs.length : Int) (i : Int)) (acc ++ balls (cs.drop i) i) := by
  intro d
  induction d with
  | zero =>
    intro i acc hd hi ha
    have g : ¬ ((i : Int) < (cs.length : Int)) := by omega
    have e : i = cs.length := by omega
    subst e
    rw [List.drop_length, balls, List.append_nil]
    exact Ev.step (f := fun _ => some acc) (fun k => by rw [impl_tray_indices_at_impl_isBall.l0, if_neg g]) (Ev.now _)
  | succ d ih =>
    intro i acc hd hi ha
    have hlt : i < cs.length := by omega
    have g : (i : Int) < (cs.length : Int) := by omega
    have g0 : (0 : Int) ≤ (i : Int) := by omega
    have b : i + 1 < 1000000 := by omega
    have g1 : acc.length < 17592186044416 := by omega
    have g2 : acc.length ≤ i + 1 := by omega
    have g3 : (acc ++ [(i : Int)]).length ≤ i + 1 := by rw [List.length_append, List.length_singleton]; omega
    have h1 := ih (i + 1) acc (by omega) (by omega) g2
    have h2 := ih (i + 1) (acc ++ [(i : Int)]) (by omega) (by omega) g3
    have e : wrap64 ((i : Int) + 1) = ((i + 1 : Nat) : Int) := wm b rfl
    rw [List.drop_eq_getElem_cons hlt, balls]
    by_cases hb : ball cs[i] = true
    · rw [if_pos hb]
      rw [List.append_assoc] at h2
      exact Ev.step (fun k => by rw [impl_tray_indices_at_impl_isBall.l0, if_pos g, if_pos g0, if_pos g, rd_in hlt, isBall_eq, Option.bind_some, if_pos hb, if_pos g1, e]) h2
    · rw [if_neg hb]
      exact Ev.step (fun k => by rw [impl_tray_indices_at_impl_isBall.l0, if_pos g, if_pos g0, if_pos g, rd_in hlt, isBall_eq, Option.bind_some, if_neg hb, e]) h1
/-- What the law does with the list: it lays numbers into it and asks the program once more. -/
theorem law_of (t : ByteArray) (l : List Int) (b : Bool) (hl : l.length < 1000) (hs : Ev (fun k => spec_BallsOf.f k t) (l, b)) (hi : Ev (fun k => impl_BallsOf.f k t) (l, b)) :
    Ev (fun k => (spec_BallsOf.f k t).bind fun bt409 => ((impl_BallsOf.f k t).bind fun bt413 => ((laws_eqIntS.f k bt413.1 bt409.1).bind fun t417 => (if t417 = true then (laws_FnExactBallsOf.j0 k t bt409.1 bt409.2 bt413.1 (bt413.2 != bt409.2)) else (laws_FnExactBallsOf.j0 k t bt409.1 bt409.2 bt413.1 true))))) true := by
  have hm := markInts_eq l hl
  have hh := heldInts_eq l.length hl
  have hp : ¬ (((l.length + 1 : Nat) : Int) < 0) := by omega
  have hne : (b != b) = false := by cases b <;> rfl
  have h1 : Ev (fun k => laws_FnExactBallsOf.j1 k (marks l.length) ((l.length + 1 : Nat) : Int) false) true := by
    refine Ev.step (f := fun k => (laws_heldIntS.f k (marks l.length) 1).bind fun t => if t < 0 then some false else if t = ((l.length + 1 : Nat) : Int) then some true else some false) (fun k => ?_) (Ev.bind hh ?_)
    · rw [laws_FnExactBallsOf.j1, if_neg (by decide)]
    · refine ⟨0, fun k _ => ?_⟩
      show ite _ _ _ = _
      rw [if_neg hp, if_pos rfl]
  have h0 : Ev (fun k => laws_FnExactBallsOf.j0 k t l b l false) true := by
    refine Ev.step (f := fun k => (laws_markIntS.f k l 1).bind fun bt418 => ((laws_heldIntS.f k bt418.2 1).bind fun t420 => (if t420 < 0 then (some false) else (if t420 = bt418.1 then ((impl_BallsOf.f k t).bind fun bt421 => ((laws_eqIntS.f k bt421.1 l).bind fun t425 => (if t425 = true then (laws_FnExactBallsOf.j1 k bt418.2 bt418.1 (bt421.2 != b)) else (laws_FnExactBallsOf.j1 k bt418.2 bt418.1 true)))) else (some false))))) (fun k => ?_) (Ev.bind hm (Ev.bind hh ?_))
    · rw [laws_FnExactBallsOf.j0, if_neg (by decide)]
    · refine Ev.congr (f := fun k => (impl_BallsOf.f k t).bind fun bt421 => ((laws_eqIntS.f k bt421.1 l).bind fun t425 => (if t425 = true then (laws_FnExactBallsOf.j1 k (marks l.length) ((l.length + 1 : Nat) : Int) (bt421.2 != b)) else (laws_FnExactBallsOf.j1 k (marks l.length) ((l.length + 1 : Nat) : Int) true)))) (g := _) (r := true) (fun k => ?_) (Ev.bind hi (Ev.bind (eqInts_self l hl) ?_))
      · show ite _ _ _ = _
        rw [if_neg hp, if_pos rfl]
      · refine Ev.congr (g := _) (r := true) (fun k => ?_) h1
        show ite _ _ _ = _
        rw [if_pos rfl]
        show laws_FnExactBallsOf.j1 k _ _ (b != b) = _
        rw [hne]
  refine Ev.bind hs (Ev.bind hi (Ev.bind (eqInts_self l hl) ?_))
  refine Ev.congr (g := _) (r := true) (fun k => ?_) h0
  show ite _ _ _ = _
  rw [if_pos rfl]
  show laws_FnExactBallsOf.j0 k t l b l (b != b) = _
  rw [hne]
theorem FnExactBallsOf : laws_FnExactBallsOf.Pure := by
  intro t _
  by_cases ht : (t.size : Int) > 1048576
  · exact ⟨0, by rw [laws_FnExactBallsOf.f, if_pos ht]⟩
  refine Ev.rounds (Ev.congr (fun k => by rw [laws_FnExactBallsOf.f, if_neg ht]) ?_)
  have ht' : t.size ≤ 1048576 := by omega
  have hi := isTray_eq t ht'
  have hr := tyRead_eq t
  by_cases hg : good t = true
  · obtain ⟨f1, f2, f3, f4, f5, f6, f7⟩ := good_facts hg
    have hl : (CS t).length < 1000 := by omega
    have hb : (balls (CS t) 0).length < 1000 := by have := balls_len (CS t) 0; omega
    rw [hg] at hi
    rw [if_pos hg] at hr
    have S := spec_loop (CS t) hl (CS t).length 0 [] rfl (Nat.zero_le _) (Nat.zero_le _)
    have I := impl_loop (CS t) hl (CS t).length 0 [] rfl (Nat.zero_le _) (Nat.zero_le _)
    rw [List.drop_zero, List.nil_append] at S I
    refine law_of t (balls (CS t) 0) true hb (Ev.congr (fun k => rfl) (Ev.bind hr ?_)) (Ev.congr (fun k => rfl) (Ev.bind hi ?_))
    · refine Ev.congr (f := fun k => (spec_tyBalls.f k (W t : Int) (H t : Int) (CS t)).bind fun x => some (x, true)) (g := _) (r := (balls (CS t) 0, true)) (fun k => ?_) (Ev.bind (a := balls (CS t) 0) S (Ev.now _))
      rw [if_pos rfl]
    · refine Ev.congr (f := fun k => (impl_tray_indices_at_impl_isBall.f k (W t : Int) (H t : Int) (CS t)).bind fun x => some (x, true)) (g := _) (r := (balls (CS t) 0, true)) (fun k => ?_) (Ev.bind (a := balls (CS t) 0) I (Ev.now _))
      rw [if_pos rfl, read_eq t ht', Option.bind_some]
  · rw [Bool.eq_false_iff.2 hg] at hi
    rw [if_neg hg] at hr
    refine law_of t [] false (by decide) (Ev.congr (fun k => rfl) (Ev.bind hr ?_)) (Ev.congr (fun k => rfl) (Ev.bind hi ?_))
    · exact ⟨0, fun k _ => rfl⟩
    · exact ⟨0, fun k _ => rfl⟩

end Go.Proofs.YtghmjllfbaanoaaDoor.Pure
