/- The program's WallsOf returns what the reference's returns: for all arguments the law FnExactWallsOf returns true. -/
import Derived.Test.YtghmjllfbaanoaaDoorLWalls
import Derived.Test.YtghmjllfbaanoaaDoorQx14
set_option linter.unusedVariables false
set_option linter.unusedSimpArgs false
namespace Go.Proofs.YtghmjllfbaanoaaDoor.Pure
open Go.RowKit Go.Proofs.YtghmjllfbaanoaaDoor.Q Go.Proofs.YtghmjllfbaanoaaDoorW.PrintWords Go.Proofs.YtghmjllfbaanoaaDoorW.PrintLast Go.Proofs.YtghmjllfbaanoaaDoorM Go.Proofs.YtghmjllfbaanoaaDoorL Go.Proofs.YtghmjllfbaanoaaDoorV

theorem tell (g : Nat → Option (ByteArray × Bool)) (f : Nat → Option (ByteArray × Bool)) (r : ByteArray × Bool) (h1 : Ev g r) (h2 : Ev f r) :
    Ev (fun k => (g k).bind fun b1 => (f k).bind fun b2 => (if b2.1.toList = b1.1.toList then (if (b2.2 != b1.2) = true then (some false) else (some true)) else (some false))) true := by
  refine Ev.bind h1 (Ev.bind h2 ?_)
  refine ⟨0, fun k _ => ?_⟩
  simp
def nothing : ByteArray × Bool := ((⟨#[]⟩ : ByteArray), false)
theorem FnExactWallsOf : laws_FnExactWallsOf.Pure := by
  intro a _
  by_cases hta : (a.size : Int) > 1048576
  · exact ⟨0, by rw [laws_FnExactWallsOf.f, if_pos hta]⟩
  refine Ev.rounds (Ev.congr (fun k => by rw [laws_FnExactWallsOf.f, if_neg hta]) ?_)
  have ha' : a.size ≤ 1048576 := by omega
  have ia := isTray_eq a ha'
  have ra := tyRead_eq a
  by_cases ga : good a = true
  · rw [ga] at ia
    rw [if_pos ga, B_CS] at ra
    obtain ⟨f1, f2, f3, f4, f5, f6, f7⟩ := good_facts ga
    have hl := B_len ga
    have hl2 : ((B a).map clrB).length = W a * H a := by rw [List.length_map, hl]
    have hp : 0 < W a * H a := Nat.mul_pos (by omega) (by omega)
    have S := tyWalls_eq (w := (W a : Int)) (h := (H a : Int)) (cs := B a) (by omega) (by omega)
    have I := emptied_eq (w := (W a : Int)) (h := (H a : Int)) (cs := B a) (by omega) (by omega)
    have TS := tyText_cs hl2 (by omega) (by omega) (by omega)
    have TI := trayText_eq hl2 (by omega) (by omega) (by omega) (by omega) (H a : Int)
    refine tell _ _ (T (W a) ((B a).map clrB), true) (Ev.congr (fun k => rfl) (Ev.bind ra ?_)) (Ev.congr (fun k => rfl) ?_)
    · refine Ev.congr (g := _) (r := (T (W a) ((B a).map clrB), true)) (fun k => if_pos rfl) ?_
      refine Ev.congr (f := fun k => (spec_tyText.f k (W a : Int) (H a : Int) (ints ((B a).map clrB))).bind fun t => some (t, true)) (g := _) (r := (T (W a) ((B a).map clrB), true)) (fun k => ?_) (Ev.bind TS (Ev.now _))
      show (spec_tyWalls.f (W a : Int) (H a : Int) (ints (B a))).bind _ = _
      rw [S, Option.bind_some]
    · refine Ev.bind (a := (T (W a) ((B a).map clrB), true)) (Ev.congr (fun k => rfl) (Ev.bind ia ?_)) (Ev.now _)
      refine ⟨0, fun k _ => ?_⟩
      show ite _ _ _ = _
      rw [if_pos rfl, read_eq a ha', Option.bind_some]
      show (impl_tray_emptied.f (W a : Int) (H a : Int) (ints (B a))).bind _ = _
      rw [I, Option.bind_some]
      show (impl_tray_text.f (W a : Int) (H a : Int) (ints ((B a).map clrB))).bind _ = _
      rw [TI, Option.bind_some]
  · rw [Bool.eq_false_iff.2 ga] at ia
    rw [if_neg ga] at ra
    refine tell _ _ nothing (Ev.congr (fun k => rfl) (Ev.bind ra ?_)) (Ev.congr (fun k => rfl) (Ev.bind (a := nothing) (Ev.congr (fun k => rfl) (Ev.bind ia ?_)) (Ev.now _)))
    · exact ⟨0, fun k _ => rfl⟩
    · exact ⟨0, fun k _ => rfl⟩
end Go.Proofs.YtghmjllfbaanoaaDoor.Pure
