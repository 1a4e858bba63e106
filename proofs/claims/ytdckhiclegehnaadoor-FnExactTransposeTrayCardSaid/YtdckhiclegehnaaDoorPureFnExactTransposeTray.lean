/- The program's TransposeTray returns what the reference's returns: for all arguments the law FnExactTransposeTray returns true. -/
import Derived.Test.YtdckhiclegehnaaDoorLMir
import Derived.Test.YtdckhiclegehnaaDoorQx11
import Derived.Test.YtdckhiclegehnaaDoorQx12
set_option linter.unusedVariables false
set_option linter.unusedSimpArgs false
namespace Go.Proofs.YtdckhiclegehnaaDoor.Pure
open Go.RowKit Go.Proofs.YtdckhiclegehnaaDoor.Q Go.Proofs.YtdckhiclegehnaaDoorW.PrintWords Go.Proofs.YtdckhiclegehnaaDoorW.PrintLast Go.Proofs.YtdckhiclegehnaaDoorM Go.Proofs.YtdckhiclegehnaaDoorL Go.Proofs.YtdckhiclegehnaaDoorV

theorem tell (g : Nat → Option (ByteArray × Bool)) (f : Nat → Option (ByteArray × Bool)) (r : ByteArray × Bool) (h1 : Ev g r) (h2 : Ev f r) :
    Ev (fun k => (g k).bind fun b1 => (f k).bind fun b2 => (if b2.1.toList = b1.1.toList then (if (b2.2 != b1.2) = true then (some false) else (some true)) else (some false))) true := by
  refine Ev.bind h1 (Ev.bind h2 ?_)
  refine ⟨0, fun k _ => ?_⟩
  simp
def nothing : ByteArray × Bool := ((⟨#[]⟩ : ByteArray), false)
theorem FnExactTransposeTray : laws_FnExactTransposeTray.Pure := by
  intro a _
  by_cases hta : (a.size : Int) > 1048576
  · exact ⟨0, by rw [laws_FnExactTransposeTray.f, if_pos hta]⟩
  refine Ev.rounds (Ev.congr (fun k => by rw [laws_FnExactTransposeTray.f, if_neg hta]) ?_)
  have ha' : a.size ≤ 1048576 := by omega
  have ia := isTray_eq a ha'
  have ra := tyRead_eq a
  by_cases ga : good a = true
  · rw [ga] at ia
    rw [if_pos ga, B_CS] at ra
    obtain ⟨f1, f2, f3, f4, f5, f6, f7⟩ := good_facts ga
    have hl := B_len ga
    have hl2 : (turnG (W a) (H a) (B a)).flatten.length = H a * W a := turnG_flat _ _ _
    have hl3 : (mirG (H a) (W a) (turnG (W a) (H a) (B a)).flatten).flatten.length = H a * W a := mirG_flat _ _ _
    have S := tyTurn_eq hl (by omega) (by omega)
    have I := turned_eq hl (by omega) (by omega) f2 f4 f5
    have S2 := tyMirror_eq hl2 (by omega) (by omega)
    have I2 := mirrored_eq hl2 (by omega) (by omega) (by omega) (by omega)
    have TS := tyText_cs hl3 (by omega) (by omega) (by omega)
    have TI := trayText_eq hl3 (by omega) (by omega) (by omega) (by omega) (W a : Int)
    refine tell _ _ (T (H a) (mirG (H a) (W a) (turnG (W a) (H a) (B a)).flatten).flatten, true) (Ev.congr (fun k => rfl) (Ev.bind ra ?_)) (Ev.congr (fun k => rfl) ?_)
    · refine Ev.congr (g := _) (r := (T (H a) (mirG (H a) (W a) (turnG (W a) (H a) (B a)).flatten).flatten, true)) (fun k => if_pos rfl) ?_
      exact Ev.bind S (Ev.bind S2 (Ev.bind TS (Ev.now _)))
    · refine Ev.bind (a := (T (H a) (mirG (H a) (W a) (turnG (W a) (H a) (B a)).flatten).flatten, true)) (Ev.congr (fun k => rfl) (Ev.bind ia ?_)) (Ev.now _)
      have C : Ev (fun k => impl_TransposeTray_1.f k (W a : Int) (H a : Int) (ints (B a))) ((H a : Int), (W a : Int), ints (mirG (H a) (W a) (turnG (W a) (H a) (B a)).flatten).flatten) := by
        refine Ev.congr (fun k => rfl) (Ev.bind I ?_)
        refine ⟨0, fun k _ => ?_⟩
        show (impl_tray_mirrored.f (H a : Int) (W a : Int) (ints (turnG (W a) (H a) (B a)).flatten)).bind _ = _
        rw [I2, Option.bind_some]
      refine Ev.congr (f := fun k => (impl_TransposeTray_1.f k (W a : Int) (H a : Int) (ints (B a))).bind fun bt463 => ((impl_tray_text.f bt463.1 bt463.2.1 bt463.2.2).bind fun t468 => (some (t468, true)))) (g := _) (r := (T (H a) (mirG (H a) (W a) (turnG (W a) (H a) (B a)).flatten).flatten, true)) (fun k => ?_) (Ev.bind C ?_)
      · show ite _ _ _ = _
        rw [if_pos rfl, read_eq a ha', Option.bind_some]
        rfl
      · refine ⟨0, fun k _ => ?_⟩
        show (impl_tray_text.f (H a : Int) (W a : Int) (ints (mirG (H a) (W a) (turnG (W a) (H a) (B a)).flatten).flatten)).bind _ = _
        rw [TI, Option.bind_some]
  · rw [Bool.eq_false_iff.2 ga] at ia
    rw [if_neg ga] at ra
    refine tell _ _ nothing (Ev.congr (fun k => rfl) (Ev.bind ra ?_)) (Ev.congr (fun k => rfl) (Ev.bind (a := nothing) (Ev.congr (fun k => rfl) (Ev.bind ia ?_)) (Ev.now _)))
    · exact ⟨0, fun k _ => rfl⟩
    · exact ⟨0, fun k _ => rfl⟩
end Go.Proofs.YtdckhiclegehnaaDoor.Pure
