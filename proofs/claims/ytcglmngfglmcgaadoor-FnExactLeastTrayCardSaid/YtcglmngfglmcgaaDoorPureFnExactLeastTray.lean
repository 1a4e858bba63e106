/- The program's LeastTray returns what the reference's returns: for all arguments the law FnExactLeastTray returns true. -/
import Derived.Test.YtcglmngfglmcgaaDoorLEight
import Derived.Lib.MinMaxS
import Derived.Test.YtcglmngfglmcgaaDoorQx11
import Derived.Test.YtcglmngfglmcgaaDoorQx12
set_option linter.unusedVariables false
set_option linter.unusedSimpArgs false
namespace Go.Proofs.YtcglmngfglmcgaaDoor.Pure
open Go.RowKit Go.Proofs.YtcglmngfglmcgaaDoor.Q Go.Proofs.YtcglmngfglmcgaaDoorW.PrintWords Go.Proofs.YtcglmngfglmcgaaDoorW.PrintLast Go.Proofs.YtcglmngfglmcgaaDoorM Go.Proofs.YtcglmngfglmcgaaDoorL Go.Proofs.YtcglmngfglmcgaaDoorV
def mL (g : Gr) (i : Nat) : ByteArray := (txts g i).foldl Lib.minS (gT g)
theorem mL_succ (g : Gr) (i : Nat) : mL g (i + 1) = Lib.minS (mL g i) (gT (mvG i g)) := by
  unfold mL
  rw [txts_succ, List.foldl_append]
  rfl
theorem min_step (m t : ByteArray) : Lib.minS m t = if Op.bytesLess t.toList m.toList = true then t else m := by
  unfold Lib.minS
  rw [Proofs.bytesLess_eq, Lib.toList_data, Lib.toList_data]
  by_cases h : t.data.toList < m.data.toList
  · rw [if_pos (decide_eq_true h), if_neg]
    rintro (h1 | h1)
    · exact List.lt_asymm h h1
    · rw [h1] at h
      exact List.lt_irrefl _ h
  · rw [if_neg (fun hd => h (of_decide_eq_true hd)), if_pos]
    rw [List.not_lt] at h
    exact List.le_iff_lt_or_eq.1 h
theorem spec_loop {g : Gr} (h : GOk g) : ∀ (d i : Nat), 8 - i = d → i ≤ 8 → Ev (fun k => spec_tyLeast.l0 k (mL g i) (grs g 8) 8 (i : Int)) (mL g 8) := by
  intro d
  induction d with
  | zero =>
    intro i hd hi
    have e : i = 8 := by omega
    subst e
    exact Ev.step (f := fun _ => some (mL g 8)) (fun k => by rw [spec_tyLeast.l0, if_neg (by decide)]) (Ev.now _)
  | succ d ih =>
    intro i hd hi
    have hlt : i < 8 := by omega
    have g1 : (i : Int) < 8 := by omega
    have g2 : (0 : Int) ≤ (i : Int) := by omega
    have g3 : (i : Int) < ((grs g 8).length : Int) := by rw [grs_len]; omega
    have e : wrap64 ((i : Int) + 1) = ((i + 1 : Nat) : Int) := wm (n := i + 1) (by omega) (by omega)
    have hI := ih (i + 1) (by omega) (by omega)
    rw [mL_succ, min_step] at hI
    have hT := gTextS (mvG_ok i h)
    refine Ev.step (f := fun k => (spec_tyText.f k ((mvG i g).w : Int) ((mvG i g).h : Int) (ints (mvG i g).cs)).bind fun t228 => (if (Op.bytesLess t228.toList (mL g i).toList) = true then (spec_tyLeast.l0 k t228 (grs g 8) 8 ((i + 1 : Nat) : Int)) else (spec_tyLeast.l0 k (mL g i) (grs g 8) 8 ((i + 1 : Nat) : Int)))) (fun k => by rw [spec_tyLeast.l0, if_pos g1, if_pos g2, if_pos g3, grs_at g hlt, e]; rfl) (Ev.bind hT ?_)
    by_cases hx : Op.bytesLess (gT (mvG i g)).toList (mL g i).toList = true
    · rw [if_pos hx] at hI
      exact Ev.congr (g := _) (r := _) (fun k => by rw [if_pos hx]) hI
    · rw [if_neg hx] at hI
      exact Ev.congr (g := _) (r := _) (fun k => by rw [if_neg hx]) hI
theorem least_ev {g : Gr} (h : GOk g) : Ev (fun k => spec_tyLeast.f k (g.w : Int) (g.h : Int) (ints g.cs)) (mL g 8) := by
  have l8 : ((grs g 8).length : Int) = 8 := by rw [grs_len]; rfl
  refine Ev.congr (g := _) (r := _) (fun k => rfl) (Ev.bind (gTextS h) (Ev.bind (tyEight_ev h) ?_))
  rw [l8]
  exact spec_loop h 8 0 rfl (by omega)
theorem min_eq (g : Gr) : slices_Min_string_string.f (txts g 8) = some (mL g 8) := by
  unfold slices_Min_string_string.f
  rw [if_pos (by rw [txts_len]; omega)]
  rfl
theorem alike (a : ByteArray) (ha' : a.size ≤ 1048576) : ∃ r : ByteArray × Bool, Ev (fun k => spec_LeastTray.f k a) r ∧ Ev (fun k => impl_LeastTray.f k a) r := by
  have ia := isTray_eq a ha'
  have ra := tyRead_eq a
  by_cases ga : good a = true
  · rw [ga] at ia
    rw [if_pos ga, B_CS] at ra
    obtain ⟨f1, f2, f3, f4, f5, f6, f7⟩ := good_facts ga
    have h : GOk ⟨W a, H a, B a⟩ := ⟨B_len ga, f1, f3, f2, f4, f5⟩
    obtain ⟨g, hg⟩ : ∃ g : Gr, g = ⟨W a, H a, B a⟩ := ⟨_, rfl⟩
    rw [← hg] at h
    have ew : W a = g.w := by rw [hg]
    have eh : H a = g.h := by rw [hg]
    have eb : B a = g.cs := by rw [hg]
    have rd := read_eq a ha'
    rw [B_CS] at rd
    rw [ew, eh, eb] at ra rd
    refine ⟨(mL g 8, true), Ev.congr (fun k => rfl) (Ev.bind ra ?_), Ev.congr (fun k => rfl) (Ev.bind ia ?_)⟩
    · exact Ev.congr (f := fun k => (spec_tyLeast.f k (g.w : Int) (g.h : Int) (ints g.cs)).bind fun t236 => (some (t236, true))) (g := _) (r := _) (fun k => if_pos rfl) (Ev.bind (least_ev h) (Ev.now _))
    · refine Ev.congr (f := fun k => (impl_tray_eight.f k (g.w : Int) (g.h : Int) (ints g.cs)).bind fun t243 => ((slices_Min_string_string.f t243).bind fun t246 => (some (t246, true)))) (g := _) (r := _) (fun k => ?_) (Ev.bind (eight_ev h) ?_)
      · show ite _ _ _ = _
        rw [if_pos rfl, rd, Option.bind_some]
      · exact ⟨0, fun k _ => by show (slices_Min_string_string.f (txts g 8)).bind _ = _; rw [min_eq, Option.bind_some]⟩
  · rw [Bool.eq_false_iff.2 ga] at ia
    rw [if_neg ga] at ra
    exact ⟨((⟨#[]⟩ : ByteArray), false), Ev.congr (fun k => rfl) (Ev.bind ra ⟨0, fun k _ => rfl⟩), Ev.congr (fun k => rfl) (Ev.bind ia ⟨0, fun k _ => rfl⟩)⟩
theorem FnExactLeastTray : laws_FnExactLeastTray.Pure := by
  intro a _
  by_cases hta : (a.size : Int) > 1048576
  · exact ⟨0, by rw [laws_FnExactLeastTray.f, if_pos hta]⟩
  refine Ev.rounds (Ev.congr (fun k => by rw [laws_FnExactLeastTray.f, if_neg hta]) ?_)
  obtain ⟨r, hS, hI⟩ := alike a (by omega)
  refine Ev.bind hS (Ev.bind hI ⟨0, fun k _ => ?_⟩)
  show ite _ _ _ = _
  have hb : ¬ (r.2 != r.2) = true := by cases r.2 <;> decide
  rw [if_pos rfl, if_neg hb]
end Go.Proofs.YtcglmngfglmcgaaDoor.Pure
