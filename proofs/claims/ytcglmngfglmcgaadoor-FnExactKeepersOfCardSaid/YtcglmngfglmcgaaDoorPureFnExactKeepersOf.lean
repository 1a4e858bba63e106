/- The program's KeepersOf returns what the reference's returns: for all arguments the law FnExactKeepersOf returns true. -/
import Derived.Test.YtcglmngfglmcgaaDoorLEight
import Derived.Test.YtcglmngfglmcgaaDoorQx6
import Derived.Test.YtcglmngfglmcgaaDoorQx11
set_option linter.unusedVariables false
set_option linter.unusedSimpArgs false
namespace Go.Proofs.YtcglmngfglmcgaaDoor.Pure
open Go.RowKit Go.Proofs.YtcglmngfglmcgaaDoor.Q Go.Proofs.YtcglmngfglmcgaaDoorW.PrintWords Go.Proofs.YtcglmngfglmcgaaDoorW.PrintLast Go.Proofs.YtcglmngfglmcgaaDoorM Go.Proofs.YtcglmngfglmcgaaDoorL Go.Proofs.YtcglmngfglmcgaaDoorV
/-- How many of the first i are the text itself. -/
def cK (a : ByteArray) (g : Gr) : Nat → Nat
  | 0 => 0
  | i + 1 => cK a g i + (if (gT (mvG i g)).toList = a.toList then 1 else 0)
theorem cK_le (a : ByteArray) (g : Gr) : ∀ i, cK a g i ≤ i
  | 0 => Nat.le_refl _
  | i + 1 => by
    have := cK_le a g i
    unfold cK
    split <;> omega
theorem spec_loop {g : Gr} (h : GOk g) (a : ByteArray) : ∀ (d i : Nat), 8 - i = d → i ≤ 8 → Ev (fun k => spec_KeepersOf.l0 k a (cK a g i : Int) (grs g 8) 8 (i : Int)) (((cK a g 8 : Nat) : Int), true) := by
  intro d
  induction d with
  | zero =>
    intro i hd hi
    have e : i = 8 := by omega
    subst e
    exact Ev.step (f := fun _ => some (((cK a g 8 : Nat) : Int), true)) (fun k => by rw [spec_KeepersOf.l0, if_neg (by decide)]) (Ev.now _)
  | succ d ih =>
    intro i hd hi
    have hlt : i < 8 := by omega
    have g1 : (i : Int) < 8 := by omega
    have g2 : (0 : Int) ≤ (i : Int) := by omega
    have g3 : (i : Int) < ((grs g 8).length : Int) := by rw [grs_len]; omega
    have e : wrap64 ((i : Int) + 1) = ((i + 1 : Nat) : Int) := wm (n := i + 1) (by omega) (by omega)
    have hI := ih (i + 1) (by omega) (by omega)
    have hc := cK_le a g i
    have hT := gTextS (mvG_ok i h)
    refine Ev.step (f := fun k => (spec_tyText.f k ((mvG i g).w : Int) ((mvG i g).h : Int) (ints (mvG i g).cs)).bind fun t157 => (if t157.toList = a.toList then (spec_KeepersOf.l0 k a (wrap64 ((cK a g i : Int) + 1)) (grs g 8) 8 ((i + 1 : Nat) : Int)) else (spec_KeepersOf.l0 k a (cK a g i : Int) (grs g 8) 8 ((i + 1 : Nat) : Int)))) (fun k => by rw [spec_KeepersOf.l0, if_pos g1, if_pos g2, if_pos g3, grs_at g hlt, e]; rfl) (Ev.bind hT ?_)
    by_cases hx : (gT (mvG i g)).toList = a.toList
    · have e2 : cK a g (i + 1) = cK a g i + 1 := by
        show cK a g i + _ = _
        rw [if_pos hx]
      have e3 : wrap64 ((cK a g i : Int) + 1) = ((cK a g i + 1 : Nat) : Int) := wm (n := cK a g i + 1) (by omega) (by omega)
      rw [e2] at hI
      exact Ev.congr (g := _) (r := _) (fun k => by rw [if_pos hx, e3]) hI
    · have e2 : cK a g (i + 1) = cK a g i := by
        show cK a g i + _ = _
        rw [if_neg hx, Nat.add_zero]
      rw [e2] at hI
      exact Ev.congr (g := _) (r := _) (fun k => by rw [if_neg hx]) hI
theorem txts_at (g : Gr) {i n : Nat} (h : i < n) : rdOf ByteArray.empty (txts g n) (i : Int) = gT (mvG i g) := by
  unfold rdOf txts
  rw [Int.toNat_natCast]
  simp [List.getD, h]
theorem impl_loop (g : Gr) (a : ByteArray) : ∀ (d i : Nat), 8 - i = d → i ≤ 8 → Ev (fun k => impl_KeepersOf.l0 k a (cK a g i : Int) (txts g 8) 8 (i : Int)) (((cK a g 8 : Nat) : Int), true) := by
  intro d
  induction d with
  | zero =>
    intro i hd hi
    have e : i = 8 := by omega
    subst e
    exact Ev.step (f := fun _ => some (((cK a g 8 : Nat) : Int), true)) (fun k => by rw [impl_KeepersOf.l0, if_neg (by decide)]) (Ev.now _)
  | succ d ih =>
    intro i hd hi
    have hlt : i < 8 := by omega
    have g1 : (i : Int) < 8 := by omega
    have g2 : (0 : Int) ≤ (i : Int) := by omega
    have g3 : (i : Int) < ((txts g 8).length : Int) := by rw [txts_len]; omega
    have e : wrap64 ((i : Int) + 1) = ((i + 1 : Nat) : Int) := wm (n := i + 1) (by omega) (by omega)
    have hI := ih (i + 1) (by omega) (by omega)
    have hc := cK_le a g i
    by_cases hx : (gT (mvG i g)).toList = a.toList
    · have e2 : cK a g (i + 1) = cK a g i + 1 := by
        show cK a g i + _ = _
        rw [if_pos hx]
      have e3 : wrap64 ((cK a g i : Int) + 1) = ((cK a g i + 1 : Nat) : Int) := wm (n := cK a g i + 1) (by omega) (by omega)
      rw [e2] at hI
      have hb : ((gT (mvG i g)).toList == a.toList) = true := beq_iff_eq.2 hx
      exact Ev.step (fun k => by rw [impl_KeepersOf.l0, if_pos g1, if_pos g2, if_pos g3, txts_at g hlt, hb, impl_bit.f, if_pos rfl, Option.bind_some, e3, e]) hI
    · have e2 : cK a g (i + 1) = cK a g i := by
        show cK a g i + _ = _
        rw [if_neg hx, Nat.add_zero]
      have e3 : wrap64 ((cK a g i : Int) + 0) = ((cK a g i : Nat) : Int) := wm (n := cK a g i) (by omega) (by omega)
      rw [e2] at hI
      have hb : ((gT (mvG i g)).toList == a.toList) = false := beq_eq_false_iff_ne.2 hx
      exact Ev.step (fun k => by rw [impl_KeepersOf.l0, if_pos g1, if_pos g2, if_pos g3, txts_at g hlt, hb, impl_bit.f, if_neg (by decide), Option.bind_some, e3, e]) hI
theorem alike (a : ByteArray) (ha' : a.size ≤ 1048576) : ∃ r : Int × Bool, Ev (fun k => spec_KeepersOf.f k a) r ∧ Ev (fun k => impl_KeepersOf.f k a) r := by
  have ia := isTray_eq a ha'
  have ra := tyRead_eq a
  by_cases ga : good a = true
  · rw [ga] at ia
    rw [if_pos ga, B_CS] at ra
    obtain ⟨f1, f2, f3, f4, f5, f6, f7⟩ := good_facts ga
    have h : GOk ⟨W a, H a, B a⟩ := ⟨B_len ga, f1, f3, f2, f4, f5⟩
    obtain ⟨g, hg⟩ : ∃ g : Gr, g = ⟨W a, H a, B a⟩ := ⟨_, rfl⟩
    rw [← hg] at h
    have ew : W a = g.w := by rw [hg]
    have eh : H a = g.h := by rw [hg]
    have eb : B a = g.cs := by rw [hg]
    have rd := read_eq a ha'
    rw [B_CS] at rd
    rw [ew, eh, eb] at ra rd
    have l8 : ((grs g 8).length : Int) = 8 := by rw [grs_len]; rfl
    have t8 : ((txts g 8).length : Int) = 8 := by rw [txts_len]; rfl
    refine ⟨(((cK a g 8 : Nat) : Int), true), Ev.congr (fun k => rfl) (Ev.bind ra ?_), Ev.congr (fun k => rfl) (Ev.bind ia ?_)⟩
    · refine Ev.congr (f := fun k => (spec_tyEight.f k (g.w : Int) (g.h : Int) (ints g.cs)).bind fun t152 => (spec_KeepersOf.l0 k a 0 t152 (t152.length : Int) 0)) (g := _) (r := _) (fun k => if_pos rfl) (Ev.bind (tyEight_ev h) ?_)
      rw [l8]
      exact spec_loop h a 8 0 rfl (by omega)
    · refine Ev.congr (f := fun k => (impl_tray_eight.f k (g.w : Int) (g.h : Int) (ints g.cs)).bind fun t212 => (impl_KeepersOf.l0 k a 0 t212 (t212.length : Int) 0)) (g := _) (r := _) (fun k => ?_) (Ev.bind (eight_ev h) ?_)
      · show ite _ _ _ = _
        rw [if_pos rfl, rd, Option.bind_some]
      · rw [t8]
        exact impl_loop g a 8 0 rfl (by omega)
  · rw [Bool.eq_false_iff.2 ga] at ia
    rw [if_neg ga] at ra
    exact ⟨(0, false), Ev.congr (fun k => rfl) (Ev.bind ra ⟨0, fun k _ => rfl⟩), Ev.congr (fun k => rfl) (Ev.bind ia ⟨0, fun k _ => rfl⟩)⟩
theorem FnExactKeepersOf : laws_FnExactKeepersOf.Pure := by
  intro a _
  by_cases hta : (a.size : Int) > 1048576
  · exact ⟨0, by rw [laws_FnExactKeepersOf.f, if_pos hta]⟩
  refine Ev.rounds (Ev.congr (fun k => by rw [laws_FnExactKeepersOf.f, if_neg hta]) ?_)
  obtain ⟨r, hS, hI⟩ := alike a (by omega)
  refine Ev.bind hS (Ev.bind hI ⟨0, fun k _ => ?_⟩)
  show ite _ _ _ = _
  have hb : ¬ (r.2 != r.2) = true := by cases r.2 <;> decide
  rw [if_pos rfl, if_neg hb]
end Go.Proofs.YtcglmngfglmcgaaDoor.Pure
