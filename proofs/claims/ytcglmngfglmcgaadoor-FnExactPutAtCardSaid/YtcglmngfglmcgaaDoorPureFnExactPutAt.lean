/- The program's PutAt returns what the reference's returns: for all arguments the law FnExactPutAt returns true. -/
import Derived.Test.YtcglmngfglmcgaaDoorLGrid
import Derived.Test.YtcglmngfglmcgaaDoorLTextIf
import Derived.Test.YtcglmngfglmcgaaDoorQx3
import Derived.Test.YtcglmngfglmcgaaDoorQx4
import Derived.Test.YtcglmngfglmcgaaDoorQx6
import Derived.Test.YtcglmngfglmcgaaDoorQx7
set_option linter.unusedVariables false
set_option linter.unusedSimpArgs false
namespace Go.Proofs.YtcglmngfglmcgaaDoor.Pure
open Go.RowKit Go.Proofs.YtcglmngfglmcgaaDoor.Q Go.Proofs.YtcglmngfglmcgaaDoorW.PrintWords Go.Proofs.YtcglmngfglmcgaaDoorW.PrintLast Go.Proofs.YtcglmngfglmcgaaDoorM Go.Proofs.YtcglmngfglmcgaaDoorL Go.Proofs.YtcglmngfglmcgaaDoorV
def inside (w h : Nat) (x y : Int) : Bool := (decide (0 ≤ x) && decide (x ≤ (w : Int) - 1)) && (decide (0 ≤ y) && decide (y ≤ (h : Int) - 1))
theorem tyCell_eq (w h : Nat) (cs : List Int) (x y : Int) (hw : w ≤ 7) (hh : h ≤ 7) : spec_tyCell.f (w : Int) (h : Int) cs x y = some (inside w h x y) := by
  have e1 : wrap64 ((w : Int) - 1) = (w : Int) - 1 := wr (by omega) (by omega)
  have e2 : wrap64 ((h : Int) - 1) = (h : Int) - 1 := wr (by omega) (by omega)
  rw [spec_tyCell.f, spec_l1In.f, spec_l1In.f, e1, e2]
  unfold inside
  by_cases c1 : 0 ≤ x <;> by_cases c2 : x ≤ (w : Int) - 1 <;> by_cases c3 : 0 ≤ y <;> simp [c1, c2, c3]
theorem isPlace_eq (t : ByteArray) (x y : Int) (ht : t.size ≤ 1048576) (hg : good t = true) : Ev (fun k => impl_isPlace.f k t x y) (inside (W t) (H t) x y) := by
  obtain ⟨f1, f2, f3, f4, f5, f6, f7⟩ := good_facts hg
  have e1 : wrap64 ((W t : Int) - 1) = (W t : Int) - 1 := wr (by omega) (by omega)
  have e2 : wrap64 ((H t : Int) - 1) = (H t : Int) - 1 := wr (by omega) (by omega)
  have hi := isTray_eq t ht
  rw [hg] at hi
  refine Ev.congr (fun k => rfl) (Ev.bind hi (Ev.congr (f := fun _ => some (inside (W t) (H t) x y)) (fun k => ?_) (Ev.now _)))
  rw [if_pos rfl, read_eq t ht]
  simp only [Option.bind_some]
  rw [impl_within.f, impl_within.f, e1, e2]
  unfold inside
  by_cases c1 : 0 ≤ x <;> by_cases c2 : x ≤ (W t : Int) - 1 <;> by_cases c3 : 0 ≤ y <;> simp [c1, c2, c3]
theorem one_byte {s : ByteArray} (h : s.size = 1) : ∃ c : UInt8, s = ⟨#[c]⟩ ∧ bt s 0 = (c.toNat : Int) := by
  obtain ⟨a⟩ := s
  have hz : a.size = 1 := h
  obtain ⟨l⟩ := a
  match l, hz with
  | [c], _ => exact ⟨c, rfl, rfl⟩
theorem isCell_of (c : UInt8) : impl_isCell.f ⟨#[c]⟩ = some (okc c) := by
  have h : ∀ k : Fin 256, impl_isCell.f ⟨#[UInt8.ofNat k.val]⟩ = some (okc (UInt8.ofNat k.val)) := by decide +kernel
  have := h ⟨c.toNat, c.toNat_lt⟩
  simpa using this
theorem tyOne_of (c : UInt8) : spec_tyOne.f ⟨#[c]⟩ = some (okc c) := by
  have h : ∀ k : Fin 256, spec_tyOne.f ⟨#[UInt8.ofNat k.val]⟩ = some (okc (UInt8.ofNat k.val)) := by decide +kernel
  have := h ⟨c.toNat, c.toNat_lt⟩
  simpa using this
theorem notOne {s : ByteArray} (h : ¬ s.size = 1) : impl_isCell.f s = some false ∧ spec_tyOne.f s = some false := by
  have z : ¬ (s.size : Int) = 1 := by omega
  constructor
  · rw [impl_isCell.f, if_neg z]
  · rw [spec_tyOne.f, if_neg z]
theorem place_ix {w h : Nat} {x y : Int} (hw : w ≤ 7) (hh : h ≤ 7) (hm : w * h ≤ 36) (hp : inside w h x y = true) : ∃ i : Nat, wrap64 (wrap64 (y * (w : Int)) + x) = (i : Int) ∧ i < w * h := by
  unfold inside at hp
  simp only [Bool.and_eq_true, decide_eq_true_eq] at hp
  obtain ⟨⟨x0, x1⟩, y0, y1⟩ := hp
  have p0 : 0 ≤ y * (w : Int) := Int.mul_nonneg y0 (by omega)
  have p1 : y * (w : Int) ≤ ((h : Int) - 1) * (w : Int) := Int.mul_le_mul_of_nonneg_right y1 (by omega)
  have p2 : ((h : Int) - 1) * (w : Int) = (h : Int) * (w : Int) - (w : Int) := by rw [Int.sub_mul, Int.one_mul]
  have p3 : (h : Int) * (w : Int) = ((w * h : Nat) : Int) := by rw [Nat.mul_comm, Int.natCast_mul]
  rw [p2, p3] at p1
  generalize y * (w : Int) = p at p0 p1 ⊢
  generalize w * h = m at hm p1 ⊢
  refine ⟨(p + x).toNat, ?_, by omega⟩
  rw [wr (n := p) (by omega) (by omega), wr (n := p + x) (by omega) (by omega)]
  omega
theorem ints_set (l : List UInt8) (i : Nat) (c : UInt8) : (ints l).set i (c.toNat : Int) = ints (l.set i c) := by
  unfold ints
  rw [List.map_set]
theorem alike (t s : ByteArray) (x y : Int) (ht : t.size ≤ 1048576) : ∃ r : ByteArray × Bool, Ev (fun k => spec_PutAt.f k t x y s) r ∧ Ev (fun k => impl_PutAt.f k t x y s) r := by
  have ia := isTray_eq t ht
  have ra := tyRead_eq t
  by_cases ga : good t = true
  · have hpl := isPlace_eq t x y ht ga
    rw [if_pos ga, B_CS] at ra
    obtain ⟨f1, f2, f3, f4, f5, f6, f7⟩ := good_facts ga
    have hl := B_len ga
    have hcell := tyCell_eq (W t) (H t) (ints (B t)) x y f2 f4
    cases hp : inside (W t) (H t) x y with
    | false =>
      rw [hp] at hpl hcell
      refine ⟨((⟨#[]⟩ : ByteArray), false), Ev.congr (fun k => rfl) (Ev.bind ra ⟨0, fun k _ => ?_⟩), Ev.congr (fun k => rfl) (Ev.bind hpl ⟨0, fun k _ => rfl⟩)⟩
      show ite _ _ _ = _
      rw [if_pos rfl, hcell]
      rfl
    | true =>
      rw [hp] at hpl hcell
      by_cases h1 : s.size = 1
      · obtain ⟨c, rfl, hb⟩ := one_byte h1
        have z1 : (((⟨#[c]⟩ : ByteArray).size : Nat) : Int) = 1 := rfl
        have z0 : (0 : Int) < ((⟨#[c]⟩ : ByteArray).size : Int) := by rw [z1]; decide
        have z0' : 0 < (⟨#[c]⟩ : ByteArray).size := Nat.one_pos
        have oI := isCell_of c
        have oS := tyOne_of c
        cases ho : okc c with
        | false =>
          rw [ho] at oI oS
          refine ⟨((⟨#[]⟩ : ByteArray), false), Ev.congr (fun k => rfl) (Ev.bind ra ⟨0, fun k _ => ?_⟩), Ev.congr (fun k => rfl) (Ev.bind hpl ⟨0, fun k _ => ?_⟩)⟩
          · show ite _ _ _ = _
            rw [if_pos rfl, hcell, Option.bind_some, if_pos rfl, oS]
            rfl
          · show ite _ _ _ = _
            rw [if_pos rfl, oI]
            rfl
        | true =>
          rw [ho] at oI oS
          obtain ⟨i, hi, hlt⟩ := place_ix f2 f4 f5 hp
          have hl2 : ((B t).set i c).length = W t * H t := by rw [List.length_set]; exact hl
          have TS := tyText_cs hl2 f1 (by omega) (by omega)
          have TI := trayText_eq hl2 f1 (by omega) f3 (by omega) (H t : Int)
          have hsz := T_size hl2 f1 (by omega) (by omega)
          have rd := read_eq t ht
          rw [B_CS] at rd
          have g1 : (0 : Int) ≤ (i : Int) := by omega
          have g2 : (i : Int) < ((ints (B t)).length : Int) := by rw [ints_length, hl]; omega
          obtain ⟨q, hq⟩ : ∃ q, T (W t) ((B t).set i c) = q := ⟨_, rfl⟩
          rw [hq] at TS TI hsz
          have hW := whole_eq q (by omega)
          refine ⟨if good q = true then (q, true) else ((⟨#[]⟩ : ByteArray), false), Ev.congr (fun k => rfl) (Ev.bind ra ?_), Ev.congr (fun k => rfl) (Ev.bind hpl ?_)⟩
          · have hIf : Ev (fun k => spec_tyIf.f k (W t : Int) (H t : Int) (ints ((B t).set i c))) (if good q = true then (q, true) else ((⟨#[]⟩ : ByteArray), false)) := by
              refine Ev.congr (fun k => rfl) (Ev.bind TS (Ev.bind (good_ev q) ?_))
              cases h : good q <;> exact Ev.now _
            refine Ev.congr (f := fun k => (spec_tyIf.f k (W t : Int) (H t : Int) (ints ((B t).set i c))).bind fun bt141 => (some (bt141.1, bt141.2))) (g := _) (r := _) (fun k => ?_) (Ev.bind hIf (Ev.now _))
            show ite _ _ _ = _
            rw [if_pos rfl, hcell, Option.bind_some, if_pos rfl, oS, Option.bind_some, if_pos rfl, if_pos z0, hi, if_pos g1, if_pos g2, Int.toNat_natCast, hb, ints_set]
          · refine Ev.congr (g := _) (r := _) (fun k => ?_) hW
            show ite _ _ _ = _
            rw [if_pos rfl, oI, Option.bind_some, if_pos rfl, rd, Option.bind_some, hi, if_pos ⟨⟨g1, g2⟩, by rw [ints_length, hl]; omega, z0'⟩, Int.toNat_natCast, hb, ints_set, TI, Option.bind_some]
      · obtain ⟨n1, n2⟩ := notOne h1
        refine ⟨((⟨#[]⟩ : ByteArray), false), Ev.congr (fun k => rfl) (Ev.bind ra ⟨0, fun k _ => ?_⟩), Ev.congr (fun k => rfl) (Ev.bind hpl ⟨0, fun k _ => ?_⟩)⟩
        · show ite _ _ _ = _
          rw [if_pos rfl, hcell, Option.bind_some, if_pos rfl, n2]
          rfl
        · show ite _ _ _ = _
          rw [if_pos rfl, n1]
          rfl
  · rw [Bool.eq_false_iff.2 ga] at ia
    rw [if_neg ga] at ra
    have hpl : Ev (fun k => impl_isPlace.f k t x y) false := Ev.congr (fun k => rfl) (Ev.bind ia ⟨0, fun k _ => rfl⟩)
    exact ⟨((⟨#[]⟩ : ByteArray), false), Ev.congr (fun k => rfl) (Ev.bind ra ⟨0, fun k _ => rfl⟩), Ev.congr (fun k => rfl) (Ev.bind hpl ⟨0, fun k _ => rfl⟩)⟩
theorem FnExactPutAt : laws_FnExactPutAt.Pure := by
  intro t x y s _ _ _ _
  by_cases ht : (t.size : Int) > 1048576
  · exact ⟨0, by rw [laws_FnExactPutAt.f, if_pos ht]⟩
  by_cases hs : (s.size : Int) > 1048576
  · exact ⟨0, by rw [laws_FnExactPutAt.f, if_neg ht, if_pos hs]⟩
  refine Ev.rounds (Ev.congr (fun k => by rw [laws_FnExactPutAt.f, if_neg ht, if_neg hs]) ?_)
  obtain ⟨r, hS, hI⟩ := alike t s x y (by omega)
  refine Ev.bind hS (Ev.bind hI ⟨0, fun k _ => ?_⟩)
  show ite _ _ _ = _
  have hb : ¬ (r.2 != r.2) = true := by cases r.2 <;> decide
  rw [if_pos rfl, if_neg hb]
end Go.Proofs.YtcglmngfglmcgaaDoor.Pure
