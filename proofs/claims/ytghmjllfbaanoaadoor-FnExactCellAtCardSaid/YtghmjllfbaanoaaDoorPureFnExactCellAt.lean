/- The program's CellAt returns what the reference's returns: for all arguments the law FnExactCellAt returns true. -/
import Derived.Test.YtghmjllfbaanoaaDoorLTray
import Derived.Test.YtghmjllfbaanoaaDoorQx6
set_option linter.unusedVariables false
set_option linter.unusedSimpArgs false
namespace Go.Proofs.YtghmjllfbaanoaaDoor.Pure
open Go.RowKit Go.Proofs.YtghmjllfbaanoaaDoor.Q Go.Proofs.YtghmjllfbaanoaaDoorW.PrintWords Go.Proofs.YtghmjllfbaanoaaDoorW.PrintLast Go.Proofs.YtghmjllfbaanoaaDoorM Go.Proofs.YtghmjllfbaanoaaDoorL

theorem wn {n : Nat} {z : Int} (h : n < 1000000) (hz : z = (n : Int)) : wrap64 z = (n : Int) := by
  rw [hz]
  exact wr (by omega) (by omega)
def inside (w h : Nat) (x y : Int) : Bool := (decide (0 ≤ x) && decide (x ≤ (w : Int) - 1)) && (decide (0 ≤ y) && decide (y ≤ (h : Int) - 1))
theorem tyCell_eq (w h : Nat) (cs : List Int) (x y : Int) (hw : w ≤ 7) (hh : h ≤ 7) : spec_tyCell.f (w : Int) (h : Int) cs x y = some (inside w h x y) := by
  have e1 : wrap64 ((w : Int) - 1) = (w : Int) - 1 := wr (by omega) (by omega)
  have e2 : wrap64 ((h : Int) - 1) = (h : Int) - 1 := wr (by omega) (by omega)
  rw [spec_tyCell.f, spec_l1In.f, spec_l1In.f, e1, e2]
  unfold inside
  by_cases c1 : 0 ≤ x <;> by_cases c2 : x ≤ (w : Int) - 1 <;> by_cases c3 : 0 ≤ y <;> simp [c1, c2, c3]
theorem isPlace_eq (t : ByteArray) (x y : Int) (ht : t.size ≤ 1048576) (hg : good t = true) : Ev (fun k => impl_isPlace.f k t x y) (inside (W t) (H t) x y) := by
  obtain ⟨f1, f2, f3, f4, f5, f6, f7⟩ := good_facts hg
  have e1 : wrap64 ((W t : Int) - 1) = (W t : Int) - 1 := wr (by omega) (by omega)
  have e2 : wrap64 ((H t : Int) - 1) = (H t : Int) - 1 := wr (by omega) (by omega)
  have hi := isTray_eq t ht
  rw [hg] at hi
  refine Ev.congr (fun k => rfl) (Ev.bind hi (Ev.congr (f := fun _ => some (inside (W t) (H t) x y)) (fun k => ?_) (Ev.now _)))
  rw [if_pos rfl, read_eq t ht]
  simp only [Option.bind_some]
  rw [impl_within.f, impl_within.f, e1, e2]
  unfold inside
  by_cases c1 : 0 ≤ x <;> by_cases c2 : x ≤ (W t : Int) - 1 <;> by_cases c3 : 0 ≤ y <;> simp [c1, c2, c3]
theorem tell (g : Nat → Option (ByteArray × Bool)) (f : Nat → Option (ByteArray × Bool)) (r : ByteArray × Bool) (h1 : Ev g r) (h2 : Ev f r) :
    Ev (fun k => (g k).bind fun b1 => (f k).bind fun b2 => (if b2.1.toList = b1.1.toList then (if (b2.2 != b1.2) = true then (some false) else (some true)) else (some false))) true := by
  refine Ev.bind h1 (Ev.bind h2 ?_)
  refine ⟨0, fun k _ => ?_⟩
  simp
theorem FnExactCellAt : laws_FnExactCellAt.Pure := by
  intro t x y _ hx hy
  by_cases ht : (t.size : Int) > 1048576
  · exact ⟨0, by rw [laws_FnExactCellAt.f, if_pos ht]⟩
  refine Ev.rounds (Ev.congr (fun k => by rw [laws_FnExactCellAt.f, if_neg ht]) ?_)
  have hi := isTray_eq t (by omega)
  have hr := tyRead_eq t
  have ht' : t.size ≤ 1048576 := by omega
  by_cases hg : good t = true
  · obtain ⟨f1, f2, f3, f4, f5, f6, f7⟩ := good_facts hg
    have hp := isPlace_eq t x y (by omega) hg
    rw [if_pos hg] at hr
    by_cases hin : inside (W t) (H t) x y = true
    · have hin2 : (0 ≤ x ∧ x ≤ (W t : Int) - 1) ∧ 0 ≤ y ∧ y ≤ (H t : Int) - 1 := by simpa [inside] using hin
      obtain ⟨⟨a1, a2⟩, a3, a4⟩ := hin2
      obtain ⟨x', rfl⟩ := Int.eq_ofNat_of_zero_le a1
      obtain ⟨y', rfl⟩ := Int.eq_ofNat_of_zero_le a3
      have b1 : y' * W t + x' < W t * H t := by
        have h1 : (y' + 1) * W t ≤ H t * W t := Nat.mul_le_mul_right _ (by omega)
        rw [Nat.add_mul, Nat.one_mul, Nat.mul_comm (H t)] at h1
        omega
      have B2 : y' * W t + x' + 1 < 1000000 := by omega
      have B1 : y' * W t + x' < 1000000 := by omega
      have B0 : y' * W t < 1000000 := by omega
      have q0 : (0 : Int) ≤ ((y' * W t + x' : Nat) : Int) := by omega
      have q1 : ((y' * W t + x' : Nat) : Int) ≤ ((y' * W t + x' + 1 : Nat) : Int) := by omega
      have q2 : ((y' * W t + x' + 1 : Nat) : Int) ≤ ((CS t).length : Int) := by omega
      have e0 : wrap64 ((y' : Int) * (W t : Int)) = ((y' * W t : Nat) : Int) := wn B0 (Int.natCast_mul _ _).symm
      have e1 : wrap64 (((y' * W t : Nat) : Int) + (x' : Int)) = ((y' * W t + x' : Nat) : Int) := wn B1 rfl
      have e2 : wrap64 (((y' * W t + x' : Nat) : Int) + 1) = ((y' * W t + x' + 1 : Nat) : Int) := wn B2 rfl
      have hp' := hp
      rw [hin] at hp'
      obtain ⟨R, hR⟩ : ∃ R, (strOfNums (((CS t).take ((y' * W t + x' + 1 : Nat) : Int).toNat).drop ((y' * W t + x' : Nat) : Int).toNat), true) = R := ⟨_, rfl⟩
      refine tell _ _ R (Ev.congr (fun k => rfl) (Ev.bind hr ?_)) (Ev.congr (fun k => rfl) (Ev.bind hp' ?_))
      · refine ⟨0, fun k _ => ?_⟩
        rw [if_pos rfl, tyCell_eq _ _ _ _ _ f2 f4, hin, Option.bind_some, if_pos rfl]
        rw [e0, e1, e2, if_pos q0, if_pos q1, if_pos q2, hR]
      · refine ⟨0, fun k _ => ?_⟩
        rw [if_pos rfl, read_eq t ht', Option.bind_some]
        rw [e0, e1, e2, if_pos q0, if_pos q1, if_pos q2, hR]
    · have hin' := Bool.eq_false_iff.2 hin
      rw [hin'] at hp
      refine tell _ _ ((⟨#[]⟩ : ByteArray), false) (Ev.congr (fun k => rfl) (Ev.bind hr ?_)) (Ev.congr (fun k => rfl) (Ev.bind hp ?_))
      rotate_left
      · exact Ev.now _
      refine ⟨0, fun k _ => ?_⟩
      rw [if_pos rfl, tyCell_eq _ _ _ _ _ f2 f4, hin']
      rfl
  · rw [Bool.eq_false_iff.2 hg] at hi
    rw [if_neg hg] at hr
    have hp : Ev (fun k => impl_isPlace.f k t x y) false := Ev.congr (fun k => rfl) (Ev.bind hi (Ev.now _))
    refine tell _ _ ((⟨#[]⟩ : ByteArray), false) (Ev.congr (fun k => rfl) (Ev.bind hr ?_)) (Ev.congr (fun k => rfl) (Ev.bind hp ?_))
    · exact Ev.now _
    · exact Ev.now _

end Go.Proofs.YtghmjllfbaanoaaDoor.Pure
