/- The program's PowerWord returns what the reference's returns: for all arguments the law FnExactPowerWord returns true. -/
import Derived.Test.YtdjffbjljccmjaaDoorLWord
import Derived.Test.YtdjffbjljccmjaaDoorQx3
import Derived.Test.YtdjffbjljccmjaaDoorQx2
import Derived.Test.YtdjffbjljccmjaaDoorQx1
set_option linter.unusedVariables false
set_option linter.unusedSimpArgs false
namespace Go.Proofs.YtdjffbjljccmjaaDoor.Pure
open Go.RowKit Go.Proofs.YtdjffbjljccmjaaDoor.Q Go.Proofs.YtdjffbjljccmjaaDoorW.PrintWords Go.Proofs.YtdjffbjljccmjaaDoorW.PrintLast Go.Proofs.YtdjffbjljccmjaaDoorL
def pw (l : List UInt8) : Nat → List UInt8
  | 0 => []
  | n + 1 => l ++ pw l n
theorem pw_eq (l : List UInt8) : ∀ n, pw l n = Lib.repeatL l n
  | 0 => rfl
  | n + 1 => by
    rw [pw, pw_eq l n, Nat.add_comm, Lib.repeatL_add]
    congr 1
    simp [Lib.repeatL]
theorem spec_loop (t : ByteArray) (hs : t.size ≤ 40) : ∀ (n : Nat) (acc : ByteArray), n ≤ 40 → acc.size + n * 40 ≤ 4000 → Ev (fun k => spec_PowerWord.l0 k t (n : Int) acc) (⟨(acc.data.toList ++ pw t.data.toList n).toArray⟩, true) := by
  intro n
  induction n with
  | zero =>
    intro acc _ _
    have g : ¬ ((0 : Nat) : Int) > 0 := by omega
    have e : (⟨(acc.data.toList ++ pw t.data.toList 0).toArray⟩ : ByteArray) = acc := by
      apply ByteArray.ext
      simp [pw]
    rw [e]
    exact Ev.step (f := fun _ => some (acc, true)) (fun k => by rw [spec_PowerWord.l0, if_neg g]) (Ev.now _)
  | succ n ih =>
    intro acc hn ha
    have g : ((n + 1 : Nat) : Int) > 0 := by omega
    have g1 : acc.size + t.size ≤ 9223372036854775807 := by omega
    have e : wrap64 (((n + 1 : Nat) : Int) - 1) = (n : Int) := wmW (by omega) (by omega)
    have h1 := ih (acc ++ t) (by omega) (by rw [ByteArray.size_append]; omega)
    have e2 : (acc ++ t).data.toList ++ pw t.data.toList n = acc.data.toList ++ pw t.data.toList (n + 1) := by
      rw [ByteArray.data_append, Array.toList_append, pw, List.append_assoc]
    rw [e2] at h1
    exact Ev.step (fun k => by rw [spec_PowerWord.l0, if_pos g, if_pos g1, e]) h1
theorem alike (t : ByteArray) (q : Int) : ∃ r : ByteArray × Bool, Ev (fun k => spec_PowerWord.f k t q) r ∧ impl_PowerWord.f t q = some r := by
  have hS := tiWord_eq t
  have hI := isWord_eq t
  have J1 : Ev (fun k => spec_PowerWord.j0 k t q true) ((⟨#[]⟩ : ByteArray), false) := Ev.step (f := fun _ => some ((⟨#[]⟩ : ByteArray), false)) (fun k => by rw [spec_PowerWord.j0, if_pos rfl]) (Ev.now _)
  have hin : spec_l1In.f q 0 40 = some (decide (0 ≤ q) && decide (q ≤ 40)) := by
    rw [spec_l1In.f]
    by_cases h : 0 ≤ q
    · rw [if_pos h, decide_eq_true h, Bool.true_and]
    · rw [if_neg h, decide_eq_false h, Bool.false_and]
  have hwi : impl_within.f q 0 40 = some (decide (0 ≤ q) && decide (q ≤ 40)) := by
    rw [impl_within.f]
    by_cases h : 0 ≤ q
    · rw [if_pos h, decide_eq_true h, Bool.true_and]
    · rw [if_neg h, decide_eq_false h, Bool.false_and]
  cases hw : wordOk t with
  | false =>
    rw [hw] at hS hI
    refine ⟨(⟨#[]⟩, false), Ev.congr (fun k => rfl) (Ev.bind hS J1), ?_⟩
    rw [impl_PowerWord.f, hI, Option.bind_some]
    rfl
  | true =>
    rw [hw] at hS hI
    unfold wordOk at hw
    rw [Bool.and_eq_true, decide_eq_true_eq] at hw
    obtain ⟨hs, _⟩ := hw
    cases hq : (decide (0 ≤ q) && decide (q ≤ 40)) with
    | false =>
      rw [hq] at hin hwi
      refine ⟨(⟨#[]⟩, false), Ev.congr (fun k => rfl) (Ev.bind hS (Ev.congr (f := fun k => spec_PowerWord.j0 k t q true) (fun k => ?_) J1)), ?_⟩
      · rw [if_pos rfl, hin]
        rfl
      · rw [impl_PowerWord.f, hI, Option.bind_some, if_pos rfl, hwi]
        rfl
    | true =>
      rw [hq] at hin hwi
      rw [Bool.and_eq_true, decide_eq_true_eq, decide_eq_true_eq] at hq
      obtain ⟨n, rfl⟩ := Int.eq_ofNat_of_zero_le hq.1
      have hn : n ≤ 40 := by omega
      by_cases hb : wrap64 ((t.size : Int) * (n : Int)) > 40
      · refine ⟨(⟨#[]⟩, false), Ev.congr (fun k => rfl) (Ev.bind hS (Ev.congr (f := fun k => spec_PowerWord.j0 k t (n : Int) true) (fun k => ?_) J1)), ?_⟩
        · rw [if_pos rfl, hin, Option.bind_some, if_pos rfl, decide_eq_true hb]
        · rw [impl_PowerWord.f, hI, Option.bind_some, if_pos rfl, hwi, Option.bind_some, if_pos rfl, if_pos hb]
      · have L := spec_loop t hs n ⟨#[]⟩ hn (by show 0 + n * 40 ≤ 4000; omega)
        have e : (⟨#[]⟩ : ByteArray).data.toList ++ pw t.data.toList n = Lib.repeatL t.data.toList n := by rw [pw_eq]; rfl
        rw [e] at L
        have hR : strings_Repeat.f t (n : Int) = some (⟨(Lib.repeatL t.data.toList n).toArray⟩ : ByteArray) := by
          rw [strings_Repeat.f, if_pos ⟨by omega, by omega, by omega⟩, Int.toNat_natCast]
        refine ⟨_, Ev.congr (fun k => rfl) (Ev.bind hS (Ev.congr (f := fun k => spec_PowerWord.j0 k t (n : Int) false) (fun k => ?_) (Ev.step (fun k => ?_) L))), ?_⟩
        · rw [if_pos rfl, hin, Option.bind_some, if_pos rfl, decide_eq_false hb]
        · rw [spec_PowerWord.j0, if_neg (by decide)]
        · rw [impl_PowerWord.f, hI, Option.bind_some, if_pos rfl, hwi, Option.bind_some, if_pos rfl, if_neg hb, hR]
          rfl
theorem FnExactPowerWord : laws_FnExactPowerWord.Pure := by
  intro a q _ _
  by_cases hta : (a.size : Int) > 1048576
  · exact ⟨0, by rw [laws_FnExactPowerWord.f, if_pos hta]⟩
  refine Ev.rounds (Ev.congr (fun k => by rw [laws_FnExactPowerWord.f, if_neg hta]) ?_)
  obtain ⟨r, hS, hI⟩ := alike a q
  refine Ev.bind hS ⟨0, fun k _ => ?_⟩
  show (impl_PowerWord.f a q).bind _ = _
  have hb : ¬ (r.2 != r.2) = true := by cases r.2 <;> decide
  rw [hI, Option.bind_some, if_pos rfl, if_neg hb]
end Go.Proofs.YtdjffbjljccmjaaDoor.Pure
