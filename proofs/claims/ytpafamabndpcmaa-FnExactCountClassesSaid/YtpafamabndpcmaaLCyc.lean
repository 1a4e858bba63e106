/- The cycles of a move: alike for every size that is asked. -/
import Derived.Test.YtpafamabndpcmaaQx2
import Derived.Test.YtpafamabndpcmaaQx9
set_option linter.unusedVariables false
set_option linter.unusedSimpArgs false
namespace Go.Proofs.YtpafamabndpcmaaL
open Go.RowKit Go.Proofs.Ytpafamabndpcmaa.Q Go.Proofs.YtpafamabndpcmaaW.PrintWords Go.Proofs.YtpafamabndpcmaaW.PrintLast
def okC (cs : List Int) : Prop := (∀ c ∈ cs, 1 ≤ c ∧ c ≤ 36) ∧ cs.length ≤ 100
def sameL : Option (List Int) → Option (List Int) → Bool
  | some a, some b => decide (a = b) && (a.all (fun c => decide (1 ≤ c) && decide (c ≤ 36)) && decide (a.length ≤ 100))
  | _, _ => false
theorem same_of (s i : Option (List Int)) (X : sameL s i = true) : ∃ cs, okC cs ∧ s = some cs ∧ i = some cs := by
  match s, i, X with
  | some a, some b, X =>
    obtain ⟨X0, X1⟩ := Bool.and_eq_true_iff.1 X
    obtain ⟨X1, X2⟩ := Bool.and_eq_true_iff.1 X1
    obtain rfl := of_decide_eq_true X0
    refine ⟨a, ⟨fun c hc => ?_, of_decide_eq_true X2⟩, rfl, rfl⟩
    have X3 := List.all_eq_true.1 X1 c hc
    obtain ⟨A, B⟩ := Bool.and_eq_true_iff.1 X3
    exact ⟨of_decide_eq_true A, of_decide_eq_true B⟩
def fitsN (w h m : Nat) : Bool := decide (w = h) || decide (m % 2 = 0)
theorem of_ok (K w h m : Nat) (X : sameL (spec_cnCycles.f K (w : Int) (h : Int) (m : Int)) (impl_cyclesOf.f K (w : Int) (h : Int) (m : Int)) = true) : ∃ cs, okC cs ∧ Ev (fun k => spec_cnCycles.f k (w : Int) (h : Int) (m : Int)) cs ∧ Ev (fun k => impl_cyclesOf.f k (w : Int) (h : Int) (m : Int)) cs := by
  obtain ⟨cs, hc, hs, hi⟩ := same_of _ _ X
  exact ⟨cs, hc, Ev.of (g := fun k => spec_cnCycles.f k (w : Int) (h : Int) (m : Int)) (fun k => spec_cnCycles.mono _ _ _ k) hs, Ev.of (g := fun k => impl_cyclesOf.f k (w : Int) (h : Int) (m : Int)) (fun k => impl_cyclesOf.mono _ _ _ k) hi⟩
def cycChk (K w h m : Nat) : Bool := !(decide ((w + 1) * (h + 1) ≤ 36) && fitsN (w + 1) (h + 1) m) || sameL (spec_cnCycles.f K ((w + 1 : Nat) : Int) ((h + 1 : Nat) : Int) (m : Int)) (impl_cyclesOf.f K ((w + 1 : Nat) : Int) ((h + 1 : Nat) : Int) (m : Int))
def cycAll (K : Nat) : Bool := (List.range 7).all fun w => (List.range 7).all fun h => (List.range 8).all fun m => cycChk K w h m
theorem cyc_all : cycAll 300 = true := by decide +kernel
theorem cyc_get (K : Nat) (X : cycAll K = true) (w h m : Nat) (hw : w < 7) (hh : h < 7) (h8 : m < 8) : cycChk K w h m = true := by
  unfold cycAll at X
  have X1 := List.all_eq_true.1 X w (List.mem_range.2 hw)
  have X2 := List.all_eq_true.1 X1 h (List.mem_range.2 hh)
  exact List.all_eq_true.1 X2 m (List.mem_range.2 h8)
theorem chk_ok (K w h m : Nat) (X : cycChk K w h m = true) (hm : (w + 1) * (h + 1) ≤ 36) (hf : fitsN (w + 1) (h + 1) m = true) : sameL (spec_cnCycles.f K ((w + 1 : Nat) : Int) ((h + 1 : Nat) : Int) (m : Int)) (impl_cyclesOf.f K ((w + 1 : Nat) : Int) ((h + 1 : Nat) : Int) (m : Int)) = true := by
  unfold cycChk at X
  rw [decide_eq_true hm, hf, Bool.true_and, Bool.not_true, Bool.false_or] at X
  exact X
theorem cyc_same (w h m : Nat) (hw0 : 1 ≤ w) (hw : w ≤ 7) (hh0 : 1 ≤ h) (hh : h ≤ 7) (hm : w * h ≤ 36) (h8 : m < 8) (hf : fitsN w h m = true) :
    ∃ cs, okC cs ∧ Ev (fun k => spec_cnCycles.f k (w : Int) (h : Int) (m : Int)) cs ∧ Ev (fun k => impl_cyclesOf.f k (w : Int) (h : Int) (m : Int)) cs := by
  obtain ⟨w, rfl⟩ : ∃ w', w = w' + 1 := ⟨w - 1, by omega⟩
  obtain ⟨h, rfl⟩ : ∃ h', h = h' + 1 := ⟨h - 1, by omega⟩
  exact of_ok 300 _ _ _ (chk_ok 300 w h m (cyc_get 300 cyc_all w h m (by omega) (by omega) h8) hm hf)
end Go.Proofs.YtpafamabndpcmaaL
