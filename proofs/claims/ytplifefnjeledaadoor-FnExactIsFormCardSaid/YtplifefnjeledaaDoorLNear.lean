/- The neighbours of a cell: the reference's tyNear and the program's beside tell the same. -/
import Derived.Test.YtplifefnjeledaaDoorMFlood
import Derived.Test.YtplifefnjeledaaDoorQx3
import Derived.Test.YtplifefnjeledaaDoorQx8
set_option linter.unusedVariables false
set_option linter.unusedSimpArgs false
namespace Go.Proofs.YtplifefnjeledaaDoorL
open Go.RowKit Go.Proofs.YtplifefnjeledaaDoor.Q Go.Proofs.YtplifefnjeledaaDoorW.PrintWords Go.Proofs.YtplifefnjeledaaDoorW.PrintLast Go.Proofs.YtplifefnjeledaaDoorM Go.Proofs.YtplifefnjeledaaDoorV
def nbr (w h u : Nat) : List Nat := (if 0 < u / w then [u - w] else []) ++ ((if u % w + 1 < w then [u + 1] else []) ++ ((if u / w + 1 < h then [u + w] else []) ++ (if 0 < u % w then [u - 1] else [])))
def adjOf (w h u : Nat) : List Nat := if u < w * h then nbr w h u else []
def intsN (l : List Nat) : List Int := l.map (fun x : Nat => (x : Int))
def nearChk (w h : Nat) : Bool := (List.range (w * h)).all fun u =>
 (decide (spec_tyNear.f 3 (w : Int) (h : Int) [] (u : Int) = some (intsN (nbr w h u))) && decide (besL (w : Int) (h : Int) (u : Int) 4 = intsN (nbr w h u))) && (nbr w h u).all fun b => decide (b < w * h) && decide (u ∈ nbr w h b)
def nearAll : Bool := (List.range 7).all fun w => (List.range 7).all fun h => !decide ((w + 1) * (h + 1) ≤ 36) || nearChk (w + 1) (h + 1)
theorem near_all : nearAll = true := by decide +kernel
structure Size (w h : Nat) : Prop where
 w0 : 1 ≤ w
 w1 : w ≤ 7
 h0 : 1 ≤ h
 h1 : h ≤ 7
 p : w * h ≤ 36
theorem near_at {w h : Nat} (hs : Size w h) {u : Nat} (hu : u < w * h) :
  (spec_tyNear.f 3 (w : Int) (h : Int) [] (u : Int) = some (intsN (nbr w h u)) ∧ besL (w : Int) (h : Int) (u : Int) 4 = intsN (nbr w h u)) ∧ ∀ b ∈ nbr w h u, b < w * h ∧ u ∈ nbr w h b := by
 obtain ⟨w, rfl⟩ : ∃ w', w = w' + 1 := ⟨w - 1, by have := hs.w0; omega⟩
 obtain ⟨h, rfl⟩ : ∃ h', h = h' + 1 := ⟨h - 1, by have := hs.h0; omega⟩
 have X := near_all
 unfold nearAll at X
 have X1 := List.all_eq_true.1 (List.all_eq_true.1 X w (List.mem_range.2 (by have := hs.w1; omega))) h (List.mem_range.2 (by have := hs.h1; omega))
 rw [decide_eq_true hs.p, Bool.not_true, Bool.false_or] at X1
 unfold nearChk at X1
 have X2 := List.all_eq_true.1 X1 u (List.mem_range.2 hu)
 obtain ⟨A, B⟩ := Bool.and_eq_true_iff.1 X2
 obtain ⟨A1, A2⟩ := Bool.and_eq_true_iff.1 A
 refine ⟨⟨of_decide_eq_true A1, of_decide_eq_true A2⟩, fun b hb => ?_⟩
 obtain ⟨B1, B2⟩ := Bool.and_eq_true_iff.1 (List.all_eq_true.1 B b hb)
 exact ⟨of_decide_eq_true B1, of_decide_eq_true B2⟩
theorem near_any (a b u : Int) (l : List Int) : spec_tyNear.f 3 a b l u = spec_tyNear.f 3 a b [] u := by
 simp only [spec_tyNear.f, spec_tyNear.j0, spec_tyNear.j1]
theorem near_ev {w h : Nat} (hs : Size w h) {u : Nat} (hu : u < w * h) (l : List Int) : Ev (fun k => spec_tyNear.f k (w : Int) (h : Int) l (u : Int)) (intsN (adjOf w h u)) := by
 have e := (near_at hs hu).1.1
 rw [← near_any (w : Int) (h : Int) (u : Int) l] at e
 unfold adjOf
 rw [if_pos hu]
 exact Ev.of (g := fun k => spec_tyNear.f k (w : Int) (h : Int) l (u : Int)) (fun k => spec_tyNear.mono _ _ _ _ k) e
theorem beside_eq {w h : Nat} (hs : Size w h) {u : Nat} (hu : u < w * h) (l : List Int) : impl_tray_beside.f (w : Int) (h : Int) l (u : Int) = some (intsN (adjOf w h u)) := by
 have e := (near_at hs hu).1.2
 unfold impl_tray_beside.f adjOf
 rw [if_neg (by have := hs.w0; omega), if_pos hu, e]
theorem adj_lt {w h : Nat} (hs : Size w h) : ∀ a b, b ∈ adjOf w h a → b < w * h := by
 intro a b hb
 unfold adjOf at hb
 by_cases ha : a < w * h
 ·rw [if_pos ha] at hb
  exact ((near_at hs ha).2 b hb).1
 ·rw [if_neg ha] at hb
  cases hb
theorem adj_sym {w h : Nat} (hs : Size w h) : ∀ a b, b ∈ adjOf w h a → a ∈ adjOf w h b := by
 intro a b hb
 have hlt := adj_lt hs a b hb
 unfold adjOf at hb ⊢
 by_cases ha : a < w * h
 ·rw [if_pos ha] at hb
  rw [if_pos hlt]
  exact ((near_at hs ha).2 b hb).2
 ·rw [if_neg ha] at hb
  cases hb
theorem intsN_len (l : List Nat) : (intsN l).length = l.length := List.length_map ..
theorem rd_intsN (l : List Nat) (i : Nat) (h : i < l.length) : rd (intsN l) (i : Int) = (l[i] : Int) := by
 unfold rd intsN
 rw [Int.toNat_natCast, List.getD_eq_getElem?_getD, List.getElem?_map, List.getElem?_eq_getElem h]
 rfl
theorem rd_nat (l : List Int) (i : Nat) : rd l (i : Int) = l.getD i 0 := by unfold rd; rw [Int.toNat_natCast]
theorem wrapN {z : Int} (n : Nat) (h : n < 1000000) (hz : z = (n : Int)) : wrap64 z = (n : Int) := by
 rw [hz]
 unfold wrap64
 omega
/-- The parts whose first cells lie before i. -/
noncomputable def partsTo (acc : Nat → Bool) (adj : Nat → List Nat) (n i : Nat) : List (List Int) := (BF.roots acc adj i).map fun t => intsN (BF.comp acc adj n t)
end Go.Proofs.YtplifefnjeledaaDoorL
namespace Go.Proofs.YtplifefnjeledaaDoorL
open Go.RowKit Go.Proofs.YtplifefnjeledaaDoor.Q Go.Proofs.YtplifefnjeledaaDoorW.PrintWords Go.Proofs.YtplifefnjeledaaDoorW.PrintLast Go.Proofs.YtplifefnjeledaaDoorM Go.Proofs.YtplifefnjeledaaDoorV
open BF
def accO (L : List Int) (k : Nat) : Bool := L.getD k 0 != 35
theorem layer_drop {acc : Nat → Bool} {adj : Nat → List Nat} {val : List Int → Nat → Int} (s : List Int × List Nat) (u : Nat) : ((adj u).drop 0).foldl (visit acc (val s.1 u)) s = layer acc adj val s u := rfl
theorem intsN_snoc (l : List Nat) (b : Nat) : intsN l ++ [(b : Int)] = intsN (l ++ [b]) := by
 unfold intsN
 rw [List.map_append]
 rfl
theorem at_nat {l : List Nat} {i u : Nat} (h : l[i]? = some u) : rd (intsN l) (i : Int) = (u : Int) ∧ (i : Int) < ((intsN l).length : Int) := by
 obtain ⟨hlt, e⟩ := List.getElem?_eq_some_iff.1 h
 rw [rd_intsN l i hlt, e, intsN_len]
 exact ⟨rfl, by omega⟩
theorem adj_small (w h u : Nat) : (adjOf w h u).length ≤ 4 := by
 unfold adjOf
 split
 ·unfold nbr
  simp only [List.length_append]
  have : ∀ (p : Prop) [Decidable p] (x : Nat), (if p then [x] else []).length ≤ 1 := by
   intro p _ x
   split <;> simp
  have h1 := this (0 < u / w) (u - w)
  have h2 := this (u % w + 1 < w) (u + 1)
  have h3 := this (u / w + 1 < h) (u + w)
  have h4 := this (0 < u % w) (u - 1)
  omega
 ·simp
end Go.Proofs.YtplifefnjeledaaDoorL
