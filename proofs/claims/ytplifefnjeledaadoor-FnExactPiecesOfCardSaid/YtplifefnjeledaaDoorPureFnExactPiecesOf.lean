/- The program's PiecesOf returns what the reference's returns. -/
import Derived.Test.YtplifefnjeledaaDoorQLawFnExactPiecesOf
import Derived.Test.YtplifefnjeledaaDoorQx19
import Derived.Test.YtplifefnjeledaaDoorLTray
import Derived.Test.YtplifefnjeledaaDoorLFarB
set_option linter.unusedVariables false
set_option linter.unusedSimpArgs false
namespace Go.Proofs.YtplifefnjeledaaDoor.Pure
open Go.RowKit Go.Proofs.YtplifefnjeledaaDoor.Q Go.Proofs.YtplifefnjeledaaDoorW.PrintWords Go.Proofs.YtplifefnjeledaaDoorW.PrintLast Go.Proofs.YtplifefnjeledaaDoorM Go.Proofs.YtplifefnjeledaaDoorV
open Go.Proofs.YtplifefnjeledaaDoorL BF
theorem size_of {t : ByteArray} (h : good t = true) : Size (W t) (H t) := by
  obtain ⟨f1, f2, f3, f4, f5, f6, f7⟩ := good_facts h
  exact ⟨f1, f2, f3, f4, f5⟩
theorem both {α : Type} {f g : Nat → Option α} {r : α} (h1 : Ev f r) (h2 : Ev g r) : ∃ k, f k = some r ∧ g k = some r := by
  obtain ⟨K1, e1⟩ := h1
  obtain ⟨K2, e2⟩ := h2
  exact ⟨max K1 K2, e1 _ (Nat.le_max_left ..), e2 _ (Nat.le_max_right ..)⟩
theorem partsTo_le (acc : Nat → Bool) (adj : Nat → List Nat) (n i : Nat) : (partsTo acc adj n i).length ≤ i := by
  unfold partsTo
  rw [List.length_map]
  exact roots_le i
/-- A cell bears the number of the first cell that reaches it. -/
theorem piece_iff {acc : Nat → Bool} {adj : Nat → List Nat} {n cnt idx t : Nat} {out : List Int} (hP : Pieces acc adj n n out cnt) (ht : (roots acc adj n)[idx]? = some t) {j : Nat} (hj : j < n) : out.getD j 0 = (idx : Int) ↔ BF.Reach acc adj t j := by
  constructor
  · intro e
    rcases hP.at_ hj with ⟨_, t', ht', hr⟩ | ⟨e', _⟩
    · obtain ⟨idx', hlt, e2⟩ := List.getElem_of_mem ht'
      have h2 : (roots acc adj n)[idx']? = some t' := by rw [List.getElem?_eq_getElem hlt, e2]
      have h3 := hP.told idx' t' j h2 hr
      have : idx' = idx := by omega
      rw [this, ht] at h2
      injection h2 with h2
      rw [h2]
      exact hr
    · omega
  · exact hP.told idx t j ht
theorem lists_l1 {w h : Nat} (hs : Size w h) {acc : Nat → Bool} {out : List Int} {cnt idx tt : Nat} (hP : Pieces acc (adjOf w h) (w * h) (w * h) out cnt) (ht : (roots acc (adjOf w h) (w * h))[idx]? = some tt) (x5 : List (List Int)) (hx : x5.length ≤ 36) (res : List (List Int))
    (hC : Ev (fun k => spec_skLists.l0 k out (cnt : Int) (x5 ++ [intsN (comp acc (adjOf w h) (w * h) tt)]) ((idx + 1 : Nat) : Int)) res) (hidx : idx ≤ 36) :
    ∀ (d t : Nat), t + d = w * h → Ev (fun k => spec_skLists.l1 k out (cnt : Int) x5 (idx : Int) (intsN (comp acc (adjOf w h) t tt)) out (out.length : Int) (t : Int)) res := by
  have hp := hs.p
  have hlen := hP.len
  intro d
  induction d with
  | zero =>
    intro t htt
    have e : t = w * h := by omega
    subst e
    have g0 : ¬ ((w * h : Nat) : Int) < (out.length : Int) := by omega
    have g1 : x5.length < 5864062014805 := by omega
    have em : wrap64 ((idx : Int) + 1) = ((idx + 1 : Nat) : Int) := wrapN (idx + 1) (by omega) (by omega)
    refine Ev.step (fun k => ?_) hC
    rw [spec_skLists.l1, if_neg g0, if_pos g1, em]
  | succ d ih =>
    intro t htt
    have htn : t < w * h := by omega
    have hI := ih (t + 1) (by omega)
    have g0 : (t : Int) < (out.length : Int) := by omega
    have g1 : (0 : Int) ≤ (t : Int) := by omega
    have em : wrap64 ((t : Int) + 1) = ((t + 1 : Nat) : Int) := wrapN (t + 1) (by omega) (by omega)
    have rb := rd_nat out t
    have hle : (comp acc (adjOf w h) t tt).length ≤ t := comp_le t tt
    rcases Classical.em (BF.Reach acc (adjOf w h) tt t) with x | x
    · have c := (piece_iff hP ht htn).2 x
      rw [comp_pos x, ← intsN_snoc] at hI
      have g8 : (intsN (comp acc (adjOf w h) t tt)).length < 17592186044416 := by rw [intsN_len]; omega
      refine Ev.step (fun k => ?_) hI
      rw [spec_skLists.l1, if_pos g0, if_pos g1, if_pos g0, rb, if_pos c, if_pos g8, em]
    · have c : ¬ out.getD t 0 = (idx : Int) := fun e => x ((piece_iff hP ht htn).1 e)
      rw [comp_neg x] at hI
      refine Ev.step (fun k => ?_) hI
      rw [spec_skLists.l1, if_pos g0, if_pos g1, if_pos g0, rb, if_neg c, em]
theorem lists_ev {w h : Nat} (hs : Size w h) {acc : Nat → Bool} {out : List Int} {cnt : Nat} (hP : Pieces acc (adjOf w h) (w * h) (w * h) out cnt) : Ev (fun k => spec_skLists.f k out (cnt : Int)) (partsTo acc (adjOf w h) (w * h) (w * h)) := by
  have hp := hs.p
  have hc : cnt ≤ 36 := by rw [hP.cnt]; have := roots_le (acc := acc) (adj := adjOf w h) (w * h); omega
  have hpc : (partsTo acc (adjOf w h) (w * h) (w * h)).length = cnt := by unfold partsTo; rw [List.length_map, hP.cnt]
  have key : ∀ (d i : Nat), i + d = cnt → Ev (fun k => spec_skLists.l0 k out (cnt : Int) ((partsTo acc (adjOf w h) (w * h) (w * h)).take i) (i : Int)) (partsTo acc (adjOf w h) (w * h) (w * h)) := by
    intro d
    induction d with
    | zero =>
      intro i hi
      have e : i = cnt := by omega
      subst e
      have g0 : ¬ ((i : Int) < (i : Int)) := by omega
      rw [List.take_of_length_le (by omega)]
      exact Ev.step (f := fun _ => some (partsTo acc (adjOf w h) (w * h) (w * h))) (fun k => by rw [spec_skLists.l0, if_neg g0]) (Ev.now _)
    | succ d ih =>
      intro i hi
      have g0 : (i : Int) < (cnt : Int) := by omega
      have hlt : i < (roots acc (adjOf w h) (w * h)).length := by rw [← hP.cnt]; omega
      have hI := ih (i + 1) (by omega)
      have hlt2 : i < (partsTo acc (adjOf w h) (w * h) (w * h)).length := by omega
      have e : (partsTo acc (adjOf w h) (w * h) (w * h))[i] = intsN (comp acc (adjOf w h) (w * h) ((roots acc (adjOf w h) (w * h))[i])) := List.getElem_map _
      rw [List.take_succ_eq_append_getElem hlt2, e] at hI
      have X := lists_l1 hs hP (List.getElem?_eq_getElem hlt) ((partsTo acc (adjOf w h) (w * h) (w * h)).take i) (by rw [List.length_take]; omega) _ hI (by omega) (w * h) 0 (Nat.zero_add _)
      refine Ev.step (fun k => ?_) X
      rw [spec_skLists.l0, if_pos g0]
      rfl
  have h0 := key cnt 0 (Nat.zero_add _)
  refine Ev.congr (g := _) (r := _) (fun k => ?_) h0
  rw [spec_skLists.f]
  rfl
theorem FnExactPiecesOf : laws_FnExactPiecesOf.Pure := by
  intro t ht
  have ht' : t.size ≤ 1048576 := by omega
  have hi := isTray_eq t ht'
  have hr := tyRead_eq t
  by_cases hg : good t = true
  · obtain ⟨f1, f2, f3, f4, f5, f6, f7⟩ := good_facts hg
    have hs := size_of hg
    have hre := read_eq t ht'
    rw [hg] at hi
    rw [if_pos hg] at hr
    generalize W t = w at *
    generalize H t = h at *
    generalize CS t = L at *
    have hB := parts_isBall_ev hs f6
    obtain ⟨out, cnt, hP, hS⟩ := sk_ev hs f6
    have hLs := lists_ev hs hP
    have hsp : Ev (fun k => spec_PiecesOf.f k t) (partsTo (accB L) (adjOf w h) (w * h) (w * h), true) := by
      refine Ev.congr (f := fun k => (spec_tyRead.f k t).bind fun bt416 => (if bt416.2.2.2 = true then ((spec_skPieces.f k bt416.1 bt416.2.1 bt416.2.2.1).bind fun bt423 => ((spec_skLists.f k bt423.1 bt423.2).bind fun t427 => (some (t427, true)))) else (some (([] : List (List Int)), false)))) (g := _) (r := _) (fun k => by rw [spec_PiecesOf.f]) ?_
      refine Ev.bind (f := fun k bt416 => (if bt416.2.2.2 = true then ((spec_skPieces.f k bt416.1 bt416.2.1 bt416.2.2.1).bind fun bt423 => ((spec_skLists.f k bt423.1 bt423.2).bind fun t427 => (some (t427, true)))) else (some (([] : List (List Int)), false)))) hr ?_
      show Ev (fun k => ((spec_skPieces.f k (w : Int) (h : Int) L).bind fun bt423 => ((spec_skLists.f k bt423.1 bt423.2).bind fun t427 => (some (t427, true))))) _
      refine Ev.bind (f := fun k bt423 => ((spec_skLists.f k bt423.1 bt423.2).bind fun t427 => (some (t427, true)))) hS ?_
      exact Ev.bind (f := fun k t427 => (some (t427, true))) hLs (Ev.now _)
    have him : Ev (fun k => impl_PiecesOf.f k t) (partsTo (accB L) (adjOf w h) (w * h) (w * h), true) := by
      refine Ev.congr (f := fun k => (impl_IsTray.f k t).bind fun t323 => (if t323 = true then ((impl_read.f t).bind fun bt324 => ((impl_tray_pieces.f k bt324.1 bt324.2.1 bt324.2.2).bind fun t329 => (some (t329, true)))) else (some (([] : List (List Int)), false)))) (g := _) (r := _) (fun k => by rw [impl_PiecesOf.f]) ?_
      refine Ev.bind (f := fun k t323 => (if t323 = true then ((impl_read.f t).bind fun bt324 => ((impl_tray_pieces.f k bt324.1 bt324.2.1 bt324.2.2).bind fun t329 => (some (t329, true)))) else (some (([] : List (List Int)), false)))) hi ?_
      refine Ev.congr (f := fun k => (impl_tray_pieces.f k (w : Int) (h : Int) L).bind fun t329 => (some (t329, true))) (g := _) (r := _) (fun k => by rw [if_pos rfl, hre, Option.bind_some]) ?_
      refine Ev.bind (g := fun k => impl_tray_pieces.f k (w : Int) (h : Int) L) (f := fun k t329 => (some (t329, true))) (a := partsTo (accB L) (adjOf w h) (w * h) (w * h)) ?_ (Ev.now _)
      refine Ev.congr (f := fun k => (impl_tray_parts_at_impl_isBall.f k (w : Int) (h : Int) L).bind fun t320 => (some t320)) (g := _) (r := _) (fun k => by rw [impl_tray_pieces.f]) ?_
      exact Ev.bind (f := fun k t320 => some t320) hB (Ev.now _)
    obtain ⟨k, e1, e2⟩ := both hsp him
    have hpl := partsTo_le (accB L) (adjOf w h) (w * h) (w * h)
    refine ⟨k, _, _, e1, e2, by omega, fun r hr => ?_⟩
    unfold partsTo at hr
    obtain ⟨t', _, rfl⟩ := List.mem_map.1 hr
    rw [intsN_len]
    have := comp_le (acc := accB L) (adj := adjOf w h) (w * h) t'
    omega
  · rw [Bool.eq_false_iff.2 hg] at hi
    rw [if_neg hg] at hr
    have hsp : Ev (fun k => spec_PiecesOf.f k t) ([], false) := by
      refine Ev.congr (f := fun k => (spec_tyRead.f k t).bind fun bt416 => (if bt416.2.2.2 = true then ((spec_skPieces.f k bt416.1 bt416.2.1 bt416.2.2.1).bind fun bt423 => ((spec_skLists.f k bt423.1 bt423.2).bind fun t427 => (some (t427, true)))) else (some (([] : List (List Int)), false)))) (g := _) (r := _) (fun k => by rw [spec_PiecesOf.f]) ?_
      refine Ev.bind (f := fun k bt416 => (if bt416.2.2.2 = true then ((spec_skPieces.f k bt416.1 bt416.2.1 bt416.2.2.1).bind fun bt423 => ((spec_skLists.f k bt423.1 bt423.2).bind fun t427 => (some (t427, true)))) else (some (([] : List (List Int)), false)))) hr ?_
      exact Ev.now _
    have him : Ev (fun k => impl_PiecesOf.f k t) ([], false) := by
      refine Ev.congr (f := fun k => (impl_IsTray.f k t).bind fun t323 => (if t323 = true then ((impl_read.f t).bind fun bt324 => ((impl_tray_pieces.f k bt324.1 bt324.2.1 bt324.2.2).bind fun t329 => (some (t329, true)))) else (some (([] : List (List Int)), false)))) (g := _) (r := _) (fun k => by rw [impl_PiecesOf.f]) ?_
      refine Ev.bind (f := fun k t323 => (if t323 = true then ((impl_read.f t).bind fun bt324 => ((impl_tray_pieces.f k bt324.1 bt324.2.1 bt324.2.2).bind fun t329 => (some (t329, true)))) else (some (([] : List (List Int)), false)))) hi ?_
      exact Ev.now _
    obtain ⟨k, e1, e2⟩ := both hsp him
    exact ⟨k, _, _, e1, e2, Nat.zero_le _, fun r hr => by cases hr⟩
end Go.Proofs.YtplifefnjeledaaDoor.Pure
