/- The program's CountPieces returns what the reference's returns: for all arguments the law FnExactCountPieces returns true. -/
import Derived.Test.YtplifefnjeledaaDoorQx15
import Derived.Test.YtplifefnjeledaaDoorLTray
import Derived.Test.YtplifefnjeledaaDoorLPieces
import Derived.Test.YtplifefnjeledaaDoorLPartsB
set_option linter.unusedVariables false
set_option linter.unusedSimpArgs false
namespace Go.Proofs.YtplifefnjeledaaDoor.Pure
open Go.RowKit Go.Proofs.YtplifefnjeledaaDoor.Q Go.Proofs.YtplifefnjeledaaDoorW.PrintWords Go.Proofs.YtplifefnjeledaaDoorW.PrintLast Go.Proofs.YtplifefnjeledaaDoorM Go.Proofs.YtplifefnjeledaaDoorV
open Go.Proofs.YtplifefnjeledaaDoorL
theorem size_of {t : ByteArray} (h : good t = true) : Size (W t) (H t) := by
  obtain ⟨f1, f2, f3, f4, f5, f6, f7⟩ := good_facts h
  exact ⟨f1, f2, f3, f4, f5⟩
theorem law_of (t : ByteArray) (ht : ¬ (t.size : Int) > 1048576) (v : Int × Bool) (e1 : Ev (fun k => spec_CountPieces.f k t) v) (e2 : Ev (fun k => impl_CountPieces.f k t) v) : Ev (fun k => laws_FnExactCountPieces.f k t) true := by
  refine Ev.congr (f := fun k => (spec_CountPieces.f k t).bind fun b1 => (impl_CountPieces.f k t).bind fun b2 => if b2.1 = b1.1 then (if (b2.2 != b1.2) = true then some false else some true) else some false) (g := _) (r := _) (fun k => by rw [laws_FnExactCountPieces.f, if_neg ht]) ?_
  refine Ev.bind (f := fun k b1 => (impl_CountPieces.f k t).bind fun b2 => if b2.1 = b1.1 then (if (b2.2 != b1.2) = true then some false else some true) else some false) e1 ?_
  refine Ev.bind (f := fun k b2 => if b2.1 = v.1 then (if (b2.2 != v.2) = true then some false else some true) else some false) e2 ?_
  rw [if_pos rfl, if_neg (by simp)]
  exact Ev.now _
theorem FnExactCountPieces : laws_FnExactCountPieces.Pure := by
  intro t _
  suffices X : Ev (fun k => laws_FnExactCountPieces.f k t) true from X.rounds
  by_cases ht : (t.size : Int) > 1048576
  · refine Ev.congr (f := fun _ => some true) (g := _) (r := _) (fun k => by rw [laws_FnExactCountPieces.f, if_pos ht]) (Ev.now _)
  have ht' : t.size ≤ 1048576 := by omega
  have hi := isTray_eq t ht'
  have hr := tyRead_eq t
  have I : ∀ (l : List (List Int)) (b : Bool), Ev (fun k => impl_PiecesOf.f k t) (l, b) → Ev (fun k => impl_CountPieces.f k t) ((l.length : Int), b) := by
    intro l b hE
    refine Ev.congr (f := fun k => (impl_PiecesOf.f k t).bind fun bt332 => (some ((bt332.1.length : Int), bt332.2))) (g := _) (r := _) (fun k => by rw [impl_CountPieces.f]) ?_
    exact Ev.bind (f := fun k bt332 => (some ((bt332.1.length : Int), bt332.2))) hE (Ev.now _)
  by_cases hg : good t = true
  · obtain ⟨f1, f2, f3, f4, f5, f6, f7⟩ := good_facts hg
    have hs := size_of hg
    have hre := read_eq t ht'
    rw [hg] at hi
    rw [if_pos hg] at hr
    generalize W t = w at *
    generalize H t = h at *
    generalize CS t = L at *
    obtain ⟨out, cnt, hP, hS⟩ := sk_ev hs f6
    have hB := parts_isBall_ev hs f6
    have hlen : (partsTo (accB L) (adjOf w h) (w * h) (w * h)).length = cnt := by
      unfold partsTo
      rw [List.length_map, hP.cnt]
    refine law_of t ht ((cnt : Int), true) ?_ ?_
    · refine Ev.congr (f := fun k => (spec_tyRead.f k t).bind fun bt262 => (if bt262.2.2.2 = true then ((spec_skPieces.f k bt262.1 bt262.2.1 bt262.2.2.1).bind fun bt269 => (some (bt269.2, true))) else (some (0, false)))) (g := _) (r := _) (fun k => by rw [spec_CountPieces.f]) ?_
      refine Ev.bind (f := fun k bt262 => (if bt262.2.2.2 = true then ((spec_skPieces.f k bt262.1 bt262.2.1 bt262.2.2.1).bind fun bt269 => (some (bt269.2, true))) else (some (0, false)))) hr ?_
      show Ev (fun k => (spec_skPieces.f k (w : Int) (h : Int) L).bind fun bt269 => (some (bt269.2, true))) _
      exact Ev.bind (f := fun k bt269 => (some (bt269.2, true))) hS (Ev.now _)
    · have := I (partsTo (accB L) (adjOf w h) (w * h) (w * h)) true ?_
      · rw [hlen] at this
        exact this
      · refine Ev.congr (f := fun k => (impl_IsTray.f k t).bind fun t323 => (if t323 = true then ((impl_read.f t).bind fun bt324 => ((impl_tray_pieces.f k bt324.1 bt324.2.1 bt324.2.2).bind fun t329 => (some (t329, true)))) else (some (([] : List (List Int)), false)))) (g := _) (r := _) (fun k => by rw [impl_PiecesOf.f]) ?_
        refine Ev.bind (f := fun k t323 => (if t323 = true then ((impl_read.f t).bind fun bt324 => ((impl_tray_pieces.f k bt324.1 bt324.2.1 bt324.2.2).bind fun t329 => (some (t329, true)))) else (some (([] : List (List Int)), false)))) hi ?_
        refine Ev.congr (f := fun k => (impl_tray_pieces.f k (w : Int) (h : Int) L).bind fun t329 => (some (t329, true))) (g := _) (r := _) (fun k => by rw [if_pos rfl, hre, Option.bind_some]) ?_
        refine Ev.bind (g := fun k => impl_tray_pieces.f k (w : Int) (h : Int) L) (f := fun k t329 => (some (t329, true))) (a := partsTo (accB L) (adjOf w h) (w * h) (w * h)) ?_ (Ev.now _)
        refine Ev.congr (f := fun k => (impl_tray_parts_at_impl_isBall.f k (w : Int) (h : Int) L).bind fun t320 => (some t320)) (g := _) (r := _) (fun k => by rw [impl_tray_pieces.f]) ?_
        exact Ev.bind (f := fun k t320 => some t320) hB (Ev.now _)
  · rw [Bool.eq_false_iff.2 hg] at hi
    rw [if_neg hg] at hr
    refine law_of t ht (0, false) ?_ ?_
    · refine Ev.congr (f := fun k => (spec_tyRead.f k t).bind fun bt262 => (if bt262.2.2.2 = true then ((spec_skPieces.f k bt262.1 bt262.2.1 bt262.2.2.1).bind fun bt269 => (some (bt269.2, true))) else (some (0, false)))) (g := _) (r := _) (fun k => by rw [spec_CountPieces.f]) ?_
      refine Ev.bind (f := fun k bt262 => (if bt262.2.2.2 = true then ((spec_skPieces.f k bt262.1 bt262.2.1 bt262.2.2.1).bind fun bt269 => (some (bt269.2, true))) else (some (0, false)))) hr ?_
      exact Ev.now _
    · refine I [] false ?_
      refine Ev.congr (f := fun k => (impl_IsTray.f k t).bind fun t323 => (if t323 = true then ((impl_read.f t).bind fun bt324 => ((impl_tray_pieces.f k bt324.1 bt324.2.1 bt324.2.2).bind fun t329 => (some (t329, true)))) else (some (([] : List (List Int)), false)))) (g := _) (r := _) (fun k => by rw [impl_PiecesOf.f]) ?_
      refine Ev.bind (f := fun k t323 => (if t323 = true then ((impl_read.f t).bind fun bt324 => ((impl_tray_pieces.f k bt324.1 bt324.2.1 bt324.2.2).bind fun t329 => (some (t329, true)))) else (some (([] : List (List Int)), false)))) hi ?_
      exact Ev.now _
end Go.Proofs.YtplifefnjeledaaDoor.Pure
