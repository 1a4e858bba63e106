/- The reference's tyIf and the program's whole: in the words of the plain laws of trays. -/
import Derived.Test.YtcglmngfglmcgaaDoorLText
import Derived.Test.YtcglmngfglmcgaaDoorQx3
import Derived.Test.YtcglmngfglmcgaaDoorQx7
set_option linter.unusedVariables false
set_option linter.unusedSimpArgs false
namespace Go.Proofs.YtcglmngfglmcgaaDoorL
open Go.RowKit Go.Proofs.YtcglmngfglmcgaaDoor.Q Go.Proofs.YtcglmngfglmcgaaDoorW.PrintWords Go.Proofs.YtcglmngfglmcgaaDoorW.PrintLast Go.Proofs.YtcglmngfglmcgaaDoorM
theorem good_ev (t : ByteArray) : Ev (fun k => spec_tyGood.f k t) (good t) := by
  refine Ev.congr (fun k => rfl) (Ev.bind (tyRead_eq t) ?_)
  cases h : good t <;> exact Ev.now _
theorem whole_eq (t : ByteArray) (ht : t.size ≤ 1048576) : Ev (fun k => impl_whole.f k t) (if good t = true then (t, true) else ((⟨#[]⟩ : ByteArray), false)) := by
  refine Ev.congr (fun k => rfl) (Ev.bind (isTray_eq t ht) ?_)
  cases h : good t <;> exact Ev.now _

theorem tyIf_eq (w : Nat) (rs : List (List UInt8)) (hr : ∀ q ∈ rs, q.length = w) (hw : w ≤ 100) (hh : rs.length ≤ 100) :
    Ev (fun k => spec_tyIf.f k (w : Int) (rs.length : Int) (ints rs.flatten)) (if good ⟨(txt rs).toArray⟩ = true then ((⟨(txt rs).toArray⟩ : ByteArray), true) else ((⟨#[]⟩ : ByteArray), false)) := by
  refine Ev.congr (fun k => rfl) (Ev.bind (tyText_eq w rs hr hw hh) (Ev.bind (good_ev _) ?_))
  cases h : good ⟨(txt rs).toArray⟩ <;> exact Ev.now _
end Go.Proofs.YtcglmngfglmcgaaDoorL
