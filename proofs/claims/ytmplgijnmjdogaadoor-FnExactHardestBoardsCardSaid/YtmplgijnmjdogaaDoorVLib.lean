/- Contracts of Go's library functions Split, Count, Trim and Join of package strings, in the form in which this seat's printed functions call them. -/
import Derived.Test.YtmplgijnmjdogaaDoorShelf
import Derived.Test.YtmplgijnmjdogaaDoorWLast
import Derived.Test.YtmplgijnmjdogaaDoorWMore
namespace Go.Proofs.YtmplgijnmjdogaaDoorV
open Go.Shelf Go.RowKit Go.Proofs.YtmplgijnmjdogaaDoorW.PrintWords Go.Proofs.YtmplgijnmjdogaaDoorW.PrintLast
theorem row_lit {α : Type} {enc : α → Value} {h1 : ∀ x, (enc x).oneCell' = true} (e : Nat) (w : World) (xs : List α) (hm : xs.length ≤ 9223372036854775807) :
    Kd.R (Kd.scalar enc h1) e (w.alloc (.cells (xs.map enc).toArray e)) w.heap.size (fun _ => True) (.slice (some ⟨w.heap.size, 0, none⟩) xs.length xs.length) xs := by
  refine Kd.R_of_own ?_ (fun _ _ => trivial)
  have h := World.ownsRow_lit (base := w.heap.size) (e := e) (size := 1) w (xs.map enc).toArray xs.length (Nat.le_refl _) (by simpa [maxLen] using hm) (by simp)
  simpa [encs] using h
end Go.Proofs.YtmplgijnmjdogaaDoorV
