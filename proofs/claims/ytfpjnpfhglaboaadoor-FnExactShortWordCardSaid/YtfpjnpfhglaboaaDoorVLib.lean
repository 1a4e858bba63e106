/- Contracts of Go's library functions Split, Count, Trim and Join of package strings, in the form in which this seat's printed functions call them. -/
import Derived.Test.YtfpjnpfhglaboaaDoorShelf
import Derived.Test.YtfpjnpfhglaboaaDoorWLast
import Derived.Test.YtfpjnpfhglaboaaDoorWMore
namespace Go.Proofs.YtfpjnpfhglaboaaDoorV
open Go.Shelf Go.RowKit Go.Proofs.YtfpjnpfhglaboaaDoorW.PrintWords Go.Proofs.YtfpjnpfhglaboaaDoorW.PrintLast
theorem row_lit {α : Type} {enc : α → Value} {h1 : ∀ x, (enc x).oneCell' = true} (e : Nat) (w : World) (xs : List α) (hm : xs.length ≤ 9223372036854775807) :
    Kd.R (Kd.scalar enc h1) e (w.alloc (.cells (xs.map enc).toArray e)) w.heap.size (fun _ => True) (.slice (some ⟨w.heap.size, 0, none⟩) xs.length xs.length) xs := by
  refine Kd.R_of_own ?_ (fun _ _ => trivial)
  have h := World.ownsRow_lit (base := w.heap.size) (e := e) (size := 1) w (xs.map enc).toArray xs.length (Nat.le_refl _) (by simpa [maxLen] using hm) (by simp)
  simpa [encs] using h
theorem lib_trim (s cut : ByteArray) (w : World) (hs : s.size ≤ 9223372036854775807) (hc : cut.size < 4294967281) (ha : cut.data.toList.all (fun b => decide (b.toNat < 128)) = true) :
    Calls Tryd.prog 24 #[.string s, .string cut] w fun e w' => e = .returned (.string ⟨(Lib.trimS s.data.toList cut.data.toList).toArray⟩) ∧ Below w.heap.size w w' :=
  Any.strings_Trim_laid Tryd.lays160 (by kernel_rfl) s cut w hs hc (ascii_of_all ha)
end Go.Proofs.YtfpjnpfhglaboaaDoorV
