/- The tray without balls, as the reference's tyWalls and the program's method emptied make it: the same cells. -/
import Derived.Test.YtghmjllfbaanoaaDoorLGrid
import Derived.Test.YtghmjllfbaanoaaDoorVWalls
import Derived.Test.YtghmjllfbaanoaaDoorQx13
import Derived.Test.YtghmjllfbaanoaaDoorQx14
set_option linter.unusedVariables false
set_option linter.unusedSimpArgs false
namespace Go.Proofs.YtghmjllfbaanoaaDoorL
open Go.RowKit Go.Proofs.YtghmjllfbaanoaaDoor.Q Go.Proofs.YtghmjllfbaanoaaDoorW.PrintWords Go.Proofs.YtghmjllfbaanoaaDoorW.PrintLast Go.Proofs.YtghmjllfbaanoaaDoorM Go.Proofs.YtghmjllfbaanoaaDoorV
def clrB (c : UInt8) : UInt8 := if ballI (c.toNat : Int) = true then 46 else c
theorem clr_ints (cs : List UInt8) : (ints cs).map clrI = ints (cs.map clrB) := by
  unfold ints
  rw [List.map_map, List.map_map]
  apply List.map_congr_left
  intro c _
  show clrI (c.toNat : Int) = ((clrB c).toNat : Int)
  unfold clrI clrB
  by_cases h : ballI (c.toNat : Int) = true
  · rw [if_pos h, if_pos h]; rfl
  · rw [if_neg h, if_neg h]
theorem tyWalls_eq {w h : Int} {cs : List UInt8} (h0 : 0 < cs.length) (h1 : cs.length ≤ 1000000) : spec_tyWalls.f w h (ints cs) = some (w, h, ints (cs.map clrB)) := by
  have g0 : 0 < (ints cs).length := by rw [ints_length]; exact h0
  have g1 : (ints cs).length ≤ 1000000 := by rw [ints_length]; exact h1
  rw [spec_tyWalls.f, if_pos g0, if_pos g1, clr_ints]
theorem emptied_eq {w h : Int} {cs : List UInt8} (h0 : 0 < cs.length) (h1 : cs.length ≤ 1000000) : impl_tray_emptied.f w h (ints cs) = some (w, h, ints (cs.map clrB)) := by
  have g0 : 0 < (ints cs).length := by rw [ints_length]; exact h0
  have g1 : (ints cs).length ≤ 1000000 := by rw [ints_length]; exact h1
  rw [impl_tray_emptied.f, if_pos g0, if_pos g1, clr_ints]
end Go.Proofs.YtghmjllfbaanoaaDoorL
