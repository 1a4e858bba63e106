/- The moves of trays as tables of places: the reference's and the program's; what they compose to; their cycles. -/
import Derived.Test.YtoojemnocncafaaLCgA
import Derived.Test.YtoojemnocncafaaLCmA
import Derived.Test.YtoojemnocncafaaQx2
set_option linter.unusedVariables false
set_option linter.unusedSimpArgs false
namespace Go.Proofs.YtoojemnocncafaaL
namespace CG
open Go.RowKit Go.Proofs.Ytoojemnocncafaa.Q Go.Proofs.YtoojemnocncafaaW.PrintWords Go.Proofs.YtoojemnocncafaaW.PrintLast Go.Proofs.YtoojemnocncafaaM Go.Proofs.YtoojemnocncafaaV
def fitsN (w h m : Nat) : Bool := decide (w = h) || decide (m % 2 = 0)
def srcM (w j : Nat) : Nat := (j / w) * w + (w - 1 - j % w)
def srcI : Nat → Nat → Nat → Nat → Nat
  | 0, _, _, p => p
  | n + 1, w, h, p => srcT w h (srcI n h w p)
/-- Where a moved tray's cell comes from. -/
def src (w h m p : Nat) : Nat := if 4 ≤ m then srcM w (srcI (m % 4) w h p) else srcI (m % 4) w h p
def tpN (w h m i : Nat) : Nat := ((spec_cnTo.f 6 (w : Int) (h : Int) (m : Int) (i : Int)).getD 0).toNat
def compN (a b : Nat) : Nat := if a < 4 then (a + b) % 4 + (b / 4) * 4 else (a + 4 - b % 4) % 4 + (1 - b / 4) * 4
def ms (w h : Nat) : List Nat := (List.range 8).filter (fitsN w h)
def mvChk (w h m : Nat) : Bool := (List.range (w * h)).all fun p => decide (src w h m p < w * h) && (decide (spec_cnTo.f 6 (w : Int) (h : Int) (m : Int) (p : Int) = some ((tpN w h m p : Nat) : Int)) && (decide (tpN w h m p < w * h) && (decide (tpN w h m (src w h m p) = p) && decide (src w h m (tpN w h m p) = p))))
def cmpChk (w h a : Nat) : Bool := (List.range 8).all fun b => !fitsN w h b || (fitsN w h (compN a b) && (decide (compN a b < 8) && (List.range (w * h)).all fun p => decide (src w h (compN a b) p = src w h b (src w h a p))))
def mkR (w h m : Nat) : List Nat := ((List.range (w * h)).filter fun p => decide (p ≤ src w h m p) && (decide (p ≤ src w h m (src w h m p)) && decide (p ≤ src w h m (src w h m (src w h m p))))).reverse
def low (w h m p : Nat) : Nat := min (min p (src w h m p)) (min (src w h m (src w h m p)) (src w h m (src w h m (src w h m p))))
def mkC (w h m : Nat) : List Nat := (List.range (w * h)).map fun p => (mkR w h m).idxOf (low w h m p)
def cyChk (w h m : Nat) (R C : List Nat) : Bool :=
  (C.all fun k => decide (k < R.length)) && ((decide ((List.range (w * h)).map (fun p => C.getD (src w h m p) 0) = C)) && ((R.all fun r => decide (r < w * h)) && (decide (R.map (fun r => C.getD r 0) = List.range R.length)
  && (((List.range (w * h)).all fun p => decide (R.getD (C.getD p 0) 0 = p) || (decide (R.getD (C.getD p 0) 0 = src w h m p) || (decide (R.getD (C.getD p 0) 0 = src w h m (src w h m p)) || decide (R.getD (C.getD p 0) 0 = src w h m (src w h m (src w h m p))))))
  && decide (spec_cnCycles.f 300 (w : Int) (h : Int) (m : Int) = some (((List.range R.length).map fun k => C.count k).reverse.map fun s : Nat => (s : Int)))))))
def allChk (w h : Nat) : Bool := decide (36 < w * h) || (List.range 8).all fun m => !fitsN w h m || (mvChk w h m && cmpChk w h m)
def allCy (w h : Nat) : Bool := decide (36 < w * h) || (List.range 8).all fun m => !fitsN w h m || cyChk w h m (mkR w h m) (mkC w h m)
theorem all_chk : ((List.range 7).all fun w => (List.range 7).all fun h => allChk (w + 1) (h + 1)) = true := by decide +kernel
theorem all_cy : ((List.range 7).all fun w => (List.range 7).all fun h => allCy (w + 1) (h + 1)) = true := by decide +kernel
end CG
end Go.Proofs.YtoojemnocncafaaL
