/- The functions that the laws of this seat reach, each with its contract (written by this repo's wip/oprint). -/
import Derived.Test.YtplifefnjeledaaDoorProg
import Derived.Below
import Derived.Deep.Draws
import Derived.Deep.AppendLies
import Derived.Maps.AppendAt
import Derived.OwnWalk
import Derived.Laws.BytesArg
import Derived.Laws.MakeOwn
import Derived.Laws.OwnMore
import Derived.Deep.OwnRows
import Derived.Tactics
import Derived.Lib.ConvBytes
import Derived.Laws.Slices
import Derived.WalkKit
import Derived.KernelRfl
import Derived.RowKit3
import Derived.Deep.LoopGhost
import Derived.Deep.QuietTactic
import Derived.BigQuiet
import Derived.WideLaws
import Derived.Deep.DeepCutAuto
import Derived.Deep.CutBlock
import Derived.Deep.RegionHeld3
import Derived.Laws.Rows
import Derived.Lib.AppendStr
import Derived.ArgAppend
import Derived.Laws.IdiomCopy
import Derived.OrdersHeld
import Derived.Laws.BitsLemmas
import Derived.RowKit
import Derived.Test.YtplifefnjeledaaDoorVBeside
import Derived.Test.YtplifefnjeledaaDoorVFn
import Derived.Test.YtplifefnjeledaaDoorVLib
import Derived.Test.YtplifefnjeledaaDoorVRepI
import Derived.Test.YtplifefnjeledaaDoorVWithin
import Derived.Test.YtplifefnjeledaaDoorWWords
import Derived.Test.YtplifefnjeledaaDoorWLast
import Derived.Test.YtplifefnjeledaaDoorWTab
import Derived.Test.YtplifefnjeledaaDoorWFour
import Derived.Test.YtplifefnjeledaaDoorWQPut
import Derived.Test.YtplifefnjeledaaDoorWApart
import Derived.Test.YtplifefnjeledaaDoorWArr
import Derived.Test.YtplifefnjeledaaDoorWZeros
import Derived.Test.YtplifefnjeledaaDoorWFoot
import Derived.Test.YtplifefnjeledaaDoorWKept
import Derived.Test.YtplifefnjeledaaDoorWShare
import Derived.Test.YtplifefnjeledaaDoorWN
import Derived.Test.YtplifefnjeledaaDoorWFootNe
import Derived.Test.YtplifefnjeledaaDoorWAt
import Derived.Test.YtplifefnjeledaaDoorWEqStruct
import Derived.Test.YtplifefnjeledaaDoorWRepsOne
import Derived.Test.YtplifefnjeledaaDoorWInv
import Derived.Test.YtplifefnjeledaaDoorWInvWords
import Derived.Test.YtplifefnjeledaaDoorWGuard
import Derived.Test.YtplifefnjeledaaDoorWNEv
import Derived.Test.YtplifefnjeledaaDoorWMore
namespace Go.Proofs.YtplifefnjeledaaDoor.Q
open Go.Proofs.YtplifefnjeledaaDoorV
open Go.RowKit Go.Proofs.YtplifefnjeledaaDoorW.PrintWords Go.Proofs.YtplifefnjeledaaDoorW.PrintLast Go.Proofs.YtplifefnjeledaaDoorW.PrintMore
attribute [local go_sem] max2_int min2_int max_two min_two max_three min_three max_four min_four   -- for this text's walks alone
set_option linter.unusedVariables false
set_option linter.unusedSimpArgs false



def errW : Option Int → Value
 | none => .nilIface
 | some c => .iface 0 (.int .i64 c)
theorem errW_none : errW none = .nilIface := rfl
theorem errW_some (c : Int) : errW (some c) = .iface 0 (.int .i64 c) := rfl

theorem info3 : (Tryd.prog.info? 3).map (fun i => (i.zero, i.size, i.bytes)) = some (some (.int .i64 0), 1, 8) := by kernel_rfl
theorem info4 : (Tryd.prog.info? 4).map (fun i => (i.zero, i.size, i.bytes)) = some (some (.bool false), 1, 1) := by kernel_rfl
theorem info5 : (Tryd.prog.info? 5).map (fun i => (i.zero, i.size, i.bytes)) = some (some (.int .u8 0), 1, 1) := by kernel_rfl
theorem info38 : (Tryd.prog.info? 38).map (fun i => (i.zero, i.size, i.bytes)) = some (some (.slice none 0 0), 1, 24) := by kernel_rfl
theorem field42_2 (w : World) (a0 : Int) (a1 : Int) (A2 : Option Addr) (n2 c2 : Nat) : (Instr.field 42 (.agg #[.int .i64 a0, .int .i64 a1, .slice A2 n2 c2]) 2).run Tryd.prog w = .ok (.slice A2 n2 c2) w := by kernel_rfl
attribute [go_sem] field42_2
-- the values' own types
def rd_L3 (xs : List (List Int)) (i : Int) : (List Int) := xs.getD i.toNat ([] : List Int)
theorem at_L3 {w : World} {A : Option Addr} {n : Nat} {xs : List (List Int)} (h : Kd.C (Kd.slice 3 (Kd.int .i64)) w A n xs) (i : Int) (h0 : 0 ≤ i) (h1 : i < n) : ∃ ad A0 c0, A = some ad ∧ w.cell? (ad.add i.toNat) = some (.slice A0 (rd_L3 xs i).length c0) ∧ (rd_L3 xs i).length ≤ c0 ∧ (Kd.int .i64).C w A0 (rd_L3 xs i).length (rd_L3 xs i) := by
 obtain ⟨ad, c, e, _, hK, hc0⟩ := Kd.C_get h ([] : List Int) i h0 h1
 have hc : ∀ j u, c[j]? = some u → w.cell? (ad.add (i.toNat * 1 + j)) = some u := hc0
 obtain ⟨A0, c0, rfl, l0, g0⟩ := hK
 exact ⟨ad, A0, c0, e, by have hq := hc 0 _ rfl; rwa [Nat.mul_one, Nat.add_zero] at hq, l0, g0⟩

end Go.Proofs.YtplifefnjeledaaDoor.Q
