/- The functions that the laws of this seat reach, each with its contract (written by this repo's wip/oprint). -/
import Derived.Test.YtcglmngfglmcgaaDoorProg
import Derived.Below
import Derived.Deep.Draws
import Derived.Deep.AppendLies
import Derived.Maps.AppendAt
import Derived.OwnWalk
import Derived.Laws.BytesArg
import Derived.Laws.MakeOwn
import Derived.Laws.OwnMore
import Derived.Deep.OwnRows
import Derived.Tactics
import Derived.Lib.ConvBytes
import Derived.Laws.Slices
import Derived.WalkKit
import Derived.KernelRfl
import Derived.RowKit3
import Derived.Deep.LoopGhost
import Derived.Deep.QuietTactic
import Derived.BigQuiet
import Derived.WideLaws
import Derived.Deep.DeepCutAuto
import Derived.Deep.CutBlock
import Derived.Deep.RegionHeld3
import Derived.Laws.Rows
import Derived.Lib.AppendStr
import Derived.ArgAppend
import Derived.Laws.IdiomCopy
import Derived.OrdersHeld
import Derived.Laws.BitsLemmas
import Derived.RowKit
import Derived.Test.YtcglmngfglmcgaaDoorVFn
import Derived.Test.YtcglmngfglmcgaaDoorVLib
import Derived.Test.YtcglmngfglmcgaaDoorVPut
import Derived.Test.YtcglmngfglmcgaaDoorVText
import Derived.Test.YtcglmngfglmcgaaDoorWWords
import Derived.Test.YtcglmngfglmcgaaDoorWLast
import Derived.Test.YtcglmngfglmcgaaDoorWTab
import Derived.Test.YtcglmngfglmcgaaDoorWFour
import Derived.Test.YtcglmngfglmcgaaDoorWQPut
import Derived.Test.YtcglmngfglmcgaaDoorWApart
import Derived.Test.YtcglmngfglmcgaaDoorWArr
import Derived.Test.YtcglmngfglmcgaaDoorWZeros
import Derived.Test.YtcglmngfglmcgaaDoorWFoot
import Derived.Test.YtcglmngfglmcgaaDoorWKept
import Derived.Test.YtcglmngfglmcgaaDoorWShare
import Derived.Test.YtcglmngfglmcgaaDoorWN
import Derived.Test.YtcglmngfglmcgaaDoorWFootNe
import Derived.Test.YtcglmngfglmcgaaDoorWAt
import Derived.Test.YtcglmngfglmcgaaDoorWEqStruct
import Derived.Test.YtcglmngfglmcgaaDoorWRepsOne
import Derived.Test.YtcglmngfglmcgaaDoorWInv
import Derived.Test.YtcglmngfglmcgaaDoorWInvWords
import Derived.Test.YtcglmngfglmcgaaDoorWGuard
import Derived.Test.YtcglmngfglmcgaaDoorWNEv
import Derived.Test.YtcglmngfglmcgaaDoorWMore
namespace Go.Proofs.YtcglmngfglmcgaaDoor.Q
open Go.Proofs.YtcglmngfglmcgaaDoorV
open Go.RowKit Go.Proofs.YtcglmngfglmcgaaDoorW.PrintWords Go.Proofs.YtcglmngfglmcgaaDoorW.PrintLast Go.Proofs.YtcglmngfglmcgaaDoorW.PrintMore
attribute [local go_sem] max2_int min2_int max_two min_two max_three min_three max_four min_four   -- for this text's walks alone
set_option linter.unusedVariables false
set_option linter.unusedSimpArgs false



def errW : Option Int → Value
  | none => .nilIface
  | some c => .iface 0 (.int .i64 c)
theorem errW_none : errW none = .nilIface := rfl
theorem errW_some (c : Int) : errW (some c) = .iface 0 (.int .i64 c) := rfl

theorem info5 : (Tryd.prog.info? 5).map (fun i => (i.zero, i.size, i.bytes)) = some (some (.int .u8 0), 1, 1) := by kernel_rfl
theorem field48_0 (w : World) (a0 : Int) (a1 : Int) (A2 : Option Addr) (n2 c2 : Nat) : (Instr.field 48 (.agg #[.int .i64 a0, .int .i64 a1, .slice A2 n2 c2]) 0).run Tryd.prog w = .ok (.int .i64 a0) w := by kernel_rfl
attribute [go_sem] field48_0
theorem field48_1 (w : World) (a0 : Int) (a1 : Int) (A2 : Option Addr) (n2 c2 : Nat) : (Instr.field 48 (.agg #[.int .i64 a0, .int .i64 a1, .slice A2 n2 c2]) 1).run Tryd.prog w = .ok (.int .i64 a1) w := by kernel_rfl
attribute [go_sem] field48_1
-- the values' own types

end Go.Proofs.YtcglmngfglmcgaaDoor.Q
