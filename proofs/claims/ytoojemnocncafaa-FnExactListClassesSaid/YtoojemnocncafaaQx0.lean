/- The functions that the laws of this seat reach, each with its contract (written by this repo's wip/oprint). -/
import Derived.Test.YtoojemnocncafaaProg
import Derived.Below
import Derived.Deep.Draws
import Derived.Deep.AppendLies
import Derived.Maps.AppendAt
import Derived.OwnWalk
import Derived.Laws.BytesArg
import Derived.Laws.MakeOwn
import Derived.Laws.OwnMore
import Derived.Deep.OwnRows
import Derived.Tactics
import Derived.Lib.ConvBytes
import Derived.Laws.Slices
import Derived.WalkKit
import Derived.KernelRfl
import Derived.RowKit3
import Derived.Deep.LoopGhost
import Derived.Deep.QuietTactic
import Derived.BigQuiet
import Derived.WideLaws
import Derived.Deep.DeepCutAuto
import Derived.Deep.CutBlock
import Derived.Deep.RegionHeld3
import Derived.Laws.Rows
import Derived.Lib.AppendStr
import Derived.ArgAppend
import Derived.Laws.IdiomCopy
import Derived.OrdersHeld
import Derived.Laws.BitsLemmas
import Derived.RowKit
import Derived.Lib.SliceRun
import Derived.Lib.Walk
import Derived.Test.YtoojemnocncafaaVMir
import Derived.Test.YtoojemnocncafaaVMv
import Derived.Test.YtoojemnocncafaaVText
import Derived.Test.YtoojemnocncafaaWWords
import Derived.Test.YtoojemnocncafaaWLast
import Derived.Test.YtoojemnocncafaaWTab
import Derived.Test.YtoojemnocncafaaWFour
import Derived.Test.YtoojemnocncafaaWQPut
import Derived.Test.YtoojemnocncafaaWApart
import Derived.Test.YtoojemnocncafaaWArr
import Derived.Test.YtoojemnocncafaaWZeros
import Derived.Test.YtoojemnocncafaaWFoot
import Derived.Test.YtoojemnocncafaaWKept
import Derived.Test.YtoojemnocncafaaWShare
import Derived.Test.YtoojemnocncafaaWN
import Derived.Test.YtoojemnocncafaaWFootNe
import Derived.Test.YtoojemnocncafaaWAt
import Derived.Test.YtoojemnocncafaaWEqStruct
import Derived.Test.YtoojemnocncafaaWRepsOne
import Derived.Test.YtoojemnocncafaaWInv
import Derived.Test.YtoojemnocncafaaWInvWords
import Derived.Test.YtoojemnocncafaaWGuard
import Derived.Test.YtoojemnocncafaaWNEv
import Derived.Test.YtoojemnocncafaaWMore
namespace Go.Proofs.Ytoojemnocncafaa.Q
open Go.Proofs.YtoojemnocncafaaV
open Go.RowKit Go.Proofs.YtoojemnocncafaaW.PrintWords Go.Proofs.YtoojemnocncafaaW.PrintLast Go.Proofs.YtoojemnocncafaaW.PrintMore
attribute [local go_sem] max2_int min2_int max_two min_two max_three min_three max_four min_four   -- for this text's walks alone
set_option linter.unusedVariables false
set_option linter.unusedSimpArgs false



def errW : Option Int → Value
  | none => .nilIface
  | some c => .iface 0 (.int .i64 c)
theorem errW_none : errW none = .nilIface := rfl
theorem errW_some (c : Int) : errW (some c) = .iface 0 (.int .i64 c) := rfl

theorem info3 : (Try.prog.info? 3).map (fun i => (i.zero, i.size, i.bytes)) = some (some (.int .i64 0), 1, 8) := by kernel_rfl
theorem info4 : (Try.prog.info? 4).map (fun i => (i.zero, i.size, i.bytes)) = some (some (.bool false), 1, 1) := by kernel_rfl
theorem info5 : (Try.prog.info? 5).map (fun i => (i.zero, i.size, i.bytes)) = some (some (.int .u8 0), 1, 1) := by kernel_rfl
-- the values' own types

end Go.Proofs.Ytoojemnocncafaa.Q
