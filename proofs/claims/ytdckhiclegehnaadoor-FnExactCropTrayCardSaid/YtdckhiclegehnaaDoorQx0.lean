/- The functions that the laws of this seat reach, each with its contract (written by this repo's wip/oprint). -/
import Derived.Test.YtdckhiclegehnaaDoorProg
import Derived.Below
import Derived.Deep.Draws
import Derived.Deep.AppendLies
import Derived.Maps.AppendAt
import Derived.OwnWalk
import Derived.Laws.BytesArg
import Derived.Laws.MakeOwn
import Derived.Laws.OwnMore
import Derived.Deep.OwnRows
import Derived.Tactics
import Derived.Lib.ConvBytes
import Derived.Laws.Slices
import Derived.WalkKit
import Derived.KernelRfl
import Derived.RowKit3
import Derived.Deep.LoopGhost
import Derived.Deep.QuietTactic
import Derived.BigQuiet
import Derived.WideLaws
import Derived.Deep.DeepCutAuto
import Derived.Deep.CutBlock
import Derived.Deep.RegionHeld3
import Derived.Laws.Rows
import Derived.Lib.AppendStr
import Derived.ArgAppend
import Derived.Laws.IdiomCopy
import Derived.OrdersHeld
import Derived.Laws.BitsLemmas
import Derived.RowKit
import Derived.Lib.SliceRun
import Derived.Lib.Walk
import Derived.Test.YtdckhiclegehnaaDoorVFn
import Derived.Test.YtdckhiclegehnaaDoorVLib
import Derived.Test.YtdckhiclegehnaaDoorVMir
import Derived.Test.YtdckhiclegehnaaDoorVText
import Derived.Test.YtdckhiclegehnaaDoorWWords
import Derived.Test.YtdckhiclegehnaaDoorWLast
import Derived.Test.YtdckhiclegehnaaDoorWTab
import Derived.Test.YtdckhiclegehnaaDoorWFour
import Derived.Test.YtdckhiclegehnaaDoorWQPut
import Derived.Test.YtdckhiclegehnaaDoorWApart
import Derived.Test.YtdckhiclegehnaaDoorWArr
import Derived.Test.YtdckhiclegehnaaDoorWZeros
import Derived.Test.YtdckhiclegehnaaDoorWFoot
import Derived.Test.YtdckhiclegehnaaDoorWKept
import Derived.Test.YtdckhiclegehnaaDoorWShare
import Derived.Test.YtdckhiclegehnaaDoorWN
import Derived.Test.YtdckhiclegehnaaDoorWFootNe
import Derived.Test.YtdckhiclegehnaaDoorWAt
import Derived.Test.YtdckhiclegehnaaDoorWEqStruct
import Derived.Test.YtdckhiclegehnaaDoorWRepsOne
import Derived.Test.YtdckhiclegehnaaDoorWInv
import Derived.Test.YtdckhiclegehnaaDoorWInvWords
import Derived.Test.YtdckhiclegehnaaDoorWGuard
import Derived.Test.YtdckhiclegehnaaDoorWNEv
import Derived.Test.YtdckhiclegehnaaDoorWMore
namespace Go.Proofs.YtdckhiclegehnaaDoor.Q
open Go.Proofs.YtdckhiclegehnaaDoorV
open Go.RowKit Go.Proofs.YtdckhiclegehnaaDoorW.PrintWords Go.Proofs.YtdckhiclegehnaaDoorW.PrintLast Go.Proofs.YtdckhiclegehnaaDoorW.PrintMore
attribute [local go_sem] max2_int min2_int max_two min_two max_three min_three max_four min_four   -- for this text's walks alone
set_option linter.unusedVariables false
set_option linter.unusedSimpArgs false



def errW : Option Int → Value
  | none => .nilIface
  | some c => .iface 0 (.int .i64 c)
theorem errW_none : errW none = .nilIface := rfl
theorem errW_some (c : Int) : errW (some c) = .iface 0 (.int .i64 c) := rfl

theorem info3 : (Tryd.prog.info? 3).map (fun i => (i.zero, i.size, i.bytes)) = some (some (.int .i64 0), 1, 8) := by kernel_rfl
theorem info5 : (Tryd.prog.info? 5).map (fun i => (i.zero, i.size, i.bytes)) = some (some (.int .u8 0), 1, 1) := by kernel_rfl
-- the values' own types

end Go.Proofs.YtdckhiclegehnaaDoor.Q
