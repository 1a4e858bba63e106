/- The functions that the laws of this seat reach, each with its contract (written by this repo's wip/oprint). -/
import Derived.Test.YtdjffbjljccmjaaDoorProg
import Derived.Below
import Derived.Deep.Draws
import Derived.Deep.AppendLies
import Derived.Maps.AppendAt
import Derived.OwnWalk
import Derived.Laws.BytesArg
import Derived.Laws.MakeOwn
import Derived.Laws.OwnMore
import Derived.Deep.OwnRows
import Derived.Tactics
import Derived.Lib.ConvBytes
import Derived.Laws.Slices
import Derived.WalkKit
import Derived.KernelRfl
import Derived.RowKit3
import Derived.Deep.LoopGhost
import Derived.Deep.QuietTactic
import Derived.BigQuiet
import Derived.WideLaws
import Derived.Deep.DeepCutAuto
import Derived.Deep.CutBlock
import Derived.Deep.RegionHeld3
import Derived.Laws.Rows
import Derived.Lib.AppendStr
import Derived.ArgAppend
import Derived.Laws.IdiomCopy
import Derived.OrdersHeld
import Derived.Laws.BitsLemmas
import Derived.RowKit
import Derived.Lib.SliceRun
import Derived.Lib.Walk
import Derived.Test.YtdjffbjljccmjaaDoorVBoard
import Derived.Test.YtdjffbjljccmjaaDoorVFn
import Derived.Test.YtdjffbjljccmjaaDoorVLib
import Derived.Test.YtdjffbjljccmjaaDoorWWords
import Derived.Test.YtdjffbjljccmjaaDoorWLast
import Derived.Test.YtdjffbjljccmjaaDoorWTab
import Derived.Test.YtdjffbjljccmjaaDoorWFour
import Derived.Test.YtdjffbjljccmjaaDoorWQPut
import Derived.Test.YtdjffbjljccmjaaDoorWApart
import Derived.Test.YtdjffbjljccmjaaDoorWArr
import Derived.Test.YtdjffbjljccmjaaDoorWZeros
import Derived.Test.YtdjffbjljccmjaaDoorWFoot
import Derived.Test.YtdjffbjljccmjaaDoorWKept
import Derived.Test.YtdjffbjljccmjaaDoorWShare
import Derived.Test.YtdjffbjljccmjaaDoorWN
import Derived.Test.YtdjffbjljccmjaaDoorWFootNe
import Derived.Test.YtdjffbjljccmjaaDoorWAt
import Derived.Test.YtdjffbjljccmjaaDoorWEqStruct
import Derived.Test.YtdjffbjljccmjaaDoorWRepsOne
import Derived.Test.YtdjffbjljccmjaaDoorWInv
import Derived.Test.YtdjffbjljccmjaaDoorWInvWords
import Derived.Test.YtdjffbjljccmjaaDoorWGuard
import Derived.Test.YtdjffbjljccmjaaDoorWNEv
import Derived.Test.YtdjffbjljccmjaaDoorWMore
namespace Go.Proofs.YtdjffbjljccmjaaDoor.Q
open Go.Proofs.YtdjffbjljccmjaaDoorV
open Go.RowKit Go.Proofs.YtdjffbjljccmjaaDoorW.PrintWords Go.Proofs.YtdjffbjljccmjaaDoorW.PrintLast Go.Proofs.YtdjffbjljccmjaaDoorW.PrintMore
attribute [local go_sem] max2_int min2_int max_two min_two max_three min_three max_four min_four   -- for this text's walks alone
set_option linter.unusedVariables false
set_option linter.unusedSimpArgs false



def errW : Option Int → Value
  | none => .nilIface
  | some c => .iface 0 (.int .i64 c)
theorem errW_none : errW none = .nilIface := rfl
theorem errW_some (c : Int) : errW (some c) = .iface 0 (.int .i64 c) := rfl

theorem info3 : (Tryd.prog.info? 3).map (fun i => (i.zero, i.size, i.bytes)) = some (some (.int .i64 0), 1, 8) := by kernel_rfl
theorem info5 : (Tryd.prog.info? 5).map (fun i => (i.zero, i.size, i.bytes)) = some (some (.int .u8 0), 1, 1) := by kernel_rfl
-- the values' own types

end Go.Proofs.YtdjffbjljccmjaaDoor.Q
