/- The functions that the laws of this seat reach, each with its contract (written by this repo's wip/oprint). -/
import Derived.Test.YtghmjllfbaanoaaDoorProg
import Derived.Below
import Derived.Deep.Draws
import Derived.Deep.AppendLies
import Derived.Maps.AppendAt
import Derived.OwnWalk
import Derived.Laws.BytesArg
import Derived.Laws.MakeOwn
import Derived.Laws.OwnMore
import Derived.Deep.OwnRows
import Derived.Tactics
import Derived.Lib.ConvBytes
import Derived.Laws.Slices
import Derived.WalkKit
import Derived.KernelRfl
import Derived.RowKit3
import Derived.Deep.LoopGhost
import Derived.Deep.QuietTactic
import Derived.BigQuiet
import Derived.WideLaws
import Derived.Deep.DeepCutAuto
import Derived.Deep.CutBlock
import Derived.Deep.RegionHeld3
import Derived.Laws.Rows
import Derived.Lib.AppendStr
import Derived.ArgAppend
import Derived.Laws.IdiomCopy
import Derived.OrdersHeld
import Derived.Laws.BitsLemmas
import Derived.RowKit
import Derived.Lib.SliceRun
import Derived.Lib.Walk
import Derived.Test.YtghmjllfbaanoaaDoorVFn
import Derived.Test.YtghmjllfbaanoaaDoorVLib
import Derived.Test.YtghmjllfbaanoaaDoorVMir
import Derived.Test.YtghmjllfbaanoaaDoorVText
import Derived.Test.YtghmjllfbaanoaaDoorVWalls
import Derived.Test.YtghmjllfbaanoaaDoorWWords
import Derived.Test.YtghmjllfbaanoaaDoorWLast
import Derived.Test.YtghmjllfbaanoaaDoorWTab
import Derived.Test.YtghmjllfbaanoaaDoorWFour
import Derived.Test.YtghmjllfbaanoaaDoorWQPut
import Derived.Test.YtghmjllfbaanoaaDoorWApart
import Derived.Test.YtghmjllfbaanoaaDoorWArr
import Derived.Test.YtghmjllfbaanoaaDoorWZeros
import Derived.Test.YtghmjllfbaanoaaDoorWFoot
import Derived.Test.YtghmjllfbaanoaaDoorWKept
import Derived.Test.YtghmjllfbaanoaaDoorWShare
import Derived.Test.YtghmjllfbaanoaaDoorWN
import Derived.Test.YtghmjllfbaanoaaDoorWFootNe
import Derived.Test.YtghmjllfbaanoaaDoorWAt
import Derived.Test.YtghmjllfbaanoaaDoorWEqStruct
import Derived.Test.YtghmjllfbaanoaaDoorWRepsOne
import Derived.Test.YtghmjllfbaanoaaDoorWInv
import Derived.Test.YtghmjllfbaanoaaDoorWInvWords
import Derived.Test.YtghmjllfbaanoaaDoorWGuard
import Derived.Test.YtghmjllfbaanoaaDoorWNEv
import Derived.Test.YtghmjllfbaanoaaDoorWMore
namespace Go.Proofs.YtghmjllfbaanoaaDoor.Q
open Go.Proofs.YtghmjllfbaanoaaDoorV
open Go.RowKit Go.Proofs.YtghmjllfbaanoaaDoorW.PrintWords Go.Proofs.YtghmjllfbaanoaaDoorW.PrintLast Go.Proofs.YtghmjllfbaanoaaDoorW.PrintMore
attribute [local go_sem] max2_int min2_int max_two min_two max_three min_three max_four min_four   -- for this text's walks alone
set_option linter.unusedVariables false
set_option linter.unusedSimpArgs false



def errW : Option Int → Value
  | none => .nilIface
  | some c => .iface 0 (.int .i64 c)
theorem errW_none : errW none = .nilIface := rfl
theorem errW_some (c : Int) : errW (some c) = .iface 0 (.int .i64 c) := rfl

theorem info5 : (Tryd.prog.info? 5).map (fun i => (i.zero, i.size, i.bytes)) = some (some (.int .u8 0), 1, 1) := by kernel_rfl
-- the values' own types

end Go.Proofs.YtghmjllfbaanoaaDoor.Q
