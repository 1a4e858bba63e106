/- The functions that the laws of this seat reach, each with its contract (written by this repo's wip/oprint). -/
import Derived.Test.YtemglibjcoggoaaDoorProg
import Derived.Below
import Derived.Deep.Draws
import Derived.Deep.AppendLies
import Derived.Maps.AppendAt
import Derived.OwnWalk
import Derived.Laws.BytesArg
import Derived.Laws.MakeOwn
import Derived.Laws.OwnMore
import Derived.Deep.OwnRows
import Derived.Tactics
import Derived.Lib.ConvBytes
import Derived.Laws.Slices
import Derived.WalkKit
import Derived.KernelRfl
import Derived.RowKit3
import Derived.Deep.LoopGhost
import Derived.Deep.QuietTactic
import Derived.BigQuiet
import Derived.WideLaws
import Derived.Deep.DeepCutAuto
import Derived.Deep.CutBlock
import Derived.Deep.RegionHeld3
import Derived.Laws.Rows
import Derived.Lib.AppendStr
import Derived.ArgAppend
import Derived.Laws.IdiomCopy
import Derived.OrdersHeld
import Derived.Laws.BitsLemmas
import Derived.RowKit
import Derived.Test.YtemglibjcoggoaaDoorVLib
import Derived.Test.YtemglibjcoggoaaDoorVTurnW
import Derived.Test.YtemglibjcoggoaaDoorWWords
import Derived.Test.YtemglibjcoggoaaDoorWLast
import Derived.Test.YtemglibjcoggoaaDoorWTab
import Derived.Test.YtemglibjcoggoaaDoorWFour
import Derived.Test.YtemglibjcoggoaaDoorWQPut
import Derived.Test.YtemglibjcoggoaaDoorWApart
import Derived.Test.YtemglibjcoggoaaDoorWArr
import Derived.Test.YtemglibjcoggoaaDoorWZeros
import Derived.Test.YtemglibjcoggoaaDoorWFoot
import Derived.Test.YtemglibjcoggoaaDoorWKept
import Derived.Test.YtemglibjcoggoaaDoorWShare
import Derived.Test.YtemglibjcoggoaaDoorWN
import Derived.Test.YtemglibjcoggoaaDoorWFootNe
import Derived.Test.YtemglibjcoggoaaDoorWAt
import Derived.Test.YtemglibjcoggoaaDoorWEqStruct
import Derived.Test.YtemglibjcoggoaaDoorWRepsOne
import Derived.Test.YtemglibjcoggoaaDoorWInv
import Derived.Test.YtemglibjcoggoaaDoorWInvWords
import Derived.Test.YtemglibjcoggoaaDoorWGuard
import Derived.Test.YtemglibjcoggoaaDoorWNEv
import Derived.Test.YtemglibjcoggoaaDoorWMore
namespace Go.Proofs.YtemglibjcoggoaaDoor.Q
open Go.Proofs.YtemglibjcoggoaaDoorV
open Go.RowKit Go.Proofs.YtemglibjcoggoaaDoorW.PrintWords Go.Proofs.YtemglibjcoggoaaDoorW.PrintLast Go.Proofs.YtemglibjcoggoaaDoorW.PrintMore
attribute [local go_sem] max2_int min2_int max_two min_two max_three min_three max_four min_four   -- for this text's walks alone
set_option linter.unusedVariables false
set_option linter.unusedSimpArgs false



def errW : Option Int → Value
  | none => .nilIface
  | some c => .iface 0 (.int .i64 c)
theorem errW_none : errW none = .nilIface := rfl
theorem errW_some (c : Int) : errW (some c) = .iface 0 (.int .i64 c) := rfl

-- the values' own types

end Go.Proofs.YtemglibjcoggoaaDoor.Q
