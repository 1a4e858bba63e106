/- The functions that the laws of this seat reach, each with its contract (written by this repo's wip/oprint). -/
import Derived.Test.YtfpjnpfhglaboaaDoorProg
import Derived.Below
import Derived.Deep.Draws
import Derived.Deep.AppendLies
import Derived.Maps.AppendAt
import Derived.OwnWalk
import Derived.Laws.BytesArg
import Derived.Laws.MakeOwn
import Derived.Laws.OwnMore
import Derived.Deep.OwnRows
import Derived.Tactics
import Derived.Lib.ConvBytes
import Derived.Laws.Slices
import Derived.WalkKit
import Derived.KernelRfl
import Derived.RowKit3
import Derived.Deep.LoopGhost
import Derived.Deep.QuietTactic
import Derived.BigQuiet
import Derived.WideLaws
import Derived.Deep.DeepCutAuto
import Derived.Deep.CutBlock
import Derived.Deep.RegionHeld3
import Derived.Laws.Rows
import Derived.Lib.AppendStr
import Derived.ArgAppend
import Derived.Laws.IdiomCopy
import Derived.OrdersHeld
import Derived.Laws.BitsLemmas
import Derived.RowKit
import Derived.Test.YtfpjnpfhglaboaaDoorVCompact
import Derived.Test.YtfpjnpfhglaboaaDoorVLib
import Derived.Test.YtfpjnpfhglaboaaDoorWWords
import Derived.Test.YtfpjnpfhglaboaaDoorWLast
import Derived.Test.YtfpjnpfhglaboaaDoorWTab
import Derived.Test.YtfpjnpfhglaboaaDoorWFour
import Derived.Test.YtfpjnpfhglaboaaDoorWQPut
import Derived.Test.YtfpjnpfhglaboaaDoorWApart
import Derived.Test.YtfpjnpfhglaboaaDoorWArr
import Derived.Test.YtfpjnpfhglaboaaDoorWZeros
import Derived.Test.YtfpjnpfhglaboaaDoorWFoot
import Derived.Test.YtfpjnpfhglaboaaDoorWKept
import Derived.Test.YtfpjnpfhglaboaaDoorWShare
import Derived.Test.YtfpjnpfhglaboaaDoorWN
import Derived.Test.YtfpjnpfhglaboaaDoorWFootNe
import Derived.Test.YtfpjnpfhglaboaaDoorWAt
import Derived.Test.YtfpjnpfhglaboaaDoorWEqStruct
import Derived.Test.YtfpjnpfhglaboaaDoorWRepsOne
import Derived.Test.YtfpjnpfhglaboaaDoorWInv
import Derived.Test.YtfpjnpfhglaboaaDoorWInvWords
import Derived.Test.YtfpjnpfhglaboaaDoorWGuard
import Derived.Test.YtfpjnpfhglaboaaDoorWNEv
import Derived.Test.YtfpjnpfhglaboaaDoorWMore
namespace Go.Proofs.YtfpjnpfhglaboaaDoor.Q
open Go.Proofs.YtfpjnpfhglaboaaDoorV
open Go.RowKit Go.Proofs.YtfpjnpfhglaboaaDoorW.PrintWords Go.Proofs.YtfpjnpfhglaboaaDoorW.PrintLast Go.Proofs.YtfpjnpfhglaboaaDoorW.PrintMore
attribute [local go_sem] max2_int min2_int max_two min_two max_three min_three max_four min_four   -- for this text's walks alone
set_option linter.unusedVariables false
set_option linter.unusedSimpArgs false



def errW : Option Int → Value
  | none => .nilIface
  | some c => .iface 0 (.int .i64 c)
theorem errW_none : errW none = .nilIface := rfl
theorem errW_some (c : Int) : errW (some c) = .iface 0 (.int .i64 c) := rfl

-- the values' own types

end Go.Proofs.YtfpjnpfhglaboaaDoor.Q
