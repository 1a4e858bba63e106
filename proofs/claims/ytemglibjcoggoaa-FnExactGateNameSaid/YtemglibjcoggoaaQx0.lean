/- The functions that the laws of this seat reach, each with its contract (written by this repo's wip/oprint). -/
import Derived.Test.YtemglibjcoggoaaProg
import Derived.Below
import Derived.Deep.Draws
import Derived.Deep.AppendLies
import Derived.Maps.AppendAt
import Derived.OwnWalk
import Derived.Laws.BytesArg
import Derived.Laws.MakeOwn
import Derived.Laws.OwnMore
import Derived.Deep.OwnRows
import Derived.Tactics
import Derived.Lib.ConvBytes
import Derived.Laws.Slices
import Derived.WalkKit
import Derived.KernelRfl
import Derived.RowKit3
import Derived.Deep.LoopGhost
import Derived.Deep.QuietTactic
import Derived.BigQuiet
import Derived.WideLaws
import Derived.Deep.DeepCutAuto
import Derived.Deep.CutBlock
import Derived.Deep.RegionHeld3
import Derived.Laws.Rows
import Derived.Lib.AppendStr
import Derived.ArgAppend
import Derived.Laws.IdiomCopy
import Derived.OrdersHeld
import Derived.Laws.BitsLemmas
import Derived.RowKit
import Derived.Test.YtemglibjcoggoaaVGate
import Derived.Test.YtemglibjcoggoaaWWords
import Derived.Test.YtemglibjcoggoaaWLast
import Derived.Test.YtemglibjcoggoaaWTab
import Derived.Test.YtemglibjcoggoaaWFour
import Derived.Test.YtemglibjcoggoaaWQPut
import Derived.Test.YtemglibjcoggoaaWApart
import Derived.Test.YtemglibjcoggoaaWArr
import Derived.Test.YtemglibjcoggoaaWZeros
import Derived.Test.YtemglibjcoggoaaWFoot
import Derived.Test.YtemglibjcoggoaaWKept
import Derived.Test.YtemglibjcoggoaaWShare
import Derived.Test.YtemglibjcoggoaaWN
import Derived.Test.YtemglibjcoggoaaWFootNe
import Derived.Test.YtemglibjcoggoaaWAt
import Derived.Test.YtemglibjcoggoaaWEqStruct
import Derived.Test.YtemglibjcoggoaaWRepsOne
import Derived.Test.YtemglibjcoggoaaWInv
import Derived.Test.YtemglibjcoggoaaWInvWords
import Derived.Test.YtemglibjcoggoaaWGuard
import Derived.Test.YtemglibjcoggoaaWNEv
import Derived.Test.YtemglibjcoggoaaWMore
namespace Go.Proofs.Ytemglibjcoggoaa.Q
open Go.Proofs.YtemglibjcoggoaaV
open Go.RowKit Go.Proofs.YtemglibjcoggoaaW.PrintWords Go.Proofs.YtemglibjcoggoaaW.PrintLast Go.Proofs.YtemglibjcoggoaaW.PrintMore
attribute [local go_sem] max2_int min2_int max_two min_two max_three min_three max_four min_four   -- for this text's walks alone
set_option linter.unusedVariables false
set_option linter.unusedSimpArgs false



def errW : Option Int → Value
  | none => .nilIface
  | some c => .iface 0 (.int .i64 c)
theorem errW_none : errW none = .nilIface := rfl
theorem errW_some (c : Int) : errW (some c) = .iface 0 (.int .i64 c) := rfl

theorem info9 : (Try.prog.info? 9).map (fun i => (i.zero, i.size, i.bytes)) = some (some (.string ⟨#[]⟩), 1, 16) := by kernel_rfl
-- the values' own types

end Go.Proofs.Ytemglibjcoggoaa.Q
