/- The functions that the laws of this seat reach, each with its contract (written by this repo's wip/oprint). -/
import Derived.Test.YtpbojlppeaobmaaProg
import Derived.Below
import Derived.Deep.Draws
import Derived.Deep.AppendLies
import Derived.Maps.AppendAt
import Derived.OwnWalk
import Derived.Laws.BytesArg
import Derived.Laws.MakeOwn
import Derived.Laws.OwnMore
import Derived.Deep.OwnRows
import Derived.Tactics
import Derived.Lib.ConvBytes
import Derived.Laws.Slices
import Derived.WalkKit
import Derived.KernelRfl
import Derived.RowKit3
import Derived.Deep.LoopGhost
import Derived.Deep.QuietTactic
import Derived.BigQuiet
import Derived.WideLaws
import Derived.Deep.DeepCutAuto
import Derived.Deep.CutBlock
import Derived.Deep.RegionHeld3
import Derived.Laws.Rows
import Derived.Lib.AppendStr
import Derived.ArgAppend
import Derived.Laws.IdiomCopy
import Derived.OrdersHeld
import Derived.Laws.BitsLemmas
import Derived.RowKit
import Derived.Test.YtpbojlppeaobmaaVBoard
import Derived.Test.YtpbojlppeaobmaaWWords
import Derived.Test.YtpbojlppeaobmaaWLast
import Derived.Test.YtpbojlppeaobmaaWTab
import Derived.Test.YtpbojlppeaobmaaWFour
import Derived.Test.YtpbojlppeaobmaaWQPut
import Derived.Test.YtpbojlppeaobmaaWApart
import Derived.Test.YtpbojlppeaobmaaWArr
import Derived.Test.YtpbojlppeaobmaaWZeros
import Derived.Test.YtpbojlppeaobmaaWFoot
import Derived.Test.YtpbojlppeaobmaaWKept
import Derived.Test.YtpbojlppeaobmaaWShare
import Derived.Test.YtpbojlppeaobmaaWN
import Derived.Test.YtpbojlppeaobmaaWFootNe
import Derived.Test.YtpbojlppeaobmaaWAt
import Derived.Test.YtpbojlppeaobmaaWEqStruct
import Derived.Test.YtpbojlppeaobmaaWRepsOne
import Derived.Test.YtpbojlppeaobmaaWInv
import Derived.Test.YtpbojlppeaobmaaWInvWords
import Derived.Test.YtpbojlppeaobmaaWGuard
import Derived.Test.YtpbojlppeaobmaaWNEv
import Derived.Test.YtpbojlppeaobmaaWMore
namespace Go.Proofs.Ytpbojlppeaobmaa.Q
open Go.Proofs.YtpbojlppeaobmaaV
open Go.RowKit Go.Proofs.YtpbojlppeaobmaaW.PrintWords Go.Proofs.YtpbojlppeaobmaaW.PrintLast Go.Proofs.YtpbojlppeaobmaaW.PrintMore
attribute [local go_sem] max2_int min2_int max_two min_two max_three min_three max_four min_four   -- for this text's walks alone
set_option linter.unusedVariables false
set_option linter.unusedSimpArgs false



def errW : Option Int → Value
  | none => .nilIface
  | some c => .iface 0 (.int .i64 c)
theorem errW_none : errW none = .nilIface := rfl
theorem errW_some (c : Int) : errW (some c) = .iface 0 (.int .i64 c) := rfl

theorem info3 : (Try.prog.info? 3).map (fun i => (i.zero, i.size, i.bytes)) = some (some (.int .i64 0), 1, 8) := by kernel_rfl
-- the values' own types

end Go.Proofs.Ytpbojlppeaobmaa.Q
