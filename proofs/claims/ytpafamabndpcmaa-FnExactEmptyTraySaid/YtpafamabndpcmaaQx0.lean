/- The functions that the laws of this seat reach, each with its contract (written by this repo's wip/oprint). -/
import Derived.Test.YtpafamabndpcmaaProg
import Derived.Below
import Derived.Deep.Draws
import Derived.Deep.AppendLies
import Derived.Maps.AppendAt
import Derived.OwnWalk
import Derived.Laws.BytesArg
import Derived.Laws.MakeOwn
import Derived.Laws.OwnMore
import Derived.Deep.OwnRows
import Derived.Tactics
import Derived.Lib.ConvBytes
import Derived.Laws.Slices
import Derived.WalkKit
import Derived.KernelRfl
import Derived.RowKit3
import Derived.Deep.LoopGhost
import Derived.Deep.QuietTactic
import Derived.BigQuiet
import Derived.WideLaws
import Derived.Deep.DeepCutAuto
import Derived.Deep.CutBlock
import Derived.Deep.RegionHeld3
import Derived.Laws.Rows
import Derived.Lib.AppendStr
import Derived.ArgAppend
import Derived.Laws.IdiomCopy
import Derived.OrdersHeld
import Derived.Laws.BitsLemmas
import Derived.RowKit
import Derived.Test.YtpafamabndpcmaaVRepB
import Derived.Test.YtpafamabndpcmaaVText
import Derived.Test.YtpafamabndpcmaaWWords
import Derived.Test.YtpafamabndpcmaaWLast
import Derived.Test.YtpafamabndpcmaaWTab
import Derived.Test.YtpafamabndpcmaaWFour
import Derived.Test.YtpafamabndpcmaaWQPut
import Derived.Test.YtpafamabndpcmaaWApart
import Derived.Test.YtpafamabndpcmaaWArr
import Derived.Test.YtpafamabndpcmaaWZeros
import Derived.Test.YtpafamabndpcmaaWFoot
import Derived.Test.YtpafamabndpcmaaWKept
import Derived.Test.YtpafamabndpcmaaWShare
import Derived.Test.YtpafamabndpcmaaWN
import Derived.Test.YtpafamabndpcmaaWFootNe
import Derived.Test.YtpafamabndpcmaaWAt
import Derived.Test.YtpafamabndpcmaaWEqStruct
import Derived.Test.YtpafamabndpcmaaWRepsOne
import Derived.Test.YtpafamabndpcmaaWInv
import Derived.Test.YtpafamabndpcmaaWInvWords
import Derived.Test.YtpafamabndpcmaaWGuard
import Derived.Test.YtpafamabndpcmaaWNEv
import Derived.Test.YtpafamabndpcmaaWMore
namespace Go.Proofs.Ytpafamabndpcmaa.Q
open Go.Proofs.YtpafamabndpcmaaV
open Go.RowKit Go.Proofs.YtpafamabndpcmaaW.PrintWords Go.Proofs.YtpafamabndpcmaaW.PrintLast Go.Proofs.YtpafamabndpcmaaW.PrintMore
attribute [local go_sem] max2_int min2_int max_two min_two max_three min_three max_four min_four   -- for this text's walks alone
set_option linter.unusedVariables false
set_option linter.unusedSimpArgs false



def errW : Option Int → Value
  | none => .nilIface
  | some c => .iface 0 (.int .i64 c)
theorem errW_none : errW none = .nilIface := rfl
theorem errW_some (c : Int) : errW (some c) = .iface 0 (.int .i64 c) := rfl

theorem info5 : (Try.prog.info? 5).map (fun i => (i.zero, i.size, i.bytes)) = some (some (.int .u8 0), 1, 1) := by kernel_rfl
-- the values' own types

end Go.Proofs.Ytpafamabndpcmaa.Q
