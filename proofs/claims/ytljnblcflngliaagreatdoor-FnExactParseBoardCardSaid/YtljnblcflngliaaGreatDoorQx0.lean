/- The functions that the laws of this seat reach, each with its contract (written by this repo's wip/oprint). -/
import Derived.Test.YtljnblcflngliaaGreatDoorProg
import Derived.Below
import Derived.Deep.Draws
import Derived.Deep.AppendLies
import Derived.Maps.AppendAt
import Derived.OwnWalk
import Derived.Laws.BytesArg
import Derived.Laws.MakeOwn
import Derived.Laws.OwnMore
import Derived.Deep.OwnRows
import Derived.Tactics
import Derived.Lib.ConvBytes
import Derived.Laws.Slices
import Derived.WalkKit
import Derived.KernelRfl
import Derived.RowKit3
import Derived.Deep.LoopGhost
import Derived.Deep.QuietTactic
import Derived.BigQuiet
import Derived.WideLaws
import Derived.Deep.DeepCutAuto
import Derived.Deep.CutBlock
import Derived.Deep.RegionHeld3
import Derived.Laws.Rows
import Derived.Lib.AppendStr
import Derived.ArgAppend
import Derived.Laws.IdiomCopy
import Derived.OrdersHeld
import Derived.Laws.BitsLemmas
import Derived.RowKit
import Derived.Test.YtljnblcflngliaaGreatDoorVBText
import Derived.Test.YtljnblcflngliaaGreatDoorVBoard
import Derived.Test.YtljnblcflngliaaGreatDoorVLib
import Derived.Test.YtljnblcflngliaaGreatDoorVParse
import Derived.Test.YtljnblcflngliaaGreatDoorWWords
import Derived.Test.YtljnblcflngliaaGreatDoorWLast
import Derived.Test.YtljnblcflngliaaGreatDoorWTab
import Derived.Test.YtljnblcflngliaaGreatDoorWFour
import Derived.Test.YtljnblcflngliaaGreatDoorWQPut
import Derived.Test.YtljnblcflngliaaGreatDoorWApart
import Derived.Test.YtljnblcflngliaaGreatDoorWArr
import Derived.Test.YtljnblcflngliaaGreatDoorWZeros
import Derived.Test.YtljnblcflngliaaGreatDoorWFoot
import Derived.Test.YtljnblcflngliaaGreatDoorWKept
import Derived.Test.YtljnblcflngliaaGreatDoorWShare
import Derived.Test.YtljnblcflngliaaGreatDoorWN
import Derived.Test.YtljnblcflngliaaGreatDoorWFootNe
import Derived.Test.YtljnblcflngliaaGreatDoorWAt
import Derived.Test.YtljnblcflngliaaGreatDoorWEqStruct
import Derived.Test.YtljnblcflngliaaGreatDoorWRepsOne
import Derived.Test.YtljnblcflngliaaGreatDoorWInv
import Derived.Test.YtljnblcflngliaaGreatDoorWInvWords
import Derived.Test.YtljnblcflngliaaGreatDoorWGuard
import Derived.Test.YtljnblcflngliaaGreatDoorWNEv
import Derived.Test.YtljnblcflngliaaGreatDoorWMore
namespace Go.Proofs.YtljnblcflngliaaGreatDoor.Q
open Go.Proofs.YtljnblcflngliaaGreatDoorV
open Go.RowKit Go.Proofs.YtljnblcflngliaaGreatDoorW.PrintWords Go.Proofs.YtljnblcflngliaaGreatDoorW.PrintLast Go.Proofs.YtljnblcflngliaaGreatDoorW.PrintMore
attribute [local go_sem] max2_int min2_int max_two min_two max_three min_three max_four min_four   -- for this text's walks alone
set_option linter.unusedVariables false
set_option linter.unusedSimpArgs false



def errW : Option Int → Value
  | none => .nilIface
  | some c => .iface 0 (.int .i64 c)
theorem errW_none : errW none = .nilIface := rfl
theorem errW_some (c : Int) : errW (some c) = .iface 0 (.int .i64 c) := rfl

theorem info3 : (Tryz.prog.info? 3).map (fun i => (i.zero, i.size, i.bytes)) = some (some (.int .i64 0), 1, 8) := by kernel_rfl
theorem info9 : (Tryz.prog.info? 9).map (fun i => (i.zero, i.size, i.bytes)) = some (some (.string ⟨#[]⟩), 1, 16) := by kernel_rfl
-- the values' own types

end Go.Proofs.YtljnblcflngliaaGreatDoor.Q
