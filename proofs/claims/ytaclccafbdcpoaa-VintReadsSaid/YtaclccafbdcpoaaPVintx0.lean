-- Made by a program of this session (wip/tools/pp.py) out of the seat's translation; contracts of some functions are typed by hand.
import Derived.Test.YtaclccafbdcpoaaProg
import Derived.Below
import Derived.Deep.Draws
import Derived.Deep.AppendLies
import Derived.Maps.AppendAt
import Derived.OwnWalk
import Derived.Laws.BytesArg
import Derived.Laws.MakeOwn
import Derived.Laws.OwnMore
import Derived.Deep.OwnRows
import Derived.Tactics
import Derived.Lib.ConvBytes
import Derived.Laws.Slices
import Derived.WalkKit
import Derived.KernelRfl
import Derived.RowKit3
import Derived.Deep.LoopGhost
import Derived.Deep.QuietTactic
import Derived.BigQuiet
import Derived.WideLaws
import Derived.Deep.DeepCutAuto
import Derived.Deep.CutBlock
import Derived.Deep.RegionHeld3
import Derived.Laws.Rows
import Derived.Lib.AppendStr
import Derived.ArgAppend
import Derived.Laws.IdiomCopy
import Derived.OrdersHeld
import Derived.Laws.BitsLemmas
import Derived.RowKit
import Derived.Test.YtaclccafbdcpoaaWWords
import Derived.Test.YtaclccafbdcpoaaWLast
import Derived.Test.YtaclccafbdcpoaaWTab
import Derived.Test.YtaclccafbdcpoaaWFour
import Derived.Test.YtaclccafbdcpoaaWQPut
import Derived.Test.YtaclccafbdcpoaaWApart
import Derived.Test.YtaclccafbdcpoaaWArr
import Derived.Test.YtaclccafbdcpoaaWZeros
import Derived.Test.YtaclccafbdcpoaaWFoot
import Derived.Test.YtaclccafbdcpoaaWKept
import Derived.Test.YtaclccafbdcpoaaWShare
import Derived.Test.YtaclccafbdcpoaaWN
import Derived.Test.YtaclccafbdcpoaaWFootNe
import Derived.Test.YtaclccafbdcpoaaWAt
import Derived.Test.YtaclccafbdcpoaaWEqStruct
import Derived.Test.YtaclccafbdcpoaaWRepsOne
import Derived.Test.YtaclccafbdcpoaaWInv
import Derived.Test.YtaclccafbdcpoaaWInvWords
import Derived.Test.YtaclccafbdcpoaaWGuard
import Derived.Test.YtaclccafbdcpoaaWNEv
import Derived.Test.YtaclccafbdcpoaaWMore
namespace Go.Proofs.Ytaclccafbdcpoaa.PVint
open Go.RowKit Go.Proofs.YtaclccafbdcpoaaW.PrintWords Go.Proofs.YtaclccafbdcpoaaW.PrintLast Go.Proofs.YtaclccafbdcpoaaW.PrintMore
attribute [local go_sem] max2_int min2_int max_two min_two max_three min_three max_four min_four   -- for this text's walks alone
set_option linter.unusedVariables false
set_option linter.unusedSimpArgs false



def errW : Option Int → Value
  | none => .nilIface
  | some c => .iface 0 (.int .i64 c)
theorem errW_none : errW none = .nilIface := rfl
theorem errW_some (c : Int) : errW (some c) = .iface 0 (.int .i64 c) := rfl

theorem info5 : (Try.prog.info? 5).map (fun i => (i.zero, i.size, i.bytes)) = some (some (.int .u8 0), 1, 1) := by kernel_rfl
-- the values' own types

end Go.Proofs.Ytaclccafbdcpoaa.PVint
