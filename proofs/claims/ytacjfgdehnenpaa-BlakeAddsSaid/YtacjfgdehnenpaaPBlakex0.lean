-- Made by a program of this session (wip/tools/pp.py) out of the seat's translation; contracts of some functions are typed by hand.
import Derived.Test.YtacjfgdehnenpaaProg
import Derived.Below
import Derived.Deep.Draws
import Derived.Deep.AppendLies
import Derived.Maps.AppendAt
import Derived.OwnWalk
import Derived.Laws.BytesArg
import Derived.Laws.MakeOwn
import Derived.Laws.OwnMore
import Derived.Deep.OwnRows
import Derived.Tactics
import Derived.Lib.ConvBytes
import Derived.Laws.Slices
import Derived.WalkKit
import Derived.KernelRfl
import Derived.RowKit3
import Derived.Deep.LoopGhost
import Derived.Deep.QuietTactic
import Derived.BigQuiet
import Derived.WideLaws
import Derived.Deep.DeepCutAuto
import Derived.Deep.CutBlock
import Derived.Deep.RegionHeld3
import Derived.Laws.Rows
import Derived.Lib.AppendStr
import Derived.ArgAppend
import Derived.Laws.IdiomCopy
import Derived.OrdersHeld
import Derived.Laws.BitsLemmas
import Derived.RowKit
import Derived.Test.YtacjfgdehnenpaaWWords
import Derived.Test.YtacjfgdehnenpaaWLast
import Derived.Test.YtacjfgdehnenpaaWTab
import Derived.Test.YtacjfgdehnenpaaWFour
import Derived.Test.YtacjfgdehnenpaaWQPut
import Derived.Test.YtacjfgdehnenpaaWApart
import Derived.Test.YtacjfgdehnenpaaWArr
import Derived.Test.YtacjfgdehnenpaaWZeros
import Derived.Test.YtacjfgdehnenpaaWFoot
import Derived.Test.YtacjfgdehnenpaaWKept
import Derived.Test.YtacjfgdehnenpaaWShare
import Derived.Test.YtacjfgdehnenpaaWN
import Derived.Test.YtacjfgdehnenpaaWFootNe
import Derived.Test.YtacjfgdehnenpaaWAt
import Derived.Test.YtacjfgdehnenpaaWEqStruct
import Derived.Test.YtacjfgdehnenpaaWRepsOne
import Derived.Test.YtacjfgdehnenpaaWInv
import Derived.Test.YtacjfgdehnenpaaWInvWords
import Derived.Test.YtacjfgdehnenpaaWGuard
import Derived.Test.YtacjfgdehnenpaaWNEv
import Derived.Test.YtacjfgdehnenpaaWMore
namespace Go.Proofs.Ytacjfgdehnenpaa.PBlake
open Go.RowKit Go.Proofs.YtacjfgdehnenpaaW.PrintWords Go.Proofs.YtacjfgdehnenpaaW.PrintLast Go.Proofs.YtacjfgdehnenpaaW.PrintMore
attribute [local go_sem] max2_int min2_int max_two min_two max_three min_three max_four min_four   -- for this text's walks alone
set_option linter.unusedVariables false
set_option linter.unusedSimpArgs false



def errW : Option Int → Value
  | none => .nilIface
  | some c => .iface 0 (.int .i64 c)
theorem errW_none : errW none = .nilIface := rfl
theorem errW_some (c : Int) : errW (some c) = .iface 0 (.int .i64 c) := rfl

theorem info5 : (Try.prog.info? 5).map (fun i => (i.zero, i.size, i.bytes)) = some (some (.int .u8 0), 1, 1) := by kernel_rfl
theorem info9 : (Try.prog.info? 9).map (fun i => (i.zero, i.size, i.bytes)) = some (some (.string ⟨#[]⟩), 1, 16) := by kernel_rfl
theorem info43 : (Try.prog.info? 43).map (fun i => (i.zero, i.size, i.bytes)) = some (some (.int .u32 0), 1, 4) := by kernel_rfl
theorem info46 : (Try.prog.info? 46).map (fun i => (i.zero, i.size, i.bytes)) = some (some (.int .u64 0), 1, 8) := by kernel_rfl
-- the values' own types

end Go.Proofs.Ytacjfgdehnenpaa.PBlake
