-- Made by a program of this session (wip/tools/pp.py) out of the seat's translation; contracts of some functions are typed by hand.
import Derived.Test.YtpgijmnlkfhheaaProg
import Derived.Below
import Derived.Deep.Draws
import Derived.Deep.AppendLies
import Derived.Maps.AppendAt
import Derived.OwnWalk
import Derived.Laws.BytesArg
import Derived.Laws.MakeOwn
import Derived.Laws.OwnMore
import Derived.Deep.OwnRows
import Derived.Tactics
import Derived.Lib.ConvBytes
import Derived.Laws.Slices
import Derived.WalkKit
import Derived.KernelRfl
import Derived.RowKit3
import Derived.Deep.LoopGhost
import Derived.Deep.QuietTactic
import Derived.BigQuiet
import Derived.WideLaws
import Derived.Deep.DeepCutAuto
import Derived.Deep.CutBlock
import Derived.Deep.RegionHeld3
import Derived.Laws.Rows
import Derived.Lib.AppendStr
import Derived.ArgAppend
import Derived.Laws.IdiomCopy
import Derived.OrdersHeld
import Derived.Laws.BitsLemmas
import Derived.RowKit
import Derived.Test.YtpgijmnlkfhheaaWWords
import Derived.Test.YtpgijmnlkfhheaaWLast
import Derived.Test.YtpgijmnlkfhheaaWTab
import Derived.Test.YtpgijmnlkfhheaaWFour
import Derived.Test.YtpgijmnlkfhheaaWQPut
import Derived.Test.YtpgijmnlkfhheaaWApart
import Derived.Test.YtpgijmnlkfhheaaWArr
import Derived.Test.YtpgijmnlkfhheaaWZeros
import Derived.Test.YtpgijmnlkfhheaaWFoot
import Derived.Test.YtpgijmnlkfhheaaWKept
import Derived.Test.YtpgijmnlkfhheaaWShare
import Derived.Test.YtpgijmnlkfhheaaWN
import Derived.Test.YtpgijmnlkfhheaaWFootNe
import Derived.Test.YtpgijmnlkfhheaaWAt
import Derived.Test.YtpgijmnlkfhheaaWEqStruct
import Derived.Test.YtpgijmnlkfhheaaWRepsOne
import Derived.Test.YtpgijmnlkfhheaaWInv
import Derived.Test.YtpgijmnlkfhheaaWInvWords
import Derived.Test.YtpgijmnlkfhheaaWGuard
import Derived.Test.YtpgijmnlkfhheaaWNEv
import Derived.Test.YtpgijmnlkfhheaaWMore
namespace Go.Proofs.Ytpgijmnlkfhheaa.PSecP
open Go.RowKit Go.Proofs.YtpgijmnlkfhheaaW.PrintWords Go.Proofs.YtpgijmnlkfhheaaW.PrintLast Go.Proofs.YtpgijmnlkfhheaaW.PrintMore
attribute [local go_sem] max2_int min2_int max_two min_two max_three min_three max_four min_four   -- for this text's walks alone
set_option linter.unusedVariables false
set_option linter.unusedSimpArgs false



def errW : Option Int → Value
  | none => .nilIface
  | some c => .iface 0 (.int .i64 c)
theorem errW_none : errW none = .nilIface := rfl
theorem errW_some (c : Int) : errW (some c) = .iface 0 (.int .i64 c) := rfl

theorem info3 : (Try.prog.info? 3).map (fun i => (i.zero, i.size, i.bytes)) = some (some (.int .i64 0), 1, 8) := by kernel_rfl
theorem info5 : (Try.prog.info? 5).map (fun i => (i.zero, i.size, i.bytes)) = some (some (.int .u8 0), 1, 1) := by kernel_rfl
theorem info9 : (Try.prog.info? 9).map (fun i => (i.zero, i.size, i.bytes)) = some (some (.string ⟨#[]⟩), 1, 16) := by kernel_rfl
-- the values' own types

end Go.Proofs.Ytpgijmnlkfhheaa.PSecP
