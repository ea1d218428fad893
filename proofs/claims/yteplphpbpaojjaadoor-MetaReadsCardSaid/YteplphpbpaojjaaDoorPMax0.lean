-- Made by a program of this session (wip/tools/pp.py) out of the seat's translation; contracts of some functions are typed by hand.
import Derived.Test.YteplphpbpaojjaaDoorProg
import Derived.Below
import Derived.Deep.Draws
import Derived.Deep.AppendLies
import Derived.Maps.AppendAt
import Derived.OwnWalk
import Derived.Laws.BytesArg
import Derived.Laws.MakeOwn
import Derived.Laws.OwnMore
import Derived.Deep.OwnRows
import Derived.Tactics
import Derived.Lib.ConvBytes
import Derived.Laws.Slices
import Derived.WalkKit
import Derived.KernelRfl
import Derived.RowKit3
import Derived.Deep.LoopGhost
import Derived.Deep.QuietTactic
import Derived.BigQuiet
import Derived.WideLaws
import Derived.Deep.DeepCutAuto
import Derived.Deep.CutBlock
import Derived.Deep.RegionHeld3
import Derived.Laws.Rows
import Derived.Lib.AppendStr
import Derived.ArgAppend
import Derived.Laws.IdiomCopy
import Derived.OrdersHeld
import Derived.Laws.BitsLemmas
import Derived.RowKit
import Derived.Test.YteplphpbpaojjaaDoorWWords
import Derived.Test.YteplphpbpaojjaaDoorWLast
import Derived.Test.YteplphpbpaojjaaDoorWTab
import Derived.Test.YteplphpbpaojjaaDoorWFour
import Derived.Test.YteplphpbpaojjaaDoorWQPut
import Derived.Test.YteplphpbpaojjaaDoorWApart
import Derived.Test.YteplphpbpaojjaaDoorWArr
import Derived.Test.YteplphpbpaojjaaDoorWZeros
import Derived.Test.YteplphpbpaojjaaDoorWFoot
import Derived.Test.YteplphpbpaojjaaDoorWKept
import Derived.Test.YteplphpbpaojjaaDoorWShare
import Derived.Test.YteplphpbpaojjaaDoorWN
import Derived.Test.YteplphpbpaojjaaDoorWFootNe
import Derived.Test.YteplphpbpaojjaaDoorWAt
import Derived.Test.YteplphpbpaojjaaDoorWEqStruct
import Derived.Test.YteplphpbpaojjaaDoorWRepsOne
import Derived.Test.YteplphpbpaojjaaDoorWInv
import Derived.Test.YteplphpbpaojjaaDoorWInvWords
import Derived.Test.YteplphpbpaojjaaDoorWGuard
import Derived.Test.YteplphpbpaojjaaDoorWNEv
import Derived.Test.YteplphpbpaojjaaDoorWMore
namespace Go.Proofs.YteplphpbpaojjaaDoor.PMa
open Go.RowKit Go.Proofs.YteplphpbpaojjaaDoorW.PrintWords Go.Proofs.YteplphpbpaojjaaDoorW.PrintLast Go.Proofs.YteplphpbpaojjaaDoorW.PrintMore
attribute [local go_sem] max2_int min2_int max_two min_two max_three min_three max_four min_four   -- for this text's walks alone
set_option linter.unusedVariables false
set_option linter.unusedSimpArgs false



def errW : Option Int → Value
  | none => .nilIface
  | some c => .iface 0 (.int .i64 c)
theorem errW_none : errW none = .nilIface := rfl
theorem errW_some (c : Int) : errW (some c) = .iface 0 (.int .i64 c) := rfl

theorem info5 : (Tryd.prog.info? 5).map (fun i => (i.zero, i.size, i.bytes)) = some (some (.int .u8 0), 1, 1) := by kernel_rfl
-- the values' own types
structure S25 where
  f0 : ByteArray
  f1 : Int
  f2 : Int
  f3 : Int
  f4 : ByteArray
end Go.Proofs.YteplphpbpaojjaaDoor.PMa
