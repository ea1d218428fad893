
import Derived.Test.YtbeibmdccjgcmaaDoorProg
import Derived.Below
import Derived.Deep.Draws
import Derived.Deep.AppendLies
import Derived.Maps.AppendAt
import Derived.OwnWalk
import Derived.Laws.BytesArg
import Derived.Laws.MakeOwn
import Derived.Laws.OwnMore
import Derived.Deep.OwnRows
import Derived.Tactics
import Derived.Lib.ConvBytes
import Derived.Laws.Slices
import Derived.WalkKit
import Derived.KernelRfl
import Derived.RowKit3
import Derived.Deep.LoopGhost
import Derived.Deep.QuietTactic
import Derived.BigQuiet
import Derived.WideLaws
import Derived.Deep.DeepCutAuto
import Derived.Deep.CutBlock
import Derived.Deep.RegionHeld3
import Derived.Laws.Rows
import Derived.Lib.AppendStr
import Derived.ArgAppend
import Derived.Laws.IdiomCopy
import Derived.OrdersHeld
import Derived.Laws.BitsLemmas
import Derived.RowKit
import Derived.Test.YtbeibmdccjgcmaaDoorWWords
import Derived.Test.YtbeibmdccjgcmaaDoorWLast
import Derived.Test.YtbeibmdccjgcmaaDoorWTab
import Derived.Test.YtbeibmdccjgcmaaDoorWFour
import Derived.Test.YtbeibmdccjgcmaaDoorWQPut
import Derived.Test.YtbeibmdccjgcmaaDoorWApart
import Derived.Test.YtbeibmdccjgcmaaDoorWArr
import Derived.Test.YtbeibmdccjgcmaaDoorWZeros
import Derived.Test.YtbeibmdccjgcmaaDoorWFoot
import Derived.Test.YtbeibmdccjgcmaaDoorWKept
import Derived.Test.YtbeibmdccjgcmaaDoorWShare
import Derived.Test.YtbeibmdccjgcmaaDoorWN
import Derived.Test.YtbeibmdccjgcmaaDoorWFootNe
import Derived.Test.YtbeibmdccjgcmaaDoorWAt
import Derived.Test.YtbeibmdccjgcmaaDoorWEqStruct
import Derived.Test.YtbeibmdccjgcmaaDoorWRepsOne
import Derived.Test.YtbeibmdccjgcmaaDoorWInv
import Derived.Test.YtbeibmdccjgcmaaDoorWInvWords
import Derived.Test.YtbeibmdccjgcmaaDoorWGuard
import Derived.Test.YtbeibmdccjgcmaaDoorWNEv
import Derived.Test.YtbeibmdccjgcmaaDoorWMore
namespace Go.Proofs.YtbeibmdccjgcmaaDoor.PRef
open Go.RowKit Go.Proofs.YtbeibmdccjgcmaaDoorW.PrintWords Go.Proofs.YtbeibmdccjgcmaaDoorW.PrintLast Go.Proofs.YtbeibmdccjgcmaaDoorW.PrintMore
attribute [local go_sem] max2_int min2_int max_two min_two max_three min_three max_four min_four   -- for this text's walks alone
set_option linter.unusedVariables false
set_option linter.unusedSimpArgs false



def errW : Option Int → Value
  | none => .nilIface
  | some c => .iface 0 (.int .i64 c)
theorem errW_none : errW none = .nilIface := rfl
theorem errW_some (c : Int) : errW (some c) = .iface 0 (.int .i64 c) := rfl

theorem info71 : (Tryd.prog.info? 71).map (fun i => (i.zero, i.size, i.bytes)) = some (some (.int .u32 0), 1, 4) := by kernel_rfl
-- the values' own types
/-! #### struct type 33 -/
structure S33 where
  f0 : ByteArray
  f1 : Int
  f2 : Int
  f3 : Int
  f4 : ByteArray
end Go.Proofs.YtbeibmdccjgcmaaDoor.PRef
namespace Go.Proofs.YtbeibmdccjgcmaaDoor.PRef
open Go.RowKit Go.Proofs.YtbeibmdccjgcmaaDoorW.PrintWords Go.Proofs.YtbeibmdccjgcmaaDoorW.PrintLast Go.Proofs.YtbeibmdccjgcmaaDoorW.PrintMore
attribute [local go_sem] max2_int min2_int max_two min_two max_three min_three max_four min_four   -- for this text's walks alone
set_option linter.unusedVariables false
set_option linter.unusedSimpArgs false

/-! ### hamperref05_place: function 50 -/
def hamperref05_place.f (a0 : Int) : Option (Int) := if a0 ≥ 97 then (some (((a0 - 97) % 256) + 10)) else (some ((a0 - 48) % 256))
set_option maxHeartbeats 8000000 in
set_option maxRecDepth 100000 in
theorem hamperref05_place.calls (a0 : Int) (r : Int) (w : World) (h : hamperref05_place.f a0 = some r) :
    Calls Tryd.prog 50 #[.int .u8 a0] w fun e w' => e = .returned (.int .i64 r) ∧ Drawn0 w w' := by
  have H : (if a0 ≥ 97 then (some (((a0 - 97) % 256) + 10)) else (some ((a0 - 48) % 256))) = some r := h
  clear h
  by_cases c2 : a0 ≥ 97
  · rw [if_pos c2] at H
    have c2b0 : decide (97 ≤ a0) = true := decide_eq_true c2
    clear c2
    obtain rfl := Option.some.inj H
    go_enter Tryd.func50, Tryd.ntmps50
    go_wp2
    go_ret
    exact ⟨by first | rfl | (simp; done) | (simp [*]; done), by repeat (first | exact Drawn0.refl _ | apply Drawn0.step)⟩
  · rw [if_neg c2] at H
    have c2b0 : decide (97 ≤ a0) = false := decide_eq_false c2
    clear c2
    obtain rfl := Option.some.inj H
    go_enter Tryd.func50, Tryd.ntmps50
    go_wp2
    go_ret
    exact ⟨by first | rfl | (simp; done) | (simp [*]; done), by repeat (first | exact Drawn0.refl _ | apply Drawn0.step)⟩

end Go.Proofs.YtbeibmdccjgcmaaDoor.PRef
namespace Go.Proofs.YtbeibmdccjgcmaaDoor.PRef
open Go.RowKit Go.Proofs.YtbeibmdccjgcmaaDoorW.PrintWords Go.Proofs.YtbeibmdccjgcmaaDoorW.PrintLast Go.Proofs.YtbeibmdccjgcmaaDoorW.PrintMore
attribute [local go_sem] max2_int min2_int max_two min_two max_three min_three max_four min_four   -- for this text's walks alone
set_option linter.unusedVariables false
set_option linter.unusedSimpArgs false

-- NOT PRINTED: function 33 (hamperref05_Keyed)

end Go.Proofs.YtbeibmdccjgcmaaDoor.PRef
namespace Go.Proofs.YtbeibmdccjgcmaaDoor.PRef
open Go.RowKit Go.Proofs.YtbeibmdccjgcmaaDoorW.PrintWords Go.Proofs.YtbeibmdccjgcmaaDoorW.PrintLast Go.Proofs.YtbeibmdccjgcmaaDoorW.PrintMore
attribute [local go_sem] max2_int min2_int max_two min_two max_three min_three max_four min_four   -- for this text's walks alone
set_option linter.unusedVariables false
set_option linter.unusedSimpArgs false

-- NOT PRINTED: function 16 (hamperref05_Sum)

end Go.Proofs.YtbeibmdccjgcmaaDoor.PRef
namespace Go.Proofs.YtbeibmdccjgcmaaDoor.PRef
open Go.RowKit Go.Proofs.YtbeibmdccjgcmaaDoorW.PrintWords Go.Proofs.YtbeibmdccjgcmaaDoorW.PrintLast Go.Proofs.YtbeibmdccjgcmaaDoorW.PrintMore
attribute [local go_sem] max2_int min2_int max_two min_two max_three min_three max_four min_four   -- for this text's walks alone
set_option linter.unusedVariables false
set_option linter.unusedSimpArgs false

/-! ### utf8_word_string: function 67 -/
end Go.Proofs.YtbeibmdccjgcmaaDoor.PRef
namespace Go.Proofs.YtbeibmdccjgcmaaDoor.PRef
open Go.RowKit Go.Proofs.YtbeibmdccjgcmaaDoorW.PrintWords Go.Proofs.YtbeibmdccjgcmaaDoorW.PrintLast Go.Proofs.YtbeibmdccjgcmaaDoorW.PrintMore
attribute [local go_sem] max2_int min2_int max_two min_two max_three min_three max_four min_four   -- for this text's walks alone
set_option linter.unusedVariables false
set_option linter.unusedSimpArgs false

-- NOT PRINTED: function 56 (utf8_ValidString)

end Go.Proofs.YtbeibmdccjgcmaaDoor.PRef
namespace Go.Proofs.YtbeibmdccjgcmaaDoor.PRef
open Go.RowKit Go.Proofs.YtbeibmdccjgcmaaDoorW.PrintWords Go.Proofs.YtbeibmdccjgcmaaDoorW.PrintLast Go.Proofs.YtbeibmdccjgcmaaDoorW.PrintMore
attribute [local go_sem] max2_int min2_int max_two min_two max_three min_three max_four min_four   -- for this text's walks alone
set_option linter.unusedVariables false
set_option linter.unusedSimpArgs false

-- NOT PRINTED: function 43 (hamperref19_Name)

end Go.Proofs.YtbeibmdccjgcmaaDoor.PRef
namespace Go.Proofs.YtbeibmdccjgcmaaDoor.PRef
open Go.RowKit Go.Proofs.YtbeibmdccjgcmaaDoorW.PrintWords Go.Proofs.YtbeibmdccjgcmaaDoorW.PrintLast Go.Proofs.YtbeibmdccjgcmaaDoorW.PrintMore
attribute [local go_sem] max2_int min2_int max_two min_two max_three min_three max_four min_four   -- for this text's walks alone
set_option linter.unusedVariables false
set_option linter.unusedSimpArgs false

-- NOT PRINTED: function 44 (hamperref19_May)

end Go.Proofs.YtbeibmdccjgcmaaDoor.PRef
namespace Go.Proofs.YtbeibmdccjgcmaaDoor.PRef
open Go.RowKit Go.Proofs.YtbeibmdccjgcmaaDoorW.PrintWords Go.Proofs.YtbeibmdccjgcmaaDoorW.PrintLast Go.Proofs.YtbeibmdccjgcmaaDoorW.PrintMore
attribute [local go_sem] max2_int min2_int max_two min_two max_three min_three max_four min_four   -- for this text's walks alone
set_option linter.unusedVariables false
set_option linter.unusedSimpArgs false

/-! ### hamperref19_bytes: function 45 -/
end Go.Proofs.YtbeibmdccjgcmaaDoor.PRef
namespace Go.Proofs.YtbeibmdccjgcmaaDoor.PRef
open Go.RowKit Go.Proofs.YtbeibmdccjgcmaaDoorW.PrintWords Go.Proofs.YtbeibmdccjgcmaaDoorW.PrintLast Go.Proofs.YtbeibmdccjgcmaaDoorW.PrintMore
attribute [local go_sem] max2_int min2_int max_two min_two max_three min_three max_four min_four   -- for this text's walks alone
set_option linter.unusedVariables false
set_option linter.unusedSimpArgs false

-- NOT PRINTED: function 29 (hamperref19_Make)

end Go.Proofs.YtbeibmdccjgcmaaDoor.PRef
namespace Go.Proofs.YtbeibmdccjgcmaaDoor.PRef
open Go.RowKit Go.Proofs.YtbeibmdccjgcmaaDoorW.PrintWords Go.Proofs.YtbeibmdccjgcmaaDoorW.PrintLast Go.Proofs.YtbeibmdccjgcmaaDoorW.PrintMore
attribute [local go_sem] max2_int min2_int max_two min_two max_three min_three max_four min_four   -- for this text's walks alone
set_option linter.unusedVariables false
set_option linter.unusedSimpArgs false

-- NOT PRINTED: function 11 (hamperref21_Make)

end Go.Proofs.YtbeibmdccjgcmaaDoor.PRef
namespace Go.Proofs.YtbeibmdccjgcmaaDoor.PRef
open Go.RowKit Go.Proofs.YtbeibmdccjgcmaaDoorW.PrintWords Go.Proofs.YtbeibmdccjgcmaaDoorW.PrintLast Go.Proofs.YtbeibmdccjgcmaaDoorW.PrintMore
attribute [local go_sem] max2_int min2_int max_two min_two max_three min_three max_four min_four   -- for this text's walks alone
set_option linter.unusedVariables false
set_option linter.unusedSimpArgs false

/-! ### hamperref19_at: function 51 -/
end Go.Proofs.YtbeibmdccjgcmaaDoor.PRef
namespace Go.Proofs.YtbeibmdccjgcmaaDoor.PRef
open Go.RowKit Go.Proofs.YtbeibmdccjgcmaaDoorW.PrintWords Go.Proofs.YtbeibmdccjgcmaaDoorW.PrintLast Go.Proofs.YtbeibmdccjgcmaaDoorW.PrintMore
attribute [local go_sem] max2_int min2_int max_two min_two max_three min_three max_four min_four   -- for this text's walks alone
set_option linter.unusedVariables false
set_option linter.unusedSimpArgs false

-- NOT PRINTED: function 34 (hamperref19_Read)

end Go.Proofs.YtbeibmdccjgcmaaDoor.PRef
namespace Go.Proofs.YtbeibmdccjgcmaaDoor.PRef
open Go.RowKit Go.Proofs.YtbeibmdccjgcmaaDoorW.PrintWords Go.Proofs.YtbeibmdccjgcmaaDoorW.PrintLast Go.Proofs.YtbeibmdccjgcmaaDoorW.PrintMore
attribute [local go_sem] max2_int min2_int max_two min_two max_three min_three max_four min_four   -- for this text's walks alone
set_option linter.unusedVariables false
set_option linter.unusedSimpArgs false

-- NOT PRINTED: function 17 (hamperref21_Read)

end Go.Proofs.YtbeibmdccjgcmaaDoor.PRef
namespace Go.Proofs.YtbeibmdccjgcmaaDoor.PRef
open Go.RowKit Go.Proofs.YtbeibmdccjgcmaaDoorW.PrintWords Go.Proofs.YtbeibmdccjgcmaaDoorW.PrintLast Go.Proofs.YtbeibmdccjgcmaaDoorW.PrintMore
attribute [local go_sem] max2_int min2_int max_two min_two max_three min_three max_four min_four   -- for this text's walks alone
set_option linter.unusedVariables false
set_option linter.unusedSimpArgs false

-- NOT PRINTED: function 27 (quick_together)

end Go.Proofs.YtbeibmdccjgcmaaDoor.PRef
namespace Go.Proofs.YtbeibmdccjgcmaaDoor.PRef
open Go.RowKit Go.Proofs.YtbeibmdccjgcmaaDoorW.PrintWords Go.Proofs.YtbeibmdccjgcmaaDoorW.PrintLast Go.Proofs.YtbeibmdccjgcmaaDoorW.PrintMore
attribute [local go_sem] max2_int min2_int max_two min_two max_three min_three max_four min_four   -- for this text's walks alone
set_option linter.unusedVariables false
set_option linter.unusedSimpArgs false

-- NOT PRINTED: function 46 (api_Meta_46)

end Go.Proofs.YtbeibmdccjgcmaaDoor.PRef
namespace Go.Proofs.YtbeibmdccjgcmaaDoor.PRef
open Go.RowKit Go.Proofs.YtbeibmdccjgcmaaDoorW.PrintWords Go.Proofs.YtbeibmdccjgcmaaDoorW.PrintLast Go.Proofs.YtbeibmdccjgcmaaDoorW.PrintMore
attribute [local go_sem] max2_int min2_int max_two min_two max_three min_three max_four min_four   -- for this text's walks alone
set_option linter.unusedVariables false
set_option linter.unusedSimpArgs false

-- NOT PRINTED: function 30 (api_Meta_30)

end Go.Proofs.YtbeibmdccjgcmaaDoor.PRef
namespace Go.Proofs.YtbeibmdccjgcmaaDoor.PRef
open Go.RowKit Go.Proofs.YtbeibmdccjgcmaaDoorW.PrintWords Go.Proofs.YtbeibmdccjgcmaaDoorW.PrintLast Go.Proofs.YtbeibmdccjgcmaaDoorW.PrintMore
attribute [local go_sem] max2_int min2_int max_two min_two max_three min_three max_four min_four   -- for this text's walks alone
set_option linter.unusedVariables false
set_option linter.unusedSimpArgs false

-- NOT PRINTED: function 12 (quick_May)

end Go.Proofs.YtbeibmdccjgcmaaDoor.PRef
namespace Go.Proofs.YtbeibmdccjgcmaaDoor.PRef
open Go.RowKit Go.Proofs.YtbeibmdccjgcmaaDoorW.PrintWords Go.Proofs.YtbeibmdccjgcmaaDoorW.PrintLast Go.Proofs.YtbeibmdccjgcmaaDoorW.PrintMore
attribute [local go_sem] max2_int min2_int max_two min_two max_three min_three max_four min_four   -- for this text's walks alone
set_option linter.unusedVariables false
set_option linter.unusedSimpArgs false

/-! ### bits_Mul64: function 77 -/
end Go.Proofs.YtbeibmdccjgcmaaDoor.PRef
namespace Go.Proofs.YtbeibmdccjgcmaaDoor.PRef
open Go.RowKit Go.Proofs.YtbeibmdccjgcmaaDoorW.PrintWords Go.Proofs.YtbeibmdccjgcmaaDoorW.PrintLast Go.Proofs.YtbeibmdccjgcmaaDoorW.PrintMore
attribute [local go_sem] max2_int min2_int max_two min_two max_three min_three max_four min_four   -- for this text's walks alone
set_option linter.unusedVariables false
set_option linter.unusedSimpArgs false

-- NOT PRINTED: function 70 (blake_firsts)

end Go.Proofs.YtbeibmdccjgcmaaDoor.PRef
namespace Go.Proofs.YtbeibmdccjgcmaaDoor.PRef
open Go.RowKit Go.Proofs.YtbeibmdccjgcmaaDoorW.PrintWords Go.Proofs.YtbeibmdccjgcmaaDoorW.PrintLast Go.Proofs.YtbeibmdccjgcmaaDoorW.PrintMore
attribute [local go_sem] max2_int min2_int max_two min_two max_three min_three max_four min_four   -- for this text's walks alone
set_option linter.unusedVariables false
set_option linter.unusedSimpArgs false

-- NOT PRINTED: function 59 (blake_made)

end Go.Proofs.YtbeibmdccjgcmaaDoor.PRef
namespace Go.Proofs.YtbeibmdccjgcmaaDoor.PRef
open Go.RowKit Go.Proofs.YtbeibmdccjgcmaaDoorW.PrintWords Go.Proofs.YtbeibmdccjgcmaaDoorW.PrintLast Go.Proofs.YtbeibmdccjgcmaaDoorW.PrintMore
attribute [local go_sem] max2_int min2_int max_two min_two max_three min_three max_four min_four   -- for this text's walks alone
set_option linter.unusedVariables false
set_option linter.unusedSimpArgs false

-- NOT PRINTED: function 38 (blake_New)

end Go.Proofs.YtbeibmdccjgcmaaDoor.PRef
namespace Go.Proofs.YtbeibmdccjgcmaaDoor.PRef
open Go.RowKit Go.Proofs.YtbeibmdccjgcmaaDoorW.PrintWords Go.Proofs.YtbeibmdccjgcmaaDoorW.PrintLast Go.Proofs.YtbeibmdccjgcmaaDoorW.PrintMore
attribute [local go_sem] max2_int min2_int max_two min_two max_three min_three max_four min_four   -- for this text's walks alone
set_option linter.unusedVariables false
set_option linter.unusedSimpArgs false

-- NOT PRINTED: function 71 (blake_rows)

end Go.Proofs.YtbeibmdccjgcmaaDoor.PRef
namespace Go.Proofs.YtbeibmdccjgcmaaDoor.PRef
open Go.RowKit Go.Proofs.YtbeibmdccjgcmaaDoorW.PrintWords Go.Proofs.YtbeibmdccjgcmaaDoorW.PrintLast Go.Proofs.YtbeibmdccjgcmaaDoorW.PrintMore
attribute [local go_sem] max2_int min2_int max_two min_two max_three min_three max_four min_four   -- for this text's walks alone
set_option linter.unusedVariables false
set_option linter.unusedSimpArgs false

-- NOT PRINTED: function 72 (blake_mixes)

end Go.Proofs.YtbeibmdccjgcmaaDoor.PRef
namespace Go.Proofs.YtbeibmdccjgcmaaDoor.PRef
open Go.RowKit Go.Proofs.YtbeibmdccjgcmaaDoorW.PrintWords Go.Proofs.YtbeibmdccjgcmaaDoorW.PrintLast Go.Proofs.YtbeibmdccjgcmaaDoorW.PrintMore
attribute [local go_sem] max2_int min2_int max_two min_two max_three min_three max_four min_four   -- for this text's walks alone
set_option linter.unusedVariables false
set_option linter.unusedSimpArgs false

/-! ### bits_RotateLeft32: function 78 -/
end Go.Proofs.YtbeibmdccjgcmaaDoor.PRef
namespace Go.Proofs.YtbeibmdccjgcmaaDoor.PRef
open Go.RowKit Go.Proofs.YtbeibmdccjgcmaaDoorW.PrintWords Go.Proofs.YtbeibmdccjgcmaaDoorW.PrintLast Go.Proofs.YtbeibmdccjgcmaaDoorW.PrintMore
attribute [local go_sem] max2_int min2_int max_two min_two max_three min_three max_four min_four   -- for this text's walks alone
set_option linter.unusedVariables false
set_option linter.unusedSimpArgs false

-- NOT PRINTED: function 73 (blake_mix)

end Go.Proofs.YtbeibmdccjgcmaaDoor.PRef
namespace Go.Proofs.YtbeibmdccjgcmaaDoor.PRef
open Go.RowKit Go.Proofs.YtbeibmdccjgcmaaDoorW.PrintWords Go.Proofs.YtbeibmdccjgcmaaDoorW.PrintLast Go.Proofs.YtbeibmdccjgcmaaDoorW.PrintMore
attribute [local go_sem] max2_int min2_int max_two min_two max_three min_three max_four min_four   -- for this text's walks alone
set_option linter.unusedVariables false
set_option linter.unusedSimpArgs false

-- NOT PRINTED: function 60 (blake_Hash_take)

end Go.Proofs.YtbeibmdccjgcmaaDoor.PRef
namespace Go.Proofs.YtbeibmdccjgcmaaDoor.PRef
open Go.RowKit Go.Proofs.YtbeibmdccjgcmaaDoorW.PrintWords Go.Proofs.YtbeibmdccjgcmaaDoorW.PrintLast Go.Proofs.YtbeibmdccjgcmaaDoorW.PrintMore
attribute [local go_sem] max2_int min2_int max_two min_two max_three min_three max_four min_four   -- for this text's walks alone
set_option linter.unusedVariables false
set_option linter.unusedSimpArgs false

-- NOT PRINTED: function 39 (blake_Hash_add)

end Go.Proofs.YtbeibmdccjgcmaaDoor.PRef
namespace Go.Proofs.YtbeibmdccjgcmaaDoor.PRef
open Go.RowKit Go.Proofs.YtbeibmdccjgcmaaDoorW.PrintWords Go.Proofs.YtbeibmdccjgcmaaDoorW.PrintLast Go.Proofs.YtbeibmdccjgcmaaDoorW.PrintMore
attribute [local go_sem] max2_int min2_int max_two min_two max_three min_three max_four min_four   -- for this text's walks alone
set_option linter.unusedVariables false
set_option linter.unusedSimpArgs false

-- NOT PRINTED: function 62 (abi_NoEscape)

end Go.Proofs.YtbeibmdccjgcmaaDoor.PRef
namespace Go.Proofs.YtbeibmdccjgcmaaDoor.PRef
open Go.RowKit Go.Proofs.YtbeibmdccjgcmaaDoorW.PrintWords Go.Proofs.YtbeibmdccjgcmaaDoorW.PrintLast Go.Proofs.YtbeibmdccjgcmaaDoorW.PrintMore
attribute [local go_sem] max2_int min2_int max_two min_two max_three min_three max_four min_four   -- for this text's walks alone
set_option linter.unusedVariables false
set_option linter.unusedSimpArgs false

-- NOT PRINTED: function 41 (strings_Builder_copyCheck)

end Go.Proofs.YtbeibmdccjgcmaaDoor.PRef
namespace Go.Proofs.YtbeibmdccjgcmaaDoor.PRef
open Go.RowKit Go.Proofs.YtbeibmdccjgcmaaDoorW.PrintWords Go.Proofs.YtbeibmdccjgcmaaDoorW.PrintLast Go.Proofs.YtbeibmdccjgcmaaDoorW.PrintMore
attribute [local go_sem] max2_int min2_int max_two min_two max_three min_three max_four min_four   -- for this text's walks alone
set_option linter.unusedVariables false
set_option linter.unusedSimpArgs false

-- NOT PRINTED: function 25 (strings_Builder_WriteByte)

end Go.Proofs.YtbeibmdccjgcmaaDoor.PRef
namespace Go.Proofs.YtbeibmdccjgcmaaDoor.PRef
open Go.RowKit Go.Proofs.YtbeibmdccjgcmaaDoorW.PrintWords Go.Proofs.YtbeibmdccjgcmaaDoorW.PrintLast Go.Proofs.YtbeibmdccjgcmaaDoorW.PrintMore
attribute [local go_sem] max2_int min2_int max_two min_two max_three min_three max_four min_four   -- for this text's walks alone
set_option linter.unusedVariables false
set_option linter.unusedSimpArgs false

-- NOT PRINTED: function 28 (strings_Builder_String)

end Go.Proofs.YtbeibmdccjgcmaaDoor.PRef
namespace Go.Proofs.YtbeibmdccjgcmaaDoor.PRef
open Go.RowKit Go.Proofs.YtbeibmdccjgcmaaDoorW.PrintWords Go.Proofs.YtbeibmdccjgcmaaDoorW.PrintLast Go.Proofs.YtbeibmdccjgcmaaDoorW.PrintMore
attribute [local go_sem] max2_int min2_int max_two min_two max_three min_three max_four min_four   -- for this text's walks alone
set_option linter.unusedVariables false
set_option linter.unusedSimpArgs false

-- NOT PRINTED: function 61 (blake_Hash_Copy)

end Go.Proofs.YtbeibmdccjgcmaaDoor.PRef
namespace Go.Proofs.YtbeibmdccjgcmaaDoor.PRef
open Go.RowKit Go.Proofs.YtbeibmdccjgcmaaDoorW.PrintWords Go.Proofs.YtbeibmdccjgcmaaDoorW.PrintLast Go.Proofs.YtbeibmdccjgcmaaDoorW.PrintMore
attribute [local go_sem] max2_int min2_int max_two min_two max_three min_three max_four min_four   -- for this text's walks alone
set_option linter.unusedVariables false
set_option linter.unusedSimpArgs false

-- NOT PRINTED: function 40 (blake_Hash_Sum)

end Go.Proofs.YtbeibmdccjgcmaaDoor.PRef
namespace Go.Proofs.YtbeibmdccjgcmaaDoor.PRef
open Go.RowKit Go.Proofs.YtbeibmdccjgcmaaDoorW.PrintWords Go.Proofs.YtbeibmdccjgcmaaDoorW.PrintLast Go.Proofs.YtbeibmdccjgcmaaDoorW.PrintMore
attribute [local go_sem] max2_int min2_int max_two min_two max_three min_three max_four min_four   -- for this text's walks alone
set_option linter.unusedVariables false
set_option linter.unusedSimpArgs false

theorem eqA33 (d : Nat) (w : World) (x0 y0 : ByteArray) (x1 y1 : Int) (x2 y2 : Int) (x3 y3 : Int) (x4 y4 : ByteArray) :
    (Op.equalIn (d + 2) 33 (.agg #[.string x0, .int .i64 x1, .int .i64 x2, .int .i64 x3, .string x4]) (.agg #[.string y0, .int .i64 y1, .int .i64 y2, .int .i64 y3, .string y4])).run Tryd.prog w = .ok (x0.toList == y0.toList && (x1 == y1 && (x2 == y2 && (x3 == y3 && (x4.toList == y4.toList))))) w := by
  refine eqA_of Tryd.underlying33 (by kernel_rfl) ?_
  refine eqf_cons (by rfl) (by go_simp; rfl) (by go_simp; rfl) (by go_simp) ?_
  refine eqf_cons (by rfl) (by go_simp; rfl) (by go_simp; rfl) (by go_simp) ?_
  refine eqf_cons (by rfl) (by go_simp; rfl) (by go_simp; rfl) (by go_simp) ?_
  refine eqf_cons (by rfl) (by go_simp; rfl) (by go_simp; rfl) (by go_simp) ?_
  exact eqf_last (by rfl) (by go_simp; rfl) (by go_simp; rfl) (by go_simp)
end Go.Proofs.YtbeibmdccjgcmaaDoor.PRef
namespace Go.Proofs.YtbeibmdccjgcmaaDoor.PRef
open Go.RowKit Go.Proofs.YtbeibmdccjgcmaaDoorW.PrintWords Go.Proofs.YtbeibmdccjgcmaaDoorW.PrintLast Go.Proofs.YtbeibmdccjgcmaaDoorW.PrintMore
attribute [local go_sem] max2_int min2_int max_two min_two max_three min_three max_four min_four   -- for this text's walks alone
set_option linter.unusedVariables false
set_option linter.unusedSimpArgs false

attribute [local go_sem high] eqA33
/-! ### hamperref21_Same: function 15 -/
end Go.Proofs.YtbeibmdccjgcmaaDoor.PRef
namespace Go.Proofs.YtbeibmdccjgcmaaDoor.PRef
open Go.RowKit Go.Proofs.YtbeibmdccjgcmaaDoorW.PrintWords Go.Proofs.YtbeibmdccjgcmaaDoorW.PrintLast Go.Proofs.YtbeibmdccjgcmaaDoorW.PrintMore
attribute [local go_sem] max2_int min2_int max_two min_two max_three min_three max_four min_four   -- for this text's walks alone
set_option linter.unusedVariables false
set_option linter.unusedSimpArgs false

/-! ### hamperref05_First: function 47 -/
mutual
def hamperref05_First.l0 : Nat → List Int → List Int → Int → Int → Option (List Int)
  | 0, _, _, _, _ => none
  | k + 1, x1, x12, x13, x14 => if x14 < x13 then (if 0 ≤ x14 then (if x14 < (x12.length : Int) then (hamperref05_First.l1 k x1 (rd x12 x14) 0 34359738368 x12 x13 x14) else (none)) else (none)) else (some x1)
def hamperref05_First.l1 : Nat → List Int → Int → Int → Int → List Int → Int → Int → Option (List Int)
  | 0, _, _, _, _, _, _, _ => none
  | k + 1, x1, x3, x4, x5, x12, x13, x14 => if x5 > 0 then (if (IntKind.u64.wrap ((IntKind.u64.wrap ((Int.tmod (IntKind.u64.wrap (x4 + x5)) 4294967296) * (Int.tmod (IntKind.u64.wrap (x4 + x5)) 4294967296))) + (IntKind.u64.wrap ((IntKind.u64.wrap ((IntKind.u64.wrap (2 * ((IntKind.u64.wrap (x4 + x5)) / 4294967296))) * (Int.tmod (IntKind.u64.wrap (x4 + x5)) 4294967296))) * 4294967296)))) < (IntKind.u64.wrap ((Int.tmod (IntKind.u64.wrap (x4 + x5)) 4294967296) * (Int.tmod (IntKind.u64.wrap (x4 + x5)) 4294967296))) then (if (IntKind.u64.wrap ((IntKind.u64.wrap ((IntKind.u64.wrap (((IntKind.u64.wrap (x4 + x5)) / 4294967296) * ((IntKind.u64.wrap (x4 + x5)) / 4294967296))) + ((IntKind.u64.wrap ((IntKind.u64.wrap (2 * ((IntKind.u64.wrap (x4 + x5)) / 4294967296))) * (Int.tmod (IntKind.u64.wrap (x4 + x5)) 4294967296))) / 4294967296))) + 1)) < x3 then (hamperref05_First.l1 k x1 x3 (IntKind.u64.wrap (x4 + x5)) (IntKind.u64.wrap (Int.tdiv x5 2)) x12 x13 x14) else (if (IntKind.u64.wrap ((IntKind.u64.wrap ((IntKind.u64.wrap (((IntKind.u64.wrap (x4 + x5)) / 4294967296) * ((IntKind.u64.wrap (x4 + x5)) / 4294967296))) + ((IntKind.u64.wrap ((IntKind.u64.wrap (2 * ((IntKind.u64.wrap (x4 + x5)) / 4294967296))) * (Int.tmod (IntKind.u64.wrap (x4 + x5)) 4294967296))) / 4294967296))) + 1)) = x3 then (if (IntKind.u64.wrap ((IntKind.u64.wrap ((Int.tmod (IntKind.u64.wrap (x4 + x5)) 4294967296) * (Int.tmod (IntKind.u64.wrap (x4 + x5)) 4294967296))) + (IntKind.u64.wrap ((IntKind.u64.wrap ((IntKind.u64.wrap (2 * ((IntKind.u64.wrap (x4 + x5)) / 4294967296))) * (Int.tmod (IntKind.u64.wrap (x4 + x5)) 4294967296))) * 4294967296)))) = 0 then (hamperref05_First.l1 k x1 x3 (IntKind.u64.wrap (x4 + x5)) (IntKind.u64.wrap (Int.tdiv x5 2)) x12 x13 x14) else (hamperref05_First.l1 k x1 x3 x4 (IntKind.u64.wrap (Int.tdiv x5 2)) x12 x13 x14)) else (hamperref05_First.l1 k x1 x3 x4 (IntKind.u64.wrap (Int.tdiv x5 2)) x12 x13 x14))) else (if (IntKind.u64.wrap ((IntKind.u64.wrap (((IntKind.u64.wrap (x4 + x5)) / 4294967296) * ((IntKind.u64.wrap (x4 + x5)) / 4294967296))) + ((IntKind.u64.wrap ((IntKind.u64.wrap (2 * ((IntKind.u64.wrap (x4 + x5)) / 4294967296))) * (Int.tmod (IntKind.u64.wrap (x4 + x5)) 4294967296))) / 4294967296))) < x3 then (hamperref05_First.l1 k x1 x3 (IntKind.u64.wrap (x4 + x5)) (IntKind.u64.wrap (Int.tdiv x5 2)) x12 x13 x14) else (if (IntKind.u64.wrap ((IntKind.u64.wrap (((IntKind.u64.wrap (x4 + x5)) / 4294967296) * ((IntKind.u64.wrap (x4 + x5)) / 4294967296))) + ((IntKind.u64.wrap ((IntKind.u64.wrap (2 * ((IntKind.u64.wrap (x4 + x5)) / 4294967296))) * (Int.tmod (IntKind.u64.wrap (x4 + x5)) 4294967296))) / 4294967296))) = x3 then (if (IntKind.u64.wrap ((IntKind.u64.wrap ((Int.tmod (IntKind.u64.wrap (x4 + x5)) 4294967296) * (Int.tmod (IntKind.u64.wrap (x4 + x5)) 4294967296))) + (IntKind.u64.wrap ((IntKind.u64.wrap ((IntKind.u64.wrap (2 * ((IntKind.u64.wrap (x4 + x5)) / 4294967296))) * (Int.tmod (IntKind.u64.wrap (x4 + x5)) 4294967296))) * 4294967296)))) = 0 then (hamperref05_First.l1 k x1 x3 (IntKind.u64.wrap (x4 + x5)) (IntKind.u64.wrap (Int.tdiv x5 2)) x12 x13 x14) else (hamperref05_First.l1 k x1 x3 x4 (IntKind.u64.wrap (Int.tdiv x5 2)) x12 x13 x14)) else (hamperref05_First.l1 k x1 x3 x4 (IntKind.u64.wrap (Int.tdiv x5 2)) x12 x13 x14)))) else (if x1.length < 35184372088832 then (hamperref05_First.l0 k (x1 ++ [(Int.tmod x4 4294967296) % 4294967296]) x12 x13 (wrap64 (x14 + 1))) else (none))
end
def hamperref05_First.f (k : Nat)  : Option (List Int) := (some (([2, 3, 5, 7, 11, 13, 17, 19] : List Int) : List Int)).bind fun y103 => (hamperref05_First.l0 k ([] : List Int) y103 (y103.length : Int) 0)
set_option maxHeartbeats 8000000 in
set_option maxRecDepth 100000 in
theorem hamperref05_First.calls (k : Nat)  (r : List Int) (w : World) (h : hamperref05_First.f k  = some r) :
    Calls Tryd.prog 47 #[] w fun e w' => ∃ v0_ : Value, e = .returned (v0_) ∧ Kd.R (Kd.int .u32) 71 w' w.heap.size (fun _ => True) v0_ r ∧ Below w.heap.size w w' := by
  have HB := Aside0.mk (Below.refl w.heap.size w)
  have H : ((some (([2, 3, 5, 7, 11, 13, 17, 19] : List Int) : List Int)).bind fun y103 => (hamperref05_First.l0 k ([] : List Int) y103 (y103.length : Int) 0)) = some r := h
  clear h
  obtain ⟨y103, hy103⟩ : ∃ y_ : List Int, y_ = (([2, 3, 5, 7, 11, 13, 17, 19] : List Int)) := ⟨_, rfl⟩
  replace H : (hamperref05_First.l0 k ([] : List Int) y103 (y103.length : Int) 0) = some r := by first | (rw [hy103]; with_reducible exact H) | (have H2_ := (Option.bind_some _ _).symm.trans H; rw [hy103]; with_reducible exact H2_) | (have H2_ := (Option.bind_some _ _).symm.trans H; with_reducible exact H2_) | with_reducible exact H | (rw [hy103]; exact H) | exact H
  have Ny103 := Aside0.mk hy103
  clear hy103
  have H' := Aside0.mk H
  clear H
  go_enter Tryd.func47, Tryd.ntmps47
  go_wp2_with (first | ((with_reducible refine gate_dst (N := 12) rfl ?_); refine Kd.R_lit (Kd.int .u64) _ 72 ?hg (N := 12) ?hd (xs := ([2, 3, 5, 7, 11, 13, 17, 19] : List Int)) (inner := [.int .u64 2, .int .u64 3, .int .u64 5, .int .u64 7, .int .u64 11, .int .u64 13, .int .u64 17, .int .u64 19]) (ok := fun _ => True) (okp := fun _ => True) ?hr ?hp (fun _ hk => hk) trivial (Below.refl _ _) (Nat.le_refl _) (by simp) ?_; (case hd => rfl); (case hg => rfl); (case hr => first | (go_simp; done) | (go_simp; rfl)); (case hp => exact (Reps.one (show Kd.M (Kd.int .u64) _ _ _ 2 [.int .u64 2] from rfl) (Reps.one (show Kd.M (Kd.int .u64) _ _ _ 3 [.int .u64 3] from rfl) (Reps.one (show Kd.M (Kd.int .u64) _ _ _ 5 [.int .u64 5] from rfl) (Reps.one (show Kd.M (Kd.int .u64) _ _ _ 7 [.int .u64 7] from rfl) (Reps.one (show Kd.M (Kd.int .u64) _ _ _ 11 [.int .u64 11] from rfl) (Reps.one (show Kd.M (Kd.int .u64) _ _ _ 13 [.int .u64 13] from rfl) (Reps.one (show Kd.M (Kd.int .u64) _ _ _ 17 [.int .u64 17] from rfl) (Reps.one (show Kd.M (Kd.int .u64) _ _ _ 19 [.int .u64 19] from rfl) (Reps.none _ _)))))))))); intro v104 w1 ho2 hb hg_ hnew_; clear hg_ hnew_; (first | rw [← Ny103.out] at ho2 | (simp only [Int.reduceToNat] at ho2; rw [← Ny103.out] at ho2)); have n0_ := Aside0.mk (Kd.R_lower ho2 (below_size (by repeat (first | (with_reducible first | exact HB.out | apply below_alloc | apply pw_below_drewN | apply below_drew1) | exact HB.out)))); have n1_ := Aside0.mk (below_step (by repeat (first | (with_reducible first | exact HB.out | apply below_alloc | apply pw_below_drewN | apply below_drew1) | exact HB.out)) hb); clear HB; have HO105 := n0_; have HB := n1_; clear n0_ n1_; clear hb ho2; obtain ⟨Ao3, co3, eo3⟩ := Kd.R_slice HO105.out; subst eo3))
  go_loopg [1, 14] k (fun kq v1 v14 w' => ∃ (x1_1 : List Int) (x14_1 : Int), v14 = .int .i64 x14_1 ∧ Aside0 (hamperref05_First.l0 kq x1_1 y103 (y103.length : Int) x14_1 = some r) ∧ Aside0 (kq ≤ k) ∧ Aside0 (Kd.R (Kd.int .u32) 71 w' w.heap.size (fun _ => True) v1 x1_1) ∧ Aside0 (Kd.R (Kd.int .u64) 72 w' w.heap.size (fun _ => True) (.slice Ao3 y103.length co3) y103) ∧ Aside0 (Below w.heap.size w w'))
  case atStart => exact ⟨(([] : List Int)), (0), (by first | rfl | (simp; done) | (simp [*]; done)), H', ⟨Nat.le_refl _⟩, ⟨by first | exact Kd.R_nil _ _ _ _ _ | exact Kd.N_nil _ _ _ _ _ | exact Kd.V_nil _ _ _ _ _ | exact Kd.Q_nil _ _ _ _ _ | exact Kd.S_nil _ _ _ _ _⟩, ⟨by (with_reducible repeat (first | apply Kd.R_alloc | apply Kd.R_drewN | apply Kd.R_drew)); exact HO105.out⟩, ⟨by repeat (first | (with_reducible first | exact HB.out | apply below_alloc | apply pw_below_drewN | apply below_drew1) | exact HB.out)⟩⟩
  case round =>
    clear H'
    try clear p2
    obtain ⟨x1_1, x14_1, rfl, HA, HK1, HO_1, HO_12, HB⟩ := hrel
    cases gk with
    | zero => exact absurd HA.out (by simp [hamperref05_First.l0])
    | succ k1 =>
      have H := HA.out
      clear HA
      simp only [hamperref05_First.l0] at H
      by_cases c4 : x14_1 < (y103.length : Int)
      · rw [if_pos c4] at H
        have c4b0 : decide (x14_1 < (y103.length : Int)) = true := decide_eq_true c4
        clear c4
        by_cases c5 : 0 ≤ x14_1
        · rw [if_pos c5] at H
          have c5b0 : decide (0 ≤ x14_1) = true := decide_eq_true c5
          clear c5
          by_cases c6 : x14_1 < (y103.length : Int)
          · rw [if_pos c6] at H
            have c6b0 : decide (x14_1 < (y103.length : Int)) = true := decide_eq_true c6
            clear c6
            have H' := Aside0.mk H
            clear H
            have p106 : 0 ≤ (x14_1 : Int) := of_decide_eq_true (by first | (with_reducible assumption) | assumption)
            have q106 : x14_1 < (y103.length : Int) := of_decide_eq_true (by first | (with_reducible assumption) | assumption)
            obtain ⟨ad106, e106, hx106_0⟩ := Kd.at_int (Kd.R_reads' HO_12.out).2.2 x14_1 p106 q106
            cases e106
            replace p106 := eq_true p106
            replace q106 := eq_true q106
            go_wp2
            go_loopg [4, 5] k1 (fun kq v4 v5 w' => ∃ (x4_2 : Int) (x5_2 : Int), v4 = .int .u64 x4_2 ∧ v5 = .int .u64 x5_2 ∧ Aside0 (hamperref05_First.l1 kq x1_1 (rd y103 x14_1) x4_2 x5_2 y103 (y103.length : Int) x14_1 = some r) ∧ Aside0 (kq ≤ k1) ∧ Aside0 (Kd.R (Kd.int .u32) 71 w' w.heap.size (fun _ => True) u1 x1_1) ∧ Aside0 (Kd.R (Kd.int .u64) 72 w' w.heap.size (fun _ => True) (.slice (some ad106) y103.length co3) y103) ∧ Aside0 (Below w.heap.size w w'))
            case atStart => exact ⟨(0), (34359738368), (by first | rfl | (simp; done) | (simp [*]; done)), (by first | rfl | (simp; done) | (simp [*]; done)), H', ⟨Nat.le_refl _⟩, ⟨by (with_reducible repeat (first | apply Kd.R_alloc | apply Kd.R_drewN | apply Kd.R_drew)); exact HO_1.out⟩, ⟨by (with_reducible repeat (first | apply Kd.R_alloc | apply Kd.R_drewN | apply Kd.R_drew)); exact HO_12.out⟩, ⟨by repeat (first | (with_reducible first | exact HB.out | apply below_alloc | apply pw_below_drewN | apply below_drew1) | exact HB.out)⟩⟩
            case round =>
              clear H'
              try clear p1
              try clear q1
              try clear hx1
              try clear p2
              try clear c4
              try clear c4b0
              try clear c5
              try clear c5b0
              try clear c6
              try clear c6b0
              try clear hx106_0
              try clear p106
              try clear p2
              try clear q106
              obtain ⟨x4_2, x5_2, rfl, rfl, HA, HK2, HO_1, HO_12, HB⟩ := hrel
              cases gk with
              | zero => exact absurd HA.out (by simp [hamperref05_First.l1])
              | succ k2 =>
                have H := HA.out
                clear HA
                simp only [hamperref05_First.l1] at H
                by_cases c7 : x5_2 > 0
                · rw [if_pos c7] at H
                  have c7b0 : decide (0 < x5_2) = true := decide_eq_true c7
                  clear c7
                  by_cases c8 : (IntKind.u64.wrap ((IntKind.u64.wrap ((Int.tmod (IntKind.u64.wrap (x4_2 + x5_2)) 4294967296) * (Int.tmod (IntKind.u64.wrap (x4_2 + x5_2)) 4294967296))) + (IntKind.u64.wrap ((IntKind.u64.wrap ((IntKind.u64.wrap (2 * ((IntKind.u64.wrap (x4_2 + x5_2)) / 4294967296))) * (Int.tmod (IntKind.u64.wrap (x4_2 + x5_2)) 4294967296))) * 4294967296)))) < (IntKind.u64.wrap ((Int.tmod (IntKind.u64.wrap (x4_2 + x5_2)) 4294967296) * (Int.tmod (IntKind.u64.wrap (x4_2 + x5_2)) 4294967296)))
                  · rw [if_pos c8] at H
                    have c8b0 : decide ((IntKind.u64.wrap ((IntKind.u64.wrap ((Int.tmod (IntKind.u64.wrap (x4_2 + x5_2)) 4294967296) * (Int.tmod (IntKind.u64.wrap (x4_2 + x5_2)) 4294967296))) + (IntKind.u64.wrap ((IntKind.u64.wrap ((IntKind.u64.wrap (2 * ((IntKind.u64.wrap (x4_2 + x5_2)) / 4294967296))) * (Int.tmod (IntKind.u64.wrap (x4_2 + x5_2)) 4294967296))) * 4294967296)))) < (IntKind.u64.wrap ((Int.tmod (IntKind.u64.wrap (x4_2 + x5_2)) 4294967296) * (Int.tmod (IntKind.u64.wrap (x4_2 + x5_2)) 4294967296)))) = true := decide_eq_true c8
                    clear c8
                    by_cases c9 : (IntKind.u64.wrap ((IntKind.u64.wrap ((IntKind.u64.wrap (((IntKind.u64.wrap (x4_2 + x5_2)) / 4294967296) * ((IntKind.u64.wrap (x4_2 + x5_2)) / 4294967296))) + ((IntKind.u64.wrap ((IntKind.u64.wrap (2 * ((IntKind.u64.wrap (x4_2 + x5_2)) / 4294967296))) * (Int.tmod (IntKind.u64.wrap (x4_2 + x5_2)) 4294967296))) / 4294967296))) + 1)) < (rd y103 x14_1)
                    · rw [if_pos c9] at H
                      have c9b0 : decide ((IntKind.u64.wrap ((IntKind.u64.wrap ((IntKind.u64.wrap (((IntKind.u64.wrap (x4_2 + x5_2)) / 4294967296) * ((IntKind.u64.wrap (x4_2 + x5_2)) / 4294967296))) + ((IntKind.u64.wrap ((IntKind.u64.wrap (2 * ((IntKind.u64.wrap (x4_2 + x5_2)) / 4294967296))) * (Int.tmod (IntKind.u64.wrap (x4_2 + x5_2)) 4294967296))) / 4294967296))) + 1)) < (rd y103 x14_1)) = true := decide_eq_true c9
                      clear c9
                      have H' := Aside0.mk H
                      clear H
                      go_wp2
                      go_roundg k2
                      case measure => have := HK1.out; have := HK2.out; omega
                      case rel => exact ⟨(IntKind.u64.wrap (x4_2 + x5_2)), (IntKind.u64.wrap (Int.tdiv x5_2 2)), (by first | rfl | (simp; done) | (simp [*]; done)), (by first | rfl | (simp; done) | (simp [*]; done)), H', ⟨by have := HK1.out; have := HK2.out; omega⟩, ⟨by (with_reducible repeat (first | apply Kd.R_alloc | apply Kd.R_drewN | apply Kd.R_drew)); exact HO_1.out⟩, ⟨by (with_reducible repeat (first | apply Kd.R_alloc | apply Kd.R_drewN | apply Kd.R_drew)); exact HO_12.out⟩, ⟨by repeat (first | (with_reducible first | exact HB.out | apply below_alloc | apply pw_below_drewN | apply below_drew1) | exact HB.out)⟩⟩
                    · rw [if_neg c9] at H
                      have c9b0 : decide ((IntKind.u64.wrap ((IntKind.u64.wrap ((IntKind.u64.wrap (((IntKind.u64.wrap (x4_2 + x5_2)) / 4294967296) * ((IntKind.u64.wrap (x4_2 + x5_2)) / 4294967296))) + ((IntKind.u64.wrap ((IntKind.u64.wrap (2 * ((IntKind.u64.wrap (x4_2 + x5_2)) / 4294967296))) * (Int.tmod (IntKind.u64.wrap (x4_2 + x5_2)) 4294967296))) / 4294967296))) + 1)) < (rd y103 x14_1)) = false := decide_eq_false c9
                      clear c9
                      by_cases c10 : (IntKind.u64.wrap ((IntKind.u64.wrap ((IntKind.u64.wrap (((IntKind.u64.wrap (x4_2 + x5_2)) / 4294967296) * ((IntKind.u64.wrap (x4_2 + x5_2)) / 4294967296))) + ((IntKind.u64.wrap ((IntKind.u64.wrap (2 * ((IntKind.u64.wrap (x4_2 + x5_2)) / 4294967296))) * (Int.tmod (IntKind.u64.wrap (x4_2 + x5_2)) 4294967296))) / 4294967296))) + 1)) = (rd y103 x14_1)
                      · rw [if_pos c10] at H
                        have c10b0 : ((IntKind.u64.wrap ((IntKind.u64.wrap ((IntKind.u64.wrap (((IntKind.u64.wrap (x4_2 + x5_2)) / 4294967296) * ((IntKind.u64.wrap (x4_2 + x5_2)) / 4294967296))) + ((IntKind.u64.wrap ((IntKind.u64.wrap (2 * ((IntKind.u64.wrap (x4_2 + x5_2)) / 4294967296))) * (Int.tmod (IntKind.u64.wrap (x4_2 + x5_2)) 4294967296))) / 4294967296))) + 1)) == (rd y103 x14_1)) = true := beq_iff_eq.mpr c10
                        have c10b1 : ((IntKind.u64.wrap ((IntKind.u64.wrap ((IntKind.u64.wrap (((IntKind.u64.wrap (x4_2 + x5_2)) / 4294967296) * ((IntKind.u64.wrap (x4_2 + x5_2)) / 4294967296))) + ((IntKind.u64.wrap ((IntKind.u64.wrap (2 * ((IntKind.u64.wrap (x4_2 + x5_2)) / 4294967296))) * (Int.tmod (IntKind.u64.wrap (x4_2 + x5_2)) 4294967296))) / 4294967296))) + 1)) != (rd y103 x14_1)) = false := bne_eq_false_iff_eq.mpr c10
                        clear c10
                        by_cases c11 : (IntKind.u64.wrap ((IntKind.u64.wrap ((Int.tmod (IntKind.u64.wrap (x4_2 + x5_2)) 4294967296) * (Int.tmod (IntKind.u64.wrap (x4_2 + x5_2)) 4294967296))) + (IntKind.u64.wrap ((IntKind.u64.wrap ((IntKind.u64.wrap (2 * ((IntKind.u64.wrap (x4_2 + x5_2)) / 4294967296))) * (Int.tmod (IntKind.u64.wrap (x4_2 + x5_2)) 4294967296))) * 4294967296)))) = 0
                        · rw [if_pos c11] at H
                          have c11b0 : ((IntKind.u64.wrap ((IntKind.u64.wrap ((Int.tmod (IntKind.u64.wrap (x4_2 + x5_2)) 4294967296) * (Int.tmod (IntKind.u64.wrap (x4_2 + x5_2)) 4294967296))) + (IntKind.u64.wrap ((IntKind.u64.wrap ((IntKind.u64.wrap (2 * ((IntKind.u64.wrap (x4_2 + x5_2)) / 4294967296))) * (Int.tmod (IntKind.u64.wrap (x4_2 + x5_2)) 4294967296))) * 4294967296)))) == 0) = true := beq_iff_eq.mpr c11
                          have c11b1 : ((IntKind.u64.wrap ((IntKind.u64.wrap ((Int.tmod (IntKind.u64.wrap (x4_2 + x5_2)) 4294967296) * (Int.tmod (IntKind.u64.wrap (x4_2 + x5_2)) 4294967296))) + (IntKind.u64.wrap ((IntKind.u64.wrap ((IntKind.u64.wrap (2 * ((IntKind.u64.wrap (x4_2 + x5_2)) / 4294967296))) * (Int.tmod (IntKind.u64.wrap (x4_2 + x5_2)) 4294967296))) * 4294967296)))) != 0) = false := bne_eq_false_iff_eq.mpr c11
                          clear c11
                          have H' := Aside0.mk H
                          clear H
                          go_wp2
                          go_roundg k2
                          case measure => have := HK1.out; have := HK2.out; omega
                          case rel => exact ⟨(IntKind.u64.wrap (x4_2 + x5_2)), (IntKind.u64.wrap (Int.tdiv x5_2 2)), (by first | rfl | (simp; done) | (simp [*]; done)), (by first | rfl | (simp; done) | (simp [*]; done)), H', ⟨by have := HK1.out; have := HK2.out; omega⟩, ⟨by (with_reducible repeat (first | apply Kd.R_alloc | apply Kd.R_drewN | apply Kd.R_drew)); exact HO_1.out⟩, ⟨by (with_reducible repeat (first | apply Kd.R_alloc | apply Kd.R_drewN | apply Kd.R_drew)); exact HO_12.out⟩, ⟨by repeat (first | (with_reducible first | exact HB.out | apply below_alloc | apply pw_below_drewN | apply below_drew1) | exact HB.out)⟩⟩
                        · rw [if_neg c11] at H
                          have c11b0 : ((IntKind.u64.wrap ((IntKind.u64.wrap ((Int.tmod (IntKind.u64.wrap (x4_2 + x5_2)) 4294967296) * (Int.tmod (IntKind.u64.wrap (x4_2 + x5_2)) 4294967296))) + (IntKind.u64.wrap ((IntKind.u64.wrap ((IntKind.u64.wrap (2 * ((IntKind.u64.wrap (x4_2 + x5_2)) / 4294967296))) * (Int.tmod (IntKind.u64.wrap (x4_2 + x5_2)) 4294967296))) * 4294967296)))) == 0) = false := beq_eq_false_iff_ne.mpr c11
                          have c11b1 : ((IntKind.u64.wrap ((IntKind.u64.wrap ((Int.tmod (IntKind.u64.wrap (x4_2 + x5_2)) 4294967296) * (Int.tmod (IntKind.u64.wrap (x4_2 + x5_2)) 4294967296))) + (IntKind.u64.wrap ((IntKind.u64.wrap ((IntKind.u64.wrap (2 * ((IntKind.u64.wrap (x4_2 + x5_2)) / 4294967296))) * (Int.tmod (IntKind.u64.wrap (x4_2 + x5_2)) 4294967296))) * 4294967296)))) != 0) = true := bne_iff_ne.mpr c11
                          have H' := Aside0.mk H
                          clear H
                          go_wp2
                          go_roundg k2
                          case measure => have := HK1.out; have := HK2.out; omega
                          case rel => exact ⟨(x4_2), (IntKind.u64.wrap (Int.tdiv x5_2 2)), (by first | rfl | (simp; done) | (simp [*]; done)), (by first | rfl | (simp; done) | (simp [*]; done)), H', ⟨by have := HK1.out; have := HK2.out; omega⟩, ⟨by (with_reducible repeat (first | apply Kd.R_alloc | apply Kd.R_drewN | apply Kd.R_drew)); exact HO_1.out⟩, ⟨by (with_reducible repeat (first | apply Kd.R_alloc | apply Kd.R_drewN | apply Kd.R_drew)); exact HO_12.out⟩, ⟨by repeat (first | (with_reducible first | exact HB.out | apply below_alloc | apply pw_below_drewN | apply below_drew1) | exact HB.out)⟩⟩
                      · rw [if_neg c10] at H
                        have c10b0 : ((IntKind.u64.wrap ((IntKind.u64.wrap ((IntKind.u64.wrap (((IntKind.u64.wrap (x4_2 + x5_2)) / 4294967296) * ((IntKind.u64.wrap (x4_2 + x5_2)) / 4294967296))) + ((IntKind.u64.wrap ((IntKind.u64.wrap (2 * ((IntKind.u64.wrap (x4_2 + x5_2)) / 4294967296))) * (Int.tmod (IntKind.u64.wrap (x4_2 + x5_2)) 4294967296))) / 4294967296))) + 1)) == (rd y103 x14_1)) = false := beq_eq_false_iff_ne.mpr c10
                        have c10b1 : ((IntKind.u64.wrap ((IntKind.u64.wrap ((IntKind.u64.wrap (((IntKind.u64.wrap (x4_2 + x5_2)) / 4294967296) * ((IntKind.u64.wrap (x4_2 + x5_2)) / 4294967296))) + ((IntKind.u64.wrap ((IntKind.u64.wrap (2 * ((IntKind.u64.wrap (x4_2 + x5_2)) / 4294967296))) * (Int.tmod (IntKind.u64.wrap (x4_2 + x5_2)) 4294967296))) / 4294967296))) + 1)) != (rd y103 x14_1)) = true := bne_iff_ne.mpr c10
                        have H' := Aside0.mk H
                        clear H
                        go_wp2
                        go_roundg k2
                        case measure => have := HK1.out; have := HK2.out; omega
                        case rel => exact ⟨(x4_2), (IntKind.u64.wrap (Int.tdiv x5_2 2)), (by first | rfl | (simp; done) | (simp [*]; done)), (by first | rfl | (simp; done) | (simp [*]; done)), H', ⟨by have := HK1.out; have := HK2.out; omega⟩, ⟨by (with_reducible repeat (first | apply Kd.R_alloc | apply Kd.R_drewN | apply Kd.R_drew)); exact HO_1.out⟩, ⟨by (with_reducible repeat (first | apply Kd.R_alloc | apply Kd.R_drewN | apply Kd.R_drew)); exact HO_12.out⟩, ⟨by repeat (first | (with_reducible first | exact HB.out | apply below_alloc | apply pw_below_drewN | apply below_drew1) | exact HB.out)⟩⟩
                  · rw [if_neg c8] at H
                    have c8b0 : decide ((IntKind.u64.wrap ((IntKind.u64.wrap ((Int.tmod (IntKind.u64.wrap (x4_2 + x5_2)) 4294967296) * (Int.tmod (IntKind.u64.wrap (x4_2 + x5_2)) 4294967296))) + (IntKind.u64.wrap ((IntKind.u64.wrap ((IntKind.u64.wrap (2 * ((IntKind.u64.wrap (x4_2 + x5_2)) / 4294967296))) * (Int.tmod (IntKind.u64.wrap (x4_2 + x5_2)) 4294967296))) * 4294967296)))) < (IntKind.u64.wrap ((Int.tmod (IntKind.u64.wrap (x4_2 + x5_2)) 4294967296) * (Int.tmod (IntKind.u64.wrap (x4_2 + x5_2)) 4294967296)))) = false := decide_eq_false c8
                    clear c8
                    by_cases c12 : (IntKind.u64.wrap ((IntKind.u64.wrap (((IntKind.u64.wrap (x4_2 + x5_2)) / 4294967296) * ((IntKind.u64.wrap (x4_2 + x5_2)) / 4294967296))) + ((IntKind.u64.wrap ((IntKind.u64.wrap (2 * ((IntKind.u64.wrap (x4_2 + x5_2)) / 4294967296))) * (Int.tmod (IntKind.u64.wrap (x4_2 + x5_2)) 4294967296))) / 4294967296))) < (rd y103 x14_1)
                    · rw [if_pos c12] at H
                      have c12b0 : decide ((IntKind.u64.wrap ((IntKind.u64.wrap (((IntKind.u64.wrap (x4_2 + x5_2)) / 4294967296) * ((IntKind.u64.wrap (x4_2 + x5_2)) / 4294967296))) + ((IntKind.u64.wrap ((IntKind.u64.wrap (2 * ((IntKind.u64.wrap (x4_2 + x5_2)) / 4294967296))) * (Int.tmod (IntKind.u64.wrap (x4_2 + x5_2)) 4294967296))) / 4294967296))) < (rd y103 x14_1)) = true := decide_eq_true c12
                      clear c12
                      have H' := Aside0.mk H
                      clear H
                      go_wp2
                      go_roundg k2
                      case measure => have := HK1.out; have := HK2.out; omega
                      case rel => exact ⟨(IntKind.u64.wrap (x4_2 + x5_2)), (IntKind.u64.wrap (Int.tdiv x5_2 2)), (by first | rfl | (simp; done) | (simp [*]; done)), (by first | rfl | (simp; done) | (simp [*]; done)), H', ⟨by have := HK1.out; have := HK2.out; omega⟩, ⟨by (with_reducible repeat (first | apply Kd.R_alloc | apply Kd.R_drewN | apply Kd.R_drew)); exact HO_1.out⟩, ⟨by (with_reducible repeat (first | apply Kd.R_alloc | apply Kd.R_drewN | apply Kd.R_drew)); exact HO_12.out⟩, ⟨by repeat (first | (with_reducible first | exact HB.out | apply below_alloc | apply pw_below_drewN | apply below_drew1) | exact HB.out)⟩⟩
                    · rw [if_neg c12] at H
                      have c12b0 : decide ((IntKind.u64.wrap ((IntKind.u64.wrap (((IntKind.u64.wrap (x4_2 + x5_2)) / 4294967296) * ((IntKind.u64.wrap (x4_2 + x5_2)) / 4294967296))) + ((IntKind.u64.wrap ((IntKind.u64.wrap (2 * ((IntKind.u64.wrap (x4_2 + x5_2)) / 4294967296))) * (Int.tmod (IntKind.u64.wrap (x4_2 + x5_2)) 4294967296))) / 4294967296))) < (rd y103 x14_1)) = false := decide_eq_false c12
                      clear c12
                      by_cases c13 : (IntKind.u64.wrap ((IntKind.u64.wrap (((IntKind.u64.wrap (x4_2 + x5_2)) / 4294967296) * ((IntKind.u64.wrap (x4_2 + x5_2)) / 4294967296))) + ((IntKind.u64.wrap ((IntKind.u64.wrap (2 * ((IntKind.u64.wrap (x4_2 + x5_2)) / 4294967296))) * (Int.tmod (IntKind.u64.wrap (x4_2 + x5_2)) 4294967296))) / 4294967296))) = (rd y103 x14_1)
                      · rw [if_pos c13] at H
                        have c13b0 : ((IntKind.u64.wrap ((IntKind.u64.wrap (((IntKind.u64.wrap (x4_2 + x5_2)) / 4294967296) * ((IntKind.u64.wrap (x4_2 + x5_2)) / 4294967296))) + ((IntKind.u64.wrap ((IntKind.u64.wrap (2 * ((IntKind.u64.wrap (x4_2 + x5_2)) / 4294967296))) * (Int.tmod (IntKind.u64.wrap (x4_2 + x5_2)) 4294967296))) / 4294967296))) == (rd y103 x14_1)) = true := beq_iff_eq.mpr c13
                        have c13b1 : ((IntKind.u64.wrap ((IntKind.u64.wrap (((IntKind.u64.wrap (x4_2 + x5_2)) / 4294967296) * ((IntKind.u64.wrap (x4_2 + x5_2)) / 4294967296))) + ((IntKind.u64.wrap ((IntKind.u64.wrap (2 * ((IntKind.u64.wrap (x4_2 + x5_2)) / 4294967296))) * (Int.tmod (IntKind.u64.wrap (x4_2 + x5_2)) 4294967296))) / 4294967296))) != (rd y103 x14_1)) = false := bne_eq_false_iff_eq.mpr c13
                        clear c13
                        by_cases c14 : (IntKind.u64.wrap ((IntKind.u64.wrap ((Int.tmod (IntKind.u64.wrap (x4_2 + x5_2)) 4294967296) * (Int.tmod (IntKind.u64.wrap (x4_2 + x5_2)) 4294967296))) + (IntKind.u64.wrap ((IntKind.u64.wrap ((IntKind.u64.wrap (2 * ((IntKind.u64.wrap (x4_2 + x5_2)) / 4294967296))) * (Int.tmod (IntKind.u64.wrap (x4_2 + x5_2)) 4294967296))) * 4294967296)))) = 0
                        · rw [if_pos c14] at H
                          have c14b0 : ((IntKind.u64.wrap ((IntKind.u64.wrap ((Int.tmod (IntKind.u64.wrap (x4_2 + x5_2)) 4294967296) * (Int.tmod (IntKind.u64.wrap (x4_2 + x5_2)) 4294967296))) + (IntKind.u64.wrap ((IntKind.u64.wrap ((IntKind.u64.wrap (2 * ((IntKind.u64.wrap (x4_2 + x5_2)) / 4294967296))) * (Int.tmod (IntKind.u64.wrap (x4_2 + x5_2)) 4294967296))) * 4294967296)))) == 0) = true := beq_iff_eq.mpr c14
                          have c14b1 : ((IntKind.u64.wrap ((IntKind.u64.wrap ((Int.tmod (IntKind.u64.wrap (x4_2 + x5_2)) 4294967296) * (Int.tmod (IntKind.u64.wrap (x4_2 + x5_2)) 4294967296))) + (IntKind.u64.wrap ((IntKind.u64.wrap ((IntKind.u64.wrap (2 * ((IntKind.u64.wrap (x4_2 + x5_2)) / 4294967296))) * (Int.tmod (IntKind.u64.wrap (x4_2 + x5_2)) 4294967296))) * 4294967296)))) != 0) = false := bne_eq_false_iff_eq.mpr c14
                          clear c14
                          have H' := Aside0.mk H
                          clear H
                          go_wp2
                          go_roundg k2
                          case measure => have := HK1.out; have := HK2.out; omega
                          case rel => exact ⟨(IntKind.u64.wrap (x4_2 + x5_2)), (IntKind.u64.wrap (Int.tdiv x5_2 2)), (by first | rfl | (simp; done) | (simp [*]; done)), (by first | rfl | (simp; done) | (simp [*]; done)), H', ⟨by have := HK1.out; have := HK2.out; omega⟩, ⟨by (with_reducible repeat (first | apply Kd.R_alloc | apply Kd.R_drewN | apply Kd.R_drew)); exact HO_1.out⟩, ⟨by (with_reducible repeat (first | apply Kd.R_alloc | apply Kd.R_drewN | apply Kd.R_drew)); exact HO_12.out⟩, ⟨by repeat (first | (with_reducible first | exact HB.out | apply below_alloc | apply pw_below_drewN | apply below_drew1) | exact HB.out)⟩⟩
                        · rw [if_neg c14] at H
                          have c14b0 : ((IntKind.u64.wrap ((IntKind.u64.wrap ((Int.tmod (IntKind.u64.wrap (x4_2 + x5_2)) 4294967296) * (Int.tmod (IntKind.u64.wrap (x4_2 + x5_2)) 4294967296))) + (IntKind.u64.wrap ((IntKind.u64.wrap ((IntKind.u64.wrap (2 * ((IntKind.u64.wrap (x4_2 + x5_2)) / 4294967296))) * (Int.tmod (IntKind.u64.wrap (x4_2 + x5_2)) 4294967296))) * 4294967296)))) == 0) = false := beq_eq_false_iff_ne.mpr c14
                          have c14b1 : ((IntKind.u64.wrap ((IntKind.u64.wrap ((Int.tmod (IntKind.u64.wrap (x4_2 + x5_2)) 4294967296) * (Int.tmod (IntKind.u64.wrap (x4_2 + x5_2)) 4294967296))) + (IntKind.u64.wrap ((IntKind.u64.wrap ((IntKind.u64.wrap (2 * ((IntKind.u64.wrap (x4_2 + x5_2)) / 4294967296))) * (Int.tmod (IntKind.u64.wrap (x4_2 + x5_2)) 4294967296))) * 4294967296)))) != 0) = true := bne_iff_ne.mpr c14
                          have H' := Aside0.mk H
                          clear H
                          go_wp2
                          go_roundg k2
                          case measure => have := HK1.out; have := HK2.out; omega
                          case rel => exact ⟨(x4_2), (IntKind.u64.wrap (Int.tdiv x5_2 2)), (by first | rfl | (simp; done) | (simp [*]; done)), (by first | rfl | (simp; done) | (simp [*]; done)), H', ⟨by have := HK1.out; have := HK2.out; omega⟩, ⟨by (with_reducible repeat (first | apply Kd.R_alloc | apply Kd.R_drewN | apply Kd.R_drew)); exact HO_1.out⟩, ⟨by (with_reducible repeat (first | apply Kd.R_alloc | apply Kd.R_drewN | apply Kd.R_drew)); exact HO_12.out⟩, ⟨by repeat (first | (with_reducible first | exact HB.out | apply below_alloc | apply pw_below_drewN | apply below_drew1) | exact HB.out)⟩⟩
                      · rw [if_neg c13] at H
                        have c13b0 : ((IntKind.u64.wrap ((IntKind.u64.wrap (((IntKind.u64.wrap (x4_2 + x5_2)) / 4294967296) * ((IntKind.u64.wrap (x4_2 + x5_2)) / 4294967296))) + ((IntKind.u64.wrap ((IntKind.u64.wrap (2 * ((IntKind.u64.wrap (x4_2 + x5_2)) / 4294967296))) * (Int.tmod (IntKind.u64.wrap (x4_2 + x5_2)) 4294967296))) / 4294967296))) == (rd y103 x14_1)) = false := beq_eq_false_iff_ne.mpr c13
                        have c13b1 : ((IntKind.u64.wrap ((IntKind.u64.wrap (((IntKind.u64.wrap (x4_2 + x5_2)) / 4294967296) * ((IntKind.u64.wrap (x4_2 + x5_2)) / 4294967296))) + ((IntKind.u64.wrap ((IntKind.u64.wrap (2 * ((IntKind.u64.wrap (x4_2 + x5_2)) / 4294967296))) * (Int.tmod (IntKind.u64.wrap (x4_2 + x5_2)) 4294967296))) / 4294967296))) != (rd y103 x14_1)) = true := bne_iff_ne.mpr c13
                        have H' := Aside0.mk H
                        clear H
                        go_wp2
                        go_roundg k2
                        case measure => have := HK1.out; have := HK2.out; omega
                        case rel => exact ⟨(x4_2), (IntKind.u64.wrap (Int.tdiv x5_2 2)), (by first | rfl | (simp; done) | (simp [*]; done)), (by first | rfl | (simp; done) | (simp [*]; done)), H', ⟨by have := HK1.out; have := HK2.out; omega⟩, ⟨by (with_reducible repeat (first | apply Kd.R_alloc | apply Kd.R_drewN | apply Kd.R_drew)); exact HO_1.out⟩, ⟨by (with_reducible repeat (first | apply Kd.R_alloc | apply Kd.R_drewN | apply Kd.R_drew)); exact HO_12.out⟩, ⟨by repeat (first | (with_reducible first | exact HB.out | apply below_alloc | apply pw_below_drewN | apply below_drew1) | exact HB.out)⟩⟩
                · rw [if_neg c7] at H
                  have c7b0 : decide (0 < x5_2) = false := decide_eq_false c7
                  clear c7
                  by_cases c15 : x1_1.length < 35184372088832
                  · rw [if_pos c15] at H
                    have LMc15 := Aside0.mk c15
                    clear c15
                    obtain ⟨y107, hy107⟩ : ∃ y_ : List Int, y_ = (x1_1 ++ [(Int.tmod x4_2 4294967296) % 4294967296]) := ⟨_, rfl⟩
                    replace H : (hamperref05_First.l0 k2 y107 y103 (y103.length : Int) (wrap64 (x14_1 + 1))) = some r := by first | (rw [hy107]; with_reducible exact H) | (have H2_ := (Option.bind_some _ _).symm.trans H; rw [hy107]; with_reducible exact H2_) | (have H2_ := (Option.bind_some _ _).symm.trans H; with_reducible exact H2_) | with_reducible exact H | (rw [hy107]; exact H) | exact H
                    have Ny107 := Aside0.mk hy107
                    clear hy107
                    have H' := Aside0.mk H
                    clear H
                    go_wp2_with (first | ((with_reducible refine gate_builtin (b := .append) (xs := #[.tmp 65, .tmp 69]) rfl ?_); at_builtin; refine Kd.R_append (Kd.int .u32) (w0 := w) w.heap.size rfl (.tmp 65) (.tmp 69) 69 71 (.int .u32 0) 4 rfl Tryd.underlying69 info71 rfl (by decide) (by omega) u1 x1_1 ((Int.tmod x4_2 4294967296) % 4294967296) [.int .u32 ((Int.tmod x4_2 4294967296) % 4294967296)] (fun _ => True) (fun _ => False) rfl rfl ?aP (fun _ hk => hk.elim) ?aF ?aO ?aB ?aS ?aL ?_; (case aP => exact rfl); (case aB => exact (by repeat (first | (with_reducible first | exact HB.out | apply below_alloc | apply pw_below_drewN | apply below_drew1) | exact HB.out))); (case aF => exact (fun _ _ => trivial)); (case aO => exact (by (with_reducible repeat (first | apply Kd.R_alloc | apply Kd.R_drewN | apply Kd.R_drew)); exact HO_1.out)); (case aS => exact (below_size (by repeat (first | (with_reducible first | exact HB.out | apply below_alloc | apply pw_below_drewN | apply below_drew1) | exact HB.out)))); (case aL => have := LMc15.out; omega); intro v108 w16 ho hb hg hat; rw [← Ny107.out] at ho; have n0_ := Aside0.mk (Kd.R_over' (by (with_reducible repeat (first | apply Kd.R_alloc | apply Kd.R_drewN | apply Kd.R_drew)); exact HO_12.out) (Kd.R_typed (by (with_reducible repeat (first | apply Kd.R_alloc | apply Kd.R_drewN | apply Kd.R_drew)); exact HO_1.out)) (by decide) hg); have n1_ := Aside0.mk (hb); have n2_ := Aside0.mk (ho); clear HO_12; clear HB; clear HO_1; have HO_12 := n0_; have HB := n1_; have HO109 := n2_; clear n0_ n1_ n2_; clear ho hb hg hat))
                    go_roundg k2
                    case measure => have := HK1.out; have := HK2.out; omega
                    case rel => exact ⟨(y107), (wrap64 (x14_1 + 1)), (by first | rfl | (simp; done) | (simp [*]; done)), H', ⟨by have := HK1.out; have := HK2.out; omega⟩, ⟨by (with_reducible repeat (first | apply Kd.R_alloc | apply Kd.R_drewN | apply Kd.R_drew)); exact HO109.out⟩, ⟨by (with_reducible repeat (first | apply Kd.R_alloc | apply Kd.R_drewN | apply Kd.R_drew)); exact HO_12.out⟩, ⟨by repeat (first | (with_reducible first | exact HB.out | apply below_alloc | apply pw_below_drewN | apply below_drew1) | exact HB.out)⟩⟩
                  · rw [if_neg c15] at H
                    exact absurd H (by simp)
          · rw [if_neg c6] at H
            exact absurd H (by simp)
        · rw [if_neg c5] at H
          exact absurd H (by simp)
      · rw [if_neg c4] at H
        have c4b0 : decide (x14_1 < (y103.length : Int)) = false := decide_eq_false c4
        clear c4
        obtain rfl := Option.some.inj H
        go_wp2
        go_ret
        exact ⟨_, by first | rfl | (simp [errW_none, errW_some] <;> rfl) | (simp [*, errW_none, errW_some] <;> rfl), by (with_reducible repeat (first | apply Kd.R_alloc | apply Kd.R_drewN | apply Kd.R_drew)); exact HO_1.out, by repeat (first | (with_reducible first | exact HB.out | apply below_alloc | apply pw_below_drewN | apply below_drew1) | exact HB.out)⟩

end Go.Proofs.YtbeibmdccjgcmaaDoor.PRef
namespace Go.Proofs.YtbeibmdccjgcmaaDoor.PRef
open Go.RowKit Go.Proofs.YtbeibmdccjgcmaaDoorW.PrintWords Go.Proofs.YtbeibmdccjgcmaaDoorW.PrintLast Go.Proofs.YtbeibmdccjgcmaaDoorW.PrintMore
attribute [local go_sem] max2_int min2_int max_two min_two max_three min_three max_four min_four   -- for this text's walks alone
set_option linter.unusedVariables false
set_option linter.unusedSimpArgs false

/-! ### hamperref05_places: function 48 -/
def hamperref05_places.f  : Option (List ByteArray) := some (([(⟨#[48, 49, 50, 51, 52, 53, 54, 55, 56, 57, 97, 98, 99, 100, 101, 102]⟩ : ByteArray), (⟨#[101, 97, 52, 56, 57, 102, 100, 54, 49, 99, 48, 50, 98, 55, 53, 51]⟩ : ByteArray), (⟨#[98, 56, 99, 48, 53, 50, 102, 100, 97, 101, 51, 54, 55, 49, 57, 52]⟩ : ByteArray), (⟨#[55, 57, 51, 49, 100, 99, 98, 101, 50, 54, 53, 97, 52, 48, 102, 56]⟩ : ByteArray), (⟨#[57, 48, 53, 55, 50, 52, 97, 102, 101, 49, 98, 99, 54, 56, 51, 100]⟩ : ByteArray), (⟨#[50, 99, 54, 97, 48, 98, 56, 51, 52, 100, 55, 53, 102, 101, 49, 57]⟩ : ByteArray), (⟨#[99, 53, 49, 102, 101, 100, 52, 97, 48, 55, 54, 51, 57, 50, 56, 98]⟩ : ByteArray), (⟨#[100, 98, 55, 101, 99, 49, 51, 57, 53, 48, 102, 52, 56, 54, 50, 97]⟩ : ByteArray), (⟨#[54, 102, 101, 57, 98, 51, 48, 56, 99, 50, 100, 55, 49, 52, 97, 53]⟩ : ByteArray), (⟨#[97, 50, 56, 52, 55, 54, 49, 53, 102, 98, 57, 101, 51, 99, 100, 48]⟩ : ByteArray)] : List ByteArray))
set_option maxHeartbeats 8000000 in
set_option maxRecDepth 100000 in
theorem hamperref05_places.calls  (r : List ByteArray) (w : World) (h : hamperref05_places.f  = some r) :
    Calls Tryd.prog 48 #[] w fun e w' => ∃ v0_ : Value, e = .returned (v0_) ∧ Kd.R Kd.string 9 w' w.heap.size (fun _ => True) v0_ r ∧ Below w.heap.size w w' := by
  have HB := Aside0.mk (Below.refl w.heap.size w)
  have H : (some (([(⟨#[48, 49, 50, 51, 52, 53, 54, 55, 56, 57, 97, 98, 99, 100, 101, 102]⟩ : ByteArray), (⟨#[101, 97, 52, 56, 57, 102, 100, 54, 49, 99, 48, 50, 98, 55, 53, 51]⟩ : ByteArray), (⟨#[98, 56, 99, 48, 53, 50, 102, 100, 97, 101, 51, 54, 55, 49, 57, 52]⟩ : ByteArray), (⟨#[55, 57, 51, 49, 100, 99, 98, 101, 50, 54, 53, 97, 52, 48, 102, 56]⟩ : ByteArray), (⟨#[57, 48, 53, 55, 50, 52, 97, 102, 101, 49, 98, 99, 54, 56, 51, 100]⟩ : ByteArray), (⟨#[50, 99, 54, 97, 48, 98, 56, 51, 52, 100, 55, 53, 102, 101, 49, 57]⟩ : ByteArray), (⟨#[99, 53, 49, 102, 101, 100, 52, 97, 48, 55, 54, 51, 57, 50, 56, 98]⟩ : ByteArray), (⟨#[100, 98, 55, 101, 99, 49, 51, 57, 53, 48, 102, 52, 56, 54, 50, 97]⟩ : ByteArray), (⟨#[54, 102, 101, 57, 98, 51, 48, 56, 99, 50, 100, 55, 49, 52, 97, 53]⟩ : ByteArray), (⟨#[97, 50, 56, 52, 55, 54, 49, 53, 102, 98, 57, 101, 51, 99, 100, 48]⟩ : ByteArray)] : List ByteArray))) = some r := h
  clear h
  obtain ⟨y110, hy110⟩ : ∃ y_ : List ByteArray, y_ = (([(⟨#[48, 49, 50, 51, 52, 53, 54, 55, 56, 57, 97, 98, 99, 100, 101, 102]⟩ : ByteArray), (⟨#[101, 97, 52, 56, 57, 102, 100, 54, 49, 99, 48, 50, 98, 55, 53, 51]⟩ : ByteArray), (⟨#[98, 56, 99, 48, 53, 50, 102, 100, 97, 101, 51, 54, 55, 49, 57, 52]⟩ : ByteArray), (⟨#[55, 57, 51, 49, 100, 99, 98, 101, 50, 54, 53, 97, 52, 48, 102, 56]⟩ : ByteArray), (⟨#[57, 48, 53, 55, 50, 52, 97, 102, 101, 49, 98, 99, 54, 56, 51, 100]⟩ : ByteArray), (⟨#[50, 99, 54, 97, 48, 98, 56, 51, 52, 100, 55, 53, 102, 101, 49, 57]⟩ : ByteArray), (⟨#[99, 53, 49, 102, 101, 100, 52, 97, 48, 55, 54, 51, 57, 50, 56, 98]⟩ : ByteArray), (⟨#[100, 98, 55, 101, 99, 49, 51, 57, 53, 48, 102, 52, 56, 54, 50, 97]⟩ : ByteArray), (⟨#[54, 102, 101, 57, 98, 51, 48, 56, 99, 50, 100, 55, 49, 52, 97, 53]⟩ : ByteArray), (⟨#[97, 50, 56, 52, 55, 54, 49, 53, 102, 98, 57, 101, 51, 99, 100, 48]⟩ : ByteArray)] : List ByteArray)) := ⟨_, rfl⟩
  replace H : (some y110) = some r := by first | (rw [hy110]; with_reducible exact H) | (have H2_ := (Option.bind_some _ _).symm.trans H; rw [hy110]; with_reducible exact H2_) | (have H2_ := (Option.bind_some _ _).symm.trans H; with_reducible exact H2_) | with_reducible exact H | (rw [hy110]; exact H) | exact H
  have Ny110 := Aside0.mk hy110
  clear hy110
  obtain rfl := Option.some.inj H
  go_enter Tryd.func48, Tryd.ntmps48
  go_wp2_with (first | ((with_reducible refine gate_dst (N := 1) rfl ?_); refine Kd.R_lit Kd.string _ 9 ?hg (N := 1) ?hd (xs := ([(⟨#[48, 49, 50, 51, 52, 53, 54, 55, 56, 57, 97, 98, 99, 100, 101, 102]⟩ : ByteArray), (⟨#[101, 97, 52, 56, 57, 102, 100, 54, 49, 99, 48, 50, 98, 55, 53, 51]⟩ : ByteArray), (⟨#[98, 56, 99, 48, 53, 50, 102, 100, 97, 101, 51, 54, 55, 49, 57, 52]⟩ : ByteArray), (⟨#[55, 57, 51, 49, 100, 99, 98, 101, 50, 54, 53, 97, 52, 48, 102, 56]⟩ : ByteArray), (⟨#[57, 48, 53, 55, 50, 52, 97, 102, 101, 49, 98, 99, 54, 56, 51, 100]⟩ : ByteArray), (⟨#[50, 99, 54, 97, 48, 98, 56, 51, 52, 100, 55, 53, 102, 101, 49, 57]⟩ : ByteArray), (⟨#[99, 53, 49, 102, 101, 100, 52, 97, 48, 55, 54, 51, 57, 50, 56, 98]⟩ : ByteArray), (⟨#[100, 98, 55, 101, 99, 49, 51, 57, 53, 48, 102, 52, 56, 54, 50, 97]⟩ : ByteArray), (⟨#[54, 102, 101, 57, 98, 51, 48, 56, 99, 50, 100, 55, 49, 52, 97, 53]⟩ : ByteArray), (⟨#[97, 50, 56, 52, 55, 54, 49, 53, 102, 98, 57, 101, 51, 99, 100, 48]⟩ : ByteArray)] : List ByteArray)) (inner := [.string (⟨#[48, 49, 50, 51, 52, 53, 54, 55, 56, 57, 97, 98, 99, 100, 101, 102]⟩ : ByteArray), .string (⟨#[101, 97, 52, 56, 57, 102, 100, 54, 49, 99, 48, 50, 98, 55, 53, 51]⟩ : ByteArray), .string (⟨#[98, 56, 99, 48, 53, 50, 102, 100, 97, 101, 51, 54, 55, 49, 57, 52]⟩ : ByteArray), .string (⟨#[55, 57, 51, 49, 100, 99, 98, 101, 50, 54, 53, 97, 52, 48, 102, 56]⟩ : ByteArray), .string (⟨#[57, 48, 53, 55, 50, 52, 97, 102, 101, 49, 98, 99, 54, 56, 51, 100]⟩ : ByteArray), .string (⟨#[50, 99, 54, 97, 48, 98, 56, 51, 52, 100, 55, 53, 102, 101, 49, 57]⟩ : ByteArray), .string (⟨#[99, 53, 49, 102, 101, 100, 52, 97, 48, 55, 54, 51, 57, 50, 56, 98]⟩ : ByteArray), .string (⟨#[100, 98, 55, 101, 99, 49, 51, 57, 53, 48, 102, 52, 56, 54, 50, 97]⟩ : ByteArray), .string (⟨#[54, 102, 101, 57, 98, 51, 48, 56, 99, 50, 100, 55, 49, 52, 97, 53]⟩ : ByteArray), .string (⟨#[97, 50, 56, 52, 55, 54, 49, 53, 102, 98, 57, 101, 51, 99, 100, 48]⟩ : ByteArray)]) (ok := fun _ => True) (okp := fun _ => True) ?hr ?hp (fun _ hk => hk) trivial (Below.refl _ _) (Nat.le_refl _) (by simp) ?_; (case hd => rfl); (case hg => rfl); (case hr => first | (go_simp; done) | (go_simp; rfl)); (case hp => exact (Reps.one (show Kd.M Kd.string _ _ _ (⟨#[48, 49, 50, 51, 52, 53, 54, 55, 56, 57, 97, 98, 99, 100, 101, 102]⟩ : ByteArray) [.string (⟨#[48, 49, 50, 51, 52, 53, 54, 55, 56, 57, 97, 98, 99, 100, 101, 102]⟩ : ByteArray)] from rfl) (Reps.one (show Kd.M Kd.string _ _ _ (⟨#[101, 97, 52, 56, 57, 102, 100, 54, 49, 99, 48, 50, 98, 55, 53, 51]⟩ : ByteArray) [.string (⟨#[101, 97, 52, 56, 57, 102, 100, 54, 49, 99, 48, 50, 98, 55, 53, 51]⟩ : ByteArray)] from rfl) (Reps.one (show Kd.M Kd.string _ _ _ (⟨#[98, 56, 99, 48, 53, 50, 102, 100, 97, 101, 51, 54, 55, 49, 57, 52]⟩ : ByteArray) [.string (⟨#[98, 56, 99, 48, 53, 50, 102, 100, 97, 101, 51, 54, 55, 49, 57, 52]⟩ : ByteArray)] from rfl) (Reps.one (show Kd.M Kd.string _ _ _ (⟨#[55, 57, 51, 49, 100, 99, 98, 101, 50, 54, 53, 97, 52, 48, 102, 56]⟩ : ByteArray) [.string (⟨#[55, 57, 51, 49, 100, 99, 98, 101, 50, 54, 53, 97, 52, 48, 102, 56]⟩ : ByteArray)] from rfl) (Reps.one (show Kd.M Kd.string _ _ _ (⟨#[57, 48, 53, 55, 50, 52, 97, 102, 101, 49, 98, 99, 54, 56, 51, 100]⟩ : ByteArray) [.string (⟨#[57, 48, 53, 55, 50, 52, 97, 102, 101, 49, 98, 99, 54, 56, 51, 100]⟩ : ByteArray)] from rfl) (Reps.one (show Kd.M Kd.string _ _ _ (⟨#[50, 99, 54, 97, 48, 98, 56, 51, 52, 100, 55, 53, 102, 101, 49, 57]⟩ : ByteArray) [.string (⟨#[50, 99, 54, 97, 48, 98, 56, 51, 52, 100, 55, 53, 102, 101, 49, 57]⟩ : ByteArray)] from rfl) (Reps.one (show Kd.M Kd.string _ _ _ (⟨#[99, 53, 49, 102, 101, 100, 52, 97, 48, 55, 54, 51, 57, 50, 56, 98]⟩ : ByteArray) [.string (⟨#[99, 53, 49, 102, 101, 100, 52, 97, 48, 55, 54, 51, 57, 50, 56, 98]⟩ : ByteArray)] from rfl) (Reps.one (show Kd.M Kd.string _ _ _ (⟨#[100, 98, 55, 101, 99, 49, 51, 57, 53, 48, 102, 52, 56, 54, 50, 97]⟩ : ByteArray) [.string (⟨#[100, 98, 55, 101, 99, 49, 51, 57, 53, 48, 102, 52, 56, 54, 50, 97]⟩ : ByteArray)] from rfl) (Reps.one (show Kd.M Kd.string _ _ _ (⟨#[54, 102, 101, 57, 98, 51, 48, 56, 99, 50, 100, 55, 49, 52, 97, 53]⟩ : ByteArray) [.string (⟨#[54, 102, 101, 57, 98, 51, 48, 56, 99, 50, 100, 55, 49, 52, 97, 53]⟩ : ByteArray)] from rfl) (Reps.one (show Kd.M Kd.string _ _ _ (⟨#[97, 50, 56, 52, 55, 54, 49, 53, 102, 98, 57, 101, 51, 99, 100, 48]⟩ : ByteArray) [.string (⟨#[97, 50, 56, 52, 55, 54, 49, 53, 102, 98, 57, 101, 51, 99, 100, 48]⟩ : ByteArray)] from rfl) (Reps.none _ _)))))))))))); intro v111 w1 ho2 hb hg_ hnew_; clear hg_ hnew_; (first | rw [← Ny110.out] at ho2 | (simp only [Int.reduceToNat] at ho2; rw [← Ny110.out] at ho2)); have n0_ := Aside0.mk (Kd.R_lower ho2 (below_size (by repeat (first | (with_reducible first | exact HB.out | apply below_alloc | apply pw_below_drewN | apply below_drew1) | exact HB.out)))); have n1_ := Aside0.mk (below_step (by repeat (first | (with_reducible first | exact HB.out | apply below_alloc | apply pw_below_drewN | apply below_drew1) | exact HB.out)) hb); clear HB; have HO112 := n0_; have HB := n1_; clear n0_ n1_; clear hb ho2))
  go_ret
  exact ⟨_, by first | rfl | (simp [errW_none, errW_some] <;> rfl) | (simp [*, errW_none, errW_some] <;> rfl), by (with_reducible repeat (first | apply Kd.R_alloc | apply Kd.R_drewN | apply Kd.R_drew)); exact HO112.out, by repeat (first | (with_reducible first | exact HB.out | apply below_alloc | apply pw_below_drewN | apply below_drew1) | exact HB.out)⟩

end Go.Proofs.YtbeibmdccjgcmaaDoor.PRef
namespace Go.Proofs.YtbeibmdccjgcmaaDoor.PRef
open Go.RowKit Go.Proofs.YtbeibmdccjgcmaaDoorW.PrintWords Go.Proofs.YtbeibmdccjgcmaaDoorW.PrintLast Go.Proofs.YtbeibmdccjgcmaaDoorW.PrintMore
attribute [local go_sem] max2_int min2_int max_two min_two max_three min_three max_four min_four   -- for this text's walks alone
set_option linter.unusedVariables false
set_option linter.unusedSimpArgs false

/-! ### hamperref05_turn: function 63 -/
def hamperref05_turn.f (a0 : Int) (a1 : Int) : Option (Int) := if 0 ≤ a1 then (some (Go.bits .or .u32 (shr .u32 a0 a1) (shl .u32 a0 ((32 - a1) % 4294967296)))) else (none)
set_option maxHeartbeats 8000000 in
set_option maxRecDepth 100000 in
theorem hamperref05_turn.calls (a0 : Int) (a1 : Int) (r : Int) (w : World) (h : hamperref05_turn.f a0 a1 = some r) :
    Calls Tryd.prog 63 #[.int .u32 a0, .int .u32 a1] w fun e w' => e = .returned (.int .u32 r) ∧ Drawn0 w w' := by
  have H : (if 0 ≤ a1 then (some (Go.bits .or .u32 (shr .u32 a0 a1) (shl .u32 a0 ((32 - a1) % 4294967296)))) else (none)) = some r := h
  clear h
  by_cases c3 : 0 ≤ a1
  · rw [if_pos c3] at H
    have c3b0 := eq_true c3
    have c3b1 : decide (0 ≤ a1) = true := decide_eq_true c3
    clear c3
    obtain ⟨ji4, hji4⟩ : ∃ j_ : Int, (shr .u32 a0 a1) = j_ := ⟨_, rfl⟩
    replace H : (some (Go.bits .or .u32 (ji4) (shl .u32 a0 ((32 - a1) % 4294967296)))) = some r := by first | (rw [hji4] at H; exact H) | (simp only [hji4] at H ⊢; exact H)
    have hji4_ : (a0 / 2 ^ min a1.toNat 32) = ji4 := hji4
    have hji4z : a1 ≤ 32 → (a0 / 2 ^ a1.toNat) = ji4 := shr_small hji4
    obtain ⟨ji5, hji5⟩ : ∃ j_ : Int, (shl .u32 a0 ((32 - a1) % 4294967296)) = j_ := ⟨_, rfl⟩
    replace H : (some (Go.bits .or .u32 (ji4) (ji5))) = some r := by first | (rw [hji5] at H; exact H) | (simp only [hji5] at H ⊢; exact H)
    have hji5_ : (IntKind.u32.wrap (a0 * 2 ^ min ((32 - a1) % 4294967296).toNat 32)) = ji5 := hji5
    have hji5z : ((32 - a1) % 4294967296) ≤ 32 → (IntKind.u32.wrap (a0 * 2 ^ ((32 - a1) % 4294967296).toNat)) = ji5 := shl_small hji5
    obtain rfl := Option.some.inj H
    have hz : 0 ≤ (32 - a1) % 4294967296 := Int.emod_nonneg _ (by decide)
    have hz2 : ((32 - a1) % 4294967296 < 0) = False := eq_false (by omega)
    have hz3 : decide (0 ≤ (32 - a1) % 4294967296) = true := decide_eq_true hz
    go_enter Tryd.func63, Tryd.ntmps63
    go_wp2
    go_ret
    exact ⟨by first | rfl | (simp; done) | (simp only [← hji4, ← hji5] <;> (first | rfl | simp)) | (simp [*]; done), by repeat (first | exact Drawn0.refl _ | apply Drawn0.step)⟩
  · rw [if_neg c3] at H
    exact absurd H (by simp)

end Go.Proofs.YtbeibmdccjgcmaaDoor.PRef
