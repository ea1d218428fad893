
import Derived.Test.YtbeibmdccjgcmaaDoorProg
import Derived.Below
import Derived.Deep.Draws
import Derived.Deep.AppendLies
import Derived.Maps.AppendAt
import Derived.OwnWalk
import Derived.Laws.BytesArg
import Derived.Laws.MakeOwn
import Derived.Laws.OwnMore
import Derived.Deep.OwnRows
import Derived.Tactics
import Derived.Lib.ConvBytes
import Derived.Laws.Slices
import Derived.WalkKit
import Derived.KernelRfl
import Derived.RowKit3
import Derived.Deep.LoopGhost
import Derived.Deep.QuietTactic
import Derived.BigQuiet
import Derived.WideLaws
import Derived.Deep.DeepCutAuto
import Derived.Deep.CutBlock
import Derived.Deep.RegionHeld3
import Derived.Laws.Rows
import Derived.Lib.AppendStr
import Derived.ArgAppend
import Derived.Laws.IdiomCopy
import Derived.OrdersHeld
import Derived.Laws.BitsLemmas
import Derived.RowKit
import Derived.Test.YtbeibmdccjgcmaaDoorWWords
import Derived.Test.YtbeibmdccjgcmaaDoorWLast
import Derived.Test.YtbeibmdccjgcmaaDoorWTab
import Derived.Test.YtbeibmdccjgcmaaDoorWFour
import Derived.Test.YtbeibmdccjgcmaaDoorWQPut
import Derived.Test.YtbeibmdccjgcmaaDoorWApart
import Derived.Test.YtbeibmdccjgcmaaDoorWArr
import Derived.Test.YtbeibmdccjgcmaaDoorWZeros
import Derived.Test.YtbeibmdccjgcmaaDoorWFoot
import Derived.Test.YtbeibmdccjgcmaaDoorWKept
import Derived.Test.YtbeibmdccjgcmaaDoorWShare
import Derived.Test.YtbeibmdccjgcmaaDoorWN
import Derived.Test.YtbeibmdccjgcmaaDoorWFootNe
import Derived.Test.YtbeibmdccjgcmaaDoorWAt
import Derived.Test.YtbeibmdccjgcmaaDoorWEqStruct
import Derived.Test.YtbeibmdccjgcmaaDoorWRepsOne
import Derived.Test.YtbeibmdccjgcmaaDoorWInv
import Derived.Test.YtbeibmdccjgcmaaDoorWInvWords
import Derived.Test.YtbeibmdccjgcmaaDoorWGuard
import Derived.Test.YtbeibmdccjgcmaaDoorWNEv
import Derived.Test.YtbeibmdccjgcmaaDoorWMore
namespace Go.Proofs.YtbeibmdccjgcmaaDoor.PRef
open Go.RowKit Go.Proofs.YtbeibmdccjgcmaaDoorW.PrintWords Go.Proofs.YtbeibmdccjgcmaaDoorW.PrintLast Go.Proofs.YtbeibmdccjgcmaaDoorW.PrintMore
attribute [local go_sem] max2_int min2_int max_two min_two max_three min_three max_four min_four   -- for this text's walks alone
set_option linter.unusedVariables false
set_option linter.unusedSimpArgs false



-- the values' own types
/-! #### struct type 33 -/
structure S33 where
  f0 : ByteArray
  f1 : Int
  f2 : Int
  f3 : Int
  f4 : ByteArray
end Go.Proofs.YtbeibmdccjgcmaaDoor.PRef
namespace Go.Proofs.YtbeibmdccjgcmaaDoor.PRef
open Go.RowKit Go.Proofs.YtbeibmdccjgcmaaDoorW.PrintWords Go.Proofs.YtbeibmdccjgcmaaDoorW.PrintLast Go.Proofs.YtbeibmdccjgcmaaDoorW.PrintMore
attribute [local go_sem] max2_int min2_int max_two min_two max_three min_three max_four min_four   -- for this text's walks alone
set_option linter.unusedVariables false
set_option linter.unusedSimpArgs false

theorem eqA33 (d : Nat) (w : World) (x0 y0 : ByteArray) (x1 y1 : Int) (x2 y2 : Int) (x3 y3 : Int) (x4 y4 : ByteArray) :
    (Op.equalIn (d + 2) 33 (.agg #[.string x0, .int .i64 x1, .int .i64 x2, .int .i64 x3, .string x4]) (.agg #[.string y0, .int .i64 y1, .int .i64 y2, .int .i64 y3, .string y4])).run Tryd.prog w = .ok (x0.toList == y0.toList && (x1 == y1 && (x2 == y2 && (x3 == y3 && (x4.toList == y4.toList))))) w := by
  refine eqA_of Tryd.underlying33 (by kernel_rfl) ?_
  refine eqf_cons (by rfl) (by go_simp; rfl) (by go_simp; rfl) (by go_simp) ?_
  refine eqf_cons (by rfl) (by go_simp; rfl) (by go_simp; rfl) (by go_simp) ?_
  refine eqf_cons (by rfl) (by go_simp; rfl) (by go_simp; rfl) (by go_simp) ?_
  refine eqf_cons (by rfl) (by go_simp; rfl) (by go_simp; rfl) (by go_simp) ?_
  exact eqf_last (by rfl) (by go_simp; rfl) (by go_simp; rfl) (by go_simp)
end Go.Proofs.YtbeibmdccjgcmaaDoor.PRef
namespace Go.Proofs.YtbeibmdccjgcmaaDoor.PRef
open Go.RowKit Go.Proofs.YtbeibmdccjgcmaaDoorW.PrintWords Go.Proofs.YtbeibmdccjgcmaaDoorW.PrintLast Go.Proofs.YtbeibmdccjgcmaaDoorW.PrintMore
attribute [local go_sem] max2_int min2_int max_two min_two max_three min_three max_four min_four   -- for this text's walks alone
set_option linter.unusedVariables false
set_option linter.unusedSimpArgs false

attribute [local go_sem high] eqA33
/-! ### hamperref21_Same: function 15 -/
end Go.Proofs.YtbeibmdccjgcmaaDoor.PRef
namespace Go.Proofs.YtbeibmdccjgcmaaDoor.PRef
open Go.RowKit Go.Proofs.YtbeibmdccjgcmaaDoorW.PrintWords Go.Proofs.YtbeibmdccjgcmaaDoorW.PrintLast Go.Proofs.YtbeibmdccjgcmaaDoorW.PrintMore
attribute [local go_sem] max2_int min2_int max_two min_two max_three min_three max_four min_four   -- for this text's walks alone
set_option linter.unusedVariables false
set_option linter.unusedSimpArgs false

/-! ### hamperref05_First: function 47 -/
end Go.Proofs.YtbeibmdccjgcmaaDoor.PRef
namespace Go.Proofs.YtbeibmdccjgcmaaDoor.PRef
open Go.RowKit Go.Proofs.YtbeibmdccjgcmaaDoorW.PrintWords Go.Proofs.YtbeibmdccjgcmaaDoorW.PrintLast Go.Proofs.YtbeibmdccjgcmaaDoorW.PrintMore
attribute [local go_sem] max2_int min2_int max_two min_two max_three min_three max_four min_four   -- for this text's walks alone
set_option linter.unusedVariables false
set_option linter.unusedSimpArgs false

/-! ### hamperref05_places: function 48 -/
end Go.Proofs.YtbeibmdccjgcmaaDoor.PRef
namespace Go.Proofs.YtbeibmdccjgcmaaDoor.PRef
open Go.RowKit Go.Proofs.YtbeibmdccjgcmaaDoorW.PrintWords Go.Proofs.YtbeibmdccjgcmaaDoorW.PrintLast Go.Proofs.YtbeibmdccjgcmaaDoorW.PrintMore
attribute [local go_sem] max2_int min2_int max_two min_two max_three min_three max_four min_four   -- for this text's walks alone
set_option linter.unusedVariables false
set_option linter.unusedSimpArgs false

/-! ### hamperref05_turn: function 63 -/
def hamperref05_turn.f (a0 : Int) (a1 : Int) : Option (Int) := if 0 ≤ a1 then (some (Go.bits .or .u32 (shr .u32 a0 a1) (shl .u32 a0 ((32 - a1) % 4294967296)))) else (none)
set_option maxHeartbeats 8000000 in
set_option maxRecDepth 100000 in
theorem hamperref05_turn.calls (a0 : Int) (a1 : Int) (r : Int) (w : World) (h : hamperref05_turn.f a0 a1 = some r) :
    Calls Tryd.prog 63 #[.int .u32 a0, .int .u32 a1] w fun e w' => e = .returned (.int .u32 r) ∧ Drawn0 w w' := by
  have H : (if 0 ≤ a1 then (some (Go.bits .or .u32 (shr .u32 a0 a1) (shl .u32 a0 ((32 - a1) % 4294967296)))) else (none)) = some r := h
  clear h
  by_cases c3 : 0 ≤ a1
  · rw [if_pos c3] at H
    have c3b0 := eq_true c3
    have c3b1 : decide (0 ≤ a1) = true := decide_eq_true c3
    clear c3
    obtain ⟨ji4, hji4⟩ : ∃ j_ : Int, (shr .u32 a0 a1) = j_ := ⟨_, rfl⟩
    replace H : (some (Go.bits .or .u32 (ji4) (shl .u32 a0 ((32 - a1) % 4294967296)))) = some r := by first | (rw [hji4] at H; exact H) | (simp only [hji4] at H ⊢; exact H)
    have hji4_ : (a0 / 2 ^ min a1.toNat 32) = ji4 := hji4
    have hji4z : a1 ≤ 32 → (a0 / 2 ^ a1.toNat) = ji4 := shr_small hji4
    obtain ⟨ji5, hji5⟩ : ∃ j_ : Int, (shl .u32 a0 ((32 - a1) % 4294967296)) = j_ := ⟨_, rfl⟩
    replace H : (some (Go.bits .or .u32 (ji4) (ji5))) = some r := by first | (rw [hji5] at H; exact H) | (simp only [hji5] at H ⊢; exact H)
    have hji5_ : (IntKind.u32.wrap (a0 * 2 ^ min ((32 - a1) % 4294967296).toNat 32)) = ji5 := hji5
    have hji5z : ((32 - a1) % 4294967296) ≤ 32 → (IntKind.u32.wrap (a0 * 2 ^ ((32 - a1) % 4294967296).toNat)) = ji5 := shl_small hji5
    obtain rfl := Option.some.inj H
    have hz : 0 ≤ (32 - a1) % 4294967296 := Int.emod_nonneg _ (by decide)
    have hz2 : ((32 - a1) % 4294967296 < 0) = False := eq_false (by omega)
    have hz3 : decide (0 ≤ (32 - a1) % 4294967296) = true := decide_eq_true hz
    go_enter Tryd.func63, Tryd.ntmps63
    go_wp2
    go_ret
    exact ⟨by first | rfl | (simp; done) | (simp only [← hji4, ← hji5] <;> (first | rfl | simp)) | (simp [*]; done), by repeat (first | exact Drawn0.refl _ | apply Drawn0.step)⟩
  · rw [if_neg c3] at H
    exact absurd H (by simp)

end Go.Proofs.YtbeibmdccjgcmaaDoor.PRef
namespace Go.Proofs.YtbeibmdccjgcmaaDoor.PRef
open Go.RowKit Go.Proofs.YtbeibmdccjgcmaaDoorW.PrintWords Go.Proofs.YtbeibmdccjgcmaaDoorW.PrintLast Go.Proofs.YtbeibmdccjgcmaaDoorW.PrintMore
attribute [local go_sem] max2_int min2_int max_two min_two max_three min_three max_four min_four   -- for this text's walks alone
set_option linter.unusedVariables false
set_option linter.unusedSimpArgs false

/-! ### hamperref05_place: function 50 -/
end Go.Proofs.YtbeibmdccjgcmaaDoor.PRef
namespace Go.Proofs.YtbeibmdccjgcmaaDoor.PRef
open Go.RowKit Go.Proofs.YtbeibmdccjgcmaaDoorW.PrintWords Go.Proofs.YtbeibmdccjgcmaaDoorW.PrintLast Go.Proofs.YtbeibmdccjgcmaaDoorW.PrintMore
attribute [local go_sem] max2_int min2_int max_two min_two max_three min_three max_four min_four   -- for this text's walks alone
set_option linter.unusedVariables false
set_option linter.unusedSimpArgs false

-- NOT PRINTED: function 33 (hamperref05_Keyed)

end Go.Proofs.YtbeibmdccjgcmaaDoor.PRef
namespace Go.Proofs.YtbeibmdccjgcmaaDoor.PRef
open Go.RowKit Go.Proofs.YtbeibmdccjgcmaaDoorW.PrintWords Go.Proofs.YtbeibmdccjgcmaaDoorW.PrintLast Go.Proofs.YtbeibmdccjgcmaaDoorW.PrintMore
attribute [local go_sem] max2_int min2_int max_two min_two max_three min_three max_four min_four   -- for this text's walks alone
set_option linter.unusedVariables false
set_option linter.unusedSimpArgs false

-- NOT PRINTED: function 16 (hamperref05_Sum)

end Go.Proofs.YtbeibmdccjgcmaaDoor.PRef
namespace Go.Proofs.YtbeibmdccjgcmaaDoor.PRef
open Go.RowKit Go.Proofs.YtbeibmdccjgcmaaDoorW.PrintWords Go.Proofs.YtbeibmdccjgcmaaDoorW.PrintLast Go.Proofs.YtbeibmdccjgcmaaDoorW.PrintMore
attribute [local go_sem] max2_int min2_int max_two min_two max_three min_three max_four min_four   -- for this text's walks alone
set_option linter.unusedVariables false
set_option linter.unusedSimpArgs false

/-! ### utf8_word_string: function 67 -/
end Go.Proofs.YtbeibmdccjgcmaaDoor.PRef
namespace Go.Proofs.YtbeibmdccjgcmaaDoor.PRef
open Go.RowKit Go.Proofs.YtbeibmdccjgcmaaDoorW.PrintWords Go.Proofs.YtbeibmdccjgcmaaDoorW.PrintLast Go.Proofs.YtbeibmdccjgcmaaDoorW.PrintMore
attribute [local go_sem] max2_int min2_int max_two min_two max_three min_three max_four min_four   -- for this text's walks alone
set_option linter.unusedVariables false
set_option linter.unusedSimpArgs false

-- NOT PRINTED: function 56 (utf8_ValidString)

end Go.Proofs.YtbeibmdccjgcmaaDoor.PRef
namespace Go.Proofs.YtbeibmdccjgcmaaDoor.PRef
open Go.RowKit Go.Proofs.YtbeibmdccjgcmaaDoorW.PrintWords Go.Proofs.YtbeibmdccjgcmaaDoorW.PrintLast Go.Proofs.YtbeibmdccjgcmaaDoorW.PrintMore
attribute [local go_sem] max2_int min2_int max_two min_two max_three min_three max_four min_four   -- for this text's walks alone
set_option linter.unusedVariables false
set_option linter.unusedSimpArgs false

-- NOT PRINTED: function 43 (hamperref19_Name)

end Go.Proofs.YtbeibmdccjgcmaaDoor.PRef
namespace Go.Proofs.YtbeibmdccjgcmaaDoor.PRef
open Go.RowKit Go.Proofs.YtbeibmdccjgcmaaDoorW.PrintWords Go.Proofs.YtbeibmdccjgcmaaDoorW.PrintLast Go.Proofs.YtbeibmdccjgcmaaDoorW.PrintMore
attribute [local go_sem] max2_int min2_int max_two min_two max_three min_three max_four min_four   -- for this text's walks alone
set_option linter.unusedVariables false
set_option linter.unusedSimpArgs false

-- NOT PRINTED: function 44 (hamperref19_May)

end Go.Proofs.YtbeibmdccjgcmaaDoor.PRef
namespace Go.Proofs.YtbeibmdccjgcmaaDoor.PRef
open Go.RowKit Go.Proofs.YtbeibmdccjgcmaaDoorW.PrintWords Go.Proofs.YtbeibmdccjgcmaaDoorW.PrintLast Go.Proofs.YtbeibmdccjgcmaaDoorW.PrintMore
attribute [local go_sem] max2_int min2_int max_two min_two max_three min_three max_four min_four   -- for this text's walks alone
set_option linter.unusedVariables false
set_option linter.unusedSimpArgs false

/-! ### hamperref19_bytes: function 45 -/
end Go.Proofs.YtbeibmdccjgcmaaDoor.PRef
namespace Go.Proofs.YtbeibmdccjgcmaaDoor.PRef
open Go.RowKit Go.Proofs.YtbeibmdccjgcmaaDoorW.PrintWords Go.Proofs.YtbeibmdccjgcmaaDoorW.PrintLast Go.Proofs.YtbeibmdccjgcmaaDoorW.PrintMore
attribute [local go_sem] max2_int min2_int max_two min_two max_three min_three max_four min_four   -- for this text's walks alone
set_option linter.unusedVariables false
set_option linter.unusedSimpArgs false

-- NOT PRINTED: function 29 (hamperref19_Make)

end Go.Proofs.YtbeibmdccjgcmaaDoor.PRef
namespace Go.Proofs.YtbeibmdccjgcmaaDoor.PRef
open Go.RowKit Go.Proofs.YtbeibmdccjgcmaaDoorW.PrintWords Go.Proofs.YtbeibmdccjgcmaaDoorW.PrintLast Go.Proofs.YtbeibmdccjgcmaaDoorW.PrintMore
attribute [local go_sem] max2_int min2_int max_two min_two max_three min_three max_four min_four   -- for this text's walks alone
set_option linter.unusedVariables false
set_option linter.unusedSimpArgs false

-- NOT PRINTED: function 11 (hamperref21_Make)

end Go.Proofs.YtbeibmdccjgcmaaDoor.PRef
namespace Go.Proofs.YtbeibmdccjgcmaaDoor.PRef
open Go.RowKit Go.Proofs.YtbeibmdccjgcmaaDoorW.PrintWords Go.Proofs.YtbeibmdccjgcmaaDoorW.PrintLast Go.Proofs.YtbeibmdccjgcmaaDoorW.PrintMore
attribute [local go_sem] max2_int min2_int max_two min_two max_three min_three max_four min_four   -- for this text's walks alone
set_option linter.unusedVariables false
set_option linter.unusedSimpArgs false

/-! ### hamperref19_at: function 51 -/
end Go.Proofs.YtbeibmdccjgcmaaDoor.PRef
namespace Go.Proofs.YtbeibmdccjgcmaaDoor.PRef
open Go.RowKit Go.Proofs.YtbeibmdccjgcmaaDoorW.PrintWords Go.Proofs.YtbeibmdccjgcmaaDoorW.PrintLast Go.Proofs.YtbeibmdccjgcmaaDoorW.PrintMore
attribute [local go_sem] max2_int min2_int max_two min_two max_three min_three max_four min_four   -- for this text's walks alone
set_option linter.unusedVariables false
set_option linter.unusedSimpArgs false

-- NOT PRINTED: function 34 (hamperref19_Read)

end Go.Proofs.YtbeibmdccjgcmaaDoor.PRef
namespace Go.Proofs.YtbeibmdccjgcmaaDoor.PRef
open Go.RowKit Go.Proofs.YtbeibmdccjgcmaaDoorW.PrintWords Go.Proofs.YtbeibmdccjgcmaaDoorW.PrintLast Go.Proofs.YtbeibmdccjgcmaaDoorW.PrintMore
attribute [local go_sem] max2_int min2_int max_two min_two max_three min_three max_four min_four   -- for this text's walks alone
set_option linter.unusedVariables false
set_option linter.unusedSimpArgs false

-- NOT PRINTED: function 17 (hamperref21_Read)

end Go.Proofs.YtbeibmdccjgcmaaDoor.PRef
namespace Go.Proofs.YtbeibmdccjgcmaaDoor.PRef
open Go.RowKit Go.Proofs.YtbeibmdccjgcmaaDoorW.PrintWords Go.Proofs.YtbeibmdccjgcmaaDoorW.PrintLast Go.Proofs.YtbeibmdccjgcmaaDoorW.PrintMore
attribute [local go_sem] max2_int min2_int max_two min_two max_three min_three max_four min_four   -- for this text's walks alone
set_option linter.unusedVariables false
set_option linter.unusedSimpArgs false

-- NOT PRINTED: function 27 (quick_together)

end Go.Proofs.YtbeibmdccjgcmaaDoor.PRef
namespace Go.Proofs.YtbeibmdccjgcmaaDoor.PRef
open Go.RowKit Go.Proofs.YtbeibmdccjgcmaaDoorW.PrintWords Go.Proofs.YtbeibmdccjgcmaaDoorW.PrintLast Go.Proofs.YtbeibmdccjgcmaaDoorW.PrintMore
attribute [local go_sem] max2_int min2_int max_two min_two max_three min_three max_four min_four   -- for this text's walks alone
set_option linter.unusedVariables false
set_option linter.unusedSimpArgs false

-- NOT PRINTED: function 46 (api_Meta_46)

end Go.Proofs.YtbeibmdccjgcmaaDoor.PRef
namespace Go.Proofs.YtbeibmdccjgcmaaDoor.PRef
open Go.RowKit Go.Proofs.YtbeibmdccjgcmaaDoorW.PrintWords Go.Proofs.YtbeibmdccjgcmaaDoorW.PrintLast Go.Proofs.YtbeibmdccjgcmaaDoorW.PrintMore
attribute [local go_sem] max2_int min2_int max_two min_two max_three min_three max_four min_four   -- for this text's walks alone
set_option linter.unusedVariables false
set_option linter.unusedSimpArgs false

-- NOT PRINTED: function 30 (api_Meta_30)

end Go.Proofs.YtbeibmdccjgcmaaDoor.PRef
namespace Go.Proofs.YtbeibmdccjgcmaaDoor.PRef
open Go.RowKit Go.Proofs.YtbeibmdccjgcmaaDoorW.PrintWords Go.Proofs.YtbeibmdccjgcmaaDoorW.PrintLast Go.Proofs.YtbeibmdccjgcmaaDoorW.PrintMore
attribute [local go_sem] max2_int min2_int max_two min_two max_three min_three max_four min_four   -- for this text's walks alone
set_option linter.unusedVariables false
set_option linter.unusedSimpArgs false

-- NOT PRINTED: function 12 (quick_May)

end Go.Proofs.YtbeibmdccjgcmaaDoor.PRef
namespace Go.Proofs.YtbeibmdccjgcmaaDoor.PRef
open Go.RowKit Go.Proofs.YtbeibmdccjgcmaaDoorW.PrintWords Go.Proofs.YtbeibmdccjgcmaaDoorW.PrintLast Go.Proofs.YtbeibmdccjgcmaaDoorW.PrintMore
attribute [local go_sem] max2_int min2_int max_two min_two max_three min_three max_four min_four   -- for this text's walks alone
set_option linter.unusedVariables false
set_option linter.unusedSimpArgs false

/-! ### bits_Mul64: function 77 -/
end Go.Proofs.YtbeibmdccjgcmaaDoor.PRef
namespace Go.Proofs.YtbeibmdccjgcmaaDoor.PRef
open Go.RowKit Go.Proofs.YtbeibmdccjgcmaaDoorW.PrintWords Go.Proofs.YtbeibmdccjgcmaaDoorW.PrintLast Go.Proofs.YtbeibmdccjgcmaaDoorW.PrintMore
attribute [local go_sem] max2_int min2_int max_two min_two max_three min_three max_four min_four   -- for this text's walks alone
set_option linter.unusedVariables false
set_option linter.unusedSimpArgs false

-- NOT PRINTED: function 70 (blake_firsts)

end Go.Proofs.YtbeibmdccjgcmaaDoor.PRef
namespace Go.Proofs.YtbeibmdccjgcmaaDoor.PRef
open Go.RowKit Go.Proofs.YtbeibmdccjgcmaaDoorW.PrintWords Go.Proofs.YtbeibmdccjgcmaaDoorW.PrintLast Go.Proofs.YtbeibmdccjgcmaaDoorW.PrintMore
attribute [local go_sem] max2_int min2_int max_two min_two max_three min_three max_four min_four   -- for this text's walks alone
set_option linter.unusedVariables false
set_option linter.unusedSimpArgs false

-- NOT PRINTED: function 59 (blake_made)

end Go.Proofs.YtbeibmdccjgcmaaDoor.PRef
namespace Go.Proofs.YtbeibmdccjgcmaaDoor.PRef
open Go.RowKit Go.Proofs.YtbeibmdccjgcmaaDoorW.PrintWords Go.Proofs.YtbeibmdccjgcmaaDoorW.PrintLast Go.Proofs.YtbeibmdccjgcmaaDoorW.PrintMore
attribute [local go_sem] max2_int min2_int max_two min_two max_three min_three max_four min_four   -- for this text's walks alone
set_option linter.unusedVariables false
set_option linter.unusedSimpArgs false

-- NOT PRINTED: function 38 (blake_New)

end Go.Proofs.YtbeibmdccjgcmaaDoor.PRef
namespace Go.Proofs.YtbeibmdccjgcmaaDoor.PRef
open Go.RowKit Go.Proofs.YtbeibmdccjgcmaaDoorW.PrintWords Go.Proofs.YtbeibmdccjgcmaaDoorW.PrintLast Go.Proofs.YtbeibmdccjgcmaaDoorW.PrintMore
attribute [local go_sem] max2_int min2_int max_two min_two max_three min_three max_four min_four   -- for this text's walks alone
set_option linter.unusedVariables false
set_option linter.unusedSimpArgs false

-- NOT PRINTED: function 71 (blake_rows)

end Go.Proofs.YtbeibmdccjgcmaaDoor.PRef
namespace Go.Proofs.YtbeibmdccjgcmaaDoor.PRef
open Go.RowKit Go.Proofs.YtbeibmdccjgcmaaDoorW.PrintWords Go.Proofs.YtbeibmdccjgcmaaDoorW.PrintLast Go.Proofs.YtbeibmdccjgcmaaDoorW.PrintMore
attribute [local go_sem] max2_int min2_int max_two min_two max_three min_three max_four min_four   -- for this text's walks alone
set_option linter.unusedVariables false
set_option linter.unusedSimpArgs false

-- NOT PRINTED: function 72 (blake_mixes)

end Go.Proofs.YtbeibmdccjgcmaaDoor.PRef
namespace Go.Proofs.YtbeibmdccjgcmaaDoor.PRef
open Go.RowKit Go.Proofs.YtbeibmdccjgcmaaDoorW.PrintWords Go.Proofs.YtbeibmdccjgcmaaDoorW.PrintLast Go.Proofs.YtbeibmdccjgcmaaDoorW.PrintMore
attribute [local go_sem] max2_int min2_int max_two min_two max_three min_three max_four min_four   -- for this text's walks alone
set_option linter.unusedVariables false
set_option linter.unusedSimpArgs false

/-! ### bits_RotateLeft32: function 78 -/
end Go.Proofs.YtbeibmdccjgcmaaDoor.PRef
namespace Go.Proofs.YtbeibmdccjgcmaaDoor.PRef
open Go.RowKit Go.Proofs.YtbeibmdccjgcmaaDoorW.PrintWords Go.Proofs.YtbeibmdccjgcmaaDoorW.PrintLast Go.Proofs.YtbeibmdccjgcmaaDoorW.PrintMore
attribute [local go_sem] max2_int min2_int max_two min_two max_three min_three max_four min_four   -- for this text's walks alone
set_option linter.unusedVariables false
set_option linter.unusedSimpArgs false

-- NOT PRINTED: function 73 (blake_mix)

end Go.Proofs.YtbeibmdccjgcmaaDoor.PRef
namespace Go.Proofs.YtbeibmdccjgcmaaDoor.PRef
open Go.RowKit Go.Proofs.YtbeibmdccjgcmaaDoorW.PrintWords Go.Proofs.YtbeibmdccjgcmaaDoorW.PrintLast Go.Proofs.YtbeibmdccjgcmaaDoorW.PrintMore
attribute [local go_sem] max2_int min2_int max_two min_two max_three min_three max_four min_four   -- for this text's walks alone
set_option linter.unusedVariables false
set_option linter.unusedSimpArgs false

-- NOT PRINTED: function 60 (blake_Hash_take)

end Go.Proofs.YtbeibmdccjgcmaaDoor.PRef
namespace Go.Proofs.YtbeibmdccjgcmaaDoor.PRef
open Go.RowKit Go.Proofs.YtbeibmdccjgcmaaDoorW.PrintWords Go.Proofs.YtbeibmdccjgcmaaDoorW.PrintLast Go.Proofs.YtbeibmdccjgcmaaDoorW.PrintMore
attribute [local go_sem] max2_int min2_int max_two min_two max_three min_three max_four min_four   -- for this text's walks alone
set_option linter.unusedVariables false
set_option linter.unusedSimpArgs false

-- NOT PRINTED: function 39 (blake_Hash_add)

end Go.Proofs.YtbeibmdccjgcmaaDoor.PRef
namespace Go.Proofs.YtbeibmdccjgcmaaDoor.PRef
open Go.RowKit Go.Proofs.YtbeibmdccjgcmaaDoorW.PrintWords Go.Proofs.YtbeibmdccjgcmaaDoorW.PrintLast Go.Proofs.YtbeibmdccjgcmaaDoorW.PrintMore
attribute [local go_sem] max2_int min2_int max_two min_two max_three min_three max_four min_four   -- for this text's walks alone
set_option linter.unusedVariables false
set_option linter.unusedSimpArgs false

-- NOT PRINTED: function 62 (abi_NoEscape)

end Go.Proofs.YtbeibmdccjgcmaaDoor.PRef
namespace Go.Proofs.YtbeibmdccjgcmaaDoor.PRef
open Go.RowKit Go.Proofs.YtbeibmdccjgcmaaDoorW.PrintWords Go.Proofs.YtbeibmdccjgcmaaDoorW.PrintLast Go.Proofs.YtbeibmdccjgcmaaDoorW.PrintMore
attribute [local go_sem] max2_int min2_int max_two min_two max_three min_three max_four min_four   -- for this text's walks alone
set_option linter.unusedVariables false
set_option linter.unusedSimpArgs false

-- NOT PRINTED: function 41 (strings_Builder_copyCheck)

end Go.Proofs.YtbeibmdccjgcmaaDoor.PRef
namespace Go.Proofs.YtbeibmdccjgcmaaDoor.PRef
open Go.RowKit Go.Proofs.YtbeibmdccjgcmaaDoorW.PrintWords Go.Proofs.YtbeibmdccjgcmaaDoorW.PrintLast Go.Proofs.YtbeibmdccjgcmaaDoorW.PrintMore
attribute [local go_sem] max2_int min2_int max_two min_two max_three min_three max_four min_four   -- for this text's walks alone
set_option linter.unusedVariables false
set_option linter.unusedSimpArgs false

-- NOT PRINTED: function 25 (strings_Builder_WriteByte)

end Go.Proofs.YtbeibmdccjgcmaaDoor.PRef
namespace Go.Proofs.YtbeibmdccjgcmaaDoor.PRef
open Go.RowKit Go.Proofs.YtbeibmdccjgcmaaDoorW.PrintWords Go.Proofs.YtbeibmdccjgcmaaDoorW.PrintLast Go.Proofs.YtbeibmdccjgcmaaDoorW.PrintMore
attribute [local go_sem] max2_int min2_int max_two min_two max_three min_three max_four min_four   -- for this text's walks alone
set_option linter.unusedVariables false
set_option linter.unusedSimpArgs false

-- NOT PRINTED: function 28 (strings_Builder_String)

end Go.Proofs.YtbeibmdccjgcmaaDoor.PRef
namespace Go.Proofs.YtbeibmdccjgcmaaDoor.PRef
open Go.RowKit Go.Proofs.YtbeibmdccjgcmaaDoorW.PrintWords Go.Proofs.YtbeibmdccjgcmaaDoorW.PrintLast Go.Proofs.YtbeibmdccjgcmaaDoorW.PrintMore
attribute [local go_sem] max2_int min2_int max_two min_two max_three min_three max_four min_four   -- for this text's walks alone
set_option linter.unusedVariables false
set_option linter.unusedSimpArgs false

-- NOT PRINTED: function 61 (blake_Hash_Copy)

end Go.Proofs.YtbeibmdccjgcmaaDoor.PRef
namespace Go.Proofs.YtbeibmdccjgcmaaDoor.PRef
open Go.RowKit Go.Proofs.YtbeibmdccjgcmaaDoorW.PrintWords Go.Proofs.YtbeibmdccjgcmaaDoorW.PrintLast Go.Proofs.YtbeibmdccjgcmaaDoorW.PrintMore
attribute [local go_sem] max2_int min2_int max_two min_two max_three min_three max_four min_four   -- for this text's walks alone
set_option linter.unusedVariables false
set_option linter.unusedSimpArgs false

-- NOT PRINTED: function 40 (blake_Hash_Sum)

end Go.Proofs.YtbeibmdccjgcmaaDoor.PRef
