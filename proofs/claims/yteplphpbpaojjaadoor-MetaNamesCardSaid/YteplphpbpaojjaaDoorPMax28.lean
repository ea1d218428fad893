-- Made by a program of this session (wip/tools/pp.py) out of the seat's translation; contracts of some functions are typed by hand.
import Derived.Test.YteplphpbpaojjaaDoorPMax0
import Derived.Test.YteplphpbpaojjaaDoorMetaNumber
namespace Go.Proofs.YteplphpbpaojjaaDoor.PMa
open Go.RowKit Go.Proofs.YteplphpbpaojjaaDoorW.PrintWords Go.Proofs.YteplphpbpaojjaaDoorW.PrintLast Go.Proofs.YteplphpbpaojjaaDoorW.PrintMore
attribute [local go_sem] max2_int min2_int max_two min_two max_three min_three max_four min_four   -- for this text's walks alone
set_option linter.unusedVariables false
set_option linter.unusedSimpArgs false

/-! ### meta_number: function 30 -/
def meta_number.f (a0 : Int) (a1 : Int) : Option (ByteArray) := if 0 < a1 ∧ a1 ≤ 8 ∧ -9223372036854775808 ≤ a0 ∧ a0 ≤ 9223372036854775807 then some (Me.numS a0 a1.toNat) else none
theorem meta_number.calls (a0 : Int) (a1 : Int) (r : ByteArray) (w : World) (h : meta_number.f a0 a1 = some r) :
    Calls Tryd.prog 30 #[.int .i64 a0, .int .i64 a1] w fun e w' => e = .returned (.string r) ∧ Below w.heap.size w w' := by
  unfold meta_number.f at h
  by_cases hs : 0 < a1 ∧ a1 ≤ 8 ∧ -9223372036854775808 ≤ a0 ∧ a0 ≤ 9223372036854775807
  · rw [if_pos hs] at h
    obtain rfl := Option.some.inj h
    obtain ⟨m, rfl⟩ : ∃ m : Nat, a1 = (m : Int) := ⟨a1.toNat, by omega⟩
    rw [Int.toNat_natCast]
    exact Me.number_calls a0 m w (by omega) (by omega) hs.2.2.1 hs.2.2.2
  · rw [if_neg hs] at h
    exact absurd h (by simp)

end Go.Proofs.YteplphpbpaojjaaDoor.PMa
