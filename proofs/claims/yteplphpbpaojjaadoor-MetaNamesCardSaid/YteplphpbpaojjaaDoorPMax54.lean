-- Made by a program of this session (wip/tools/pp.py) out of the seat's translation; contracts of some functions are typed by hand.
import Derived.Test.YteplphpbpaojjaaDoorPMax0
import Derived.Test.YteplphpbpaojjaaDoorBk12
namespace Go.Proofs.YteplphpbpaojjaaDoor.PMa
open Go.RowKit Go.Proofs.YteplphpbpaojjaaDoorW.PrintWords Go.Proofs.YteplphpbpaojjaaDoorW.PrintLast Go.Proofs.YteplphpbpaojjaaDoorW.PrintMore
attribute [local go_sem] max2_int min2_int max_two min_two max_three min_three max_four min_four   -- for this text's walks alone
set_option linter.unusedVariables false
set_option linter.unusedSimpArgs false

/-! ### blake_Sum: function 19 -/
def blake_Sum.f (a0 : ByteArray) : Option (ByteArray) := if a0.size ≤ 140737488351232 then some (Bk.blakeSum a0) else none
theorem blake_Sum.calls (a0 : ByteArray) (r : ByteArray) (w : World) (h : blake_Sum.f a0 = some r) :
    Calls Tryd.prog 19 #[.string a0] w fun e w' => e = .returned (.string r) ∧ Below w.heap.size w w' := by
  unfold blake_Sum.f at h
  by_cases hs : a0.size ≤ 140737488351232
  · rw [if_pos hs] at h
    obtain rfl := Option.some.inj h
    exact Bk.blake_sum a0 hs w
  · rw [if_neg hs] at h
    exact absurd h (by simp)

end Go.Proofs.YteplphpbpaojjaaDoor.PMa
