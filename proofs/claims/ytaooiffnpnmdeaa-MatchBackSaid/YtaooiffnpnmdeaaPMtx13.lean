-- Made by a program of this session (wip/tools/pp.py) out of the seat's translation; contracts of some functions are typed by hand.
import Derived.Test.YtaooiffnpnmdeaaPMtx0
import Derived.Test.YtaooiffnpnmdeaaMtI
namespace Go.Proofs.Ytaooiffnpnmdeaa.PMt
open Go.RowKit Go.Proofs.YtaooiffnpnmdeaaW.PrintWords Go.Proofs.YtaooiffnpnmdeaaW.PrintLast Go.Proofs.YtaooiffnpnmdeaaW.PrintMore
attribute [local go_sem] max2_int min2_int max_two min_two max_three min_three max_four min_four   -- for this text's walks alone
set_option linter.unusedVariables false
set_option linter.unusedSimpArgs false

/-! ### match_Longest: function 16 -/
def match_Longest.f (a0 : ByteArray) (a1 : Int) : Option (Int × Int) := if a0.size ≤ 80000 then some (((Mt.longZ a0 a1).1 : Int), ((Mt.longZ a0 a1).2 : Int)) else none
theorem match_Longest.calls (a0 : ByteArray) (a1 : Int) (r1 : Int) (r2 : Int) (w : World) (h : match_Longest.f a0 a1 = some (r1, r2)) :
    Calls Try.prog 16 #[.string a0, .int .i64 a1] w fun e w' => e = .returned (.tuple #[.int .i64 r1, .int .i64 r2]) ∧ Below w.heap.size w w' := by
  unfold match_Longest.f at h
  by_cases hl : a0.size ≤ 80000
  · rw [if_pos hl] at h
    have e := Option.some.inj h
    simp only [Prod.mk.injEq] at e
    obtain ⟨rfl, rfl⟩ := e
    exact Mt.Longest_walk a0 a1 w (by omega)
  · rw [if_neg hl] at h
    exact absurd h (by simp)

end Go.Proofs.Ytaooiffnpnmdeaa.PMt
