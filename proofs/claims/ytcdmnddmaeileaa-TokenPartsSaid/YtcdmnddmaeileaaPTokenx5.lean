-- Made by a program of this session (wip/tools/pp.py) out of the seat's translation; contracts of some functions are typed by hand.
import Derived.Test.YtcdmnddmaeileaaPTokenx0
import Derived.Test.YtcdmnddmaeileaaTokText
namespace Go.Proofs.Ytcdmnddmaeileaa.PToken
open Go.RowKit Go.Proofs.YtcdmnddmaeileaaW.PrintWords Go.Proofs.YtcdmnddmaeileaaW.PrintLast Go.Proofs.YtcdmnddmaeileaaW.PrintMore
attribute [local go_sem] max2_int min2_int max_two min_two max_three min_three max_four min_four   -- for this text's walks alone
set_option linter.unusedVariables false
set_option linter.unusedSimpArgs false

/-! ### token_Text: function 9 -/
def token_Text.f (l0 : List S23) (a1 : Int) : Option (ByteArray × Int) := if l0.length ≤ 1000000 then some (textR l0 a1 st0) else none
theorem token_Text.calls (A0 : Option Addr) (c0 : Nat) (l0 : List (S23)) (a1 : Int) (r1 : ByteArray) (r2 : Int) (w : World) (hr0 : Kd.C k23 w A0 l0.length l0) (hc0 : l0.length ≤ c0) (h : token_Text.f l0 a1 = some (r1, r2)) :
    Calls Try.prog 9 #[.slice A0 l0.length c0, .int .i64 a1] w fun e w' => e = .returned (.tuple #[.string r1, .int .i64 r2]) ∧ Below w.heap.size w w' := by
  unfold token_Text.f at h
  by_cases hl : l0.length ≤ 1000000
  · rw [if_pos hl] at h
    have e := Option.some.inj h
    have h1 : (textR l0 a1 st0).1 = r1 := by rw [e]
    have h2 : (textR l0 a1 st0).2 = r2 := by rw [e]
    rw [← h1, ← h2]
    exact text_calls A0 c0 l0 a1 w hr0 hc0 hl
  · rw [if_neg hl] at h
    exact absurd h (by simp)

end Go.Proofs.Ytcdmnddmaeileaa.PToken
