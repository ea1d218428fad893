-- Made by a program of this session (wip/tools/pp.py) out of the seat's translation; contracts of some functions are typed by hand.
import Derived.Test.YtacjfgdehnenpaaPSumsx0
import Derived.Test.YtacjfgdehnenpaaHandRefSum
namespace Go.Proofs.Ytacjfgdehnenpaa.PSums
open Go.RowKit Go.Proofs.YtacjfgdehnenpaaW.PrintWords Go.Proofs.YtacjfgdehnenpaaW.PrintLast Go.Proofs.YtacjfgdehnenpaaW.PrintMore
attribute [local go_sem] max2_int min2_int max_two min_two max_three min_three max_four min_four   -- for this text's walks alone
set_option linter.unusedVariables false
set_option linter.unusedSimpArgs false

/-! ### hamperref05_Keyed: function 15 -/
def hamperref05_Keyed.f (a0 : ByteArray) (a1 : ByteArray) : Option (ByteArray × Int) := if a1.size ≤ 140737488351232 then (if a0.size ≤ 32 then some (Bk.blakeKeyed a0 a1, 0) else if a0.size ≤ 9223372036854775807 then some (⟨#[]⟩, 1) else none) else none
theorem hamperref05_Keyed.calls (a0 : ByteArray) (a1 : ByteArray) (r1 : ByteArray) (r2 : Int) (w : World) (h : hamperref05_Keyed.f a0 a1 = some (r1, r2)) :
    Calls Try.prog 15 #[.string a0, .string a1] w fun e w' => e = .returned (.tuple #[.string r1, .int .i64 r2]) ∧ Below w.heap.size w w' := by
  unfold hamperref05_Keyed.f at h
  by_cases hs : a1.size ≤ 140737488351232
  · rw [if_pos hs] at h
    by_cases hk : a0.size ≤ 32
    · rw [if_pos hk] at h
      simp only [Option.some.injEq, Prod.mk.injEq] at h
      obtain ⟨rfl, rfl⟩ := h
      exact Rf5.keyed_walk a0 a1 hk hs w
    · rw [if_neg hk] at h
      by_cases hl : a0.size ≤ 9223372036854775807
      · rw [if_pos hl] at h
        simp only [Option.some.injEq, Prod.mk.injEq] at h
        obtain ⟨rfl, rfl⟩ := h
        exact (Rf5.keyed_long a0 a1 hk hl w).mono fun _ _ ⟨he, hw⟩ => ⟨he, hw ▸ Below.refl _ _⟩
      · rw [if_neg hl] at h
        exact absurd h (by simp)
  · rw [if_neg hs] at h
    exact absurd h (by simp)

end Go.Proofs.Ytacjfgdehnenpaa.PSums
