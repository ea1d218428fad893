/- The digest of any bytes, without a key and by any key, is the document's, or the key is refused: for all texts that the statement takes in. -/
import Derived.Test.YtacjfgdehnenpaaPSumsx26
namespace Go.Proofs.Ytacjfgdehnenpaa.Pure
open Go.RowKit Go.Proofs.Ytacjfgdehnenpaa.PSums Go.Proofs.YtacjfgdehnenpaaW.PrintWords Go.Proofs.YtacjfgdehnenpaaW.PrintLast
theorem BlakeSums : hamperlaw05_BlakeSums.Pure := by
  intro a0 a1 h0 h1
  refine ⟨1, ?_⟩
  unfold hamperlaw05_BlakeSums.f
  by_cases hb : (a1.size : Int) > 20000
  · rw [if_pos hb]
    simp only [hamperlaw05_BlakeSums.j0, if_true]
  · rw [if_neg hb]
    by_cases ha : (a0.size : Int) > 20000
    · simp only [hamperlaw05_BlakeSums.j0]
      rw [if_pos (decide_eq_true ha)]
    · simp only [hamperlaw05_BlakeSums.j0]
      rw [if_neg (by simpa using ha)]
      have e : ∃ r, blake_Keyed.f a0 a1 = some r ∧ hamperref05_Keyed.f a0 a1 = some r := by
        unfold blake_Keyed.f hamperref05_Keyed.f
        rw [if_pos h1]
        by_cases hk : a0.size ≤ 32
        · rw [if_pos hk]
          exact ⟨_, rfl, rfl⟩
        · rw [if_neg hk, if_pos (by omega)]
          exact ⟨_, rfl, rfl⟩
      obtain ⟨r, e1, e2⟩ := e
      rw [e1, e2]
      simp only [Option.bind_some, if_true]
      unfold blake_Sum.f hamperref05_Sum.f
      rw [if_pos h1]
      simp
end Go.Proofs.Ytacjfgdehnenpaa.Pure
