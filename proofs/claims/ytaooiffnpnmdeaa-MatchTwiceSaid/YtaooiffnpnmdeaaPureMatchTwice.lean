/- MatchTwice: a text, the same text again, and what follows: the longest match at the second is the whole text, or 258 bytes. -/
import Derived.Test.YtaooiffnpnmdeaaMtQ
import Derived.Test.YtaooiffnpnmdeaaPMtx16
namespace Go.Proofs.Ytaooiffnpnmdeaa.Pure
open Go.RowKit Go.Proofs.Ytaooiffnpnmdeaa.PMt Go.Proofs.YtaooiffnpnmdeaaW.PrintWords Go.Proofs.YtaooiffnpnmdeaaW.PrintLast Go.Proofs.YtaooiffnpnmdeaaW.PrintMore
theorem twice_best (a b : ByteArray) (h1 : 3 ≤ a.size) (h2 : a.size ≤ 32768) : min a.size 258 ≤ (Mt.longS ((a ++ a) ++ b) a.size).1 ∧ (Mt.longS ((a ++ a) ++ b) a.size).1 ≤ 258 ∧ 1 ≤ (Mt.longS ((a ++ a) ++ b) a.size).2 ∧ (Mt.longS ((a ++ a) ++ b) a.size).2 ≤ a.size := by
  have hs : ((a ++ a) ++ b).size = a.size + a.size + b.size := by rw [ByteArray.size_append, ByteArray.size_append]
  have e : Mt.longS ((a ++ a) ++ b) a.size = Mt.bestS ((a ++ a) ++ b) a.size a.size := by
    unfold Mt.longS
    rw [if_pos (by omega), Nat.min_eq_left h2]
  rw [e]
  have hm : min a.size 258 ≤ Mt.ml ((a ++ a) ++ b) a.size a.size := by
    rw [Mt.ml_ge]
    refine ⟨by omega, fun j hj => ⟨by omega, Mt.same_at ?_⟩⟩
    have ej : a.size + j - a.size = j := by omega
    have hz : a.data.size = a.size := rfl
    rw [ej, ByteArray.data_append, ByteArray.data_append, Array.getElem?_append_left (by rw [Array.size_append]; omega), Array.getElem?_append_right (by omega), Array.getElem?_append_left (by rw [Array.size_append]; omega), Array.getElem?_append_left (by omega)]
    congr 1
  have hb := Mt.best_most ((a ++ a) ++ b) a.size a.size a.size (by omega) (Nat.le_refl _) (by omega)
  have hl := Mt.best_le ((a ++ a) ++ b) a.size a.size
  rcases Mt.best_is ((a ++ a) ++ b) a.size a.size with e0 | ⟨e1, e2, e3, _⟩
  · rw [e0] at hb
    have := hb.1
    have h0 : Mt.ml ((a ++ a) ++ b) a.size a.size ≤ 0 := this
    omega
  · exact ⟨by omega, hl, e2, e3⟩
theorem twice_true (k : Nat) (a b : ByteArray) (hk : 60 ≤ k) : hamperlaw15_MatchTwice.j0 (k + 1) a b true = some true := by
  rw [hamperlaw15_MatchTwice.j0, if_pos rfl]
  exact Mt.bind_eq (Mt.works_f k hk) rfl
theorem twice_false (k : Nat) (a b : ByteArray) (h1 : 3 ≤ a.size) (h2 : a.size ≤ 2000) (h3 : b.size ≤ 500) : hamperlaw15_MatchTwice.j0 (k + 1) a b false = some true := by
  rw [hamperlaw15_MatchTwice.j0, if_neg Bool.false_ne_true]
  have hs : (a ++ a).size = a.size + a.size := ByteArray.size_append
  have hs2 : ((a ++ a) ++ b).size = (a ++ a).size + b.size := ByteArray.size_append
  rw [if_pos (by omega), if_pos (by omega)]
  refine Mt.bind_eq (Mt.long_f _ _ (by omega)) ?_
  have hm : mn (a.size : Int) 258 ≤ ((min a.size 258 : Nat) : Int) := by
    unfold mn
    split <;> omega
  obtain ⟨b1, b2, b3, b4⟩ := twice_best a b h1 (by omega)
  dsimp only
  rw [if_pos (by omega), if_pos (by omega), if_pos (by omega), decide_eq_true (by omega)]
theorem MatchTwice : hamperlaw15_MatchTwice.Pure := fun a b ha hb => ⟨60 + 1, by
  have ht := twice_true 60 a b (Nat.le_refl _)
  unfold hamperlaw15_MatchTwice.f
  refine Mt.bind_eq (Mt.works_f _ (by decide)) ?_
  rw [if_pos rfl]
  by_cases h1 : (a.size : Int) < 3
  · rw [if_pos h1]
    exact ht
  rw [if_neg h1]
  by_cases h2 : (a.size : Int) > 2000
  · rw [if_pos h2]
    exact ht
  rw [if_neg h2]
  by_cases h3 : (b.size : Int) > 500
  · rw [decide_eq_true h3]
    exact ht
  rw [decide_eq_false h3]
  exact twice_false 60 a b (by omega) (by omega) (by omega)⟩
end Go.Proofs.Ytaooiffnpnmdeaa.Pure
