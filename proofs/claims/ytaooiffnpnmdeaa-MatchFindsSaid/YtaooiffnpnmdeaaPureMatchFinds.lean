/- MatchFinds: the tokens, and the longest match, are the document's. -/
import Derived.Test.YtaooiffnpnmdeaaRefFind
import Derived.Test.YtaooiffnpnmdeaaPMfx14
namespace Go.Proofs.Ytaooiffnpnmdeaa.Pure
open Go.RowKit Go.Proofs.Ytaooiffnpnmdeaa.PMf Go.Proofs.YtaooiffnpnmdeaaW.PrintWords Go.Proofs.YtaooiffnpnmdeaaW.PrintLast Go.Proofs.YtaooiffnpnmdeaaW.PrintMore
set_option linter.unusedVariables false
theorem find_len (s : ByteArray) : ∀ f p r, (Mt.findL s f p r).length ≤ f
  | 0, _, _ => Nat.le_refl _
  | f + 1, p, r => by
    rw [Mt.findL]
    split
    · split
      · rw [List.length_cons]
        exact Nat.succ_le_succ (find_len s f _ _)
      · rw [List.length_cons]
        exact Nat.succ_le_succ (find_len s f _ _)
    · exact Nat.zero_le _
theorem same_loop (l : List S27) (h : l.length ≤ 100000) : ∀ f i k, i + f = l.length → f < k → hamperref15_Same.l0 k l l (i : Int) = some true := by
  intro f
  induction f with
  | zero =>
    intro i k h1 h2
    obtain ⟨k, rfl⟩ : ∃ k', k = k' + 1 := ⟨k - 1, by omega⟩
    rw [hamperref15_Same.l0, if_neg (by omega)]
  | succ f ih =>
    intro i k h1 h2
    obtain ⟨k, rfl⟩ : ∃ k', k = k' + 1 := ⟨k - 1, by omega⟩
    rw [hamperref15_Same.l0, if_pos (by omega), if_pos (by omega), if_pos (by omega), if_neg (by simp), Mx.w_one i (by omega)]
    exact ih (i + 1) k (by omega) (by omega)
theorem same_all (k : Nat) (l : List S27) (h : l.length ≤ 100000) (hk : l.length < k) : hamperref15_Same.f k l l = some true := by
  unfold hamperref15_Same.f
  rw [if_pos rfl]
  exact same_loop l h l.length 0 k (by omega) hk
theorem bind_eq {α β : Type} {o : Option α} {a : α} {f : α → Option β} {r : Option β} (h : o = some a) (h2 : f a = r) : o.bind f = r := by rw [h]; exact h2
theorem finds_all (k : Nat) (s : ByteArray) (x : Int) (hk : 4000 ≤ k) : hamperlaw15_MatchFinds.f k s x = some true := by
  unfold hamperlaw15_MatchFinds.f
  by_cases hs : (s.size : Int) > 3000
  · rw [if_pos hs]
  · rw [if_neg hs]
    have h8 : s.size ≤ 80000 := by omega
    refine bind_eq (show match_Longest.f s x = some _ by unfold match_Longest.f; rw [if_pos h8]) ?_
    refine bind_eq (show hamperref15_Longest.f s x = some _ by unfold hamperref15_Longest.f; rw [if_pos h8]) ?_
    refine (if_pos rfl).trans ?_
    refine (if_pos rfl).trans ?_
    refine bind_eq (show match_Find.f s = some _ by unfold match_Find.f; rw [if_pos h8]) ?_
    refine bind_eq (show hamperref15_Find.f s = some ((Mt.findS s).map tokR) by unfold hamperref15_Find.f; rw [if_pos h8]; rfl) ?_
    have hl : ((Mt.findS s).map tokR).length ≤ s.size := by
      rw [List.length_map]
      exact find_len s _ _ _
    exact bind_eq (same_all k _ (by omega) (by omega)) rfl
theorem MatchFinds : hamperlaw15_MatchFinds.Pure := fun a p _ _ => ⟨4000, finds_all 4000 a p (Nat.le_refl _)⟩
end Go.Proofs.Ytaooiffnpnmdeaa.Pure
