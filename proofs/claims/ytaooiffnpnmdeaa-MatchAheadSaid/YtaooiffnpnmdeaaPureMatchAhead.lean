/- MatchAhead: what follows a text does not change the tokens of the places that lie 259 bytes ahead of its end. -/
import Derived.Test.YtaooiffnpnmdeaaMtS
import Derived.Test.YtaooiffnpnmdeaaPMtx18
namespace Go.Proofs.Ytaooiffnpnmdeaa.Pure
open Go.RowKit Go.Proofs.Ytaooiffnpnmdeaa.PMt Go.Proofs.YtaooiffnpnmdeaaW.PrintWords Go.Proofs.YtaooiffnpnmdeaaW.PrintLast Go.Proofs.YtaooiffnpnmdeaaW.PrintMore
set_option linter.unusedVariables false
theorem w_258 (p : Nat) (h : p ≤ 100000) : wrap64 ((p : Int) + 258) = ((p + 258 : Nat) : Int) := Mt.w_nat p 258 (by omega)
theorem ahead_stop (k : Nat) (s : ByteArray) (xs ys : List S27) (p i : Int) : hamperlaw15_MatchAhead.j2 (k + 1) s xs ys p i false = some true := by
  rw [hamperlaw15_MatchAhead.j2, if_neg Bool.false_ne_true]
theorem fuel3 {f k : Nat} (h : (f + 1) * 3 + 3 < k + 1 + 1 + 1) : f * 3 + 3 < k := by
  rw [Nat.succ_mul] at h
  omega
theorem ahead_loop (a b : ByteArray) (xs ys : List S27) (ha : a.size ≤ 3000) : ∀ f f' k p i r, a.size ≤ p + f → (a ++ b).size ≤ p + f' → f * 3 + 3 < k → p ≤ 4000 → i ≤ 4000 → p ≥ i → xs.drop i = (Mt.findL a f p r).map tokR → ys.drop i = (Mt.findL (a ++ b) f' p r).map tokR → hamperlaw15_MatchAhead.l0 k a xs ys (p : Int) (i : Int) = some true := by
  have hs : (a ++ b).size = a.size + b.size := ByteArray.size_append
  intro f
  induction f with
  | zero =>
    intro f' k p i r h1 h2 h3 h4 h5 h6 hx hy
    obtain ⟨k, rfl⟩ : ∃ k', k = k' + 1 + 1 := ⟨k - 2, by omega⟩
    rw [hamperlaw15_MatchAhead.l0, w_258 p (by omega), Mt.w_one (p + 258) (by omega), decide_eq_false (by omega)]
    split <;> exact ahead_stop _ _ _ _ _ _
  | succ f ih =>
    intro f' k p i r h1 h2 h3 h4 h5 h6 hx hy
    obtain ⟨k, rfl⟩ : ∃ k', k = k' + 1 + 1 + 1 := ⟨k - 3, by omega⟩
    have h3' := fuel3 h3
    rw [hamperlaw15_MatchAhead.l0, w_258 p (by omega), Mt.w_one (p + 258) (by omega)]
    by_cases hp : p + 259 ≤ a.size
    · obtain ⟨f', rfl⟩ : ∃ g, f' = g + 1 := ⟨f' - 1, by omega⟩
      obtain ⟨e1, e2, e3⟩ := Mt.st_app a b hp r
      rw [Mt.findL_step (by omega), List.map_cons] at hx hy
      rw [e1, e2, e3] at hy
      obtain ⟨x1, x2, x3⟩ := Mt.rd_drop hx
      obtain ⟨y1, y2, y3⟩ := Mt.rd_drop hy
      obtain ⟨g1, g2⟩ := Mt.stP_bounds a p
      rw [if_pos (by omega), decide_eq_true (by omega), hamperlaw15_MatchAhead.j2, if_pos rfl, if_neg (by omega), if_pos (by omega), if_pos (by omega), if_pos (by omega), x1, y1]
      rw [show ((!((tokR (Mt.stT a p r)).f0 == (tokR (Mt.stT a p r)).f0)) || ((!((tokR (Mt.stT a p r)).f1 == (tokR (Mt.stT a p r)).f1)) || ((!((tokR (Mt.stT a p r)).f2 == (tokR (Mt.stT a p r)).f2)) || ((!((tokR (Mt.stT a p r)).f3 == (tokR (Mt.stT a p r)).f3)) || (!((tokR (Mt.stT a p r)).f4 == (tokR (Mt.stT a p r)).f4)))))) = false by simp]
      rw [hamperlaw15_MatchAhead.j3, if_neg Bool.false_ne_true, if_pos (by omega), if_pos (by omega), x1, Mt.w_one i (by omega)]
      have hn := ih f' k (Mt.stP a p) (i + 1) (Mt.stR a p r) (by omega) (by omega) h3' (by omega) (by omega) (by omega) x3 y3
      by_cases hk : (tokR (Mt.stT a p r)).f0 = 1
      · rw [if_pos hk, Mt.w_one p (by omega), ← Mt.st_lit (r := r) hk]
        exact hn
      · obtain ⟨m1, m2⟩ := Mt.st_mat (r := r) hk
        rw [if_neg hk, show (tokR (Mt.stT a p r)).f2 = ((Mt.longS a p).1 : Int) from m1, Mt.w_nat p _ (by omega), ← m2]
        exact hn
    · rw [decide_eq_false (by omega)]
      split <;> exact ahead_stop _ _ _ _ _ _
theorem ahead_true (k : Nat) (a b : ByteArray) (hk : 60 ≤ k) : hamperlaw15_MatchAhead.j0 (k + 1) a b true = some true := by
  rw [hamperlaw15_MatchAhead.j0, if_pos rfl]
  exact Mt.bind_eq (Mt.works_f k hk) rfl
theorem find_f (s : ByteArray) (h : s.size ≤ 80000) : match_Find.f s = some ((Mt.findS s).map tokR) := by
  unfold match_Find.f
  rw [if_pos h]
theorem ahead_false (k : Nat) (a b : ByteArray) (hk : 20000 ≤ k) (h1 : a.size ≤ 3000) (h2 : b.size ≤ 1000) : hamperlaw15_MatchAhead.j0 (k + 1) a b false = some true := by
  have hs : (a ++ b).size = a.size + b.size := ByteArray.size_append
  rw [hamperlaw15_MatchAhead.j0, if_neg Bool.false_ne_true]
  refine Mt.bind_eq (find_f a (by omega)) ?_
  rw [if_pos (by omega)]
  refine Mt.bind_eq (find_f (a ++ b) (by omega)) ?_
  exact ahead_loop a b _ _ h1 a.size (a ++ b).size k 0 0 (0, 0, 0, 0) (by omega) (by omega) (by omega) (by omega) (by omega) (by omega) List.drop_zero List.drop_zero
theorem ahead_all (k : Nat) (a b : ByteArray) (hk : 20000 ≤ k) : hamperlaw15_MatchAhead.f (k + 1) a b = some true := by
  have ht := ahead_true k a b (by omega)
  unfold hamperlaw15_MatchAhead.f
  refine Mt.bind_eq (Mt.works_f _ (by omega)) ?_
  rw [if_pos rfl]
  by_cases h1 : (a.size : Int) > 3000
  · rw [if_pos h1]
    exact ht
  rw [if_neg h1]
  by_cases h2 : (b.size : Int) > 1000
  · rw [decide_eq_true h2]
    exact ht
  rw [decide_eq_false h2]
  exact ahead_false k a b hk (by omega) (by omega)
theorem MatchAhead : hamperlaw15_MatchAhead.Pure := fun a b _ _ => ⟨20000 + 1, ahead_all 20000 a b (Nat.le_refl _)⟩
end Go.Proofs.Ytaooiffnpnmdeaa.Pure
