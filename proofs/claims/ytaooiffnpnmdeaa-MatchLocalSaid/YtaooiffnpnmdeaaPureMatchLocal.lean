/- MatchLocal: the longest match at a place is the longest and the nearest of all distances. -/
import Derived.Test.YtaooiffnpnmdeaaMtQ
import Derived.Test.YtaooiffnpnmdeaaPMtx15
namespace Go.Proofs.Ytaooiffnpnmdeaa.Pure
open Go.RowKit Go.Proofs.Ytaooiffnpnmdeaa.PMt Go.Proofs.YtaooiffnpnmdeaaW.PrintWords Go.Proofs.YtaooiffnpnmdeaaW.PrintLast Go.Proofs.YtaooiffnpnmdeaaW.PrintMore
set_option linter.unusedVariables false
theorem w_diff (a b : Nat) (h : b ≤ a) (h2 : a ≤ 1000000) : wrap64 ((a : Int) - (b : Int)) = ((a - b : Nat) : Int) := by rw [Mt.wrap_id (by omega) (by omega)]; omega
theorem local_tail {m n e d : Nat} (X : Option Bool) (h1 : 3 ≤ m → m ≤ n ∧ (m = n → d ≤ e)) (h2 : e = d → m = n) :
    (if (m : Int) ≥ 3 then (if (m : Int) > (n : Int) then (some false) else (if (m : Int) = (n : Int) then (if (e : Int) < (d : Int) then (some false) else (if (e : Int) = (d : Int) then X else X)) else (if (e : Int) = (d : Int) then (some false) else X))) else (if (e : Int) = (d : Int) then (if (m : Int) = (n : Int) then X else (some false)) else X)) = X := by
  by_cases c : (m : Int) ≥ 3
  · obtain ⟨a1, a2⟩ := h1 (by omega)
    rw [if_pos c, if_neg (by omega)]
    by_cases c2 : (m : Int) = (n : Int)
    · have := a2 (by omega)
      rw [if_pos c2, if_neg (by omega)]
      split <;> rfl
    · rw [if_neg c2, if_neg (fun h => c2 (by have := h2 (by omega); omega))]
  · rw [if_neg c]
    by_cases c2 : (e : Int) = (d : Int)
    · rw [if_pos c2, if_pos (by have := h2 (by omega); omega)]
    · rw [if_neg c2]
theorem local_l1 (s : ByteArray) (p n d e : Nat) (he : 1 ≤ e) (hep : e ≤ p) (hp : p < s.size) (hs : s.size ≤ 1500) (h1 : 3 ≤ Mt.ml s p e → Mt.ml s p e ≤ n ∧ (Mt.ml s p e = n → d ≤ e)) (h2 : e = d → Mt.ml s p e = n) (k : Nat) : ∀ f j, j + f = Mt.ml s p e → hamperlaw15_MatchLocal.l1 (k + f + 1) s (p : Int) (n : Int) (d : Int) (e : Int) (j : Int) = hamperlaw15_MatchLocal.l0 k s (p : Int) (n : Int) (d : Int) ((e + 1 : Nat) : Int)
  | 0, j, hj => by
    obtain rfl : j = Mt.ml s p e := by omega
    have hT := local_tail (hamperlaw15_MatchLocal.l0 k s (p : Int) (n : Int) (d : Int) ((e + 1 : Nat) : Int)) h1 h2
    have hall := (Mt.ml_ge (s := s) (p := p) (d := e)).1 (Nat.le_refl _)
    have hnot : Mt.ml s p e < 258 → p + Mt.ml s p e < s.size → Mt.same s (p + Mt.ml s p e) (p + Mt.ml s p e - e) = true → False := fun g1 g2 g3 => by
      have hge := (Mt.ml_ge (s := s) (p := p) (d := e) (m := Mt.ml s p e + 1)).2 ⟨by omega, fun i hi => by
        by_cases h : i = Mt.ml s p e
        · rw [h]
          exact ⟨g2, g3⟩
        · exact hall.2 i (by omega)⟩
      omega
    generalize Mt.ml s p e = m at hT hall hnot ⊢
    rw [Nat.add_zero, hamperlaw15_MatchLocal.l1, Mt.w_nat p m (by omega), Mt.w_one e (by omega)]
    by_cases c1 : (m : Int) < 258
    · rw [if_pos c1]
      by_cases c2 : ((p + m : Nat) : Int) < (s.size : Int)
      · rw [if_pos c2, if_pos (by omega), w_diff (p + m) e (by omega) (by omega), if_pos (by omega), if_pos (by omega)]
        rw [if_neg (fun h => hnot (by omega) (by omega) ((Mt.bt_same (by omega) (by omega)).1 h))]
        exact hT
      · rw [if_neg c2]
        exact hT
    · rw [if_neg c1]
      exact hT
  | f + 1, j, hj => by
    have hall := (Mt.ml_ge (s := s) (p := p) (d := e)).1 (Nat.le_refl _)
    have hjs := hall.2 j (by omega)
    have hm := hall.1
    rw [← Nat.add_assoc, hamperlaw15_MatchLocal.l1, Mt.w_nat p j (by omega), if_pos (by omega), if_pos (by omega), if_pos (by omega), w_diff (p + j) e (by omega) (by omega), if_pos (by omega), if_pos (by omega)]
    rw [if_pos ((Mt.bt_same (by omega) (by omega)).2 hjs.2), Mt.w_one j (by omega)]
    exact local_l1 s p n d e he hep hp hs h1 h2 k f (j + 1) (by omega)
theorem fuel_next {f m k : Nat} (hm : m ≤ 258) (h : (f + 1) * 260 < k + m + 1 + 1) : f * 260 < k := by
  rw [Nat.succ_mul] at h
  generalize f * 260 = z at h ⊢
  omega
theorem local_l0 (s : ByteArray) (p n d : Nat) (hp : p < s.size) (hs : s.size ≤ 1500) (h1 : ∀ e, 1 ≤ e → e ≤ p → 3 ≤ Mt.ml s p e → Mt.ml s p e ≤ n ∧ (Mt.ml s p e = n → d ≤ e)) (h2 : ∀ e, 1 ≤ e → e ≤ p → e = d → Mt.ml s p e = n) : ∀ f e k, 1 ≤ e → e + f = p + 1 → f * 260 < k → hamperlaw15_MatchLocal.l0 k s (p : Int) (n : Int) (d : Int) (e : Int) = some true := by
  intro f
  induction f with
  | zero =>
    intro e k he hf hk
    obtain ⟨k, rfl⟩ : ∃ k', k = k' + 1 := ⟨k - 1, by omega⟩
    rw [hamperlaw15_MatchLocal.l0, if_neg (by omega)]
  | succ f ih =>
    intro e k he hf hk
    have hm := Mt.ml_le s p e
    obtain ⟨k', rfl⟩ : ∃ k', k = (k' + Mt.ml s p e + 1) + 1 := ⟨k - Mt.ml s p e - 2, by omega⟩
    rw [hamperlaw15_MatchLocal.l0, if_pos (by omega)]
    have := local_l1 s p n d e he (by omega) hp hs (h1 e he (by omega)) (h2 e he (by omega)) k' (Mt.ml s p e) 0 (by omega)
    refine Eq.trans this ?_
    exact ih (e + 1) k' (by omega) (by omega) (fuel_next hm hk)
theorem local_true (k : Nat) (a : ByteArray) (p : Int) (hk : 60 ≤ k) : hamperlaw15_MatchLocal.j0 (k + 1) a p true = some true := by
  rw [hamperlaw15_MatchLocal.j0, if_pos rfl]
  exact Mt.bind_eq (Mt.works_f k hk) rfl
theorem local_false (k : Nat) (a : ByteArray) (p : Nat) (hk : 400000 ≤ k) (h1 : a.size ≤ 1500) (h2 : p < a.size) : hamperlaw15_MatchLocal.j0 (k + 1 + 1) a (p : Int) false = some true := by
  rw [hamperlaw15_MatchLocal.j0, if_neg Bool.false_ne_true]
  refine Mt.bind_eq (Mt.long_f _ _ (by omega)) ?_
  have e : Mt.longS a p = Mt.bestS a p p := by
    unfold Mt.longS
    rw [if_pos (by omega), Nat.min_eq_left (by omega)]
  rw [e]
  have hl := Mt.best_le a p p
  have hi := Mt.best_is a p p
  have hm := fun d h1 h2 h3 => Mt.best_most a p p d h1 h2 h3
  generalize Mt.bestS a p p = r at hl hi hm ⊢
  obtain ⟨n, d⟩ := r
  dsimp only at hl hi hm ⊢
  have hl1 : hamperlaw15_MatchLocal.j1 (k + 1) a (p : Int) (n : Int) (d : Int) false = some true := by
    rw [hamperlaw15_MatchLocal.j1, if_neg Bool.false_ne_true]
    refine local_l0 a p n d h2 h1 hm (fun e h3 h4 h5 => ?_) p 1 k (Nat.le_refl _) (by omega) (by omega)
    rcases hi with h | h
    · cases h
      omega
    · rw [h5]
      exact h.2.2.2
  rcases hi with h | ⟨i1, i2, i3, i4⟩
  · cases h
    exact hl1
  · rw [if_neg (by
      rw [show ((n : Int) == 0) = false from beq_eq_false_iff_ne.2 (by omega), show ((d : Int) == 0) = false from beq_eq_false_iff_ne.2 (by omega)]
      decide), if_pos (by omega), if_neg (by omega), if_neg (by omega), if_neg (by omega), decide_eq_false (by omega)]
    exact hl1
theorem local_all (k : Nat) (a : ByteArray) (p : Int) (hk : 400000 ≤ k) : hamperlaw15_MatchLocal.f (k + 1 + 1) a p = some true := by
  have ht := local_true (k + 1) a p (by omega)
  unfold hamperlaw15_MatchLocal.f
  refine Mt.bind_eq (Mt.works_f _ (by omega)) ?_
  rw [if_pos rfl]
  by_cases h1 : (a.size : Int) > 1500
  · rw [if_pos h1]
    exact ht
  rw [if_neg h1]
  by_cases h2 : p < 0
  · rw [if_pos h2]
    exact ht
  rw [if_neg h2]
  obtain ⟨q, rfl⟩ := Int.eq_ofNat_of_zero_le (Int.not_lt.1 h2)
  by_cases h3 : (q : Int) ≥ (a.size : Int)
  · rw [decide_eq_true h3]
    exact ht
  rw [decide_eq_false h3]
  exact local_false k a q hk (by omega) (by omega)
theorem MatchLocal : hamperlaw15_MatchLocal.Pure := fun a p _ _ => ⟨400000 + 1 + 1, local_all 400000 a p (Nat.le_refl _)⟩
end Go.Proofs.Ytaooiffnpnmdeaa.Pure
