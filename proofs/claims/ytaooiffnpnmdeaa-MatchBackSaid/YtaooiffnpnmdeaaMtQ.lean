/- What the longest match is, and the examples that each statement of the matcher's layer asks first. -/
import Derived.Test.YtaooiffnpnmdeaaMtP
import Derived.Test.YtaooiffnpnmdeaaPMtx13
import Derived.Test.YtaooiffnpnmdeaaPMtx8
import Derived.Test.YtaooiffnpnmdeaaPMtx14
namespace Go.Proofs.Ytaooiffnpnmdeaa.Mt
open Go.RowKit Go.Proofs.YtaooiffnpnmdeaaW.PrintWords Go.Proofs.YtaooiffnpnmdeaaW.PrintLast Go.Proofs.YtaooiffnpnmdeaaW.PrintMore Go.Proofs.Ytaooiffnpnmdeaa.PMt
set_option linter.unusedVariables false
set_option linter.unusedSimpArgs false
theorem best_is (s : ByteArray) (p : Nat) : ∀ D, bestS s p D = (0, 0) ∨ (3 ≤ (bestS s p D).1 ∧ 1 ≤ (bestS s p D).2 ∧ (bestS s p D).2 ≤ D ∧ ml s p (bestS s p D).2 = (bestS s p D).1)
  | 0 => .inl rfl
  | D + 1 => by
    rw [bestS]
    by_cases h : 3 ≤ ml s p (D + 1) ∧ (bestS s p D).1 < ml s p (D + 1)
    · rw [if_pos h]
      exact .inr ⟨h.1, by omega, Nat.le_refl _, rfl⟩
    · rw [if_neg h]
      rcases best_is s p D with e | ⟨e1, e2, e3, e4⟩
      · exact .inl e
      · exact .inr ⟨e1, e2, by omega, e4⟩
theorem best_most (s : ByteArray) (p : Nat) : ∀ D d, 1 ≤ d → d ≤ D → 3 ≤ ml s p d → ml s p d ≤ (bestS s p D).1 ∧ (ml s p d = (bestS s p D).1 → (bestS s p D).2 ≤ d)
  | 0, d, h1, h2, _ => by omega
  | D + 1, d, h1, h2, h3 => by
    rw [bestS]
    by_cases h : 3 ≤ ml s p (D + 1) ∧ (bestS s p D).1 < ml s p (D + 1)
    · rw [if_pos h]
      by_cases hd : d = D + 1
      · subst hd
        exact ⟨Nat.le_refl _, fun _ => Nat.le_refl _⟩
      · have ih := best_most s p D d h1 (by omega) h3
        refine ⟨by show ml s p d ≤ ml s p (D + 1); omega, fun e => ?_⟩
        have e' : ml s p d = ml s p (D + 1) := e
        omega
    · rw [if_neg h]
      by_cases hd : d = D + 1
      · subst hd
        refine ⟨by omega, fun e => ?_⟩
        have := best_far s p D
        omega
      · exact best_most s p D d h1 (by omega) h3
theorem wrap_id {x : Int} (h0 : -9223372036854775808 ≤ x) (h1 : x ≤ 9223372036854775807) : wrap64 x = x := by unfold wrap64; omega
theorem w_nat (a b : Nat) (h : a + b ≤ 1000000) : wrap64 ((a : Int) + (b : Int)) = ((a + b : Nat) : Int) := by rw [wrap_id (by omega) (by omega)]; omega
theorem w_one (a : Nat) (h : a + 1 ≤ 1000000) : wrap64 ((a : Int) + 1) = ((a + 1 : Nat) : Int) := w_nat a 1 h
theorem bind_eq {α β : Type} {o : Option α} {a : α} {f : α → Option β} {r : Option β} (h : o = some a) (h2 : f a = r) : o.bind f = r := by rw [h]; exact h2
theorem long_f (s : ByteArray) (p : Nat) (h : s.size ≤ 80000) : match_Longest.f s (p : Int) = some (((longS s p).1 : Int), ((longS s p).2 : Int)) := by
  unfold match_Longest.f longZ
  rw [if_pos h, if_pos (Int.natCast_nonneg _), Int.toNat_natCast]
theorem bt_nat {s : ByteArray} {k : Nat} (hk : k < s.size) : bt s (k : Int) = ((s[k]).toNat : Int) :=
  (bt_at s (k : Int) (by rw [Int.toNat_natCast]; exact hk)).symm.trans (by simp only [Int.toNat_natCast])
theorem bt_same {s : ByteArray} {i j : Nat} (hi : i < s.size) (hj : j < s.size) : (bt s (i : Int) = bt s (j : Int)) ↔ same s i j = true := by
  rw [same_iff hi hj, bt_nat hi, bt_nat hj]
  constructor
  · intro h
    have h2 : s[i] = s[j] := UInt8.toNat_inj.1 (by omega)
    first | exact h2 | (rw [h2]; exact beq_self_eq_true _)
  · intro h
    have h2 : s[i] = s[j] := by first | exact h | exact eq_of_beq h
    rw [h2]
theorem same_at {s : ByteArray} {i j : Nat} (h : s.data[i]? = s.data[j]?) : same s i j = true := by
  unfold same
  rw [h]
  exact beq_self_eq_true _
set_option maxRecDepth 100000 in
theorem works_at : hamperlaw15_works.f 60 = some true := by decide +kernel
theorem works_f (k : Nat) (h : 60 ≤ k) : hamperlaw15_works.f k = some true := at_rounds hamperlaw15_works.mono h works_at
end Go.Proofs.Ytaooiffnpnmdeaa.Mt
