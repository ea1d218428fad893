/- Find's tokens step by step. -/
import Derived.Test.YtaooiffnpnmdeaaMtQ
import Derived.Test.YtaooiffnpnmdeaaMtH
import Derived.Test.YtaooiffnpnmdeaaPMtx8
namespace Go.Proofs.Ytaooiffnpnmdeaa.Mt
open Go.RowKit Go.Proofs.YtaooiffnpnmdeaaW.PrintWords Go.Proofs.YtaooiffnpnmdeaaW.PrintLast Go.Proofs.YtaooiffnpnmdeaaW.PrintMore Go.Proofs.Ytaooiffnpnmdeaa.PMt
set_option linter.unusedVariables false
def stC (s : ByteArray) (p : Nat) : Prop := (longS s p).1 = 0 ∨ (longS s p).1 < (longS s (p + 1)).1
instance (s : ByteArray) (p : Nat) : Decidable (stC s p) := by unfold stC; infer_instance
def stT (s : ByteArray) (p : Nat) (r : Int × Int × Int × Int) : Tok := if stC s p then litT s p else matT (longS s p).1 (longS s p).2 r
def stP (s : ByteArray) (p : Nat) : Nat := if stC s p then p + 1 else p + (longS s p).1
def stR (s : ByteArray) (p : Nat) (r : Int × Int × Int × Int) : Int × Int × Int × Int := if stC s p then r else PIx.front r.1 r.2.1 r.2.2.1 r.2.2.2 ((longS s p).2 : Int)
theorem findL_step {s : ByteArray} {p : Nat} (h : p < s.size) (f : Nat) (r : Int × Int × Int × Int) : findL s (f + 1) p r = stT s p r :: findL s f (stP s p) (stR s p r) := by
  rw [findL, if_pos h]
  unfold stT stP stR
  by_cases c : stC s p
  · rw [if_pos c, if_pos c, if_pos c]
    exact if_pos c
  · rw [if_neg c, if_neg c, if_neg c]
    exact if_neg c
theorem long_le (s : ByteArray) (p : Nat) : (longS s p).1 ≤ 258 := by
  unfold longS
  split
  · exact best_le _ _ _
  · exact Nat.zero_le _
theorem stP_bounds (s : ByteArray) (p : Nat) : p < stP s p ∧ stP s p ≤ p + 258 := by
  unfold stP
  have := long_le s p
  by_cases c : stC s p
  · rw [if_pos c]
    omega
  · rw [if_neg c]
    have : (longS s p).1 ≠ 0 := fun h => c (.inl h)
    omega
theorem st_lit {s : ByteArray} {p : Nat} {r : Int × Int × Int × Int} (h : (stT s p r).kind = 1) : stP s p = p + 1 := by
  unfold stT at h
  unfold stP
  by_cases c : stC s p
  · rw [if_pos c]
  · rw [if_neg c] at h
    unfold matT at h
    split at h
    · exact absurd (show (3 : Int) = 1 from h) (by decide)
    · exact absurd (show (2 : Int) = 1 from h) (by decide)
theorem st_mat {s : ByteArray} {p : Nat} {r : Int × Int × Int × Int} (h : (stT s p r).kind ≠ 1) : (stT s p r).len = ((longS s p).1 : Int) ∧ stP s p = p + (longS s p).1 := by
  unfold stT at h ⊢
  unfold stP
  by_cases c : stC s p
  · rw [if_pos c] at h
    exact absurd rfl h
  · rw [if_neg c, if_neg c]
    refine ⟨?_, rfl⟩
    unfold matT
    split <;> rfl
theorem same_app (a b : ByteArray) {i j : Nat} (hi : i < a.size) (hj : j < a.size) : same (a ++ b) i j = same a i j := by
  unfold same
  rw [ByteArray.data_append, Array.getElem?_append_left hi, Array.getElem?_append_left hj]
theorem ml_app (a b : ByteArray) {p d : Nat} (h : p + 258 ≤ a.size) : ml (a ++ b) p d = ml a p d := by
  have hs : (a ++ b).size = a.size + b.size := ByteArray.size_append
  have key : ∀ m, m ≤ ml (a ++ b) p d ↔ m ≤ ml a p d := fun m => by
    rw [ml_ge, ml_ge]
    constructor
    · rintro ⟨h1, h2⟩
      exact ⟨h1, fun j hj => ⟨by omega, by rw [← same_app a b (by omega) (by omega)]; exact (h2 j hj).2⟩⟩
    · rintro ⟨h1, h2⟩
      exact ⟨h1, fun j hj => ⟨by omega, by rw [same_app a b (by omega) (by omega)]; exact (h2 j hj).2⟩⟩
  exact Nat.le_antisymm ((key _).1 (Nat.le_refl _)) ((key _).2 (Nat.le_refl _))
theorem best_app (a b : ByteArray) {p : Nat} (h : p + 258 ≤ a.size) : ∀ D, bestS (a ++ b) p D = bestS a p D
  | 0 => rfl
  | D + 1 => by rw [bestS, bestS, ml_app a b h, best_app a b h D]
theorem long_app (a b : ByteArray) {p : Nat} (h : p + 258 ≤ a.size) : longS (a ++ b) p = longS a p := by
  have hs : (a ++ b).size = a.size + b.size := ByteArray.size_append
  unfold longS
  rw [if_pos (by omega), if_pos (by omega), best_app a b h]
theorem lit_app (a b : ByteArray) {p : Nat} (h : p < a.size) : litT (a ++ b) p = litT a p := by
  unfold litT
  have e : (a ++ b).data.getD p 0 = a.data.getD p 0 := by
    rw [Array.getD_eq_getD_getElem?, Array.getD_eq_getD_getElem?, ByteArray.data_append, Array.getElem?_append_left h]
  rw [e]
theorem st_app (a b : ByteArray) {p : Nat} (h : p + 259 ≤ a.size) (r : Int × Int × Int × Int) : stT (a ++ b) p r = stT a p r ∧ stP (a ++ b) p = stP a p ∧ stR (a ++ b) p r = stR a p r := by
  have e1 := long_app a b (p := p) (by omega)
  have e2 := long_app a b (p := p + 1) (by omega)
  have e3 := lit_app a b (p := p) (by omega)
  have hc : stC (a ++ b) p ↔ stC a p := by unfold stC; rw [e1, e2]
  unfold stT stP stR
  by_cases c : stC a p
  · rw [if_pos c, if_pos c, if_pos c, if_pos (hc.2 c), if_pos (hc.2 c), if_pos (hc.2 c)]
    exact ⟨e3, rfl, rfl⟩
  · have c' : ¬ stC (a ++ b) p := fun h => c (hc.1 h)
    rw [if_neg c, if_neg c, if_neg c, if_neg c', if_neg c', if_neg c', e1]
    exact ⟨rfl, rfl, rfl⟩
theorem rd_drop {xs l : List S27} {i : Nat} {t : S27} (h : xs.drop i = t :: l) : rd_T27 xs (i : Int) = t ∧ i < xs.length ∧ xs.drop (i + 1) = l := by
  have hl : i < xs.length := by
    have := congrArg List.length h
    rw [List.length_drop, List.length_cons] at this
    omega
  have e := List.drop_eq_getElem_cons hl
  rw [h] at e
  injection e with e1 e2
  refine ⟨?_, hl, e2.symm⟩
  unfold rd_T27
  rw [Int.toNat_natCast, List.getD_eq_getElem?_getD, List.getElem?_eq_getElem hl, ← e1]
  rfl
end Go.Proofs.Ytaooiffnpnmdeaa.Mt
