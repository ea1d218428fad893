/- The longest match in plain words: the scan over the places tells what the walk over all distances does. -/
import Derived.Test.YtaooiffnpnmdeaaMtF
namespace Go.Proofs.Ytaooiffnpnmdeaa.Mt
set_option linter.unusedVariables false
set_option linter.unusedSimpArgs false
theorem mlen_ge (s : ByteArray) (p d m : Nat) : ∀ f k, m ≤ mlen s p d f k ↔ m ≤ k ∨ (m ≤ f + k ∧ ∀ j, k ≤ j → j < m → p + j < s.size ∧ same s (p + j) (p + j - d) = true)
  | 0, k => by
    rw [mlen]
    constructor
    · exact .inl
    · rintro (h | ⟨h, _⟩)
      · exact h
      · omega
  | f + 1, k => by
    rw [mlen]
    by_cases hc : p + k < s.size ∧ same s (p + k) (p + k - d) = true
    · rw [if_pos hc, mlen_ge s p d m f (k + 1)]
      constructor
      · rintro (h | ⟨h1, h2⟩)
        · by_cases hk : m ≤ k
          · exact .inl hk
          · refine .inr ⟨by omega, fun j hj1 hj2 => ?_⟩
            obtain rfl : j = k := by omega
            exact hc
        · by_cases hk : m ≤ k
          · exact .inl hk
          · refine .inr ⟨by omega, fun j hj1 hj2 => ?_⟩
            by_cases hj : j = k
            · rw [hj]; exact hc
            · exact h2 j (by omega) hj2
      · rintro (h | ⟨h1, h2⟩)
        · exact .inl (by omega)
        · by_cases hk : m ≤ k + 1
          · exact .inl hk
          · exact .inr ⟨by omega, fun j hj1 hj2 => h2 j (by omega) hj2⟩
    · rw [if_neg hc]
      constructor
      · exact .inl
      · rintro (h | ⟨h1, h2⟩)
        · exact h
        · by_cases hk : m ≤ k
          · exact hk
          · exact absurd (h2 k (Nat.le_refl _) (by omega)) hc
theorem ml_ge {s : ByteArray} {p d m : Nat} : m ≤ ml s p d ↔ m ≤ 258 ∧ ∀ j, j < m → p + j < s.size ∧ same s (p + j) (p + j - d) = true := by
  unfold ml
  rw [mlen_ge]
  constructor
  · rintro (h | ⟨h1, h2⟩)
    · exact ⟨by omega, fun j hj => by omega⟩
    · exact ⟨by omega, fun j hj => h2 j (Nat.zero_le _) hj⟩
  · rintro ⟨h1, h2⟩
    exact .inr ⟨by omega, fun j _ hj => h2 j hj⟩
theorem kt_get (s : ByteArray) (p i : Nat) : (kt s p)[i]? = if i < 3 then s.data[p + i]? else none := by
  unfold kt
  rw [ByteArray.data_extract, Array.toList_extract, List.extract_eq_take_drop, List.getElem?_take, List.getElem?_drop]
  rw [show p + 3 - p = 3 by omega, Array.getElem?_toList]
theorem kt_eq {s : ByteArray} {p q : Nat} (hq : q < p) (hp : p + 3 ≤ s.size) : kt s q = kt s p ↔ 3 ≤ ml s p (p - q) := by
  rw [ml_ge]
  constructor
  · intro h
    refine ⟨by decide, fun j hj => ⟨by omega, ?_⟩⟩
    have h1 := kt_get s q j
    have h2 := kt_get s p j
    rw [if_pos hj] at h1 h2
    rw [h, h2] at h1
    unfold same
    rw [show p + j - (p - q) = q + j by omega, h1]
    exact beq_self_eq_true _
  · rintro ⟨_, h⟩
    apply List.ext_getElem?
    intro i
    rw [kt_get, kt_get]
    by_cases hi : i < 3
    · rw [if_pos hi, if_pos hi]
      have := (h i hi).2
      unfold same at this
      rw [show p + i - (p - q) = q + i by omega] at this
      exact (eq_of_beq this).symm
    · rw [if_neg hi, if_neg hi]
/-- The best of the distances up to one: the longest, the nearest of those. -/
def bestS (s : ByteArray) (p : Nat) : Nat → Nat × Nat
  | 0 => (0, 0)
  | D + 1 => if 3 ≤ ml s p (D + 1) ∧ (bestS s p D).1 < ml s p (D + 1) then (ml s p (D + 1), D + 1) else bestS s p D
def longS (s : ByteArray) (p : Nat) : Nat × Nat := if p < s.size then bestS s p (min p 32768) else (0, 0)
theorem best_le (s : ByteArray) (p : Nat) : ∀ D, (bestS s p D).1 ≤ 258
  | 0 => by rw [bestS]; decide
  | D + 1 => by
    rw [bestS]
    split
    · exact ml_le _ _ _
    · exact best_le s p D
theorem best_full (s : ByteArray) (p : Nat) {D : Nat} (h : 258 ≤ (bestS s p D).1) : ∀ k, bestS s p (D + k) = bestS s p D
  | 0 => rfl
  | k + 1 => by
    have ih := best_full s p h k
    rw [show D + (k + 1) = (D + k) + 1 by omega, bestS, ih, if_neg]
    intro hc
    have := ml_le s p (D + k + 1)
    omega
theorem scan_best (s : ByteArray) (p : Nat) (hp : p + 3 ≤ s.size) : ∀ N (r : Nat × Nat), r = bestS s p (min (p - N) 32768) → r.1 < 258 → scan s p (occ s N (kt s p)).reverse r = bestS s p (min p 32768)
  | 0, r, hr, h1 => by
    rw [hr]
    rfl
  | N + 1, r, hr, h1 => by
    rw [occ_succ]
    by_cases hf : kt s N = kt s p
    · rw [if_pos hf, List.reverse_append, List.reverse_singleton, List.singleton_append, scan]
      by_cases hN : p ≤ N
      · rw [if_pos hN]
        exact scan_best s p hp N r (by rw [hr, show p - (N + 1) = p - N by omega]) h1
      · rw [if_neg hN]
        by_cases hd : 32768 < p - N
        · rw [if_pos hd, hr]
          congr 1
          omega
        · rw [if_neg hd]
          have h3 := (kt_eq (by omega) hp).1 hf
          have hb : stepB s p N r = bestS s p (min (p - N) 32768) := by
            rw [show min (p - N) 32768 = (p - (N + 1)) + 1 by omega, bestS, show (p - (N + 1)) + 1 = p - N by omega]
            have e : bestS s p (p - (N + 1)) = r := by rw [hr]; congr 1; omega
            rw [e]
            unfold stepB
            by_cases hl : r.1 < ml s p (p - N)
            · rw [if_pos hl, if_pos ⟨h3, hl⟩]
            · rw [if_neg hl, if_neg fun h => hl h.2]
          rw [hb]
          by_cases hlt : (bestS s p (min (p - N) 32768)).1 < 258
          · rw [if_pos hlt]
            exact scan_best s p hp N _ rfl hlt
          · rw [if_neg hlt]
            have := best_full s p (Nat.le_of_not_lt hlt) (min p 32768 - min (p - N) 32768)
            rw [← this]
            congr 1
            omega
    · rw [if_neg hf, List.append_nil]
      refine scan_best s p hp N r ?_ h1
      rw [hr]
      by_cases hN : p ≤ N
      · rw [show p - (N + 1) = p - N by omega]
      · by_cases hd : 32768 < p - N
        · congr 1; omega
        · rw [show min (p - N) 32768 = (p - (N + 1)) + 1 by omega, bestS, if_neg]
          · congr 1; omega
          · rintro ⟨h3, _⟩
            rw [show (p - (N + 1)) + 1 = p - N by omega] at h3
            exact hf ((kt_eq (by omega) hp).2 h3)
theorem best_short {s : ByteArray} {p : Nat} (h : s.size < p + 3) : ∀ D, bestS s p D = (0, 0)
  | 0 => rfl
  | D + 1 => by
    rw [bestS, best_short h D, if_neg]
    rintro ⟨h3, _⟩
    have := ((ml_ge.1 h3).2 2 (by decide)).1
    omega
theorem longS_short {s : ByteArray} {p : Nat} (h : s.size < p + 3) : longS s p = (0, 0) := by
  unfold longS
  split
  · exact best_short h _
  · rfl
theorem scan_long {s : ByteArray} {p kn : Nat} (hp : p + 3 ≤ s.size) (hk : p ≤ kn) : scan s p (occ s kn (kt s p)).reverse (0, 0) = longS s p := by
  rw [scan_best s p hp kn (0, 0) (by rw [show p - kn = 0 by omega]; rfl) (by decide)]
  unfold longS
  rw [if_pos (by omega)]
end Go.Proofs.Ytaooiffnpnmdeaa.Mt
