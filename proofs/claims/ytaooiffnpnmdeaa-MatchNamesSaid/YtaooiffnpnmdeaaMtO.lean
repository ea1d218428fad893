/- The longest matches of a text of one byte alone, and of a text that stands at both ends of such a one. -/
import Derived.Test.YtaooiffnpnmdeaaMtS
import Derived.Test.YtaooiffnpnmdeaaPMtx19
namespace Go.Proofs.Ytaooiffnpnmdeaa.Mt
open Go.RowKit Go.Proofs.Ytaooiffnpnmdeaa.PMt Go.Proofs.YtaooiffnpnmdeaaW.PrintWords Go.Proofs.YtaooiffnpnmdeaaW.PrintLast Go.Proofs.YtaooiffnpnmdeaaW.PrintMore
set_option linter.unusedVariables false
/-- A text of n bytes that are all the same. -/
structure OneT (s : ByteArray) (n : Nat) (b : UInt8) : Prop where
  size : s.size = n
  at_ : ∀ i, i < n → s.data[i]? = some b
theorem OneT.ml {s : ByteArray} {n : Nat} {b : UInt8} (h : OneT s n b) (p d : Nat) : Mt.ml s p d = min 258 (n - p) := by
  have hs := h.size
  have key : ∀ m, m ≤ Mt.ml s p d ↔ m ≤ min 258 (n - p) := fun m => by
    rw [Mt.ml_ge]
    constructor
    · rintro ⟨h1, h2⟩
      by_cases hm : m = 0
      · omega
      · have := (h2 (m - 1) (by omega)).1
        omega
    · intro hm
      exact ⟨by omega, fun j hj => ⟨by omega, same_at ((h.at_ _ (by omega)).trans (h.at_ _ (by omega)).symm)⟩⟩
  exact Nat.le_antisymm ((key _).1 (Nat.le_refl _)) ((key _).2 (Nat.le_refl _))
theorem OneT.best {s : ByteArray} {n : Nat} {b : UInt8} (h : OneT s n b) (p : Nat) : ∀ D, Mt.bestS s p (D + 1) = if 3 ≤ min 258 (n - p) then (min 258 (n - p), 1) else (0, 0)
  | 0 => by
    rw [Mt.bestS, Mt.bestS, h.ml p 1]
    by_cases c : 3 ≤ min 258 (n - p)
    · rw [if_pos c, if_pos ⟨c, by show 0 < _; omega⟩]
    · rw [if_neg c, if_neg fun e => c e.1]
  | D + 1 => by
    have ih := h.best p D
    rw [Mt.bestS, h.ml p (D + 1 + 1), if_neg, ih]
    rintro ⟨c, e⟩
    rw [ih, if_pos c] at e
    exact Nat.lt_irrefl _ e
theorem OneT.long {s : ByteArray} {n : Nat} {b : UInt8} (h : OneT s n b) {p : Nat} (hp : 1 ≤ p) : Mt.longS s p = if 3 ≤ min 258 (n - p) then (min 258 (n - p), 1) else (0, 0) := by
  have hs := h.size
  unfold Mt.longS
  by_cases c : p < s.size
  · rw [if_pos c, show min p 32768 = (min p 32768 - 1) + 1 by omega, h.best]
  · rw [if_neg c, if_neg (by omega)]
theorem OneT.lit {s : ByteArray} {n : Nat} {b : UInt8} (h : OneT s n b) {p : Nat} (hp : 1 ≤ p) (hn : p < n) (h3 : n - p < 3) (f : Nat) (r : Int × Int × Int × Int) : Mt.findL s (f + 1) p r = Mt.litT s p :: Mt.findL s f (p + 1) r := by
  have e1 := h.long hp
  rw [if_neg (by omega)] at e1
  rw [Mt.findL, if_pos (by have := h.size; omega), if_pos (.inl (by rw [e1]))]
theorem OneT.head {s : ByteArray} {n : Nat} {b : UInt8} (h : OneT s n b) (hn : 0 < n) (m : Nat) (r : Int × Int × Int × Int) : Mt.findL s (m + 1) 0 r = Mt.litT s 0 :: Mt.findL s m 1 r := by
  have hs := h.size
  have e : (Mt.longS s 0).1 = 0 := by
    unfold Mt.longS
    rw [if_pos (by omega), Nat.zero_min]
    rfl
  rw [Mt.findL, if_pos (by omega), if_pos (.inl e)]
theorem OneT.big {s : ByteArray} {n : Nat} {b : UInt8} (h : OneT s n b) {p : Nat} (hp : 1 ≤ p) (hn : 258 ≤ n - p) (f : Nat) (r : Int × Int × Int × Int) : Mt.findL s (f + 1) p r = Mt.matT 258 1 r :: Mt.findL s f (p + 258) (PIx.front r.1 r.2.1 r.2.2.1 r.2.2.2 1) := by
  have e1 := h.long hp
  have e2 := h.long (p := p + 1) (by omega)
  rw [if_pos (by omega), Nat.min_eq_left hn] at e1
  have e3 : (Mt.longS s (p + 1)).1 ≤ 258 := long_le s (p + 1)
  rw [Mt.findL, if_pos (by have := h.size; omega), if_neg, e1]
  · rfl
  · rw [e1]
    rintro (g | g)
    · exact absurd g (by decide)
    · have g2 : 258 < (Mt.longS s (p + 1)).1 := g
      omega
theorem OneT.find260 {s : ByteArray} {b : UInt8} (h : OneT s 260 b) : Mt.findS s = [Mt.litT s 0, Mt.matT 258 1 (0, 0, 0, 0), Mt.litT s 259] := by
  unfold Mt.findS
  rw [h.size]
  refine (h.head (by decide) 259 _).trans ?_
  rw [show Mt.findL s 259 1 (0, 0, 0, 0) = _ from h.big (by decide) (by decide) 258 _]
  rw [show Mt.findL s 258 (1 + 258) _ = _ from h.lit (by decide) (by decide) (by decide) 257 _]
  rw [Mt.findL_end (by rw [h.size]; decide)]
theorem OneT.find261 {s : ByteArray} {b : UInt8} (h : OneT s 261 b) : Mt.findS s = [Mt.litT s 0, Mt.matT 258 1 (0, 0, 0, 0), Mt.litT s 259, Mt.litT s 260] := by
  unfold Mt.findS
  rw [h.size]
  refine (h.head (by decide) 260 _).trans ?_
  rw [show Mt.findL s 260 1 (0, 0, 0, 0) = _ from h.big (by decide) (by decide) 259 _]
  rw [show Mt.findL s 259 (1 + 258) _ = _ from h.lit (by decide) (by decide) (by decide) 258 _]
  rw [show Mt.findL s 258 (1 + 258 + 1) _ = _ from h.lit (by decide) (by decide) (by decide) 257 _]
  rw [Mt.findL_end (by rw [h.size]; decide)]
/-- 'xyz', as many others, 'xyz' again. -/
def xyz : ByteArray := ⟨#[120, 121, 122]⟩
def ends (m : ByteArray) : ByteArray := (xyz ++ m) ++ xyz
theorem ends_size {m : ByteArray} {n : Nat} {b : UInt8} (h : OneT m n b) : (ends m).size = n + 6 := by
  have e1 : ((xyz ++ m) ++ xyz).size = (xyz ++ m).size + xyz.size := ByteArray.size_append
  have e2 : (xyz ++ m).size = xyz.size + m.size := ByteArray.size_append
  have e3 : xyz.size = 3 := rfl
  have e4 := h.size
  unfold ends
  omega
theorem ends_at {m : ByteArray} {n : Nat} {b : UInt8} (h : OneT m n b) (i : Nat) (hi : i < 3) : (ends m).data[i]? = xyz.data[i]? ∧ (ends m).data[n + 3 + i]? = xyz.data[i]? := by
  have e2 : (xyz ++ m).data.size = 3 + n := by
    have : (xyz ++ m).size = xyz.size + m.size := ByteArray.size_append
    rw [h.size] at this
    exact this
  have e3 : xyz.data.size = 3 := rfl
  unfold ends
  rw [ByteArray.data_append]
  refine ⟨?_, ?_⟩
  · rw [Array.getElem?_append_left (by omega), ByteArray.data_append, Array.getElem?_append_left (by omega)]
  · rw [Array.getElem?_append_right (by omega), e2, show n + 3 + i - (3 + n) = i by omega]
theorem ends_mid {m : ByteArray} {n : Nat} {b : UInt8} (h : OneT m n b) (i : Nat) (hi : i < n) : (ends m).data[3 + i]? = some b := by
  have e2 : (xyz ++ m).data.size = 3 + n := by
    have : (xyz ++ m).size = xyz.size + m.size := ByteArray.size_append
    rw [h.size] at this
    exact this
  have e3 : xyz.data.size = 3 := rfl
  unfold ends
  rw [ByteArray.data_append, Array.getElem?_append_left (by omega), ByteArray.data_append, Array.getElem?_append_right (by omega), e3, show 3 + i - 3 = i by omega]
  exact h.at_ i hi
theorem ends_not {m : ByteArray} {n : Nat} (h : OneT m n 45) (q : Nat) (h1 : 1 ≤ q) (h2 : q < n + 3) : (ends m).data[q]? ≠ some 120 := by
  by_cases c : q < 3
  · rw [(ends_at h q c).1]
    rcases (show q = 1 ∨ q = 2 by omega) with rfl | rfl <;> decide
  · rw [show q = 3 + (q - 3) by omega, ends_mid h (q - 3) (by omega)]
    decide
theorem ends_none {m : ByteArray} {n : Nat} (h : OneT m n 45) (d : Nat) (h1 : 1 ≤ d) (h2 : d < n + 3) : ml (ends m) (n + 3) d = 0 := by
  apply Nat.eq_zero_of_not_pos
  intro hp
  have g := ((ml_ge (s := ends m) (p := n + 3) (d := d) (m := 1)).1 hp).2 0 (by decide)
  have e := eq_of_beq (show (_ == _) = true from g.2)
  rw [(ends_at h 0 (by decide)).2] at e
  exact ends_not h (n + 3 + 0 - d) (by omega) (by omega) e.symm
theorem ends_best {m : ByteArray} {n : Nat} (h : OneT m n 45) : ∀ D, D < n + 3 → bestS (ends m) (n + 3) D = (0, 0)
  | 0, _ => rfl
  | D + 1, hD => by
    rw [bestS, ends_none h (D + 1) (by omega) hD, if_neg (by rintro ⟨g, _⟩; exact absurd g (by decide)), ends_best h D (by omega)]
theorem ends_three {m : ByteArray} {n : Nat} (h : OneT m n 45) : ml (ends m) (n + 3) (n + 3) = 3 := by
  have hs := ends_size h
  have g3 : 3 ≤ ml (ends m) (n + 3) (n + 3) := ml_ge.2 ⟨by decide, fun j hj => ⟨by omega, by
    apply same_at
    rw [(ends_at h j hj).2, show n + 3 + j - (n + 3) = j by omega, (ends_at h j hj).1]⟩⟩
  have g4 : ¬ 4 ≤ ml (ends m) (n + 3) (n + 3) := fun g => by
    have := ((ml_ge.1 g).2 3 (by decide)).1
    omega
  omega
theorem far_one {m : ByteArray} (h : OneT m 32765 45) : match_Longest.f (ends m) 32768 = some (3, 32768) := by
  have hs := ends_size h
  refine (long_f (ends m) 32768 (by omega)).trans ?_
  have e : longS (ends m) 32768 = (3, 32768) := by
    unfold longS
    rw [if_pos (by omega), Nat.min_self]
    have hb := ends_best h 32767 (by decide)
    have h3 := ends_three h
    show bestS (ends m) 32768 (32767 + 1) = _
    rw [bestS]
    rw [show bestS (ends m) 32768 32767 = (0, 0) from hb, show ml (ends m) 32768 (32767 + 1) = 3 from h3]
    rfl
  rw [e]
  rfl
theorem far_two {m : ByteArray} (h : OneT m 32766 45) : match_Longest.f (ends m) 32769 = some (0, 0) := by
  have hs := ends_size h
  refine (long_f (ends m) 32769 (by omega)).trans ?_
  have e : longS (ends m) 32769 = (0, 0) := by
    unfold longS
    rw [if_pos (by omega)]
    exact ends_best h 32768 (by decide)
  rw [e]
  rfl
theorem many_loop (c : UInt8) (n : Nat) (hn : n ≤ 100000) : ∀ f i k m, i + f = n → f < k → OneT m i c → ∃ m', hamperlaw15_many.l0 k (n : Int) ⟨#[c]⟩ m (i : Int) = some m' ∧ OneT m' n c := by
  intro f
  induction f with
  | zero =>
    intro i k m h1 h2 h3
    obtain ⟨k, rfl⟩ : ∃ k', k = k' + 1 := ⟨k - 1, by omega⟩
    obtain rfl : i = n := by omega
    exact ⟨m, by rw [hamperlaw15_many.l0, if_neg (by omega)], h3⟩
  | succ f ih =>
    intro i k m h1 h2 h3
    obtain ⟨k, rfl⟩ : ∃ k', k = k' + 1 := ⟨k - 1, by omega⟩
    have hs := h3.size
    have e1 : (⟨#[c]⟩ : ByteArray).size = 1 := rfl
    rw [hamperlaw15_many.l0, if_pos (by omega), if_pos (by omega), w_one i (by omega)]
    refine ih (i + 1) k _ (by omega) (by omega) ⟨by rw [ByteArray.size_append, hs, e1], fun j hj => ?_⟩
    have hz : m.data.size = i := hs
    rw [ByteArray.data_append]
    by_cases hc : j < i
    · rw [Array.getElem?_append_left (by omega)]
      exact h3.at_ j hc
    · rw [Array.getElem?_append_right (by omega), show j - m.data.size = 0 by omega]
      rfl
theorem many_f (c : UInt8) (n k : Nat) (hn : n ≤ 100000) (hk : n < k) : ∃ m', hamperlaw15_many.f k (n : Int) ⟨#[c]⟩ = some m' ∧ OneT m' n c :=
  many_loop c n hn n 0 k _ (by omega) hk ⟨rfl, fun i hi => by omega⟩
end Go.Proofs.Ytaooiffnpnmdeaa.Mt
