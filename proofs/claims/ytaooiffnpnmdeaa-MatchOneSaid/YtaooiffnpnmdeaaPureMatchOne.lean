/- MatchOne: a text of one byte alone becomes a literal and matches of 258 bytes. -/
import Derived.Test.YtaooiffnpnmdeaaMtS
import Derived.Test.YtaooiffnpnmdeaaPMtx17
namespace Go.Proofs.Ytaooiffnpnmdeaa.Pure
open Go.RowKit Go.Proofs.Ytaooiffnpnmdeaa.PMt Go.Proofs.YtaooiffnpnmdeaaW.PrintWords Go.Proofs.YtaooiffnpnmdeaaW.PrintLast Go.Proofs.YtaooiffnpnmdeaaW.PrintMore
set_option linter.unusedVariables false
/-- A text of n bytes that are all the same. -/
structure OneS (s : ByteArray) (n : Nat) (b : UInt8) : Prop where
  size : s.size = n
  at_ : ∀ i, i < n → s.data[i]? = some b
theorem OneS.same {s : ByteArray} {n : Nat} {b : UInt8} (h : OneS s n b) {i j : Nat} (hi : i < n) (hj : j < n) : Mt.same s i j = true :=
  Mt.same_at ((h.at_ i hi).trans (h.at_ j hj).symm)
theorem OneS.ml {s : ByteArray} {n : Nat} {b : UInt8} (h : OneS s n b) (p d : Nat) : Mt.ml s p d = min 258 (n - p) := by
  have hs := h.size
  have key : ∀ m, m ≤ Mt.ml s p d ↔ m ≤ min 258 (n - p) := fun m => by
    rw [Mt.ml_ge]
    constructor
    · rintro ⟨h1, h2⟩
      by_cases hm : m = 0
      · omega
      · have := (h2 (m - 1) (by omega)).1
        omega
    · intro hm
      exact ⟨by omega, fun j hj => ⟨by omega, h.same (by omega) (by omega)⟩⟩
  exact Nat.le_antisymm ((key _).1 (Nat.le_refl _)) ((key _).2 (Nat.le_refl _))
theorem OneS.best {s : ByteArray} {n : Nat} {b : UInt8} (h : OneS s n b) (p : Nat) : ∀ D, (Mt.bestS s p (D + 1)).1 = if 3 ≤ min 258 (n - p) then min 258 (n - p) else 0
  | 0 => by
    rw [Mt.bestS, Mt.bestS, h.ml p 1]
    by_cases c : 3 ≤ min 258 (n - p)
    · rw [if_pos c, if_pos ⟨c, by show 0 < _; omega⟩]
    · rw [if_neg c, if_neg fun e => c e.1]
  | D + 1 => by
    have ih := h.best p D
    rw [Mt.bestS, h.ml p (D + 1 + 1), if_neg, ih]
    rintro ⟨c, e⟩
    rw [ih, if_pos c] at e
    omega
theorem OneS.long {s : ByteArray} {n : Nat} {b : UInt8} (h : OneS s n b) {p : Nat} (hp : 1 ≤ p) : (Mt.longS s p).1 = if 3 ≤ min 258 (n - p) then min 258 (n - p) else 0 := by
  have hs := h.size
  unfold Mt.longS
  by_cases c : p < s.size
  · rw [if_pos c, show min p 32768 = (min p 32768 - 1) + 1 by omega, h.best]
  · rw [if_neg c, if_neg (by omega)]
theorem OneS.next {s : ByteArray} {n : Nat} {b : UInt8} (h : OneS s n b) {p : Nat} (hp : 1 ≤ p) (hn : p < n) : Mt.stP s p = if 3 ≤ n - p then p + min 258 (n - p) else p + 1 := by
  have e1 := h.long hp
  have e2 := h.long (p := p + 1) (by omega)
  unfold Mt.stP
  by_cases c : 3 ≤ n - p
  · rw [if_pos (by omega)] at e1
    have hc : ¬ Mt.stC s p := by
      rintro (g | g)
      · omega
      · rw [e1, e2] at g
        split at g <;> omega
    rw [if_neg hc, if_pos c, e1]
  · rw [if_neg (by omega)] at e1
    rw [if_pos (show Mt.stC s p from .inl e1), if_neg c]
theorem OneS.count {s : ByteArray} {n : Nat} {b : UInt8} (h : OneS s n b) : ∀ f p r, 1 ≤ p → n ≤ p + f → n - p ≤ 258 * (Mt.findL s f p r).length ∧ (Mt.findL s f p r).length ≤ (n - p) / 258 + min 2 ((n - p) % 258) := by
  have hs := h.size
  intro f
  induction f with
  | zero =>
    intro p r h1 h2
    rw [Mt.findL_end (by omega), List.length_nil]
    omega
  | succ f ih =>
    intro p r h1 h2
    by_cases hp : p < n
    · have hb := Mt.stP_bounds s p
      rw [Mt.findL_step (by omega), List.length_cons]
      have hi := ih (Mt.stP s p) (Mt.stR s p r) (by omega) (by omega)
      have hx := h.next h1 hp
      generalize (Mt.findL s f (Mt.stP s p) (Mt.stR s p r)).length = z at hi ⊢
      generalize Mt.stP s p = q at hi hx hb
      by_cases c : 3 ≤ n - p
      · rw [if_pos c] at hx
        by_cases c2 : 258 ≤ n - p
        · rw [Nat.min_eq_left c2] at hx
          subst hx
          rw [show n - (p + 258) = (n - p) - 258 by omega] at hi
          omega
        · rw [Nat.min_eq_right (by omega)] at hx
          have : n - q = 0 := by omega
          rw [this] at hi
          omega
      · rw [if_neg c] at hx
        subst hx
        rw [show n - (p + 1) = (n - p) - 1 by omega] at hi
        omega
    · rw [Mt.findL_end (by omega), List.length_nil]
      omega
theorem one_of (n : Nat) (a : Int) : OneS (strOfNums (List.replicate n a)) n (UInt8.ofNat a.toNat) := by
  refine ⟨?_, fun i hi => ?_⟩
  · show (List.toArray _).size = n
    rw [List.map_replicate, List.size_toArray, List.length_replicate]
  · show (List.toArray _)[i]? = _
    rw [List.map_replicate, List.getElem?_toArray, List.getElem?_replicate, if_pos hi]
theorem lo_n (n : Nat) (h : 1 ≤ n) (h2 : n ≤ 5000) : wrap64 (1 + (wrap64 (Int.tdiv (wrap64 ((n : Int) - 1)) 258))) = ((1 + (n - 1) / 258 : Nat) : Int) := by
  rw [Mt.wrap_id (x := (n : Int) - 1) (by omega) (by omega), Int.tdiv_eq_ediv_of_nonneg (by omega), Mt.wrap_id (x := ((n : Int) - 1) / 258) (by omega) (by omega), Mt.wrap_id (by omega) (by omega)]
  omega
theorem hi_n (n : Nat) (h : 1 ≤ n) (h2 : n ≤ 5000) : wrap64 ((wrap64 (1 + (wrap64 (Int.tdiv (wrap64 ((wrap64 ((wrap64 ((n : Int) - 1)) + 258)) - 1)) 258)))) + 2) = ((1 + (n - 1 + 257) / 258 + 2 : Nat) : Int) := by
  rw [Mt.wrap_id (x := (n : Int) - 1) (by omega) (by omega), Mt.wrap_id (x := (n : Int) - 1 + 258) (by omega) (by omega), Mt.wrap_id (x := (n : Int) - 1 + 258 - 1) (by omega) (by omega), Int.tdiv_eq_ediv_of_nonneg (by omega), Mt.wrap_id (x := ((n : Int) - 1 + 258 - 1) / 258) (by omega) (by omega), Mt.wrap_id (x := 1 + ((n : Int) - 1 + 258 - 1) / 258) (by omega) (by omega), Mt.wrap_id (by omega) (by omega)]
  omega
theorem find_head (s : ByteArray) (h : 0 < s.size) (m : Nat) (r : Int × Int × Int × Int) : Mt.findL s (m + 1) 0 r = Mt.litT s 0 :: Mt.findL s m 1 r := by
  have e : (Mt.longS s 0).1 = 0 := by
    unfold Mt.longS
    rw [if_pos h, Nat.zero_min]
    rfl
  rw [Mt.findL, if_pos h, if_pos (.inl e)]
theorem one_end (k n : Nat) (a : Int) (h1 : 1 ≤ n) (h2 : n ≤ 5000) (ha : 0 ≤ a) (ha2 : a < 256) : hamperlaw15_MatchOne.l0 (k + 1) a (n : Int) (List.replicate n a) (n : Int) = some true := by
  have H := one_of n a
  have hs := H.size
  rw [hamperlaw15_MatchOne.l0, if_neg (by omega)]
  refine Mt.bind_eq (show match_Find.f _ = some ((Mt.findS (strOfNums (List.replicate n a))).map tokR) by unfold match_Find.f; rw [if_pos (by omega)]) ?_
  rw [lo_n n h1 h2, hi_n n h1 h2]
  unfold Mt.findS
  have hf := find_head (strOfNums (List.replicate n a)) (by omega) (n - 1) (0, 0, 0, 0)
  rw [show n - 1 + 1 = (strOfNums (List.replicate n a)).size by omega] at hf
  have hc := H.count (n - 1) 1 (0, 0, 0, 0) (by omega) (by omega)
  rw [hf, List.map_cons, List.length_cons, List.length_map]
  generalize (Mt.findL (strOfNums (List.replicate n a)) (n - 1) 1 (0, 0, 0, 0)).length = z at hc ⊢
  rw [if_pos (by omega), if_pos (by omega), if_pos (by omega)]
  have e0 : rd_T27 (tokR (Mt.litT (strOfNums (List.replicate n a)) 0) :: (Mt.findL (strOfNums (List.replicate n a)) (n - 1) 1 (0, 0, 0, 0)).map tokR) 0 = ⟨1, a, 0, 0, 0⟩ := by
    show tokR (Mt.litT (strOfNums (List.replicate n a)) 0) = _
    unfold Mt.litT tokR
    have e : (strOfNums (List.replicate n a)).data.getD 0 0 = UInt8.ofNat a.toNat := by
      rw [Array.getD_eq_getD_getElem?, H.at_ 0 (by omega)]
      rfl
    rw [e, UInt8.toNat_ofNat_of_lt' (by show a.toNat < 256; omega), Int.toNat_of_nonneg ha]
  rw [e0]
  simp
theorem one_fill (n : Nat) (a : Int) (h1 : 1 ≤ n) (h2 : n ≤ 5000) (ha : 0 ≤ a) (ha2 : a < 256) : ∀ f i k xs, i + f = n → f < k → xs.length = n → (∀ j, j < i → xs[j]? = some a) → hamperlaw15_MatchOne.l0 k a (n : Int) xs (i : Int) = some true := by
  intro f
  induction f with
  | zero =>
    intro i k xs h3 h4 h5 h6
    obtain ⟨k, rfl⟩ : ∃ k', k = k' + 1 := ⟨k - 1, by omega⟩
    obtain rfl : i = n := by omega
    have e : xs = List.replicate i a := by
      apply List.ext_getElem?
      intro j
      rw [List.getElem?_replicate]
      by_cases hj : j < i
      · rw [if_pos hj, h6 j hj]
      · rw [if_neg hj, List.getElem?_eq_none (by omega)]
    rw [e]
    exact one_end k i a h1 h2 ha ha2
  | succ f ih =>
    intro i k xs h3 h4 h5 h6
    obtain ⟨k, rfl⟩ : ∃ k', k = k' + 1 := ⟨k - 1, by omega⟩
    rw [hamperlaw15_MatchOne.l0, if_pos (by omega), if_pos (by omega), if_pos (by omega), Mt.w_one i (by omega), Int.toNat_natCast]
    refine ih (i + 1) k (xs.set i a) (by omega) (by omega) (by rw [List.length_set, h5]) fun j hj => ?_
    rw [List.getElem?_set]
    by_cases e : i = j
    · rw [if_pos e, if_pos (by omega)]
    · rw [if_neg e]
      exact h6 j (by omega)
theorem one_size (x : Int) : ∃ n : Nat, 1 ≤ n ∧ n ≤ 5000 ∧ wrap64 (1 + (wrap64 (Int.tmod (IntKind.u64.wrap x) 5000))) = (n : Int) := by
  have h0 : 0 ≤ IntKind.u64.wrap x := by
    simp only [IntKind.wrap]
    exact Int.emod_nonneg _ (by decide)
  generalize IntKind.u64.wrap x = u at h0
  have h1 := Int.tmod_nonneg 5000 h0
  have h2 := Int.tmod_lt_of_pos u (show (0 : Int) < 5000 by decide)
  generalize Int.tmod u 5000 = v at h1 h2
  refine ⟨(1 + v).toNat, by omega, by omega, ?_⟩
  rw [Mt.wrap_id (x := v) (by omega) (by omega), Mt.wrap_id (by omega) (by omega)]
  omega
theorem one_all (k : Nat) (a x : Int) (hk : 6000 ≤ k) (ha : 0 ≤ a) (ha2 : a < 256) : hamperlaw15_MatchOne.f k a x = some true := by
  obtain ⟨n, h1, h2, e⟩ := one_size x
  unfold hamperlaw15_MatchOne.f
  refine Mt.bind_eq (Mt.works_f _ (by omega)) ?_
  rw [if_pos rfl, e, if_pos (by omega), if_pos (by omega), Int.toNat_natCast]
  exact one_fill n a h1 h2 ha ha2 n 0 k _ (by omega) (by omega) List.length_replicate (fun j hj => by omega)
theorem MatchOne : hamperlaw15_MatchOne.Pure := fun a x ha _ => ⟨6000, by
  have hw : 0 ≤ a ∧ a < 256 := by
    have h := ha
    simp [Lit.wf] at h
    have h2 : 0 ≤ a ∧ a ≤ 255 := h
    omega
  exact one_all 6000 a x (Nat.le_refl _) hw.1 hw.2⟩
end Go.Proofs.Ytaooiffnpnmdeaa.Pure
