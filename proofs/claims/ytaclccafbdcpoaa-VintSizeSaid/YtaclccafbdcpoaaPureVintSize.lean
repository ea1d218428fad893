/- VintSize, the plain law: a number has as many bytes as it needs sevens of bits, at least one; all but the last one have the highest bit. -/
import Derived.Test.YtaclccafbdcpoaaVr
import Derived.Test.YtaclccafbdcpoaaPVintx16
namespace Go.Proofs.Ytaclccafbdcpoaa.Pure
open Go.RowKit Go.Proofs.Ytaclccafbdcpoaa.PVint Go.Proofs.YtaclccafbdcpoaaW.PrintWords Go.Proofs.YtaclccafbdcpoaaW.PrintLast Go.Proofs.YtaclccafbdcpoaaW.PrintMore Go.Proofs.Ytaclccafbdcpoaa.Vm

theorem enc_hi (m : Nat) : ∀ (i : Nat) (h : i < (enc m).length), (128 ≤ (enc m)[i] ↔ i + 1 < (enc m).length) := by
  induction m using Nat.strongRecOn with
  | _ m ih =>
    intro i h
    by_cases h1 : m < 128
    · simp only [enc_lt h1, List.length_singleton] at h ⊢
      obtain rfl : i = 0 := by omega
      simp only [List.getElem_cons_zero]
      omega
    · have hp := enc_pos (m / 128)
      simp only [enc_ge h1, List.length_cons] at h ⊢
      cases i with
      | zero => simp only [List.getElem_cons_zero]; omega
      | succ i =>
        simp only [List.getElem_cons_succ]
        have := ih (m / 128) (by omega) i (by omega)
        omega
theorem size_l1 (s : ByteArray) (m : Nat) (hm : (enc m).length ≤ 100) (hs : bytesOf s = enc m) (x : Int) (hx : x = ((enc m).length : Int)) (d : Nat) : ∀ (k i : Nat), i + d = (enc m).length → d < k →
    hamperlaw18_VintSize.l1 k s x (i : Int) = some true := by
  have hsz : s.size = (enc m).length := by rw [← bytesOf_length, hs]
  induction d with
  | zero =>
    intro k i hi hk
    obtain ⟨k, rfl⟩ : ∃ q, k = q + 1 := ⟨k - 1, by omega⟩
    simp only [hamperlaw18_VintSize.l1]
    rw [if_neg (by omega), hx, hsz]
    simp
  | succ d ih =>
    intro k i hi hk
    obtain ⟨k, rfl⟩ : ∃ q, k = q + 1 := ⟨k - 1, by omega⟩
    have hil : i < (bytesOf s).length := by rw [hs]; omega
    have hb : bt s (i : Int) = (enc m)[i]'(by omega) := by rw [bt_bytesOf s i hil]; simp only [hs]
    have hh := enc_hi m i (by omega)
    simp only [hamperlaw18_VintSize.l1]
    rw [if_pos (by omega), if_pos (by omega), hb, hsz, wrap_id (x := ((enc m).length : Int) - 1) (by omega) (by omega), wrap_id (by omega) (by omega)]
    have e : (decide ((enc m)[i]'(by omega) ≥ 128) != decide ((i : Int) < ((enc m).length : Int) - 1)) = false := by
      by_cases h : 128 ≤ (enc m)[i]'(by omega)
      · rw [decide_eq_true (show (enc m)[i]'(by omega) ≥ 128 from h), decide_eq_true (by have := hh.mp h; omega)]; rfl
      · rw [decide_eq_false (show ¬ (enc m)[i]'(by omega) ≥ 128 from h), decide_eq_false (by have := mt hh.mpr h; omega)]; rfl
    rw [e, if_neg (by simp)]
    exact ih k (i + 1) (by omega) (by omega)
theorem size_l0 (s : ByteArray) (r : Option Bool) (K : Nat) (j : Nat) : ∀ (k m : Nat) (x : Nat), x + j < 200 → m < 128 ^ (j + 1) → m < 9223372036854775808 → K + j < k →
    (∀ k, K ≤ k → hamperlaw18_VintSize.l1 k s (((x + (enc m).length - 1 : Nat)) : Int) 0 = r) → hamperlaw18_VintSize.l0 k s (x : Int) (m : Int) = r := by
  induction j with
  | zero =>
    intro k m x hx hm h63 hk h
    obtain ⟨k, rfl⟩ : ∃ q, k = q + 1 := ⟨k - 1, by omega⟩
    have hm' : m < 128 := by simpa using hm
    simp only [hamperlaw18_VintSize.l0]
    rw [if_neg (by omega)]
    have := h k (by omega)
    rw [enc_lt hm'] at this
    simpa using this
  | succ j ih =>
    intro k m x hx hm h63 hk h
    obtain ⟨k, rfl⟩ : ∃ q, k = q + 1 := ⟨k - 1, by omega⟩
    simp only [hamperlaw18_VintSize.l0]
    by_cases hm' : m < 128
    · rw [if_neg (by omega)]
      have := h k (by omega)
      rw [enc_lt hm'] at this
      simpa using this
    · rw [if_pos (by omega), wrap_id (show -9223372036854775808 ≤ (x : Int) + 1 by omega) (by omega), show (m : Int).tdiv 128 = ((m / 128 : Nat) : Int) by rw [Int.tdiv_eq_ediv_of_nonneg (by omega)]; omega, wrap_id (by omega) (by omega)]
      refine ih k (m / 128) (x + 1) (by omega) (by rw [Nat.div_lt_iff_lt_mul (by decide)]; rw [Nat.pow_succ] at hm; exact hm) (by omega) (by omega) fun k hk => ?_
      have := h k hk
      rw [enc_ge hm', List.length_cons] at this
      rw [show x + 1 + (enc (m / 128)).length - 1 = x + ((enc (m / 128)).length + 1) - 1 by omega]
      exact this
theorem VintSize : hamperlaw18_VintSize.Pure := by
  intro n hn
  refine ⟨100, ?_⟩
  unfold hamperlaw18_VintSize.f
  rw [awake_f 100 (by decide), put_f n 100 (by decide)]
  simp only [Option.bind_some, if_true]
  by_cases h : n < 0 ∨ n > 4611686018427387903
  · rw [putR_no h]; simp
  · obtain ⟨m, rfl⟩ := Int.eq_ofNat_of_zero_le (show 0 ≤ n by omega)
    rw [putR_ok (by omega)]
    simp only [if_true]
    have h9 := enc_len9 (n := m) (by omega)
    refine size_l0 _ (some true) 50 8 100 m 1 (by omega) (by omega) (by omega) (by omega) fun k hk => ?_
    exact size_l1 _ m (by omega) (bytesOf_str (enc_bytes m)) _ (by have := enc_pos m; omega) (enc m).length k 0 (by omega) (by omega)
end Go.Proofs.Ytaclccafbdcpoaa.Pure
