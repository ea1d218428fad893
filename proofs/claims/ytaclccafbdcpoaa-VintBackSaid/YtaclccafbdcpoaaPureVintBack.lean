/- VintBack, the plain law: Get of Put is the number; Put of what Get tells are the bytes that it used; a greater number has no fewer bytes, and its bytes are no beginning of another one's. -/
import Derived.Test.YtaclccafbdcpoaaVr
import Derived.Test.YtaclccafbdcpoaaPVintx15
namespace Go.Proofs.Ytaclccafbdcpoaa.Pure
open Go.RowKit Go.Proofs.Ytaclccafbdcpoaa.PVint Go.Proofs.YtaclccafbdcpoaaW.PrintWords Go.Proofs.YtaclccafbdcpoaaW.PrintLast Go.Proofs.YtaclccafbdcpoaaW.PrintMore Go.Proofs.Ytaclccafbdcpoaa.Vm

theorem enc_mono (m : Nat) : ∀ n, m ≤ n → (enc m).length ≤ (enc n).length := by
  induction m using Nat.strongRecOn with
  | _ m ih =>
    intro n h
    by_cases h1 : m < 128
    · rw [enc_lt h1]; exact enc_pos n
    · rw [enc_ge h1, enc_ge (n := n) (by omega), List.length_cons, List.length_cons]
      have := ih (m / 128) (by omega) (n / 128) (by omega)
      omega
theorem size_enc (m : Nat) : (strOfNums (enc m)).size = (enc m).length := strOfNums_size _
theorem back_j2 (s : ByteArray) (k : Nat) (hk : 50 ≤ k) : hamperlaw18_VintBack.j2 k s false = some true := by
  obtain ⟨k, rfl⟩ : ∃ q, k = q + 1 := ⟨k - 1, by omega⟩
  simp only [hamperlaw18_VintBack.j2]
  rw [if_neg (by simp), get_f s k (by omega)]
  simp only [Option.bind_some]
  rcases getR_cases s with h | ⟨m, rest, hm, hb, h⟩
  · rw [h]; simp
  · rw [h]
    simp only [if_true]
    rw [put_f _ k (by omega), putR_ok hm]
    have hl : (enc m).length ≤ s.size := by rw [← bytesOf_length, hb, List.length_append]; omega
    simp only [Option.bind_some, if_true]
    rw [if_pos (by omega), if_pos (by omega), tl_beq, bytesOf_str (enc_bytes m), bytesOf_extract, hb]
    simp
theorem back_j1 (n m : Int) (s : ByteArray) (a : Nat) (ha : n = (a : Int)) (k : Nat) (hk : 60 ≤ k) :
    hamperlaw18_VintBack.j1 k n m s (strOfNums (enc a)) false = some true := by
  obtain ⟨k, rfl⟩ : ∃ q, k = q + 1 := ⟨k - 1, by omega⟩
  simp only [hamperlaw18_VintBack.j1]
  rw [if_neg (by simp), put_f m k (by omega)]
  simp only [Option.bind_some]
  by_cases hm : m < 0 ∨ m > 4611686018427387903
  · rw [putR_no hm]
    simp only
    rw [if_neg (by decide)]
    exact back_j2 s k (by omega)
  · obtain ⟨b, rfl⟩ := Int.eq_ofNat_of_zero_le (show 0 ≤ m by omega)
    rw [putR_ok (by omega)]
    simp only [if_true, size_enc]
    have hpre : b ≠ a → (enc a).length ≤ (enc b).length → ((((strOfNums (enc b)).extract 0 (((enc a).length : Int)).toNat).toList == (strOfNums (enc a)).toList)) = false := by
      intro hne hle
      rw [tl_beq, bytesOf_extract, bytesOf_str (enc_bytes _), bytesOf_str (enc_bytes _), Int.toNat_natCast, List.drop_zero]
      refine decide_eq_false fun he => hne ?_
      have : enc b = enc a ++ (enc b).drop (enc a).length := by conv => lhs; rw [← List.take_append_drop (enc a).length (enc b), he]
      exact enc_prefix (r := []) (by rw [List.append_nil]; exact this)
    have hend : (if (b : Int) = n then hamperlaw18_VintBack.j2 k s false else if ((enc b).length : Int) ≥ ((enc a).length : Int) then (if 0 ≤ ((enc a).length : Int) then (if ((enc a).length : Int) ≤ ((enc b).length : Int) then hamperlaw18_VintBack.j2 k s (((strOfNums (enc b)).extract 0 (((enc a).length : Int)).toNat).toList == (strOfNums (enc a)).toList) else none) else none) else hamperlaw18_VintBack.j2 k s false) = some true := by
      by_cases h1 : (b : Int) = n
      · rw [if_pos h1]; exact back_j2 s k (by omega)
      · rw [if_neg h1]
        by_cases h2 : ((enc b).length : Int) ≥ ((enc a).length : Int)
        · rw [if_pos h2, if_pos (by omega), if_pos (by omega), hpre (by omega) (by omega)]; exact back_j2 s k (by omega)
        · rw [if_neg h2]; exact back_j2 s k (by omega)
    by_cases hgt : (b : Int) > n
    · rw [if_pos hgt, if_neg (by have := enc_mono a b (by omega); omega)]
      exact hend
    · rw [if_neg hgt]
      exact hend
theorem back_j0 (n m : Int) (s : ByteArray) (hs : s.size ≤ 3000) (k : Nat) (hk : 80 ≤ k) : hamperlaw18_VintBack.j0 k n m s false = some true := by
  obtain ⟨k, rfl⟩ : ∃ q, k = q + 1 := ⟨k - 1, by omega⟩
  simp only [hamperlaw18_VintBack.j0]
  rw [if_neg (by simp), put_f n k (by omega)]
  simp only [Option.bind_some]
  by_cases hn : n < 0 ∨ n > 4611686018427387903
  · rw [putR_no hn]
    simp only
    rw [if_neg (by decide), if_pos (by rw [tl_nil]; rfl)]
    rcases hn with hn | hn
    · rw [if_pos hn]
    · rw [if_neg (by omega), decide_eq_true hn]
  · obtain ⟨a, rfl⟩ := Int.eq_ofNat_of_zero_le (show 0 ≤ n by omega)
    have h9 := enc_len9 (n := a) (by omega)
    rw [putR_ok (by omega)]
    simp only [if_true, size_enc]
    rw [if_pos (by omega), get_f _ k (by omega), getR_enc _ a (by omega) (bytesOf s) (by rw [bytesOf_append, bytesOf_str (enc_bytes a)])]
    simp only [Option.bind_some, if_true, bne_self_eq_false]
    exact back_j1 _ m s a rfl k (by omega)
theorem VintBack : hamperlaw18_VintBack.Pure := by
  intro n m s hn hm hs
  refine ⟨100, ?_⟩
  unfold hamperlaw18_VintBack.f
  by_cases h : (s.size : Int) > 3000
  · rw [if_pos h]
    have e : ∀ k, 40 ≤ k → hamperlaw18_VintBack.j0 k n m s true = some true := by
      intro k hk
      obtain ⟨k, rfl⟩ : ∃ q, k = q + 1 := ⟨k - 1, by omega⟩
      simp only [hamperlaw18_VintBack.j0]
      rw [if_pos trivial, awake_f k (by omega)]
      rfl
    exact e 100 (by decide)
  · rw [if_neg h, awake_f 100 (by decide)]
    exact back_j0 n m s (by omega) 100 (by decide)
end Go.Proofs.Ytaclccafbdcpoaa.Pure
