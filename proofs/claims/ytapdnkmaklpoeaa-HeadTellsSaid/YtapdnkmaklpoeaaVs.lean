/- Plain laws of the references of layer 18, and of the readers: what the printed functions of hamperref18 and vint.Reader tell, in words of lists. -/
import Derived.Test.YtapdnkmaklpoeaaVq
import Derived.Test.YtapdnkmaklpoeaaPTellx34
import Derived.Test.YtapdnkmaklpoeaaPTellx43
namespace Go.Proofs.Ytapdnkmaklpoeaa.Vm
open Go.RowKit Go.Proofs.Ytapdnkmaklpoeaa.PTell Go.Proofs.YtapdnkmaklpoeaaW.PrintWords Go.Proofs.YtapdnkmaklpoeaaW.PrintLast Go.Proofs.YtapdnkmaklpoeaaW.PrintMore


theorem ref_put_l0 (j : Nat) : ∀ (k n : Nat) (acc : List Int), n < 128 ^ (j + 1) → n < 9223372036854775808 → j < k → acc.length + j < 1000 → hamperref18_Put.l0 k (n : Int) acc = some (strOfNums (acc ++ enc n), 0) := by
  induction j with
  | zero =>
    intro k n acc h h63 hk ha
    obtain ⟨k, rfl⟩ : ∃ m, k = m + 1 := ⟨k - 1, by omega⟩
    have hn : n < 128 := by simpa using h
    simp only [hamperref18_Put.l0]
    rw [if_neg (by omega), if_pos (by omega), enc_lt hn, Int.emod_eq_of_lt (by omega) (by omega)]
  | succ j ih =>
    intro k n acc h h63 hk ha
    obtain ⟨k, rfl⟩ : ∃ m, k = m + 1 := ⟨k - 1, by omega⟩
    simp only [hamperref18_Put.l0]
    by_cases hn : n < 128
    · rw [if_neg (by omega), if_pos (by omega), enc_lt hn, Int.emod_eq_of_lt (by omega) (by omega)]
    · have e1 : (n : Int).tdiv 128 = ((n / 128 : Nat) : Int) := by rw [Int.tdiv_eq_ediv_of_nonneg (by omega)]; omega
      have e2 : (n : Int).tmod 128 = ((n % 128 : Nat) : Int) := by rw [Int.tmod_eq_emod_of_nonneg (by omega)]; omega
      rw [if_pos (by omega), if_pos (by omega), e1, e2, wrap_id (by omega) (by omega), wrap_id (by omega) (by omega), show (128 + ((n % 128 : Nat) : Int)) % 256 = ((n % 128 + 128 : Nat) : Int) by omega,
        ih k (n / 128) _ (by rw [Nat.div_lt_iff_lt_mul (by decide)]; rw [Nat.pow_succ] at h; exact h) (by omega) (by omega) (by simp; omega), enc_ge hn]
      simp
theorem ref_put_f (n : Int) (k : Nat) (hk : 20 ≤ k) : hamperref18_Put.f k n = some (putR n) := by
  obtain ⟨k, rfl⟩ : ∃ m, k = m + 1 := ⟨k - 1, by omega⟩
  unfold hamperref18_Put.f putR
  by_cases h0 : n < 0
  · rw [if_pos h0, if_pos (.inl h0)]; simp [hamperref18_Put.j0]
  · rw [if_neg h0]
    by_cases h1 : n > 4611686018427387903
    · rw [if_pos (.inr h1)]; simp [hamperref18_Put.j0, h1]
    · rw [if_neg (by omega)]
      simp only [hamperref18_Put.j0, h1, decide_false, Bool.false_eq_true, if_false]
      obtain ⟨m, rfl⟩ := Int.eq_ofNat_of_zero_le (show 0 ≤ n by omega)
      rw [ref_put_l0 8 k m [] (by omega) (by omega) (by omega) (by simp)]
      simp

/-- No number's bytes end by 0, but 0's own. -/
theorem enc_last (m : Nat) : ∀ l, enc m = l ++ [0] → l = [] := by
  induction m using Nat.strongRecOn with
  | _ m ih =>
    intro l h
    by_cases h1 : m < 128
    · rw [enc_lt h1] at h
      cases l with
      | nil => rfl
      | cons a l => simp at h
    · rw [enc_ge h1] at h
      cases l with
      | nil => simp only [List.nil_append, List.cons.injEq] at h; exact absurd h.2 (enc_ne _)
      | cons a l =>
        simp only [List.cons_append, List.cons.injEq] at h
        obtain rfl := ih (m / 128) (by omega) l h.2
        have h3 : enc (m / 128) = enc 0 := by rw [h.2, enc_lt (by decide)]; rfl
        have := enc_inj h3
        omega
theorem w_succ {i : Nat} (h : i ≤ 8) : wrap64 ((i : Int) + 1) = ((i + 1 : Nat) : Int) := wrap_id (by omega) (by omega)
theorem w_times {i : Nat} (h : i < 8) : wrap64 (((128 ^ i : Nat) : Int) * 128) = ((128 ^ (i + 1) : Nat) : Int) := by
  have h1 := Nat.pow_le_pow_right (n := 128) (by decide) (show i ≤ 7 by omega)
  have h2 : (128 : Nat) ^ 7 = 562949953421312 := by decide
  rw [h2] at h1
  rw [Nat.pow_succ, Int.natCast_mul]
  generalize 128 ^ i = e at *
  exact wrap_id (by omega) (by omega)
theorem big64 {i c n : Nat} (h8 : i = 8) (hc : 64 ≤ c) : ((n + c * 128 ^ i : Nat) : Int) > 4611686018427387903 := by
  have hpe : (128 : Nat) ^ i = 72057594037927936 := by rw [h8]
  rw [hpe]
  omega
theorem nat_step (n c i : Nat) : ((n : Int) + (c : Int) * 128 ^ i) = ((n + c * 128 ^ i : Nat) : Int) := by
  rw [Int.natCast_add, Int.natCast_mul, Int.natCast_pow]; rfl
theorem nat_stepm (n c i : Nat) : ((n : Int) + (c : Int) % 128 * 128 ^ i) = ((n + c % 128 * 128 ^ i : Nat) : Int) := by
  rw [Int.natCast_add, Int.natCast_mul, Int.natCast_pow]; rfl
theorem wrap_step {i n c : Nat} (hi : i ≤ 8) (hn : n < 128 ^ i) : wrap64 ((n : Int) + wrap64 (((c % 128 : Nat) : Int) * ((128 ^ i : Nat) : Int))) = ((n + c % 128 * 128 ^ i : Nat) : Int) := by
  have hp := pow_le hi
  have hmul : c % 128 * 128 ^ i ≤ 127 * 128 ^ i := Nat.mul_le_mul_right _ (by omega)
  rw [← Int.natCast_mul]
  generalize c % 128 * 128 ^ i = q at *
  generalize 128 ^ i = e at *
  rw [wrap_id (x := (q : Int)) (by omega) (by omega), wrap_id (by omega) (by omega)]
  omega
theorem next_lt {i n c : Nat} (hn : n < 128 ^ i) : n + c % 128 * 128 ^ i < 128 ^ (i + 1) := by
  have hmul : c % 128 * 128 ^ i ≤ 127 * 128 ^ i := Nat.mul_le_mul_right _ (by omega)
  rw [Nat.pow_succ]
  generalize c % 128 * 128 ^ i = q at *
  generalize 128 ^ i = e at *
  omega
set_option maxHeartbeats 1000000 in
theorem ref_get_l0 (s : ByteArray) (hs9 : s.size < 9223372036854775807) (d : Nat) : ∀ (k i n : Nat) (t : Int), i + d = ((bytesOf s).take 9).length → n < 128 ^ i → (i < 9 → t = ((128 ^ i : Nat) : Int)) → 3 * d + 30 < k →
    (∀ m, (0 < m ∨ i = 0) → enc (n + m * 128 ^ i) = (bytesOf s).take i ++ enc m) →
    hamperref18_Get.l0 k s (n : Int) t (i : Int) = some (runG (((bytesOf s).take 9).drop i) i (n : Int)) := by
  have hlen : ((bytesOf s).take 9).length = min 9 s.size := by rw [List.length_take, bytesOf_length]
  rw [hlen]
  induction d with
  | zero =>
    intro k i n t hi hn ht hk hinv
    obtain ⟨k, rfl⟩ : ∃ m, k = m + 1 := ⟨k - 1, by omega⟩
    obtain ⟨k, rfl⟩ : ∃ m, k = m + 1 := ⟨k - 1, by omega⟩
    rw [List.drop_of_length_le (by omega), runG]
    simp only [hamperref18_Get.l0]
    split
    · rw [show decide ((i : Int) < 9) = false from decide_eq_false (by omega)]
      simp [hamperref18_Get.j1]
    · simp [hamperref18_Get.j1]
  | succ d ih =>
    intro k i n t hi hn ht hk hinv
    obtain rfl := ht (by omega)
    clear ht
    obtain ⟨k, rfl⟩ : ∃ m, k = m + 1 := ⟨k - 1, by omega⟩
    obtain ⟨k, rfl⟩ : ∃ m, k = m + 1 := ⟨k - 1, by omega⟩
    obtain ⟨k, rfl⟩ : ∃ m, k = m + 1 := ⟨k - 1, by omega⟩
    have hs : i < (bytesOf s).length := by rw [bytesOf_length]; omega
    obtain ⟨c, hc, hc1⟩ := bytesAt s i hs
    have hbt : bt s (i : Int) = (c : Int) := by rw [bt_bytesOf s i hs, hc]
    have hd : ((bytesOf s).take 9).drop i = (c : Int) :: ((bytesOf s).take 9).drop (i + 1) := by
      rw [List.drop_eq_getElem_cons (by omega), List.getElem_take, hc]
    have htk : (bytesOf s).take (i + 1) = (bytesOf s).take i ++ [(c : Int)] := by rw [List.take_succ_eq_append_getElem hs, hc]
    have hi8 : i ≤ 8 := by omega
    have hnext : n + c % 128 * 128 ^ i < 128 ^ (i + 1) := next_lt hn
    have e2 := Aside0.mk (show (wrap64 (c : Int)).tmod 128 = ((c % 128 : Nat) : Int) by rw [wrap_id (by omega) (by omega), Int.tmod_eq_emod_of_nonneg (by omega)]; omega)
    have e3 := Aside0.mk (wrap_step (c := c) hi8 hn)
    have hi9 : decide ((i : Int) < 9) = true := decide_eq_true (by omega)
    have hi0 : (0 : Int) ≤ (i : Int) := by omega
    have hils : (i : Int) < (s.size : Int) := by omega
    have hi' : i + 1 + d = min 9 s.size := by omega
    have hk' : 3 * d + 30 < k := by omega
    have hk20 : 20 ≤ k := by omega
    have hdl : i = 8 → ((bytesOf s).take 9).length ≤ i + 1 := by omega
    have hils' : ((i + 1 : Nat) : Int) ≤ (s.size : Int) := by omega
    clear hi hk hs9 hlen hn
    simp only [hamperref18_Get.l0]
    rw [if_pos hils, hi9]
    simp only [hamperref18_Get.j1]
    rw [if_pos trivial, if_pos hi0, if_pos hils, hbt, e2.out, hd, runG]
    have hgo : hamperref18_Get.j2 (k + 1) s (n : Int) ((128 ^ i : Nat) : Int) (i : Int) ((c % 128 : Nat) : Int) false =
        some (if (c : Int) ≥ 128 then runG (((bytesOf s).take 9).drop (i + 1)) (i + 1) ((n : Int) + (c : Int) % 128 * 128 ^ i) else if (c : Int) = 0 ∧ 0 < i then (0, 0, 4) else if (n : Int) + (c : Int) * 128 ^ i > 4611686018427387903 then (0, 0, 4) else ((n : Int) + (c : Int) * 128 ^ i, (i : Int) + 1, 0)) := by
      simp only [hamperref18_Get.j2]
      rw [if_neg (by simp), if_pos hi0, if_pos hils, hbt, e3.out, nat_stepm]
      clear hbt hi9 hd e2 e3 hi0
      by_cases h1 : (c : Int) ≥ 128
      · rw [if_neg (Int.not_lt.mpr h1), if_pos h1]
        have hinv' : ∀ m, (0 < m ∨ i + 1 = 0) → enc (n + c % 128 * 128 ^ i + m * 128 ^ (i + 1)) = (bytesOf s).take (i + 1) ++ enc m := by
          intro m hm
          have h4 := hinv (c % 128 + 128 * m) (by omega)
          rw [enc_ge (n := c % 128 + 128 * m) (by omega), show (c % 128 + 128 * m) / 128 = m by omega, show ((c % 128 + 128 * m) % 128 + 128 : Nat) = c by omega] at h4
          rw [htk, List.append_assoc, List.singleton_append, ← h4, Nat.pow_succ, Nat.add_mul]
          congr 1
          rw [Nat.add_assoc, Nat.mul_comm 128 m, Nat.mul_assoc, Nat.mul_comm 128 (128 ^ i)]
        by_cases h8 : (i : Int) < 8
        · rw [if_pos h8, w_times (by omega), w_succ hi8]
          exact ih k (i + 1) _ _ hi' hnext (fun _ => rfl) hk' hinv'
        · rw [if_neg h8, w_succ hi8]
          exact ih k (i + 1) _ _ hi' hnext (fun h => by omega) hk' hinv'
      · have hlt : (c : Int) < 128 := Int.not_le.mp h1
        have hltn : c < 128 := by clear hinv ih hnext hk' hi' hk20 hdl; omega
        rw [if_pos hlt, if_neg h1]
        have hcm : c % 128 = c := Nat.mod_eq_of_lt hltn
        rw [hcm]
        rw [nat_step, ref_put_f _ k hk20]
        simp only [Option.bind_some]
        clear ih hnext hi' hdl
        clear hk'
        obtain ⟨k, rfl⟩ : ∃ m, k = m + 1 := ⟨k - 1, by omega⟩
        by_cases hbig : ((n + c * 128 ^ i : Nat) : Int) > 4611686018427387903
        · rw [putR_no (.inr hbig), if_neg (by simp), if_pos hbig]
          simp [hamperref18_Get.j3]
        · rw [putR_ok (Int.ofNat_le.mp (Int.not_lt.mp hbig))]
          simp only [if_true]
          rw [w_succ hi8, if_pos (by omega), if_pos hils', tl_ne, bytesOf_str (enc_bytes _), bytesOf_extract, if_neg hbig]
          rw [Int.toNat_natCast, List.drop_zero, htk]
          by_cases h2 : (c : Int) = 0 ∧ 0 < i
          · rw [if_pos h2]
            have hne : enc (n + c * 128 ^ i) ≠ (bytesOf s).take i ++ [(c : Int)] := by
              intro he
              rw [h2.1] at he
              have := enc_last _ _ he
              have hl : ((bytesOf s).take i).length = i := by rw [List.length_take]; omega
              rw [this] at hl
              simp at hl
              omega
            simp [hamperref18_Get.j3, hne]
          · rw [if_neg h2]
            have he : enc (n + c * 128 ^ i) = (bytesOf s).take i ++ [(c : Int)] := by rw [hinv c (by omega), enc_lt (by omega)]
            simp only [he, hamperref18_Get.j3]
            rw [if_neg (by simp), w_succ hi8]; rfl
    by_cases h8 : (i : Int) = 8
    · rw [if_pos h8]
      by_cases h64 : ((c % 128 : Nat) : Int) ≥ 64
      · rw [decide_eq_true h64]
        simp only [hamperref18_Get.j2]
        rw [if_pos trivial]
        by_cases h1 : (c : Int) ≥ 128
        · rw [if_pos h1, List.drop_of_length_le (hdl (by omega)), runG]
        · have hcc : 64 ≤ c := by clear hinv ih hnext hk' hi' hk20 hdl; omega
          have hi8e : i = 8 := by clear hinv ih hnext hk' hi' hk20 hdl; omega
          rw [if_neg h1, if_neg (by clear hinv ih hnext hk' hi' hk20 hdl; omega), nat_step, if_pos (big64 hi8e hcc)]
      · rw [decide_eq_false h64]; exact hgo
    · rw [if_neg h8]; exact hgo
theorem ref_get_f (s : ByteArray) (hs : s.size < 9223372036854775807) (k : Nat) (hk : 80 ≤ k) : hamperref18_Get.f k s = some (getR s) := by
  have hlen : ((bytesOf s).take 9).length ≤ 9 := by rw [List.length_take]; omega
  have := ref_get_l0 s hs ((bytesOf s).take 9).length k 0 0 1 (by omega) (by simp) (fun _ => rfl) (by omega) (fun m _ => by simp)
  simpa [hamperref18_Get.f, getR] using this
end Go.Proofs.Ytapdnkmaklpoeaa.Vm
