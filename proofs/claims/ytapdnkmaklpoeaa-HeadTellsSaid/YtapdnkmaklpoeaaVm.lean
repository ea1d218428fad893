/- Plain laws of numbers as bytes (layer 18): what vint.Put and vint.Get tell, in words of lists; no program in sight but the printed functions. -/
import Derived.Test.YtapdnkmaklpoeaaPTellx19
namespace Go.Proofs.Ytapdnkmaklpoeaa.Vm
open Go.RowKit Go.Proofs.Ytapdnkmaklpoeaa.PTell Go.Proofs.YtapdnkmaklpoeaaW.PrintWords Go.Proofs.YtapdnkmaklpoeaaW.PrintLast Go.Proofs.YtapdnkmaklpoeaaW.PrintMore

/-! ### bytes and strings -/
def IsBytes (l : List Int) : Prop := ∀ x ∈ l, 0 ≤ x ∧ x ≤ 255
theorem isBytes_of (s : ByteArray) : IsBytes (bytesOf s) := by
  intro x hx
  simp only [bytesOf, List.mem_map] at hx
  obtain ⟨b, _, rfl⟩ := hx
  have := b.toNat_lt
  omega
theorem bytesOf_str {l : List Int} (h : IsBytes l) : bytesOf (strOfNums l) = l := by
  unfold bytesOf
  rw [strOfNums_data, List.map_map]
  conv => rhs; rw [← List.map_id l]
  refine List.map_congr_left fun x hx => ?_
  obtain ⟨h0, h1⟩ := h x hx
  simp only [Function.comp, UInt8.toNat_ofNat', id]
  omega
theorem bytesOf_inj {a b : ByteArray} (h : bytesOf a = bytesOf b) : a = b := by
  unfold bytesOf at h
  have h2 : a.data.toList = b.data.toList := by
    exact (List.map_inj_right fun x y hxy => UInt8.toNat_inj.mp (by omega)).mp h
  have h3 : a.data = b.data := by
    rw [← Array.toArray_toList (xs := a.data), ← Array.toArray_toList (xs := b.data), h2]
  exact ByteArray.ext h3
theorem bytesOf_append (a b : ByteArray) : bytesOf (a ++ b) = bytesOf a ++ bytesOf b := by
  simp [bytesOf, ByteArray.data_append]
theorem bytesOf_extract (a : ByteArray) (i j : Nat) : bytesOf (a.extract i j) = ((bytesOf a).take j).drop i := by
  simp [bytesOf, List.map_take, List.map_drop, List.drop_take, Array.toList_extract, ByteArray.data_extract]
theorem bt_bytesOf (s : ByteArray) (i : Nat) (h : i < (bytesOf s).length) : bt s (i : Int) = (bytesOf s)[i] := by
  rw [← rd_bytesOf, rd, Int.toNat_natCast, List.getD_eq_getElem?_getD, List.getElem?_eq_getElem h]; rfl

/-! ### numbers as bytes -/
def enc (n : Nat) : List Int := if n < 128 then [(n : Int)] else ((n % 128 + 128 : Nat) : Int) :: enc (n / 128)
  termination_by n
  decreasing_by omega
theorem enc_lt {n : Nat} (h : n < 128) : enc n = [(n : Int)] := by rw [enc, if_pos h]
theorem enc_ge {n : Nat} (h : ¬ n < 128) : enc n = ((n % 128 + 128 : Nat) : Int) :: enc (n / 128) := by rw [enc, if_neg h]
theorem enc_ne (n : Nat) : enc n ≠ [] := by
  by_cases h : n < 128
  · rw [enc_lt h]; simp
  · rw [enc_ge h]; simp
theorem enc_pos (n : Nat) : 0 < (enc n).length := List.length_pos_iff.mpr (enc_ne n)
theorem enc_bytes (n : Nat) : IsBytes (enc n) := by
  induction n using Nat.strongRecOn with
  | _ n ih =>
    by_cases h : n < 128
    · rw [enc_lt h]; intro x hx; simp only [List.mem_singleton] at hx; omega
    · rw [enc_ge h]
      intro x hx
      rcases List.mem_cons.mp hx with rfl | hx
      · omega
      · exact ih (n / 128) (by omega) x hx
theorem enc_len (j : Nat) : ∀ n, n < 128 ^ (j + 1) → (enc n).length ≤ j + 1 := by
  induction j with
  | zero => intro n h; rw [enc_lt (by simpa using h)]; simp
  | succ j ih =>
    intro n h
    by_cases h' : n < 128
    · rw [enc_lt h']; simp
    · rw [enc_ge h', List.length_cons]
      have := ih (n / 128) (by rw [Nat.div_lt_iff_lt_mul (by decide)]; rw [Nat.pow_succ] at h; exact h)
      omega
theorem enc_len9 {n : Nat} (h : n < 9223372036854775808) : (enc n).length ≤ 9 := enc_len 8 n h

/-! ### Put -/
theorem or_u8 : ∀ m : Fin 256, Go.bits .or .u8 (m.val : Int) 128 = ((m.val % 128 + 128 : Nat) : Int) := by decide +kernel
theorem or_u8' (x : Nat) : Go.bits .or .u8 (((x : Int)) % 256) 128 = ((x % 128 + 128 : Nat) : Int) := by
  have h := or_u8 ⟨x % 256, Nat.mod_lt _ (by decide)⟩
  simp only at h
  rw [show ((x : Int)) % 256 = ((x % 256 : Nat) : Int) by omega, h]
  congr 1
  omega
def putR (n : Int) : ByteArray × Int := if n < 0 ∨ n > 4611686018427387903 then (⟨#[]⟩, 1) else (strOfNums (enc n.toNat), 0)
theorem put_l0 (j : Nat) : ∀ (k n : Nat) (acc : List Int), n < 128 ^ (j + 1) → j < k → acc.length + j < 1000 → vint_Put.l0 k (n : Int) acc = some (strOfNums (acc ++ enc n), 0) := by
  induction j with
  | zero =>
    intro k n acc h hk ha
    obtain ⟨k, rfl⟩ : ∃ m, k = m + 1 := ⟨k - 1, by omega⟩
    have hn : n < 128 := by simpa using h
    simp only [vint_Put.l0]
    rw [if_neg (by omega), if_pos (by omega), enc_lt hn, Int.emod_eq_of_lt (by omega) (by omega)]
  | succ j ih =>
    intro k n acc h hk ha
    obtain ⟨k, rfl⟩ : ∃ m, k = m + 1 := ⟨k - 1, by omega⟩
    simp only [vint_Put.l0]
    by_cases hn : n < 128
    · rw [if_neg (by omega), if_pos (by omega), enc_lt hn, Int.emod_eq_of_lt (by omega) (by omega)]
    · rw [if_pos (by omega), if_pos (by omega), or_u8', show ((n : Int)) / 128 = ((n / 128 : Nat) : Int) by omega,
        ih k (n / 128) _ (by rw [Nat.div_lt_iff_lt_mul (by decide)]; rw [Nat.pow_succ] at h; exact h) (by omega) (by simp; omega), enc_ge hn]
      simp
theorem put_f (n : Int) (k : Nat) (hk : 20 ≤ k) : vint_Put.f k n = some (putR n) := by
  obtain ⟨k, rfl⟩ : ∃ m, k = m + 1 := ⟨k - 1, by omega⟩
  unfold vint_Put.f putR
  by_cases h0 : n < 0
  · rw [if_pos h0, if_pos (.inl h0)]; simp [vint_Put.j0]
  · rw [if_neg h0]
    by_cases h1 : n > 4611686018427387903
    · rw [if_pos (.inr h1)]; simp [vint_Put.j0, h1]
    · rw [if_neg (by omega)]
      simp only [vint_Put.j0, h1, decide_false, Bool.false_eq_true, if_false]
      obtain ⟨m, rfl⟩ := Int.eq_ofNat_of_zero_le (show 0 ≤ n by omega)
      rw [put_l0 8 k m [] (by omega) (by omega) (by simp)]
      simp

/-! ### Get -/
def runG : List Int → Nat → Int → Int × Int × Int
  | [], _, _ => (0, 0, 4)
  | c :: l, i, acc => if c ≥ 128 then runG l (i + 1) (acc + c % 128 * 128 ^ i) else if c = 0 ∧ 0 < i then (0, 0, 4) else if acc + c * 128 ^ i > 4611686018427387903 then (0, 0, 4) else (acc + c * 128 ^ i, (i : Int) + 1, 0)
def getR (s : ByteArray) : Int × Int × Int := runG ((bytesOf s).take 9) 0 0
theorem ofInt_i64 (a : Nat) (ha : a < 9223372036854775808) : (BitVec.ofInt 64 (a : Int)).toNat = a := by
  rw [BitVec.ofInt_natCast, BitVec.toNat_ofNat]; exact Nat.mod_eq_of_lt (by omega)
theorem i64_or_nat (a b : Nat) (ha : a < 9223372036854775808) (hb : b < 9223372036854775808) : Go.bits .or .i64 (a : Int) (b : Int) = ((a ||| b : Nat) : Int) := by
  have hx : a ||| b < 2 ^ 63 := Nat.or_lt_two_pow (by omega) (by omega)
  show IntKind.i64.wrap ((BitVec.ofInt 64 (a : Int) ||| BitVec.ofInt 64 (b : Int)).toNat : Int) = _
  rw [BitVec.toNat_or, ofInt_i64 a ha, ofInt_i64 b hb, IntKind.wrap_i64]
  omega
theorem wrap_id {x : Int} (h0 : -9223372036854775808 ≤ x) (h1 : x ≤ 9223372036854775807) : wrap64 x = x := by unfold wrap64; omega
theorem pow_le {i : Nat} (h : i ≤ 8) : (128 : Nat) ^ i ≤ 72057594037927936 := by
  have := Nat.pow_le_pow_right (n := 128) (by decide) h
  simpa using this
theorem or_step (i c acc : Nat) (hi : i ≤ 8) (hc : c ≤ 255) (ha : acc < 128 ^ i) :
    Go.bits .or .i64 (acc : Int) (shl .i64 (Int.tmod (wrap64 (c : Int)) 128) (wrap64 (7 * (i : Int)))) = ((acc + c % 128 * 128 ^ i : Nat) : Int) := by
  have hp := pow_le hi
  have hm : c % 128 * 128 ^ i ≤ 127 * 72057594037927936 := Nat.mul_le_mul (by omega) hp
  have e1 : shl .i64 (Int.tmod (wrap64 (c : Int)) 128) (wrap64 (7 * (i : Int))) = ((c % 128 * 128 ^ i : Nat) : Int) := by
    rw [wrap_id (by omega) (by omega), wrap_id (by omega) (by omega)]
    unfold shl
    have h7 : (7 * (i : Int)).toNat = 7 * i := by omega
    have hmin : min (7 * i) IntKind.i64.bits = 7 * i := Nat.min_eq_left (by show 7 * i ≤ 64; omega)
    rw [h7, hmin, show (c : Int).tmod 128 = ((c % 128 : Nat) : Int) from by rw [Int.tmod_eq_emod_of_nonneg (by omega)]; omega, IntKind.wrap_i64]
    have h2 : ((2 : Int) ^ (7 * i)) = (((128 ^ i : Nat)) : Int) := by rw [Int.natCast_pow, show ((128 : Nat) : Int) = 2 ^ 7 from rfl, ← Int.pow_mul]
    rw [h2, ← Int.natCast_mul]
    omega
  rw [e1, i64_or_nat _ _ (by omega) (by omega)]
  congr 1
  have := Nat.two_pow_add_eq_or_of_lt (i := 7 * i) (b := acc) (by rw [Nat.pow_mul]; exact ha) (c % 128)
  rw [Nat.or_comm, Nat.mul_comm (c % 128), show 128 ^ i = 2 ^ (7 * i) by rw [Nat.pow_mul]]
  rw [← this]
  omega
theorem bytesAt (s : ByteArray) (i : Nat) (h : i < (bytesOf s).length) : ∃ c : Nat, (bytesOf s)[i] = (c : Int) ∧ c ≤ 255 := by
  obtain ⟨h0, h1⟩ := isBytes_of s _ (List.getElem_mem h)
  obtain ⟨c, hc⟩ := Int.eq_ofNat_of_zero_le h0
  exact ⟨c, hc, by omega⟩
theorem get_l0 (s : ByteArray) (d : Nat) : ∀ (k i acc : Nat), i + d = ((bytesOf s).take 9).length → acc < 128 ^ i → d + 1 < k →
    vint_Get.l0 k s (acc : Int) (mn (s.size : Int) 9) (i : Int) = some (runG (((bytesOf s).take 9).drop i) i (acc : Int)) := by
  have hlen : ((bytesOf s).take 9).length = min 9 s.size := by rw [List.length_take, bytesOf_length]
  have hmn : mn (s.size : Int) 9 = ((min 9 s.size : Nat) : Int) := by unfold mn; split <;> omega
  rw [hmn, hlen]
  induction d with
  | zero =>
    intro k i acc hi ha hk
    obtain ⟨k, rfl⟩ : ∃ m, k = m + 1 := ⟨k - 1, by omega⟩
    simp only [vint_Get.l0]
    rw [if_neg (by omega), List.drop_of_length_le (by omega)]
    rfl
  | succ d ih =>
    intro k i acc hi ha hk
    obtain ⟨k, rfl⟩ : ∃ m, k = m + 1 := ⟨k - 1, by omega⟩
    obtain ⟨k, rfl⟩ : ∃ m, k = m + 1 := ⟨k - 1, by omega⟩
    have hs : i < (bytesOf s).length := by rw [bytesOf_length]; omega
    obtain ⟨c, hc, hc1⟩ := bytesAt s i hs
    have hbt : bt s (i : Int) = (c : Int) := by rw [bt_bytesOf s i hs, hc]
    have hd : ((bytesOf s).take 9).drop i = (c : Int) :: ((bytesOf s).take 9).drop (i + 1) := by
      rw [List.drop_eq_getElem_cons (by omega), List.getElem_take, hc]
    have hp := pow_le (show i ≤ 8 by omega)
    have hmul : c % 128 * 128 ^ i ≤ 127 * 128 ^ i := Nat.mul_le_mul_right _ (by omega)
    have hnext : acc + c % 128 * 128 ^ i < 128 ^ (i + 1) := by rw [Nat.pow_succ]; omega
    rw [vint_Get.l0, if_pos (by omega), if_pos (by omega), if_pos (by omega), hbt, if_pos (by rw [wrap_id (by omega) (by omega)]; omega), or_step i c acc (by omega) hc1 ha, wrap_id (show -9223372036854775808 ≤ (c : Int) by omega) (by omega), hd, runG]
    have ecast : ((acc : Int) + (c : Int) % 128 * 128 ^ i) = ((acc + c % 128 * 128 ^ i : Nat) : Int) := by
      rw [Int.natCast_add, Int.natCast_mul, Int.natCast_pow]; rfl
    by_cases h1 : (c : Int) ≥ 128
    · rw [if_pos h1, if_pos h1, wrap_id (by omega) (by omega), ecast]
      exact ih (k + 1) (i + 1) _ (by omega) hnext (by omega)
    · rw [if_neg h1, if_neg h1]
      have hcm : c % 128 = c := Nat.mod_eq_of_lt (by omega)
      have hcm' : (c : Int) % 128 = (c : Int) := Int.emod_eq_of_lt (by omega) (by omega)
      rw [hcm'] at ecast
      rw [hcm] at ecast ⊢
      rw [ecast]
      rw [hcm] at hmul
      by_cases h2 : (c : Int) = 0
      · rw [if_pos h2]
        by_cases h3 : 0 < i
        · rw [if_pos ⟨h2, h3⟩]
          rw [show decide ((i : Int) > 0) = true from decide_eq_true (by omega)]
          simp [vint_Get.j1]
        · rw [if_neg (by omega)]
          obtain rfl : i = 0 := by omega
          simp only [vint_Get.j1]
          rw [if_neg (by simp)]
          split
          · rfl
          · rw [if_neg (by omega), wrap_id (by omega) (by omega)]
      · rw [if_neg h2, if_neg (by omega)]
        simp only [vint_Get.j1]
        rw [if_neg (by simp)]
        split
        · rfl
        · rw [if_neg (by omega), wrap_id (by omega) (by omega)]
theorem get_f (s : ByteArray) (k : Nat) (hk : 20 ≤ k) : vint_Get.f k s = some (getR s) := by
  have hlen : ((bytesOf s).take 9).length ≤ 9 := by rw [List.length_take]; omega
  have := get_l0 s ((bytesOf s).take 9).length k 0 0 (by omega) (by simp) (by omega)
  simpa [vint_Get.f, getR] using this

/-! ### what Get tells -/
theorem runG_enc (m : Nat) : ∀ (i acc : Nat) (rest : List Int), (0 < m ∨ i = 0) →
    runG (enc m ++ rest) i (acc : Int) = if (acc : Int) + (m : Int) * 128 ^ i > 4611686018427387903 then (0, 0, 4) else ((acc : Int) + (m : Int) * 128 ^ i, ((i + (enc m).length : Nat) : Int), 0) := by
  induction m using Nat.strongRecOn with
  | _ m ih =>
    intro i acc rest hm
    by_cases h : m < 128
    · rw [enc_lt h, List.singleton_append, runG, if_neg (by omega), if_neg (by omega)]
      simp
    · rw [enc_ge h, List.cons_append, runG, if_pos (by omega)]
      have e1 : ((m % 128 + 128 : Nat) : Int) % 128 = ((m % 128 : Nat) : Int) := by omega
      have e2 : (acc : Int) + ((m % 128 : Nat) : Int) * 128 ^ i = ((acc + m % 128 * 128 ^ i : Nat) : Int) := by
        rw [Int.natCast_add, Int.natCast_mul, Int.natCast_pow]; rfl
      have e3 : ((acc + m % 128 * 128 ^ i : Nat) : Int) + ((m / 128 : Nat) : Int) * 128 ^ (i + 1) = (acc : Int) + (m : Int) * 128 ^ i := by
        rw [← e2, Int.pow_succ]
        have e4 : (m : Int) = ((m % 128 : Nat) : Int) + ((m / 128 : Nat) : Int) * 128 := by omega
        conv => rhs; rw [e4]
        rw [Int.add_mul, Int.mul_assoc ((m / 128 : Nat) : Int), Int.mul_comm 128 (128 ^ i), Int.add_assoc]
      rw [e1, e2, ih (m / 128) (by omega) (i + 1) _ rest (by omega), e3, List.length_cons]
      simp only [show i + 1 + (enc (m / 128)).length = i + ((enc (m / 128)).length + 1) by omega]
theorem runG_cases (l : List Int) (hl : IsBytes l) : ∀ (i : Nat) (acc : Int), runG l i acc = (0, 0, 4) ∨ ∃ (m : Nat) (rest : List Int), l = enc m ++ rest ∧ (0 < m ∨ i = 0) := by
  induction l with
  | nil => intro i acc; exact .inl rfl
  | cons c l ih =>
    intro i acc
    obtain ⟨h0, h1⟩ := hl c (by simp)
    obtain ⟨c, rfl⟩ := Int.eq_ofNat_of_zero_le h0
    rw [runG]
    by_cases hc : (c : Int) ≥ 128
    · rw [if_pos hc]
      rcases ih (fun x hx => hl x (by simp [hx])) (i + 1) (acc + (c : Int) % 128 * 128 ^ i) with h | ⟨m, rest, rfl, hm⟩
      · exact .inl h
      · refine .inr ⟨c % 128 + 128 * m, rest, ?_, by omega⟩
        rw [enc_ge (n := c % 128 + 128 * m) (by omega), show (c % 128 + 128 * m) / 128 = m by omega, List.cons_append]
        congr 1
        omega
    · rw [if_neg hc]
      by_cases h2 : (c : Int) = 0 ∧ 0 < i
      · rw [if_pos h2]; exact .inl rfl
      · refine .inr ⟨c, l, ?_, by omega⟩
        rw [enc_lt (by omega)]; rfl
/-- Get: the number that stands at the beginning, or nothing. -/
theorem getR_enc (s : ByteArray) (m : Nat) (hm : m ≤ 4611686018427387903) (rest : List Int) (h : bytesOf s = enc m ++ rest) : getR s = ((m : Int), ((enc m).length : Int), 0) := by
  unfold getR
  rw [h, List.take_append, List.take_of_length_le (enc_len9 (by omega))]
  have := runG_enc m 0 0 (rest.take (9 - (enc m).length)) (.inr rfl)
  simp only [Int.pow_zero, Int.mul_one, Int.natCast_zero, Int.zero_add, Nat.zero_add] at this
  rw [this, if_neg (by omega)]
theorem getR_cases (s : ByteArray) : getR s = (0, 0, 4) ∨ ∃ (m : Nat) (rest : List Int), m ≤ 4611686018427387903 ∧ bytesOf s = enc m ++ rest ∧ getR s = ((m : Int), ((enc m).length : Int), 0) := by
  rcases runG_cases ((bytesOf s).take 9) (fun x hx => isBytes_of s x (List.mem_of_mem_take hx)) 0 0 with h | ⟨m, rest, he, _⟩
  · exact .inl h
  · have hb : bytesOf s = enc m ++ (rest ++ (bytesOf s).drop 9) := by
      rw [← List.append_assoc, ← he, List.take_append_drop]
    have hg : getR s = runG (enc m ++ rest) 0 ((0 : Nat) : Int) := by unfold getR; rw [he]; rfl
    have h2 := runG_enc m 0 0 rest (.inr rfl)
    simp only [Int.pow_zero, Int.mul_one, Int.natCast_zero, Int.zero_add, Nat.zero_add] at h2
    by_cases hm : (m : Int) > 4611686018427387903
    · rw [if_pos hm] at h2; exact .inl (hg.trans h2)
    · exact .inr ⟨m, _, by omega, hb, getR_enc s m (by omega) _ hb⟩
theorem enc_inj {m n : Nat} (h : enc m = enc n) : m = n := by
  induction m using Nat.strongRecOn generalizing n with
  | _ m ih =>
    by_cases h1 : m < 128 <;> by_cases h2 : n < 128
    · rw [enc_lt h1, enc_lt h2] at h; simp only [List.cons.injEq, and_true] at h; omega
    · rw [enc_lt h1, enc_ge h2] at h
      simp only [List.cons.injEq] at h; exact absurd h.2.symm (enc_ne _)
    · rw [enc_ge h1, enc_lt h2] at h
      simp only [List.cons.injEq] at h; exact absurd h.2 (enc_ne _)
    · rw [enc_ge h1, enc_ge h2] at h
      simp only [List.cons.injEq] at h
      have := ih (m / 128) (by omega) h.2
      omega
/-- No number's bytes are the beginning of another one's. -/
theorem enc_prefix {m n : Nat} {r q : List Int} (h : enc m ++ r = enc n ++ q) : m = n := by
  induction m using Nat.strongRecOn generalizing n with
  | _ m ih =>
    by_cases h1 : m < 128 <;> by_cases h2 : n < 128
    · rw [enc_lt h1, enc_lt h2] at h; simp only [List.cons_append, List.cons.injEq] at h; omega
    · rw [enc_lt h1, enc_ge h2] at h; simp only [List.cons_append, List.cons.injEq] at h; omega
    · rw [enc_ge h1, enc_lt h2] at h; simp only [List.cons_append, List.cons.injEq] at h; omega
    · rw [enc_ge h1, enc_ge h2] at h
      simp only [List.cons_append, List.cons.injEq] at h
      have := ih (m / 128) (by omega) h.2
      omega
end Go.Proofs.Ytapdnkmaklpoeaa.Vm
