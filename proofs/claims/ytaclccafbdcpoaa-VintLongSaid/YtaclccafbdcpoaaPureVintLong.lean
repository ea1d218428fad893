/- VintLong, the plain law: what was written, one behind the other, is read as it was; and nothing is left. -/
import Derived.Test.YtaclccafbdcpoaaVr
import Derived.Test.YtaclccafbdcpoaaPVintx24
import Derived.Test.YtaclccafbdcpoaaPVintx21
namespace Go.Proofs.Ytaclccafbdcpoaa.Pure
open Go.RowKit Go.Proofs.Ytaclccafbdcpoaa.PVint Go.Proofs.YtaclccafbdcpoaaW.PrintWords Go.Proofs.YtaclccafbdcpoaaW.PrintLast Go.Proofs.YtaclccafbdcpoaaW.PrintMore Go.Proofs.Ytaclccafbdcpoaa.Vm

def mask (x : Int) : Nat := (Go.bits .and .i64 x 4611686018427387903).toNat
theorem mask_le (x : Int) : Go.bits .and .i64 x 4611686018427387903 = (mask x : Int) ∧ mask x ≤ 4611686018427387903 := by
  have h : ∃ v : Nat, v ≤ 4611686018427387903 ∧ Go.bits .and .i64 x 4611686018427387903 = (v : Int) := by
    refine ⟨(BitVec.ofInt 64 x &&& BitVec.ofInt 64 4611686018427387903).toNat, ?_, ?_⟩
    · rw [BitVec.toNat_and]
      have := Nat.and_le_right (n := (BitVec.ofInt 64 x).toNat) (m := (BitVec.ofInt 64 4611686018427387903).toNat)
      exact this
    · have hb : (BitVec.ofInt 64 x &&& BitVec.ofInt 64 4611686018427387903).toNat ≤ 4611686018427387903 := by
        rw [BitVec.toNat_and]
        have := Nat.and_le_right (n := (BitVec.ofInt 64 x).toNat) (m := (BitVec.ofInt 64 4611686018427387903).toNat)
        exact this
      show IntKind.i64.wrap ((BitVec.ofInt 64 x &&& BitVec.ofInt 64 4611686018427387903).toNat : Int) = _
      generalize (BitVec.ofInt 64 x &&& BitVec.ofInt 64 4611686018427387903).toNat = y at *
      rw [IntKind.wrap_i64]
      omega
  obtain ⟨v, hv, e⟩ := h
  unfold mask
  rw [e]
  exact ⟨by simp, by simpa using hv⟩
def vs (l : List Int) : List Int := l.flatMap fun x => enc (mask x)
def te (t : ByteArray) : List Int := enc t.size ++ bytesOf t
def ts (l : List ByteArray) : List Int := l.flatMap te
theorem rd_get (l : List Int) (i : Nat) (h : i < l.length) : rd l (i : Int) = l[i] := by
  rw [rd, Int.toNat_natCast, List.getD_eq_getElem?_getD, List.getElem?_eq_getElem h]; rfl
theorem rdOf_get (l : List ByteArray) (i : Nat) (h : i < l.length) : rdOf ByteArray.empty l (i : Int) = l[i] := by
  rw [rdOf, Int.toNat_natCast, List.getD_eq_getElem?_getD, List.getElem?_eq_getElem h]; rfl
theorem vs_succ (l : List Int) (i : Nat) (h : i < l.length) : vs (l.take (i + 1)) = vs (l.take i) ++ enc (mask l[i]) := by
  unfold vs; rw [List.take_succ_eq_append_getElem h, List.flatMap_append]; simp
theorem ts_succ (l : List ByteArray) (i : Nat) (h : i < l.length) : ts (l.take (i + 1)) = ts (l.take i) ++ te l[i] := by
  unfold ts; rw [List.take_succ_eq_append_getElem h, List.flatMap_append]; simp
theorem vs_drop (l : List Int) (i : Nat) (h : i < l.length) : vs (l.drop i) = enc (mask l[i]) ++ vs (l.drop (i + 1)) := by
  unfold vs; rw [List.drop_eq_getElem_cons h, List.flatMap_cons]
theorem ts_drop (l : List ByteArray) (i : Nat) (h : i < l.length) : ts (l.drop i) = te l[i] ++ ts (l.drop (i + 1)) := by
  unfold ts; rw [List.drop_eq_getElem_cons h, List.flatMap_cons]
theorem long_l3 (l1 : List ByteArray) (hl1 : l1.length ≤ 100) (hs : ∀ t ∈ l1, t.size ≤ 1000) (d : Nat) : ∀ (k j : Nat) (s : ByteArray), j + d = l1.length → 30 + d < k → bytesOf s = ts (l1.drop j) →
    hamperlaw18_VintLong.l3 k l1 (j : Int) s false = some true := by
  induction d with
  | zero =>
    intro k j s hj hk hb
    obtain ⟨k, rfl⟩ : ∃ q, k = q + 1 := ⟨k - 1, by omega⟩
    have hb' : bytesOf s = [] := by rw [hb, List.drop_of_length_le (by omega)]; rfl
    have hg : getR s = (0, 0, 4) := by unfold getR; rw [hb']; rfl
    simp only [hamperlaw18_VintLong.l3]
    refine ite_no (by omega) (bind_eq (a := (true, s, false)) ?_ (ite_yes rfl (bind_eq (number_no s hg k (by omega)) (ite_yes rfl (bind_eq (good_f _ _) rfl)))))
    unfold vint_Reader_Done.f
    refine bind_eq (good_f _ _) (ite_yes rfl ?_)
    simp only [(tl_nil s).mpr hb']
    rfl
  | succ d ih =>
    intro k j s hj hk hb
    obtain ⟨k, rfl⟩ : ∃ q, k = q + 1 := ⟨k - 1, by omega⟩
    have hj' : j < l1.length := by omega
    have hsz := hs l1[j] (List.getElem_mem hj')
    obtain ⟨s', h1, h2⟩ := long_f s l1[j] (by omega) (ts (l1.drop (j + 1))) (by rw [hb, ts_drop l1 j hj', te, List.append_assoc]) k (by omega)
    simp only [hamperlaw18_VintLong.l3]
    refine ite_yes (by omega) (bind_eq h1 (ite_yes (by omega) (ite_yes (by rw [rdOf_get l1 j hj']) ?_)))
    rw [wrap_id (by omega) (by omega)]
    exact ih k (j + 1) s' (by omega) (by omega) h2
theorem long_l2 (l0 : List Int) (l1 : List ByteArray) (hl0 : l0.length ≤ 100) (hl1 : l1.length ≤ 100) (hs : ∀ t ∈ l1, t.size ≤ 1000) (d : Nat) : ∀ (k i : Nat) (s : ByteArray), i + d = l0.length → 200 + d < k → bytesOf s = vs (l0.drop i) ++ ts l1 →
    hamperlaw18_VintLong.l2 k l0 l1 (i : Int) s false = some true := by
  induction d with
  | zero =>
    intro k i s hi hk hb
    obtain ⟨k, rfl⟩ : ∃ q, k = q + 1 := ⟨k - 1, by omega⟩
    simp only [hamperlaw18_VintLong.l2]
    refine ite_no (by omega) (long_l3 l1 hl1 hs l1.length k 0 s (by omega) (by omega) ?_)
    rw [hb, List.drop_of_length_le (by omega)]
    simp [vs]
  | succ d ih =>
    intro k i s hi hk hb
    obtain ⟨k, rfl⟩ : ∃ q, k = q + 1 := ⟨k - 1, by omega⟩
    have hi' : i < l0.length := by omega
    obtain ⟨hm, hle⟩ := mask_le l0[i]
    obtain ⟨s', h1, h2⟩ := number_f s (mask l0[i]) hle (vs (l0.drop (i + 1)) ++ ts l1) (by rw [hb, vs_drop l0 i hi', List.append_assoc]) k (by omega)
    simp only [hamperlaw18_VintLong.l2]
    refine ite_yes (by omega) (bind_eq h1 (ite_yes (by omega) (ite_yes (by rw [rd_get l0 i hi', hm]) ?_)))
    rw [wrap_id (by omega) (by omega)]
    exact ih k (i + 1) s' (by omega) (by omega) h2
theorem enc_le9 {m : Nat} (h : m ≤ 4611686018427387903) : (enc m).length ≤ 9 := enc_len9 (by omega)
theorem long_l1 (l0 : List Int) (l1 : List ByteArray) (hl0 : l0.length ≤ 100) (hl1 : l1.length ≤ 100) (d : Nat) : ∀ (k j : Nat) (s : ByteArray), j + d = l1.length → 500 + d < k → (∀ t ∈ l1.take j, t.size ≤ 1000) → s.size ≤ 1000 + 2000 * j → bytesOf s = vs l0 ++ ts (l1.take j) →
    hamperlaw18_VintLong.l1 k l0 l1 s (j : Int) = some true := by
  induction d with
  | zero =>
    intro k j s hj hk hs hz hb
    obtain ⟨k, rfl⟩ : ∃ q, k = q + 1 := ⟨k - 1, by omega⟩
    rw [List.take_of_length_le (by omega)] at hb hs
    simp only [hamperlaw18_VintLong.l1]
    exact ite_no (by omega) (bind_eq (a := (s, false)) rfl (long_l2 l0 l1 hl0 hl1 hs l0.length k 0 s (by omega) (by omega) (by simpa using hb)))
  | succ d ih =>
    intro k j s hj hk hs hz hb
    obtain ⟨k, rfl⟩ : ∃ q, k = q + 1 := ⟨k - 1, by omega⟩
    have hj' : j < l1.length := by omega
    simp only [hamperlaw18_VintLong.l1]
    rw [rdOf_get l1 j hj']
    refine ite_yes (by omega) (ite_yes (by omega) ?_)
    by_cases hbig : (l1[j].size : Int) > 1000
    · exact ite_yes hbig rfl
    · have h9 := enc_le9 (m := l1[j].size) (by omega)
      have hsz : (strOfNums (enc l1[j].size)).size = (enc l1[j].size).length := strOfNums_size _
      refine ite_no hbig (bind_eq (by rw [put_f _ k (by omega), putR_ok (by omega)]) (ite_yes rfl (ite_yes (by simp only [hsz]; omega) (ite_yes ?_ ?_))))
      · simp only [ByteArray.size_append, hsz]; omega
      · rw [wrap_id (by omega) (by omega)]
        refine ih k (j + 1) _ (by omega) (by omega) ?_ (by simp only [ByteArray.size_append, hsz]; omega) ?_
        · intro t ht
          rw [List.take_succ_eq_append_getElem hj', List.mem_append] at ht
          rcases ht with ht | ht
          · exact hs t ht
          · simp only [List.mem_singleton] at ht; subst ht; omega
        · rw [bytesOf_append, bytesOf_append, bytesOf_str (enc_bytes _), hb, ts_succ l1 j hj', te]
          simp [List.append_assoc]
theorem long_l0 (l0 : List Int) (l1 : List ByteArray) (hl0 : l0.length ≤ 100) (hl1 : l1.length ≤ 100) (d : Nat) : ∀ (k i : Nat) (s : ByteArray), i + d = l0.length → 800 + d < k → s.size ≤ 9 * i → bytesOf s = vs (l0.take i) →
    hamperlaw18_VintLong.l0 k l0 l1 s (i : Int) = some true := by
  induction d with
  | zero =>
    intro k i s hi hk hz hb
    obtain ⟨k, rfl⟩ : ∃ q, k = q + 1 := ⟨k - 1, by omega⟩
    rw [List.take_of_length_le (by omega)] at hb
    simp only [hamperlaw18_VintLong.l0]
    exact ite_no (by omega) (long_l1 l0 l1 hl0 hl1 l1.length k 0 s (by omega) (by omega) (by simp) (by omega) (by simpa [ts] using hb))
  | succ d ih =>
    intro k i s hi hk hz hb
    obtain ⟨k, rfl⟩ : ∃ q, k = q + 1 := ⟨k - 1, by omega⟩
    have hi' : i < l0.length := by omega
    obtain ⟨hm, hle⟩ := mask_le l0[i]
    have h9 := enc_le9 hle
    have hsz : (strOfNums (enc (mask l0[i]))).size = (enc (mask l0[i])).length := strOfNums_size _
    simp only [hamperlaw18_VintLong.l0]
    rw [rd_get l0 i hi', hm]
    refine ite_yes (by omega) (ite_yes (by omega) (bind_eq (by rw [put_f _ k (by omega), putR_ok hle]) (ite_yes rfl (ite_yes (by simp only [hsz]; omega) ?_))))
    rw [wrap_id (by omega) (by omega)]
    refine ih k (i + 1) _ (by omega) (by omega) (by simp only [ByteArray.size_append, hsz]; omega) ?_
    rw [bytesOf_append, bytesOf_str (enc_bytes _), hb, vs_succ l0 i hi']
theorem long_j0 (l0 : List Int) (l1 : List ByteArray) (k : Nat) (hk : 1000 ≤ k) (b : Bool) (hb : b = false → l0.length ≤ 100 ∧ l1.length ≤ 100) : hamperlaw18_VintLong.j0 k l0 l1 b = some true := by
  obtain ⟨k, rfl⟩ : ∃ q, k = q + 1 := ⟨k - 1, by omega⟩
  simp only [hamperlaw18_VintLong.j0]
  cases b with
  | true => exact ite_yes rfl (bind_eq (awake_f k (by omega)) rfl)
  | false =>
    obtain ⟨h0, h1⟩ := hb rfl
    exact ite_no (by simp) (long_l0 l0 l1 h0 h1 l0.length k 0 _ (by omega) (by omega) (Nat.zero_le _) (by rw [List.take_zero]; rfl))
theorem long_law (l0 : List Int) (l1 : List ByteArray) (k : Nat) (hk : 1000 ≤ k) : hamperlaw18_VintLong.f k l0 l1 = some true := by
  unfold hamperlaw18_VintLong.f
  by_cases h0 : (l0.length : Int) > 100
  · exact ite_yes h0 (long_j0 l0 l1 k hk true (by simp))
  · refine ite_no h0 ?_
    by_cases h1 : (l1.length : Int) > 100
    · exact ite_yes h1 (long_j0 l0 l1 k hk true (by simp))
    · exact ite_no h1 (bind_eq (awake_f k (by omega)) (long_j0 l0 l1 k hk false (fun _ => by omega)))
theorem VintLong (A0 : Option Addr) (c0 : Nat) (l0 : List Int) (A1 : Option Addr) (c1 : Nat) (l1 : List ByteArray) (W : World) (hr0 : Kd.C (Kd.int .i64) W A0 l0.length l0) (hc0 : l0.length ≤ c0) (_ : ∀ x ∈ l0, (Lit.int .i64 x).wf = true) (_ : l0.length * 8 ≤ 140737488351232) (hr1 : Kd.C Kd.string W A1 l1.length l1) (hc1 : l1.length ≤ c1) :
    Calls Try.prog 8 #[.slice A0 l0.length c0, .slice A1 l1.length c1] W fun e w' => e = .returned (.bool true) ∧ Below W.heap.size W w' :=
  hamperlaw18_VintLong.calls 2000 A0 c0 l0 A1 c1 l1 true W hr0 hc0 hr1 hc1 (long_law l0 l1 2000 (by decide))
end Go.Proofs.Ytaclccafbdcpoaa.Pure
