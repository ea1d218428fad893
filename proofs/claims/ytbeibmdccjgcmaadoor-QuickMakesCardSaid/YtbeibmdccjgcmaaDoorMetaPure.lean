/- What is said of a file, in plain words: its bytes, in the program and in the document. -/
import Derived.Test.YtbeibmdccjgcmaaDoorMetaNumber
import Derived.Test.YtbeibmdccjgcmaaDoorPb
import Derived.Test.YtbeibmdccjgcmaaDoorPQux51
import Derived.Test.YtbeibmdccjgcmaaDoorPQux56
import Derived.Test.YtbeibmdccjgcmaaDoorPQux75
import Derived.Test.YtbeibmdccjgcmaaDoorPQux48
import Derived.Test.YtbeibmdccjgcmaaDoorPQux50
import Derived.Test.YtbeibmdccjgcmaaDoorPQux64
namespace Go.Proofs.YtbeibmdccjgcmaaDoor.Me
open Go.RowKit Go.Lib Go.Proofs.YtbeibmdccjgcmaaDoorW.PrintWords Go.Proofs.YtbeibmdccjgcmaaDoorW.PrintLast Go.Proofs.YtbeibmdccjgcmaaDoorW.PrintMore Go.Proofs.YtbeibmdccjgcmaaDoor.PQu Go.Proofs.YtbeibmdccjgcmaaDoor.Pb
set_option linter.unusedVariables false
set_option linter.unusedSimpArgs false
theorem numS_size (n : Int) (m : Nat) : (numS n m).size = m := topN_len n m m
def makeB (nm : ByteArray) (mo ti sz : Int) (su : ByteArray) : ByteArray := ((((numS (nm.size : Int) 1 ++ nm) ++ numS mo 2) ++ numS ti 8) ++ numS sz 4) ++ su
def makeR (nm : ByteArray) (mo ti sz : Int) (su : ByteArray) : ByteArray × Int := if nameL nm.data.toList = true then (if restB mo ti sz su = true then (makeB nm mo ti sz su, 0) else (⟨#[]⟩, 4)) else (⟨#[]⟩, 60)
theorem number_f (n m : Int) (h0 : 0 < m) (h8 : m ≤ 8) (hn : -9223372036854775808 ≤ n) (hn2 : n ≤ 9223372036854775807) : meta_number.f n m = some (numS n m.toNat) := by
  unfold meta_number.f
  rw [if_pos ⟨h0, h8, hn, hn2⟩]
theorem name_f (s : ByteArray) : meta_Name.f s = some (nameL s.data.toList) := rfl
theorem rest_iff {mo ti sz : Int} {su : ByteArray} (h : restB mo ti sz su = true) : 0 ≤ mo ∧ mo ≤ 65535 ∧ 0 ≤ ti ∧ ti ≤ 1099511627776 ∧ 0 ≤ sz ∧ sz ≤ 32768 ∧ su.size = 32 := of_decide_eq_true h
theorem name_len {s : ByteArray} (h : nameL s.data.toList = true) : s.size ≤ 255 := by
  unfold nameL at h
  simp only [Bool.and_eq_true, decide_eq_true_eq] at h
  exact h.1
theorem make_f (nm : ByteArray) (mo ti sz : Int) (su : ByteArray) : meta_Make.f nm mo ti sz su = some (makeR nm mo ti sz su) := by
  unfold meta_Make.f makeR
  refine bind_eq (name_f nm) ?_
  by_cases hN : nameL nm.data.toList = true
  · rw [if_pos hN, if_pos hN]
    have hl := name_len hN
    refine bind_eq rfl ?_
    by_cases hR : restB mo ti sz su = true
    · rw [if_pos hR, if_pos hR]
      obtain ⟨r1, r2, r3, r4, r5, r6, r7⟩ := rest_iff hR
      refine bind_eq (number_f _ 1 (by decide) (by decide) (by omega) (by omega)) (ite_yes (by rw [numS_size]; show 1 + nm.size ≤ _; omega) ?_)
      refine bind_eq (number_f _ 2 (by decide) (by decide) (by omega) (by omega)) (ite_yes (by rw [ByteArray.size_append, numS_size, numS_size]; show 1 + nm.size + 2 ≤ _; omega) ?_)
      refine bind_eq (number_f _ 8 (by decide) (by decide) (by omega) (by omega)) (ite_yes (by rw [ByteArray.size_append, ByteArray.size_append, numS_size, numS_size, numS_size]; show 1 + nm.size + 2 + 8 ≤ _; omega) ?_)
      refine bind_eq (number_f _ 4 (by decide) (by decide) (by omega) (by omega)) (ite_yes (by rw [ByteArray.size_append, ByteArray.size_append, ByteArray.size_append, numS_size, numS_size, numS_size, numS_size]; show 1 + nm.size + 2 + 8 + 4 ≤ _; omega) ?_)
      refine (ite_yes (by rw [ByteArray.size_append, ByteArray.size_append, ByteArray.size_append, ByteArray.size_append, numS_size, numS_size, numS_size, numS_size, r7]; show 1 + nm.size + 2 + 8 + 4 + 32 ≤ _; omega) ?_)
      rfl
    · rw [if_neg hR, if_neg hR]
  · rw [if_neg hN, if_neg hN]
/-! ### The document's names -/
/-- Are the steps from here on fine, the first one begun already? -/
def goodF (acc l : List UInt8) : Bool := match stepsL l with
  | [] => true
  | p :: ps => !(badL (acc ++ p) || ps.any badL)
theorem goodF_nil (l : List UInt8) : goodF [] l = !(stepsL l).any badL := by
  unfold goodF
  cases h : stepsL l with
  | nil => exact absurd h (steps_ne l)
  | cons p ps => simp
theorem goodF_slash (acc l : List UInt8) : goodF acc (47 :: l) = (!badL acc && goodF [] l) := by
  rw [goodF_nil]
  unfold goodF
  rw [stepsL, if_pos rfl]
  simp
theorem goodF_cons (acc l : List UInt8) (c : UInt8) (h : c ≠ 47) : goodF acc (c :: l) = goodF (acc ++ [c]) l := by
  unfold goodF
  rw [stepsL, if_neg h]
  cases hs : stepsL l with
  | nil => exact absurd hs (steps_ne l)
  | cons p ps => simp
theorem goodF_end (acc : List UInt8) : goodF acc [] = !badL acc := by
  unfold goodF
  rw [stepsL]
  simp
theorem bad_three (x : ByteArray) : badL x.data.toList = true ↔ (x.toList = ([] : List UInt8) ∨ x.toList = ([46] : List UInt8) ∨ x.toList = ([46, 46] : List UInt8)) := by
  have e : x.toList = x.data.toList := ByteArray.toList_eq x
  rw [e]
  unfold badL
  simp only [Bool.or_eq_true, beq_iff_eq]
  exact or_assoc
theorem drop_at (s : ByteArray) (i : Nat) (h : i < s.size) : s.data.toList.drop i = s[i] :: s.data.toList.drop (i + 1) := by
  have hl : i < s.data.toList.length := h
  rw [List.drop_eq_getElem_cons hl]
  rfl
theorem bt_ne47 (s : ByteArray) (i : Nat) (h : i < s.size) : (bt s (i : Int) != 47) = decide (s[i] ≠ 47) := by
  have e := bt_at s (i : Int) (by rw [Int.toNat_natCast]; exact h)
  simp only [Int.toNat_natCast] at e
  rw [← e]
  by_cases hc : s[i] = 47
  · rw [hc]; decide
  · rw [decide_eq_true hc]
    apply bne_iff_ne.mpr
    intro hn
    apply hc
    apply UInt8.toNat_inj.1
    show s[i].toNat = 47
    omega
theorem ext_one (s : ByteArray) (i : Nat) (h : i < s.size) : (s.extract i (i + 1)).data.toList = [s[i]] := by
  rw [ByteArray.data_extract, Array.toList_extract]
  have hl : i < s.data.toList.length := h
  simp only [List.extract_eq_take_drop]
  rw [List.drop_eq_getElem_cons hl, show i + 1 - i = 1 by omega]
  rfl
theorem refname_l0 (s : ByteArray) (hs : s.size ≤ 255) : ∀ (d i k : Nat) (acc : ByteArray), i + d = s.size → 2 * d + 4 ≤ k → acc.size ≤ i → hamperref19_Name.l0 k s acc (i : Int) = some (goodF acc.data.toList (s.data.toList.drop i))
  | 0, i, k, acc, hi, hk, ha => by
    obtain ⟨k, rfl⟩ : ∃ q, k = q + 3 := ⟨k - 3, by omega⟩
    have hdr : s.data.toList.drop i = [] := List.drop_eq_nil_of_le (by show s.size ≤ i; omega)
    rw [hdr, goodF_end, hamperref19_Name.l0, if_pos (by omega), if_neg (by omega), hamperref19_Name.j2, if_neg (by decide)]
    by_cases hb : badL acc.data.toList = true
    · rw [hb]
      rcases (bad_three acc).1 hb with e | e | e
      · rw [if_pos e]; rfl
      · by_cases e1 : acc.toList = ([] : List UInt8)
        · rw [if_pos e1]; rfl
        · rw [if_neg e1, if_pos e]; rfl
      · by_cases e1 : acc.toList = ([] : List UInt8)
        · rw [if_pos e1]; rfl
        · rw [if_neg e1]
          by_cases e2 : acc.toList = ([46] : List UInt8)
          · rw [if_pos e2]; rfl
          · rw [if_neg e2, if_pos e]; rfl
    · have hn := fun h => hb ((bad_three acc).2 h)
      rw [Bool.eq_false_iff.2 hb, if_neg fun e => hn (.inl e), if_neg fun e => hn (.inr (.inl e)), if_neg fun e => hn (.inr (.inr e)), hamperref19_Name.l0, if_neg (by rw [wrap_id (by omega) (by omega)]; omega)]
      rfl
  | d + 1, i, k, acc, hi, hk, ha => by
    obtain ⟨k, rfl⟩ : ∃ q, k = q + 2 := ⟨k - 2, by omega⟩
    have hlt : i < s.size := by omega
    have hw : wrap64 ((i : Int) + 1) = ((i + 1 : Nat) : Int) := by rw [wrap_id (by omega) (by omega)]; omega
    rw [drop_at s i hlt, hamperref19_Name.l0, if_pos (by omega), if_pos (by omega), if_pos (by omega), bt_ne47 s i hlt, hamperref19_Name.j2, hw]
    by_cases hc : s[i] = 47
    · rw [hc, goodF_slash, decide_eq_false (fun h => h rfl), if_neg (by decide)]
      by_cases hb : badL acc.data.toList = true
      · rw [hb]
        rcases (bad_three acc).1 hb with e | e | e
        · rw [if_pos e]; rfl
        · by_cases e1 : acc.toList = ([] : List UInt8)
          · rw [if_pos e1]; rfl
          · rw [if_neg e1, if_pos e]; rfl
        · by_cases e1 : acc.toList = ([] : List UInt8)
          · rw [if_pos e1]; rfl
          · rw [if_neg e1]
            by_cases e2 : acc.toList = ([46] : List UInt8)
            · rw [if_pos e2]; rfl
            · rw [if_neg e2, if_pos e]; rfl
      · have hn := fun h => hb ((bad_three acc).2 h)
        rw [Bool.eq_false_iff.2 hb, if_neg fun e => hn (.inl e), if_neg fun e => hn (.inr (.inl e)), if_neg fun e => hn (.inr (.inr e)), refname_l0 s hs d (i + 1) k _ (by omega) (by omega) (Nat.zero_le _)]
        rfl
    · rw [goodF_cons _ _ _ hc, decide_eq_true hc, if_pos rfl, if_pos (by omega), if_pos (by omega), if_pos (by omega), Int.toNat_natCast, Int.toNat_natCast]
      have he := ext_one s i hlt
      have hes : (s.extract i (i + 1)).size = 1 := by rw [size_ext _ _ _ (by omega)]; omega
      rw [if_pos (by rw [hes]; omega), refname_l0 s hs d (i + 1) k _ (by omega) (by omega) (by rw [ByteArray.size_append, hes]; omega)]
      congr 2
      rw [ByteArray.data_append, Array.toList_append, he]
theorem refname_f (s : ByteArray) (hs : s.size ≤ 9223372036854775807) (k : Nat) (hk : 600 ≤ k) : hamperref19_Name.f k s = some (nameL s.data.toList) := by
  have hlen : s.data.toList.length = s.size := rfl
  obtain ⟨k, rfl⟩ : ∃ q, k = q + 1 := ⟨k - 1, by omega⟩
  unfold hamperref19_Name.f nameL
  rw [hlen]
  by_cases h0 : (s.size : Int) < 1
  · rw [if_pos h0, hamperref19_Name.j0, if_pos rfl]
    have e : s.data.toList = [] := List.eq_nil_of_length_eq_zero (by rw [hlen]; omega)
    rw [e]
    congr 1
    simp [stepsL, badL]
  · rw [if_neg h0]
    by_cases h1 : (s.size : Int) > 255
    · rw [if_pos h1, hamperref19_Name.j0, if_pos rfl, decide_eq_false (by omega)]
      rfl
    · rw [if_neg h1, decide_eq_true (by omega), Bool.true_and]
      refine bind_eq (show utf8_ValidString.f s = some (Lib.validD s.data.toList) from if_pos hs) ?_
      rw [hamperref19_Name.j0]
      cases hv : Lib.validD s.data.toList with
      | false => rw [if_pos (by decide)]; rfl
      | true =>
        rw [if_neg (by decide), show (0 : Int) = ((0 : Nat) : Int) from rfl, refname_l0 s (by omega) s.size 0 k ⟨#[]⟩ (by omega) (by omega) (Nat.le_refl _)]
        congr 1
        exact goodF_nil _
theorem refmay_f (nm : ByteArray) (mo ti sz : Int) (su : ByteArray) (hs : nm.size ≤ 9223372036854775807) (k : Nat) (hk : 600 ≤ k) : hamperref19_May.f k nm mo ti sz su = some (mayB nm mo ti sz su) := by
  unfold hamperref19_May.f mayB
  refine bind_eq (refname_f nm hs k hk) ?_
  cases nameL nm.data.toList with
  | false => rfl
  | true =>
    rw [if_pos rfl, Bool.true_and]
    unfold restB
    by_cases h1 : mo ≥ 0
    · rw [if_pos h1]
      by_cases h2 : mo < 65536
      · rw [if_pos h2]
        by_cases h3 : ti ≥ 0
        · rw [if_pos h3]
          by_cases h4 : ti ≤ 1099511627776
          · rw [if_pos h4]
            by_cases h5 : sz ≥ 0
            · rw [if_pos h5]
              by_cases h6 : sz ≤ 32768
              · rw [if_pos h6]
                congr 1
                rw [Bool.eq_iff_iff, beq_iff_eq, decide_eq_true_iff]
                exact ⟨fun h => ⟨h1, by omega, h3, h4, h5, h6, by omega⟩, fun h => by omega⟩
              · rw [if_neg h6, decide_eq_false fun h => h6 h.2.2.2.2.2.1]
            · rw [if_neg h5, decide_eq_false fun h => h5 h.2.2.2.2.1]
          · rw [if_neg h4, decide_eq_false fun h => h4 h.2.2.2.1]
        · rw [if_neg h3, decide_eq_false fun h => h3 h.2.2.1]
      · rw [if_neg h2, decide_eq_false fun h => h2 (by omega)]
    · rw [if_neg h1, decide_eq_false fun h => h1 h.1]
/-! ### The document's numbers -/
def dg (x : Int) : Nat → List Int
  | 0 => []
  | d + 1 => dg (x / 256) d ++ [x % 256]
theorem refbytes_l0 : ∀ (d k : Nat) (x : Int) (t : List Int), 0 ≤ x → x ≤ 9223372036854775807 → t.length + d ≤ 8 → d + 1 ≤ k → hamperref19_bytes.l0 k x (List.replicate d 0 ++ t) ((d : Int) - 1) = some (strOfNums (dg x d ++ t))
  | 0, k, x, t, h0, h1, ht, hk => by
    obtain ⟨k, rfl⟩ : ∃ q, k = q + 1 := ⟨k - 1, by omega⟩
    rw [hamperref19_bytes.l0, if_neg (by omega)]
    rfl
  | d + 1, k, x, t, h0, h1, ht, hk => by
    obtain ⟨k, rfl⟩ : ∃ q, k = q + 1 := ⟨k - 1, by omega⟩
    have e : (((d + 1 : Nat) : Int) - 1) = (d : Int) := by omega
    have hdiv : Int.tdiv x 256 = x / 256 := Int.tdiv_eq_ediv_of_nonneg h0
    have hmod : Int.tmod x 256 = x % 256 := Int.tmod_eq_emod_of_nonneg h0
    have hset : (List.replicate (d + 1) (0 : Int) ++ t).set d (x % 256 % 256) = List.replicate d 0 ++ (x % 256 :: t) := by
      rw [Int.emod_emod_of_dvd _ (by decide : (256 : Int) ∣ 256)]
      rw [List.replicate_succ']
      rw [List.append_assoc, List.set_append_right _ _ (by simp)]
      simp
    rw [e, hamperref19_bytes.l0, if_pos (by omega), if_pos (by omega), if_pos (by rw [List.length_append, List.length_replicate]; omega), Int.toNat_natCast, hdiv, hmod, hset, wrap_id (by omega) (by omega), wrap_id (by omega) (by omega)]
    rw [refbytes_l0 d k (x / 256) (x % 256 :: t) (by omega) (by omega) (by simp; omega) (by omega)]
    rw [dg, List.append_assoc]
    rfl
theorem top_shift (n : Int) (m : Nat) : ∀ k, k ≤ m → topN n (m + 1) k = topN (n / 256) m k
  | 0, _ => rfl
  | k + 1, h => by
    rw [topN, topN, top_shift n m k (by omega)]
    congr 3
    have e : 8 * (m + 1 - (k + 1)) = 8 + 8 * (m - (k + 1)) := by omega
    rw [e, Int.pow_add, ← Int.ediv_ediv_of_nonneg (by decide)]
    rfl
theorem top_dg : ∀ (m : Nat) (n : Int), topN n m m = (dg n m).map fun x => UInt8.ofNat x.toNat
  | 0, _ => rfl
  | m + 1, n => by
    rw [topN, top_shift n m m (Nat.le_refl _), top_dg m (n / 256), dg, List.map_append]
    congr 1
    have e : 8 * (m + 1 - (m + 1)) = 0 := by omega
    rw [e]
    simp
theorem refbytes_f (n : Int) (m : Nat) (k : Nat) (h0 : 0 ≤ n) (h1 : n ≤ 9223372036854775807) (hm : m ≤ 8) (hm0 : 0 < m) (hk : 20 ≤ k) : hamperref19_bytes.f k n (m : Int) = some (numS n m) := by
  unfold hamperref19_bytes.f
  rw [if_pos (by omega), Int.toNat_natCast, if_pos (by omega), wrap_id (by omega) (by omega)]
  have h := refbytes_l0 m k n [] h0 h1 (by simp; omega) (by omega)
  rw [List.append_nil, List.append_nil] at h
  rw [h]
  congr 1
  unfold numS strOfNums
  rw [top_dg]
theorem refmake_f (nm : ByteArray) (mo ti sz : Int) (su : ByteArray) (h : nm.size ≤ 9223372036854775807) (k : Nat) (hk : 600 ≤ k) : hamperref19_Make.f k nm mo ti sz su = some (makeR nm mo ti sz su) := by
  unfold hamperref19_Make.f makeR
  refine bind_eq (refname_f nm h k hk) ?_
  by_cases hN : nameL nm.data.toList = true
  · rw [if_pos hN, if_pos hN]
    have hl := name_len hN
    refine bind_eq (refmay_f nm mo ti sz su h k hk) ?_
    unfold mayB
    rw [hN, Bool.true_and]
    by_cases hR : restB mo ti sz su = true
    · rw [if_pos hR, if_pos hR]
      obtain ⟨r1, r2, r3, r4, r5, r6, r7⟩ := rest_iff hR
      refine bind_eq (refbytes_f (nm.size : Int) 1 k (by omega) (by omega) (by decide) (by decide) (by omega)) (ite_yes (by rw [numS_size]; show 1 + nm.size ≤ _; omega) ?_)
      refine bind_eq (refbytes_f mo 2 k (by omega) (by omega) (by decide) (by decide) (by omega)) (ite_yes (by rw [ByteArray.size_append, numS_size, numS_size]; show 1 + nm.size + 2 ≤ _; omega) ?_)
      refine bind_eq (refbytes_f ti 8 k (by omega) (by omega) (by decide) (by decide) (by omega)) (ite_yes (by rw [ByteArray.size_append, ByteArray.size_append, numS_size, numS_size, numS_size]; show 1 + nm.size + 2 + 8 ≤ _; omega) ?_)
      refine bind_eq (refbytes_f sz 4 k (by omega) (by omega) (by decide) (by decide) (by omega)) (ite_yes (by rw [ByteArray.size_append, ByteArray.size_append, ByteArray.size_append, numS_size, numS_size, numS_size, numS_size]; show 1 + nm.size + 2 + 8 + 4 ≤ _; omega) ?_)
      refine (ite_yes (by rw [ByteArray.size_append, ByteArray.size_append, ByteArray.size_append, ByteArray.size_append, numS_size, numS_size, numS_size, numS_size, r7]; show 1 + nm.size + 2 + 8 + 4 + 32 ≤ _; omega) ?_)
      rfl
    · rw [if_neg hR, if_neg hR]
  · rw [if_neg hN, if_neg hN]
end Go.Proofs.YtbeibmdccjgcmaaDoor.Me
