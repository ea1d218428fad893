/- Lists and their bytes, in plain words. -/
import Derived.Test.YtbeibmdccjgcmaaDoorMetaNumber
import Derived.Test.YtbeibmdccjgcmaaDoorPb
import Derived.Test.YtbeibmdccjgcmaaDoorPQux51
import Derived.Test.YtbeibmdccjgcmaaDoorPQux56
import Derived.Test.YtbeibmdccjgcmaaDoorPQux75
import Derived.Test.YtbeibmdccjgcmaaDoorPQux48
import Derived.Test.YtbeibmdccjgcmaaDoorPQux50
import Derived.Test.YtbeibmdccjgcmaaDoorQTog
import Derived.Test.YtbeibmdccjgcmaaDoorMetaSplit
import Derived.Test.YtbeibmdccjgcmaaDoorBk12
import Derived.Lib.FrozenHead
import Derived.Test.YtbeibmdccjgcmaaDoorLib
import Derived.Shelf.SlicesQ.IndexFunc
namespace Go.Proofs.YtbeibmdccjgcmaaDoor.Me
open Go.RowKit Go.Lib Go.Proofs.YtbeibmdccjgcmaaDoorW.PrintWords Go.Proofs.YtbeibmdccjgcmaaDoorW.PrintLast Go.Proofs.YtbeibmdccjgcmaaDoorW.PrintMore Go.Proofs.YtbeibmdccjgcmaaDoor.PQu Go.Proofs.YtbeibmdccjgcmaaDoor.Pb
set_option linter.unusedVariables false
set_option linter.unusedSimpArgs false
theorem numS_size (n : Int) (m : Nat) : (numS n m).size = m := topN_len n m m
def makeB (nm : ByteArray) (mo ti sz : Int) (su : ByteArray) : ByteArray := ((((numS (nm.size : Int) 1 ++ nm) ++ numS mo 2) ++ numS ti 8) ++ numS sz 4) ++ su
def makeR (nm : ByteArray) (mo ti sz : Int) (su : ByteArray) : ByteArray × Int := if nameL nm.data.toList = true then (if restB mo ti sz su = true then (makeB nm mo ti sz su, 0) else (⟨#[]⟩, 4)) else (⟨#[]⟩, 60)
theorem rest_iff {mo ti sz : Int} {su : ByteArray} (h : restB mo ti sz su = true) : 0 ≤ mo ∧ mo ≤ 65535 ∧ 0 ≤ ti ∧ ti ≤ 1099511627776 ∧ 0 ≤ sz ∧ sz ≤ 32768 ∧ su.size = 32 := of_decide_eq_true h
theorem name_len {s : ByteArray} (h : nameL s.data.toList = true) : s.size ≤ 255 := by
  unfold nameL at h
  simp only [Bool.and_eq_true, decide_eq_true_eq] at h
  exact h.1
/-! ### The document's names -/
/-- Are the steps from here on fine, the first one begun already? -/
def goodF (acc l : List UInt8) : Bool := match stepsL l with
  | [] => true
  | p :: ps => !(badL (acc ++ p) || ps.any badL)
theorem goodF_nil (l : List UInt8) : goodF [] l = !(stepsL l).any badL := by
  unfold goodF
  cases h : stepsL l with
  | nil => exact absurd h (steps_ne l)
  | cons p ps => simp
theorem goodF_slash (acc l : List UInt8) : goodF acc (47 :: l) = (!badL acc && goodF [] l) := by
  rw [goodF_nil]
  unfold goodF
  rw [stepsL, if_pos rfl]
  simp
theorem goodF_cons (acc l : List UInt8) (c : UInt8) (h : c ≠ 47) : goodF acc (c :: l) = goodF (acc ++ [c]) l := by
  unfold goodF
  rw [stepsL, if_neg h]
  cases hs : stepsL l with
  | nil => exact absurd hs (steps_ne l)
  | cons p ps => simp
theorem goodF_end (acc : List UInt8) : goodF acc [] = !badL acc := by
  unfold goodF
  rw [stepsL]
  simp
theorem bad_three (x : ByteArray) : badL x.data.toList = true ↔ (x.toList = ([] : List UInt8) ∨ x.toList = ([46] : List UInt8) ∨ x.toList = ([46, 46] : List UInt8)) := by
  have e : x.toList = x.data.toList := ByteArray.toList_eq x
  rw [e]
  unfold badL
  simp only [Bool.or_eq_true, beq_iff_eq]
  exact or_assoc
theorem drop_at (s : ByteArray) (i : Nat) (h : i < s.size) : s.data.toList.drop i = s[i] :: s.data.toList.drop (i + 1) := by
  have hl : i < s.data.toList.length := h
  rw [List.drop_eq_getElem_cons hl]
  rfl
theorem bt_ne47 (s : ByteArray) (i : Nat) (h : i < s.size) : (bt s (i : Int) != 47) = decide (s[i] ≠ 47) := by
  have e := bt_at s (i : Int) (by rw [Int.toNat_natCast]; exact h)
  simp only [Int.toNat_natCast] at e
  rw [← e]
  by_cases hc : s[i] = 47
  · rw [hc]; decide
  · rw [decide_eq_true hc]
    apply bne_iff_ne.mpr
    intro hn
    apply hc
    apply UInt8.toNat_inj.1
    show s[i].toNat = 47
    omega
theorem ext_one (s : ByteArray) (i : Nat) (h : i < s.size) : (s.extract i (i + 1)).data.toList = [s[i]] := by
  rw [ByteArray.data_extract, Array.toList_extract]
  have hl : i < s.data.toList.length := h
  simp only [List.extract_eq_take_drop]
  rw [List.drop_eq_getElem_cons hl, show i + 1 - i = 1 by omega]
  rfl
theorem refname_l0 (s : ByteArray) (hs : s.size ≤ 255) : ∀ (d i k : Nat) (acc : ByteArray), i + d = s.size → 2 * d + 4 ≤ k → acc.size ≤ i → hamperref19_Name.l0 k s acc (i : Int) = some (goodF acc.data.toList (s.data.toList.drop i))
  | 0, i, k, acc, hi, hk, ha => by
    obtain ⟨k, rfl⟩ : ∃ q, k = q + 3 := ⟨k - 3, by omega⟩
    have hdr : s.data.toList.drop i = [] := List.drop_eq_nil_of_le (by show s.size ≤ i; omega)
    rw [hdr, goodF_end, hamperref19_Name.l0, if_pos (by omega), if_neg (by omega), hamperref19_Name.j2, if_neg (by decide)]
    by_cases hb : badL acc.data.toList = true
    · rw [hb]
      rcases (bad_three acc).1 hb with e | e | e
      · rw [if_pos e]; rfl
      · by_cases e1 : acc.toList = ([] : List UInt8)
        · rw [if_pos e1]; rfl
        · rw [if_neg e1, if_pos e]; rfl
      · by_cases e1 : acc.toList = ([] : List UInt8)
        · rw [if_pos e1]; rfl
        · rw [if_neg e1]
          by_cases e2 : acc.toList = ([46] : List UInt8)
          · rw [if_pos e2]; rfl
          · rw [if_neg e2, if_pos e]; rfl
    · have hn := fun h => hb ((bad_three acc).2 h)
      rw [Bool.eq_false_iff.2 hb, if_neg fun e => hn (.inl e), if_neg fun e => hn (.inr (.inl e)), if_neg fun e => hn (.inr (.inr e)), hamperref19_Name.l0, if_neg (by rw [wrap_id (by omega) (by omega)]; omega)]
      rfl
  | d + 1, i, k, acc, hi, hk, ha => by
    obtain ⟨k, rfl⟩ : ∃ q, k = q + 2 := ⟨k - 2, by omega⟩
    have hlt : i < s.size := by omega
    have hw : wrap64 ((i : Int) + 1) = ((i + 1 : Nat) : Int) := by rw [wrap_id (by omega) (by omega)]; omega
    rw [drop_at s i hlt, hamperref19_Name.l0, if_pos (by omega), if_pos (by omega), if_pos (by omega), bt_ne47 s i hlt, hamperref19_Name.j2, hw]
    by_cases hc : s[i] = 47
    · rw [hc, goodF_slash, decide_eq_false (fun h => h rfl), if_neg (by decide)]
      by_cases hb : badL acc.data.toList = true
      · rw [hb]
        rcases (bad_three acc).1 hb with e | e | e
        · rw [if_pos e]; rfl
        · by_cases e1 : acc.toList = ([] : List UInt8)
          · rw [if_pos e1]; rfl
          · rw [if_neg e1, if_pos e]; rfl
        · by_cases e1 : acc.toList = ([] : List UInt8)
          · rw [if_pos e1]; rfl
          · rw [if_neg e1]
            by_cases e2 : acc.toList = ([46] : List UInt8)
            · rw [if_pos e2]; rfl
            · rw [if_neg e2, if_pos e]; rfl
      · have hn := fun h => hb ((bad_three acc).2 h)
        rw [Bool.eq_false_iff.2 hb, if_neg fun e => hn (.inl e), if_neg fun e => hn (.inr (.inl e)), if_neg fun e => hn (.inr (.inr e)), refname_l0 s hs d (i + 1) k _ (by omega) (by omega) (Nat.zero_le _)]
        rfl
    · rw [goodF_cons _ _ _ hc, decide_eq_true hc, if_pos rfl, if_pos (by omega), if_pos (by omega), if_pos (by omega), Int.toNat_natCast, Int.toNat_natCast]
      have he := ext_one s i hlt
      have hes : (s.extract i (i + 1)).size = 1 := by rw [size_ext _ _ _ (by omega)]; omega
      rw [if_pos (by rw [hes]; omega), refname_l0 s hs d (i + 1) k _ (by omega) (by omega) (by rw [ByteArray.size_append, hes]; omega)]
      congr 2
      rw [ByteArray.data_append, Array.toList_append, he]
theorem refname_f (s : ByteArray) (hs : s.size ≤ 9223372036854775807) (k : Nat) (hk : 600 ≤ k) : hamperref19_Name.f k s = some (nameL s.data.toList) := by
  have hlen : s.data.toList.length = s.size := rfl
  obtain ⟨k, rfl⟩ : ∃ q, k = q + 1 := ⟨k - 1, by omega⟩
  unfold hamperref19_Name.f nameL
  rw [hlen]
  by_cases h0 : (s.size : Int) < 1
  · rw [if_pos h0, hamperref19_Name.j0, if_pos rfl]
    have e : s.data.toList = [] := List.eq_nil_of_length_eq_zero (by rw [hlen]; omega)
    rw [e]
    congr 1
    simp [stepsL, badL]
  · rw [if_neg h0]
    by_cases h1 : (s.size : Int) > 255
    · rw [if_pos h1, hamperref19_Name.j0, if_pos rfl, decide_eq_false (by omega)]
      rfl
    · rw [if_neg h1, decide_eq_true (by omega), Bool.true_and]
      refine bind_eq (show utf8_ValidString.f s = some (Lib.validD s.data.toList) from if_pos hs) ?_
      rw [hamperref19_Name.j0]
      cases hv : Lib.validD s.data.toList with
      | false => rw [if_pos (by decide)]; rfl
      | true =>
        rw [if_neg (by decide), show (0 : Int) = ((0 : Nat) : Int) from rfl, refname_l0 s (by omega) s.size 0 k ⟨#[]⟩ (by omega) (by omega) (Nat.le_refl _)]
        congr 1
        exact goodF_nil _
theorem refmay_f (nm : ByteArray) (mo ti sz : Int) (su : ByteArray) (hs : nm.size ≤ 9223372036854775807) (k : Nat) (hk : 600 ≤ k) : hamperref19_May.f k nm mo ti sz su = some (mayB nm mo ti sz su) := by
  unfold hamperref19_May.f mayB
  refine bind_eq (refname_f nm hs k hk) ?_
  cases nameL nm.data.toList with
  | false => rfl
  | true =>
    rw [if_pos rfl, Bool.true_and]
    unfold restB
    by_cases h1 : mo ≥ 0
    · rw [if_pos h1]
      by_cases h2 : mo < 65536
      · rw [if_pos h2]
        by_cases h3 : ti ≥ 0
        · rw [if_pos h3]
          by_cases h4 : ti ≤ 1099511627776
          · rw [if_pos h4]
            by_cases h5 : sz ≥ 0
            · rw [if_pos h5]
              by_cases h6 : sz ≤ 32768
              · rw [if_pos h6]
                congr 1
                rw [Bool.eq_iff_iff, beq_iff_eq, decide_eq_true_iff]
                exact ⟨fun h => ⟨h1, by omega, h3, h4, h5, h6, by omega⟩, fun h => by omega⟩
              · rw [if_neg h6, decide_eq_false fun h => h6 h.2.2.2.2.2.1]
            · rw [if_neg h5, decide_eq_false fun h => h5 h.2.2.2.2.1]
          · rw [if_neg h4, decide_eq_false fun h => h4 h.2.2.2.1]
        · rw [if_neg h3, decide_eq_false fun h => h3 h.2.2.1]
      · rw [if_neg h2, decide_eq_false fun h => h2 (by omega)]
    · rw [if_neg h1, decide_eq_false fun h => h1 h.1]
/-! ### The document's numbers -/
def dg (x : Int) : Nat → List Int
  | 0 => []
  | d + 1 => dg (x / 256) d ++ [x % 256]
theorem refbytes_l0 : ∀ (d k : Nat) (x : Int) (t : List Int), 0 ≤ x → x ≤ 9223372036854775807 → t.length + d ≤ 8 → d + 1 ≤ k → hamperref19_bytes.l0 k x (List.replicate d 0 ++ t) ((d : Int) - 1) = some (strOfNums (dg x d ++ t))
  | 0, k, x, t, h0, h1, ht, hk => by
    obtain ⟨k, rfl⟩ : ∃ q, k = q + 1 := ⟨k - 1, by omega⟩
    rw [hamperref19_bytes.l0, if_neg (by omega)]
    rfl
  | d + 1, k, x, t, h0, h1, ht, hk => by
    obtain ⟨k, rfl⟩ : ∃ q, k = q + 1 := ⟨k - 1, by omega⟩
    have e : (((d + 1 : Nat) : Int) - 1) = (d : Int) := by omega
    have hdiv : Int.tdiv x 256 = x / 256 := Int.tdiv_eq_ediv_of_nonneg h0
    have hmod : Int.tmod x 256 = x % 256 := Int.tmod_eq_emod_of_nonneg h0
    have hset : (List.replicate (d + 1) (0 : Int) ++ t).set d (x % 256 % 256) = List.replicate d 0 ++ (x % 256 :: t) := by
      rw [Int.emod_emod_of_dvd _ (by decide : (256 : Int) ∣ 256)]
      rw [List.replicate_succ']
      rw [List.append_assoc, List.set_append_right _ _ (by simp)]
      simp
    rw [e, hamperref19_bytes.l0, if_pos (by omega), if_pos (by omega), if_pos (by rw [List.length_append, List.length_replicate]; omega), Int.toNat_natCast, hdiv, hmod, hset, wrap_id (by omega) (by omega), wrap_id (by omega) (by omega)]
    rw [refbytes_l0 d k (x / 256) (x % 256 :: t) (by omega) (by omega) (by simp; omega) (by omega)]
    rw [dg, List.append_assoc]
    rfl
theorem top_shift (n : Int) (m : Nat) : ∀ k, k ≤ m → topN n (m + 1) k = topN (n / 256) m k
  | 0, _ => rfl
  | k + 1, h => by
    rw [topN, topN, top_shift n m k (by omega)]
    congr 3
    have e : 8 * (m + 1 - (k + 1)) = 8 + 8 * (m - (k + 1)) := by omega
    rw [e, Int.pow_add, ← Int.ediv_ediv_of_nonneg (by decide)]
    rfl
theorem top_dg : ∀ (m : Nat) (n : Int), topN n m m = (dg n m).map fun x => UInt8.ofNat x.toNat
  | 0, _ => rfl
  | m + 1, n => by
    rw [topN, top_shift n m m (Nat.le_refl _), top_dg m (n / 256), dg, List.map_append]
    congr 1
    have e : 8 * (m + 1 - (m + 1)) = 0 := by omega
    rw [e]
    simp
theorem refbytes_f (n : Int) (m : Nat) (k : Nat) (h0 : 0 ≤ n) (h1 : n ≤ 9223372036854775807) (hm : m ≤ 8) (hm0 : 0 < m) (hk : 20 ≤ k) : hamperref19_bytes.f k n (m : Int) = some (numS n m) := by
  unfold hamperref19_bytes.f
  rw [if_pos (by omega), Int.toNat_natCast, if_pos (by omega), wrap_id (by omega) (by omega)]
  have h := refbytes_l0 m k n [] h0 h1 (by simp; omega) (by omega)
  rw [List.append_nil, List.append_nil] at h
  rw [h]
  congr 1
  unfold numS strOfNums
  rw [top_dg]
theorem refmake_f (nm : ByteArray) (mo ti sz : Int) (su : ByteArray) (h : nm.size ≤ 9223372036854775807) (k : Nat) (hk : 600 ≤ k) : hamperref19_Make.f k nm mo ti sz su = some (makeR nm mo ti sz su) := by
  unfold hamperref19_Make.f makeR
  refine bind_eq (refname_f nm h k hk) ?_
  by_cases hN : nameL nm.data.toList = true
  · rw [if_pos hN, if_pos hN]
    have hl := name_len hN
    refine bind_eq (refmay_f nm mo ti sz su h k hk) ?_
    unfold mayB
    rw [hN, Bool.true_and]
    by_cases hR : restB mo ti sz su = true
    · rw [if_pos hR, if_pos hR]
      obtain ⟨r1, r2, r3, r4, r5, r6, r7⟩ := rest_iff hR
      refine bind_eq (refbytes_f (nm.size : Int) 1 k (by omega) (by omega) (by decide) (by decide) (by omega)) (ite_yes (by rw [numS_size]; show 1 + nm.size ≤ _; omega) ?_)
      refine bind_eq (refbytes_f mo 2 k (by omega) (by omega) (by decide) (by decide) (by omega)) (ite_yes (by rw [ByteArray.size_append, numS_size, numS_size]; show 1 + nm.size + 2 ≤ _; omega) ?_)
      refine bind_eq (refbytes_f ti 8 k (by omega) (by omega) (by decide) (by decide) (by omega)) (ite_yes (by rw [ByteArray.size_append, ByteArray.size_append, numS_size, numS_size, numS_size]; show 1 + nm.size + 2 + 8 ≤ _; omega) ?_)
      refine bind_eq (refbytes_f sz 4 k (by omega) (by omega) (by decide) (by decide) (by omega)) (ite_yes (by rw [ByteArray.size_append, ByteArray.size_append, ByteArray.size_append, numS_size, numS_size, numS_size, numS_size]; show 1 + nm.size + 2 + 8 + 4 ≤ _; omega) ?_)
      refine (ite_yes (by rw [ByteArray.size_append, ByteArray.size_append, ByteArray.size_append, ByteArray.size_append, numS_size, numS_size, numS_size, numS_size, r7]; show 1 + nm.size + 2 + 8 + 4 + 32 ≤ _; omega) ?_)
      rfl
    · rw [if_neg hR, if_neg hR]
  · rw [if_neg hN, if_neg hN]
end Go.Proofs.YtbeibmdccjgcmaaDoor.Me
namespace Go.Proofs.YtbeibmdccjgcmaaDoor.Me
open Go.RowKit Go.Lib Go.Proofs.YtbeibmdccjgcmaaDoorW.PrintWords Go.Proofs.YtbeibmdccjgcmaaDoorW.PrintLast Go.Proofs.YtbeibmdccjgcmaaDoorW.PrintMore Go.Proofs.YtbeibmdccjgcmaaDoor.PQu Go.Proofs.YtbeibmdccjgcmaaDoor.Pb
set_option linter.unusedVariables false
set_option linter.unusedSimpArgs false
def errA : Ans := ⟨⟨#[]⟩, 0, 0, 0, ⟨#[]⟩, 0, 4⟩
theorem takes {s : ByteArray} {u n : Nat} (h : u + n ≤ s.size) : takeT s u n = s.extract u (u + n) ∧ takeU s u n = u + n ∧ takeB s u n = false :=
  ⟨if_pos h, if_pos h, decide_eq_false (fun k => k h)⟩
theorem takeU_eq {s : ByteArray} {u n : Nat} (h : takeB s u n = false) : u + n ≤ s.size ∧ takeU s u n = u + n := by
  have h1 : u + n ≤ s.size := by
    have := of_decide_eq_false h
    omega
  exact ⟨h1, if_pos h1⟩
theorem read_fit {s : ByteArray} {n0 : Nat} (h0 : num s 0 1 = (n0 : Int)) (h1 : 47 + n0 ≤ s.size) :
    readA s = if mayB (s.extract 1 (1 + n0)) (num s (1 + n0) 2) (num s (1 + n0 + 2) 8) (num s (1 + n0 + 2 + 8) 4) (s.extract (1 + n0 + 2 + 8 + 4) (1 + n0 + 2 + 8 + 4 + 32)) = true then
      ⟨s.extract 1 (1 + n0), num s (1 + n0) 2, num s (1 + n0 + 2) 8, num s (1 + n0 + 2 + 8) 4, s.extract (1 + n0 + 2 + 8 + 4) (1 + n0 + 2 + 8 + 4 + 32), 1 + n0 + 2 + 8 + 4 + 32, 0⟩ else errA := by
  obtain ⟨a1, a2, a3⟩ := takes (s := s) (u := 0) (n := 1) (by omega)
  obtain ⟨b1, b2, b3⟩ := takes (s := s) (u := 1) (n := n0) (by omega)
  obtain ⟨c1, c2, c3⟩ := takes (s := s) (u := 1 + n0) (n := 2) (by omega)
  obtain ⟨d1, d2, d3⟩ := takes (s := s) (u := 1 + n0 + 2) (n := 8) (by omega)
  obtain ⟨e1, e2, e3⟩ := takes (s := s) (u := 1 + n0 + 2 + 8) (n := 4) (by omega)
  obtain ⟨f1, f2, f3⟩ := takes (s := s) (u := 1 + n0 + 2 + 8 + 4) (n := 32) (by omega)
  have a2' : takeU s 0 1 = 1 := a2
  unfold readA
  rw [h0, Int.toNat_natCast, a2', b2, c2, d2, e2, f2, a3, b3, c3, d3, e3, f3, b1, f1]
  rw [if_neg (by decide)]
  rfl
theorem read_short {s : ByteArray} {n0 : Nat} (h0 : num s 0 1 = (n0 : Int)) (h1 : ¬ 47 + n0 ≤ s.size) : readA s = errA := by
  unfold readA
  rw [h0, Int.toNat_natCast]
  refine if_pos ?_
  cases ha : takeB s 0 1 with
  | true => simp
  | false =>
    obtain ⟨a1, a2⟩ := takeU_eq ha
    rw [a2]
    cases hb : takeB s (0 + 1) n0 with
    | true => simp
    | false =>
      obtain ⟨b1, b2⟩ := takeU_eq hb
      rw [b2]
      cases hc : takeB s (0 + 1 + n0) 2 with
      | true => simp
      | false =>
        obtain ⟨c1, c2⟩ := takeU_eq hc
        rw [c2]
        cases hd : takeB s (0 + 1 + n0 + 2) 8 with
        | true => simp
        | false =>
          obtain ⟨d1, d2⟩ := takeU_eq hd
          rw [d2]
          cases he : takeB s (0 + 1 + n0 + 2 + 8) 4 with
          | true => simp
          | false =>
            obtain ⟨e1, e2⟩ := takeU_eq he
            rw [e2]
            cases hf : takeB s (0 + 1 + n0 + 2 + 8 + 4) 32 with
            | true => simp
            | false =>
              obtain ⟨f1, f2⟩ := takeU_eq hf
              omega
/-! ### Numbers and their bytes -/
theorem dg_by : ∀ (d : Nat) (x : Int), IsBytes (dg x d)
  | 0, _ => fun v hv => by cases hv
  | d + 1, x => by
    intro v hv
    rw [dg, List.mem_append, List.mem_singleton] at hv
    rcases hv with hv | rfl
    · exact dg_by d _ v hv
    · omega
theorem bytes_numS (n : Int) (m : Nat) : bytesOf (numS n m) = dg n m := by
  have e : numS n m = strOfNums (dg n m) := by unfold numS strOfNums; rw [top_dg]
  rw [e, bytesOf_str (dg_by m n)]
theorem be_dg : ∀ (d : Nat) (x : Int), 0 ≤ x → x < (256 : Int) ^ d → beL (dg x d) = x
  | 0, x, h0, h1 => by
    have : x = 0 := by simp at h1; omega
    subst this
    rfl
  | d + 1, x, h0, h1 => by
    rw [dg, be_snoc, be_dg d (x / 256) (by omega) (by rw [Int.pow_succ] at h1; exact Int.ediv_lt_of_lt_mul (by decide) h1)]
    omega
theorem snoc_ind {P : List Int → Prop} (h0 : P []) (h1 : ∀ l x, P l → P (l ++ [x])) : ∀ l, P l := by
  have h : ∀ l : List Int, P l.reverse := by
    intro l
    induction l with
    | nil => exact h0
    | cons x l ih => rw [List.reverse_cons]; exact h1 _ _ ih
  intro l
  have := h l.reverse
  rwa [List.reverse_reverse] at this
theorem be_pos : ∀ (l : List Int), IsBytes l → 0 ≤ beL l ∧ beL l < (256 : Int) ^ l.length := by
  refine snoc_ind (fun _ => ⟨by decide, by decide⟩) ?_
  · intro l x ih h
    obtain ⟨i1, i2⟩ := ih (fun v hv => h v (List.mem_append_left _ hv))
    have hx := h x (List.mem_append_right _ (List.mem_singleton_self x))
    rw [be_snoc, List.length_append, List.length_singleton, Int.pow_succ]
    generalize (256 : Int) ^ l.length = P at i2
    omega
theorem dg_be : ∀ (l : List Int), IsBytes l → dg (beL l) l.length = l := by
  refine snoc_ind (fun _ => rfl) ?_
  · intro l x ih h
    have hl : IsBytes l := fun v hv => h v (List.mem_append_left _ hv)
    have hx := h x (List.mem_append_right _ (List.mem_singleton_self x))
    have e1 : (beL l * 256 + x) / 256 = beL l := by omega
    have e2 : (beL l * 256 + x) % 256 = x := by omega
    rw [be_snoc, List.length_append, List.length_singleton, dg, e1, e2, ih hl]
theorem wrap_id64 {x : Int} (h0 : 0 ≤ x) (h1 : x ≤ 9223372036854775807) : IntKind.i64.wrap x = x := by rw [IntKind.wrap_i64]; omega
/-- What is read of a number's bytes is the number. -/
theorem num_numS {s : ByteArray} {u m : Nat} {v : Int} (h : u + m ≤ s.size) (he : s.extract u (u + m) = numS v m) (h0 : 0 ≤ v) (h1 : v < (256 : Int) ^ m) (h2 : v ≤ 9223372036854775807) : num s u m = v := by
  unfold num
  rw [(takes h).1, he, bytes_numS, be_dg m v h0 h1, wrap_id64 h0 h2]
/-- The bytes of what is read, if it is no number below 0. -/
theorem numS_num {s : ByteArray} {u m : Nat} (h : u + m ≤ s.size) (hm : m ≤ 8) (h0 : 0 ≤ num s u m) : numS (num s u m) m = s.extract u (u + m) := by
  unfold num at h0 ⊢
  rw [(takes h).1] at h0 ⊢
  have hl : (bytesOf (s.extract u (u + m))).length = m := by rw [Go.Proofs.YtbeibmdccjgcmaaDoorW.PrintWords.bytesOf_length, size_ext _ _ _ h]; omega
  have hb := isBytes_of (s.extract u (u + m))
  obtain ⟨p1, p2⟩ := be_pos _ hb
  have p3 : beL (bytesOf (s.extract u (u + m))) < 18446744073709551616 := by
    refine Int.lt_of_lt_of_le p2 ?_
    rw [hl]
    have h8 : (256 : Int) ^ m ≤ (256 : Int) ^ 8 := by
      rcases (show m = 0 ∨ m = 1 ∨ m = 2 ∨ m = 3 ∨ m = 4 ∨ m = 5 ∨ m = 6 ∨ m = 7 ∨ m = 8 by omega) with e | e | e | e | e | e | e | e | e <;> subst e <;> decide
    exact h8
  have e : IntKind.i64.wrap (beL (bytesOf (s.extract u (u + m)))) = beL (bytesOf (s.extract u (u + m))) := by
    rw [IntKind.wrap_i64] at h0 ⊢
    omega
  rw [e]
  apply bytesOf_inj
  rw [bytes_numS]
  have := dg_be _ hb
  rw [hl] at this
  exact this
theorem ext_at (a b c : ByteArray) (u n : Nat) (ha : a.size = u) (hb : b.size = n) : (a ++ (b ++ c)).extract u (u + n) = b := by
  subst ha
  subst hb
  apply bytesOf_inj
  rw [bytesOf_extract, bytesOf_append, bytesOf_append]
  have l1 : (bytesOf a).length = a.size := Go.Proofs.YtbeibmdccjgcmaaDoorW.PrintWords.bytesOf_length a
  have l2 : (bytesOf b).length = b.size := Go.Proofs.YtbeibmdccjgcmaaDoorW.PrintWords.bytesOf_length b
  rw [List.take_append, List.drop_append, ← l1, List.take_of_length_le (by omega), List.drop_length, List.nil_append, Nat.sub_self, List.drop_zero, Nat.add_sub_cancel_left, ← l2, List.take_left']
  rfl
theorem make_size (nm : ByteArray) (mo ti sz : Int) (su : ByteArray) (h : su.size = 32) : (makeB nm mo ti sz su).size = 1 + nm.size + 2 + 8 + 4 + 32 := by
  unfold makeB
  rw [ByteArray.size_append, ByteArray.size_append, ByteArray.size_append, ByteArray.size_append, ByteArray.size_append, numS_size, numS_size, numS_size, numS_size, h]
/-- Read of Make is what was said. -/
theorem read_make (nm : ByteArray) (mo ti sz : Int) (su t : ByteArray) (hN : nameL nm.data.toList = true) (hR : restB mo ti sz su = true) : readA (makeB nm mo ti sz su ++ t) = ⟨nm, mo, ti, sz, su, (makeB nm mo ti sz su).size, 0⟩ := by
  have hl := name_len hN
  obtain ⟨r1, r2, r3, r4, r5, r6, r7⟩ := rest_iff hR
  have hms := make_size nm mo ti sz su r7
  obtain ⟨S, hS⟩ : ∃ S, S = makeB nm mo ti sz su ++ t := ⟨_, rfl⟩
  have hSs : S.size = 47 + nm.size + t.size := by rw [hS, ByteArray.size_append, hms]; omega
  have e0 : S = ⟨#[]⟩ ++ (numS (nm.size : Int) 1 ++ (nm ++ (numS mo 2 ++ (numS ti 8 ++ (numS sz 4 ++ (su ++ t)))))) := by
    rw [hS, nil_app]; unfold makeB; simp only [app_assoc]
  have e1 : S = numS (nm.size : Int) 1 ++ (nm ++ (numS mo 2 ++ (numS ti 8 ++ (numS sz 4 ++ (su ++ t))))) := by
    rw [hS]; unfold makeB; simp only [app_assoc]
  have e2 : S = (numS (nm.size : Int) 1 ++ nm) ++ (numS mo 2 ++ (numS ti 8 ++ (numS sz 4 ++ (su ++ t)))) := by
    rw [hS]; unfold makeB; simp only [app_assoc]
  have e3 : S = ((numS (nm.size : Int) 1 ++ nm) ++ numS mo 2) ++ (numS ti 8 ++ (numS sz 4 ++ (su ++ t))) := by
    rw [hS]; unfold makeB; simp only [app_assoc]
  have e4 : S = (((numS (nm.size : Int) 1 ++ nm) ++ numS mo 2) ++ numS ti 8) ++ (numS sz 4 ++ (su ++ t)) := by
    rw [hS]; unfold makeB; simp only [app_assoc]
  have e5 : S = ((((numS (nm.size : Int) 1 ++ nm) ++ numS mo 2) ++ numS ti 8) ++ numS sz 4) ++ (su ++ t) := by
    rw [hS]; unfold makeB; simp only [app_assoc]
  have x0 : S.extract 0 (0 + 1) = numS (nm.size : Int) 1 := by rw [e0]; exact ext_at _ _ _ 0 1 rfl (numS_size _ _)
  have x1 : S.extract 1 (1 + nm.size) = nm := by rw [e1]; exact ext_at _ _ _ _ _ (numS_size _ _) rfl
  have x2 : S.extract (1 + nm.size) (1 + nm.size + 2) = numS mo 2 := by rw [e2]; exact ext_at _ _ _ _ _ (by rw [ByteArray.size_append, numS_size]) (numS_size _ _)
  have x3 : S.extract (1 + nm.size + 2) (1 + nm.size + 2 + 8) = numS ti 8 := by rw [e3]; exact ext_at _ _ _ _ _ (by rw [ByteArray.size_append, ByteArray.size_append, numS_size, numS_size]) (numS_size _ _)
  have x4 : S.extract (1 + nm.size + 2 + 8) (1 + nm.size + 2 + 8 + 4) = numS sz 4 := by rw [e4]; exact ext_at _ _ _ _ _ (by rw [ByteArray.size_append, ByteArray.size_append, ByteArray.size_append, numS_size, numS_size, numS_size]) (numS_size _ _)
  have x5 : S.extract (1 + nm.size + 2 + 8 + 4) (1 + nm.size + 2 + 8 + 4 + 32) = su := by rw [e5]; exact ext_at _ _ _ _ _ (by rw [ByteArray.size_append, ByteArray.size_append, ByteArray.size_append, ByteArray.size_append, numS_size, numS_size, numS_size, numS_size]) r7
  have n0 : num S 0 1 = (nm.size : Int) := num_numS (by omega) x0 (by omega) (by show (nm.size : Int) < 256; omega) (by omega)
  have n2 : num S (1 + nm.size) 2 = mo := num_numS (by omega) x2 r1 (by show mo < 65536; omega) (by omega)
  have n3 : num S (1 + nm.size + 2) 8 = ti := num_numS (by omega) x3 r3 (by show ti < 18446744073709551616; omega) (by omega)
  have n4 : num S (1 + nm.size + 2 + 8) 4 = sz := num_numS (by omega) x4 r5 (by show sz < 4294967296; omega) (by omega)
  rw [← hS, read_fit n0 (by omega), x1, n2, n3, n4, x5, if_pos (by unfold mayB; rw [hN, hR]; rfl), hms]
/-- What Read tells may be, and Make of it are the bytes that were used; or it is refused. -/
theorem read_cases (s : ByteArray) : readA s = errA ∨ ((readA s).e = 0 ∧ mayB (readA s).nm (readA s).mo (readA s).ti (readA s).sz (readA s).su = true ∧ (readA s).used = 47 + (readA s).nm.size ∧ (readA s).used ≤ s.size ∧ makeB (readA s).nm (readA s).mo (readA s).ti (readA s).sz (readA s).su = s.extract 0 (readA s).used) := by
  obtain ⟨n0, hn0, hn1⟩ := num_one s 0
  by_cases h1 : 47 + n0 ≤ s.size
  · have h := read_fit hn0 h1
    by_cases hM : mayB (s.extract 1 (1 + n0)) (num s (1 + n0) 2) (num s (1 + n0 + 2) 8) (num s (1 + n0 + 2 + 8) 4) (s.extract (1 + n0 + 2 + 8 + 4) (1 + n0 + 2 + 8 + 4 + 32)) = true
    · rw [if_pos hM] at h
      refine .inr ?_
      rw [h]
      have hnm : (s.extract 1 (1 + n0)).size = n0 := by rw [size_ext _ _ _ (by omega)]; omega
      refine ⟨rfl, hM, by show 1 + n0 + 2 + 8 + 4 + 32 = 47 + (s.extract 1 (1 + n0)).size; rw [hnm]; omega, by show 1 + n0 + 2 + 8 + 4 + 32 ≤ s.size; omega, ?_⟩
      unfold mayB at hM
      rw [Bool.and_eq_true] at hM
      obtain ⟨r1, r2, r3, r4, r5, r6, r7⟩ := rest_iff hM.2
      show makeB (s.extract 1 (1 + n0)) (num s (1 + n0) 2) (num s (1 + n0 + 2) 8) (num s (1 + n0 + 2 + 8) 4) (s.extract (1 + n0 + 2 + 8 + 4) (1 + n0 + 2 + 8 + 4 + 32)) = s.extract 0 (1 + n0 + 2 + 8 + 4 + 32)
      unfold makeB
      rw [hnm, ← hn0, numS_num (by omega) (by decide) (by rw [hn0]; omega), numS_num (by omega) (by decide) r1, numS_num (by omega) (by decide) r3, numS_num (by omega) (by decide) r5]
      rw [show (0 : Nat) + 1 = 1 from rfl]
      rw [← ByteArray.extract_eq_extract_append_extract 1 (by omega) (by omega), ← ByteArray.extract_eq_extract_append_extract (1 + n0) (by omega) (by omega), ← ByteArray.extract_eq_extract_append_extract (1 + n0 + 2) (by omega) (by omega), ← ByteArray.extract_eq_extract_append_extract (1 + n0 + 2 + 8) (by omega) (by omega), ← ByteArray.extract_eq_extract_append_extract (1 + n0 + 2 + 8 + 4) (by omega) (by omega)]
    · rw [if_neg hM] at h
      exact .inl h
  · exact .inl (read_short hn0 h1)
end Go.Proofs.YtbeibmdccjgcmaaDoor.Me
namespace Go.Proofs.YtbeibmdccjgcmaaDoor.PQu
open Go.RowKit Go.Lib Go.Proofs.YtbeibmdccjgcmaaDoorW.PrintWords Go.Proofs.YtbeibmdccjgcmaaDoorW.PrintLast Go.Proofs.YtbeibmdccjgcmaaDoorW.PrintMore Go.Proofs.YtbeibmdccjgcmaaDoor.Pb
set_option linter.unusedVariables false
set_option linter.unusedSimpArgs false
def mkQ (x : MS) : ByteArray × Int := Me.makeR x.f0 x.f1 x.f2 x.f3 x.f4
/-- How the first one that may not be is refused. -/
def badQ : List MS → Int
  | [] => 0
  | x :: l => if (mkQ x).2 = 0 then badQ l else (mkQ x).2
/-- Their bytes, one behind the other. -/
def catQ : List MS → ByteArray
  | [] => ⟨#[]⟩
  | x :: l => (mkQ x).1 ++ catQ l
def headQ (n : Nat) : ByteArray := ⟨#[113, 99, 107, 49]⟩ ++ strOfNums [((n : Int)) % 256]
def bodyQ (l : List MS) : ByteArray := headQ l.length ++ catQ l
/-- A list's bytes, or how it is refused. -/
def makeQ (l : List MS) : ByteArray × Int := if badQ l = 0 then (if togQ l = 0 then (bodyQ l ++ Bk.blakeSum (bodyQ l), 0) else (⟨#[]⟩, togQ l)) else (⟨#[]⟩, badQ l)
theorem catQ_snoc (l : List MS) (x : MS) : catQ (l ++ [x]) = catQ l ++ (mkQ x).1 := by
  induction l with
  | nil => simp only [List.nil_append, catQ, nil_app, app_nil]
  | cons y l ih => rw [List.cons_append, catQ, catQ, ih, app_assoc]
theorem badQ_app (l : List MS) (m : List MS) (h : badQ l = 0) : badQ (l ++ m) = badQ m := by
  induction l with
  | nil => rfl
  | cons y l ih =>
    rw [badQ] at h
    rw [List.cons_append, badQ]
    by_cases hy : (mkQ y).2 = 0
    · rw [if_pos hy] at h
      rw [if_pos hy, ih h]
    · rw [if_neg hy] at h
      exact absurd h hy
theorem badQ_iff (l : List MS) : badQ l = 0 ↔ ∀ x ∈ l, (mkQ x).2 = 0 := by
  induction l with
  | nil => simp [badQ]
  | cons y l ih =>
    rw [badQ]
    by_cases hy : (mkQ y).2 = 0
    · rw [if_pos hy, ih]
      simp [hy]
    · rw [if_neg hy]
      simp [hy]
/-- What may be. -/
def fineQ (x : MS) : Bool := Me.mayB x.f0 x.f1 x.f2 x.f3 x.f4
theorem mkQ_fine (x : MS) : (mkQ x).2 = 0 ↔ fineQ x = true := by
  unfold mkQ Me.makeR fineQ Me.mayB
  by_cases hN : Me.nameL x.f0.data.toList = true
  · by_cases hR : Me.restB x.f1 x.f2 x.f3 x.f4 = true
    · rw [if_pos hN, if_pos hR, hN, hR]; exact ⟨fun _ => rfl, fun _ => rfl⟩
    · rw [if_pos hN, if_neg hR, Bool.eq_false_iff.2 hR, Bool.and_false]; decide
  · rw [if_neg hN, Bool.eq_false_iff.2 hN, Bool.false_and]; decide
theorem fineQ_parts {x : MS} (h : fineQ x = true) : Me.nameL x.f0.data.toList = true ∧ Me.restB x.f1 x.f2 x.f3 x.f4 = true := by
  unfold fineQ Me.mayB at h
  rw [Bool.and_eq_true] at h
  exact h
theorem mkQ_size (x : MS) : (mkQ x).1.size ≤ 302 := by
  unfold mkQ Me.makeR
  by_cases hN : Me.nameL x.f0.data.toList = true
  · by_cases hR : Me.restB x.f1 x.f2 x.f3 x.f4 = true
    · rw [if_pos hN, if_pos hR]
      have h1 := Me.name_len hN
      have h2 := (Me.rest_iff hR).2.2.2.2.2.2
      show (Me.makeB x.f0 x.f1 x.f2 x.f3 x.f4).size ≤ 302
      unfold Me.makeB
      rw [ByteArray.size_append, ByteArray.size_append, ByteArray.size_append, ByteArray.size_append, ByteArray.size_append, Me.numS_size, Me.numS_size, Me.numS_size, Me.numS_size, h2]
      omega
    · rw [if_pos hN, if_neg hR]; exact Nat.zero_le _
  · rw [if_neg hN]; exact Nat.zero_le _
theorem catQ_size : ∀ l : List MS, (catQ l).size ≤ 302 * l.length
  | [] => Nat.zero_le _
  | x :: l => by
    have h1 := catQ_size l
    have h2 := mkQ_size x
    rw [catQ, ByteArray.size_append, List.length_cons]
    omega
theorem headQ_size (n : Nat) : (headQ n).size = 5 := by
  unfold headQ
  rw [ByteArray.size_append, size_nums]
  rfl
/-- The builder, and what lay. -/
structure TB (w W : World) (B : Nat) (l : List UInt8) : Prop where
  own : Lib.IsBuilder 46 5 B B (Lib.byteCells l) W
  bel : Below w.heap.size w W
theorem IsB_turn {T e : TypeId} {B b : Nat} {bs : List Value} {w w' : World} (h : Lib.IsBuilder T e B b bs w) (hb : Below w.heap.size w w') : Lib.IsBuilder T e B b bs w' := by
  have key : ∀ p, Lib.BuilderAt T e B b p bs w → Lib.BuilderAt T e B b p bs w' := fun p ⟨hB, v, h1, h2, h3⟩ =>
    ⟨hB, v, (hb.block b (blk_lt h1)).trans h1, h2.kept (row := none) ⟨hb.os, hb.tape, hb.output, hb.size, fun k hk _ => hb.block k hk⟩ (by cases v.ownBlock <;> simp), h3⟩
  exact h.imp (key _) (key _)
theorem TB.turn {w W W1 : World} {B : Nat} {l : List UInt8} (h : TB w W B l) (hb : Below W.heap.size W W1) : TB w W1 B l := ⟨IsB_turn h.own hb, h.bel.trans (hb.mono h.bel.size)⟩
theorem TB.alloc {w W : World} {B : Nat} {l : List UInt8} (h : TB w W B l) (o : Obj) : TB w (W.alloc o) B l := h.turn (below_alloc (Below.refl _ _) o)
end Go.Proofs.YtbeibmdccjgcmaaDoor.PQu
namespace Go.Proofs.YtbeibmdccjgcmaaDoor.PQu
open Go.RowKit Go.Proofs.YtbeibmdccjgcmaaDoorW.PrintWords Go.Proofs.YtbeibmdccjgcmaaDoorW.PrintLast Go.Proofs.YtbeibmdccjgcmaaDoorW.PrintMore
attribute [local go_sem] max2_int min2_int max_two min_two max_three min_three max_four min_four   -- for this text's walks alone
set_option linter.unusedVariables false
set_option linter.unusedSimpArgs false

/-! ### quick_Make: function 10 -/
end Go.Proofs.YtbeibmdccjgcmaaDoor.PQu
namespace Go.Proofs.YtbeibmdccjgcmaaDoor.PQu
open Go.RowKit Go.Lib Go.Shelf Go.Proofs.YtbeibmdccjgcmaaDoorW.PrintWords Go.Proofs.YtbeibmdccjgcmaaDoorW.PrintLast Go.Proofs.YtbeibmdccjgcmaaDoorW.PrintMore Go.Proofs.YtbeibmdccjgcmaaDoor.Pb
set_option linter.unusedVariables false
set_option linter.unusedSimpArgs false
instance : Inhabited MS := ⟨z33⟩
def laysQ_ren : Go.Shelf.Ren := ⟨fun | 8 => 30 | 6 => 46 | n => n, fun | 22 => 22 | 23 => 33 | 25 => 36 | 4 => 4 | 3 => 3 | 0 => 0 | n => n, fun | n => n⟩
theorem laysQ : Go.Proofs.SlLaysH0.n8 Tryd.prog laysQ_ren := {
  mixed := by kernel_rfl
  f6 := ⟨Tryd.f46.name, by decide, Tryd.func46.trans (congrArg some (by kernel_rfl))⟩
  f8 := ⟨Tryd.f30.name, by decide, Tryd.func30.trans (congrArg some (by kernel_rfl))⟩
  t0 := Tryd.underlying0
  a0 := Tryd.isAgg0
  z0 := Tryd.sizeOf0
  v0 := Tryd.zeroValue0
  t3 := Tryd.underlying3
  a3 := Tryd.isAgg3
  z3 := Tryd.sizeOf3
  v3 := Tryd.zeroValue3
  t4 := Tryd.underlying4
  a4 := Tryd.isAgg4
  z4 := Tryd.sizeOf4
  v4 := Tryd.zeroValue4
  t22 := Tryd.underlying22
  a22 := Tryd.isAgg22
  z22 := Tryd.sizeOf22
  v22 := Tryd.zeroValue22
  t25 := Tryd.underlying36
  a25 := Tryd.isAgg36
  z25 := Tryd.sizeOf36
  v25 := Tryd.zeroValue36 }
def encQ (x : MS) : List Value := [.string x.f0, .int .i64 x.f1, .int .i64 x.f2, .int .i64 x.f3, .string x.f4]
set_option maxHeartbeats 1000000 in
/-- The predicate. -/
theorem pred_calls (w W : World) (hT : Me.Tabs w) (hB : Below w.heap.size w W) (x : MS) :
    Calls Tryd.prog 31 (#[.agg (encQ x).toArray] ++ #[]) W fun e w' => e = .returned (.bool (!fineQ x)) ∧ Below w.heap.size w w' := by
  have HT := Aside0.mk (hT.below hB)
  have HB := Aside0.mk hB
  clear hT hB
  obtain ⟨nm, mo, ti, sz, su⟩ := x
  have hg := blk_new W (.cells #[.string nm, .int .i64 mo, .int .i64 ti, .int .i64 sz, .string su] 33)
  have HB1 := Aside0.mk (below_alloc (Below.refl _ W) (.cells #[.string nm, .int .i64 mo, .int .i64 ti, .int .i64 sz, .string su] 33))
  have HG := Aside0.mk hg
  clear hg
  show Calls Tryd.prog 31 #[.agg #[.string nm, .int .i64 mo, .int .i64 ti, .int .i64 sz, .string su]] W _
  go_enter Tryd.func31, Tryd.ntmps31
  go_upto_region 1 with fail
  generalize W.alloc (.cells #[.string nm, .int .i64 mo, .int .i64 ti, .int .i64 sz, .string su] 33) = W1 at HG HB1 ⊢
  obtain ⟨g, hgg⟩ : ∃ g, g = W.heap.size := ⟨_, rfl⟩
  rw [← hgg] at HG ⊢
  clear hgg
  have c0 := (blk_cell HG.out 0).trans rfl
  have c1 := (blk_cell HG.out 1).trans rfl
  have c2 := (blk_cell HG.out 2).trans rfl
  have c3 := (blk_cell HG.out 3).trans rfl
  have c4 := (blk_cell HG.out 4).trans rfl
  go_wp2_with fail
  refine (Me.may_calls nm mo ti sz su _ (HT.out.below HB1.out)).mono ?_
  rintro e w3 ⟨rfl, hb⟩
  have HW := Aside0.mk (HB.out.trans ((HB1.out.trans (hb.mono HB1.out.size)).mono HB.out.size))
  clear hb c0 c1 c2 c3 c4
  generalize hm : Me.mayB nm mo ti sz su = m
  have HM := Aside0.mk (show fineQ ⟨nm, mo, ti, sz, su⟩ = m from hm)
  clear hm
  go_wp2_with fail
  go_ret
  refine ⟨?_, HW.out⟩
  rw [HM.out]
  rfl
set_option maxHeartbeats 1000000 in
/-- Is there one that may not be? -/
theorem contains_calls (A : Option Addr) (c : Nat) (l : List MS) (w : World) (hT : Me.Tabs w) (hr : Kd.C k33 w A l.length l) (hn : l.length ≤ 1000000) :
    Calls Tryd.prog 30 #[.slice A l.length c, .func (.func 31) #[] #[]] w fun e w' => e = .returned (.bool (l.any fun x => !fineQ x)) ∧ Below w.heap.size w w' := by
  by_cases h0 : l.length = 0
  · obtain rfl := List.eq_nil_of_length_eq_zero h0
    clear hr hT h0 hn
    go_enter Tryd.func30, Tryd.ntmps30
    go_wp2_with fail
    have key : Calls Tryd.prog 46 #[.slice A 0 c, .func (.func 31) #[] #[]] w fun e w' => e = .returned (.int .i64 (-1)) ∧ w' = w := by
      go_enter Tryd.func46, Tryd.ntmps46
      go_wp2
      refine wp_loop_rounds 1 ?_
      rw [rounds_succ]
      go_wp2
      go_ret
      exact ⟨rfl, rfl⟩
    refine key.mono ?_
    rintro e w1 ⟨rfl, rfl⟩
    go_wp2_with fail
    go_ret
    exact ⟨rfl, Below.refl _ _⟩
  · obtain ⟨ad, ea, hq, _⟩ := at_T33 hr 0 (by decide) (by omega)
    cases ea
    obtain ⟨b, off, spot⟩ := ad
    have hb : b < w.heap.size := World.block_lt_of_cell? w _ hq
    have hsp : spot = none := by
      have h1 : w.cell? ⟨b, off, spot⟩ = some (.string (rd_T33 l 0).f0) := hq
      cases spot with
      | none => rfl
      | some z =>
        unfold World.cell? at h1
        revert h1
        dsimp only
        cases w.heap[b]? with
        | none => simp
        | some o => cases o <;> simp
    subst hsp
    clear hq
    have hcell : ∀ j, j < l.length → ∀ i v, (encQ l[j]!)[i]? = some v → w.cell? ⟨b, off + j * 5 + i, none⟩ = some v := by
      intro j hj i v hi
      obtain ⟨ad2, ea2, q0, q1, q2, q3, q4⟩ := at_T33 hr (j : Int) (by omega) (by omega)
      cases ea2
      have ej : rd_T33 l (j : Int) = l[j]! := by
        unfold rd_T33
        rw [Int.toNat_natCast, List.getD_eq_getElem?_getD, List.getElem?_eq_getElem hj, getElem!_pos l j hj]
        rfl
      rw [ej, Int.toNat_natCast, Addr.add_lit] at q0 q1 q2 q3 q4
      match i, hi with
      | 0, hi => exact Option.some.inj hi ▸ q0
      | 1, hi => exact Option.some.inj hi ▸ q1
      | 2, hi => exact Option.some.inj hi ▸ q2
      | 3, hi => exact Option.some.inj hi ▸ q3
      | 4, hi => exact Option.some.inj hi ▸ q4
      | z + 5, hi => simp [encQ] at hi
    refine (AnyQ.slices_ContainsFunc laysQ 5 Tryd.isAgg33 Tryd.sizeOf33 encQ (fun _ => rfl) (fun x => !fineQ x) 31 #[] (fun args w => enters_ Tryd.func31 (by kernel_rfl) rfl args w) b off l.length c l w (fun W x hW => pred_calls w W hT hW x) (Nat.le_refl _) (by omega) hb hcell).mono ?_
    rintro e w' ⟨rfl, h⟩
    rw [List.take_length]
    exact ⟨rfl, h⟩
def mayQ (l : List MS) : Bool := (makeQ l).2 == 0
theorem makeQ_two (l : List MS) : (makeQ l).2 = if badQ l = 0 then togQ l else badQ l := by
  unfold makeQ
  by_cases h1 : badQ l = 0
  · rw [if_pos h1, if_pos h1]
    by_cases h2 : togQ l = 0
    · rw [if_pos h2, h2]
    · rw [if_neg h2]
  · rw [if_neg h1, if_neg h1]
set_option maxHeartbeats 1000000 in
theorem qmay_calls (A : Option Addr) (c : Nat) (l : List MS) (w : World) (hT : Me.Tabs w) (hr : Kd.C k33 w A l.length l) (hn : l.length ≤ 1000000) :
    Calls Tryd.prog 12 #[.slice A l.length c] w fun e w' => e = .returned (.bool (mayQ l)) ∧ Below w.heap.size w w' := by
  have HR := Aside0.mk hr
  have HT := Aside0.mk hT
  clear hr hT
  have hany : (l.any fun x => !fineQ x) = !decide (badQ l = 0) := by
    by_cases h : badQ l = 0
    · rw [decide_eq_true h, Bool.not_true, List.any_eq_false]
      intro x hx
      rw [(mkQ_fine x).1 ((badQ_iff l).1 h x hx)]
      decide
    · rw [decide_eq_false h, Bool.not_false, List.any_eq_true]
      have h2 : ¬ ∀ x ∈ l, (mkQ x).2 = 0 := fun h2 => h ((badQ_iff l).2 h2)
      obtain ⟨x, hx⟩ := Classical.not_forall.1 h2
      obtain ⟨hx, hx2⟩ := Classical.not_imp.1 hx
      refine ⟨x, hx, ?_⟩
      cases hf : fineQ x with
      | true => exact absurd ((mkQ_fine x).2 hf) hx2
      | false => rfl
  have hmay : mayQ l = ((if badQ l = 0 then togQ l else badQ l) == 0) := by unfold mayQ; rw [makeQ_two]
  have HM := Aside0.mk hmay
  by_cases hb : badQ l = 0
  · have hc := contains_calls A c l w HT.out HR.out hn
    rw [hany, decide_eq_true hb] at hc
    have HC := Aside0.mk hc
    have hall := (badQ_iff l).1 hb
    have hsz : ∀ x ∈ l, 0 ≤ x.f3 ∧ x.f3 ≤ 32768 := fun x hx => by
      have h := Me.rest_iff (fineQ_parts ((mkQ_fine x).1 (hall x hx))).2
      exact ⟨h.2.2.2.2.1, h.2.2.2.2.2.1⟩
    have hnm : ∀ x ∈ l, x.f0.size ≤ 255 := fun x hx => Me.name_len (fineQ_parts ((mkQ_fine x).1 (hall x hx))).1
    have HSZ := Aside0.mk hsz
    have HNM := Aside0.mk hnm
    rw [if_pos hb] at hmay
    have HM := Aside0.mk hmay
    clear hc hany hmay hall hsz hnm hb
    go_enter Tryd.func12, Tryd.ntmps12
    go_wp2_with fail
    refine HC.out.mono ?_
    rintro e w1 ⟨rfl, hb⟩
    have HB := Aside0.mk hb
    clear hb
    go_wp2_with fail
    refine (together_calls A c l _ (Kd.C_below HR.out HB.out) hn HSZ.out HNM.out).mono ?_
    rintro e w2 ⟨rfl, hb⟩
    have HB2 := Aside0.mk (HB.out.trans (hb.mono HB.out.size))
    clear hb
    go_wp2_with fail
    go_ret
    refine ⟨?_, HB2.out⟩
    rw [HM.out]
    rfl
  · have hc := contains_calls A c l w HT.out HR.out hn
    rw [hany, decide_eq_false hb] at hc
    have HC := Aside0.mk hc
    rw [if_neg hb, beq_eq_false_iff_ne.mpr hb] at hmay
    have HM := Aside0.mk hmay
    clear hc hany hmay hb
    go_enter Tryd.func12, Tryd.ntmps12
    go_wp2_with fail
    refine HC.out.mono ?_
    rintro e w1 ⟨rfl, hb⟩
    have HB := Aside0.mk hb
    clear hb
    go_wp2_with fail
    go_ret
    refine ⟨?_, HB.out⟩
    rw [HM.out]
    rfl
end Go.Proofs.YtbeibmdccjgcmaaDoor.PQu
namespace Go.Proofs.YtbeibmdccjgcmaaDoor.PQu
open Go.RowKit Go.Proofs.YtbeibmdccjgcmaaDoorW.PrintWords Go.Proofs.YtbeibmdccjgcmaaDoorW.PrintLast Go.Proofs.YtbeibmdccjgcmaaDoorW.PrintMore
attribute [local go_sem] max2_int min2_int max_two min_two max_three min_three max_four min_four   -- for this text's walks alone
set_option linter.unusedVariables false
set_option linter.unusedSimpArgs false

/-! ### quick_May: function 12 -/
end Go.Proofs.YtbeibmdccjgcmaaDoor.PQu
namespace Go.Proofs.YtbeibmdccjgcmaaDoor.PQu
open Go.RowKit Go.Lib Go.Proofs.YtbeibmdccjgcmaaDoorW.PrintWords Go.Proofs.YtbeibmdccjgcmaaDoorW.PrintLast Go.Proofs.YtbeibmdccjgcmaaDoorW.PrintMore Go.Proofs.YtbeibmdccjgcmaaDoor.Pb
set_option linter.unusedVariables false
set_option linter.unusedSimpArgs false
def mkb (x : MS) : ByteArray := Me.makeB x.f0 x.f1 x.f2 x.f3 x.f4
theorem mkQ_of {x : MS} (h : fineQ x = true) : mkQ x = (mkb x, 0) := by
  obtain ⟨h1, h2⟩ := fineQ_parts h
  unfold mkQ Me.makeR mkb
  rw [if_pos h1, if_pos h2]
theorem catQ_cons {x : MS} {l : List MS} (h : fineQ x = true) : catQ (x :: l) = mkb x ++ catQ l := by rw [catQ, mkQ_of h]
theorem makeQ_zero {l : List MS} (h : (makeQ l).2 = 0) : badQ l = 0 ∧ togQ l = 0 ∧ makeQ l = (bodyQ l ++ Bk.blakeSum (bodyQ l), 0) := by
  rw [makeQ_two] at h
  by_cases hb : badQ l = 0
  · rw [if_pos hb] at h
    refine ⟨hb, h, ?_⟩
    unfold makeQ
    rw [if_pos hb, if_pos h]
  · rw [if_neg hb] at h
    exact absurd h hb
theorem togQ_zero {l : List MS} (h : togQ l = 0) : dupQ (namesQ l) = false ∧ l.length ≤ 64 ∧ sumQ l ≤ 32768 := by
  unfold togQ at h
  by_cases hd : dupQ (namesQ l) = false
  · rw [if_pos hd] at h
    by_cases hc : 64 < l.length ∨ 32768 < sumQ l
    · rw [if_pos hc] at h
      exact absurd h (by decide)
    · exact ⟨hd, by omega, by omega⟩
  · rw [if_neg hd] at h
    exact absurd h (by decide)
theorem all_fine {l : List MS} (h : badQ l = 0) : ∀ x ∈ l, fineQ x = true := fun x hx => (mkQ_fine x).1 ((badQ_iff l).1 h x hx)
/-- A list's bytes, apart. -/
theorem made_parts {l : List MS} {s : ByteArray} (h : makeQ l = (s, 0)) : (∀ x ∈ l, fineQ x = true) ∧ l.length ≤ 64 ∧ s = bodyQ l ++ Bk.blakeSum (bodyQ l) ∧ s.size = (bodyQ l).size + 32 ∧ (bodyQ l).size = 5 + (catQ l).size := by
  have h2 : (makeQ l).2 = 0 := by rw [h]
  obtain ⟨hb, ht, he⟩ := makeQ_zero h2
  rw [h] at he
  have hs : s = bodyQ l ++ Bk.blakeSum (bodyQ l) := congrArg Prod.fst he
  refine ⟨all_fine hb, (togQ_zero ht).2.1, hs, ?_, ?_⟩
  · rw [hs, ByteArray.size_append, Bk.blakeSum_size]
  · unfold bodyQ
    rw [ByteArray.size_append, headQ_size]
end Go.Proofs.YtbeibmdccjgcmaaDoor.PQu
