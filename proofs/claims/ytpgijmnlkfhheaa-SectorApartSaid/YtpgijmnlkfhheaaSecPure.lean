/- The sectors' layer in plain words: what Join makes and Cut tells (in the program). -/
import Derived.Test.YtpgijmnlkfhheaaSecWords
import Derived.Test.YtpgijmnlkfhheaaPSecPx25
import Derived.Test.YtpgijmnlkfhheaaPSecPx28
import Derived.Test.YtpgijmnlkfhheaaPSecPx20
import Derived.Test.YtpgijmnlkfhheaaPSecPx1
namespace Go.Proofs.Ytpgijmnlkfhheaa.Tw
open Go.RowKit Go.Proofs.YtpgijmnlkfhheaaW.PrintWords Go.Proofs.YtpgijmnlkfhheaaW.PrintLast Go.Proofs.YtpgijmnlkfhheaaW.PrintMore Go.Proofs.Ytpgijmnlkfhheaa.PSecP Go.Proofs.Ytpgijmnlkfhheaa.Pb
set_option linter.unusedVariables false
set_option linter.unusedSimpArgs false
/-- A volume that may be. -/
def mayB (id : ByteArray) (n z R : Int) : Bool := decide (id.size = 16 ∧ 0 ≤ n ∧ n ≤ 65535 ∧ 2 ≤ z ∧ z ≤ 512 ∧ Int.tmod z 2 = 0 ∧ 1 ≤ R ∧ R ≤ 96)
theorem may_f (id : ByteArray) (n z R : Int) : sector_May.f id n z R = some (mayB id n z R) := by
  unfold sector_May.f mayB
  by_cases h1 : (id.size : Int) = 16
  · rw [if_pos h1]
    by_cases h2 : n ≥ 0
    · rw [if_pos h2]
      by_cases h3 : n ≤ 65535
      · rw [if_pos h3]
        by_cases h4 : z ≥ 2
        · rw [if_pos h4]
          by_cases h5 : z ≤ 512
          · rw [if_pos h5]
            by_cases h6 : Int.tmod z 2 = 0
            · rw [if_pos h6]
              by_cases h7 : R ≥ 1
              · rw [if_pos h7]
                congr 1
                rw [decide_eq_decide]
                exact ⟨fun h => ⟨by omega, h2, h3, h4, h5, h6, h7, h⟩, fun h => h.2.2.2.2.2.2.2⟩
              · rw [if_neg h7, decide_eq_false fun h => h7 h.2.2.2.2.2.2.1]
            · rw [if_neg h6, decide_eq_false fun h => h6 h.2.2.2.2.2.1]
          · rw [if_neg h5, decide_eq_false fun h => h5 h.2.2.2.2.1]
        · rw [if_neg h4, decide_eq_false fun h => h4 h.2.2.2.1]
      · rw [if_neg h3, decide_eq_false fun h => h3 h.2.2.1]
    · rw [if_neg h2, decide_eq_false fun h => h2 h.2.1]
  · rw [if_neg h1, decide_eq_false fun h => h1 (by have := h.1; omega)]
theorem may_iff {id : ByteArray} {n z R : Int} (h : mayB id n z R = true) : id.size = 16 ∧ 0 ≤ n ∧ n ≤ 65535 ∧ 2 ≤ z ∧ z ≤ 512 ∧ Int.tmod z 2 = 0 ∧ 1 ≤ R ∧ R ≤ 96 := of_decide_eq_true h
theorem fit_of {id : ByteArray} {n z R : Int} (h : mayB id n z R = true) {i : Int} (h0 : 0 ≤ i) (h1 : i ≤ 65535) : Fit id n i :=
  have k := may_iff h
  ⟨k.1, k.2.1, k.2.2.1, h0, h1⟩
/-- A volume's bytes, from row i on. -/
def joinB (id : ByteArray) (n : Int) : Nat → List ByteArray → ByteArray
  | _, [] => ⟨#[]⟩
  | i, r :: rs => (r ++ tagOf id n (i : Int) r) ++ joinB id n (i + 1) rs
def sized (z : Int) (rows : List ByteArray) : Bool := rows.all fun r => decide ((r.size : Int) = z)
theorem rd_mid (pre rest : List ByteArray) (r : ByteArray) : rdOf ByteArray.empty (pre ++ r :: rest) (pre.length : Int) = r := by
  unfold rdOf
  simp [List.getD]
theorem join_l0 (id : ByteArray) (n z R : Int) (hM : mayB id n z R = true) : ∀ (todo pre : List ByteArray) (k : Nat) (acc : ByteArray), todo.length + 4 ≤ k → (pre ++ todo).length ≤ 96 → acc.size ≤ pre.length * 520 →
    sector_Join.l0 k (pre ++ todo) acc (pre.length : Int) id n z R = some (if sized z todo = true then (acc ++ joinB id n pre.length todo, 0) else (⟨#[]⟩, 1))
  | [], pre, k, acc, hk, hl, ha => by
    obtain ⟨k, rfl⟩ : ∃ q, k = q + 1 := ⟨k - 1, by omega⟩
    rw [sector_Join.l0, if_neg (by simp), show sized z [] = true from rfl, if_pos rfl, joinB, app_nil]
  | r :: rest, pre, k, acc, hk, hl, ha => by
    obtain ⟨k, rfl⟩ : ∃ q, k = q + 1 := ⟨k - 1, by omega⟩
    simp only [List.length_cons, List.length_append] at hk hl
    have hM' := may_iff hM
    rw [sector_Join.l0, if_pos (by simp only [List.length_append, List.length_cons]; omega), if_pos (by omega), rd_mid]
    by_cases hz : (r.size : Int) = z
    · rw [if_pos hz]
      refine bind_eq rfl ?_
      obtain ⟨q, rfl⟩ : ∃ q, k = q + 3 := ⟨k - 3, by omega⟩
      refine bind_eq (make_ok q id n (pre.length : Int) r (fit_of hM (by omega) (by omega)) (by omega)) (ite_yes rfl (ite_yes (by rw [tagOf_size]; omega) (ite_yes (by rw [ByteArray.size_append, tagOf_size]; omega) ?_)))
      have e1 : wrap64 ((pre.length : Int) + 1) = ((pre ++ [r]).length : Int) := by rw [wrap_id (by omega) (by omega)]; simp
      have e2 : pre ++ r :: rest = (pre ++ [r]) ++ rest := by simp
      rw [e1, e2, join_l0 id n z R hM rest (pre ++ [r]) (q + 3) _ (by omega) (by simp only [List.length_append, List.length_cons, List.length_nil]; omega) (by rw [ByteArray.size_append, ByteArray.size_append, tagOf_size]; simp only [List.length_append, List.length_cons, List.length_nil]; omega)]
      congr 1
      have e3 : sized z (r :: rest) = sized z rest := by simp [sized, hz]
      rw [e3]
      by_cases hs : sized z rest = true
      · rw [if_pos hs, if_pos hs]
        simp only [Prod.mk.injEq, and_true, joinB]
        rw [app_assoc acc, show (pre ++ [r]).length = pre.length + 1 by simp]
      · rw [if_neg hs, if_neg hs]
    · rw [if_neg hz, if_neg (by simp [sized, hz])]
/-- What Join tells. -/
def joinR (id : ByteArray) (n z R : Int) (rows : List ByteArray) : ByteArray × Int :=
  if mayB id n z R = true ∧ (rows.length : Int) = R ∧ sized z rows = true then (joinB id n 0 rows, 0) else (⟨#[]⟩, 1)
theorem join_f (k : Nat) (hk : 110 ≤ k) (id : ByteArray) (n z R : Int) (rows : List ByteArray) : sector_Join.f k id n z R rows = some (joinR id n z R rows) := by
  unfold sector_Join.f joinR
  refine bind_eq (may_f id n z R) ?_
  obtain ⟨k, rfl⟩ : ∃ q, k = q + 1 := ⟨k - 1, by omega⟩
  by_cases hM : mayB id n z R = true
  · rw [if_pos hM]
    have hM' := may_iff hM
    by_cases hl : (rows.length : Int) = R
    · have e : ((rows.length : Int) != R) = false := by rw [hl]; simp
      rw [e, sector_Join.j0, if_neg (by decide)]
      have h := join_l0 id n z R hM rows [] k ⟨#[]⟩ (by omega) (by rw [List.nil_append]; omega) (by decide)
      rw [List.nil_append, nil_app] at h
      refine h.trans ?_
      by_cases hs : sized z rows = true
      · rw [if_pos hs, if_pos ⟨hM, hl, hs⟩]; rfl
      · rw [if_neg hs, if_neg fun h => hs h.2.2]
    · have e : ((rows.length : Int) != R) = true := by simpa using hl
      rw [e, sector_Join.j0, if_pos rfl, if_neg fun h => hl h.2.1]
  · rw [if_neg hM, sector_Join.j0, if_pos rfl, if_neg fun h => hM h.1]
/-! ### Cut -/
theorem w_add (a b : Nat) (h : a + b ≤ 1000000) : wrap64 ((a : Int) + (b : Int)) = ((a + b : Nat) : Int) := by rw [wrap_id (by omega) (by omega)]; omega
theorem w_add1 (i : Nat) (h : i + 1 ≤ 1000000) : wrap64 ((i : Int) + 1) = ((i + 1 : Nat) : Int) := w_add i 1 h
theorem w_mul (a b : Nat) (h : a * b ≤ 1000000) : wrap64 ((a : Int) * (b : Int)) = ((a * b : Nat) : Int) := by rw [← Int.natCast_mul, wrap_id (by omega) (by omega)]
/-- Is sector i there, and its tag right? -/
def okA (a id : ByteArray) (n : Int) (z i : Nat) : Bool := decide ((i + 1) * (z + 8) ≤ a.size) && decide (tagOf id n (i : Int) (a.extract (i * (z + 8)) (i * (z + 8) + z)) = a.extract (i * (z + 8) + z) ((i + 1) * (z + 8)))
def rowA (a id : ByteArray) (n : Int) (z i : Nat) : ByteArray := if okA a id n z i = true then a.extract (i * (z + 8)) (i * (z + 8) + z) else zerosB z
def tornA (a id : ByteArray) (n : Int) (z : Nat) (l : List Nat) : List Int := (l.filter fun i => !okA a id n z i).map fun (i : Nat) => (i : Int)
theorem strs_zeros (z : Nat) : strOfNums (List.replicate z 0) = zerosB z := rfl
theorem cut_l0 (a id : ByteArray) (n : Int) (z R : Nat) (hM : mayB id n (z : Int) (R : Int) = true) : ∀ (d i k : Nat) (rows : List ByteArray) (torn : List Int), i + d = R → d + 5 ≤ k → rows.length = i → torn.length ≤ i →
    sector_Cut.l0 k a rows torn (i : Int) id n (z : Int) (R : Int) = some (rows ++ (List.range' i d).map (rowA a id n z), torn ++ tornA a id n z (List.range' i d), 0)
  | 0, i, k, rows, torn, hi, hk, hr, ht => by
    obtain ⟨k, rfl⟩ : ∃ q, k = q + 1 := ⟨k - 1, by omega⟩
    rw [sector_Cut.l0, if_neg (by omega)]
    simp [tornA]
  | d + 1, i, k, rows, torn, hi, hk, hr, ht => by
    have hz : z ≤ 512 := by have := may_iff hM; omega
    have hRb : R ≤ 96 := by have := may_iff hM; omega
    obtain ⟨k, rfl⟩ : ∃ q, k = q + 1 := ⟨k - 1, by omega⟩
    obtain ⟨F, hF⟩ : ∃ F, i * (z + 8) = F := ⟨_, rfl⟩
    have hE : (i + 1) * (z + 8) = F + z + 8 := by rw [Nat.succ_mul, hF]; omega
    have hFb : F ≤ 96 * 520 := by rw [← hF]; exact Nat.mul_le_mul (by omega) (by omega)
    have bA : z + 8 ≤ 1000000 := by omega
    have bB : i * (z + 8) ≤ 1000000 := by omega
    have bC : F + z ≤ 1000000 := by omega
    have bD : F + z + 8 ≤ 1000000 := by omega
    have bE : i + 1 ≤ 1000000 := by omega
    have w1 : wrap64 ((z : Int) + 8) = ((z + 8 : Nat) : Int) := w_add z 8 bA
    have w2 : wrap64 ((i : Int) * ((z + 8 : Nat) : Int)) = (F : Int) := (w_mul i (z + 8) bB).trans (by rw [hF])
    have w3 : wrap64 ((F : Int) + (z : Int)) = ((F + z : Nat) : Int) := w_add F z bC
    have w4 : wrap64 (((F + z : Nat) : Int) + 8) = ((F + z + 8 : Nat) : Int) := w_add (F + z) 8 bD
    have w5 : wrap64 ((i : Int) + 1) = ((i + 1 : Nat) : Int) := w_add i 1 bE
    rw [cut_shape, w1, w2, w3, w4, w5]
    clear w1 w2 w3 w4 w5
    rw [cutR, if_pos (by omega), Int.toNat_natCast, Int.toNat_natCast, Int.toNat_natCast, Int.toNat_natCast]
    have IH := fun rows' torn' h1 h2 => cut_l0 a id n z R hM d (i + 1) k rows' torn' (by omega) (by omega) h1 h2
    have split : List.range' i (d + 1) = i :: List.range' (i + 1) d := rfl
    have hok : okA a id n z i = (decide (F + z + 8 ≤ a.size) && decide (tagOf id n (i : Int) (a.extract F (F + z)) = a.extract (F + z) (F + z + 8))) := by unfold okA; rw [hE, hF]
    have zer : okA a id n z i = false → (if 0 ≤ (z : Int) then (if z ≤ 281474976710656 then (if rows.length < 8796093022208 then (if torn.length < 17592186044416 then (sector_Cut.l0 k a (rows ++ [strOfNums (List.replicate z 0)]) (torn ++ [(i : Int)]) ((i + 1 : Nat) : Int) id n (z : Int) (R : Int)) else none) else none) else none) else none) = some (rows ++ (List.range' i (d + 1)).map (rowA a id n z), torn ++ tornA a id n z (List.range' i (d + 1)), 0) := by
      intro hno
      rw [if_pos (by omega), if_pos (by omega), if_pos (by omega), if_pos (by omega), IH _ _ (by simp [hr]) (by simp; omega), split]
      simp [tornA, List.filter_cons, hno, rowA, strs_zeros]
    by_cases hle : F + z + 8 ≤ a.size
    · rw [if_pos (show ((F + z + 8 : Nat) : Int) ≤ (a.size : Int) by omega), if_pos (show (0 : Int) ≤ (F : Int) by omega), if_pos (show (F : Int) ≤ ((F + z : Nat) : Int) by omega), if_pos (show ((F + z : Nat) : Int) ≤ (a.size : Int) by omega)]
      refine bind_eq rfl ?_
      rw [if_pos (show (0 : Int) ≤ ((F + z : Nat) : Int) by omega), if_pos (show ((F + z : Nat) : Int) ≤ ((F + z + 8 : Nat) : Int) by omega)]
      obtain ⟨q, rfl⟩ : ∃ q, k = q + 3 := ⟨k - 3, by omega⟩
      refine bind_eq (isM_ok q id n (i : Int) (a.extract F (F + z)) (a.extract (F + z) (F + z + 8)) (fit_of hM (by omega) (by omega)) (by rw [size_ext _ _ _ (by omega)]; omega)) ?_
      rw [tl_beq]
      by_cases ht2 : tagOf id n (i : Int) (a.extract F (F + z)) = a.extract (F + z) (F + z + 8)
      · rw [decide_eq_true ht2, if_pos rfl, if_pos (by omega), IH _ _ (by simp [hr]) (by omega), split]
        have hy : okA a id n z i = true := by rw [hok, decide_eq_true hle, decide_eq_true ht2]; rfl
        simp [tornA, List.filter_cons, hy, rowA, hF]
      · rw [decide_eq_false ht2, if_neg (by decide)]
        exact zer (by rw [hok, decide_eq_false ht2, Bool.and_false])
    · rw [if_neg (show ¬ ((F + z + 8 : Nat) : Int) ≤ (a.size : Int) by omega)]
      exact zer (by rw [hok, decide_eq_false hle, Bool.false_and])
/-- What Cut tells. -/
def cutT (a id : ByteArray) (n z R : Int) : List ByteArray × List Int × Int :=
  if mayB id n z R = true then ((List.range' 0 R.toNat).map (rowA a id n z.toNat), tornA a id n z.toNat (List.range' 0 R.toNat), 0) else ([], [], 1)
theorem cut_f (k : Nat) (hk : 110 ≤ k) (a id : ByteArray) (n z R : Int) : sector_Cut.f k id n z R a = some (cutT a id n z R) := by
  unfold sector_Cut.f cutT
  refine bind_eq (may_f id n z R) ?_
  by_cases hM : mayB id n z R = true
  · rw [if_pos hM, if_pos hM]
    have hM' := may_iff hM
    obtain ⟨r, rfl⟩ : ∃ r : Nat, R = (r : Int) := ⟨R.toNat, by omega⟩
    obtain ⟨y, rfl⟩ : ∃ y : Nat, z = (y : Int) := ⟨z.toNat, by omega⟩
    have h := cut_l0 a id n y r hM r 0 k [] [] (by omega) (by omega) rfl (Nat.le_refl _)
    simpa using h
  · rw [if_neg hM, if_neg hM]
theorem cut_len {a id : ByteArray} {n z R : Int} : (cutT a id n z R).1.length ≤ 96 ∧ (cutT a id n z R).2.1.length ≤ 96 := by
  unfold cutT
  by_cases hM : mayB id n z R = true
  · rw [if_pos hM]
    have hM' := may_iff hM
    refine ⟨by simp; omega, ?_⟩
    simp only [tornA, List.length_map]
    refine Nat.le_trans (List.length_filter_le _ _) ?_
    simp
    omega
  · rw [if_neg hM]
    exact ⟨by simp, by simp⟩
/-- A walk over all rows ends. -/
theorem long_l0 (rows : List ByteArray) (hl : rows.length ≤ 9223372036854775807) : ∀ (d i k : Nat) (x : Int), i + d = rows.length → d + 1 ≤ k → ∃ b, hamperlaw24_long.l0 k rows x (i : Int) = some b
  | 0, i, k, x, hi, hk => by
    obtain ⟨k, rfl⟩ : ∃ q, k = q + 1 := ⟨k - 1, by omega⟩
    rw [hamperlaw24_long.l0, if_neg (by omega)]
    exact ⟨_, rfl⟩
  | d + 1, i, k, x, hi, hk => by
    obtain ⟨k, rfl⟩ : ∃ q, k = q + 1 := ⟨k - 1, by omega⟩
    rw [hamperlaw24_long.l0, if_pos (by omega), if_pos (by omega)]
    by_cases h : ((rdOf ByteArray.empty rows (i : Int)).size : Int) > 600
    · rw [if_pos h]
      exact ⟨_, rfl⟩
    · rw [if_neg h, show wrap64 ((i : Int) + 1) = ((i + 1 : Nat) : Int) by rw [wrap_id (by omega) (by omega)]; omega]
      exact long_l0 rows hl d (i + 1) k _ (by omega) (by omega)
theorem long_f (rows : List ByteArray) (hl : rows.length ≤ 9223372036854775807) (k : Nat) (hk : rows.length + 1 ≤ k) : ∃ b, hamperlaw24_long.f k rows = some b :=
  long_l0 rows hl rows.length 0 k 0 (by omega) hk
end Go.Proofs.Ytpgijmnlkfhheaa.Tw
