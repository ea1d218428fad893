/- Whether any shape, and any volume, may be, its bytes of any rows, and the rows of any bytes and which are torn, are the document's: for all volumes, rows, bytes and shapes that the statement takes in. -/
import Derived.Test.YtpgijmnlkfhheaaSecPure
import Derived.Test.YtpgijmnlkfhheaaPSecTx38
import Derived.Test.YtpgijmnlkfhheaaPSecTx28
import Derived.Test.YtpgijmnlkfhheaaPSecTx46
namespace Go.Proofs.Ytpgijmnlkfhheaa.Tw
open Go.RowKit Go.Proofs.YtpgijmnlkfhheaaW.PrintWords Go.Proofs.YtpgijmnlkfhheaaW.PrintLast Go.Proofs.YtpgijmnlkfhheaaW.PrintMore Go.Proofs.Ytpgijmnlkfhheaa.PSecT Go.Proofs.Ytpgijmnlkfhheaa.Pb
set_option linter.unusedVariables false
set_option linter.unusedSimpArgs false
theorem str_app (a b : List Int) : strOfNums (a ++ b) = strOfNums a ++ strOfNums b := by
  apply ByteArray.ext
  rw [ByteArray.data_append]
  simp [strOfNums]
theorem two_f (n : Int) (h0 : 0 ≤ n) (h1 : n ≤ 65535) : hamperref06_Two.f n = some (strOfNums [n / 256 % 256, n % 256]) := by
  unfold hamperref06_Two.f
  rw [Int.tdiv_eq_ediv_of_nonneg h0, Int.tmod_eq_emod_of_nonneg h0, wrap_id (by omega) (by omega), Int.emod_emod_of_dvd n (by decide : (256 : Int) ∣ 256)]
theorem ref_text (id : ByteArray) (v s : Int) (d : ByteArray) : id ++ strOfNums [v / 256 % 256, v % 256] ++ strOfNums [s / 256 % 256, s % 256] ++ d = text id v s d := by
  unfold text
  rw [app_assoc id, ← str_app]
  rfl
theorem two_size (a b : Int) : (strOfNums [a, b]).size = 2 := by rw [size_nums]; rfl
theorem ref_text_ok (k : Nat) (id : ByteArray) (v s : Int) (d : ByteArray) (h : Fit id v s) (hd : d.size ≤ 100000) : hamperref06_Text.f (k + 1) id v s d = some (text id v s d, 0) := by
  obtain ⟨h1, h2, h3, h4, h5⟩ := h
  unfold hamperref06_Text.f
  refine ite_yes (by omega) (ite_no (by omega) (ite_no (by omega) (ite_no (by omega) ?_)))
  simp only [hamperref06_Text.j0]
  refine ite_no (by simp; omega) (bind_eq (two_f v h2 h3) (ite_yes ?_ (bind_eq (two_f s h4 h5) (ite_yes ?_ (ite_yes ?_ ?_)))))
  · rw [two_size, h1]; decide
  · rw [ByteArray.size_append, two_size, two_size, h1]; decide
  · rw [ByteArray.size_append, ByteArray.size_append, two_size, two_size, h1]; omega
  · rw [ref_text]
theorem rsum_f (s : ByteArray) (h : s.size ≤ 140737488351232) : hamperref05_Sum.f s = some (Bk.blakeSum s) := by unfold hamperref05_Sum.f; rw [if_pos h]
theorem ref_make_ok (k : Nat) (id : ByteArray) (v s : Int) (d : ByteArray) (h : Fit id v s) (hd : d.size ≤ 100000) : hamperref06_Make.f (k + 1) id v s d = some (tagOf id v s d, 0) := by
  unfold hamperref06_Make.f
  refine bind_eq (ref_text_ok k id v s d h hd) (ite_yes rfl (bind_eq (rsum_f _ (by rw [text_size id v s d h]; omega)) (ite_yes (by decide) (ite_yes ?_ rfl))))
  rw [Bk.blakeSum_size]
  decide
theorem rmay_f (id : ByteArray) (n z R : Int) : hamperref24_May.f id n z R = some (mayB id n z R) := (show _ = sector_May.f id n z R from rfl).trans (may_f id n z R)
theorem shape_same (a b c d : Int) : hamperref24_Shape.f a b c d = sector_Shape.f a b c d := rfl
theorem shape_some (a b c d : Int) : ∃ t, sector_Shape.f a b c d = some t := by
  unfold sector_Shape.f
  repeat (first | exact ⟨_, rfl⟩ | split)
theorem rjoin_l0 (id : ByteArray) (n z R : Int) (hM : mayB id n z R = true) : ∀ (todo pre : List ByteArray) (k : Nat) (acc : ByteArray), todo.length + 4 ≤ k → (pre ++ todo).length ≤ 96 → acc.size ≤ pre.length * 520 →
    hamperref24_Join.l0 k (pre ++ todo) acc (pre.length : Int) id n z R = some (if sized z todo = true then (acc ++ joinB id n pre.length todo, 0) else (⟨#[]⟩, 1))
  | [], pre, k, acc, hk, hl, ha => by
    obtain ⟨k, rfl⟩ : ∃ q, k = q + 1 := ⟨k - 1, by omega⟩
    rw [hamperref24_Join.l0, if_neg (by simp), show sized z [] = true from rfl, if_pos rfl, joinB, app_nil]
  | r :: rest, pre, k, acc, hk, hl, ha => by
    obtain ⟨k, rfl⟩ : ∃ q, k = q + 1 := ⟨k - 1, by omega⟩
    simp only [List.length_cons, List.length_append] at hk hl
    have hM' := may_iff hM
    rw [hamperref24_Join.l0, if_pos (by simp only [List.length_append, List.length_cons]; omega), if_pos (by omega), rd_mid]
    by_cases hz : (r.size : Int) = z
    · rw [if_pos hz]
      obtain ⟨q, rfl⟩ : ∃ q, k = q + 3 := ⟨k - 3, by omega⟩
      refine ite_yes (by omega) (bind_eq (bind_eq (ref_make_ok (q + 2) id n (pre.length : Int) r (fit_of hM (by omega) (by omega)) (by omega)) rfl) (ite_yes (by rw [ByteArray.size_append, tagOf_size]; omega) ?_))
      have e1 : wrap64 ((pre.length : Int) + 1) = ((pre ++ [r]).length : Int) := by rw [wrap_id (by omega) (by omega)]; simp
      have e2 : pre ++ r :: rest = (pre ++ [r]) ++ rest := by simp
      rw [e1, e2, rjoin_l0 id n z R hM rest (pre ++ [r]) (q + 3) _ (by omega) (by simp only [List.length_append, List.length_cons, List.length_nil]; omega) (by rw [ByteArray.size_append, ByteArray.size_append, tagOf_size]; simp only [List.length_append, List.length_cons, List.length_nil]; omega)]
      congr 1
      have e3 : sized z (r :: rest) = sized z rest := by simp [sized, hz]
      rw [e3]
      by_cases hs : sized z rest = true
      · rw [if_pos hs, if_pos hs]
        simp only [Prod.mk.injEq, and_true, joinB]
        rw [app_assoc acc, app_assoc acc, show (pre ++ [r]).length = pre.length + 1 by simp, app_assoc r]
      · rw [if_neg hs, if_neg hs]
    · rw [if_neg hz, if_neg (by simp [sized, hz])]
theorem rjoin_f (k : Nat) (hk : 110 ≤ k) (id : ByteArray) (n z R : Int) (rows : List ByteArray) : hamperref24_Join.f k id n z R rows = some (joinR id n z R rows) := by
  unfold hamperref24_Join.f joinR
  refine bind_eq (rmay_f id n z R) ?_
  obtain ⟨k, rfl⟩ : ∃ q, k = q + 1 := ⟨k - 1, by omega⟩
  by_cases hM : mayB id n z R = true
  · rw [if_pos hM]
    have hM' := may_iff hM
    by_cases hl : (rows.length : Int) = R
    · have e : ((rows.length : Int) != R) = false := by rw [hl]; simp
      rw [e, hamperref24_Join.j0, if_neg (by decide)]
      have h := rjoin_l0 id n z R hM rows [] k ⟨#[]⟩ (by omega) (by rw [List.nil_append]; omega) (by decide)
      rw [List.nil_append, nil_app] at h
      refine h.trans ?_
      by_cases hs : sized z rows = true
      · rw [if_pos hs, if_pos ⟨hM, hl, hs⟩]; rfl
      · rw [if_neg hs, if_neg fun h => hs h.2.2]
    · have e : ((rows.length : Int) != R) = true := by simpa using hl
      rw [e, hamperref24_Join.j0, if_pos rfl, if_neg fun h => hl h.2.1]
  · rw [if_neg hM, hamperref24_Join.j0, if_pos rfl, if_neg fun h => hM h.1]
def rcutR (k : Nat) (x1 : ByteArray) (x7 : List ByteArray) (x8 : List Int) (x9 : Int) (id : ByteArray) (n z R FROM FZ EE NX : Int) : Option (List ByteArray × List Int × Int) :=
  if x9 < R then (if EE ≤ (x1.size : Int) then (if 0 ≤ FROM then (if FROM ≤ FZ then (if FZ ≤ (x1.size : Int) then ((hamperref24_Tag.f k id n z R x9 (x1.extract (FROM : Int).toNat (FZ : Int).toNat)).bind fun t259 => (if 0 ≤ FZ then (if FZ ≤ EE then (if t259.toList = (x1.extract (FZ : Int).toNat (EE : Int).toNat).toList then (if x7.length < 8796093022208 then (hamperref24_Cut.l0 k x1 (x7 ++ [x1.extract (FROM : Int).toNat (FZ : Int).toNat]) x8 NX id n z R) else (none)) else (if 0 ≤ z then (if (z : Int).toNat ≤ 281474976710656 then (if x7.length < 8796093022208 then (if x8.length < 17592186044416 then (hamperref24_Cut.l0 k x1 (x7 ++ [strOfNums (List.replicate (z : Int).toNat 0)]) (x8 ++ [x9]) NX id n z R) else (none)) else (none)) else (none)) else (none))) else (none)) else (none))) else (none)) else (none)) else (none)) else (if 0 ≤ z then (if (z : Int).toNat ≤ 281474976710656 then (if x7.length < 8796093022208 then (if x8.length < 17592186044416 then (hamperref24_Cut.l0 k x1 (x7 ++ [strOfNums (List.replicate (z : Int).toNat 0)]) (x8 ++ [x9]) NX id n z R) else (none)) else (none)) else (none)) else (none))) else (some (x7, x8, 0))
theorem rcut_shape (k : Nat) (x1 : ByteArray) (x7 : List ByteArray) (x8 : List Int) (x9 : Int) (id : ByteArray) (n z R : Int) : hamperref24_Cut.l0 (k + 1) x1 x7 x8 x9 id n z R = rcutR k x1 x7 x8 x9 id n z R (wrap64 (x9 * (wrap64 (z + 8)))) (wrap64 ((wrap64 (x9 * (wrap64 (z + 8)))) + z)) (wrap64 ((wrap64 ((wrap64 (x9 * (wrap64 (z + 8)))) + z)) + 8)) (wrap64 (x9 + 1)) := by
  rw [hamperref24_Cut.l0, rcutR]
theorem rcut_l0 (a id : ByteArray) (n : Int) (z R : Nat) (hM : mayB id n (z : Int) (R : Int) = true) : ∀ (d i k : Nat) (rows : List ByteArray) (torn : List Int), i + d = R → d + 5 ≤ k → rows.length = i → torn.length ≤ i →
    hamperref24_Cut.l0 k a rows torn (i : Int) id n (z : Int) (R : Int) = some (rows ++ (List.range' i d).map (rowA a id n z), torn ++ tornA a id n z (List.range' i d), 0)
  | 0, i, k, rows, torn, hi, hk, hr, ht => by
    obtain ⟨k, rfl⟩ : ∃ q, k = q + 1 := ⟨k - 1, by omega⟩
    rw [hamperref24_Cut.l0, if_neg (by omega)]
    simp [tornA]
  | d + 1, i, k, rows, torn, hi, hk, hr, ht => by
    have hz : z ≤ 512 := by have := may_iff hM; omega
    have hRb : R ≤ 96 := by have := may_iff hM; omega
    obtain ⟨k, rfl⟩ : ∃ q, k = q + 1 := ⟨k - 1, by omega⟩
    obtain ⟨F, hF⟩ : ∃ F, i * (z + 8) = F := ⟨_, rfl⟩
    have hE : (i + 1) * (z + 8) = F + z + 8 := by rw [Nat.succ_mul, hF]; omega
    have hFb : F ≤ 96 * 520 := by rw [← hF]; exact Nat.mul_le_mul (by omega) (by omega)
    have bA : z + 8 ≤ 1000000 := by omega
    have bB : i * (z + 8) ≤ 1000000 := by omega
    have bC : F + z ≤ 1000000 := by omega
    have bD : F + z + 8 ≤ 1000000 := by omega
    have bE : i + 1 ≤ 1000000 := by omega
    have w1 : wrap64 ((z : Int) + 8) = ((z + 8 : Nat) : Int) := w_add z 8 bA
    have w2 : wrap64 ((i : Int) * ((z + 8 : Nat) : Int)) = (F : Int) := (w_mul i (z + 8) bB).trans (by rw [hF])
    have w3 : wrap64 ((F : Int) + (z : Int)) = ((F + z : Nat) : Int) := w_add F z bC
    have w4 : wrap64 (((F + z : Nat) : Int) + 8) = ((F + z + 8 : Nat) : Int) := w_add (F + z) 8 bD
    have w5 : wrap64 ((i : Int) + 1) = ((i + 1 : Nat) : Int) := w_add i 1 bE
    rw [rcut_shape, w1, w2, w3, w4, w5]
    clear w1 w2 w3 w4 w5
    rw [rcutR, if_pos (by omega), Int.toNat_natCast, Int.toNat_natCast, Int.toNat_natCast, Int.toNat_natCast]
    have IH := fun rows' torn' h1 h2 => rcut_l0 a id n z R hM d (i + 1) k rows' torn' (by omega) (by omega) h1 h2
    have split : List.range' i (d + 1) = i :: List.range' (i + 1) d := rfl
    have hok : okA a id n z i = (decide (F + z + 8 ≤ a.size) && decide (tagOf id n (i : Int) (a.extract F (F + z)) = a.extract (F + z) (F + z + 8))) := by unfold okA; rw [hE, hF]
    have zer : okA a id n z i = false → (if 0 ≤ (z : Int) then (if z ≤ 281474976710656 then (if rows.length < 8796093022208 then (if torn.length < 17592186044416 then (hamperref24_Cut.l0 k a (rows ++ [strOfNums (List.replicate z 0)]) (torn ++ [(i : Int)]) ((i + 1 : Nat) : Int) id n (z : Int) (R : Int)) else none) else none) else none) else none) = some (rows ++ (List.range' i (d + 1)).map (rowA a id n z), torn ++ tornA a id n z (List.range' i (d + 1)), 0) := by
      intro hno
      rw [if_pos (by omega), if_pos (by omega), if_pos (by omega), if_pos (by omega), IH _ _ (by simp [hr]) (by simp; omega), split]
      simp [tornA, List.filter_cons, hno, rowA, strs_zeros]
    by_cases hle : F + z + 8 ≤ a.size
    · rw [if_pos (show ((F + z + 8 : Nat) : Int) ≤ (a.size : Int) by omega), if_pos (show (0 : Int) ≤ (F : Int) by omega), if_pos (show (F : Int) ≤ ((F + z : Nat) : Int) by omega), if_pos (show ((F + z : Nat) : Int) ≤ (a.size : Int) by omega)]
      obtain ⟨q, rfl⟩ : ∃ q, k = q + 1 := ⟨k - 1, by omega⟩
      refine bind_eq (bind_eq (ref_make_ok q id n (i : Int) (a.extract F (F + z)) (fit_of hM (by omega) (by omega)) (by rw [size_ext _ _ _ (by omega)]; omega)) rfl) ?_
      rw [if_pos (show (0 : Int) ≤ ((F + z : Nat) : Int) by omega), if_pos (show ((F + z : Nat) : Int) ≤ ((F + z + 8 : Nat) : Int) by omega)]
      by_cases ht2 : tagOf id n (i : Int) (a.extract F (F + z)) = a.extract (F + z) (F + z + 8)
      · rw [if_pos (tl_iff.2 ht2), if_pos (by omega), IH _ _ (by simp [hr]) (by omega), split]
        have hy : okA a id n z i = true := by rw [hok, decide_eq_true hle, decide_eq_true ht2]; rfl
        simp [tornA, List.filter_cons, hy, rowA, hF]
      · rw [if_neg fun h => ht2 (tl_iff.1 h)]
        exact zer (by rw [hok, decide_eq_false ht2, Bool.and_false])
    · rw [if_neg (show ¬ ((F + z + 8 : Nat) : Int) ≤ (a.size : Int) by omega)]
      exact zer (by rw [hok, decide_eq_false hle, Bool.false_and])
theorem rcut_f (k : Nat) (hk : 110 ≤ k) (a id : ByteArray) (n z R : Int) : hamperref24_Cut.f k id n z R a = some (cutT a id n z R) := by
  unfold hamperref24_Cut.f cutT
  refine bind_eq (rmay_f id n z R) ?_
  by_cases hM : mayB id n z R = true
  · rw [if_pos hM, if_pos hM]
    have hM' := may_iff hM
    obtain ⟨r, rfl⟩ : ∃ r : Nat, R = (r : Int) := ⟨R.toNat, by omega⟩
    obtain ⟨y, rfl⟩ : ∃ y : Nat, z = (y : Int) := ⟨z.toNat, by omega⟩
    have h := rcut_l0 a id n y r hM r 0 k [] [] (by omega) (by omega) rfl (Nat.le_refl _)
    simpa using h
  · rw [if_neg hM, if_neg hM]
end Go.Proofs.Ytpgijmnlkfhheaa.Tw
namespace Go.Proofs.Ytpgijmnlkfhheaa.Tw
open Go.RowKit Go.Proofs.YtpgijmnlkfhheaaW.PrintWords Go.Proofs.YtpgijmnlkfhheaaW.PrintLast Go.Proofs.YtpgijmnlkfhheaaW.PrintMore Go.Proofs.Ytpgijmnlkfhheaa.PSecT Go.Proofs.Ytpgijmnlkfhheaa.Pb
theorem awake_yes : hamperlaw24_awake.f = some true := by
  unfold hamperlaw24_awake.f
  rw [if_pos (by decide)]
end Go.Proofs.Ytpgijmnlkfhheaa.Tw
namespace Go.Proofs.Ytpgijmnlkfhheaa.Tw
open Go.RowKit Go.Proofs.YtpgijmnlkfhheaaW.PrintWords Go.Proofs.YtpgijmnlkfhheaaW.PrintLast Go.Proofs.YtpgijmnlkfhheaaW.PrintMore Go.Proofs.Ytpgijmnlkfhheaa.PSecT Go.Proofs.Ytpgijmnlkfhheaa.Pb
set_option linter.unusedVariables false
set_option linter.unusedSimpArgs false
theorem texts_l0 (l : List ByteArray) (hl : l.length ≤ 1000) : ∀ (d i k : Nat), i + d = l.length → d + 1 ≤ k → hamperref24_Texts.l0 k l l (i : Int) = some true
  | 0, i, k, hi, hk => by
    obtain ⟨k, rfl⟩ : ∃ q, k = q + 1 := ⟨k - 1, by omega⟩
    rw [hamperref24_Texts.l0, if_neg (by omega)]
  | d + 1, i, k, hi, hk => by
    obtain ⟨k, rfl⟩ : ∃ q, k = q + 1 := ⟨k - 1, by omega⟩
    rw [hamperref24_Texts.l0, if_pos (by omega), if_pos (by omega), if_pos (by omega), if_pos rfl, w_add1 i (by omega)]
    exact texts_l0 l hl d (i + 1) k (by omega) (by omega)
theorem texts_f (l : List ByteArray) (hl : l.length ≤ 96) (k : Nat) (hk : 100 ≤ k) : hamperref24_Texts.f k l l = some true := by
  unfold hamperref24_Texts.f
  rw [if_pos rfl]
  exact texts_l0 l (by omega) l.length 0 k (by omega) (by omega)
theorem ints_l0 (l : List Int) (hl : l.length ≤ 1000) : ∀ (d i k : Nat), i + d = l.length → d + 1 ≤ k → hamperref12_Ints.l0 k l l (i : Int) = some true
  | 0, i, k, hi, hk => by
    obtain ⟨k, rfl⟩ : ∃ q, k = q + 1 := ⟨k - 1, by omega⟩
    rw [hamperref12_Ints.l0, if_neg (by omega)]
  | d + 1, i, k, hi, hk => by
    obtain ⟨k, rfl⟩ : ∃ q, k = q + 1 := ⟨k - 1, by omega⟩
    rw [hamperref12_Ints.l0, if_pos (by omega), if_pos (by omega), if_pos (by omega), if_pos rfl, w_add1 i (by omega)]
    exact ints_l0 l hl d (i + 1) k (by omega) (by omega)
theorem ints_f (l : List Int) (hl : l.length ≤ 96) (k : Nat) (hk : 100 ≤ k) : hamperref12_Ints.f k l l = some true := by
  unfold hamperref12_Ints.f
  rw [if_pos rfl]
  exact ints_l0 l (by omega) l.length 0 k (by omega) (by omega)
section
variable (rows : List ByteArray) (s id : ByteArray) (n z R a b c d : Int)
theorem tells_l2 (x10 : Int) (t : Bool) : ∀ (D i K : Nat) (y : List Int), i + D = y.length → y.length ≤ 96 → hamperlaw24_SectorTells.l0 K rows s (wrap64 (x10 + 1)) id n z R a b c d id n z R = some t → hamperlaw24_SectorTells.l2 (K + 1 + D) rows s x10 y (i : Int) id n z R a b c d id n z R = some t
  | 0, i, K, y, hi, hy, h => by rw [hamperlaw24_SectorTells.l2, if_neg (by omega)]; exact h
  | D + 1, i, K, y, hi, hy, h => by
    rw [show K + 1 + (D + 1) = (K + 1 + D) + 1 by omega, hamperlaw24_SectorTells.l2, if_pos (by omega), if_pos (by omega), w_add1 i (by omega)]
    exact tells_l2 x10 t D (i + 1) K _ (by rw [List.length_set]; omega) (by rw [List.length_set]; omega) h
theorem tells_l1 (x10 : Int) (t : Bool) (y : List Int) : ∀ (D i K : Nat) (x : List ByteArray), i + D = x.length → x.length ≤ 96 → hamperlaw24_SectorTells.l2 K rows s x10 y 0 id n z R a b c d id n z R = some t → hamperlaw24_SectorTells.l1 (K + 1 + D) rows s x10 x y (i : Int) id n z R a b c d id n z R = some t
  | 0, i, K, x, hi, hx, h => by rw [hamperlaw24_SectorTells.l1, if_neg (by omega)]; exact h
  | D + 1, i, K, x, hi, hx, h => by
    rw [show K + 1 + (D + 1) = (K + 1 + D) + 1 by omega, hamperlaw24_SectorTells.l1, if_pos (by omega), if_pos (by omega), w_add1 i (by omega)]
    exact tells_l1 x10 t y D (i + 1) K _ (by rw [List.length_set]; omega) (by rw [List.length_set]; omega) h
theorem tells_round (x10 : Int) (hx : x10 < 2) (t : Bool) (K : Nat) (hK : 150 ≤ K) (h : hamperlaw24_SectorTells.l0 K rows s (wrap64 (x10 + 1)) id n z R a b c d id n z R = some t) : hamperlaw24_SectorTells.l0 (K + 200) rows s x10 id n z R a b c d id n z R = some t := by
  obtain ⟨p, q⟩ := cut_len (a := s) (id := id) (n := n) (z := z) (R := R)
  have h2 := tells_l2 rows s id n z R a b c d x10 t (cutT s id n z R).2.1.length 0 K _ (by omega) q h
  have h1 := tells_l1 rows s id n z R a b c d x10 t _ (cutT s id n z R).1.length 0 _ _ (by omega) p h2
  have hj : hamperlaw24_SectorTells.j2 (K + 199) rows s x10 (cutT s id n z R).1 (cutT s id n z R).2.1 false id n z R a b c d id n z R = some t := by
    rw [hamperlaw24_SectorTells.j2, if_neg (by decide)]
    exact at_rounds (g := fun k => hamperlaw24_SectorTells.l1 k rows s x10 (cutT s id n z R).1 (cutT s id n z R).2.1 0 id n z R a b c d id n z R) (fun k => by apply (hamperlaw24_SectorTells.mono_l k).2.2.2.1) (by omega) h1
  rw [hamperlaw24_SectorTells.l0, if_pos hx]
  refine bind_eq (join_f _ (by omega) id n z R rows) (bind_eq (rjoin_f _ (by omega) id n z R rows) (bind_eq (cut_f _ (by omega) s id n z R) (bind_eq (rcut_f _ (by omega) s id n z R) ?_)))
  rw [if_pos rfl, if_pos rfl, if_pos rfl]
  refine bind_eq (texts_f _ p _ (by omega)) ?_
  rw [if_pos rfl]
  exact bind_eq (ints_f _ q _ (by omega)) hj
theorem tells_l0 : hamperlaw24_SectorTells.l0 600 rows s 0 id n z R a b c d id n z R = some true := by
  refine tells_round rows s id n z R a b c d 0 (by decide) true 400 (by decide) ?_
  rw [show wrap64 (0 + 1) = 1 from wrap_id (by decide) (by decide)]
  refine tells_round rows s id n z R a b c d 1 (by decide) true 200 (by decide) ?_
  rw [show wrap64 (1 + 1) = 2 from wrap_id (by decide) (by decide), hamperlaw24_SectorTells.l0, if_neg (by decide)]
  obtain ⟨t, ht⟩ := shape_some a b c d
  refine bind_eq (may_f id n z R) (bind_eq (rmay_f id n z R) ?_)
  rw [beq_self_eq_true, if_pos rfl]
  refine bind_eq ht (bind_eq ((shape_same a b c d).trans ht) ?_)
  rw [beq_self_eq_true, if_pos rfl]
  exact bind_eq awake_yes rfl
theorem tells_j0 (t : Bool) : hamperlaw24_SectorTells.j0 601 rows s t id n z R a b c d = some true := by
  rw [hamperlaw24_SectorTells.j0]
  by_cases ht : t = true
  · rw [if_pos ht]
    exact bind_eq awake_yes rfl
  · rw [if_neg ht]
    exact tells_l0 rows s id n z R a b c d
end
theorem SectorTells (rows : List ByteArray) (hl : rows.length ≤ 9223372036854775807) (s id : ByteArray) (n z R a b c d : Int) : ∃ k, hamperlaw24_SectorTells.f k id n z R rows s a b c d = some true := by
  refine ⟨601 + (rows.length + 1), ?_⟩
  have hj : ∀ t, hamperlaw24_SectorTells.j0 (601 + (rows.length + 1)) rows s t id n z R a b c d = some true := fun t => at_rounds (g := fun k => hamperlaw24_SectorTells.j0 k rows s t id n z R a b c d) (fun k => by apply (hamperlaw24_SectorTells.mono_l k).1) (by omega) (tells_j0 rows s id n z R a b c d t)
  obtain ⟨t, ht⟩ := long_f rows hl (601 + (rows.length + 1)) (by omega)
  unfold hamperlaw24_SectorTells.f
  refine bind_eq ht ?_
  by_cases h1 : t = true
  · rw [if_pos h1]; exact hj _
  · rw [if_neg h1]
    by_cases h2 : (s.size : Int) > 6000
    · rw [if_pos h2]; exact hj _
    · rw [if_neg h2]; exact hj _
theorem SectorTells_walk (id : ByteArray) (n z R : Int) (A : Option Addr) (cap : Nat) (rows : List ByteArray) (s : ByteArray) (a b c d : Int) (w : World) (_ : id.size ≤ maxLen) (_ : (Lit.int .i64 n).wf = true) (_ : (Lit.int .i64 z).wf = true) (_ : (Lit.int .i64 R).wf = true)
    (hr : Kd.C Kd.string w A rows.length rows) (hc : rows.length ≤ cap) (_ : ∀ x ∈ rows, x.size ≤ 140737488351232) (_ : s.size ≤ 140737488351232) (_ : (Lit.int .i64 a).wf = true) (_ : (Lit.int .i64 b).wf = true) (_ : (Lit.int .i64 c).wf = true) (_ : (Lit.int .i64 d).wf = true) :
    Calls Try.prog 6 #[.agg #[.string id, .int .i64 n, .int .i64 z, .int .i64 R], .slice A rows.length cap, .string s, .agg #[.int .i64 a, .int .i64 b, .int .i64 c, .int .i64 d]] w fun e w' => e = .returned (.bool true) ∧ Below w.heap.size w w' := by
  obtain ⟨k, hk⟩ := SectorTells rows hr.2.1 s id n z R a b c d
  exact hamperlaw24_SectorTells.calls k id n z R A cap rows s a b c d true w hr hc hk
end Go.Proofs.Ytpgijmnlkfhheaa.Tw
