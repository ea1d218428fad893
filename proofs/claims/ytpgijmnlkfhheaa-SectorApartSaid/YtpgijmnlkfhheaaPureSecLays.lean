/- The bytes of a volume are, row by row, the row and its tag: for all volumes, rows and places that the statement takes in. -/
import Derived.Test.YtpgijmnlkfhheaaSecAwake
import Derived.Test.YtpgijmnlkfhheaaPSecPx30
namespace Go.Proofs.Ytpgijmnlkfhheaa.Tw
open Go.RowKit Go.Proofs.YtpgijmnlkfhheaaW.PrintWords Go.Proofs.YtpgijmnlkfhheaaW.PrintLast Go.Proofs.YtpgijmnlkfhheaaW.PrintMore Go.Proofs.Ytpgijmnlkfhheaa.PSecP Go.Proofs.Ytpgijmnlkfhheaa.Pb
set_option linter.unusedVariables false
set_option linter.unusedSimpArgs false
theorem join_size (id : ByteArray) (n : Int) (z : Nat) : ∀ (rows : List ByteArray) (i : Nat), sized (z : Int) rows = true → (joinB id n i rows).size = rows.length * (z + 8)
  | [], i, _ => by rw [joinB]; simp; rfl
  | r :: rs, i, h => by
    simp only [sized, List.all_cons, Bool.and_eq_true, decide_eq_true_eq] at h
    rw [joinB, ByteArray.size_append, ByteArray.size_append, tagOf_size, join_size id n z rs (i + 1) h.2, List.length_cons, Nat.succ_mul]
    omega
theorem ext_app_far (a b : ByteArray) (i j : Nat) (h : a.size ≤ i) : (a ++ b).extract i j = b.extract (i - a.size) (j - a.size) := by
  rw [ByteArray.extract_append]
  rw [show a.extract i j = ⟨#[]⟩ from size_zero (by rw [ByteArray.size_extract]; omega), nil_app]
theorem ext_app_near (a b : ByteArray) (i j : Nat) (h : j ≤ a.size) : (a ++ b).extract i j = a.extract i j := by
  rw [ByteArray.extract_append]
  rw [show b.extract (i - a.size) (j - a.size) = ⟨#[]⟩ from size_zero (by rw [ByteArray.size_extract]; omega), app_nil]
/-- Sector i of a volume's bytes. -/
theorem join_at (id : ByteArray) (n : Int) (z : Nat) : ∀ (rows : List ByteArray) (s i : Nat), sized (z : Int) rows = true → (hi : i < rows.length) →
    (joinB id n s rows).extract (i * (z + 8)) ((i + 1) * (z + 8)) = rows[i] ++ tagOf id n ((s + i : Nat) : Int) rows[i]
  | [], s, i, _, hi => by simp at hi
  | r :: rs, s, 0, h, hi => by
    simp only [sized, List.all_cons, Bool.and_eq_true, decide_eq_true_eq] at h
    have e : (r ++ tagOf id n (s : Int) r).size = z + 8 := by rw [ByteArray.size_append, tagOf_size]; omega
    rw [joinB, ext_app_near _ _ _ _ (by rw [e]; omega), show (0 + 1) * (z + 8) = (r ++ tagOf id n (s : Int) r).size by rw [e]; omega, Nat.zero_mul, ext_all]
    rfl
  | r :: rs, s, i + 1, h, hi => by
    simp only [sized, List.all_cons, Bool.and_eq_true, decide_eq_true_eq] at h
    have e : (r ++ tagOf id n (s : Int) r).size = z + 8 := by rw [ByteArray.size_append, tagOf_size]; omega
    have e1 : (i + 1) * (z + 8) - (z + 8) = i * (z + 8) := by rw [Nat.succ_mul]; omega
    have e2 : (i + 1 + 1) * (z + 8) - (z + 8) = (i + 1) * (z + 8) := by rw [Nat.succ_mul (i + 1)]; omega
    rw [joinB, ext_app_far _ _ _ _ (by rw [e, Nat.succ_mul]; omega), e, e1, e2, join_at id n z rs (s + 1) i h.2 (by simp at hi; omega)]
    simp only [List.getElem_cons_succ]
    rw [show s + 1 + i = s + (i + 1) by omega]
theorem sized_at {z : Int} {rows : List ByteArray} (h : sized z rows = true) {i : Nat} (hi : i < rows.length) : ((rows[i]).size : Int) = z := by
  have := List.all_eq_true.1 h rows[i] (List.getElem_mem hi)
  simpa using this
theorem joinR_yes {id : ByteArray} {n z R : Int} {rows : List ByteArray} (h : mayB id n z R = true ∧ (rows.length : Int) = R ∧ sized z rows = true) : joinR id n z R rows = (joinB id n 0 rows, 0) := if_pos h
theorem joinR_no {id : ByteArray} {n z R : Int} {rows : List ByteArray} (h : ¬ (mayB id n z R = true ∧ (rows.length : Int) = R ∧ sized z rows = true)) : joinR id n z R rows = (⟨#[]⟩, 1) := if_neg h
theorem rd_at (l : List ByteArray) (i : Nat) (h : i < l.length) : rdOf ByteArray.empty l (i : Int) = l[i] := by
  unfold rdOf
  simp [h]
theorem u64_id {x : Int} (h0 : 0 ≤ x) (h1 : x < 18446744073709551616) : IntKind.u64.wrap x = x := by show x % 18446744073709551616 = x; omega
theorem u64_rng (x : Int) : 0 ≤ IntKind.u64.wrap x := by show 0 ≤ x % 18446744073709551616; omega
theorem lays_j0 (id : ByteArray) (n z R : Int) (rows : List ByteArray) (at_ : Int) (b : Bool) : hamperlaw24_SectorLays.j0 160 rows at_ b id n z R = some true := by
  rw [hamperlaw24_SectorLays.j0]
  by_cases hb : b = true
  · rw [if_pos hb]
    exact bind_eq awake_yes rfl
  · rw [if_neg hb]
    refine bind_eq (join_f _ (by decide) id n z R rows) ?_
    by_cases hJ : mayB id n z R = true ∧ (rows.length : Int) = R ∧ sized z rows = true
    · rw [joinR_yes hJ, if_pos rfl]
      obtain ⟨hM, hl, hs⟩ := hJ
      obtain ⟨y, rfl⟩ : ∃ y : Nat, z = (y : Int) := ⟨z.toNat, by have := may_iff hM; omega⟩
      obtain rfl := hl
      have hy : y ≤ 512 := by have := may_iff hM; omega
      have hR : rows.length ≤ 96 := by have := may_iff hM; omega
      have hR1 : 1 ≤ rows.length := by have := may_iff hM; omega
      have b1 : y + 8 ≤ 1000000 := by omega
      have b2 : (y + 8) * rows.length ≤ 1000000 := Nat.le_trans (Nat.mul_le_mul (show y + 8 ≤ 520 by omega) hR) (by decide)
      have hu : IntKind.u64.wrap ((rows.length : Nat) : Int) = ((rows.length : Nat) : Int) := u64_id (by omega) (by omega)
      have hi0 : 0 ≤ Int.tmod (IntKind.u64.wrap at_) ((rows.length : Nat) : Int) := Int.tmod_nonneg _ (u64_rng _)
      have hi1 : Int.tmod (IntKind.u64.wrap at_) ((rows.length : Nat) : Int) < ((rows.length : Nat) : Int) := Int.tmod_lt_of_pos _ (by omega)
      have hwid : wrap64 (Int.tmod (IntKind.u64.wrap at_) ((rows.length : Nat) : Int)) = Int.tmod (IntKind.u64.wrap at_) ((rows.length : Nat) : Int) := wrap_id (by omega) (by omega)
      have w1 : wrap64 ((y : Int) + 8) = ((y + 8 : Nat) : Int) := w_add y 8 b1
      have w2 : wrap64 (((y + 8 : Nat) : Int) * ((rows.length : Nat) : Int)) = (((y + 8) * rows.length : Nat) : Int) := w_mul _ _ b2
      simp only [w1, w2, hu, hwid]
      generalize Int.tmod (IntKind.u64.wrap at_) ((rows.length : Nat) : Int) = q at hi0 hi1
      clear w1 w2 hu hwid
      obtain ⟨i, rfl⟩ : ∃ i : Nat, q = (i : Int) := ⟨q.toNat, by omega⟩
      have hi : i < rows.length := by omega
      have b3 : i + 1 ≤ 1000000 := by omega
      have b4 : i * (y + 8) ≤ 1000000 := Nat.le_trans (Nat.mul_le_mul (show i ≤ 96 by omega) (show y + 8 ≤ 520 by omega)) (by decide)
      have b5 : (i + 1) * (y + 8) ≤ 1000000 := Nat.le_trans (Nat.mul_le_mul (show i + 1 ≤ 96 by omega) (show y + 8 ≤ 520 by omega)) (by decide)
      have b6 : (i + 1) * (y + 8) ≤ rows.length * (y + 8) := Nat.mul_le_mul_right _ (by omega)
      have b7 : i * (y + 8) ≤ (i + 1) * (y + 8) := Nat.mul_le_mul_right _ (by omega)
      have hsz := join_size id n y rows 0 hs
      have hri := sized_at hs hi
      rw [w_add1 i b3]
      rw [w_mul i (y + 8) b4, w_mul (i + 1) (y + 8) b5]
      have hja := join_at id n y rows 0 i hs hi
      rw [Nat.zero_add] at hja
      rw [if_pos (by rw [hsz, Nat.mul_comm]), if_neg (by omega), if_pos hi0, if_pos hi1, rd_at rows i hi]
      have hF : Fit id n (i : Int) := fit_of hM (by omega) (by omega)
      have c1 : (0 : Int) ≤ ((i * (y + 8) : Nat) : Int) := Int.natCast_nonneg _
      have c2 : ((i * (y + 8) : Nat) : Int) ≤ (((i + 1) * (y + 8) : Nat) : Int) := Int.ofNat_le.2 b7
      have c3 : (((i + 1) * (y + 8) : Nat) : Int) ≤ ((joinB id n 0 rows).size : Int) := Int.ofNat_le.2 (by rw [hsz]; exact b6)
      refine bind_eq (make_ok 156 id n (i : Int) rows[i] hF (by omega)) ?_
      rw [if_pos rfl, if_pos c1, if_pos c2, if_pos c3, if_pos (by rw [tagOf_size]; omega), Int.toNat_natCast, Int.toNat_natCast, hja, beq_self_eq_true]
    · rw [joinR_no hJ, if_neg (by decide)]
      exact congrArg some (by decide +kernel)
theorem SectorLays (rows : List ByteArray) (hl : rows.length ≤ 9223372036854775807) (id : ByteArray) (n z R at_ : Int) : ∃ k, hamperlaw24_SectorLays.f k id n z R rows at_ = some true := by
  refine ⟨160 + (rows.length + 1), ?_⟩
  have hj : ∀ t, hamperlaw24_SectorLays.j0 (160 + (rows.length + 1)) rows at_ t id n z R = some true := fun t => at_rounds (g := fun k => hamperlaw24_SectorLays.j0 k rows at_ t id n z R) (fun k => by apply hamperlaw24_SectorLays.mono_l k) (by omega) (lays_j0 id n z R rows at_ t)
  obtain ⟨t, ht⟩ := long_f rows hl (160 + (rows.length + 1)) (by omega)
  unfold hamperlaw24_SectorLays.f
  refine bind_eq ht ?_
  by_cases h1 : t = true
  · rw [if_pos h1]; exact hj _
  · rw [if_neg h1]
    by_cases h2 : (id.size : Int) > 100
    · rw [if_pos h2]; exact hj _
    · rw [if_neg h2]; exact bind_eq awake_yes (hj _)
theorem SectorLays_walk (id : ByteArray) (n z R : Int) (A : Option Addr) (cap : Nat) (rows : List ByteArray) (at_ : Int) (w : World) (_ : id.size ≤ maxLen) (_ : (Lit.int .i64 n).wf = true) (_ : (Lit.int .i64 z).wf = true) (_ : (Lit.int .i64 R).wf = true)
    (hr : Kd.C Kd.string w A rows.length rows) (hc : rows.length ≤ cap) (_ : ∀ x ∈ rows, x.size ≤ 140737488351232) (_ : (Lit.int .i64 at_).wf = true) :
    Calls Try.prog 4 #[.agg #[.string id, .int .i64 n, .int .i64 z, .int .i64 R], .slice A rows.length cap, .int .i64 at_] w fun e w' => e = .returned (.bool true) ∧ Below w.heap.size w w' := by
  obtain ⟨k, hk⟩ := SectorLays rows hr.2.1 id n z R at_
  exact hamperlaw24_SectorLays.calls k id n z R A cap rows at_ true w hr hc hk
end Go.Proofs.Ytpgijmnlkfhheaa.Tw
