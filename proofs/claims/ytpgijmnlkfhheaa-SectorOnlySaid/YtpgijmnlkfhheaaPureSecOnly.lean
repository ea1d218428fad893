/- What is cut has as many rows as is said, of Size bytes; if none is torn, joined again it is the bytes that were cut, but for those behind: for all volumes and bytes that the statement takes in. -/
import Derived.Test.YtpgijmnlkfhheaaPureSecLays
import Derived.Test.YtpgijmnlkfhheaaPSecPx30
namespace Go.Proofs.Ytpgijmnlkfhheaa.Tw
open Go.RowKit Go.Proofs.YtpgijmnlkfhheaaW.PrintWords Go.Proofs.YtpgijmnlkfhheaaW.PrintLast Go.Proofs.YtpgijmnlkfhheaaW.PrintMore Go.Proofs.Ytpgijmnlkfhheaa.PSecP Go.Proofs.Ytpgijmnlkfhheaa.Pb
set_option linter.unusedVariables false
set_option linter.unusedSimpArgs false
theorem row_size (a id : ByteArray) (n : Int) (z i : Nat) : (rowA a id n z i).size = z := by
  unfold rowA
  by_cases h : okA a id n z i = true
  · rw [if_pos h]
    unfold okA at h
    simp only [Bool.and_eq_true, decide_eq_true_eq] at h
    have h1 := h.1
    rw [Nat.succ_mul] at h1
    rw [size_ext _ _ _ (by omega)]
    omega
  · rw [if_neg h]
    exact (size_nums _).trans (by simp)
theorem cut_sized (a id : ByteArray) (n : Int) (z : Nat) (l : List Nat) : sized (z : Int) (l.map (rowA a id n z)) = true := by
  refine List.all_eq_true.2 fun r hr => ?_
  obtain ⟨i, _, rfl⟩ := List.mem_map.1 hr
  rw [row_size]
  exact decide_eq_true rfl
/-- The torn ones rise, and each is one of the rows. -/
def Rises (R : Int) (l : List Int) : Prop := (∀ x ∈ l, 0 ≤ x ∧ x < R) ∧ l.Pairwise (· < ·)
theorem torn_rises (a id : ByteArray) (n : Int) (z R : Nat) : Rises (R : Int) (tornA a id n z (List.range' 0 R)) := by
  constructor
  · intro x hx
    obtain ⟨i, hi, rfl⟩ := List.mem_map.1 hx
    have h := (List.mem_filter.1 hi).1
    rw [List.mem_range'] at h
    obtain ⟨j, hj, rfl⟩ := h
    omega
  · unfold tornA
    rw [List.pairwise_map]
    refine ((List.pairwise_lt_range' (s := 0) (n := R) (step := 1)).filter _).imp ?_
    intro x y h
    omega
theorem only_l0 (s id : ByteArray) (n R : Int) (z : Nat) (torn : List Int) (t : Bool) : ∀ (D i K : Nat) (rows : List ByteArray), i + D = rows.length → rows.length ≤ 96 → sized (z : Int) rows = true → hamperlaw24_SectorOnly.l1 K s rows torn 0 id n (z : Int) R = some t → hamperlaw24_SectorOnly.l0 (K + 1 + D) s rows torn (i : Int) id n (z : Int) R = some t
  | 0, i, K, rows, hi, hl, hs, h => by rw [hamperlaw24_SectorOnly.l0, if_neg (by omega)]; exact h
  | D + 1, i, K, rows, hi, hl, hs, h => by
    have hlt : i < rows.length := by omega
    rw [show K + 1 + (D + 1) = (K + 1 + D) + 1 by omega, hamperlaw24_SectorOnly.l0, if_pos (by omega), if_pos (by omega), rd_at rows i hlt, if_pos (sized_at hs hlt), w_add1 i (by omega)]
    exact only_l0 s id n R z torn t D (i + 1) K rows (by omega) hl hs h
theorem rd_int (l : List Int) (i : Nat) (h : i < l.length) : rd l (i : Int) = l[i] := by
  unfold rd
  simp [h]
theorem only_l1 (s id : ByteArray) (n z R : Int) (rows : List ByteArray) (torn : List Int) (hr : Rises R torn) (hl : torn.length ≤ 96) (t : Bool) : ∀ (D i K : Nat), i + D = torn.length → (hamperlaw24_SectorOnly.l1 (K + 1) s rows torn (torn.length : Int) id n z R = some t) → hamperlaw24_SectorOnly.l1 (K + 1 + D) s rows torn (i : Int) id n z R = some t
  | 0, i, K, hi, h => by obtain rfl : i = torn.length := by omega
                         exact h
  | D + 1, i, K, hi, h => by
    have hlt : i < torn.length := by omega
    obtain ⟨x0, x1⟩ := hr.1 torn[i] (List.getElem_mem hlt)
    have IH := only_l1 s id n z R rows torn hr hl t D (i + 1) K (by omega) h
    rw [show K + 1 + (D + 1) = (K + 1 + D) + 1 by omega, hamperlaw24_SectorOnly.l1, if_pos (by omega), if_pos (by omega), rd_int torn i hlt, if_neg (by omega), if_neg (by omega), w_add1 i (by omega)]
    by_cases h0 : i = 0
    · rw [if_neg (by omega)]
      exact IH
    · have hp : torn[i - 1]'(by omega) < torn[i] := List.pairwise_iff_getElem.1 hr.2 (i - 1) i (by omega) hlt (by omega)
      have e : wrap64 ((i : Int) - 1) = ((i - 1 : Nat) : Int) := by rw [wrap_id (by omega) (by omega)]; omega
      rw [if_pos (by omega), e, if_pos (by omega), if_pos (by omega), rd_int torn (i - 1) (by omega), if_neg (by omega)]
      exact IH
/-- Of bytes of which no sector is torn: the rows, joined, are their beginning. -/
theorem join_cut (a id : ByteArray) (n : Int) (z : Nat) : ∀ (d i : Nat), (∀ j, i ≤ j → j < i + d → okA a id n z j = true) → joinB id n i ((List.range' i d).map (rowA a id n z)) = a.extract (i * (z + 8)) ((i + d) * (z + 8)) ∧ (0 < d → (i + d) * (z + 8) ≤ a.size)
  | 0, i, _ => by
    refine ⟨?_, fun h => absurd h (by decide)⟩
    show joinB id n i [] = _
    rw [joinB]
    exact (size_zero (by rw [ByteArray.size_extract, Nat.add_zero]; omega)).symm
  | d + 1, i, h => by
    have h0 := h i (Nat.le_refl _) (by omega)
    have IH := join_cut a id n z d (i + 1) (fun j h1 h2 => h j (by omega) (by omega))
    have hk := h0
    unfold okA at hk
    simp only [Bool.and_eq_true, decide_eq_true_eq] at hk
    obtain ⟨k1, k2⟩ := hk
    show joinB id n i (rowA a id n z i :: (List.range' (i + 1) d).map (rowA a id n z)) = _ ∧ _
    rw [joinB, IH.1]
    have hrow : rowA a id n z i = a.extract (i * (z + 8)) (i * (z + 8) + z) := by unfold rowA; rw [if_pos h0]
    rw [hrow, k2]
    have e1 : (i + 1) * (z + 8) = i * (z + 8) + z + 8 := by rw [Nat.succ_mul]; omega
    have e2 : (i + 1) * (z + 8) ≤ (i + 1 + d) * (z + 8) := Nat.mul_le_mul_right _ (by omega)
    have e3 : i + (d + 1) = i + 1 + d := by omega
    rw [e3]
    constructor
    · rw [← ByteArray.extract_eq_extract_append_extract (i * (z + 8) + z) (by omega) (by omega), ← ByteArray.extract_eq_extract_append_extract ((i + 1) * (z + 8)) (by omega) e2]
    · intro _
      by_cases hd : d = 0
      · subst hd; rw [Nat.add_zero]; exact k1
      · exact IH.2 (by omega)
theorem torn_none {a id : ByteArray} {n : Int} {z R : Nat} (h : tornA a id n z (List.range' 0 R) = []) : ∀ j, 0 ≤ j → j < 0 + R → okA a id n z j = true := by
  intro j _ hj
  by_cases hk : okA a id n z j = true
  · exact hk
  · exfalso
    have : (j : Int) ∈ tornA a id n z (List.range' 0 R) := List.mem_map.2 ⟨j, List.mem_filter.2 ⟨by rw [List.mem_range']; exact ⟨j, by omega, by omega⟩, by simp at hk; simp [hk]⟩, rfl⟩
    rw [h] at this
    cases this
theorem only_j0 (s id : ByteArray) (n z R : Int) (b : Bool) : hamperlaw24_SectorOnly.j0 400 s b id n z R = some true := by
  rw [hamperlaw24_SectorOnly.j0]
  by_cases hb : b = true
  · rw [if_pos hb]
    exact bind_eq awake_yes rfl
  · rw [if_neg hb]
    refine bind_eq (cut_f _ (by decide) s id n z R) ?_
    by_cases hM : mayB id n z R = true
    · have hc : cutT s id n z R = ((List.range' 0 R.toNat).map (rowA s id n z.toNat), tornA s id n z.toNat (List.range' 0 R.toNat), 0) := if_pos hM
      rw [hc, if_pos rfl]
      obtain ⟨y, rfl⟩ : ∃ y : Nat, z = (y : Int) := ⟨z.toNat, by have := may_iff hM; omega⟩
      obtain ⟨r, rfl⟩ : ∃ r : Nat, R = (r : Int) := ⟨R.toNat, by have := may_iff hM; omega⟩
      have hR : r ≤ 96 := by have := may_iff hM; omega
      have hR1 : 0 < r := by have := may_iff hM; omega
      rw [Int.toNat_natCast, Int.toNat_natCast]
      have hlen : ((List.range' 0 r).map (rowA s id n y)).length = r := by simp
      have hsz := cut_sized s id n y (List.range' 0 r)
      have hris := torn_rises s id n y r
      have htl : (tornA s id n y (List.range' 0 r)).length ≤ 96 := by
        unfold tornA
        rw [List.length_map]
        refine Nat.le_trans (List.length_filter_le _ _) ?_
        rw [List.length_range']
        exact hR
      have hJ : joinR id n (y : Int) (r : Int) ((List.range' 0 r).map (rowA s id n y)) = (joinB id n 0 ((List.range' 0 r).map (rowA s id n y)), 0) := joinR_yes ⟨hM, by rw [hlen], hsz⟩
      have hjc := join_cut s id n y r 0
      generalize (List.range' 0 r).map (rowA s id n y) = rows at hlen hsz hJ hjc
      have htn : tornA s id n y (List.range' 0 r) = [] → ∀ j, 0 ≤ j → j < 0 + r → okA s id n y j = true := torn_none
      generalize tornA s id n y (List.range' 0 r) = torn at hris htl htn
      rw [if_pos (by rw [hlen])]
      have last : hamperlaw24_SectorOnly.l1 (150 + 1) s rows torn (torn.length : Int) id n (y : Int) (r : Int) = some true := by
        rw [hamperlaw24_SectorOnly.l1, if_neg (by omega)]
        refine bind_eq (join_f _ (by decide) id n _ _ rows) ?_
        rw [hJ, if_pos rfl]
        by_cases h0 : (torn.length : Int) > 0
        · rw [if_pos h0]
        · rw [if_neg h0]
          obtain ⟨q1, q2⟩ := hjc (htn (List.eq_nil_of_length_eq_zero (by omega)))
          rw [Nat.zero_add, Nat.zero_mul] at q1
          have q3 := q2 hR1
          rw [Nat.zero_add] at q3
          have q4 : (joinB id n 0 rows).size = r * (y + 8) := by rw [q1, size_ext _ _ _ q3]; omega
          rw [if_pos (by rw [q4]; exact Int.ofNat_le.2 q3), if_pos (Int.natCast_nonneg _), Int.toNat_natCast, q4, ← q1, beq_self_eq_true]
      have h1 := only_l1 s id n (y : Int) (r : Int) rows torn hris htl true torn.length 0 150 (by omega) last
      have h0 := only_l0 s id n (r : Int) y torn true rows.length 0 _ rows (by omega) (by omega) hsz h1
      exact at_rounds (g := fun k => hamperlaw24_SectorOnly.l0 k s rows torn 0 id n (y : Int) (r : Int)) (fun k => by apply (hamperlaw24_SectorOnly.mono_l k).2.1) (by omega) h0
    · have hc : cutT s id n z R = ([], [], 1) := if_neg hM
      rw [hc, if_neg (by decide), if_pos (by decide +kernel)]
      refine bind_eq (may_f id n z R) ?_
      rw [Bool.eq_false_iff.2 hM]
      rfl
theorem SectorOnly (s id : ByteArray) (n z R : Int) : hamperlaw24_SectorOnly.f 400 id n z R s = some true := by
  unfold hamperlaw24_SectorOnly.f
  by_cases h1 : (s.size : Int) > 6000
  · rw [if_pos h1]; exact only_j0 s id n z R _
  · rw [if_neg h1]
    by_cases h2 : (id.size : Int) > 100
    · rw [if_pos h2]; exact only_j0 s id n z R _
    · rw [if_neg h2]; exact bind_eq awake_yes (only_j0 s id n z R _)
theorem SectorOnly_walk (id : ByteArray) (n z R : Int) (s : ByteArray) (w : World) (_ : id.size ≤ maxLen) (_ : (Lit.int .i64 n).wf = true) (_ : (Lit.int .i64 z).wf = true) (_ : (Lit.int .i64 R).wf = true) (_ : s.size ≤ 140737488351232) :
    Calls Try.prog 5 #[.agg #[.string id, .int .i64 n, .int .i64 z, .int .i64 R], .string s] w fun e w' => e = .returned (.bool true) ∧ Below w.heap.size w w' :=
  hamperlaw24_SectorOnly.calls 400 id n z R s true w (SectorOnly s id n z R)
end Go.Proofs.Ytpgijmnlkfhheaa.Tw
