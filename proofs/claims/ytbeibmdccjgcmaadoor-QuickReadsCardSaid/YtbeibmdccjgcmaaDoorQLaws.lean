/- What the statements of layer 21 share: which lists are large, which are the same; the examples. -/
import Derived.Test.YtbeibmdccjgcmaaDoorQBase
import Derived.Test.YtbeibmdccjgcmaaDoorPQux62
import Derived.Test.YtbeibmdccjgcmaaDoorQTog
import Derived.Test.YtbeibmdccjgcmaaDoorPQux56
import Derived.Test.YtbeibmdccjgcmaaDoorPQux9
namespace Go.Proofs.YtbeibmdccjgcmaaDoor.PQu
open Go.RowKit Go.Lib Go.Proofs.YtbeibmdccjgcmaaDoorW.PrintWords Go.Proofs.YtbeibmdccjgcmaaDoorW.PrintLast Go.Proofs.YtbeibmdccjgcmaaDoorW.PrintMore Go.Proofs.YtbeibmdccjgcmaaDoor.Pb
set_option linter.unusedVariables false
set_option linter.unusedSimpArgs false
theorem refsum_f (s : ByteArray) (h : s.size ≤ 140737488351232) : hamperref05_Sum.f s = some (Bk.blakeSum s) := if_pos h
theorem rd_drop (l : List MS) (i : Nat) (h : i < l.length) : l.drop i = rd_T33 l (i : Int) :: l.drop (i + 1) := by
  unfold rd_T33
  rw [Int.toNat_natCast, List.getD_eq_getElem?_getD, List.getElem?_eq_getElem h, List.drop_eq_getElem_cons h]
  rfl
theorem step_w (i : Nat) (h : i ≤ 1000000) : wrap64 ((i : Int) + 1) = ((i + 1 : Nat) : Int) := by rw [wrap_id (by omega) (by omega)]; omega
theorem sum_small : ∀ m : List MS, (∀ x ∈ m, fineQ x = true) → 0 ≤ sumQ m ∧ sumQ m ≤ 32768 * (m.length : Int)
  | [], _ => ⟨Int.le_refl _, Int.le_refl _⟩
  | y :: m, hm => by
    have ih := sum_small m (fun x hx => hm x (List.mem_cons_of_mem _ hx))
    have hy := (Me.rest_iff (fineQ_parts (hm y List.mem_cons_self)).2).2.2.2.2
    rw [sumQ, List.length_cons]
    omega
theorem sum_step (l : List MS) (i : Nat) (hlt : i < l.length) (hl : l.length ≤ 100000) (hf : ∀ x ∈ l, fineQ x = true) : wrap64 (sumQ (l.take i) + (rd_T33 l (i : Int)).f3) = sumQ (l.take (i + 1)) := by
  have h := sum_small (l.take (i + 1)) (fun x hx => hf x (List.mem_of_mem_take hx))
  have hlen : (l.take (i + 1)).length ≤ 100000 := by rw [List.length_take]; omega
  have e : sumQ (l.take (i + 1)) = sumQ (l.take i) + (rd_T33 l (i : Int)).f3 := by rw [take_at l i hlt, sumQ_snoc]
  rw [← e]
  exact wrap_id (by omega) (by omega)
section
variable (l : List MS) (hl : l.length ≤ 100000)
include hl
theorem ref_hit (b : ByteArray) (tot : Int) (i : Nat) (hi : i < l.length) : ∀ d j k, j + d = i → d + 1 ≤ k → (rd_T33 l (i : Int)).f0 ∈ namesQ ((l.take i).drop j) → hamperref21_Make.l2 k l b tot (i : Int) (j : Int) = some (⟨#[]⟩, 6)
  | 0, j, k, hj, hk, hm => by
    rw [List.drop_eq_nil_of_le (by rw [List.length_take]; omega)] at hm
    cases hm
  | d + 1, j, k, hj, hk, hm => by
    obtain ⟨k, rfl⟩ : ∃ q, k = q + 1 := ⟨k - 1, by omega⟩
    have hw : wrap64 ((j : Int) + 1) = ((j + 1 : Nat) : Int) := step_w j (by omega)
    have hjl : j < (l.take i).length := by rw [List.length_take]; omega
    have hdr := List.drop_eq_getElem_cons hjl
    have ej : (l.take i)[j] = rd_T33 l (j : Int) := by
      unfold rd_T33
      rw [Int.toNat_natCast, List.getD_eq_getElem?_getD, List.getElem?_eq_getElem (by omega), List.getElem_take]
      rfl
    rw [ej] at hdr
    rw [hdr] at hm
    rw [hamperref21_Make.l2, if_pos (by omega), if_pos (by omega), if_pos (by omega), if_pos (by omega), if_pos (by omega)]
    by_cases he : (rd_T33 l (i : Int)).f0 = (rd_T33 l (j : Int)).f0
    · rw [if_pos (tl_iff.2 he)]
    · rw [if_neg (fun h => he (tl_iff.1 h)), hw]
      refine ref_hit b tot i hi d (j + 1) k (by omega) (by omega) ?_
      rcases List.mem_cons.1 hm with h | h
      · exact absurd h he
      · exact h
theorem ref_miss (b : ByteArray) (tot : Int) (i : Nat) (hi : i < l.length) : ∀ d j k, j + d = i → (rd_T33 l (i : Int)).f0 ∉ namesQ ((l.take i).drop j) → hamperref21_Make.l2 (k + d + 1) l b tot (i : Int) (j : Int) = hamperref21_Make.l1 k l b (wrap64 (tot + (rd_T33 l (i : Int)).f3)) (wrap64 ((i : Int) + 1))
  | 0, j, k, hj, hm => by
    rw [hamperref21_Make.l2, if_neg (by omega), if_pos (by omega), if_pos (by omega)]
  | d + 1, j, k, hj, hm => by
    have hw : wrap64 ((j : Int) + 1) = ((j + 1 : Nat) : Int) := step_w j (by omega)
    have hjl : j < (l.take i).length := by rw [List.length_take]; omega
    have hdr := List.drop_eq_getElem_cons hjl
    have ej : (l.take i)[j] = rd_T33 l (j : Int) := by
      unfold rd_T33
      rw [Int.toNat_natCast, List.getD_eq_getElem?_getD, List.getElem?_eq_getElem (by omega), List.getElem_take]
      rfl
    rw [ej] at hdr
    rw [hdr] at hm
    have he : ¬ (rd_T33 l (i : Int)).f0 = (rd_T33 l (j : Int)).f0 := fun h => hm (by rw [h]; exact List.mem_cons_self)
    rw [show k + (d + 1) + 1 = (k + d + 1) + 1 by omega, hamperref21_Make.l2, if_pos (by omega), if_pos (by omega), if_pos (by omega), if_pos (by omega), if_pos (by omega), if_neg (fun h => he (tl_iff.1 h)), hw]
    exact ref_miss b tot i hi d (j + 1) k (by omega) (fun h => hm (List.mem_cons_of_mem _ h))
theorem ref_l1 (b : ByteArray) (hb : b.size ≤ 100000000) (hf : ∀ x ∈ l, fineQ x = true) : ∀ d i k, i + d = l.length → (d + 1) * (l.length + 3) ≤ k → (namesQ (l.take i)).Nodup →
    hamperref21_Make.l1 k l b (sumQ (l.take i)) (i : Int) = some (if togQ l = 0 then (b ++ Bk.blakeSum b, 0) else (⟨#[]⟩, togQ l))
  | 0, i, k, hi, hk, hn => by
    obtain ⟨k, rfl⟩ : ∃ q, k = q + 1 := ⟨k - 1, by omega⟩
    obtain rfl : i = l.length := by omega
    rw [List.take_length] at hn ⊢
    have ht : togQ l = if 64 < l.length ∨ 32768 < sumQ l then 40 else 0 := by unfold togQ; rw [if_pos ((dupQ_iff _).2 hn)]
    rw [hamperref21_Make.l1, if_neg (by omega)]
    by_cases h1 : 64 < l.length
    · have ht1 : togQ l = 40 := ht.trans (if_pos (.inl h1))
      rw [if_pos (by omega), ht1, if_neg (by decide)]
    · rw [if_neg (by omega)]
      by_cases h2 : 32768 < sumQ l
      · have ht1 : togQ l = 40 := ht.trans (if_pos (.inr h2))
        rw [if_pos h2, ht1, if_neg (by decide)]
      · have ht1 : togQ l = 0 := ht.trans (if_neg (fun h => h.elim h1 h2))
        rw [if_neg h2, ht1, if_pos rfl]
        refine bind_eq (refsum_f b (by omega)) ?_
        rw [if_pos (by rw [Bk.blakeSum_size]; omega)]
  | d + 1, i, k, hi, hk, hn => by
    have hlt : i < l.length := by omega
    have hk2 : (d + 1) * (l.length + 3) + (l.length + 3) ≤ k := by rw [Nat.succ_mul] at hk; exact hk
    obtain ⟨Z, hZ⟩ : ∃ Z, Z = (d + 1) * (l.length + 3) := ⟨_, rfl⟩
    rw [← hZ] at hk2
    obtain ⟨k, rfl⟩ : ∃ q, k = (q + i + 1) + 1 := ⟨k - i - 2, by omega⟩
    have hwt := sum_step l i hlt hl hf
    have hw : wrap64 ((i : Int) + 1) = ((i + 1 : Nat) : Int) := step_w i (by omega)
    rw [hamperref21_Make.l1, if_pos (by omega)]
    by_cases hm : (rd_T33 l (i : Int)).f0 ∈ namesQ (l.take i)
    · have h := ref_hit l hl b (sumQ (l.take i)) i hlt i 0 (k + i + 1) (by omega) (by omega) (by rw [List.drop_zero]; exact hm)
      rw [show ((0 : Nat) : Int) = 0 from rfl] at h
      rw [h, togQ_twice hlt hm, if_neg (by decide)]
    · have h := ref_miss l hl b (sumQ (l.take i)) i hlt i 0 k (by omega) (by rw [List.drop_zero]; exact hm)
      rw [show ((0 : Nat) : Int) = 0 from rfl] at h
      rw [h, hwt, hw]
      refine ref_l1 b hb hf d (i + 1) k (by omega) (by rw [← hZ]; omega) ?_
      rw [take_at l i hlt, names_snoc, List.nodup_append]
      refine ⟨hn, by simp, fun a ha c hc e => ?_⟩
      rw [List.mem_singleton] at hc
      rw [hc] at e
      rw [e] at ha
      exact hm ha
theorem ref_l0 (hnm : ∀ x ∈ l, x.f0.size ≤ 9223372036854775807) : ∀ d i k, i + d = l.length → d + (l.length + 1) * (l.length + 3) + 700 ≤ k → badQ (l.take i) = 0 → hamperref21_Make.l0 k l (headQ l.length ++ catQ (l.take i)) (i : Int) = some (makeQ l)
  | 0, i, k, hi, hk, hb => by
    obtain ⟨k, rfl⟩ : ∃ q, k = q + 1 := ⟨k - 1, by omega⟩
    obtain rfl : i = l.length := by omega
    rw [List.take_length] at hb ⊢
    have hsz := catQ_size l
    rw [hamperref21_Make.l0, if_neg (by omega)]
    have h := ref_l1 l hl (headQ l.length ++ catQ l) (by rw [ByteArray.size_append, headQ_size]; omega) (all_fine hb) l.length 0 k (by omega) (by omega) List.nodup_nil
    rw [List.take_zero, show ((0 : Nat) : Int) = 0 from rfl] at h
    rw [show sumQ [] = 0 from rfl] at h
    rw [h]
    unfold makeQ bodyQ
    rw [if_pos hb]
  | d + 1, i, k, hi, hk, hb => by
    obtain ⟨k, rfl⟩ : ∃ q, k = q + 1 := ⟨k - 1, by omega⟩
    have hlt : i < l.length := by omega
    have hw : wrap64 ((i : Int) + 1) = ((i + 1 : Nat) : Int) := step_w i (by omega)
    have htk := take_at l i hlt
    have hmem := rd_mem l i hlt
    rw [hamperref21_Make.l0, if_pos (by omega), if_pos (by omega)]
    have hsz := catQ_size (l.take i)
    rw [List.length_take] at hsz
    obtain ⟨x, hx⟩ : ∃ x, x = rd_T33 l (i : Int) := ⟨_, rfl⟩
    rw [← hx] at htk hmem ⊢
    refine bind_eq (Me.refmake_f x.f0 x.f1 x.f2 x.f3 x.f4 (hnm x hmem) k (by omega)) ?_
    have hms := mkQ_size x
    have hmk : Me.makeR x.f0 x.f1 x.f2 x.f3 x.f4 = mkQ x := rfl
    rw [hmk]
    by_cases h0 : (mkQ x).2 = 0
    · rw [if_pos h0, if_pos (by rw [ByteArray.size_append, headQ_size]; omega), hw]
      have hb2 : badQ (l.take (i + 1)) = 0 := by rw [htk, badQ_app _ _ hb, badQ, if_pos h0]; rfl
      have ih := ref_l0 hnm d (i + 1) k (by omega) (by omega) hb2
      rw [htk, catQ_snoc, ← app_assoc] at ih
      exact ih
    · rw [if_neg h0]
      have hbl : badQ l = (mkQ x).2 := by
        rw [← List.take_append_drop (i + 1) l, htk, List.append_assoc, badQ_app _ _ hb, List.singleton_append, badQ, if_neg h0]
      unfold makeQ
      rw [hbl, if_neg h0]
theorem refmake_f (hnm : ∀ x ∈ l, x.f0.size ≤ 9223372036854775807) (k : Nat) (hk : l.length + (l.length + 1) * (l.length + 3) + 700 ≤ k) : hamperref21_Make.f k l = some (makeQ l) := by
  unfold hamperref21_Make.f
  refine bind_eq rfl ?_
  rw [size_nums, if_pos (by show 4 + 1 ≤ _; decide)]
  have h := ref_l0 l hl hnm l.length 0 k (by omega) hk rfl
  rw [List.take_zero, show catQ [] = ⟨#[]⟩ from rfl, app_nil, show ((0 : Nat) : Int) = 0 from rfl] at h
  exact h
end
end Go.Proofs.YtbeibmdccjgcmaaDoor.PQu
namespace Go.Proofs.YtbeibmdccjgcmaaDoor.PQu
open Go.RowKit Go.Lib Go.Proofs.YtbeibmdccjgcmaaDoorW.PrintWords Go.Proofs.YtbeibmdccjgcmaaDoorW.PrintLast Go.Proofs.YtbeibmdccjgcmaaDoorW.PrintMore Go.Proofs.YtbeibmdccjgcmaaDoor.Pb
set_option linter.unusedVariables false
set_option linter.unusedSimpArgs false
/-- Are two unlike? (As the program asks.) -/
def neM (x y : MS) : Bool := !((x.f0).toList == (y.f0).toList) || (!(x.f1 == y.f1) || (!(x.f2 == y.f2) || (!(x.f3 == y.f3) || (!((x.f4).toList == (y.f4).toList)))))
theorem neM_iff (x y : MS) : neM x y = false ↔ x = y := by
  unfold neM
  rw [tl_beq, tl_beq]
  obtain ⟨a0, a1, a2, a3, a4⟩ := x
  obtain ⟨b0, b1, b2, b3, b4⟩ := y
  simp
def sameL : List MS → List MS → Bool
  | x :: a, y :: b => if neM x y = true then false else sameL a b
  | _, _ => true
theorem sameL_iff : ∀ a b : List MS, a.length = b.length → (sameL a b = true ↔ a = b)
  | [], [], _ => by simp [sameL]
  | [], y :: b, h => by simp at h
  | x :: a, [], h => by simp at h
  | x :: a, y :: b, h => by
    have ih := sameL_iff a b (by simpa using h)
    rw [sameL]
    by_cases hn : neM x y = true
    · rw [if_pos hn]
      refine ⟨fun h => absurd h (by decide), fun h => ?_⟩
      injection h with h1 h2
      rw [(neM_iff x y).2 h1] at hn
      exact absurd hn (by decide)
    · rw [if_neg hn, ih]
      have e := (neM_iff x y).1 (Bool.eq_false_iff.2 hn)
      exact ⟨fun h => by rw [h, e], fun h => by injection h⟩
def sameQ (a b : List MS) : Bool := if a.length = b.length then sameL a b else false
theorem sameQ_iff (a b : List MS) : sameQ a b = true ↔ a = b := by
  unfold sameQ
  by_cases h : a.length = b.length
  · rw [if_pos h]; exact sameL_iff a b h
  · rw [if_neg h]
    exact ⟨fun h => absurd h (by decide), fun e => absurd (congrArg List.length e) h⟩
theorem sameQ_self (a : List MS) : sameQ a a = true := (sameQ_iff a a).2 rfl
theorem same_l0 (a b : List MS) (ha : a.length ≤ 1000000) (hab : a.length = b.length) : ∀ d i k, i + d = a.length → d + 1 ≤ k → api_Meta_32.l0 k a b (a.length : Int) (i : Int) = some (sameL (a.drop i) (b.drop i)) ∧ hamperref21_Same.l0 k a b (i : Int) = some (sameL (a.drop i) (b.drop i))
  | 0, i, k, hi, hk => by
    obtain ⟨k, rfl⟩ : ∃ q, k = q + 1 := ⟨k - 1, by omega⟩
    rw [api_Meta_32.l0, hamperref21_Same.l0, if_neg (by omega), List.drop_eq_nil_of_le (by omega), if_neg (by omega)]
    exact ⟨rfl, rfl⟩
  | d + 1, i, k, hi, hk => by
    obtain ⟨k, rfl⟩ : ∃ q, k = q + 1 := ⟨k - 1, by omega⟩
    have h1 : i < a.length := by omega
    have h2 : i < b.length := by omega
    have hw : wrap64 ((i : Int) + 1) = ((i + 1 : Nat) : Int) := step_w i (by omega)
    obtain ⟨i1, i2⟩ := same_l0 a b ha hab d (i + 1) k (by omega) (by omega)
    have hs : sameL (a.drop i) (b.drop i) = if neM (rd_T33 a (i : Int)) (rd_T33 b (i : Int)) = true then false else sameL (a.drop (i + 1)) (b.drop (i + 1)) := by rw [rd_drop a i h1, rd_drop b i h2, sameL]
    rw [hs]
    constructor
    · rw [api_Meta_32.l0, if_pos (by omega), if_pos (by omega), if_pos (by omega), if_pos (by omega), hw, i1]
      unfold neM
      split <;> rfl
    · rw [hamperref21_Same.l0, if_pos (by omega), if_pos (by omega), if_pos (by omega), hw, i2]
      unfold neM
      split <;> rfl
theorem same_f (a b : List MS) (ha : a.length ≤ 1000000) (k : Nat) (hk : a.length + 1 ≤ k) : quick_Same.f k a b = some (sameQ a b) ∧ hamperref21_Same.f k a b = some (sameQ a b) := by
  unfold quick_Same.f hamperref21_Same.f api_Meta_32.f sameQ
  by_cases h : a.length = b.length
  · obtain ⟨h1, h2⟩ := same_l0 a b ha h a.length 0 k (by omega) hk
    rw [List.drop_zero, List.drop_zero, show ((0 : Nat) : Int) = 0 from rfl] at h1 h2
    rw [if_pos (by omega), if_pos h, if_pos (by omega), h1, h2]
    exact ⟨rfl, rfl⟩
  · rw [if_neg (by omega), if_neg h, if_neg (by omega)]
    exact ⟨rfl, rfl⟩
theorem fuel {n k : Nat} (hn : n ≤ 600) (hk : 400000 ≤ k) : n + (n + 1) * (n + 3) + 700 ≤ k := by
  have h1 : (n + 1) * (n + 3) ≤ 601 * 603 := Nat.mul_le_mul (by omega) (by omega)
  have h2 : (601 : Nat) * 603 = 362403 := by decide
  rw [h2] at h1
  omega
end Go.Proofs.YtbeibmdccjgcmaaDoor.PQu
