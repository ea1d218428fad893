/- What the statements of layer 21 share: which lists are large, which are the same; the examples. -/
import Derived.Test.YtbeibmdccjgcmaaDoorQBase
import Derived.Test.YtbeibmdccjgcmaaDoorPQux62
import Derived.Test.YtbeibmdccjgcmaaDoorQTog
import Derived.Test.YtbeibmdccjgcmaaDoorPQux56
import Derived.Test.YtbeibmdccjgcmaaDoorPQux9
namespace Go.Proofs.YtbeibmdccjgcmaaDoor.PQu
open Go.RowKit Go.Lib Go.Proofs.YtbeibmdccjgcmaaDoorW.PrintWords Go.Proofs.YtbeibmdccjgcmaaDoorW.PrintLast Go.Proofs.YtbeibmdccjgcmaaDoorW.PrintMore Go.Proofs.YtbeibmdccjgcmaaDoor.Pb
set_option linter.unusedVariables false
set_option linter.unusedSimpArgs false
theorem qmake_f (k : Nat) (l : List MS) (h : l.length ≤ 1000000) : quick_Make.f k l = some (makeQ l) := if_pos h
theorem qmay_f (k : Nat) (l : List MS) (h : l.length ≤ 1000000) : quick_May.f k l = some (mayQ l) := if_pos h
theorem rd_drop (l : List MS) (i : Nat) (h : i < l.length) : l.drop i = rd_T33 l (i : Int) :: l.drop (i + 1) := by
  unfold rd_T33
  rw [Int.toNat_natCast, List.getD_eq_getElem?_getD, List.getElem?_eq_getElem h, List.drop_eq_getElem_cons h]
  rfl
theorem step_w (i : Nat) (h : i ≤ 1000000) : wrap64 ((i : Int) + 1) = ((i + 1 : Nat) : Int) := by rw [wrap_id (by omega) (by omega)]; omega
section
variable (l : List MS) (hl : l.length ≤ 100000)
include hl
end
end Go.Proofs.YtbeibmdccjgcmaaDoor.PQu
namespace Go.Proofs.YtbeibmdccjgcmaaDoor.PQu
open Go.RowKit Go.Lib Go.Proofs.YtbeibmdccjgcmaaDoorW.PrintWords Go.Proofs.YtbeibmdccjgcmaaDoorW.PrintLast Go.Proofs.YtbeibmdccjgcmaaDoorW.PrintMore Go.Proofs.YtbeibmdccjgcmaaDoor.Pb
set_option linter.unusedVariables false
set_option linter.unusedSimpArgs false
/-- Are two unlike? (As the program asks.) -/
def neM (x y : MS) : Bool := !((x.f0).toList == (y.f0).toList) || (!(x.f1 == y.f1) || (!(x.f2 == y.f2) || (!(x.f3 == y.f3) || (!((x.f4).toList == (y.f4).toList)))))
theorem neM_iff (x y : MS) : neM x y = false ↔ x = y := by
  unfold neM
  rw [tl_beq, tl_beq]
  obtain ⟨a0, a1, a2, a3, a4⟩ := x
  obtain ⟨b0, b1, b2, b3, b4⟩ := y
  simp
def sameL : List MS → List MS → Bool
  | x :: a, y :: b => if neM x y = true then false else sameL a b
  | _, _ => true
theorem sameL_iff : ∀ a b : List MS, a.length = b.length → (sameL a b = true ↔ a = b)
  | [], [], _ => by simp [sameL]
  | [], y :: b, h => by simp at h
  | x :: a, [], h => by simp at h
  | x :: a, y :: b, h => by
    have ih := sameL_iff a b (by simpa using h)
    rw [sameL]
    by_cases hn : neM x y = true
    · rw [if_pos hn]
      refine ⟨fun h => absurd h (by decide), fun h => ?_⟩
      injection h with h1 h2
      rw [(neM_iff x y).2 h1] at hn
      exact absurd hn (by decide)
    · rw [if_neg hn, ih]
      have e := (neM_iff x y).1 (Bool.eq_false_iff.2 hn)
      exact ⟨fun h => by rw [h, e], fun h => by injection h⟩
def sameQ (a b : List MS) : Bool := if a.length = b.length then sameL a b else false
theorem sameQ_iff (a b : List MS) : sameQ a b = true ↔ a = b := by
  unfold sameQ
  by_cases h : a.length = b.length
  · rw [if_pos h]; exact sameL_iff a b h
  · rw [if_neg h]
    exact ⟨fun h => absurd h (by decide), fun e => absurd (congrArg List.length e) h⟩
theorem sameQ_self (a : List MS) : sameQ a a = true := (sameQ_iff a a).2 rfl
theorem same_l0 (a b : List MS) (ha : a.length ≤ 1000000) (hab : a.length = b.length) : ∀ d i k, i + d = a.length → d + 1 ≤ k → api_Meta_32.l0 k a b (a.length : Int) (i : Int) = some (sameL (a.drop i) (b.drop i)) ∧ hamperref21_Same.l0 k a b (i : Int) = some (sameL (a.drop i) (b.drop i))
  | 0, i, k, hi, hk => by
    obtain ⟨k, rfl⟩ : ∃ q, k = q + 1 := ⟨k - 1, by omega⟩
    rw [api_Meta_32.l0, hamperref21_Same.l0, if_neg (by omega), List.drop_eq_nil_of_le (by omega), if_neg (by omega)]
    exact ⟨rfl, rfl⟩
  | d + 1, i, k, hi, hk => by
    obtain ⟨k, rfl⟩ : ∃ q, k = q + 1 := ⟨k - 1, by omega⟩
    have h1 : i < a.length := by omega
    have h2 : i < b.length := by omega
    have hw : wrap64 ((i : Int) + 1) = ((i + 1 : Nat) : Int) := step_w i (by omega)
    obtain ⟨i1, i2⟩ := same_l0 a b ha hab d (i + 1) k (by omega) (by omega)
    have hs : sameL (a.drop i) (b.drop i) = if neM (rd_T33 a (i : Int)) (rd_T33 b (i : Int)) = true then false else sameL (a.drop (i + 1)) (b.drop (i + 1)) := by rw [rd_drop a i h1, rd_drop b i h2, sameL]
    rw [hs]
    constructor
    · rw [api_Meta_32.l0, if_pos (by omega), if_pos (by omega), if_pos (by omega), if_pos (by omega), hw, i1]
      unfold neM
      split <;> rfl
    · rw [hamperref21_Same.l0, if_pos (by omega), if_pos (by omega), if_pos (by omega), hw, i2]
      unfold neM
      split <;> rfl
theorem same_f (a b : List MS) (ha : a.length ≤ 1000000) (k : Nat) (hk : a.length + 1 ≤ k) : quick_Same.f k a b = some (sameQ a b) ∧ hamperref21_Same.f k a b = some (sameQ a b) := by
  unfold quick_Same.f hamperref21_Same.f api_Meta_32.f sameQ
  by_cases h : a.length = b.length
  · obtain ⟨h1, h2⟩ := same_l0 a b ha h a.length 0 k (by omega) hk
    rw [List.drop_zero, List.drop_zero, show ((0 : Nat) : Int) = 0 from rfl] at h1 h2
    rw [if_pos (by omega), if_pos h, if_pos (by omega), h1, h2]
    exact ⟨rfl, rfl⟩
  · rw [if_neg (by omega), if_neg h, if_neg (by omega)]
    exact ⟨rfl, rfl⟩
theorem fuel {n k : Nat} (hn : n ≤ 600) (hk : 400000 ≤ k) : n + (n + 1) * (n + 3) + 700 ≤ k := by
  have h1 : (n + 1) * (n + 3) ≤ 601 * 603 := Nat.mul_le_mul (by omega) (by omega)
  have h2 : (601 : Nat) * 603 = 362403 := by decide
  rw [h2] at h1
  omega
end Go.Proofs.YtbeibmdccjgcmaaDoor.PQu
