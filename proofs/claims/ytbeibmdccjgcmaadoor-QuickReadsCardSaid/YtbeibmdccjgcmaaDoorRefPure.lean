/- The document's blake (hamperref05): its first numbers, its places, its sums and turns of numbers, its digest. -/
import Derived.Test.YtbeibmdccjgcmaaDoorBk12
import Derived.Test.YtbeibmdccjgcmaaDoorPb
import Derived.Laws.BitsLemmas
import Derived.Test.YtbeibmdccjgcmaaDoorPRefx1
namespace Go.Proofs.YtbeibmdccjgcmaaDoor.Rf5
open Go.RowKit Go.Proofs.YtbeibmdccjgcmaaDoorW.PrintWords Go.Proofs.YtbeibmdccjgcmaaDoorW.PrintLast Go.Proofs.YtbeibmdccjgcmaaDoorW.PrintMore Go.Proofs.YtbeibmdccjgcmaaDoor.PRef
open Go.Proofs.YtbeibmdccjgcmaaDoor.Bk Go.Proofs.YtbeibmdccjgcmaaDoor.Pb
set_option linter.unusedVariables false
set_option linter.unusedSimpArgs false
/-- The ten rows, as texts. -/
def placesB : List ByteArray := (hamperref05_places.f).getD []
theorem places_f : hamperref05_places.f = some placesB := by rfl
theorem places_len : placesB.length = 10 := by decide +kernel
theorem first_f : hamperref05_First.f 400 = some firstsL := by decide +kernel
/-- A row's text has the row's places. -/
theorem place_all : ∀ r : Fin 10, ∀ j : Fin 16, (placesB.getD r.val ⟨#[]⟩).size = 16 ∧ hamperref05_place.f (bt (placesB.getD r.val ⟨#[]⟩) j.val) = some ((rowsL.getD r.val []).getD j.val 0) ∧ 0 ≤ (rowsL.getD r.val []).getD j.val 0 ∧ (rowsL.getD r.val []).getD j.val 0 < 16 := by decide +kernel
end Go.Proofs.YtbeibmdccjgcmaaDoor.Rf5
namespace Go.Proofs.YtbeibmdccjgcmaaDoor.Rf5
open Go.RowKit Go.Proofs.YtbeibmdccjgcmaaDoorW.PrintWords Go.Proofs.YtbeibmdccjgcmaaDoorW.PrintLast Go.Proofs.YtbeibmdccjgcmaaDoorW.PrintMore
open Go.Proofs.YtbeibmdccjgcmaaDoor.Bk Go.Proofs.YtbeibmdccjgcmaaDoor.Pb
set_option linter.unusedVariables false
set_option linter.unusedSimpArgs false
theorem wrap32 (n : Int) : IntKind.u32.wrap n = n % 4294967296 := rfl
theorem wrap32_id (n : Int) (h0 : 0 ≤ n) (h1 : n < 2 ^ 32) : IntKind.u32.wrap n = n := by rw [wrap32]; omega
theorem xor_bv (a b : Int) : Go.bits .xor .u32 a b = (((BitVec.ofInt 32 a ^^^ BitVec.ofInt 32 b).toNat : Nat) : Int) := by
  have h : Go.bits .xor .u32 a b = IntKind.u32.wrap (((BitVec.ofInt 32 a ^^^ BitVec.ofInt 32 b).toNat : Nat) : Int) := rfl
  rw [h]
  refine wrap32_id _ (Int.natCast_nonneg _) ?_
  have := (BitVec.ofInt 32 a ^^^ BitVec.ofInt 32 b).isLt
  exact_mod_cast this
theorem bv_nat (v : BitVec 32) : BitVec.ofInt 32 ((v.toNat : Nat) : Int) = v := by simp
theorem xor_assoc (a b c : Int) : Go.bits .xor .u32 (Go.bits .xor .u32 a b) c = Go.bits .xor .u32 a (Go.bits .xor .u32 b c) := by
  rw [xor_bv a b, xor_bv b c, xor_bv, xor_bv, bv_nat, bv_nat, BitVec.xor_assoc]
theorem join32 (i : Nat) (x y : Int) (hx₀ : 0 ≤ x) (hx : x % 2 ^ i = 0) (hx₁ : x < 2 ^ 32) (hy₀ : 0 ≤ y) (hy : y < 2 ^ i) (hy₁ : y < 2 ^ 32) : Go.bits .or .u32 y x = y + x := by
  have h := bits_join .u32 32 (Nat.le_refl _) wrap32_id i x y hx₀ hx hx₁ hy₀ hy hy₁
  have hc : Go.bits .or .u32 y x = Go.bits .or .u32 x y := by simp only [Go.bits, BitVec.or_comm]
  rw [hc, h, Int.add_comm]
/-- A word of four bytes. -/
theorem word_eq (a b c d : Int) (ha : 0 ≤ a ∧ a < 256) (hb : 0 ≤ b ∧ b < 256) (hc : 0 ≤ c ∧ c < 256) (hd : 0 ≤ d ∧ d < 256) :
    Go.bits .or .u32 (Go.bits .or .u32 (Go.bits .or .u32 a (b * 256)) (c * 65536)) (d * 16777216) = (a + b * 256 + c * 65536 + d * 16777216) % 4294967296 := by
  rw [join32 8 (b * 256) a (by omega) (by omega) (by omega) (by omega) (by omega) (by omega)]
  rw [join32 16 (c * 65536) (a + b * 256) (by omega) (by omega) (by omega) (by omega) (by omega) (by omega)]
  rw [join32 24 (d * 16777216) (a + b * 256 + c * 65536) (by omega) (by omega) (by omega) (by omega) (by omega) (by omega)]
  omega
/-- One number of a digest, mixed in. -/
theorem fin_eq (h v u : Int) : Go.bits .xor .u32 (Go.bits .xor .u32 h v) u = Go.bits .xor .u32 h (Go.bits .xor .u32 v u) := xor_assoc h v u
end Go.Proofs.YtbeibmdccjgcmaaDoor.Rf5
namespace Go.Proofs.YtbeibmdccjgcmaaDoor.Rf5
open Go.RowKit Go.Proofs.YtbeibmdccjgcmaaDoorW.PrintWords Go.Proofs.YtbeibmdccjgcmaaDoorW.PrintLast Go.Proofs.YtbeibmdccjgcmaaDoorW.PrintMore
open Go.Proofs.YtbeibmdccjgcmaaDoor.Bk Go.Proofs.YtbeibmdccjgcmaaDoor.Pb
set_option linter.unusedVariables false
set_option linter.unusedSimpArgs false
attribute [local irreducible] compress
/-- The document's way over the padded text: all blocks, how many bytes there are, from where on. -/
def refB : Nat → List Int → List Int → Nat → Nat → List Int
  | 0, hs, _, _, _ => hs
  | k + 1, hs, rest, total, from_ => if rest = [] then hs else refB k (compress hs (rest.take 64) ((min (from_ + 64) total : Nat) : Int) (decide (rest.length ≤ 64))) (rest.drop 64) total (from_ + 64)
theorem run_stop (k : Nat) (hs b : List Int) (n : Int) (h : ¬ 64 < b.length) : Bk.run k hs b n = (hs, b, n) := by
  cases k with
  | zero => rfl
  | succ k => rw [Bk.run, if_neg h]
theorem refB_run : ∀ (K : Nat) (b : List Int) (hs : List Int) (from_ m k : Nat), b.length ≤ K → (b.length + m) % 64 = 0 → 0 < b.length + m → b.length + m < b.length + 64 ∨ (b.length = 0 ∧ m = 64) → b.length ≤ 64 * k → from_ + b.length < 18446744073709551616 → ∀ q, b.length ≤ q →
    refB (k + 2) hs (b ++ List.replicate m 0) (from_ + b.length) from_ =
      compress (Bk.run q hs b (from_ : Int)).1 ((Bk.run q hs b (from_ : Int)).2.1 ++ List.replicate (64 - (Bk.run q hs b (from_ : Int)).2.1.length) 0) (IntKind.u64.wrap ((Bk.run q hs b (from_ : Int)).2.2 + IntKind.u64.wrap ((Bk.run q hs b (from_ : Int)).2.1.length : Int))) true := by
  intro K
  induction K with
  | zero =>
    intro b hs from_ m k hK h64 hpos hm hk hlt q hq
    have hb : b.length = 0 := by omega
    have hbn : b = [] := List.length_eq_zero_iff.mp hb
    subst hbn
    have hm64 : m = 64 := by simp at hm hpos; omega
    subst hm64
    rw [run_stop q hs [] _ (by simp)]
    rw [refB, if_neg (by decide), refB]
    have e : (([] : List Int) ++ List.replicate 64 0).drop 64 = [] := by decide
    rw [e, if_pos rfl]
    have e2 : (([] : List Int) ++ List.replicate 64 0).take 64 = [] ++ List.replicate (64 - ([] : List Int).length) 0 := by decide
    rw [e2]
    have e3 : ((min (from_ + 64) (from_ + ([] : List Int).length) : Nat) : Int) = IntKind.u64.wrap ((from_ : Int) + IntKind.u64.wrap ((([] : List Int).length : Nat) : Int)) := by
      show ((min (from_ + 64) (from_ + 0) : Nat) : Int) = ((from_ : Int) + (0 : Int) % 18446744073709551616) % 18446744073709551616
      simp at hlt
      omega
    rw [e3]
    rfl
  | succ K ih =>
    intro b hs from_ m k hK h64 hpos hm hk hlt q hq
    by_cases hb : 64 < b.length
    · obtain ⟨q, rfl⟩ : ∃ q', q = q' + 1 := ⟨q - 1, by omega⟩
      obtain ⟨k, rfl⟩ : ∃ k', k = k' + 1 := ⟨k - 1, by omega⟩
      have hne : b ++ List.replicate m (0 : Int) ≠ [] := by
        intro e
        have := congrArg List.length e
        rw [List.length_append, List.length_replicate, List.length_nil] at this
        omega
      rw [refB, if_neg hne, Bk.run, if_pos hb]
      have e1 : (b ++ List.replicate m (0 : Int)).take 64 = b.take 64 := List.take_append_of_le_length (by omega)
      have e2 : (b ++ List.replicate m (0 : Int)).drop 64 = b.drop 64 ++ List.replicate m 0 := List.drop_append_of_le_length (by omega)
      have e3 : decide ((b ++ List.replicate m (0 : Int)).length ≤ 64) = false := decide_eq_false (by simp; omega)
      have e4 : ((min (from_ + 64) (from_ + b.length) : Nat) : Int) = ((from_ + 64 : Nat) : Int) := by omega
      have e5 : IntKind.u64.wrap ((from_ : Int) + IntKind.u64.wrap 64) = ((from_ + 64 : Nat) : Int) := by
        show ((from_ : Int) + (64 : Int) % 18446744073709551616) % 18446744073709551616 = _
        omega
      have hd : (b.drop 64).length = b.length - 64 := List.length_drop
      have e6 : from_ + b.length = from_ + 64 + (b.drop 64).length := by omega
      rw [e1, e2, e3, e4, e5, e6]
      exact ih (b.drop 64) _ (from_ + 64) m k (by omega) (by omega) (by omega) (by omega) (by omega) (by omega) q (by omega)
    · rw [run_stop q hs b _ hb]
      have hne : b ++ List.replicate m (0 : Int) ≠ [] := by
        intro e
        have := congrArg List.length e
        rw [List.length_append, List.length_replicate, List.length_nil] at this
        omega
      have hbm : b.length + m = 64 := by omega
      rw [refB, if_neg hne, refB]
      have e : (b ++ List.replicate m (0 : Int)).drop 64 = [] := List.drop_eq_nil_of_le (by simp; omega)
      have e2 : (b ++ List.replicate m (0 : Int)).take 64 = b ++ List.replicate (64 - b.length) 0 := by
        rw [List.take_of_length_le (by simp; omega), show 64 - b.length = m by omega]
      have e3 : ((min (from_ + 64) (from_ + b.length) : Nat) : Int) = IntKind.u64.wrap ((from_ : Int) + IntKind.u64.wrap (b.length : Int)) := by
        show ((min (from_ + 64) (from_ + b.length) : Nat) : Int) = ((from_ : Int) + (b.length : Int) % 18446744073709551616) % 18446744073709551616
        omega
      have e4 : decide ((b ++ List.replicate m (0 : Int)).length ≤ 64) = true := decide_eq_true (by simp; omega)
      rw [e, if_pos rfl, e2, e3, e4]
/-- The digest, by the document's way. -/
theorem ref_digest (hs b : List Int) (m k : Nat) (h64 : (b.length + m) % 64 = 0) (hpos : 0 < b.length + m) (hm : m < 64 ∨ (b.length = 0 ∧ m = 64)) (hk : b.length ≤ 64 * k) (hlt : b.length < 18446744073709551616) :
    digest hs b = ⟨(outB (refB (k + 2) hs (b ++ List.replicate m 0) b.length 0)).toArray⟩ := by
  have h := refB_run b.length b hs 0 m k (Nat.le_refl _) h64 hpos (by omega) hk (by omega) b.length (Nat.le_refl _)
  rw [Nat.zero_add] at h
  unfold digest finish runF
  rw [h]
  rfl
end Go.Proofs.YtbeibmdccjgcmaaDoor.Rf5
