/- HeadSize, with the plain laws of the headers' layer (HeadWords.tpl) ahead: one text, for a claim has at most 60 files. -/
import Derived.Test.YtapdnkmaklpoeaaPb
import Derived.Test.YtapdnkmaklpoeaaVq
import Derived.Test.YtapdnkmaklpoeaaPHeadx20
import Derived.Test.YtapdnkmaklpoeaaPHeadx30
import Derived.Test.YtapdnkmaklpoeaaPHeadx18
import Derived.Test.YtapdnkmaklpoeaaPHeadx33
import Derived.Test.YtapdnkmaklpoeaaPHeadx19
import Derived.Test.YtapdnkmaklpoeaaPHeadx34
namespace Go.Proofs.Ytapdnkmaklpoeaa.Hw
open Go.RowKit Go.Proofs.YtapdnkmaklpoeaaW.PrintWords Go.Proofs.YtapdnkmaklpoeaaW.PrintLast Go.Proofs.YtapdnkmaklpoeaaW.PrintMore Go.Proofs.Ytapdnkmaklpoeaa.PHead
open Go.Proofs.Ytapdnkmaklpoeaa.Vm (enc enc_lt enc_ge enc_pos enc_bytes enc_len9 put_f putR_ok get_f)
open Go.Proofs.Ytapdnkmaklpoeaa.Pb
set_option linter.unusedVariables false
set_option linter.unusedSimpArgs false
theorem sum_f (s : ByteArray) (h : s.size ≤ 140737488351232) : blake_Sum.f s = some (Bk.blakeSum s) := by unfold blake_Sum.f; rw [if_pos h]
theorem awake_yes : hamperlaw20_awake.f = some true := by unfold hamperlaw20_awake.f; rw [if_pos (by decide)]
/-- A header's bytes ahead of its sum, and all. -/
def front (kind : Int) (body : ByteArray) : ByteArray := strOfNums [kind] ++ strOfNums (enc body.size) ++ body
def made (kind : Int) (body : ByteArray) : ByteArray := front kind body ++ (Bk.blakeSum (front kind body)).extract 0 4
theorem sum4_size (s : ByteArray) : ((Bk.blakeSum s).extract 0 4).size = 4 := by rw [size_ext _ _ _ (by rw [Bk.blakeSum_size]; decide)]
theorem front_size (kind : Int) (body : ByteArray) : (front kind body).size = 1 + (enc body.size).length + body.size := by
  rw [front, ByteArray.size_append, ByteArray.size_append, size_nums, size_nums]
  rfl
theorem made_size (kind : Int) (body : ByteArray) : (made kind body).size = 5 + (enc body.size).length + body.size := by
  rw [made, ByteArray.size_append, front_size, sum4_size]
  omega
/-- Headers that may be. -/
def Fit (kind : Int) (body : ByteArray) : Prop := 1 ≤ kind ∧ kind ≤ 9 ∧ body.size ≤ 1048576
theorem make_ok (k : Nat) (hk : 21 ≤ k) (kind : Int) (body : ByteArray) (h : Fit kind body) : head_Make.f k kind body = some (made kind body, 0) := by
  obtain ⟨k, rfl⟩ : ∃ q, k = q + 1 := ⟨k - 1, by omega⟩
  obtain ⟨h1, h9, hb⟩ := h
  have he : (enc body.size).length ≤ 9 := enc_len9 (by omega)
  have hf := front_size kind body
  have hj : head_Make.j0 (k + 1) false kind body = some (made kind body, 0) := by
    simp only [head_Make.j0]
    refine ite_no (by decide) (ite_no (by omega) (bind_eq ((put_f _ k (by omega)).trans (congrArg some (putR_ok (by omega)))) (ite_yes rfl (bind_eq rfl (ite_yes ?_ (ite_yes ?_ (bind_eq (sum_f _ ?_) (ite_yes (by decide) (ite_yes ?_ (ite_yes ?_ rfl)))))))))) 
    · rw [size_nums, size_nums]; show 1 + _ ≤ _; omega
    · rw [ByteArray.size_append, size_nums, size_nums]; show 1 + _ + _ ≤ _; omega
    · show (front kind body).size ≤ _; omega
    · rw [Bk.blakeSum_size]; decide
    · show (front kind body).size + ((Bk.blakeSum (front kind body)).extract 0 4).size ≤ _; rw [sum4_size]; omega
  unfold head_Make.f
  refine ite_no (by omega) ?_
  rw [decide_eq_false (by omega)]
  exact hj
theorem make_kind (k : Nat) (kind : Int) (body : ByteArray) (h : ¬ (1 ≤ kind ∧ kind ≤ 9)) : head_Make.f (k + 1) kind body = some (⟨#[]⟩, 1) := by
  have hj : head_Make.j0 (k + 1) true kind body = some (⟨#[]⟩, 1) := by simp only [head_Make.j0]; exact ite_yes trivial rfl
  unfold head_Make.f
  by_cases h1 : kind < 1
  · exact ite_yes h1 hj
  · refine ite_no h1 ?_
    rw [decide_eq_true (show kind > 9 by omega)]
    exact hj
theorem make_long (k : Nat) (kind : Int) (body : ByteArray) (h : 1 ≤ kind ∧ kind ≤ 9) (hb : ¬ body.size ≤ 1048576) : head_Make.f (k + 1) kind body = some (⟨#[]⟩, 40) := by
  unfold head_Make.f
  refine ite_no (by omega) ?_
  rw [decide_eq_false (by omega)]
  simp only [head_Make.j0]
  exact ite_no (by decide) (ite_yes (by omega) rfl)
end Go.Proofs.Ytapdnkmaklpoeaa.Hw
namespace Go.Proofs.Ytapdnkmaklpoeaa.Hw
open Go.RowKit Go.Proofs.YtapdnkmaklpoeaaW.PrintWords Go.Proofs.YtapdnkmaklpoeaaW.PrintLast Go.Proofs.YtapdnkmaklpoeaaW.PrintMore Go.Proofs.Ytapdnkmaklpoeaa.PHead
open Go.Proofs.Ytapdnkmaklpoeaa.Vm (enc enc_lt enc_ge enc_pos enc_bytes enc_len9 put_f putR_ok get_f)
open Go.Proofs.Ytapdnkmaklpoeaa.Pb
set_option linter.unusedVariables false
set_option linter.unusedSimpArgs false
theorem ext_mid (a b c : ByteArray) : (a ++ b ++ c).extract a.size (a.size + b.size) = b := by
  refine bytesOf_inj ?_
  rw [bytesOf_extract, bytesOf_append, bytesOf_append]
  have ha : (bytesOf a).length = a.size := bytesOf_length a
  have hb : (bytesOf b).length = b.size := bytesOf_length b
  rw [List.take_append_of_le_length (by rw [List.length_append, ha, hb]; omega), List.take_of_length_le (by rw [List.length_append, ha, hb]; omega), List.drop_append_of_le_length (by omega), List.drop_of_length_le (by omega), List.nil_append]
theorem made_first (kind : Int) (body : ByteArray) (h : Fit kind body) : bt (made kind body) 0 = kind := by
  have hk : IsBytes [kind] := by intro x hx; simp at hx; subst hx; have := h.1; have := h.2.1; omega
  have e : bytesOf (made kind body) = kind :: (bytesOf (strOfNums (enc body.size)) ++ bytesOf body ++ bytesOf ((Bk.blakeSum (front kind body)).extract 0 4)) := by
    rw [made, front, bytesOf_append, bytesOf_append, bytesOf_append, bytesOf_str hk]
    simp
  have h2 := bt_bytesOf (made kind body) 0 (by rw [e]; simp)
  rw [show ((0 : Nat) : Int) = 0 from rfl] at h2
  rw [h2]
  simp only [e, List.getElem_cons_zero]
theorem made_body (kind : Int) (body : ByteArray) : (made kind body).extract (1 + (enc body.size).length) (1 + (enc body.size).length + body.size) = body := by
  have h := ext_mid (strOfNums [kind] ++ strOfNums (enc body.size)) body ((Bk.blakeSum (front kind body)).extract 0 4)
  rw [ByteArray.size_append, size_nums, size_nums] at h
  exact h
theorem hs_l0 (kind : Int) (body : ByteArray) (hf : Fit kind body) (j : Nat) : ∀ (k m x : Nat), m < 128 ^ (j + 1) → m < 9223372036854775808 → j < k → x + (enc m).length = 6 + (enc body.size).length → 0 < x → hamperlaw20_HeadSize.l0 k (made kind body) (x : Int) (m : Int) kind body = some true := by
  have he : (enc body.size).length ≤ 9 := enc_len9 (by have := hf.2.2; omega)
  have hb := hf.2.2
  have hs := made_size kind body
  induction j with
  | zero =>
    intro k m x hm h63 hk hx hx0
    obtain ⟨k, rfl⟩ : ∃ q, k = q + 1 := ⟨k - 1, by omega⟩
    have hm' : m < 128 := by simpa using hm
    rw [enc_lt hm'] at hx
    have hx' : x = 5 + (enc body.size).length := by simp at hx; omega
    subst hx'
    have hp := enc_pos body.size
    have w1 : wrap64 (((5 + (enc body.size).length : Nat) : Int) + (body.size : Int)) = ((5 + (enc body.size).length + body.size : Nat) : Int) := by rw [wrap_id (by omega) (by omega)]; omega
    have w2 : wrap64 (((5 + (enc body.size).length : Nat) : Int) - 4) = ((1 + (enc body.size).length : Nat) : Int) := by rw [wrap_id (by omega) (by omega)]; omega
    have w3 : wrap64 (((1 + (enc body.size).length : Nat) : Int) + (body.size : Int)) = ((1 + (enc body.size).length + body.size : Nat) : Int) := by rw [wrap_id (by omega) (by omega)]; omega
    simp only [hamperlaw20_HeadSize.l0]
    rw [w1, w2, w3]
    refine ite_no (by omega) (ite_yes (by omega) (ite_yes (by omega) (ite_yes (made_first kind body hf) (ite_yes (by omega) (ite_yes (by omega) (ite_yes (by omega) ?_))))))
    show some (((made kind body).extract (1 + (enc body.size).length) (1 + (enc body.size).length + body.size)).toList == body.toList) = some true
    rw [made_body, tl_beq]
    simp
  | succ j ih =>
    intro k m x hm h63 hk hx hx0
    obtain ⟨k, rfl⟩ : ∃ q, k = q + 1 := ⟨k - 1, by omega⟩
    by_cases h1 : m < 128
    · exact ih (k + 1) m x (by rw [Nat.pow_succ] at hm ⊢; have : 128 ≤ 128 ^ (j + 1) := Nat.le_self_pow (by omega) 128; omega) h63 (by omega) hx hx0
    · have e1 : wrap64 ((x : Int) + 1) = ((x + 1 : Nat) : Int) := by
        have := enc_pos m
        rw [wrap_id (by omega) (by omega)]; omega
      have e2 : wrap64 (Int.tdiv (m : Int) 128) = ((m / 128 : Nat) : Int) := by
        rw [Int.tdiv_eq_ediv_of_nonneg (by omega), wrap_id (by omega) (by omega)]; omega
      simp only [hamperlaw20_HeadSize.l0]
      refine ite_yes (by omega) ?_
      rw [e1, e2]
      rw [enc_ge h1] at hx
      exact ih k (m / 128) (x + 1) (by rw [Nat.pow_succ] at hm; omega) (by omega) (by omega) (by simp at hx; omega) (by omega)
theorem HeadSize (kind : Int) (body : ByteArray) : hamperlaw20_HeadSize.f 40 kind body = some true := by
  have hj : ∀ b, b = true → hamperlaw20_HeadSize.j0 40 b kind body = some true := by
    intro b hb
    subst hb
    simp only [hamperlaw20_HeadSize.j0]
    exact ite_yes trivial (bind_eq awake_yes rfl)
  unfold hamperlaw20_HeadSize.f
  by_cases h1 : (body.size : Int) > 70000
  · exact ite_yes h1 (hj true rfl)
  · refine ite_no h1 (bind_eq awake_yes ?_)
    show hamperlaw20_HeadSize.j0 40 false kind body = some true
    simp only [hamperlaw20_HeadSize.j0]
    refine ite_no (by decide) ?_
    by_cases hf : Fit kind body
    · refine bind_eq (make_ok 39 (by omega) kind body hf) (ite_yes rfl ?_)
      exact hs_l0 kind body hf 8 39 body.size 6 (by omega) (by omega) (by omega) (by omega) (by omega)
    · have hk : ¬ (1 ≤ kind ∧ kind ≤ 9) := fun ⟨a, b⟩ => hf ⟨a, b, by omega⟩
      refine bind_eq (make_kind 38 kind body hk) (ite_no (by decide) ?_)
      show some ((⟨#[]⟩ : ByteArray).toList == ([] : List UInt8)) = some true
      rw [(tl_nil _).mpr rfl]
      rfl
theorem HeadSize_walk (kind : Int) (body : ByteArray) (w : World) (_ : (Lit.int .u8 kind).wf = true) (_ : body.size ≤ maxLen) : Calls Try.prog 8 #[.agg #[.int .u8 kind, .string body]] w fun e w' => e = .returned (.bool true) ∧ Below w.heap.size w w' :=
  hamperlaw20_HeadSize.calls 40 kind body true w (HeadSize ..)
end Go.Proofs.Ytapdnkmaklpoeaa.Hw
