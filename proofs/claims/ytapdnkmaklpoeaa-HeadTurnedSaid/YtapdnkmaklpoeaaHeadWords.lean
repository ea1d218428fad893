/- The plain laws of the headers' layer: what its functions tell. -/
import Derived.Test.YtapdnkmaklpoeaaPb
import Derived.Test.YtapdnkmaklpoeaaVq
import Derived.Test.YtapdnkmaklpoeaaPHeadx20
import Derived.Test.YtapdnkmaklpoeaaPHeadx30
import Derived.Test.YtapdnkmaklpoeaaPHeadx18
import Derived.Test.YtapdnkmaklpoeaaPHeadx33
import Derived.Test.YtapdnkmaklpoeaaPHeadx19
namespace Go.Proofs.Ytapdnkmaklpoeaa.Hw
open Go.RowKit Go.Proofs.YtapdnkmaklpoeaaW.PrintWords Go.Proofs.YtapdnkmaklpoeaaW.PrintLast Go.Proofs.YtapdnkmaklpoeaaW.PrintMore Go.Proofs.Ytapdnkmaklpoeaa.PHead
open Go.Proofs.Ytapdnkmaklpoeaa.Vm (enc enc_lt enc_ge enc_pos enc_bytes enc_len9 put_f putR_ok get_f)
open Go.Proofs.Ytapdnkmaklpoeaa.Pb
set_option linter.unusedVariables false
set_option linter.unusedSimpArgs false
theorem sum_f (s : ByteArray) (h : s.size ≤ 140737488351232) : blake_Sum.f s = some (Bk.blakeSum s) := by unfold blake_Sum.f; rw [if_pos h]
theorem awake_yes : hamperlaw20_awake.f = some true := by unfold hamperlaw20_awake.f; rw [if_pos (by decide)]
/-- A header's bytes ahead of its sum, and all. -/
def front (kind : Int) (body : ByteArray) : ByteArray := strOfNums [kind] ++ strOfNums (enc body.size) ++ body
def made (kind : Int) (body : ByteArray) : ByteArray := front kind body ++ (Bk.blakeSum (front kind body)).extract 0 4
theorem sum4_size (s : ByteArray) : ((Bk.blakeSum s).extract 0 4).size = 4 := by rw [size_ext _ _ _ (by rw [Bk.blakeSum_size]; decide)]
theorem front_size (kind : Int) (body : ByteArray) : (front kind body).size = 1 + (enc body.size).length + body.size := by
  rw [front, ByteArray.size_append, ByteArray.size_append, size_nums, size_nums]
  rfl
theorem made_size (kind : Int) (body : ByteArray) : (made kind body).size = 5 + (enc body.size).length + body.size := by
  rw [made, ByteArray.size_append, front_size, sum4_size]
  omega
/-- Headers that may be. -/
def Fit (kind : Int) (body : ByteArray) : Prop := 1 ≤ kind ∧ kind ≤ 9 ∧ body.size ≤ 1048576
theorem make_ok (k : Nat) (hk : 21 ≤ k) (kind : Int) (body : ByteArray) (h : Fit kind body) : head_Make.f k kind body = some (made kind body, 0) := by
  obtain ⟨k, rfl⟩ : ∃ q, k = q + 1 := ⟨k - 1, by omega⟩
  obtain ⟨h1, h9, hb⟩ := h
  have he : (enc body.size).length ≤ 9 := enc_len9 (by omega)
  have hf := front_size kind body
  have hj : head_Make.j0 (k + 1) false kind body = some (made kind body, 0) := by
    simp only [head_Make.j0]
    refine ite_no (by decide) (ite_no (by omega) (bind_eq ((put_f _ k (by omega)).trans (congrArg some (putR_ok (by omega)))) (ite_yes rfl (bind_eq rfl (ite_yes ?_ (ite_yes ?_ (bind_eq (sum_f _ ?_) (ite_yes (by decide) (ite_yes ?_ (ite_yes ?_ rfl)))))))))) 
    · rw [size_nums, size_nums]; show 1 + _ ≤ _; omega
    · rw [ByteArray.size_append, size_nums, size_nums]; show 1 + _ + _ ≤ _; omega
    · show (front kind body).size ≤ _; omega
    · rw [Bk.blakeSum_size]; decide
    · show (front kind body).size + ((Bk.blakeSum (front kind body)).extract 0 4).size ≤ _; rw [sum4_size]; omega
  unfold head_Make.f
  refine ite_no (by omega) ?_
  rw [decide_eq_false (by omega)]
  exact hj
theorem make_kind (k : Nat) (kind : Int) (body : ByteArray) (h : ¬ (1 ≤ kind ∧ kind ≤ 9)) : head_Make.f (k + 1) kind body = some (⟨#[]⟩, 1) := by
  have hj : head_Make.j0 (k + 1) true kind body = some (⟨#[]⟩, 1) := by simp only [head_Make.j0]; exact ite_yes trivial rfl
  unfold head_Make.f
  by_cases h1 : kind < 1
  · exact ite_yes h1 hj
  · refine ite_no h1 ?_
    rw [decide_eq_true (show kind > 9 by omega)]
    exact hj
theorem make_long (k : Nat) (kind : Int) (body : ByteArray) (h : 1 ≤ kind ∧ kind ≤ 9) (hb : ¬ body.size ≤ 1048576) : head_Make.f (k + 1) kind body = some (⟨#[]⟩, 40) := by
  unfold head_Make.f
  refine ite_no (by omega) ?_
  rw [decide_eq_false (by omega)]
  simp only [head_Make.j0]
  exact ite_no (by decide) (ite_yes (by omega) rfl)
end Go.Proofs.Ytapdnkmaklpoeaa.Hw
