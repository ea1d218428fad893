/- What head.Get tells. -/
import Derived.Test.YtapdnkmaklpoeaaPb
import Derived.Test.YtapdnkmaklpoeaaVq
import Derived.Test.YtapdnkmaklpoeaaPTellx19
import Derived.Test.YtapdnkmaklpoeaaPTellx34
namespace Go.Proofs.Ytapdnkmaklpoeaa.Hw
open Go.RowKit Go.Proofs.YtapdnkmaklpoeaaW.PrintWords Go.Proofs.YtapdnkmaklpoeaaW.PrintLast Go.Proofs.YtapdnkmaklpoeaaW.PrintMore Go.Proofs.Ytapdnkmaklpoeaa.PTell
open Go.Proofs.Ytapdnkmaklpoeaa.Vm (enc enc_lt enc_ge enc_pos enc_bytes enc_len9 put_f putR_ok get_f)
open Go.Proofs.Ytapdnkmaklpoeaa.Pb
set_option linter.unusedVariables false
set_option linter.unusedSimpArgs false
theorem sum_f (s : ByteArray) (h : s.size ≤ 140737488351232) : blake_Sum.f s = some (Bk.blakeSum s) := by unfold blake_Sum.f; rw [if_pos h]
theorem awake_yes : hamperlaw20_awake.f = some true := by unfold hamperlaw20_awake.f; rw [if_pos (by decide)]
/-- A header's bytes ahead of its sum, and all. -/
def front (kind : Int) (body : ByteArray) : ByteArray := strOfNums [kind] ++ strOfNums (enc body.size) ++ body
def made (kind : Int) (body : ByteArray) : ByteArray := front kind body ++ (Bk.blakeSum (front kind body)).extract 0 4
theorem sum4_size (s : ByteArray) : ((Bk.blakeSum s).extract 0 4).size = 4 := by rw [size_ext _ _ _ (by rw [Bk.blakeSum_size]; decide)]
theorem front_size (kind : Int) (body : ByteArray) : (front kind body).size = 1 + (enc body.size).length + body.size := by
  rw [front, ByteArray.size_append, ByteArray.size_append, size_nums, size_nums]
  rfl
theorem made_size (kind : Int) (body : ByteArray) : (made kind body).size = 5 + (enc body.size).length + body.size := by
  rw [made, ByteArray.size_append, front_size, sum4_size]
  omega
/-- Headers that may be. -/
def Fit (kind : Int) (body : ByteArray) : Prop := 1 ≤ kind ∧ kind ≤ 9 ∧ body.size ≤ 1048576
theorem make_ok (k : Nat) (hk : 21 ≤ k) (kind : Int) (body : ByteArray) (h : Fit kind body) : head_Make.f k kind body = some (made kind body, 0) := by
  obtain ⟨k, rfl⟩ : ∃ q, k = q + 1 := ⟨k - 1, by omega⟩
  obtain ⟨h1, h9, hb⟩ := h
  have he : (enc body.size).length ≤ 9 := enc_len9 (by omega)
  have hf := front_size kind body
  have hj : head_Make.j0 (k + 1) false kind body = some (made kind body, 0) := by
    simp only [head_Make.j0]
    refine ite_no (by decide) (ite_no (by omega) (bind_eq ((put_f _ k (by omega)).trans (congrArg some (putR_ok (by omega)))) (ite_yes rfl (bind_eq rfl (ite_yes ?_ (ite_yes ?_ (bind_eq (sum_f _ ?_) (ite_yes (by decide) (ite_yes ?_ (ite_yes ?_ rfl)))))))))) 
    · rw [size_nums, size_nums]; show 1 + _ ≤ _; omega
    · rw [ByteArray.size_append, size_nums, size_nums]; show 1 + _ + _ ≤ _; omega
    · show (front kind body).size ≤ _; omega
    · rw [Bk.blakeSum_size]; decide
    · show (front kind body).size + ((Bk.blakeSum (front kind body)).extract 0 4).size ≤ _; rw [sum4_size]; omega
  unfold head_Make.f
  refine ite_no (by omega) ?_
  rw [decide_eq_false (by omega)]
  exact hj
theorem make_kind (k : Nat) (kind : Int) (body : ByteArray) (h : ¬ (1 ≤ kind ∧ kind ≤ 9)) : head_Make.f (k + 1) kind body = some (⟨#[]⟩, 1) := by
  have hj : head_Make.j0 (k + 1) true kind body = some (⟨#[]⟩, 1) := by simp only [head_Make.j0]; exact ite_yes trivial rfl
  unfold head_Make.f
  by_cases h1 : kind < 1
  · exact ite_yes h1 hj
  · refine ite_no h1 ?_
    rw [decide_eq_true (show kind > 9 by omega)]
    exact hj
end Go.Proofs.Ytapdnkmaklpoeaa.Hw
namespace Go.Proofs.Ytapdnkmaklpoeaa.Hw
open Go.RowKit Go.Proofs.YtapdnkmaklpoeaaW.PrintWords Go.Proofs.YtapdnkmaklpoeaaW.PrintLast Go.Proofs.YtapdnkmaklpoeaaW.PrintMore Go.Proofs.Ytapdnkmaklpoeaa.PTell
open Go.Proofs.Ytapdnkmaklpoeaa.Vm (enc enc_lt enc_ge enc_pos enc_bytes enc_len9 put_f putR_ok get_f getR getR_cases number_f number_no long_f text_rest left_f good_f)
open Go.Proofs.Ytapdnkmaklpoeaa.Pb
set_option linter.unusedVariables false
set_option linter.unusedSimpArgs false
theorem kind_bytes {kind : Int} (h : 1 ≤ kind ∧ kind ≤ 9) : IsBytes [kind] := by intro x hx; simp at hx; subst hx; omega
theorem front_bytes (kind : Int) (body : ByteArray) (h : 1 ≤ kind ∧ kind ≤ 9) : bytesOf (front kind body) = [kind] ++ (enc body.size ++ bytesOf body) := by
  rw [front, bytesOf_append, bytesOf_append, bytesOf_str (kind_bytes h), bytesOf_str (enc_bytes _), List.append_assoc]
attribute [local irreducible] made front Bk.blakeSum
theorem not_big {n : Nat} (h : n ≤ 1048576) : ¬ (n : Int) > 1048576 := by omega
theorem get_made (k : Nat) (hk : 20 ≤ k) (kind : Int) (body rest : ByteArray) (hf : Fit kind body) (hsz : (made kind body ++ rest).size ≤ 140737488351232) :
    head_Get.f k (made kind body ++ rest) = some (kind, body, ((made kind body).size : Int), 0) := by
  have hkk : 1 ≤ kind ∧ kind ≤ 9 := ⟨hf.1, hf.2.1⟩
  have hb := hf.2.2
  have he : (enc body.size).length ≤ 9 := enc_len9 (by omega)
  have hms := made_size kind body
  have hfs := front_size kind body
  generalize hS : made kind body ++ rest = S at hsz ⊢
  have hss : S.size = (made kind body).size + rest.size := by rw [← hS, ByteArray.size_append]
  have hfS : (front kind body).size ≤ S.size := by omega
  have hfl : (front kind body).size ≤ 140737488351232 := by omega
  have e0 : bytesOf S = [kind] ++ (enc body.size ++ (bytesOf body ++ (bytesOf ((Bk.blakeSum (front kind body)).extract 0 4) ++ bytesOf rest))) := by
    rw [← hS, made, bytesOf_append, bytesOf_append, front_bytes kind body hkk]
    simp only [List.append_assoc]
  obtain ⟨t, s1, ht, ht1, hs1⟩ := text_rest S _ _ e0
  obtain ⟨s2, hl, hs2⟩ := long_f s1 body (by omega) _ hs1 k hk
  obtain ⟨u, s3, hu, hu1, hs3⟩ := text_rest s2 _ _ hs2
  have hu4 : (bytesOf ((Bk.blakeSum (front kind body)).extract 0 4)).length = 4 := by rw [bytesOf_length, sum4_size]
  rw [hu4] at hu
  have hz2 : s2.size = 4 + rest.size := by
    have := congrArg List.length hs2
    rw [bytesOf_length, List.length_append, hu4, bytesOf_length] at this
    exact this
  have hn : wrap64 ((S.size : Int) - (s2.size : Int)) = ((front kind body).size : Int) := by rw [wrap_id (by omega) (by omega)]; omega
  have hn4 : wrap64 (((front kind body).size : Int) + 4) = ((made kind body).size : Int) := by rw [wrap_id (by omega) (by omega)]; omega
  have hx : S.extract 0 (front kind body).size = front kind body := by
    rw [← hS, made, app_assoc]
    exact ext_app_left _ _
  have htz : t.size = 1 := by
    have := congrArg List.length ht1
    rw [bytesOf_length] at this
    exact this
  have htb : bt t 0 = kind := by
    have h2 := bt_bytesOf t 0 (by rw [ht1]; simp)
    rw [show ((0 : Nat) : Int) = 0 from rfl] at h2
    rw [h2]
    simp only [ht1, List.getElem_cons_zero]
  have hue : u = (Bk.blakeSum (front kind body)).extract 0 4 := bytesOf_inj hu1
  have hcut : S.extract 0 (wrap64 ((S.size : Int) - (s2.size : Int))).toNat = front kind body := by rw [hn, Int.toNat_natCast, hx]
  have q1 : 0 < (t.size : Int) := by rw [htz]; decide
  have q2 : ¬ bt t 0 < 1 := by rw [htb]; exact Int.not_lt.mpr hf.1
  have q3 : ¬ bt t 0 > 9 := by rw [htb]; exact Int.not_lt.mpr hf.2.1
  have q4 := not_big hb
  have q5 : 0 ≤ wrap64 ((S.size : Int) - (s2.size : Int)) := by rw [hn]; exact Int.natCast_nonneg _
  have q6 : wrap64 ((S.size : Int) - (s2.size : Int)) ≤ (S.size : Int) := by rw [hn]; exact Int.ofNat_le.mpr hfS
  have q7 : blake_Sum.f (S.extract 0 (wrap64 ((S.size : Int) - (s2.size : Int))).toNat) = some (Bk.blakeSum (front kind body)) := by rw [hcut]; exact sum_f _ hfl
  have q8 : (4 : Int) ≤ ((Bk.blakeSum (front kind body)).size : Int) := by rw [Bk.blakeSum_size]; decide
  have q9 : ((Bk.blakeSum (front kind body)).extract 0 4).toList = u.toList := tl_iff.mpr hue.symm
  have q10 : wrap64 (wrap64 ((S.size : Int) - (s2.size : Int)) + 4) = ((made kind body).size : Int) := by rw [hn, hn4]
  generalize Bk.blakeSum (front kind body) = d at *
  generalize ((made kind body).size : Int) = z at *
  have hL := left_f s2
  have hG := good_f s3 false
  clear hn hn4 hx hcut hu4 hz2 hss e0 hS hms hfs he hs1 hs2 hs3 ht1 hu1 htz hsz
  unfold head_Get.f
  refine bind_eq rfl (bind_eq ht (bind_eq hl (bind_eq hL (bind_eq hu (bind_eq hG (ite_yes rfl ?_))))))
  refine ite_yes q1 (ite_no q2 (ite_no q3 (ite_no q4 (ite_yes q5 (ite_yes q6 (bind_eq q7 (ite_yes (by decide) (ite_yes q8 (ite_yes q9 ?_)))))))))
  rw [← htb, ← q10]
end Go.Proofs.Ytapdnkmaklpoeaa.Hw
