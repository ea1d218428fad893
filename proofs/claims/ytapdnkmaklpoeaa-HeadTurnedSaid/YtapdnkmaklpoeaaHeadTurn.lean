/- A header's bytes with another byte in one place. -/
import Derived.Test.YtapdnkmaklpoeaaHeadAll
namespace Go.Proofs.Ytapdnkmaklpoeaa.Hw
open Go.RowKit Go.Proofs.YtapdnkmaklpoeaaW.PrintWords Go.Proofs.YtapdnkmaklpoeaaW.PrintLast Go.Proofs.YtapdnkmaklpoeaaW.PrintMore Go.Proofs.Ytapdnkmaklpoeaa.PHead
open Go.Proofs.Ytapdnkmaklpoeaa.Vm (enc enc_bytes enc_prefix enc_len9)
open Go.Proofs.Ytapdnkmaklpoeaa.Pb
set_option linter.unusedVariables false
set_option linter.unusedSimpArgs false
attribute [local irreducible] made front Bk.blakeSum
theorem front_head {k1 k2 : Int} {b1 b2 : ByteArray} {r1 r2 : List Int} (h1 : 1 ≤ k1 ∧ k1 ≤ 9) (h2 : 1 ≤ k2 ∧ k2 ≤ 9) (e : bytesOf (front k1 b1) ++ r1 = bytesOf (front k2 b2) ++ r2) : k1 = k2 ∧ b1 = b2 ∧ r1 = r2 := by
  rw [front_bytes k1 b1 h1, front_bytes k2 b2 h2] at e
  have e0 : k1 :: (enc b1.size ++ (bytesOf b1 ++ r1)) = k2 :: (enc b2.size ++ (bytesOf b2 ++ r2)) := by simpa [List.append_assoc] using e
  have e1 : k1 = k2 := (List.cons.inj e0).1
  have e2 := (List.cons.inj e0).2
  have e3 := enc_prefix e2
  rw [e3] at e2
  have e4 := List.append_cancel_left e2
  obtain ⟨e5, e6⟩ := List.append_inj e4 (by rw [bytesOf_length, bytesOf_length, e3])
  exact ⟨e1, bytesOf_inj e5, e6⟩
/-- The last four bytes. -/
def sum4 (F : ByteArray) : ByteArray := (Bk.blakeSum F).extract 0 4
theorem made_bytes (kind : Int) (body : ByteArray) : bytesOf (made kind body) = bytesOf (front kind body) ++ bytesOf (sum4 (front kind body)) := by
  unfold made sum4
  rw [bytesOf_append]
theorem sum4_len (F : ByteArray) : (bytesOf (sum4 F)).length = 4 := by unfold sum4; rw [bytesOf_length, sum4_size]
theorem made_end (kind : Int) (body : ByteArray) : (made kind body).size = (front kind body).size + 4 := by
  have := congrArg List.length (made_bytes kind body)
  rw [bytesOf_length, List.length_append, bytesOf_length, sum4_len] at this
  exact this
/-- What a byte turned may leave. -/
theorem turned (kind : Int) (body : ByteArray) (hf : Fit kind body) (hb : body.size ≤ 500) (k : Nat) (hk : k < (made kind body).size) (y : Int) (hy : 0 ≤ y ∧ y ≤ 255) (hne : (bytesOf (made kind body)).getD k 0 ≠ y) (t : ByteArray) (ht : bytesOf t = (bytesOf (made kind body)).set k y) :
    (∀ n, 20 ≤ n → head_Get.f n t = some (0, ⟨#[]⟩, 0, 4)) ∨
    ∃ kind' body' rest, Fit kind' body' ∧ t = made kind' body' ++ rest ∧ k < (front kind body).size ∧ ¬ (kind' = kind ∧ body' = body) ∧
      ((made kind' body').size < (made kind body).size ∨ (t.extract 0 (front kind body).size = front kind' body' ∧ sum4 (front kind' body') = sum4 (front kind body))) := by
  have hlen : (bytesOf (made kind body)).length = (made kind body).size := bytesOf_length _
  have hts : t.size = (made kind body).size := by rw [← bytesOf_length, ht, List.length_set, hlen]
  have hms := made_size kind body
  have he := enc_len9 (n := body.size) (by omega)
  have hkk : 1 ≤ kind ∧ kind ≤ 9 := ⟨hf.1, hf.2.1⟩
  have hfe := made_end kind body
  have hbm := made_bytes kind body
  have hs4 := sum4_len (front kind body)
  have hfl : (bytesOf (front kind body)).length = (front kind body).size := bytesOf_length _
  have hne2 : (bytesOf (made kind body)).set k y ≠ bytesOf (made kind body) := by
    intro e
    have h1 : ((bytesOf (made kind body)).set k y)[k]? = some y := List.getElem?_set_self (by omega)
    rw [e] at h1
    rw [List.getD_eq_getElem?_getD, h1] at hne
    exact hne rfl
  rcases get_cases t (by omega) with ⟨kind', body', rest, hf', e⟩ | hno
  · refine .inr ⟨kind', body', rest, hf', e, ?_⟩
    have hkk' : 1 ≤ kind' ∧ kind' ≤ 9 := ⟨hf'.1, hf'.2.1⟩
    have hbm' := made_bytes kind' body'
    have hs4' := sum4_len (front kind' body')
    have hfe' := made_end kind' body'
    have hbt : (bytesOf (made kind body)).set k y = bytesOf (front kind' body') ++ (bytesOf (sum4 (front kind' body')) ++ bytesOf rest) := by
      rw [← ht, e, bytesOf_append, hbm', List.append_assoc]
    have hss : (made kind body).size = (made kind' body').size + rest.size := by rw [← hts, e, ByteArray.size_append]
    have hkf : k < (front kind body).size := by
      rcases Nat.lt_or_ge k (front kind body).size with h | h
      · exact h
      · exfalso
        rw [hbm, List.set_append_right _ _ (by omega)] at hbt
        obtain ⟨e1, e2, e3⟩ := front_head hkk hkk' hbt
        subst e1 e2
        have hl := congrArg List.length e3
        rw [List.length_set, List.length_append, hs4, bytesOf_length] at hl
        have hr : bytesOf rest = [] := List.length_eq_zero_iff.mp (by rw [bytesOf_length]; omega)
        rw [hr, List.append_nil] at e3
        apply hne2
        rw [hbm, List.set_append_right _ _ (by omega), e3]
    refine ⟨hkf, ?_, ?_⟩
    · rintro ⟨rfl, rfl⟩
      have hr : rest.size = 0 := by omega
      rw [size_zero hr, app_nil] at e
      rw [e] at ht
      exact hne2 ht.symm
    · rcases Nat.lt_or_ge (made kind' body').size (made kind body).size with h | h
      · exact .inl h
      · refine .inr ?_
        have hr : rest.size = 0 := by omega
        rw [size_zero hr, app_nil] at e
        have hff : (front kind' body').size = (front kind body).size := by omega
        rw [size_zero hr] at hbt
        have hn : bytesOf (⟨#[]⟩ : ByteArray) = [] := rfl
        rw [hn, List.append_nil, hbm, List.set_append_left _ _ (by omega)] at hbt
        obtain ⟨_, e2⟩ := List.append_inj hbt (by rw [List.length_set, hfl, bytesOf_length, hff])
        refine ⟨?_, (bytesOf_inj e2).symm⟩
        rw [e, ← hff]
        unfold made
        exact ext_app_left _ _
  · exact .inl hno
theorem cut_at (x : Int) (n : Nat) (hn : 0 < n) (hb : n ≤ 1000000) : IntKind.u64.wrap (n : Int) ≠ 0 ∧ ∃ q : Nat, q < n ∧ wrap64 (Int.tmod (IntKind.u64.wrap x) (IntKind.u64.wrap (n : Int))) = (q : Int) := by
  have h1 : IntKind.u64.wrap (n : Int) = (n : Int) := by
    show (n : Int) % 18446744073709551616 = _
    omega
  have h2 : IntKind.u64.wrap x = x % 18446744073709551616 := rfl
  rw [h1, h2]
  refine ⟨by omega, ?_⟩
  have h3 : (0 : Int) ≤ x % 18446744073709551616 := Int.emod_nonneg _ (by decide)
  generalize x % 18446744073709551616 = y at h3
  rw [Int.tmod_eq_emod_of_nonneg h3]
  have h4 := Int.emod_nonneg y (show (n : Int) ≠ 0 by omega)
  have h5 := Int.emod_lt_of_pos y (show (0 : Int) < (n : Int) by omega)
  exact ⟨(y % (n : Int)).toNat, by omega, by rw [wrap_id (by omega) (by omega)]; omega⟩
end Go.Proofs.Ytapdnkmaklpoeaa.Hw
