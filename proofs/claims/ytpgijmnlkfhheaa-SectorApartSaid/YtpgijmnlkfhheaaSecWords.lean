/- The tags' functions, in plain words (for the sectors' layer). -/
import Derived.Test.YtpgijmnlkfhheaaPb
import Derived.Test.YtpgijmnlkfhheaaPSecPx20
import Derived.Test.YtpgijmnlkfhheaaPSecPx1
import Derived.Test.YtpgijmnlkfhheaaPSecPx25
namespace Go.Proofs.Ytpgijmnlkfhheaa.Tw
open Go.RowKit Go.Proofs.YtpgijmnlkfhheaaW.PrintWords Go.Proofs.YtpgijmnlkfhheaaW.PrintLast Go.Proofs.YtpgijmnlkfhheaaW.PrintMore Go.Proofs.Ytpgijmnlkfhheaa.PSecP Go.Proofs.Ytpgijmnlkfhheaa.Pb
set_option linter.unusedVariables false
set_option linter.unusedSimpArgs false
/-- Two numbers in four bytes. -/
def fourL (v s : Int) : List Int := [v / 256 % 256, v % 256, s / 256 % 256, s % 256]
theorem fourL_by (v s : Int) : IsBytes (fourL v s) := by
  intro x hx
  simp [fourL] at hx
  omega
theorem numbers_two (k : Nat) (v s : Int) : tag_numbers.f (k + 3) [v, s] = some (strOfNums (fourL v s)) := by
  show tag_numbers.l0 (k + 3) [] [v, s] 2 0 = _
  have w0 : wrap64 1 = 1 := wrap_id (by decide) (by decide)
  have w1 : wrap64 2 = 2 := wrap_id (by decide) (by decide)
  simp [tag_numbers.l0, w0, w1, rd, fourL]
/-- What a text is. -/
def text (id : ByteArray) (v s : Int) (d : ByteArray) : ByteArray := id ++ strOfNums (fourL v s) ++ d
def Fit (id : ByteArray) (v s : Int) : Prop := id.size = 16 ∧ 0 ≤ v ∧ v ≤ 65535 ∧ 0 ≤ s ∧ s ≤ 65535
theorem text_size (id : ByteArray) (v s : Int) (d : ByteArray) (h : Fit id v s) : (text id v s d).size = 20 + d.size := by
  rw [text, ByteArray.size_append, ByteArray.size_append, size_nums, h.1]
  rfl
theorem text_ok (k : Nat) (id : ByteArray) (v s : Int) (d : ByteArray) (h : Fit id v s) (hd : d.size ≤ 100000) : tag_Text.f (k + 3) id v s d = some (text id v s d, 0) := by
  obtain ⟨h1, h2, h3, h4, h5⟩ := h
  unfold tag_Text.f
  refine ite_yes (by omega) (ite_no (by unfold mn; split <;> omega) (ite_no (by unfold mx; split <;> omega) (bind_eq (numbers_two k v s) (ite_yes ?_ (ite_yes ?_ rfl)))))
  · rw [size_nums, h1]; show 16 + 4 ≤ _; omega
  · rw [ByteArray.size_append, size_nums, h1]; show 16 + 4 + d.size ≤ _; omega
theorem text_no (k : Nat) (id : ByteArray) (v s : Int) (d : ByteArray) (h : ¬ Fit id v s) : tag_Text.f k id v s d = some (⟨#[]⟩, 1) := by
  unfold tag_Text.f
  by_cases h1 : (id.size : Int) = 16
  · refine ite_yes h1 ?_
    by_cases h2 : mn v s < 0
    · exact ite_yes h2 rfl
    · refine ite_no h2 ?_
      by_cases h3 : mx v s > 65535
      · exact ite_yes h3 rfl
      · refine absurd ⟨by omega, ?_, ?_, ?_, ?_⟩ h <;> (unfold mn at h2; unfold mx at h3; split at h2 <;> split at h3 <;> omega)
  · exact ite_no h1 rfl
theorem sum_f (s : ByteArray) (h : s.size ≤ 140737488351232) : blake_Sum.f s = some (Bk.blakeSum s) := by unfold blake_Sum.f; rw [if_pos h]
/-- What a tag is. -/
def tagOf (id : ByteArray) (v s : Int) (d : ByteArray) : ByteArray := (Bk.blakeSum (text id v s d)).extract 0 8
theorem tagOf_size (id : ByteArray) (v s : Int) (d : ByteArray) : (tagOf id v s d).size = 8 := by rw [tagOf, size_ext _ _ _ (by rw [Bk.blakeSum_size]; decide)]
theorem make_ok (k : Nat) (id : ByteArray) (v s : Int) (d : ByteArray) (h : Fit id v s) (hd : d.size ≤ 100000) : tag_Make.f (k + 3) id v s d = some (tagOf id v s d, 0) := by
  unfold tag_Make.f
  refine bind_eq (text_ok k id v s d h hd) (ite_yes rfl (bind_eq (sum_f _ (by rw [text_size id v s d h]; omega)) (ite_yes (by decide) (ite_yes ?_ rfl))))
  rw [Bk.blakeSum_size]
  decide
theorem make_no (k : Nat) (id : ByteArray) (v s : Int) (d : ByteArray) (h : ¬ Fit id v s) : tag_Make.f k id v s d = some (⟨#[]⟩, 1) := by
  unfold tag_Make.f
  exact bind_eq (text_no k id v s d h) (ite_no (by decide) rfl)
theorem isM_ok (k : Nat) (id : ByteArray) (v s : Int) (d x : ByteArray) (h : Fit id v s) (hd : d.size ≤ 100000) : tag_Is.f (k + 3) id v s d x = some ((tagOf id v s d).toList == x.toList) := by
  unfold tag_Is.f
  exact bind_eq (make_ok k id v s d h hd) (ite_yes rfl rfl)
theorem isM_no (k : Nat) (id : ByteArray) (v s : Int) (d x : ByteArray) (h : ¬ Fit id v s) : tag_Is.f k id v s d x = some false := by
  unfold tag_Is.f
  exact bind_eq (make_no k id v s d h) (ite_no (by decide) rfl)
end Go.Proofs.Ytpgijmnlkfhheaa.Tw
