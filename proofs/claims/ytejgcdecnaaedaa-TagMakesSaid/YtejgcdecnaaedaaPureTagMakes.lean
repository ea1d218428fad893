/- The tag of anything, its text, and whether any text is its tag, are the document's, or it is refused: for all parts and texts that the statement takes in. -/
import Derived.Test.YtejgcdecnaaedaaTagWords
import Derived.Test.YtejgcdecnaaedaaPMakex33
namespace Go.Proofs.Ytejgcdecnaaedaa.Tw
open Go.RowKit Go.Proofs.YtejgcdecnaaedaaW.PrintWords Go.Proofs.YtejgcdecnaaedaaW.PrintLast Go.Proofs.YtejgcdecnaaedaaW.PrintMore Go.Proofs.Ytejgcdecnaaedaa.PMake Go.Proofs.Ytejgcdecnaaedaa.Pb
set_option linter.unusedVariables false
set_option linter.unusedSimpArgs false
theorem str_app (a b : List Int) : strOfNums (a ++ b) = strOfNums a ++ strOfNums b := by
  apply ByteArray.ext
  rw [ByteArray.data_append]
  simp [strOfNums]
theorem two_f (n : Int) (h0 : 0 ≤ n) (h1 : n ≤ 65535) : hamperref06_Two.f n = some (strOfNums [n / 256 % 256, n % 256]) := by
  unfold hamperref06_Two.f
  rw [Int.tdiv_eq_ediv_of_nonneg h0, Int.tmod_eq_emod_of_nonneg h0, wrap_id (by omega) (by omega), Int.emod_emod_of_dvd n (by decide : (256 : Int) ∣ 256)]
theorem ref_text (id : ByteArray) (v s : Int) (d : ByteArray) : id ++ strOfNums [v / 256 % 256, v % 256] ++ strOfNums [s / 256 % 256, s % 256] ++ d = text id v s d := by
  unfold text
  rw [app_assoc id, ← str_app]
  rfl
theorem two_size (a b : Int) : (strOfNums [a, b]).size = 2 := by rw [size_nums]; rfl
theorem ref_text_ok (k : Nat) (id : ByteArray) (v s : Int) (d : ByteArray) (h : Fit id v s) (hd : d.size ≤ 100000) : hamperref06_Text.f (k + 1) id v s d = some (text id v s d, 0) := by
  obtain ⟨h1, h2, h3, h4, h5⟩ := h
  unfold hamperref06_Text.f
  refine ite_yes (by omega) (ite_no (by omega) (ite_no (by omega) (ite_no (by omega) ?_)))
  simp only [hamperref06_Text.j0]
  refine ite_no (by simp; omega) (bind_eq (two_f v h2 h3) (ite_yes ?_ (bind_eq (two_f s h4 h5) (ite_yes ?_ (ite_yes ?_ ?_)))))
  · rw [two_size, h1]; decide
  · rw [ByteArray.size_append, two_size, two_size, h1]; decide
  · rw [ByteArray.size_append, ByteArray.size_append, two_size, two_size, h1]; omega
  · rw [ref_text]
theorem ref_text_no (k : Nat) (id : ByteArray) (v s : Int) (d : ByteArray) (h : ¬ Fit id v s) : hamperref06_Text.f (k + 1) id v s d = some (⟨#[]⟩, 1) := by
  unfold hamperref06_Text.f
  have hj : hamperref06_Text.j0 (k + 1) true id v s d = some (⟨#[]⟩, 1) := by simp only [hamperref06_Text.j0]; rw [if_pos trivial]
  by_cases h1 : (id.size : Int) = 16
  · refine ite_yes h1 ?_
    by_cases h2 : v < 0
    · exact ite_yes h2 hj
    · refine ite_no h2 ?_
      by_cases h3 : v > 65535
      · exact ite_yes h3 hj
      · refine ite_no h3 ?_
        by_cases h4 : s < 0
        · exact ite_yes h4 hj
        · refine ite_no h4 ?_
          by_cases h5 : s > 65535
          · rw [decide_eq_true h5]; exact hj
          · exact absurd ⟨by omega, by omega, by omega, by omega, by omega⟩ h
  · exact ite_no h1 hj
theorem rsum_f (s : ByteArray) (h : s.size ≤ 140737488351232) : hamperref05_Sum.f s = some (Bk.blakeSum s) := by unfold hamperref05_Sum.f; rw [if_pos h]
theorem ref_make_ok (k : Nat) (id : ByteArray) (v s : Int) (d : ByteArray) (h : Fit id v s) (hd : d.size ≤ 100000) : hamperref06_Make.f (k + 1) id v s d = some (tagOf id v s d, 0) := by
  unfold hamperref06_Make.f
  refine bind_eq (ref_text_ok k id v s d h hd) (ite_yes rfl (bind_eq (rsum_f _ (by rw [text_size id v s d h]; omega)) (ite_yes (by decide) (ite_yes ?_ rfl))))
  rw [Bk.blakeSum_size]
  decide
theorem ref_make_no (k : Nat) (id : ByteArray) (v s : Int) (d : ByteArray) (h : ¬ Fit id v s) : hamperref06_Make.f (k + 1) id v s d = some (⟨#[]⟩, 1) := by
  unfold hamperref06_Make.f
  exact bind_eq (ref_text_no k id v s d h) (ite_no (by decide) rfl)
theorem isM_ok (k : Nat) (id : ByteArray) (v s : Int) (d x : ByteArray) (h : Fit id v s) (hd : d.size ≤ 100000) : tag_Is.f (k + 3) id v s d x = some ((tagOf id v s d).toList == x.toList) := by
  unfold tag_Is.f
  exact bind_eq (make_ok k id v s d h hd) (ite_yes rfl rfl)
theorem isM_no (k : Nat) (id : ByteArray) (v s : Int) (d x : ByteArray) (h : ¬ Fit id v s) : tag_Is.f k id v s d x = some false := by
  unfold tag_Is.f
  exact bind_eq (make_no k id v s d h) (ite_no (by decide) rfl)
theorem beq_turn (a b : List UInt8) : ((a == b) == (b == a)) = true := by
  rw [BEq.comm (a := a) (b := b)]
  simp
theorem makes_j (id : ByteArray) (v s : Int) (d x : ByteArray) (hd : d.size ≤ 100000) (b : Bool) : hamperlaw06_TagMakes.j0 11 x b id v s d = some true := by
  simp only [hamperlaw06_TagMakes.j0]
  cases b with
  | true => exact ite_yes rfl (bind_eq (awake_f 0) rfl)
  | false =>
    refine ite_no (by decide) ?_
    by_cases h : Fit id v s
    · refine bind_eq (make_ok 7 id v s d h hd) ?_
      refine bind_eq (ref_make_ok 9 id v s d h hd) ?_
      refine bind_eq (text_ok 7 id v s d h hd) ?_
      refine bind_eq (ref_text_ok 9 id v s d h hd) ?_
      refine ite_yes rfl (ite_yes rfl (ite_yes rfl (ite_yes rfl ?_)))
      refine bind_eq (isM_ok 7 id v s d x h hd) ?_
      refine ite_yes rfl (ite_yes (beq_turn _ _) ?_)
      refine bind_eq (isM_ok 7 id v s d _ h hd) ?_
      refine ite_yes ?_ (bind_eq (awake_f 0) rfl)
      show (((tagOf id v s d).toList == (tagOf id v s d).toList) == true) = true
      simp
    · refine bind_eq (make_no _ id v s d h) ?_
      refine bind_eq (ref_make_no 9 id v s d h) ?_
      refine bind_eq (text_no _ id v s d h) ?_
      refine bind_eq (ref_text_no 9 id v s d h) ?_
      refine ite_yes rfl (ite_yes rfl (ite_yes rfl (ite_yes rfl ?_)))
      refine bind_eq (isM_no _ id v s d x h) ?_
      refine ite_no (by decide) (ite_yes (by decide) ?_)
      refine bind_eq (isM_no _ id v s d _ h) ?_
      exact ite_yes (by decide) (bind_eq (awake_f 0) rfl)
theorem makes_big (id : ByteArray) (v s : Int) (d x : ByteArray) : hamperlaw06_TagMakes.j0 11 x true id v s d = some true := by
  simp only [hamperlaw06_TagMakes.j0]
  exact ite_yes trivial (bind_eq (awake_f 0) rfl)
theorem TagMakes (id : ByteArray) (v s : Int) (d x : ByteArray) : hamperlaw06_TagMakes.f 11 id v s d x = some true := by
  unfold hamperlaw06_TagMakes.f
  by_cases h1 : (id.size : Int) > 100
  · exact ite_yes h1 (makes_big ..)
  · refine ite_no h1 ?_
    by_cases h2 : (d.size : Int) > 3000
    · exact ite_yes h2 (makes_big ..)
    · exact ite_no h2 (makes_j id v s d x (by omega) _)
theorem TagMakes_walk (id : ByteArray) (v s : Int) (d x : ByteArray) (w : World) (_ : id.size ≤ maxLen) (_ : (Lit.int .i64 v).wf = true) (_ : (Lit.int .i64 s).wf = true) (_ : d.size ≤ maxLen) (_ : x.size ≤ 140737488351232) : Calls Try.prog 4 #[.agg #[.string id, .int .i64 v, .int .i64 s, .string d], .string x] w fun e w' => e = .returned (.bool true) ∧ Below w.heap.size w w' :=
  hamperlaw06_TagMakes.calls 11 id v s d x true w (TagMakes ..)
end Go.Proofs.Ytejgcdecnaaedaa.Tw
