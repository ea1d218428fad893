/- TagText: a text has 20 bytes more than its data: the ID, the two numbers, the highest byte first, and the data; the tag is the beginning of its sum. No condition. -/
import Derived.Test.YtejgcdecnaaedaaTagWords
import Derived.Test.YtejgcdecnaaedaaPTagx23
namespace Go.Proofs.Ytejgcdecnaaedaa.Tw
open Go.RowKit Go.Proofs.YtejgcdecnaaedaaW.PrintWords Go.Proofs.YtejgcdecnaaedaaW.PrintLast Go.Proofs.YtejgcdecnaaedaaW.PrintMore Go.Proofs.Ytejgcdecnaaedaa.PTag Go.Proofs.Ytejgcdecnaaedaa.Pb
set_option linter.unusedVariables false
set_option linter.unusedSimpArgs false
theorem text_id (id : ByteArray) (v s : Int) (d : ByteArray) (h : id.size = 16) : (text id v s d).extract 0 16 = id := by
  rw [text, app_assoc, ← h]
  exact ext_app_left _ _
theorem text_data (id : ByteArray) (v s : Int) (d : ByteArray) (h : Fit id v s) : (text id v s d).extract 20 (text id v s d).size = d := by
  have e : 20 = (id ++ strOfNums (fourL v s)).size := by rw [ByteArray.size_append, size_nums, h.1]; rfl
  rw [text, e]
  exact ext_app_right _ _
theorem text_at (id : ByteArray) (v s : Int) (d : ByteArray) (h : id.size = 16) (j : Nat) (hj : j < 4) : bt (text id v s d) ((16 + j : Nat) : Int) = (fourL v s).getD j 0 := by
  have hl : (bytesOf id).length = 16 := by rw [bytesOf_length, h]
  have e : bytesOf (text id v s d) = bytesOf id ++ (fourL v s ++ bytesOf d) := by rw [text, bytesOf_append, bytesOf_append, bytesOf_str (fourL_by v s), List.append_assoc]
  rw [← rd_bytesOf, rd, Int.toNat_natCast, e, List.getD_eq_getElem?_getD, List.getD_eq_getElem?_getD, List.getElem?_append_right (by omega), hl, show 16 + j - 16 = j by omega, List.getElem?_append_left (by show j < 4; exact hj)]
theorem pair_back {x y n : Int} (h0 : 0 ≤ n) (h1 : n ≤ 65535) (hx : x = n / 256 % 256) (hy : y = n % 256) : wrap64 (wrap64 (wrap64 x * 256) + wrap64 y) = n := by
  subst hx hy
  unfold wrap64
  omega
theorem j0_yes (k : Nat) (id : ByteArray) (v s : Int) (d : ByteArray) : hamperlaw06_TagText.j0 (k + 11) true id v s d = some true := by
  simp only [hamperlaw06_TagText.j0]
  exact ite_yes trivial (bind_eq (awake_f k) rfl)
theorem j0_no (k : Nat) (id : ByteArray) (v s : Int) (d : ByteArray) (hd : d.size ≤ 3000) : hamperlaw06_TagText.j0 (k + 11) false id v s d = some true := by
  simp only [hamperlaw06_TagText.j0]
  refine ite_no (by decide) ?_
  by_cases h : Fit id v s
  · have hs := text_size id v s d h
    have b := text_at id v s d h.1
    refine bind_eq (text_ok (k + 7) id v s d h (by omega)) (bind_eq (make_ok (k + 7) id v s d h (by omega)) (ite_yes rfl (ite_yes rfl (ite_yes ?_ (ite_yes (by decide) (ite_yes ?_ (ite_yes ?_ (ite_yes ?_ (ite_yes ?_ (ite_yes ?_ (ite_yes ?_ (ite_yes ?_ (ite_yes ?_ (ite_yes ?_ (ite_yes ?_ (bind_eq (sum_f _ ?_) (ite_yes (by decide) (ite_yes ?_ ?_))))))))))))))))))
    · show ((text id v s d).size : Int) = _
      rw [hs, wrap_id (by omega) (by omega)]
      omega
    · show (16 : Int) ≤ ((text id v s d).size : Int)
      omega
    · exact tl_iff.mpr (text_id id v s d h.1)
    · show (20 : Int) ≤ ((text id v s d).size : Int)
      omega
    · exact tl_iff.mpr (text_data id v s d h)
    · show (16 : Int) < ((text id v s d).size : Int)
      omega
    · show (17 : Int) < ((text id v s d).size : Int)
      omega
    · exact pair_back h.2.1 h.2.2.1 (b 0 (by decide)) (b 1 (by decide))
    · show (18 : Int) < ((text id v s d).size : Int)
      omega
    · show (19 : Int) < ((text id v s d).size : Int)
      omega
    · exact pair_back h.2.2.2.1 h.2.2.2.2 (b 2 (by decide)) (b 3 (by decide))
    · show (text id v s d).size ≤ _
      omega
    · show (8 : Int) ≤ ((Bk.blakeSum (text id v s d)).size : Int)
      rw [Bk.blakeSum_size]
      decide
    · show some ((tagOf id v s d).toList == ((Bk.blakeSum (text id v s d)).extract 0 8).toList) = some true
      rw [tl_beq, tagOf]
      simp
  · refine bind_eq (text_no (k + 10) id v s d h) (bind_eq (make_no (k + 10) id v s d h) (ite_no (by decide) (ite_yes rfl (ite_yes ?_ ?_))))
    · exact (tl_nil _).mpr rfl
    · show some ((⟨#[]⟩ : ByteArray).toList == ([] : List UInt8)) = some true
      rw [ByteArray.toList_eq]
      rfl
theorem TagText (id : ByteArray) (v s : Int) (d : ByteArray) : hamperlaw06_TagText.f 11 id v s d = some true := by
  unfold hamperlaw06_TagText.f
  by_cases h1 : (id.size : Int) > 100
  · exact ite_yes h1 (j0_yes 0 id v s d)
  · refine ite_no h1 ?_
    by_cases h2 : (d.size : Int) > 3000
    · exact ite_yes h2 (j0_yes 0 id v s d)
    · refine ite_no h2 (bind_eq (awake_f 1) ?_)
      exact j0_no 0 id v s d (by omega)
theorem TagText_walk (id : ByteArray) (v s : Int) (d : ByteArray) (w : World) (_ : id.size ≤ maxLen) (_ : (Lit.int .i64 v).wf = true) (_ : (Lit.int .i64 s).wf = true) (_ : d.size ≤ maxLen) : Calls Try.prog 3 #[.agg #[.string id, .int .i64 v, .int .i64 s, .string d]] w fun e w' => e = .returned (.bool true) ∧ Below w.heap.size w w' :=
  hamperlaw06_TagText.calls 11 id v s d true w (TagText id v s d)
end Go.Proofs.Ytejgcdecnaaedaa.Tw
