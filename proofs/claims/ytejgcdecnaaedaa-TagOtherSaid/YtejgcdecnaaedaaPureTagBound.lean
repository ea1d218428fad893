/- TagBound: of two that may be the texts are the same just if all their parts are; Is tells the tag that Make tells, and no other one; two of one tag are the same, or their unlike texts have sums that begin alike. No condition. -/
import Derived.Test.YtejgcdecnaaedaaTagWords
import Derived.Test.YtejgcdecnaaedaaPTagx25
import Derived.Test.YtejgcdecnaaedaaPTagx24
namespace Go.Proofs.Ytejgcdecnaaedaa.Tw
open Go.RowKit Go.Proofs.YtejgcdecnaaedaaW.PrintWords Go.Proofs.YtejgcdecnaaedaaW.PrintLast Go.Proofs.YtejgcdecnaaedaaW.PrintMore Go.Proofs.Ytejgcdecnaaedaa.PTag Go.Proofs.Ytejgcdecnaaedaa.Pb
set_option linter.unusedVariables false
set_option linter.unusedSimpArgs false
theorem is_ok (k : Nat) (id : ByteArray) (v s : Int) (d t : ByteArray) (h : Fit id v s) (hd : d.size ≤ 100000) : tag_Is.f (k + 3) id v s d t = some (decide (tagOf id v s d = t)) := by
  unfold tag_Is.f
  refine bind_eq (make_ok k id v s d h hd) (ite_yes rfl ?_)
  show some ((tagOf id v s d).toList == t.toList) = _
  rw [tl_beq]
theorem is_no (k : Nat) (id : ByteArray) (v s : Int) (d t : ByteArray) (h : ¬ Fit id v s) : tag_Is.f k id v s d t = some false := by
  unfold tag_Is.f
  exact bind_eq (make_no k id v s d h) (ite_no (by decide) rfl)
theorem two_bytes {a b : Int} (ha : 0 ≤ a ∧ a ≤ 65535) (hb : 0 ≤ b ∧ b ≤ 65535) (h1 : a / 256 % 256 = b / 256 % 256) (h2 : a % 256 = b % 256) : a = b := by omega
theorem text_inj {id id' : ByteArray} {v v' s s' : Int} {d d' : ByteArray} (h : Fit id v s) (h' : Fit id' v' s') (e : text id v s d = text id' v' s' d') : id = id' ∧ v = v' ∧ s = s' ∧ d = d' := by
  rw [text, text] at e
  have e1 := app_inj e (by rw [ByteArray.size_append, ByteArray.size_append, size_nums, size_nums, h.1, h'.1]; rfl)
  have e2 := app_inj e1.1 (by rw [h.1, h'.1])
  have e3 : fourL v s = fourL v' s' := by rw [← bytesOf_str (fourL_by v s), ← bytesOf_str (fourL_by v' s'), e2.2]
  simp only [fourL, List.cons.injEq, and_true] at e3
  exact ⟨e2.1, two_bytes ⟨h.2.1, h.2.2.1⟩ ⟨h'.2.1, h'.2.2.1⟩ e3.1 e3.2.1, two_bytes ⟨h.2.2.2.1, h.2.2.2.2⟩ ⟨h'.2.2.2.1, h'.2.2.2.2⟩ e3.2.2.1 e3.2.2.2, e1.2⟩
/-- All parts are the same. -/
def SameOf (id : ByteArray) (v s : Int) (d id' : ByteArray) (v' s' : Int) (d' : ByteArray) : Prop := id = id' ∧ v = v' ∧ s = s' ∧ d = d'
theorem same_test (id : ByteArray) (v s : Int) (d id' : ByteArray) (v' s' : Int) (d' : ByteArray) : (id.toList == id'.toList && (v == v' && (s == s' && (d.toList == d'.toList)))) = true ↔ SameOf id v s d id' v' s' d' := by
  rw [tl_beq, tl_beq]
  simp [SameOf]
theorem j2_f (k : Nat) (x7 x9 x11 x13 id : ByteArray) (v s : Int) (d id' : ByteArray) (v' s' : Int) (d' : ByteArray) (h7 : x7 = (Bk.blakeSum x11).extract 0 8) (h9 : x9 = (Bk.blakeSum x13).extract 0 8) (hx : SameOf id v s d id' v' s' d' ∨ x11 ≠ x13) (s1 : x11.size ≤ 200000) (s2 : x13.size ≤ 200000) :
    hamperlaw06_TagBound.j2 (k + 1) x7 x9 x11 x13 false id v s d id' v' s' d' = some true := by
  simp only [hamperlaw06_TagBound.j2]
  refine ite_no (by decide) ?_
  by_cases e : x7 = x9
  · refine ite_yes (tl_iff.mpr e) ?_
    by_cases q : SameOf id v s d id' v' s' d'
    · exact ite_yes ((same_test ..).mpr q) rfl
    · refine ite_no (mt (same_test ..).mp q) (ite_no (fun z => ?_) (bind_eq (sum_f x11 (by omega)) (ite_yes (by decide) (ite_yes ?_ (bind_eq (sum_f x13 (by omega)) (ite_yes ?_ ?_))))))
      · rcases hx with hx | hx
        · exact q hx
        · exact hx (tl_iff.mp z)
      · show (8 : Int) ≤ ((Bk.blakeSum x11).size : Int); rw [Bk.blakeSum_size]; decide
      · show (8 : Int) ≤ ((Bk.blakeSum x13).size : Int); rw [Bk.blakeSum_size]; decide
      · show some (((Bk.blakeSum x11).extract 0 8).toList == ((Bk.blakeSum x13).extract 0 8).toList) = some true
        rw [tl_beq, ← h7, ← h9, e]
        simp
  · exact ite_no (mt tl_iff.mp e) rfl
theorem bound_yes (k : Nat) (x2 id : ByteArray) (v s : Int) (d id' : ByteArray) (v' s' : Int) (d' : ByteArray) : hamperlaw06_TagBound.j0 (k + 11) x2 true id v s d id' v' s' d' = some true := by
  simp only [hamperlaw06_TagBound.j0]
  exact ite_yes trivial (bind_eq (awake_f k) rfl)
theorem bound_no (k : Nat) (x2 id : ByteArray) (v s : Int) (d id' : ByteArray) (v' s' : Int) (d' : ByteArray) (hd : d.size ≤ 3000) (hd' : d'.size ≤ 3000) : hamperlaw06_TagBound.j0 (k + 11) x2 false id v s d id' v' s' d' = some true := by
  simp only [hamperlaw06_TagBound.j0]
  refine ite_no (by decide) ?_
  by_cases h : Fit id v s
  · by_cases h' : Fit id' v' s'
    · refine bind_eq (make_ok (k + 7) id v s d h (by omega)) (bind_eq (make_ok (k + 7) id' v' s' d' h' (by omega)) (ite_yes rfl ?_))
      show hamperlaw06_TagBound.j1 (k + 10) x2 (tagOf id v s d) 0 (tagOf id' v' s' d') 0 ((0 : Int) != 0) id v s d id' v' s' d' = some true
      simp only [hamperlaw06_TagBound.j1]
      refine ite_no (by decide) (bind_eq (text_ok (k + 6) id v s d h (by omega)) (bind_eq (text_ok (k + 6) id' v' s' d' h' (by omega)) (ite_yes rfl (ite_yes rfl ?_))))
      have hx : SameOf id v s d id' v' s' d' ∨ text id v s d ≠ text id' v' s' d' := by
        by_cases q : text id v s d = text id' v' s' d'
        · exact .inl (text_inj h h' q)
        · exact .inr q
      have ht : ((text id v s d).toList == (text id' v' s' d').toList) = (id.toList == id'.toList && (v == v' && (s == s' && (d.toList == d'.toList)))) := by
        rw [tl_beq, Bool.eq_iff_iff, same_test]
        simp only [decide_eq_true_eq]
        exact ⟨fun q => text_inj h h' q, fun ⟨a, b, c, e⟩ => by rw [a, b, c, e]⟩
      refine ite_no (fun z => ?_) (bind_eq (is_ok (k + 6) id v s d _ h (by omega)) (ite_yes ?_ (bind_eq (is_ok (k + 6) id v s d x2 h (by omega)) ?_)))
      · rw [ht] at z
        simp at z
      · simp
      · have e0 : (decide (tagOf id v s d = x2) != (x2.toList == (tagOf id v s d).toList)) = false := by
          rw [tl_beq]
          by_cases q : tagOf id v s d = x2
          · simp [q]
          · have q' : ¬ x2 = tagOf id v s d := fun z => q z.symm
            simp [q, q']
        show hamperlaw06_TagBound.j2 (k + 9) _ _ _ _ (decide (tagOf id v s d = x2) != (x2.toList == (tagOf id v s d).toList)) id v s d id' v' s' d' = some true
        rw [e0]
        exact j2_f (k + 8) _ _ _ _ id v s d id' v' s' d' rfl rfl hx (by rw [text_size id v s d h]; omega) (by rw [text_size id' v' s' d' h']; omega)
    · refine bind_eq (make_ok (k + 7) id v s d h (by omega)) (bind_eq (make_no (k + 10) id' v' s' d' h') (ite_yes rfl ?_))
      show hamperlaw06_TagBound.j1 (k + 10) x2 (tagOf id v s d) 0 (⟨#[]⟩ : ByteArray) 1 ((1 : Int) != 0) id v s d id' v' s' d' = some true
      simp only [hamperlaw06_TagBound.j1]
      exact ite_yes (by decide) (ite_yes (by decide) (ite_no (by decide) rfl))
  · have rest : ∀ (b : ByteArray) (n : Int), (n = 0 ∨ b = ⟨#[]⟩) → hamperlaw06_TagBound.j1 (k + 10) x2 (⟨#[]⟩ : ByteArray) 1 b n true id v s d id' v' s' d' = some true := by
      intro b n hn
      simp only [hamperlaw06_TagBound.j1]
      refine ite_yes trivial (ite_no (by decide) (ite_yes rfl (bind_eq (is_no (k + 9) id v s d x2 h) (ite_no (by decide) ?_))))
      by_cases e : n = 0
      · exact ite_yes e rfl
      · refine ite_no e ?_
        rcases hn with hn | hn
        · exact absurd hn e
        · rw [hn]; rfl
    by_cases h' : Fit id' v' s'
    · exact bind_eq (make_no (k + 10) id v s d h) (bind_eq (make_ok (k + 7) id' v' s' d' h' (by omega)) (ite_no (by decide) (rest _ 0 (.inl rfl))))
    · exact bind_eq (make_no (k + 10) id v s d h) (bind_eq (make_no (k + 10) id' v' s' d' h') (ite_no (by decide) (rest _ 1 (.inr rfl))))
theorem TagBound (id : ByteArray) (v s : Int) (d id' : ByteArray) (v' s' : Int) (d' x : ByteArray) : hamperlaw06_TagBound.f 11 id v s d id' v' s' d' x = some true := by
  unfold hamperlaw06_TagBound.f
  by_cases h1 : (id.size : Int) > 100
  · exact ite_yes h1 (bound_yes 0 ..)
  · refine ite_no h1 ?_
    by_cases h2 : (d.size : Int) > 3000
    · exact ite_yes h2 (bound_yes 0 ..)
    · refine ite_no h2 ?_
      by_cases h3 : (id'.size : Int) > 100
      · exact ite_yes h3 (bound_yes 0 ..)
      · refine ite_no h3 ?_
        by_cases h4 : (d'.size : Int) > 3000
        · exact ite_yes h4 (bound_yes 0 ..)
        · refine ite_no h4 ?_
          by_cases h5 : (x.size : Int) > 100
          · exact ite_yes h5 (bound_yes 0 ..)
          · exact ite_no h5 (bind_eq (awake_f 1) (bound_no 0 _ _ _ _ _ _ _ _ _ (by omega) (by omega)))
theorem TagBound_walk (id : ByteArray) (v s : Int) (d id' : ByteArray) (v' s' : Int) (d' x : ByteArray) (w : World) (_ : id.size ≤ maxLen) (_ : (Lit.int .i64 v).wf = true) (_ : (Lit.int .i64 s).wf = true) (_ : d.size ≤ maxLen) (_ : id'.size ≤ maxLen) (_ : (Lit.int .i64 v').wf = true) (_ : (Lit.int .i64 s').wf = true) (_ : d'.size ≤ maxLen) (_ : x.size ≤ 140737488351232) : Calls Try.prog 6 #[.agg #[.string id, .int .i64 v, .int .i64 s, .string d], .agg #[.string id', .int .i64 v', .int .i64 s', .string d'], .string x] w fun e w' => e = .returned (.bool true) ∧ Below w.heap.size w w' :=
  hamperlaw06_TagBound.calls 11 id v s d id' v' s' d' x true w (TagBound ..)
end Go.Proofs.Ytejgcdecnaaedaa.Tw
