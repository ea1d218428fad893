/- A name may be just if each of its steps, by itself, may be, and it is not too long; each beginning of it that ends ahead of a slash may be: for all names that the statement takes in. -/
import Derived.Test.YteplphpbpaojjaaDoorMetaPure
import Derived.Test.YteplphpbpaojjaaDoorMetaSplit
import Derived.Test.YteplphpbpaojjaaDoorPMax68
import Derived.Test.YteplphpbpaojjaaDoorPMax38
namespace Go.Proofs.YteplphpbpaojjaaDoor.Me
open Go.RowKit Go.Lib Go.Proofs.YteplphpbpaojjaaDoorW.PrintWords Go.Proofs.YteplphpbpaojjaaDoorW.PrintLast Go.Proofs.YteplphpbpaojjaaDoorW.PrintMore Go.Proofs.YteplphpbpaojjaaDoor.PMa Go.Proofs.YteplphpbpaojjaaDoor.Pb
set_option linter.unusedVariables false
set_option linter.unusedSimpArgs false
set_option maxRecDepth 100000 in
theorem works_at : hamperlaw19_works.f 60 = some true := by decide +kernel
theorem works_f (k : Nat) (h : 60 ≤ k) : hamperlaw19_works.f k = some true := at_rounds hamperlaw19_works.mono h works_at
theorem ext_list (s : ByteArray) (i j : Nat) (h : j ≤ s.size) : (s.extract i j).data.toList = (s.data.toList.drop i).take (j - i) := by
  rw [ByteArray.data_extract, Array.toList_extract]
  first | done | simp only [List.extract_eq_take_drop]
/-- Where the walk over a name's bytes stands. -/
def At (s : ByteArray) (fine : Bool) (from_ i : Nat) : Prop :=
  (i ≤ s.size ∧ from_ ≤ i ∧ 47 ∉ (s.data.toList.drop from_).take (i - from_) ∧ nameL s.data.toList = (fine && (stepsL (s.data.toList.drop from_)).all nameL)) ∨ (i = s.size + 1 ∧ nameL s.data.toList = fine)
theorem steps_l0 (s : ByteArray) (hs : s.size ≤ 2000) : ∀ (d i from_ k : Nat) (fine : Bool), i + d = s.size + 1 → 3 * d + 2 ≤ k → At s fine from_ i → hamperlaw19_MetaSteps.l0 k s fine (from_ : Int) (i : Int) = some true
  | 0, i, from_, k, fine, hi, hk, hA => by
    obtain ⟨k, rfl⟩ : ∃ q, k = q + 1 := ⟨k - 1, by omega⟩
    rw [hamperlaw19_MetaSteps.l0, if_neg (by omega)]
    refine bind_eq (name_f s (by omega)) ?_
    rcases hA with ⟨h, _⟩ | ⟨_, h⟩
    · omega
    · rw [h, beq_self_eq_true]
  | d + 1, i, from_, k, fine, hi, hk, hA => by
    obtain ⟨k, rfl⟩ : ∃ q, k = q + 3 := ⟨k - 3, by omega⟩
    obtain ⟨h1, h2, h3, h4⟩ := hA.resolve_right (fun h => by omega)
    have hw : wrap64 ((i : Int) + 1) = ((i + 1 : Nat) : Int) := by rw [wrap_id (by omega) (by omega)]; omega
    have hlen : s.data.toList.length = s.size := rfl
    -- the step ends here
    have fin : (i = s.size ∨ ∃ h : i < s.size, s[i] = 47) → hamperlaw19_MetaSteps.j2 (k + 2) s fine (from_ : Int) (i : Int) false = some true := by
      intro hend
      have hp : (s.extract from_ i).data.toList = (s.data.toList.drop from_).take (i - from_) := ext_list s from_ i h1
      have hstep : ∃ F, (fine && nameL ((s.data.toList.drop from_).take (i - from_))) = F ∧ At s F (i + 1) (i + 1) := by
        refine ⟨_, rfl, ?_⟩
        rcases hend with e | ⟨hlt, hc⟩
        · subst e
          refine .inr ⟨rfl, ?_⟩
          have ht : (s.data.toList.drop from_).take (s.size - from_) = s.data.toList.drop from_ := List.take_of_length_le (by rw [List.length_drop, hlen]; exact Nat.le_refl _)
          rw [ht] at h3 ⊢
          rw [h4, steps_one _ h3]
          simp
        · refine .inl ⟨by omega, Nat.le_refl _, by simp, ?_⟩
          have hsp : s.data.toList.drop from_ = (s.data.toList.drop from_).take (i - from_) ++ 47 :: s.data.toList.drop (i + 1) := by
            conv => lhs; rw [← List.take_append_drop (i - from_) (s.data.toList.drop from_)]
            rw [List.drop_drop, show from_ + (i - from_) = i by omega, drop_at s i hlt, hc]
          rw [h4]
          conv => lhs; rw [hsp, steps_app, steps_one _ h3]
          rw [List.all_append, List.all_cons, List.all_nil, Bool.and_true, Bool.and_assoc]
      obtain ⟨F, hF, hA2⟩ := hstep
      have j3 : hamperlaw19_MetaSteps.j3 (k + 1) s F (i : Int) = some true := by
        rw [hamperlaw19_MetaSteps.j3]
        refine bind_eq (name_f s (by omega)) ?_
        have nx := steps_l0 s hs d (i + 1) (i + 1) k F (by omega) (by omega) hA2
        rw [hw]
        cases hN : nameL s.data.toList with
        | false => rw [if_neg (by decide)]; exact nx
        | true =>
          rw [if_pos rfl, if_pos (by omega), if_pos (by omega), Int.toNat_natCast]
          refine bind_eq (name_f _ (by rw [ByteArray.size_extract]; omega)) ?_
          have hpre : nameL (s.extract 0 i).data.toList = true := by
            rw [ext_list s 0 i h1, List.drop_zero, Nat.sub_zero]
            rcases hend with e | ⟨hlt, hc⟩
            · rw [e, List.take_of_length_le (Nat.le_of_eq hlen)]; exact hN
            · have hsp : s.data.toList = s.data.toList.take i ++ 47 :: s.data.toList.drop (i + 1) := by
                conv => lhs; rw [← List.take_append_drop i s.data.toList]
                rw [drop_at s i hlt, hc]
              rw [hsp] at hN
              exact name_front hN
          rw [hpre, if_pos rfl]
          exact nx
      rw [hamperlaw19_MetaSteps.j2, if_neg (by decide)]
      cases fine with
      | false =>
        rw [if_neg (by decide)]
        rw [Bool.false_and] at hF
        rw [hF]
        exact j3
      | true =>
        rw [if_pos rfl, if_pos (by omega), if_pos (by omega), if_pos (by omega), Int.toNat_natCast, Int.toNat_natCast]
        refine bind_eq (name_f _ (by rw [ByteArray.size_extract]; omega)) ?_
        rw [Bool.true_and] at hF
        rw [hp, hF]
        exact j3
    rw [hamperlaw19_MetaSteps.l0, if_pos (by omega)]
    by_cases hlt : i < s.size
    · rw [if_pos (by omega), if_pos (by omega), bt_ne47 s i hlt]
      by_cases hc : s[i] = 47
      · rw [decide_eq_false (fun h => h hc)]
        exact fin (.inr ⟨hlt, hc⟩)
      · rw [decide_eq_true hc, hamperlaw19_MetaSteps.j2, if_pos rfl, hw]
        refine steps_l0 s hs d (i + 1) from_ (k + 1) fine (by omega) (by omega) (.inl ⟨by omega, by omega, ?_, h4⟩)
        have e : i + 1 - from_ = (i - from_) + 1 := by omega
        have hl : i - from_ < (s.data.toList.drop from_).length := by rw [List.length_drop, hlen]; omega
        rw [e, List.take_succ_eq_append_getElem hl, List.mem_append, not_or]
        refine ⟨h3, ?_⟩
        rw [List.mem_singleton, List.getElem_drop]
        have ei : from_ + (i - from_) = i := by omega
        intro hh
        apply hc
        have : s.data.toList[from_ + (i - from_)]'(by rw [ei]; exact hlt) = s[i] := by
          simp only [ei]
          rfl
        rw [← this]
        exact hh.symm
    · rw [if_neg (by omega)]
      exact fin (.inl (by omega))
theorem MetaSteps (s : ByteArray) : hamperlaw19_MetaSteps.f 6100 s = some true := by
  unfold hamperlaw19_MetaSteps.f
  refine bind_eq (works_f 6100 (by decide)) ?_
  rw [if_pos rfl, hamperlaw19_MetaSteps.j0]
  by_cases h : (s.size : Int) > 2000
  · rw [decide_eq_true h, if_pos rfl]
    exact bind_eq (works_f 6099 (by decide)) rfl
  · rw [decide_eq_false h, if_neg (by decide)]
    refine steps_l0 s (by omega) (s.size + 1) 0 0 6099 _ (by omega) (by omega) (.inl ⟨Nat.zero_le _, Nat.le_refl _, by simp, ?_⟩)
    rw [List.drop_zero]
    have e : (decide ((s.size : Int) ≤ 255)) = decide (s.data.toList.length ≤ 255) := by
      rw [decide_eq_decide]
      show (s.size : Int) ≤ 255 ↔ s.size ≤ 255
      omega
    rw [e]
    exact name_steps _
theorem MetaSteps_walk (s : ByteArray) (w : World) (_ : s.size ≤ 140737488351232) (hT : Tabs w) : Calls Tryd.prog 3 #[.string s] w fun e w' => e = .returned (.bool true) ∧ Below w.heap.size w w' :=
  hamperlaw19_MetaSteps.calls 6100 s true w hT (MetaSteps s)
end Go.Proofs.YteplphpbpaojjaaDoor.Me
