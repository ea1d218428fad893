/- TokenRuns: an Again of Slot 0 goes on where a Match, or an Again, ended: both make what one Match of their Lens together makes. -/
import Derived.Test.YtcdmnddmaeileaaTokPure
import Derived.Test.YtcdmnddmaeileaaPTokenx9
namespace Go.Proofs.Ytcdmnddmaeileaa.PToken
open Go.RowKit Go.Proofs.YtcdmnddmaeileaaW.PrintWords Go.Proofs.YtcdmnddmaeileaaW.PrintLast Go.Proofs.YtcdmnddmaeileaaW.PrintMore Go.Proofs.Ytcdmnddmaeileaa.Pb
set_option linter.unusedVariables false
set_option linter.unusedSimpArgs false
theorem dOk_match (a b c d : Int) (n : Nat) (l x : Int) : dOk a b c d n 2 0 l x 0 = okD x l n := by
  show (decide ((0 : Int) = 0 ∧ (0 : Int) = 0) && okD x l n) = _
  rw [decide_eq_true ⟨rfl, rfl⟩, Bool.true_and]
theorem dOk_again (a b c d : Int) (n : Nat) (l : Int) : dOk a b c d n 3 0 l 0 0 = okD a l n := by
  show (decide ((0 : Int) = 0 ∧ (0 : Int) = 0 ∧ (0 : Int) ≤ 0 ∧ (0 : Int) < 4) && okD (rowN a b c d 0) l n) = _
  rw [decide_eq_true ⟨rfl, rfl, by decide, by decide⟩, Bool.true_and]
  rfl
/-- A Match. -/
theorem step_match (q : St) (l x : Int) : stepT q ⟨2, 0, l, x, 0⟩ = if okD x l q.out.length = true then some ⟨grow x.toNat l.toNat q.out, (front q.a q.b q.c q.d x).1, (front q.a q.b q.c q.d x).2.1, (front q.a q.b q.c q.d x).2.2.1, (front q.a q.b q.c q.d x).2.2.2⟩ else none := by
  show (if (2 : Int) = 1 then _ else if dOk q.a q.b q.c q.d q.out.length 2 0 l x 0 = true then _ else none) = _
  rw [if_neg (by decide), dOk_match]
  rfl
theorem step_again (q : St) (l : Int) : stepT q ⟨3, 0, l, 0, 0⟩ = if okD q.a l q.out.length = true then some ⟨grow q.a.toNat l.toNat q.out, (front q.a q.b q.c q.d q.a).1, (front q.a q.b q.c q.d q.a).2.1, (front q.a q.b q.c q.d q.a).2.2.1, (front q.a q.b q.c q.d q.a).2.2.2⟩ else none := by
  show (if (3 : Int) = 1 then _ else if dOk q.a q.b q.c q.d q.out.length 3 0 l 0 0 = true then _ else none) = _
  rw [if_neg (by decide), dOk_again]
  rfl
theorem again_end (q : St) (n lim : Int) (h : okD q.a n q.out.length = true) (hl : ((q.out.length + n.toNat : Nat) : Int) ≤ lim) : textR [⟨3, 0, n, 0, 0⟩] lim q = (strOfNums (grow q.a.toNat n.toNat q.out), 0) := by
  have hg : (grow q.a.toNat n.toNat q.out).length = q.out.length + n.toNat := grow_length _ _ _
  rw [textR, step_again, if_pos h]
  simp only
  rw [if_neg (by rw [hg]; omega)]
  rfl
theorem okD_iff (x l : Int) (n : Nat) : okD x l n = true ↔ 3 ≤ l ∧ l ≤ 258 ∧ 1 ≤ x ∧ x ≤ 32768 ∧ x ≤ (n : Int) := by unfold okD; exact decide_eq_true_iff
/-- One Match, and an Again behind it. -/
theorem runs_same (l : List S23) (hl : l.length ≤ 300) (x m n : Int) (hm : 3 ≤ m) (hn : 3 ≤ n) (hs : m + n ≤ 258) :
    textR (l ++ [⟨2, 0, m, x, 0⟩, ⟨3, 0, n, 0, 0⟩]) 1073741824 st0 = textR (l ++ [⟨2, 0, m + n, x, 0⟩]) 1073741824 st0 := by
  rw [textR_app, textR_app]
  cases hq : runT l 1073741824 st0 with
  | inl r => rfl
  | inr q =>
    have hlq := runT_len l _ _ q hq
    have h0 : (st0.out).length = 0 := rfl
    show textR [⟨2, 0, m, x, 0⟩, ⟨3, 0, n, 0, 0⟩] 1073741824 q = textR [⟨2, 0, m + n, x, 0⟩] 1073741824 q
    rw [textR, textR, step_match, step_match]
    by_cases hx : 1 ≤ x ∧ x ≤ 32768 ∧ x ≤ (q.out.length : Int)
    · rw [if_pos ((okD_iff x m q.out.length).mpr (by omega)), if_pos ((okD_iff x (m + n) q.out.length).mpr (by omega))]
      have g1 : (grow x.toNat m.toNat q.out).length = q.out.length + m.toNat := grow_length _ _ _
      have g2 : (grow x.toNat (m + n).toNat q.out).length = q.out.length + (m + n).toNat := grow_length _ _ _
      simp only
      rw [if_neg (by rw [g1]; omega), if_neg (by rw [g2]; omega)]
      have ha := again_end ⟨grow x.toNat m.toNat q.out, (front q.a q.b q.c q.d x).1, (front q.a q.b q.c q.d x).2.1, (front q.a q.b q.c q.d x).2.2.1, (front q.a q.b q.c q.d x).2.2.2⟩ n 1073741824 (by show okD (front q.a q.b q.c q.d x).1 n (grow x.toNat m.toNat q.out).length = true; rw [front_fst]; exact (okD_iff x n _).mpr (by rw [g1]; omega)) (by show (((grow x.toNat m.toNat q.out).length + n.toNat : Nat) : Int) ≤ _; rw [g1]; omega)
      simp only [front_fst] at ha ⊢
      rw [ha, grow_add, show m.toNat + n.toNat = (m + n).toNat by omega]
      rfl
    · rw [if_neg (fun h => hx ((okD_iff x m q.out.length).mp h).2.2), if_neg (fun h => hx ((okD_iff x (m + n) q.out.length).mp h).2.2)]
theorem runs_true (k : Nat) (l : List S23) (x m n : Int) : hamperlaw14_TokenRuns.j0 (k + 1) l x m n true = some true := by
  simp only [hamperlaw14_TokenRuns.j0]
  exact ite_yes trivial rfl
theorem tokenRuns (l : List S23) (x m n : Int) (hm : (Lit.int .i64 m).wf = true) (hn : (Lit.int .i64 n).wf = true) : ∃ k, hamperlaw14_TokenRuns.f k l x m n = some true := by
  refine ⟨1 + 1, ?_⟩
  unfold hamperlaw14_TokenRuns.f
  by_cases h1 : (l.length : Int) > 300
  · exact ite_yes h1 (runs_true 1 l x m n)
  refine ite_no h1 ?_
  by_cases h2 : m < 3
  · exact ite_yes h2 (runs_true 1 l x m n)
  refine ite_no h2 ?_
  by_cases h3 : n < 3
  · exact ite_yes h3 (runs_true 1 l x m n)
  refine ite_no h3 ?_
  by_cases h4 : m > 255
  · exact ite_yes h4 (runs_true 1 l x m n)
  refine ite_no h4 ?_
  by_cases h5 : n > 255
  · exact ite_yes h5 (runs_true 1 l x m n)
  refine ite_no h5 ?_
  have hw : wrap64 (m + n) = m + n := wrap_id (by omega) (by omega)
  rw [hw]
  by_cases h6 : m + n > 258
  · exact ite_yes h6 (runs_true 1 l x m n)
  refine ite_no h6 (bind_eq rfl ?_)
  simp only [hamperlaw14_TokenRuns.j0]
  have hs := runs_same l (by omega) x m n (by omega) (by omega) (by omega)
  have hll : ([] ++ l : List S23).length ≤ 300 := by rw [List.nil_append]; omega
  have htk : l.take ((l.length : Int) : Int).toNat = l := by rw [Int.toNat_natCast, List.take_length]
  rw [hw, htk]
  refine ite_no (by decide) (bind_eq rfl (ite_yes (by simp; omega) (bind_eq rfl (bind_eq rfl (ite_yes (by simp; omega) (bind_eq rfl (ite_yes (by omega) (ite_yes (by omega) (bind_eq rfl (ite_yes (by simp; omega) (bind_eq rfl (ite_yes (by simp; omega) ?_))))))))))))
  refine bind_eq (text_f _ _ (by simp; omega)) (bind_eq (text_f _ _ (by simp; omega)) ?_)
  simp only [List.nil_append]
  rw [hs]
  refine ite_yes rfl ?_
  rw [beq_self_eq_true]
theorem runs_walk (A0 : Option Addr) (c0 : Nat) (l0 : List S23) (x m n : Int) (w : World) (hr0 : Kd.C k23 w A0 l0.length l0) (hc0 : l0.length ≤ c0) (_ : ∀ p ∈ l0, (Lit.int .u8 p.f0).wf = true ∧ (Lit.int .u8 p.f1).wf = true ∧ (Lit.int .i64 p.f2).wf = true ∧ (Lit.int .i64 p.f3).wf = true ∧ (Lit.int .i64 p.f4).wf = true) (_ : (Lit.int .i64 x).wf = true) (hm : (Lit.int .i64 m).wf = true) (hn : (Lit.int .i64 n).wf = true) :
    Calls Try.prog 6 #[.slice A0 l0.length c0, .int .i64 x, .int .i64 m, .int .i64 n] w fun e w' => e = .returned (.bool true) ∧ Below w.heap.size w w' := by
  obtain ⟨k, h⟩ := tokenRuns l0 x m n hm hn
  exact hamperlaw14_TokenRuns.calls k A0 c0 l0 x m n true w hr0 hc0 h
end Go.Proofs.Ytcdmnddmaeileaa.PToken
