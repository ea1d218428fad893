/- HeadJoin: headers' bytes with others behind them are headers' just if the others are: these, one behind the other. -/
import Derived.Test.YtapdnkmaklpoeaaHeadAll
import Derived.Test.YtapdnkmaklpoeaaPHeadx37
namespace Go.Proofs.Ytapdnkmaklpoeaa.Pure
open Go.RowKit Go.Proofs.Ytapdnkmaklpoeaa.PHead Go.Proofs.YtapdnkmaklpoeaaW.PrintWords Go.Proofs.YtapdnkmaklpoeaaW.PrintLast Go.Proofs.YtapdnkmaklpoeaaW.PrintMore Go.Proofs.Ytapdnkmaklpoeaa.Pb Go.Proofs.Ytapdnkmaklpoeaa.Hw
set_option linter.unusedVariables false
set_option linter.unusedSimpArgs false
theorem same_no {x y : S23} (h : x = y) : ¬ ((!(x.f0 == y.f0) || !(x.f1.toList == y.f1.toList)) = true) := by subst h; simp
theorem rd_left (a b : List S23) (i : Nat) (h : i < a.length) : rd_T23 (a ++ b) (i : Int) = rd_T23 a (i : Int) := by
  unfold rd_T23
  rw [Int.toNat_natCast, List.getD_eq_getElem?_getD, List.getD_eq_getElem?_getD, List.getElem?_append_left h]
theorem rd_right (a b : List S23) (i : Nat) (h : a.length ≤ i) : rd_T23 (a ++ b) (i : Int) = rd_T23 b ((i - a.length : Nat) : Int) := by
  unfold rd_T23
  rw [Int.toNat_natCast, Int.toNat_natCast, List.getD_eq_getElem?_getD, List.getD_eq_getElem?_getD, List.getElem?_append_right h]
theorem catH_inj {a b : List S23} (ha : AllFit a) (hb : AllFit b) (e : catH a = catH b) (hz : (catH b).size ≤ 140737488351232) : a = b := by
  obtain ⟨c, hc, h1, h2⟩ := catH_prefix a ⟨#[]⟩ b ha hb (by rw [app_nil]; exact e) hz
  cases c with
  | nil => rw [h1, List.append_nil]
  | cons x c =>
    exfalso
    have := congrArg ByteArray.size h2
    rw [catH, ByteArray.size_append] at this
    have h5 := made_pos x.f0 x.f1
    have h0 : (⟨#[]⟩ : ByteArray).size = 0 := rfl
    omega
theorem join_l0 (a b : List S23) (hz : (a ++ b).length ≤ 1000000) : ∀ (d i k : Nat), i + d = (a ++ b).length → d < k → hamperlaw20_HeadJoin.l0 k a b (a ++ b) (i : Int) = some true := by
  have hl : (a ++ b).length = a.length + b.length := List.length_append
  intro d
  induction d with
  | zero =>
    intro i k hi hk
    obtain ⟨k, rfl⟩ : ∃ m, k = m + 1 := ⟨k - 1, by omega⟩
    simp only [hamperlaw20_HeadJoin.l0]
    exact ite_no (by omega) rfl
  | succ d ih =>
    intro i k hi hk
    obtain ⟨k, rfl⟩ : ∃ m, k = m + 1 := ⟨k - 1, by omega⟩
    have hstep : hamperlaw20_HeadJoin.l0 k a b (a ++ b) (wrap64 ((i : Int) + 1)) = some true := by
      rw [wrap_id (by omega) (by omega)]
      exact ih (i + 1) k (by omega) (by omega)
    simp only [hamperlaw20_HeadJoin.l0]
    refine ite_yes (by omega) ?_
    by_cases h : i < a.length
    · refine ite_yes (by omega) (ite_yes (by omega) (ite_no (same_no (rd_left a b i h)) (ite_no (by omega) hstep)))
    · have hw : wrap64 ((i : Int) - (a.length : Int)) = ((i - a.length : Nat) : Int) := by rw [wrap_id (by omega) (by omega)]; omega
      refine ite_no (by omega) (ite_yes (by omega) (ite_yes (by omega) ?_))
      rw [hw]
      exact ite_yes (by omega) (ite_yes (by omega) (ite_no (same_no (rd_right a b i (by omega))) hstep))
theorem j0_true (k : Nat) (a b : ByteArray) : hamperlaw20_HeadJoin.j0 (k + 1) a b true = some true := by
  simp only [hamperlaw20_HeadJoin.j0]
  exact ite_yes trivial (bind_eq awake_yes rfl)
theorem j1_yes (k : Nat) (a b : List S23) (hz : (a ++ b).length ≤ 1000000) (hk : (a ++ b).length + 2 ≤ k) : hamperlaw20_HeadJoin.j1 k a b (a ++ b) false = some true := by
  obtain ⟨k, rfl⟩ : ∃ m, k = m + 1 := ⟨k - 1, by omega⟩
  simp only [hamperlaw20_HeadJoin.j1]
  exact ite_no (by decide) (join_l0 a b hz (a ++ b).length 0 k (by omega) (by omega))
theorem j1_none (k : Nat) (a b : List S23) (q : Bool) (hq : q = false) (hk : 2 ≤ k) : hamperlaw20_HeadJoin.j1 k a b [] q = some true := by
  subst hq
  obtain ⟨k, rfl⟩ : ∃ m, k = m + 2 := ⟨k - 2, by omega⟩
  simp only [hamperlaw20_HeadJoin.j1, hamperlaw20_HeadJoin.l0]
  exact ite_no (by decide) (ite_no (by decide) rfl)
theorem catH_len : ∀ (L : List S23), L.length ≤ (catH L).size
  | [] => Nat.le_refl _
  | x :: L => by
    rw [catH, ByteArray.size_append, List.length_cons]
    have := catH_len L
    have := made_pos x.f0 x.f1
    omega
theorem join_j0 (k : Nat) (a b : ByteArray) (ha : a.size ≤ 3000) (hb : b.size ≤ 3000) (hk : 6100 ≤ k) : hamperlaw20_HeadJoin.j0 (k + 1) a b false = some true := by
  have hab : (a ++ b).size = a.size + b.size := ByteArray.size_append
  simp only [hamperlaw20_HeadJoin.j0]
  refine ite_no (by decide) ?_
  rcases all_f a (by omega) k (by omega) with ⟨A, hA, eA, gA⟩ | ⟨nA, gA⟩
  · refine bind_eq gA (ite_yes rfl ?_)
    rcases all_f b (by omega) k (by omega) with ⟨B, hB, eB, gB⟩ | ⟨nB, gB⟩
    · refine bind_eq gB (ite_yes (by omega) ?_)
      rcases all_f (a ++ b) (by omega) k (by omega) with ⟨C, hC, eC, gC⟩ | ⟨nC, gC⟩
      · have e : A ++ B = C := by
          refine catH_inj (hA.append hB) hC ?_ (by rw [← eC]; omega)
          rw [catH_append, ← eA, ← eB, eC]
        subst e
        have hl := catH_len (A ++ B)
        rw [← eC, List.length_append] at hl
        refine bind_eq gC (ite_yes (Eq.refl (0 : Int)) (ite_yes (Eq.refl (0 : Int)) (ite_yes ?_ ?_)))
        · show ((A ++ B).length : Int) = wrap64 ((A.length : Int) + (B.length : Int))
          rw [wrap_id (by omega) (by omega), List.length_append]
          omega
        · exact j1_yes k A B (by rw [List.length_append]; omega) (by rw [List.length_append]; omega)
      · exact absurd (by rw [catH_append, ← eA, ← eB]) (nC (A ++ B) (hA.append hB))
    · refine bind_eq gB (ite_yes (by omega) ?_)
      rcases all_f (a ++ b) (by omega) k (by omega) with ⟨C, hC, eC, gC⟩ | ⟨nC, gC⟩
      · exfalso
        obtain ⟨D, hD, _, h2⟩ := catH_prefix A b C hA hC (by rw [← eA, eC]) (by rw [← eC]; omega)
        exact nB D hD h2
      · refine bind_eq gC (ite_yes rfl (ite_no (by decide) ?_))
        exact j1_none k A [] _ rfl (by omega)
  · exact bind_eq gA (ite_no (by decide) rfl)
theorem HeadJoin : hamperlaw20_HeadJoin.Pure := by
  intro a b _ _
  obtain ⟨K, hK⟩ : ∃ K : Nat, 6100 ≤ K := ⟨6100, Nat.le_refl _⟩
  refine ⟨K + 1, ?_⟩
  unfold hamperlaw20_HeadJoin.f
  by_cases h1 : (a.size : Int) > 3000
  · exact ite_yes h1 (j0_true K a b)
  refine ite_no h1 ?_
  by_cases h2 : (b.size : Int) > 3000
  · exact ite_yes h2 (j0_true K a b)
  exact ite_no h2 (bind_eq awake_yes (join_j0 K a b (by omega) (by omega) hK))
end Go.Proofs.Ytapdnkmaklpoeaa.Pure
