/- hamperref15.Longest tells the longest match (longS). -/
import Derived.Test.YtaooiffnpnmdeaaMtP
import Derived.Test.YtaooiffnpnmdeaaPIxx1
namespace Go.Proofs.Ytaooiffnpnmdeaa.Mx
open Go.RowKit Go.Proofs.YtaooiffnpnmdeaaW.PrintWords Go.Proofs.YtaooiffnpnmdeaaW.PrintLast Go.Proofs.YtaooiffnpnmdeaaW.PrintMore Go.Proofs.Ytaooiffnpnmdeaa.PIx Go.Proofs.Ytaooiffnpnmdeaa.Mt
set_option linter.unusedVariables false
set_option linter.unusedSimpArgs false
theorem wrap_id {x : Int} (h0 : -9223372036854775808 ≤ x) (h1 : x ≤ 9223372036854775807) : wrap64 x = x := by unfold wrap64; omega
theorem w_nat (a b : Nat) (h : a + b ≤ 1000000) : wrap64 ((a : Int) + (b : Int)) = ((a + b : Nat) : Int) := by rw [wrap_id (by omega) (by omega)]; omega
theorem w_one (a : Nat) (h : a + 1 ≤ 1000000) : wrap64 ((a : Int) + 1) = ((a + 1 : Nat) : Int) := w_nat a 1 h
theorem w_diff (a b : Nat) (h : b ≤ a) (h2 : a ≤ 1000000) : wrap64 ((a : Int) - (b : Int)) = ((a - b : Nat) : Int) := by rw [wrap_id (by omega) (by omega)]; omega
theorem bt_nat {s : ByteArray} {k : Nat} (hk : k < s.size) : bt s (k : Int) = ((s[k]).toNat : Int) :=
  (bt_at s (k : Int) (by rw [Int.toNat_natCast]; exact hk)).symm.trans (by simp only [Int.toNat_natCast])
theorem bt_same {s : ByteArray} {i j : Nat} (hi : i < s.size) (hj : j < s.size) : (bt s (i : Int) = bt s (j : Int)) ↔ same s i j = true := by
  rw [same_iff hi hj, bt_nat hi, bt_nat hj]
  constructor
  · intro h
    have h2 : s[i] = s[j] := UInt8.toNat_inj.1 (by omega)
    first | exact h2 | (rw [h2]; exact beq_self_eq_true _)
  · intro h
    have h2 : s[i] = s[j] := by first | exact h | exact eq_of_beq h
    rw [h2]
def nextB (m e : Nat) (r : Nat × Nat) : Nat × Nat := if 3 ≤ m ∧ r.1 < m then (m, e) else r
theorem tail_ (s : ByteArray) (p m e k : Nat) (r : Nat × Nat) :
    (if (m : Int) ≥ 3 then (if (m : Int) > (r.1 : Int) then (hamperref15_Longest.l0 k s (p : Int) (m : Int) (e : Int) ((e + 1 : Nat) : Int)) else (hamperref15_Longest.l0 k s (p : Int) (r.1 : Int) (r.2 : Int) ((e + 1 : Nat) : Int))) else (hamperref15_Longest.l0 k s (p : Int) (r.1 : Int) (r.2 : Int) ((e + 1 : Nat) : Int))) = hamperref15_Longest.l0 k s (p : Int) ((nextB m e r).1 : Int) ((nextB m e r).2 : Int) ((e + 1 : Nat) : Int) := by
  unfold nextB
  by_cases c : 3 ≤ m
  · rw [if_pos (by omega)]
    by_cases c2 : r.1 < m
    · rw [if_pos (by omega), if_pos ⟨c, c2⟩]
    · rw [if_neg (by omega), if_neg (fun h => c2 h.2)]
  · rw [if_neg (by omega), if_neg (fun h => c h.1)]
theorem ref_l1 (s : ByteArray) (p e : Nat) (r : Nat × Nat) (he : 1 ≤ e) (hep : e ≤ p) (hp : p < s.size) (hs : s.size ≤ 80000) (k : Nat) : ∀ f j, j + f = ml s p e → hamperref15_Longest.l1 (k + f + 1) s (p : Int) (r.1 : Int) (r.2 : Int) (e : Int) (j : Int) = hamperref15_Longest.l0 k s (p : Int) ((nextB (ml s p e) e r).1 : Int) ((nextB (ml s p e) e r).2 : Int) ((e + 1 : Nat) : Int)
  | 0, j, hj => by
    obtain rfl : j = ml s p e := by omega
    have hT := tail_ s p (ml s p e) e k r
    have hall := (ml_ge (s := s) (p := p) (d := e)).1 (Nat.le_refl _)
    have hnot : ml s p e < 258 → p + ml s p e < s.size → same s (p + ml s p e) (p + ml s p e - e) = true → False := fun g1 g2 g3 => by
      have hge := (ml_ge (s := s) (p := p) (d := e) (m := ml s p e + 1)).2 ⟨by omega, fun i hi => by
        by_cases h : i = ml s p e
        · rw [h]
          exact ⟨g2, g3⟩
        · exact hall.2 i (by omega)⟩
      omega
    generalize ml s p e = m at hT hall hnot ⊢
    rw [Nat.add_zero, hamperref15_Longest.l1, w_nat p m (by omega), w_one e (by omega)]
    by_cases c1 : (m : Int) < 258
    · rw [if_pos c1]
      by_cases c2 : ((p + m : Nat) : Int) < (s.size : Int)
      · rw [if_pos c2, if_pos (by omega), w_diff (p + m) e (by omega) (by omega), if_pos (by omega), if_pos (by omega)]
        rw [if_neg (fun h => hnot (by omega) (by omega) ((bt_same (by omega) (by omega)).1 h))]
        exact hT
      · rw [if_neg c2]
        exact hT
    · rw [if_neg c1]
      exact hT
  | f + 1, j, hj => by
    have hall := (ml_ge (s := s) (p := p) (d := e)).1 (Nat.le_refl _)
    have hjs := hall.2 j (by omega)
    have hm := hall.1
    rw [← Nat.add_assoc, hamperref15_Longest.l1, w_nat p j (by omega), if_pos (by omega), if_pos (by omega), if_pos (by omega), w_diff (p + j) e (by omega) (by omega), if_pos (by omega), if_pos (by omega)]
    rw [if_pos ((bt_same (by omega) (by omega)).2 hjs.2), w_one j (by omega)]
    exact ref_l1 s p e r he hep hp hs k f (j + 1) (by omega)
theorem fuel_next {f m k : Nat} (hm : m ≤ 258) (h : (f + 1) * 261 + 2 ≤ k + m + 1 + 1 + 1) : f * 261 + 2 ≤ k := by
  rw [Nat.succ_mul] at h
  generalize f * 261 = z at h ⊢
  omega
theorem ref_l0 (s : ByteArray) (p : Nat) (hp : p < s.size) (hs : s.size ≤ 80000) : ∀ f e k, e + f = min p 32768 → f * 261 + 2 ≤ k → hamperref15_Longest.l0 k s (p : Int) ((bestS s p e).1 : Int) ((bestS s p e).2 : Int) ((e + 1 : Nat) : Int) = some (((bestS s p (min p 32768)).1 : Int), ((bestS s p (min p 32768)).2 : Int)) := by
  intro f
  induction f with
  | zero =>
    intro e k he hk
    obtain ⟨k, rfl⟩ : ∃ k', k = k' + 1 + 1 := ⟨k - 2, by omega⟩
    have hj : ∀ x y z, hamperref15_Longest.j1 (k + 1) s (p : Int) x y z false = some (x, y) := fun x y z => by
      rw [hamperref15_Longest.j1, if_neg Bool.false_ne_true]
    rw [hamperref15_Longest.l0, if_pos (by omega), if_pos (by omega)]
    obtain rfl : e = min p 32768 := by omega
    by_cases c : ((min p 32768 + 1 : Nat) : Int) ≤ (p : Int)
    · rw [if_pos c, decide_eq_false (by omega), hj]
    · rw [if_neg c, hj]
  | succ f ih =>
    intro e k he hk
    have hm := ml_le s p (e + 1)
    obtain ⟨k', rfl⟩ : ∃ k', k = (k' + ml s p (e + 1) + 1) + 1 + 1 := ⟨k - ml s p (e + 1) - 3, by
      rw [Nat.succ_mul] at hk
      generalize f * 261 = z at hk
      omega⟩
    have hk2 := fuel_next hm hk
    rw [hamperref15_Longest.l0, if_pos (by omega), if_pos (by omega), if_pos (by omega), decide_eq_true (by omega), hamperref15_Longest.j1, if_pos rfl]
    have h1 := ref_l1 s p (e + 1) (bestS s p e) (by omega) (by omega) hp hs k' (ml s p (e + 1)) 0 (by omega)
    refine Eq.trans h1 ?_
    have hb : nextB (ml s p (e + 1)) (e + 1) (bestS s p e) = bestS s p (e + 1) := by rw [bestS]; rfl
    rw [hb]
    exact ih (e + 1) k' (by omega) hk2
theorem ref_long (s : ByteArray) (p k : Nat) (hs : s.size ≤ 80000) (hk : 9000000 ≤ k) : hamperref15_Longest.f k s (p : Int) = some (((longS s p).1 : Int), ((longS s p).2 : Int)) := by
  unfold hamperref15_Longest.f longS
  by_cases hp : p < s.size
  · rw [if_pos hp]
    exact ref_l0 s p hp hs (min p 32768) 0 k (by omega) (by
      have : min p 32768 ≤ 32768 := Nat.min_le_right _ _
      generalize min p 32768 = z at this ⊢
      omega)
  · rw [if_neg hp]
    obtain ⟨k, rfl⟩ : ∃ k', k = k' + 1 + 1 := ⟨k - 2, by omega⟩
    rw [hamperref15_Longest.l0, if_pos (by omega), if_neg (by omega), hamperref15_Longest.j1, if_neg Bool.false_ne_true]
    rfl
theorem ref_neg (s : ByteArray) (x : Int) (k : Nat) (hx : ¬ 0 ≤ x) (hk : 2 ≤ k) : hamperref15_Longest.f k s x = some (0, 0) := by
  unfold hamperref15_Longest.f
  obtain ⟨k, rfl⟩ : ∃ k', k = k' + 1 + 1 := ⟨k - 2, by omega⟩
  rw [hamperref15_Longest.l0, if_neg (by omega), hamperref15_Longest.j1, if_neg Bool.false_ne_true]
end Go.Proofs.Ytaooiffnpnmdeaa.Mx
