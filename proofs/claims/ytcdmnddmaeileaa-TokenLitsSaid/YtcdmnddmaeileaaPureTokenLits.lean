/- TokenLits: tokens with a Lit for each byte behind them make their text, and these bytes behind it. -/
import Derived.Test.YtcdmnddmaeileaaTokPure
import Derived.Test.YtcdmnddmaeileaaPTokenx8
namespace Go.Proofs.Ytcdmnddmaeileaa.PToken
open Go.RowKit Go.Proofs.YtcdmnddmaeileaaW.PrintWords Go.Proofs.YtcdmnddmaeileaaW.PrintLast Go.Proofs.YtcdmnddmaeileaaW.PrintMore Go.Proofs.Ytcdmnddmaeileaa.Pb
set_option linter.unusedVariables false
set_option linter.unusedSimpArgs false
theorem lits_loop (l : List S23) (s : ByteArray) (hl : l.length ≤ 300) (hs : s.size ≤ 3000) : ∀ (d i k : Nat), i + d = s.size → d < k →
    hamperlaw14_TokenLits.l0 k s (textR l 1073741824 st0).1 (textR l 1073741824 st0).2 (l ++ lits ((bytesOf s).take i)) (i : Int) = some true := by
  have hb : (bytesOf s).length = s.size := bytesOf_length s
  have hll : ∀ i, (l ++ lits ((bytesOf s).take i)).length ≤ 300 + s.size := by
    intro i
    rw [List.length_append, lits, List.length_map, List.length_take]
    omega
  intro d
  induction d with
  | zero =>
    intro i k hi hk
    obtain ⟨k, rfl⟩ : ∃ m, k = m + 1 := ⟨k - 1, by omega⟩
    have ht : (bytesOf s).take i = bytesOf s := List.take_of_length_le (by omega)
    simp only [hamperlaw14_TokenLits.l0]
    refine ite_no (by omega) ?_
    rw [ht]
    have h2 := hll i
    rw [ht] at h2
    refine bind_eq (text_f _ _ (by omega)) ?_
    have ha := textR_app l (lits (bytesOf s)) 1073741824 st0
    have hr := textR_run l 1073741824 st0
    cases hq : runT l 1073741824 st0 with
    | inl r =>
      rw [hq] at ha hr
      simp only at ha hr
      rw [ha, hr]
      have h3 : r.1 = ⟨#[]⟩ ∧ r.2 ≠ 0 := by
        rcases runT_left l _ _ r hq with rfl | rfl
        · exact ⟨rfl, by decide⟩
        · exact ⟨rfl, by decide⟩
      exact ite_yes rfl (ite_no h3.2 (ite_yes ((tl_nil _).mpr h3.1) rfl))
    | inr q =>
      have hlq := runT_len l _ _ q hq
      have h0 : (st0.out).length = 0 := rfl
      rw [hq] at ha hr
      simp only at ha hr
      rw [lits_run (bytesOf s) 1073741824 q (by omega)] at ha
      rw [ha, hr, strOfNums_append]
      refine ite_yes rfl (ite_yes rfl (ite_yes ?_ ?_))
      · show (strOfNums q.out).size + s.size ≤ 9223372036854775807
        rw [size_nums]; omega
      · show some ((strOfNums q.out ++ s).toList == (strOfNums q.out ++ s).toList) = some true
        rw [beq_self_eq_true]
  | succ d ih =>
    intro i k hi hk
    obtain ⟨k, rfl⟩ : ∃ m, k = m + 1 := ⟨k - 1, by omega⟩
    simp only [hamperlaw14_TokenLits.l0]
    have h2 := hll i
    refine ite_yes (by omega) (ite_yes (by omega) (ite_yes (by omega) ?_))
    have e : l ++ lits ((bytesOf s).take i) ++ [(⟨1, bt s (i : Int), 0, 0, 0⟩ : S23)] = l ++ lits ((bytesOf s).take (i + 1)) := by
      have hib : i < (bytesOf s).length := by omega
      rw [bt_bytesOf s i hib, List.append_assoc, List.take_succ_eq_append_getElem hib]
      unfold lits
      rw [List.map_append]
      rfl
    rw [e, wrap_id (by omega) (by omega)]
    exact ih (i + 1) k (by omega) (by omega)
theorem lits_true (k : Nat) (l : List S23) (s : ByteArray) : hamperlaw14_TokenLits.j0 (k + 1) l s true = some true := by
  simp only [hamperlaw14_TokenLits.j0]
  exact ite_yes trivial rfl
theorem tokenLits (l : List S23) (s : ByteArray) : ∃ k, hamperlaw14_TokenLits.f k l s = some true := by
  obtain ⟨K, hK⟩ : ∃ K : Nat, 3100 ≤ K := ⟨3100, Nat.le_refl _⟩
  refine ⟨K + 1, ?_⟩
  unfold hamperlaw14_TokenLits.f
  by_cases h1 : (l.length : Int) > 300
  · exact ite_yes h1 (lits_true K l s)
  refine ite_no h1 ?_
  by_cases h2 : (s.size : Int) > 3000
  · exact ite_yes h2 (lits_true K l s)
  refine ite_no h2 (bind_eq rfl ?_)
  simp only [hamperlaw14_TokenLits.j0]
  refine ite_no (by decide) (bind_eq (text_f l _ (by omega)) (bind_eq rfl (ite_yes (by simp; omega) ?_)))
  have h := lits_loop l s (by omega) (by omega) s.size 0 K (by omega) (by omega)
  have e : l ++ lits ((bytesOf s).take 0) = [] ++ l := by rw [List.take_zero, lits, List.map_nil, List.append_nil, List.nil_append]
  rw [e] at h
  exact h
theorem lits_walk (A0 : Option Addr) (c0 : Nat) (l0 : List S23) (s : ByteArray) (w : World) (hr0 : Kd.C k23 w A0 l0.length l0) (hc0 : l0.length ≤ c0) (_ : ∀ p ∈ l0, (Lit.int .u8 p.f0).wf = true ∧ (Lit.int .u8 p.f1).wf = true ∧ (Lit.int .i64 p.f2).wf = true ∧ (Lit.int .i64 p.f3).wf = true ∧ (Lit.int .i64 p.f4).wf = true) (_ : s.size ≤ 140737488351232) :
    Calls Try.prog 5 #[.slice A0 l0.length c0, .string s] w fun e w' => e = .returned (.bool true) ∧ Below w.heap.size w w' := by
  obtain ⟨k, h⟩ := tokenLits l0 s
  exact hamperlaw14_TokenLits.calls k A0 c0 l0 s true w hr0 hc0 h
end Go.Proofs.Ytcdmnddmaeileaa.PToken
