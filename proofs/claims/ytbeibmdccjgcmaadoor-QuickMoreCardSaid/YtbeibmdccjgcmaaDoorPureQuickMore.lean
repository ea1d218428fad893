/- With one more behind it a list may be just if it may be, that one may be, its name is none of the list's, and there is room for it: for all that the statement takes in. -/
import Derived.Test.YtbeibmdccjgcmaaDoorQLaws
import Derived.Test.YtbeibmdccjgcmaaDoorPQux76
import Derived.Test.YtbeibmdccjgcmaaDoorPQux75
namespace Go.Proofs.YtbeibmdccjgcmaaDoor.PQu
open Go.RowKit Go.Lib Go.Proofs.YtbeibmdccjgcmaaDoorW.PrintWords Go.Proofs.YtbeibmdccjgcmaaDoorW.PrintLast Go.Proofs.YtbeibmdccjgcmaaDoorW.PrintMore Go.Proofs.YtbeibmdccjgcmaaDoor.Pb
set_option linter.unusedVariables false
set_option linter.unusedSimpArgs false
set_option maxRecDepth 100000 in
theorem works_at : hamperlaw21_works.f 0 = some true := by decide +kernel
theorem works_f (k : Nat) : hamperlaw21_works.f k = some true := at_rounds hamperlaw21_works.mono (Nat.zero_le k) works_at
end Go.Proofs.YtbeibmdccjgcmaaDoor.PQu
namespace Go.Proofs.YtbeibmdccjgcmaaDoor.PQu
open Go.RowKit Go.Lib Go.Proofs.YtbeibmdccjgcmaaDoorW.PrintWords Go.Proofs.YtbeibmdccjgcmaaDoorW.PrintLast Go.Proofs.YtbeibmdccjgcmaaDoorW.PrintMore Go.Proofs.YtbeibmdccjgcmaaDoor.Pb
set_option linter.unusedVariables false
set_option linter.unusedSimpArgs false
/-- A size, as the statement counts it. -/
def capM (x : Int) : Int := mn (mx 0 x) 32769
theorem capM_range (x : Int) : 0 ≤ capM x ∧ capM x ≤ 32769 := by
  unfold capM mn mx
  split <;> split <;> omega
theorem capM_id {x : Int} (h0 : 0 ≤ x) (h1 : x ≤ 32768) : capM x = x := by
  unfold capM mn mx
  split <;> split <;> omega
def totM : List MS → Int
  | [] => 0
  | x :: l => totM l + capM x.f3
def totS (l : List MS) : Int := totM l.reverse
theorem totS_snoc (l : List MS) (x : MS) : totS (l ++ [x]) = totS l + capM x.f3 := by
  unfold totS
  rw [List.reverse_append]
  rfl
theorem totM_range : ∀ l : List MS, 0 ≤ totM l ∧ totM l ≤ 32769 * (l.length : Int)
  | [] => ⟨Int.le_refl _, Int.le_refl _⟩
  | x :: l => by
    have h1 := totM_range l
    have h2 := capM_range x.f3
    rw [totM, List.length_cons]
    omega
theorem totS_range (l : List MS) : 0 ≤ totS l ∧ totS l ≤ 32769 * (l.length : Int) := by
  have := totM_range l.reverse
  rwa [List.length_reverse] at this
theorem totS_fine : ∀ (n : Nat) (l : List MS), l.length = n → (∀ x ∈ l, fineQ x = true) → totS l = sumQ l
  | 0, l, hn, _ => by
    obtain rfl := List.eq_nil_of_length_eq_zero hn
    rfl
  | n + 1, l, hn, hf => by
    obtain ⟨m, x, rfl⟩ : ∃ m x, l = m ++ [x] := by
      have hne : l ≠ [] := fun e => by rw [e] at hn; cases hn
      exact ⟨_, _, (List.dropLast_concat_getLast hne).symm⟩
    have hx := (Me.rest_iff (fineQ_parts (hf x (List.mem_append_right _ (List.mem_singleton_self x)))).2).2.2.2.2
    rw [totS_snoc, sumQ_snoc, totS_fine n m (by simpa using hn) (fun y hy => hf y (List.mem_append_left _ hy)), capM_id hx.1 hx.2.1]
theorem mayQ_iff (l : List MS) : mayQ l = true ↔ (∀ x ∈ l, fineQ x = true) ∧ (namesQ l).Nodup ∧ l.length ≤ 64 ∧ sumQ l ≤ 32768 := by
  unfold mayQ
  rw [beq_iff_eq]
  constructor
  · intro h
    obtain ⟨h1, h2, _⟩ := makeQ_zero h
    obtain ⟨h3, h4, h5⟩ := togQ_zero h2
    exact ⟨all_fine h1, (dupQ_iff _).1 h3, h4, h5⟩
  · rintro ⟨h1, h2, h3, h4⟩
    have hb : badQ l = 0 := (badQ_iff l).2 fun x hx => (mkQ_fine x).2 (h1 x hx)
    rw [makeQ_two, if_pos hb]
    unfold togQ
    rw [if_pos ((dupQ_iff _).2 h2), if_neg (by omega)]
/-- Is the name none of the first ones'? -/
def freshM (l : List MS) (nm : ByteArray) : Bool := l.all fun x => x.f0.toList != nm.toList
theorem freshM_iff (l : List MS) (nm : ByteArray) : freshM l nm = true ↔ nm ∉ namesQ l := by
  unfold freshM namesQ
  rw [List.all_eq_true, List.mem_map]
  constructor
  · rintro h ⟨x, hx, e⟩
    have := h x hx
    rw [tl_bne, decide_eq_true_iff] at this
    exact this e
  · intro h x hx
    rw [tl_bne, decide_eq_true_iff]
    exact fun e => h ⟨x, hx, e⟩
theorem more_law (l : List MS) (m : MS) : mayQ (l ++ [m]) = true ↔ mayQ l = true ∧ fineQ m = true ∧ freshM l m.f0 = true ∧ l.length < 64 ∧ totS l + capM m.f3 ≤ 32768 := by
  rw [mayQ_iff, mayQ_iff, freshM_iff]
  have hn : (namesQ (l ++ [m])).Nodup ↔ (namesQ l).Nodup ∧ m.f0 ∉ namesQ l := by
    rw [names_snoc, List.nodup_append]
    constructor
    · rintro ⟨h1, _, h2⟩
      exact ⟨h1, fun h => h2 _ h _ (List.mem_singleton_self _) rfl⟩
    · rintro ⟨h1, h2⟩
      refine ⟨h1, by simp, fun a ha b hb e => ?_⟩
      rw [List.mem_singleton] at hb
      rw [hb] at e
      rw [e] at ha
      exact h2 ha
  rw [hn, sumQ_snoc, List.length_append, List.length_singleton]
  constructor
  · rintro ⟨h1, ⟨h2, h3⟩, h4, h5⟩
    have hl : ∀ x ∈ l, fineQ x = true := fun x hx => h1 x (List.mem_append_left _ hx)
    have hm : fineQ m = true := h1 m (List.mem_append_right _ (List.mem_singleton_self m))
    have hm3 := (Me.rest_iff (fineQ_parts hm).2).2.2.2.2
    have hs := sumQ_nonneg l fun x hx => (Me.rest_iff (fineQ_parts (hl x hx)).2).2.2.2.2.1
    rw [totS_fine _ l rfl hl, capM_id hm3.1 hm3.2.1]
    exact ⟨⟨hl, h2, by omega, by omega⟩, hm, h3, by omega, h5⟩
  · rintro ⟨⟨hl, h2, h4, h5⟩, hm, h3, h6, h7⟩
    have hm3 := (Me.rest_iff (fineQ_parts hm).2).2.2.2.2
    rw [totS_fine _ l rfl hl, capM_id hm3.1 hm3.2.1] at h7
    refine ⟨fun x hx => ?_, ⟨h2, h3⟩, by omega, h7⟩
    rcases List.mem_append.1 hx with q | q
    · exact hl x q
    · rw [List.mem_singleton] at q
      rw [q]
      exact hm
theorem fresh_step (l : List MS) (i : Nat) (h : i < l.length) (nm : ByteArray) : freshM (l.take (i + 1)) nm = (freshM (l.take i) nm && ((rd_T33 l (i : Int)).f0.toList != nm.toList)) := by
  rw [take_at l i h]
  unfold freshM
  rw [List.all_append, List.all_cons, List.all_nil, Bool.and_true]
theorem more_l0 (l : List MS) (hl : l.length ≤ 500) (m : MS) : ∀ (d i k : Nat), i + d = l.length → d + 1 ≤ k → hamperlaw21_QuickMore.l0 k l (l ++ [m]) (freshM (l.take i) m.f0) (totS (l.take i)) (i : Int) m.f0 m.f1 m.f2 m.f3 m.f4 = some true
  | 0, i, k, hi, hk => by
    obtain ⟨k, rfl⟩ : ∃ q, k = q + 1 := ⟨k - 1, by omega⟩
    obtain rfl : i = l.length := by omega
    rw [List.take_length]
    have ht := totS_range l
    have hc := capM_range m.f3
    have hw : wrap64 (totS l + capM m.f3) = totS l + capM m.f3 := wrap_id (by omega) (by omega)
    have law := more_law l m
    have hq : quick_May.f k (l ++ [m]) = some (mayQ (l ++ [m])) := qmay_f k _ (by rw [List.length_append, List.length_singleton]; omega)
    have hf : meta_May.f m.f0 m.f1 m.f2 m.f3 m.f4 = some (fineQ m) := rfl
    have hfalse : ¬ (mayQ l = true ∧ fineQ m = true ∧ freshM l m.f0 = true ∧ l.length < 64 ∧ totS l + capM m.f3 ≤ 32768) → mayQ (l ++ [m]) = false := fun h => Bool.eq_false_iff.2 fun e => h (law.1 e)
    rw [hamperlaw21_QuickMore.l0, if_neg (by omega)]
    refine bind_eq (qmay_f k l (by omega)) ?_
    by_cases h1 : mayQ l = true
    · rw [if_pos h1]
      refine bind_eq hf ?_
      by_cases h2 : fineQ m = true
      · rw [if_pos h2]
        by_cases h3 : freshM l m.f0 = true
        · rw [if_pos h3]
          by_cases h4 : (l.length : Int) < 64
          · rw [if_pos h4]
            refine bind_eq hq ?_
            rw [show mn (mx 0 m.f3) 32769 = capM m.f3 from rfl, hw]
            congr 1
            by_cases h5 : totS l + capM m.f3 ≤ 32768
            · rw [law.2 ⟨h1, h2, h3, by omega, h5⟩, decide_eq_true h5]
              rfl
            · rw [hfalse fun h => h5 h.2.2.2.2, decide_eq_false h5]
              rfl
          · rw [if_neg h4]
            refine bind_eq hq ?_
            rw [hfalse fun h => h4 (by omega)]
            rfl
        · rw [if_neg h3]
          refine bind_eq hq ?_
          rw [hfalse fun h => h3 h.2.2.1]
          rfl
      · rw [if_neg h2]
        refine bind_eq hq ?_
        rw [hfalse fun h => h2 h.2.1]
        rfl
    · rw [if_neg h1]
      refine bind_eq hq ?_
      rw [hfalse fun h => h1 h.1]
      rfl
  | d + 1, i, k, hi, hk => by
    obtain ⟨k, rfl⟩ : ∃ q, k = q + 1 := ⟨k - 1, by omega⟩
    have hlt : i < l.length := by omega
    have ht := totS_range (l.take i)
    have hlen : (l.take i).length ≤ 500 := by rw [List.length_take]; omega
    have hc := capM_range (rd_T33 l (i : Int)).f3
    have hts : totS (l.take (i + 1)) = totS (l.take i) + capM (rd_T33 l (i : Int)).f3 := by rw [take_at l i hlt, totS_snoc]
    have hw : wrap64 (totS (l.take i) + mn (mx 0 (rd_T33 l (i : Int)).f3) 32769) = totS (l.take (i + 1)) := by
      rw [show mn (mx 0 (rd_T33 l (i : Int)).f3) 32769 = capM (rd_T33 l (i : Int)).f3 from rfl, hts]
      exact wrap_id (by omega) (by omega)
    have ih := more_l0 l hl m d (i + 1) k (by omega) (by omega)
    rw [fresh_step l i hlt] at ih
    rw [hamperlaw21_QuickMore.l0, if_pos (by omega), hw, step_w i (by omega)]
    by_cases hfr : freshM (l.take i) m.f0 = true
    · rw [if_pos hfr, if_pos (by omega)]
      rw [hfr, Bool.true_and] at ih
      exact ih
    · rw [if_neg hfr, if_pos (by omega)]
      rw [Bool.eq_false_iff.2 hfr, Bool.false_and] at ih
      exact ih
theorem QuickMore (l : List MS) (hll : l.length ≤ 9223372036854775807) (hnm : ∀ x ∈ l, x.f0.size ≤ 140737488351232) (m : MS) : hamperlaw21_QuickMore.f 5000 l m.f0 m.f1 m.f2 m.f3 m.f4 = some true := by
  unfold hamperlaw21_QuickMore.f
  refine bind_eq (works_f _) ?_
  rw [if_pos rfl]
  obtain ⟨b, e, hb⟩ := large_f l hll hnm 5000 (by decide)
  refine bind_eq e ?_
  rw [hamperlaw21_QuickMore.j0]
  cases b with
  | true =>
    rw [if_pos rfl]
    exact bind_eq (works_f _) rfl
  | false =>
    obtain ⟨h1, _⟩ := hb rfl
    rw [if_neg (by decide)]
    refine bind_eq rfl ?_
    rw [if_pos (by rw [List.length_nil]; omega)]
    refine bind_eq rfl (bind_eq rfl ?_)
    rw [if_pos (by rw [List.length_append, List.length_nil, List.length_singleton]; omega), List.nil_append]
    have h := more_l0 l h1 m l.length 0 4999 (by omega) (by omega)
    rw [List.take_zero] at h
    exact h
theorem QuickMore_walk (A : Option Addr) (c : Nat) (l : List MS) (nm : ByteArray) (mo ti sz : Int) (su : ByteArray) (w : World) (hr : Kd.C k33 w A l.length l) (hc : l.length ≤ c) (hwl : ∀ p ∈ l, p.f0.size ≤ 140737488351232 ∧ (Lit.int .i64 p.f1).wf = true ∧ (Lit.int .i64 p.f2).wf = true ∧ (Lit.int .i64 p.f3).wf = true ∧ p.f4.size ≤ 140737488351232)
    (_ : nm.size ≤ maxLen) (_ : (Lit.int .i64 mo).wf = true) (_ : (Lit.int .i64 ti).wf = true) (_ : (Lit.int .i64 sz).wf = true) (_ : su.size ≤ maxLen) (hT : Me.Tabs w) :
    Calls Tryd.prog 5 #[.slice A l.length c, .agg #[.string nm, .int .i64 mo, .int .i64 ti, .int .i64 sz, .string su]] w fun e w' => e = .returned (.bool true) ∧ Below w.heap.size w w' :=
  hamperlaw21_QuickMore.calls 5000 A c l nm mo ti sz su true w hT hr hc (QuickMore l hr.2.1 (fun x hx => (hwl x hx).1) ⟨nm, mo, ti, sz, su⟩)
end Go.Proofs.YtbeibmdccjgcmaaDoor.PQu
