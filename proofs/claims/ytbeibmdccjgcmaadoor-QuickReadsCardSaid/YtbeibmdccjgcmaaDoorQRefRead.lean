/- The document's reading of a list: it tells what the program's tells. -/
import Derived.Test.YtbeibmdccjgcmaaDoorQPure
import Derived.Test.YtbeibmdccjgcmaaDoorQLaws
import Derived.Test.YtbeibmdccjgcmaaDoorMetaReadRef
import Derived.Test.YtbeibmdccjgcmaaDoorPQux69
import Derived.Test.YtbeibmdccjgcmaaDoorPQux68
namespace Go.Proofs.YtbeibmdccjgcmaaDoor.PQu
open Go.RowKit Go.Lib Go.Proofs.YtbeibmdccjgcmaaDoorW.PrintWords Go.Proofs.YtbeibmdccjgcmaaDoorW.PrintLast Go.Proofs.YtbeibmdccjgcmaaDoorW.PrintMore Go.Proofs.YtbeibmdccjgcmaaDoor.Pb
set_option linter.unusedVariables false
set_option linter.unusedSimpArgs false
theorem qread_f (k : Nat) (s : ByteArray) (h : s.size ≤ 140737488351232) : quick_Read.f k s = some (readQ s) := if_pos h
/-- What the document makes of so many that are told. -/
def endR (s : ByteArray) (d : Nat) (acc : List MS) (L : List (MS × ByteArray)) : List MS × Int :=
  if L.length < d then ([], 4) else (if (makeQ (acc ++ outQ L)).2 = 0 ∧ (makeQ (acc ++ outQ L)).1 = s then (acc ++ outQ L, 0) else ([], 4))
theorem outQ_cons (x : MS × ByteArray) (L : List (MS × ByteArray)) : outQ (x :: L) = x.1 :: outQ L := rfl
theorem used_le9 (s : ByteArray) (a u : Nat) (h : u ≤ (s.extract a s.size).size) (ha : a ≤ s.size) : a + u ≤ s.size := by
  rw [ByteArray.size_extract] at h
  omega
theorem ext_ext (s : ByteArray) (a u : Nat) (h : u ≤ (s.extract a s.size).size) : (s.extract a s.size).extract u (s.extract a s.size).size = s.extract (a + u) s.size := by
  rw [ByteArray.size_extract] at h ⊢
  rw [ByteArray.extract_extract]
  congr 1
  omega
theorem refread_l0 (s : ByteArray) (hs : s.size ≤ 1000000) (h5 : 4 < s.size) (many : Nat) (hm : bt s 4 = (many : Int)) (hmm : many ≤ 255) : ∀ (d i k a : Nat) (acc : List MS), i + d = many → 400002 + d ≤ k → a ≤ s.size → acc.length = i → (∀ x ∈ acc, fineQ x = true) →
    hamperref21_Read.l0 k s acc (a : Int) (i : Int) = some (endR s d acc (tellQ d (s.extract a s.size)))
  | 0, i, k, a, acc, hi, hk, ha, hl, hf => by
    obtain ⟨k, rfl⟩ : ∃ q, k = q + 1 := ⟨k - 1, by omega⟩
    have hw : wrap64 (bt s 4) = (many : Int) := by rw [hm, wrap_id (by omega) (by omega)]
    rw [hamperref21_Read.l0, if_pos (by omega), hw, if_neg (by omega)]
    refine bind_eq (refmake_f acc (by omega) (fun x hx => Nat.le_trans (Me.name_len (fineQ_parts (hf x hx)).1) (by decide)) k (fuel (by omega) (by omega))) ?_
    unfold endR
    rw [tellQ, if_neg (show ¬ ([] : List (MS × ByteArray)).length < 0 by decide), show outQ [] = [] from rfl, List.append_nil]
    by_cases h0 : (makeQ acc).2 = 0
    · rw [if_pos h0]
      by_cases h1 : (makeQ acc).1 = s
      · rw [if_pos (tl_iff.2 h1), if_pos ⟨h0, h1⟩]
      · rw [if_neg (fun h => h1 (tl_iff.1 h)), if_neg (fun h => h1 h.2)]
    · rw [if_neg h0, if_neg (fun h => h0 h.1)]
  | d + 1, i, k, a, acc, hi, hk, ha, hl, hf => by
    obtain ⟨k, rfl⟩ : ∃ q, k = q + 1 := ⟨k - 1, by omega⟩
    have hw : wrap64 (bt s 4) = (many : Int) := by rw [hm, wrap_id (by omega) (by omega)]
    have hsz : (s.extract a s.size).size ≤ 1000000 := by rw [ByteArray.size_extract]; omega
    rw [hamperref21_Read.l0, if_pos (by omega), hw, if_pos (by omega), if_pos (by omega), if_pos (by omega), Int.toNat_natCast]
    clear hw
    refine bind_eq (at_rounds (g := fun k => hamperref19_Read.f k (s.extract a s.size)) (hamperref19_Read.mono (s.extract a s.size)) (by omega : 700 ≤ k) (Me.refread_f _ (by omega))) ?_
    dsimp only
    rcases Me.read_cases (s.extract a s.size) with h | ⟨h0, h1, h2, h3, h4⟩
    · rw [h, if_neg (by decide), tellQ, h, if_neg (by decide)]
      unfold endR
      rw [if_pos (by rw [List.length_nil]; omega)]
    · have hau := used_le9 s a _ h3 ha
      have hu := h3
      rw [ByteArray.size_extract] at hu
      have hwa : wrap64 ((a : Int) + ((Me.readA (s.extract a s.size)).used : Int)) = ((a + (Me.readA (s.extract a s.size)).used : Nat) : Int) := by rw [wrap_id (by omega) (by omega)]; omega
      rw [if_pos h0, if_pos (by omega), hwa, step_w i (by omega)]
      have ih := refread_l0 s hs h5 many hm hmm d (i + 1) k (a + (Me.readA (s.extract a s.size)).used) (acc ++ [msOf (s.extract a s.size)]) (by omega) (by omega) hau (by rw [List.length_append, List.length_singleton]; omega) (fun x hx => by
        rcases List.mem_append.1 hx with q | q
        · exact hf x q
        · rw [List.mem_singleton] at q
          rw [q]
          exact h1)
      rw [show ([⟨(Me.readA (s.extract a s.size)).nm, (Me.readA (s.extract a s.size)).mo, (Me.readA (s.extract a s.size)).ti, (Me.readA (s.extract a s.size)).sz, (Me.readA (s.extract a s.size)).su⟩] : List MS) = [msOf (s.extract a s.size)] from rfl, ih]
      congr 1
      rw [tellQ, if_pos h0, ext_ext _ _ _ h3]
      unfold endR
      rw [List.length_cons, outQ_cons, List.append_assoc, List.singleton_append]
      simp only [Nat.add_lt_add_iff_right]
theorem endR_made {s : ByteArray} {d : Nat} {acc : List MS} {L : List (MS × ByteArray)} : endR s d acc L = ([], 4) ∨ ∃ l, endR s d acc L = (l, 0) ∧ makeQ l = (s, 0) := by
  unfold endR
  by_cases h1 : L.length < d
  · rw [if_pos h1]; exact .inl rfl
  · rw [if_neg h1]
    by_cases h2 : (makeQ (acc ++ outQ L)).2 = 0 ∧ (makeQ (acc ++ outQ L)).1 = s
    · rw [if_pos h2]; exact .inr ⟨_, rfl, Prod.ext h2.2 h2.1⟩
    · rw [if_neg h2]; exact .inl rfl
/-- The document reads the same list. -/
theorem refread_q (s : ByteArray) (hs : s.size ≤ 1000000) (k : Nat) (hk : 400300 ≤ k) : hamperref21_Read.f k s = some (readQ s) := by
  unfold hamperref21_Read.f
  by_cases h37 : (s.size : Int) < 37
  · rw [if_pos h37]
    have hn : ¬ soundQ s = true := by
      unfold soundQ
      rw [decide_eq_false (by omega), Bool.false_and]
      decide
    unfold readQ
    rw [if_neg hn]
  · rw [if_neg h37]
    have hr := bt_range s 4
    obtain ⟨many, hm⟩ : ∃ m : Nat, bt s 4 = (m : Int) := ⟨(bt s 4).toNat, by omega⟩
    have h := refread_l0 s hs (by omega) many hm (by omega) many 0 k 5 [] (by omega) (by omega) (by omega) rfl (fun x hx => by cases hx)
    rw [show ((0 : Nat) : Int) = 0 from rfl, show ((5 : Nat) : Int) = 5 from rfl] at h
    rw [h]
    congr 1
    rcases endR_made (s := s) (d := many) (acc := []) (L := tellQ many (s.extract 5 s.size)) with e | ⟨l, e, hl⟩
    · rcases readQ_cases s with q | ⟨l, q, hl⟩
      · rw [e, q]
      · exfalso
        obtain ⟨hf, hl64, hse, h1, h2⟩ := made_parts hl
        obtain ⟨hmany, hb⟩ := made_many hl
        have hml : many = l.length := by rw [hb] at hm; omega
        have hx : s.extract 5 s.size = catQ l ++ Bk.blakeSum (bodyQ l) := by
          have e1 : s = headQ l.length ++ (catQ l ++ Bk.blakeSum (bodyQ l)) := by
            rw [← app_assoc]
            exact hse
          have e2 := ext_app_right (headQ l.length) (catQ l ++ Bk.blakeSum (bodyQ l))
          rw [← e1, headQ_size] at e2
          exact e2
        have hpl : (pairsT (Bk.blakeSum (bodyQ l)) l).length = l.length := by rw [← outQ_len, out_pairs]
        rw [hx, hml, tell_cat _ l hf] at e
        unfold endR at e
        rw [hpl, if_neg (by omega), out_pairs, List.nil_append, if_pos ⟨by rw [hl], by rw [hl]⟩] at e
        have := congrArg Prod.snd e
        exact absurd this (by simp)
    · rw [e, read_make hl]
end Go.Proofs.YtbeibmdccjgcmaaDoor.PQu
