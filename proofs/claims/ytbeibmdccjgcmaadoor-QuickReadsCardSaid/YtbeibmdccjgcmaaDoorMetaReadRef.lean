/- The document's reading of what is said of a file: it tells what the program tells. -/
import Derived.Test.YtbeibmdccjgcmaaDoorQBase
import Derived.Test.YtbeibmdccjgcmaaDoorPQux68
import Derived.Test.YtbeibmdccjgcmaaDoorQTog
namespace Go.Proofs.YtbeibmdccjgcmaaDoor.Me
open Go.RowKit Go.Lib Go.Proofs.YtbeibmdccjgcmaaDoorW.PrintWords Go.Proofs.YtbeibmdccjgcmaaDoorW.PrintLast Go.Proofs.YtbeibmdccjgcmaaDoorW.PrintMore Go.Proofs.YtbeibmdccjgcmaaDoor.PQu Go.Proofs.YtbeibmdccjgcmaaDoor.Pb
set_option linter.unusedVariables false
set_option linter.unusedSimpArgs false
/-- A number so far, or -1: it is too great. -/
def atF : Int → List Int → Int
  | n, [] => n
  | n, c :: l => if n > 1125899906842624 then -1 else atF (n * 256 + c) l
theorem atF_be : ∀ (l : List Int) (n : Int), 0 ≤ n → IsBytes l → (atF n l = l.foldl (fun n c => n * 256 + c) n ∨ (atF n l = -1 ∧ 1125899906842624 < l.foldl (fun n c => n * 256 + c) n))
  | [], n, _, _ => .inl rfl
  | c :: l, n, h0, hb => by
    have hc := hb c (List.mem_cons_self ..)
    have hl : IsBytes l := fun v hv => hb v (List.mem_cons_of_mem _ hv)
    rw [atF]
    by_cases h : n > 1125899906842624
    · rw [if_pos h]
      refine .inr ⟨rfl, ?_⟩
      have hm : ∀ (l : List Int) (n : Int), 0 ≤ n → IsBytes l → n ≤ l.foldl (fun n c => n * 256 + c) n := by
        intro l
        induction l with
        | nil => intro n _ _; exact Int.le_refl _
        | cons x l ih =>
          intro n hn hb
          have hx := hb x (List.mem_cons_self ..)
          have := ih (n * 256 + x) (by omega) (fun v hv => hb v (List.mem_cons_of_mem _ hv))
          rw [List.foldl_cons]
          omega
      have := hm (c :: l) n h0 hb
      omega
    · rw [if_neg h, List.foldl_cons]
      exact atF_be l _ (by omega) hl
theorem atF_le : ∀ (l : List Int) (n : Int), 0 ≤ n → n ≤ 288230376151711999 → IsBytes l → atF n l ≤ 288230376151711999
  | [], n, _, h, _ => h
  | c :: l, n, h0, h, hb => by
    have hc := hb c (List.mem_cons_self ..)
    rw [atF]
    by_cases hn : n > 1125899906842624
    · rw [if_pos hn]; decide
    · rw [if_neg hn]
      exact atF_le l _ (by omega) (by omega) (fun v hv => hb v (List.mem_cons_of_mem _ hv))
theorem at_l0 (s : ByteArray) (u m : Nat) (hs : s.size ≤ 1000000000000000) (hu : u + m ≤ s.size) : ∀ (d j k : Nat) (n : Int), j + d = m → d + 1 ≤ k → 0 ≤ n → n ≤ 4503599627370496000 → hamperref19_at.l0 k s (u : Int) (m : Int) n (j : Int) = some (atF n (((bytesOf s).drop (u + j)).take d))
  | 0, j, k, n, hj, hk, h0, h1 => by
    obtain ⟨k, rfl⟩ : ∃ q, k = q + 1 := ⟨k - 1, by omega⟩
    rw [hamperref19_at.l0, if_neg (by omega)]
    rfl
  | d + 1, j, k, n, hj, hk, h0, h1 => by
    obtain ⟨k, rfl⟩ : ∃ q, k = q + 1 := ⟨k - 1, by omega⟩
    have hl : u + j < (bytesOf s).length := by rw [Go.Proofs.YtbeibmdccjgcmaaDoorW.PrintWords.bytesOf_length]; omega
    have e := bt_bytesOf s (u + j) hl
    have hb := isBytes_of s _ (List.getElem_mem hl)
    have wa : wrap64 ((u : Int) + (j : Int)) = ((u + j : Nat) : Int) := by rw [wrap_id (by omega) (by omega)]; omega
    rw [hamperref19_at.l0, if_pos (by omega), wa, e, List.drop_eq_getElem_cons hl, List.take_succ_cons, atF]
    generalize (bytesOf s)[u + j] = c at hb
    by_cases hn : n > 1125899906842624
    · rw [if_pos hn, if_pos hn]
    · clear wa e hl
      rw [if_neg hn, if_neg hn, if_pos (show (0 : Int) ≤ ((u + j : Nat) : Int) by omega), if_pos (show ((u + j : Nat) : Int) < (s.size : Int) by omega)]
      have b1 : 0 ≤ n * 256 + c := by omega
      have b2 : n * 256 + c ≤ 4503599627370496000 := by omega
      have b3 : j + 1 + d = m := by omega
      have b4 : d + 1 ≤ k := by omega
      obtain ⟨w1, w2, w3, w4⟩ : wrap64 c = c ∧ wrap64 (n * 256) = n * 256 ∧ wrap64 (n * 256 + c) = n * 256 + c ∧ wrap64 ((j : Int) + 1) = ((j + 1 : Nat) : Int) :=
        ⟨wrap_id (by omega) (by omega), wrap_id (by omega) (by omega), wrap_id (by omega) (by omega), by rw [wrap_id (by omega) (by omega)]; omega⟩
      rw [w1, w2, w3, w4, at_l0 s u m hs hu d (j + 1) k _ b3 b4 b1 b2, Nat.add_assoc]
/-- What the document reads for a number: the same, or a number that may not be. -/
theorem at_f (s : ByteArray) (u m : Nat) (hs : s.size ≤ 1000000000000000) (hu : u + m ≤ s.size) (hm : m ≤ 8) (k : Nat) (hk : 20 ≤ k) :
    ∃ v, hamperref19_at.f k s (u : Int) (m : Int) = some v ∧ (v = num s u m ∨ (v = -1 ∧ (num s u m < 0 ∨ 1125899906842624 < num s u m))) := by
  have hf : hamperref19_at.f k s (u : Int) (m : Int) = some (atF 0 (((bytesOf s).drop (u + 0)).take m)) := by
    have h := at_l0 s u m hs hu m 0 k 0 (by omega) (by omega) (by decide) (by decide)
    rw [show ((0 : Nat) : Int) = 0 from rfl] at h
    unfold hamperref19_at.f
    exact h
  refine ⟨atF 0 (((bytesOf s).drop (u + 0)).take m), hf, ?_⟩
  have hb : IsBytes (((bytesOf s).drop (u + 0)).take m) := fun v hv => isBytes_of s v (List.mem_of_mem_drop (List.mem_of_mem_take hv))
  have e : bytesOf (s.extract u (u + m)) = ((bytesOf s).drop (u + 0)).take m := by
    rw [bytesOf_extract, Nat.add_zero, List.drop_take, Nat.add_sub_cancel_left]
  have hbe : beL (((bytesOf s).drop (u + 0)).take m) = (((bytesOf s).drop (u + 0)).take m).foldl (fun n c => n * 256 + c) 0 := rfl
  have hnum : num s u m = IntKind.i64.wrap (beL (((bytesOf s).drop (u + 0)).take m)) := by unfold num; rw [(takes hu).1, e]
  have hl : (((bytesOf s).drop (u + 0)).take m).length ≤ 8 := by rw [List.length_take]; omega
  obtain ⟨p1, p2⟩ := be_pos _ hb
  have p3 : beL (((bytesOf s).drop (u + 0)).take m) < 18446744073709551616 := by
    refine Int.lt_of_lt_of_le p2 ?_
    generalize (((bytesOf s).drop (u + 0)).take m).length = q at hl
    rcases (show q = 0 ∨ q = 1 ∨ q = 2 ∨ q = 3 ∨ q = 4 ∨ q = 5 ∨ q = 6 ∨ q = 7 ∨ q = 8 by omega) with e | e | e | e | e | e | e | e | e <;> subst e <;> decide
  have hA := atF_be _ 0 (Int.le_refl _) hb
  have hB := atF_le _ 0 (Int.le_refl _) (by decide) hb
  rw [← hbe] at hA
  rw [hnum, IntKind.wrap_i64]
  generalize beL (((bytesOf s).drop (u + 0)).take m) = x at p1 p3 hA
  rcases hA with h | ⟨h1, h2⟩
  · rw [h] at hB ⊢
    left
    omega
  · right
    rw [h1]
    omega
theorem refread_f (s : ByteArray) (hs : s.size ≤ 140737488351232) : hamperref19_Read.f 700 s = some ((readA s).nm, (readA s).mo, (readA s).ti, (readA s).sz, (readA s).su, ((readA s).used : Int), (readA s).e) := by
  obtain ⟨n0, hn0, hn1⟩ := num_one s 0
  unfold hamperref19_Read.f
  by_cases h0 : (s.size : Int) < 1
  · rw [if_pos h0, read_short hn0 (by omega), hamperref19_Read.j0, if_pos rfl]
    rfl
  · rw [if_neg h0, if_pos (by omega)]
    have hb0 : bt s 0 = (n0 : Int) := by
      obtain ⟨t1, t2, t3⟩ := takes (s := s) (u := 0) (n := 1) (by omega)
      have hl : 0 < (bytesOf s).length := by rw [Go.Proofs.YtbeibmdccjgcmaaDoorW.PrintWords.bytesOf_length]; omega
      have e := bt_bytesOf s 0 hl
      have e1 : bytesOf (s.extract 0 (0 + 1)) = [(bytesOf s)[0]] := by
        rw [bytesOf_extract, List.drop_zero, List.take_succ_eq_append_getElem hl]
        rfl
      unfold num at hn0
      rw [t1, e1] at hn0
      have e2 : beL [(bytesOf s)[0]] = (bytesOf s)[0] := by simp [beL]
      have hb := isBytes_of s _ (List.getElem_mem hl)
      rw [e2, wrap_id64 hb.1 (by omega)] at hn0
      rw [← hn0]
      exact e
    have w0 : wrap64 (bt s 0) = (n0 : Int) := by rw [hb0, wrap_id (by omega) (by omega)]
    have w1 : wrap64 (1 + (n0 : Int)) = ((1 + n0 : Nat) : Int) := by rw [wrap_id (by omega) (by omega)]; omega
    have w2 : wrap64 (((1 + n0 : Nat) : Int) + 46) = ((1 + n0 + 2 + 8 + 4 + 32 : Nat) : Int) := by rw [wrap_id (by omega) (by omega)]; omega
    have w3 : wrap64 (((1 + n0 : Nat) : Int) + 2) = ((1 + n0 + 2 : Nat) : Int) := by rw [wrap_id (by omega) (by omega)]; omega
    have w4 : wrap64 (((1 + n0 : Nat) : Int) + 10) = ((1 + n0 + 2 + 8 : Nat) : Int) := by rw [wrap_id (by omega) (by omega)]; omega
    have w5 : wrap64 (((1 + n0 : Nat) : Int) + 14) = ((1 + n0 + 2 + 8 + 4 : Nat) : Int) := by rw [wrap_id (by omega) (by omega)]; omega
    rw [w0, w1, w2]
    by_cases h1 : 47 + n0 ≤ s.size
    · rw [decide_eq_false (by omega), hamperref19_Read.j0, if_neg (by decide), w0, w1, w2, w3, w4, w5, if_pos (by omega), if_pos (by omega), if_pos (by omega)]
      obtain ⟨v2, a2, c2⟩ := at_f s (1 + n0) 2 (by omega) (by omega) (by decide) 699 (by decide)
      obtain ⟨v3, a3, c3⟩ := at_f s (1 + n0 + 2) 8 (by omega) (by omega) (by decide) 699 (by decide)
      obtain ⟨v4, a4, c4⟩ := at_f s (1 + n0 + 2 + 8) 4 (by omega) (by omega) (by decide) 699 (by decide)
      refine bind_eq a2 (bind_eq a3 (bind_eq a4 ?_))
      simp only [Int.toNat_natCast]
      rw [if_pos (by omega), if_pos (by omega), if_pos (by omega)]
      have hnm : (s.extract 1 (1 + n0)).size = n0 := by rw [size_ext _ _ _ (by omega)]; omega
      refine bind_eq (refmake_f (s.extract 1 (1 + n0)) v2 v3 v4 (s.extract (1 + n0 + 2 + 8 + 4) (1 + n0 + 2 + 8 + 4 + 32)) (by rw [hnm]; omega) 699 (by decide)) ?_
      have hfit := read_fit hn0 h1
      have hrc := read_cases s
      by_cases hM : mayB (s.extract 1 (1 + n0)) (num s (1 + n0) 2) (num s (1 + n0 + 2) 8) (num s (1 + n0 + 2 + 8) 4) (s.extract (1 + n0 + 2 + 8 + 4) (1 + n0 + 2 + 8 + 4 + 32)) = true
      · rw [if_pos hM] at hfit
        have hM2 := hM
        unfold mayB at hM2
        rw [Bool.and_eq_true] at hM2
        obtain ⟨r1, r2, r3, r4, r5, r6, r7⟩ := rest_iff hM2.2
        have q2 : v2 = num s (1 + n0) 2 := by omega
        have q3 : v3 = num s (1 + n0 + 2) 8 := by omega
        have q4 : v4 = num s (1 + n0 + 2 + 8) 4 := by omega
        subst q2
        subst q3
        subst q4
        have hmk : makeR (s.extract 1 (1 + n0)) (num s (1 + n0) 2) (num s (1 + n0 + 2) 8) (num s (1 + n0 + 2 + 8) 4) (s.extract (1 + n0 + 2 + 8 + 4) (1 + n0 + 2 + 8 + 4 + 32)) = (s.extract 0 (1 + n0 + 2 + 8 + 4 + 32), 0) := by
          unfold makeR
          rw [if_pos hM2.1, if_pos hM2.2]
          rcases hrc with h | ⟨_, _, _, _, h⟩
          · rw [hfit] at h
            have e0 : (0 : Int) = 4 := congrArg Ans.e h
            exact absurd e0 (by decide)
          · rw [hfit] at h
            rw [← h]
        rw [hmk, if_pos rfl, if_pos (by omega), if_pos rfl, hfit]
      · rw [if_neg hM] at hfit
        have hno : (makeR (s.extract 1 (1 + n0)) v2 v3 v4 (s.extract (1 + n0 + 2 + 8 + 4) (1 + n0 + 2 + 8 + 4 + 32))).2 ≠ 0 := by
          unfold makeR
          by_cases hN : nameL (s.extract 1 (1 + n0)).data.toList = true
          · rw [if_pos hN]
            by_cases hR : restB v2 v3 v4 (s.extract (1 + n0 + 2 + 8 + 4) (1 + n0 + 2 + 8 + 4 + 32)) = true
            · exfalso
              obtain ⟨r1, r2, r3, r4, r5, r6, r7⟩ := rest_iff hR
              have q2 : v2 = num s (1 + n0) 2 := by omega
              have q3 : v3 = num s (1 + n0 + 2) 8 := by omega
              have q4 : v4 = num s (1 + n0 + 2 + 8) 4 := by omega
              rw [q2, q3, q4] at hR
              exact hM (by unfold mayB; rw [hN, hR]; rfl)
            · rw [if_neg hR]; decide
          · rw [if_neg hN]; decide
        rw [if_neg hno, hfit]
        rfl
    · rw [decide_eq_true (by omega), hamperref19_Read.j0, if_pos rfl, read_short hn0 h1]
      rfl
end Go.Proofs.YtbeibmdccjgcmaaDoor.Me
