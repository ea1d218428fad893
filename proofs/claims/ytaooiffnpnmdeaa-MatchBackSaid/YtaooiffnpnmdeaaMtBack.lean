/- The tokens that Find tells make the text again. -/
import Derived.Test.YtaooiffnpnmdeaaMtI
import Derived.Test.YtaooiffnpnmdeaaTokText
namespace Go.Proofs.Ytaooiffnpnmdeaa.Mt
open Go.RowKit Go.Proofs.YtaooiffnpnmdeaaW.PrintWords Go.Proofs.YtaooiffnpnmdeaaW.PrintLast Go.Proofs.YtaooiffnpnmdeaaW.PrintMore Go.Proofs.Ytaooiffnpnmdeaa.PIx
set_option linter.unusedVariables false
set_option linter.unusedSimpArgs false
def tokX (t : Tok) : S27 := ⟨t.kind, t.byte, t.len, t.dist, t.slot⟩
/-- A text's byte at a place, as a number. -/
def byteN (s : ByteArray) (i : Nat) : Int := ((s.data.getD i 0).toNat : Int)
def upTo (s : ByteArray) (p : Nat) : List Int := (List.range p).map (byteN s)
theorem upTo_succ (s : ByteArray) (p : Nat) : upTo s (p + 1) = upTo s p ++ [byteN s p] := by
  unfold upTo
  rw [List.range_succ, List.map_append]
  rfl
theorem upTo_len (s : ByteArray) (p : Nat) : (upTo s p).length = p := by
  unfold upTo
  rw [List.length_map, List.length_range]
theorem upTo_at (s : ByteArray) (p i : Nat) (h : i < p) : (upTo s p).getD i 0 = byteN s i := by
  unfold upTo
  rw [List.getD_eq_getElem?_getD, List.getElem?_map, List.getElem?_range h]
  rfl
theorem byteN_same {s : ByteArray} {i j : Nat} (h : same s i j = true) : byteN s i = byteN s j := by
  unfold same at h
  unfold byteN
  rw [Array.getD_eq_getD_getElem?, Array.getD_eq_getD_getElem?, eq_of_beq h]
theorem upTo_grow (s : ByteArray) (p d : Nat) (h1 : 1 ≤ d) (h2 : d ≤ p) : ∀ j, j ≤ ml s p d → grow d j (upTo s p) = upTo s (p + j)
  | 0, _ => rfl
  | j + 1, hj => by
    rw [grow, upTo_grow s p d h1 h2 j (by omega), upTo_len, upTo_at s (p + j) _ (by omega), ← Nat.add_assoc, upTo_succ]
    have hs := ((ml_ge.1 (Nat.le_refl (ml s p d))).2 j (by omega)).2
    rw [byteN_same hs]
theorem upTo_all (s : ByteArray) : strOfNums (upTo s s.size) = s := by
  have hz : s.data.size = s.size := rfl
  unfold strOfNums upTo
  rw [List.map_map]
  apply ByteArray.ext
  apply Array.ext_getElem?
  intro i
  rw [List.getElem?_toArray, List.getElem?_map]
  by_cases h : i < s.size
  · rw [List.getElem?_range h, Array.getElem?_eq_getElem (show i < s.data.size from h)]
    show some (UInt8.ofNat (byteN s i).toNat) = _
    unfold byteN
    rw [Int.toNat_natCast, Array.getD_eq_getD_getElem?, Array.getElem?_eq_getElem (show i < s.data.size from h)]
    show some (UInt8.ofNat (s.data[i].toNat)) = _
    rw [UInt8.ofNat_toNat]
  · rw [List.getElem?_eq_none (by rw [List.length_range]; omega), Array.getElem?_eq_none (by omega)]
    rfl
theorem long_is (s : ByteArray) (p : Nat) : (longS s p).1 = 0 ∨ (3 ≤ (longS s p).1 ∧ 1 ≤ (longS s p).2 ∧ (longS s p).2 ≤ p ∧ (longS s p).2 ≤ 32768 ∧ ml s p (longS s p).2 = (longS s p).1) := by
  have key : ∀ D, (bestS s p D).1 = 0 ∨ (3 ≤ (bestS s p D).1 ∧ 1 ≤ (bestS s p D).2 ∧ (bestS s p D).2 ≤ D ∧ ml s p (bestS s p D).2 = (bestS s p D).1) := fun D => by
    induction D with
    | zero => exact .inl rfl
    | succ D ih =>
      rw [bestS]
      by_cases h : 3 ≤ ml s p (D + 1) ∧ (bestS s p D).1 < ml s p (D + 1)
      · rw [if_pos h]
        exact .inr ⟨h.1, by omega, Nat.le_refl _, rfl⟩
      · rw [if_neg h]
        rcases ih with e | ⟨e1, e2, e3, e4⟩
        · exact .inl e
        · exact .inr ⟨e1, e2, by omega, e4⟩
  unfold longS
  split
  · rcases key (min p 32768) with e | ⟨e1, e2, e3, e4⟩
    · exact .inl e
    · exact .inr ⟨e1, e2, by omega, by omega, e4⟩
  · exact .inl rfl
theorem rowN_at {a b c d x : Int} (h : 0 ≤ PIx.rowAt a b c d x) : PIx.rowAt a b c d x < 4 ∧ rowN a b c d (PIx.rowAt a b c d x) = x := by
  unfold PIx.rowAt at h ⊢
  by_cases h0 : x = a
  · rw [if_pos h0]; exact ⟨by decide, h0.symm⟩
  · rw [if_neg h0] at h ⊢
    by_cases h1 : x = b
    · rw [if_pos h1]; exact ⟨by decide, h1.symm⟩
    · rw [if_neg h1] at h ⊢
      by_cases h2 : x = c
      · rw [if_pos h2]; exact ⟨by decide, h2.symm⟩
      · rw [if_neg h2] at h ⊢
        by_cases h3 : x = d
        · rw [if_pos h3]; exact ⟨by decide, h3.symm⟩
        · rw [if_neg h3] at h
          exact absurd h (by decide)
theorem step_lit (s : ByteArray) (p : Nat) (a b c d : Int) : PIx.stepT ⟨upTo s p, a, b, c, d⟩ (tokX (litT s p)) = some ⟨upTo s (p + 1), a, b, c, d⟩ := by
  unfold PIx.stepT
  refine (if_pos (show (1 : Int) = 1 from rfl)).trans ?_
  refine (if_pos (show (0 : Int) = 0 ∧ (0 : Int) = 0 ∧ (0 : Int) = 0 from ⟨rfl, rfl, rfl⟩)).trans ?_
  rw [upTo_succ]
  rfl
theorem step_mat (s : ByteArray) (p n dd : Nat) (a b c d : Int) (h1 : 3 ≤ n) (h2 : n ≤ 258) (h3 : 1 ≤ dd) (h4 : dd ≤ p) (h5 : dd ≤ 32768) (h6 : ml s p dd = n) : PIx.stepT ⟨upTo s p, a, b, c, d⟩ (tokX (matT n dd (a, b, c, d))) = some ⟨upTo s (p + n), (front a b c d (dd : Int)).1, (front a b c d (dd : Int)).2.1, (front a b c d (dd : Int)).2.2.1, (front a b c d (dd : Int)).2.2.2⟩ := by
  have hg : grow dd n (upTo s p) = upTo s (p + n) := upTo_grow s p dd h3 h4 n (by omega)
  have hok : okD (dd : Int) (n : Int) (upTo s p).length = true := by
    unfold okD
    rw [upTo_len]
    exact decide_eq_true ⟨by omega, by omega, by omega, by omega, by omega⟩
  unfold matT
  by_cases hr : 0 ≤ PIx.rowAt a b c d (dd : Int)
  · obtain ⟨r1, r2⟩ := rowN_at hr
    rw [if_pos hr]
    dsimp only at r1 r2 ⊢
    generalize PIx.rowAt a b c d (dd : Int) = j at hr r1 r2 ⊢
    have hx : dX a b c d 3 0 j = (dd : Int) := by
      unfold dX
      rw [if_neg (by decide), r2]
    have hdo : dOk a b c d (upTo s p).length 3 0 (n : Int) 0 j = true := by
      unfold dOk
      rw [if_neg (by decide), if_pos rfl, r2, hok, decide_eq_true ⟨rfl, rfl, hr, r1⟩]
      rfl
    show PIx.stepT ⟨upTo s p, a, b, c, d⟩ ⟨3, 0, (n : Int), 0, j⟩ = _
    unfold PIx.stepT
    dsimp only
    rw [if_neg (by decide), if_pos hdo, hx, Int.toNat_natCast, Int.toNat_natCast, hg]
  · rw [if_neg hr]
    have hx : dX a b c d 2 (dd : Int) 0 = (dd : Int) := by
      unfold dX
      rw [if_pos rfl]
    have hdo : dOk a b c d (upTo s p).length 2 0 (n : Int) (dd : Int) 0 = true := by
      unfold dOk
      rw [if_pos rfl, hok, decide_eq_true ⟨rfl, rfl⟩]
      rfl
    show PIx.stepT ⟨upTo s p, a, b, c, d⟩ ⟨2, 0, (n : Int), (dd : Int), 0⟩ = _
    unfold PIx.stepT
    dsimp only
    rw [if_neg (by decide), if_pos hdo, hx, Int.toNat_natCast, Int.toNat_natCast, hg]
theorem text_find (s : ByteArray) (lim : Int) (hl : (s.size : Int) ≤ lim) : ∀ f p a b c d, p ≤ s.size → s.size ≤ p + f → textR ((findL s f p (a, b, c, d)).map tokX) lim ⟨upTo s p, a, b, c, d⟩ = (s, 0) := by
  intro f
  induction f with
  | zero =>
    intro p a b c d h1 h2
    obtain rfl : p = s.size := by omega
    show (strOfNums (upTo s s.size), (0 : Int)) = _
    rw [upTo_all]
  | succ f ih =>
    intro p a b c d h1 h2
    rw [findL]
    by_cases hp : p < s.size
    · rw [if_pos hp]
      by_cases hc : (longS s p).1 = 0 ∨ (longS s p).1 < (longS s (p + 1)).1
      · rw [if_pos hc, List.map_cons, textR, step_lit]
        dsimp only
        rw [upTo_len, if_neg (by omega)]
        exact ih (p + 1) a b c d (by omega) (by omega)
      · rw [if_neg hc]
        obtain ⟨g1, _, g3⟩ := long_facts s p
        rcases long_is s p with e | ⟨e1, e2, e3, e4, e5⟩
        · exact absurd (.inl e) hc
        · rw [List.map_cons, textR, step_mat s p _ _ a b c d e1 g1 e2 e3 e4 e5]
          dsimp only
          rw [upTo_len, if_neg (by omega)]
          exact ih _ _ _ _ _ (by omega) (by omega)
    · rw [if_neg hp]
      obtain rfl : p = s.size := by omega
      show (strOfNums (upTo s s.size), (0 : Int)) = _
      rw [upTo_all]
/-- What Text tells of the tokens of a text. -/
theorem text_back (s : ByteArray) (lim : Int) (hl : (s.size : Int) ≤ lim) : textR ((findS s).map tokX) lim st0 = (s, 0) :=
  text_find s lim hl s.size 0 0 0 0 0 (Nat.zero_le _) (by omega)
theorem best_mostX (s : ByteArray) (p : Nat) : ∀ D d, 1 ≤ d → d ≤ D → 3 ≤ ml s p d → ml s p d ≤ (bestS s p D).1 ∧ (ml s p d = (bestS s p D).1 → (bestS s p D).2 ≤ d)
  | 0, d, h1, h2, _ => by omega
  | D + 1, d, h1, h2, h3 => by
    rw [bestS]
    by_cases h : 3 ≤ ml s p (D + 1) ∧ (bestS s p D).1 < ml s p (D + 1)
    · rw [if_pos h]
      by_cases hd : d = D + 1
      · subst hd
        exact ⟨Nat.le_refl _, fun _ => Nat.le_refl _⟩
      · have ih := best_mostX s p D d h1 (by omega) h3
        refine ⟨by show ml s p d ≤ ml s p (D + 1); omega, fun e => ?_⟩
        have e' : ml s p d = ml s p (D + 1) := e
        omega
    · rw [if_neg h]
      by_cases hd : d = D + 1
      · subst hd
        refine ⟨by omega, fun e => ?_⟩
        have := best_far s p D
        omega
      · exact best_mostX s p D d h1 (by omega) h3
/-- A match that is told ends where it must. -/
theorem long_ends {s : ByteArray} {p : Nat} (h : (longS s p).1 ≠ 0) (h1 : (longS s p).1 < 258) (h2 : p + (longS s p).1 < s.size) : same s (p + (longS s p).1) (p + (longS s p).1 - (longS s p).2) = false := by
  rcases long_is s p with e | ⟨e1, e2, e3, e4, e5⟩
  · exact absurd e h
  · cases hs : same s (p + (longS s p).1) (p + (longS s p).1 - (longS s p).2) with
    | false => rfl
    | true =>
      have hall := (ml_ge.1 (Nat.le_refl (ml s p (longS s p).2))).2
      have hge := (ml_ge (s := s) (p := p) (d := (longS s p).2) (m := (longS s p).1 + 1)).2 ⟨by omega, fun i hi => by
        by_cases hi2 : i = (longS s p).1
        · rw [hi2]
          exact ⟨h2, hs⟩
        · exact hall i (by omega)⟩
      omega
/-- No nearer distance has as many. -/
theorem long_near {s : ByteArray} {p near : Nat} (h : (longS s p).1 ≠ 0) (h1 : 1 ≤ near) (h2 : near < (longS s p).2) : ml s p near < (longS s p).1 := by
  rcases long_is s p with e | ⟨e1, e2, e3, e4, e5⟩
  · exact absurd e h
  · apply Nat.lt_of_not_le
    intro hle
    have hb := best_mostX s p (min p 32768) near h1 (by omega) (by omega)
    have hL : longS s p = bestS s p (min p 32768) := by
      unfold longS at h ⊢
      by_cases hp : p < s.size
      · rw [if_pos hp]
      · rw [if_neg hp] at h
        exact absurd rfl h
    rw [← hL] at hb
    have := hb.2 (by omega)
    omega
end Go.Proofs.Ytaooiffnpnmdeaa.Mt
