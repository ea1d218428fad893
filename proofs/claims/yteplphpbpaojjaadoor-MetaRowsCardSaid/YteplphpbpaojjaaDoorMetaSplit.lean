/- Steps and UTF-8: a slash parts both. -/
import Derived.Test.YteplphpbpaojjaaDoorMetaPlain
namespace Go.Proofs.YteplphpbpaojjaaDoor.Me
open Go.Lib
set_option linter.unusedVariables false
set_option linter.unusedSimpArgs false
theorem lo_128 : ∀ c : Fin 256, (firstT c.val % 8 = 2 ∨ firstT c.val % 8 = 3 ∨ firstT c.val % 8 = 4) → 128 ≤ accLo (firstT c.val / 16) := by decide +kernel
theorem getD_left (a b : List UInt8) (i : Nat) (h : i < a.length) : (a ++ b).getD i 0 = a.getD i 0 := by
  rw [List.getD_eq_getElem?_getD, List.getD_eq_getElem?_getD, List.getElem?_append_left h]
theorem getD_mid (a b : List UInt8) (c : UInt8) : (a ++ c :: b).getD a.length 0 = c := by
  simp [List.getD_eq_getElem?_getD]
theorem chk2 (n b1 b2 b3 lo hi : Nat) : checkN n b1 b2 b3 2 lo hi = if n < 2 ∨ b1 < lo ∨ hi < b1 then none else some 2 := rfl
theorem chk3 (n b1 b2 b3 lo hi : Nat) : checkN n b1 b2 b3 3 lo hi = if n < 3 ∨ b1 < lo ∨ hi < b1 ∨ b2 < 128 ∨ 191 < b2 then none else some 3 := rfl
theorem chk4 (n b1 b2 b3 lo hi : Nat) : checkN n b1 b2 b3 4 lo hi = if n < 4 ∨ b1 < lo ∨ hi < b1 ∨ b2 < 128 ∨ 191 < b2 ∨ b3 < 128 ∨ 191 < b3 then none else some 4 := rfl
theorem chkN {X : Nat} (h2 : X ≠ 2) (h3 : X ≠ 3) (h4 : X ≠ 4) (n b1 b2 b3 lo hi : Nat) : checkN n b1 b2 b3 X lo hi = none := by
  unfold checkN
  rw [if_neg h2, if_neg h3, if_neg h4]
theorem valid_slash : ∀ (n : Nat) (a b : List UInt8), a.length ≤ n → validD (a ++ 47 :: b) = (validD a && validD b)
  | _, [], b, _ => by
    rw [List.nil_append, validD_cons _ _ (by decide), validD_nil, Bool.true_and]
  | 0, c :: a, b, h => by simp at h
  | n + 1, c :: a, b, h => by
    simp only [List.length_cons] at h
    by_cases hc : c.toNat < 128
    · rw [List.cons_append, validD_cons _ _ hc, validD_cons _ _ hc]
      exact valid_slash n a b (by omega)
    · have h0a : ((c :: a).getD 0 0) = c := rfl
      have h0l : ((c :: a ++ 47 :: b).getD 0 0) = c := rfl
      rw [validD_lead (c :: a ++ 47 :: b) (by simp) (by rw [h0l]; omega), validD_lead (c :: a) (by simp) (by rw [h0a]; omega), h0a, h0l]
      have hlo := lo_128 ⟨c.toNat, c.toNat_lt⟩
      dsimp only at hlo
      generalize firstT c.toNat % 8 = X at hlo ⊢
      generalize accLo (firstT c.toNat / 16) = lo at hlo ⊢
      generalize accHi (firstT c.toNat / 16) = hi
      have s47 : (47 : UInt8).toNat = 47 := rfl
      have hL : (c :: a ++ 47 :: b).length = a.length + 1 + (b.length + 1) := by simp; omega
      have hA : (c :: a).length = a.length + 1 := rfl
      have g1 : 1 < (c :: a).length → ((c :: a ++ 47 :: b).getD 1 0) = (c :: a).getD 1 0 := getD_left _ _ 1
      have g2 : 2 < (c :: a).length → ((c :: a ++ 47 :: b).getD 2 0) = (c :: a).getD 2 0 := getD_left _ _ 2
      have g3 : 3 < (c :: a).length → ((c :: a ++ 47 :: b).getD 3 0) = (c :: a).getD 3 0 := getD_left _ _ 3
      have m : ((c :: a ++ 47 :: b).getD (c :: a).length 0) = 47 := getD_mid _ _ _
      rw [hA] at g1 g2 g3 m
      have dr : ∀ k, k ≤ a.length + 1 → (c :: a ++ 47 :: b).drop k = (c :: a).drop k ++ 47 :: b := fun k hk => List.drop_append_of_le_length (by rw [hA]; exact hk)
      rw [hL, hA]
      by_cases h2 : X = 2
      · subst h2
        have hlo := hlo (.inl rfl)
        rw [chk2, chk2]
        by_cases hn : a.length + 1 < 2
        · have e1 : a.length + 1 = 1 := by omega
          rw [e1] at m
          rw [m, if_pos (.inr (.inl (by rw [s47]; omega))), if_pos (.inl hn)]
          rfl
        · rw [g1 (by omega)]
          by_cases hr : ((c :: a).getD 1 0).toNat < lo ∨ hi < ((c :: a).getD 1 0).toNat
          · rw [if_pos (.inr hr), if_pos (.inr hr)]
            rfl
          · rw [if_neg (fun k => k.elim (fun k => by omega) hr), if_neg (fun k => k.elim hn hr)]
            dsimp only
            rw [dr 2 (by omega)]
            exact valid_slash n _ b (by rw [List.length_drop, hA]; omega)
      · by_cases h3 : X = 3
        · subst h3
          have hlo := hlo (.inr (.inl rfl))
          rw [chk3, chk3]
          by_cases hn : a.length + 1 < 3
          · rw [if_pos (show a.length + 1 < 3 ∨ _ from .inl hn)]
            rcases (show a.length + 1 = 1 ∨ a.length + 1 = 2 by omega) with e1 | e1
            · rw [e1] at m
              rw [m, if_pos (.inr (.inl (by rw [s47]; omega)))]
              rfl
            · rw [e1] at m
              rw [m, if_pos (.inr (.inr (.inr (.inl (by rw [s47]; omega)))))]
              rfl
          · rw [g1 (by omega), g2 (by omega)]
            by_cases hr : ((c :: a).getD 1 0).toNat < lo ∨ hi < ((c :: a).getD 1 0).toNat ∨ ((c :: a).getD 2 0).toNat < 128 ∨ 191 < ((c :: a).getD 2 0).toNat
            · rw [if_pos (.inr hr), if_pos (.inr hr)]
              rfl
            · rw [if_neg (fun k => k.elim (fun k => by omega) hr), if_neg (fun k => k.elim hn hr)]
              dsimp only
              rw [dr 3 (by omega)]
              exact valid_slash n _ b (by rw [List.length_drop, hA]; omega)
        · by_cases h4 : X = 4
          · subst h4
            have hlo := hlo (.inr (.inr rfl))
            rw [chk4, chk4]
            by_cases hn : a.length + 1 < 4
            · rw [if_pos (show a.length + 1 < 4 ∨ _ from .inl hn)]
              rcases (show a.length + 1 = 1 ∨ a.length + 1 = 2 ∨ a.length + 1 = 3 by omega) with e1 | e1 | e1
              · rw [e1] at m
                rw [m, if_pos (.inr (.inl (by rw [s47]; omega)))]
                rfl
              · rw [e1] at m
                rw [m, if_pos (.inr (.inr (.inr (.inl (by rw [s47]; omega)))))]
                rfl
              · rw [e1] at m
                rw [m, if_pos (.inr (.inr (.inr (.inr (.inr (.inl (by rw [s47]; omega)))))))]
                rfl
            · rw [g1 (by omega), g2 (by omega), g3 (by omega)]
              by_cases hr : ((c :: a).getD 1 0).toNat < lo ∨ hi < ((c :: a).getD 1 0).toNat ∨ ((c :: a).getD 2 0).toNat < 128 ∨ 191 < ((c :: a).getD 2 0).toNat ∨ ((c :: a).getD 3 0).toNat < 128 ∨ 191 < ((c :: a).getD 3 0).toNat
              · rw [if_pos (.inr hr), if_pos (.inr hr)]
                rfl
              · rw [if_neg (fun k => k.elim (fun k => by omega) hr), if_neg (fun k => k.elim hn hr)]
                dsimp only
                rw [dr 4 (by omega)]
                exact valid_slash n _ b (by rw [List.length_drop, hA]; omega)
          · rw [chkN h2 h3 h4, chkN h2 h3 h4]
            rfl
theorem valid_app (a b : List UInt8) : validD (a ++ 47 :: b) = (validD a && validD b) := valid_slash a.length a b (Nat.le_refl _)
/-! ### Steps -/
theorem steps_app : ∀ a b : List UInt8, stepsL (a ++ 47 :: b) = stepsL a ++ stepsL b
  | [], b => by
    show stepsL (47 :: b) = [] :: stepsL b
    conv => lhs; rw [stepsL, if_pos rfl]
  | c :: a, b => by
    rw [List.cons_append]
    by_cases hc : c = 47
    · rw [stepsL, if_pos hc, stepsL, if_pos hc, steps_app a b]; rfl
    · rw [stepsL, if_neg hc, stepsL, if_neg hc, steps_app a b]
      cases hs : stepsL a with
      | nil => exact absurd hs (steps_ne a)
      | cons p ps => rfl
theorem steps_one : ∀ a : List UInt8, 47 ∉ a → stepsL a = [a]
  | [], _ => rfl
  | c :: a, h => by
    rw [List.mem_cons, not_or] at h
    rw [stepsL, if_neg (fun e => h.1 e.symm), steps_one a h.2]
/-- A text has no slash, or it goes on behind its first step. -/
theorem steps_cases : ∀ l : List UInt8, 47 ∉ l ∨ ∃ p r, l = p ++ 47 :: r ∧ 47 ∉ p
  | [] => .inl (by simp)
  | c :: l => by
    by_cases hc : c = 47
    · exact .inr ⟨[], l, by rw [hc]; rfl, by simp⟩
    · rcases steps_cases l with h | ⟨p, r, rfl, h⟩
      · exact .inl (by rw [List.mem_cons, not_or]; exact ⟨fun e => hc e.symm, h⟩)
      · exact .inr ⟨c :: p, r, rfl, by rw [List.mem_cons, not_or]; exact ⟨fun e => hc e.symm, h⟩⟩
theorem steps_facts : ∀ (n : Nat) (l : List UInt8), l.length ≤ n → validD l = (stepsL l).all validD ∧ (∀ p ∈ stepsL l, 47 ∉ p ∧ p.length ≤ l.length) := by
  intro n
  induction n with
  | zero =>
    intro l hl
    obtain rfl : l = [] := List.eq_nil_of_length_eq_zero (by omega)
    refine ⟨by decide, ?_⟩
    intro p hp
    simp [stepsL] at hp
    subst hp
    simp
  | succ n ih =>
    intro l hl
    rcases steps_cases l with h | ⟨p, r, rfl, h⟩
    · rw [steps_one l h]
      refine ⟨by simp, ?_⟩
      intro p hp
      obtain rfl := List.mem_singleton.1 hp
      exact ⟨h, Nat.le_refl _⟩
    · have hlen : (p ++ 47 :: r).length = p.length + r.length + 1 := by simp; omega
      obtain ⟨i1, i2⟩ := ih r (by omega)
      rw [steps_app, steps_one p h, valid_app, i1]
      refine ⟨by simp, ?_⟩
      intro q hq
      rw [List.singleton_append, List.mem_cons] at hq
      rcases hq with rfl | hq
      · exact ⟨h, by omega⟩
      · obtain ⟨k1, k2⟩ := i2 q hq
        exact ⟨k1, by omega⟩
theorem name_one (p : List UInt8) (h : 47 ∉ p) : nameL p = (decide (p.length ≤ 255) && (validD p && !badL p)) := by
  unfold nameL
  rw [steps_one p h]
  simp
/-- A name may be just if each of its steps may be, and it is not too long. -/
theorem name_steps (l : List UInt8) : nameL l = (decide (l.length ≤ 255) && (stepsL l).all nameL) := by
  obtain ⟨h1, h2⟩ := steps_facts l.length l (Nat.le_refl _)
  unfold nameL
  by_cases hl : l.length ≤ 255
  · rw [decide_eq_true hl, Bool.true_and, Bool.true_and, h1]
    generalize stepsL l = S at h2
    induction S with
    | nil => rfl
    | cons p S ih =>
      obtain ⟨q1, q2⟩ := h2 p (List.mem_cons_self ..)
      have IH := ih (fun x hx => h2 x (List.mem_cons_of_mem _ hx))
      have hp : nameL p = (validD p && !badL p) := by rw [name_one p q1, decide_eq_true (by omega), Bool.true_and]
      unfold nameL at hp IH
      rw [List.all_cons, List.any_cons, List.all_cons, ← IH, hp]
      cases validD p <;> cases badL p <;> cases S.all validD <;> cases S.any badL <;> rfl
  · rw [decide_eq_false hl, Bool.false_and, Bool.false_and]
/-- Each beginning that ends ahead of a slash may be. -/
theorem name_front {a b : List UInt8} (h : nameL (a ++ 47 :: b) = true) : nameL a = true := by
  unfold nameL at h ⊢
  rw [valid_app, steps_app] at h
  simp only [Bool.and_eq_true, decide_eq_true_eq, List.any_append, Bool.not_eq_true', Bool.or_eq_false_iff, List.length_append, List.length_cons] at h ⊢
  exact ⟨by omega, h.2.1.1, h.2.2.1⟩
theorem name_slash_front (a : List UInt8) : nameL (47 :: a) = false := by
  unfold nameL
  rw [stepsL, if_pos rfl]
  simp [badL]
theorem name_slash_end (a : List UInt8) : nameL (a ++ [47]) = false := by
  unfold nameL
  rw [show a ++ [47] = a ++ 47 :: [] from rfl, steps_app]
  simp [stepsL, badL]
theorem name_two {a b : List UInt8} (ha : nameL a = true) (hb : nameL b = true) : nameL (a ++ 47 :: b) = decide (a.length + 1 + b.length ≤ 255) := by
  unfold nameL at ha hb ⊢
  simp only [Bool.and_eq_true, decide_eq_true_eq, Bool.not_eq_true'] at ha hb
  rw [valid_app, steps_app, List.any_append, ha.2.1, hb.2.1, ha.2.2, hb.2.2]
  have e : (a ++ 47 :: b).length = a.length + 1 + b.length := by simp; omega
  rw [e]
  simp
end Go.Proofs.YteplphpbpaojjaaDoor.Me
