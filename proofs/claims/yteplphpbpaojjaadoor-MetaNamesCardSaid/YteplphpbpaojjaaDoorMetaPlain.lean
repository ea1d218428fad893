/- Names, in plain words: the steps of a text, and which names may be. -/
import Derived.Lib.Split
import Derived.Lib.SplitLaws
import Derived.Lib.ValidLaws
namespace Go.Proofs.YteplphpbpaojjaaDoor.Me
open Go.Lib
set_option linter.unusedVariables false
set_option linter.unusedSimpArgs false
/-- A text's steps. -/
def stepsL : List UInt8 → List (List UInt8)
  | [] => [[]]
  | c :: l => if c = 47 then [] :: stepsL l else match stepsL l with
    | [] => [[c]]
    | p :: ps => (c :: p) :: ps
theorem index_cons (c : UInt8) (l : List UInt8) : index (c :: l) [47] = if c = 47 then 0 else if index l [47] = -1 then -1 else index l [47] + 1 := by
  rw [index]
  by_cases h : c = 47
  · subst h
    rw [if_pos (by simp [List.isPrefixOf]), if_pos rfl]
  · have e : List.isPrefixOf [47] (c :: l) = false := by
      simp [List.isPrefixOf]
      exact fun e => h e.symm
    rw [if_neg (by rw [e]; decide), if_neg h]
    by_cases h2 : index l [47] = -1
    · rw [if_pos (by rw [h2]; decide), if_pos h2]
    · rw [if_neg (by simpa using h2), if_neg h2]
theorem split_steps : ∀ l : List UInt8, splitK [47] 0 (count l [47]) l = stepsL l
  | [] => by
    have h : index ([] : List UInt8) [47] = -1 := by decide
    rw [count_miss h]
    rfl
  | c :: l => by
    have ih := split_steps l
    have hi := index_cons c l
    have hge := index_ge l [47]
    by_cases hc : c = 47
    · subst hc
      rw [if_pos rfl] at hi
      have hcnt := count_hit (s := 47 :: l) (sub := [47]) (i := 0) (by decide) hi
      rw [hcnt]
      show splitK [47] 0 (1 + count l [47]) (47 :: l) = _
      rw [Nat.add_comm, splitK, hi]
      show ([] : List UInt8) :: splitK [47] 0 (count l [47]) l = _
      rw [ih]
      rfl
    · rw [if_neg hc] at hi
      have hs : stepsL (c :: l) = match stepsL l with | [] => [[c]] | p :: ps => (c :: p) :: ps := by rw [stepsL, if_neg hc]
      rw [hs]
      by_cases hm : index l [47] = -1
      · rw [if_pos hm] at hi
        rw [count_miss hm] at ih
        rw [count_miss hi, ← ih]
        rfl
      · rw [if_neg hm] at hi
        obtain ⟨i, hii⟩ : ∃ i : Nat, index l [47] = (i : Int) := ⟨(index l [47]).toNat, by omega⟩
        have h1 := count_hit (s := l) (sub := [47]) (i := i) (by decide) hii
        have h2 := count_hit (s := c :: l) (sub := [47]) (i := i + 1) (by decide) (by rw [hi, hii]; rfl)
        have hd : (c :: l).drop (i + 1 + [(47 : UInt8)].length) = l.drop (i + [(47 : UInt8)].length) := rfl
        rw [hd] at h2
        rw [h1, Nat.add_comm, splitK, hii] at ih
        rw [h2, Nat.add_comm, splitK, hi, hii]
        have n1 : ¬ (((i : Int) == -1) = true) := fun e => by have := beq_iff_eq.1 e; omega
        have n2 : ¬ (((i : Int) + 1 == -1) = true) := fun e => by have := beq_iff_eq.1 e; omega
        rw [if_neg n1] at ih
        rw [if_neg n2, ← ih]
        have t1 : (((i : Int) + 1).toNat + 0) = i + 1 := by omega
        have t2 : ((i : Int).toNat + 0) = i := by omega
        have t3 : (((i : Int) + 1).toNat + [(47 : UInt8)].length) = i + 1 + 1 := by simp
        have t4 : ((i : Int).toNat + [(47 : UInt8)].length) = i + 1 := by simp
        rw [t1, t2, t3, t4]
        rfl
/-- A step that may not be. -/
def badL (p : List UInt8) : Bool := p == [] || p == [46] || p == [46, 46]
def nameL (l : List UInt8) : Bool := decide (l.length ≤ 255) && (validD l && !(stepsL l).any badL)
end Go.Proofs.YteplphpbpaojjaaDoor.Me
