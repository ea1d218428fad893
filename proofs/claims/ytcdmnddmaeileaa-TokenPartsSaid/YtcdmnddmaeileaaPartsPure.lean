/- What the first tokens leave, and the next one makes of it. -/
import Derived.Test.YtcdmnddmaeileaaTokPure
import Derived.Test.YtcdmnddmaeileaaPTokenx5
namespace Go.Proofs.Ytcdmnddmaeileaa.PToken
open Go.RowKit Go.Proofs.YtcdmnddmaeileaaW.PrintWords Go.Proofs.YtcdmnddmaeileaaW.PrintLast Go.Proofs.YtcdmnddmaeileaaW.PrintMore
open Go.Proofs.Ytcdmnddmaeileaa.Pb
set_option linter.unusedVariables false
set_option linter.unusedSimpArgs false
def runS : List S23 → St → Option St
  | [], q => some q
  | t :: l, q => (stepT q t).bind (runS l)
theorem runS_app : ∀ (l m : List S23) (q : St), runS (l ++ m) q = (runS l q).bind (runS m)
  | [], m, q => rfl
  | t :: l, m, q => by
    rw [List.cons_append, runS, runS]
    cases hs : stepT q t with
    | none => rfl
    | some q' => exact runS_app l m q'
theorem runS_len : ∀ (l : List S23) (q q' : St), runS l q = some q' → q'.out.length ≤ q.out.length + 258 * l.length
  | [], q, q', h => by obtain rfl := Option.some.inj h; omega
  | t :: l, q, q', h => by
    rw [runS] at h
    cases hs : stepT q t with
    | none => rw [hs] at h; cases h
    | some q1 =>
      rw [hs] at h
      have := runS_len l q1 q' h
      have := stepT_len hs
      rw [List.length_cons]; omega
def resS : Option St → ByteArray × Int
  | none => (⟨#[]⟩, 4)
  | some q => (strOfNums q.out, 0)
theorem runS_text : ∀ (l : List S23) (lim : Int) (q : St), ((q.out.length + 258 * l.length : Nat) : Int) ≤ lim → textR l lim q = resS (runS l q)
  | [], lim, q, _ => rfl
  | t :: l, lim, q, h => by
    rw [textR, runS]
    cases hs : stepT q t with
    | none => rfl
    | some q1 =>
      have h1 := stepT_len hs
      rw [List.length_cons] at h
      show (if (q1.out.length : Int) > lim then ((⟨#[]⟩ : ByteArray), (62 : Int)) else textR l lim q1) = _
      rw [if_neg (by omega), runS_text l lim q1 (by omega)]
      rfl
/-- What a token makes. -/
structure Makes (q q' : St) (t : S23) : Prop where
  lit : t.f0 = 1 → q'.out = q.out ++ [t.f1] ∧ q'.a = q.a ∧ q'.b = q.b ∧ q'.c = q.c ∧ q'.d = q.d
  far : t.f0 ≠ 1 → ∃ D L : Nat, dX q.a q.b q.c q.d t.f0 t.f3 t.f4 = (D : Int) ∧ t.f2 = (L : Int) ∧ 1 ≤ D ∧ D ≤ q.out.length ∧ 3 ≤ L ∧ L ≤ 258 ∧ q'.out = grow D L q.out ∧
    q'.a = (front q.a q.b q.c q.d D).1 ∧ q'.b = (front q.a q.b q.c q.d D).2.1 ∧ q'.c = (front q.a q.b q.c q.d D).2.2.1 ∧ q'.d = (front q.a q.b q.c q.d D).2.2.2 ∧ (t.f0 = 2 ∨ (t.f0 = 3 ∧ 0 ≤ t.f4 ∧ t.f4 < 4))
theorem makes_of {q q' : St} {t : S23} (h : stepT q t = some q') : Makes q q' t := by
  unfold stepT at h
  refine ⟨fun h1 => ?_, fun h1 => ?_⟩
  · rw [if_pos h1] at h
    by_cases h2 : t.f2 = 0 ∧ t.f3 = 0 ∧ t.f4 = 0
    · rw [if_pos h2] at h
      obtain rfl := Option.some.inj h
      exact ⟨rfl, rfl, rfl, rfl, rfl⟩
    · rw [if_neg h2] at h; cases h
  · rw [if_neg h1] at h
    by_cases hd : dOk q.a q.b q.c q.d q.out.length t.f0 t.f1 t.f2 t.f3 t.f4 = true
    · rw [if_pos hd] at h
      obtain rfl := Option.some.inj h
      obtain ⟨d1, d2, d3, d4, d5⟩ := dOk_elim hd
      have hk : t.f0 = 2 ∨ (t.f0 = 3 ∧ 0 ≤ t.f4 ∧ t.f4 < 4) := by
        unfold dOk at hd
        by_cases k2 : t.f0 = 2
        · exact .inl k2
        · rw [if_neg k2] at hd
          by_cases k3 : t.f0 = 3
          · rw [if_pos k3, Bool.and_eq_true] at hd
            have := of_decide_eq_true hd.1
            exact .inr ⟨k3, this.2.2.1, this.2.2.2⟩
          · rw [if_neg k3] at hd
            cases hd
      obtain ⟨L, hL⟩ : ∃ L : Nat, t.f2 = (L : Int) := ⟨t.f2.toNat, by omega⟩
      obtain ⟨D, hD⟩ : ∃ D : Nat, dX q.a q.b q.c q.d t.f0 t.f3 t.f4 = (D : Int) := ⟨(dX q.a q.b q.c q.d t.f0 t.f3 t.f4).toNat, by omega⟩
      refine ⟨D, L, hD, hL, by omega, by omega, by omega, by omega, ?_, ?_, ?_, ?_, ?_, hk⟩
      · show grow _ _ _ = _
        rw [hD, hL, Int.toNat_natCast, Int.toNat_natCast]
      · show (front _ _ _ _ _).1 = _
        rw [hD]
      · show (front _ _ _ _ _).2.1 = _
        rw [hD]
      · show (front _ _ _ _ _).2.2.1 = _
        rw [hD]
      · show (front _ _ _ _ _).2.2.2 = _
        rw [hD]
    · rw [if_neg hd] at h; cases h
theorem getD_left (a b : List Int) (i : Nat) (h : i < a.length) : (a ++ b).getD i 0 = a.getD i 0 := by
  rw [List.getD_eq_getElem?_getD, List.getElem?_append_left h, ← List.getD_eq_getElem?_getD]
theorem getD_last (a : List Int) (x : Int) : (a ++ [x]).getD a.length 0 = x := by
  rw [List.getD_eq_getElem?_getD, List.getElem?_append_right (Nat.le_refl _), Nat.sub_self]
  rfl
theorem grow_old (D : Nat) : ∀ (L : Nat) (o : List Int) (i : Nat), i < o.length → (grow D L o).getD i 0 = o.getD i 0
  | 0, o, i, h => rfl
  | L + 1, o, i, h => by
    rw [grow, getD_left _ _ _ (by rw [grow_length]; omega)]
    exact grow_old D L o i h
theorem grow_at (D : Nat) (hD : 1 ≤ D) : ∀ (L : Nat) (o : List Int) (j : Nat), D ≤ o.length → j < L → (grow D L o).getD (o.length + j) 0 = (grow D L o).getD (o.length + j - D) 0
  | 0, o, j, _, h => by omega
  | L + 1, o, j, hDl, h => by
    have hl := grow_length D L o
    by_cases hj : j < L
    · rw [grow, getD_left _ _ _ (by omega), getD_left _ _ _ (by omega)]
      exact grow_at D hD L o j hDl hj
    · obtain rfl : j = L := by omega
      rw [grow, show o.length + j = (grow D j o).length by omega, getD_last, getD_left _ _ _ (by omega)]
/-- One beginning of what all make. -/
def Begins (x y : List Int) : Prop := ∃ z, y = x ++ z
theorem Begins.at_ {x y : List Int} (h : Begins x y) {i : Nat} (hi : i < x.length) : y.getD i 0 = x.getD i 0 := by
  obtain ⟨z, rfl⟩ := h
  rw [List.getD_eq_getElem?_getD, List.getElem?_append_left hi, ← List.getD_eq_getElem?_getD]
theorem Begins.le {x y : List Int} (h : Begins x y) : x.length ≤ y.length := by
  obtain ⟨z, rfl⟩ := h
  rw [List.length_append]; omega
theorem Begins.trans {x y z : List Int} (h : Begins x y) (k : Begins y z) : Begins x z := by
  obtain ⟨a, rfl⟩ := h
  obtain ⟨b, rfl⟩ := k
  exact ⟨a ++ b, by rw [List.append_assoc]⟩
theorem grow_begins (D : Nat) : ∀ (L : Nat) (o : List Int), Begins o (grow D L o)
  | 0, o => ⟨[], by rw [List.append_nil]; rfl⟩
  | L + 1, o => (grow_begins D L o).trans ⟨_, rfl⟩
theorem step_begins {q q' : St} {t : S23} (h : stepT q t = some q') : Begins q.out q'.out := by
  have m := makes_of h
  by_cases h1 : t.f0 = 1
  · exact ⟨[t.f1], (m.lit h1).1⟩
  · obtain ⟨D, L, _, _, _, _, _, _, e, _⟩ := m.far h1
    rw [e]
    exact grow_begins D L q.out
theorem runS_begins : ∀ (l : List S23) (q q' : St), runS l q = some q' → Begins q.out q'.out
  | [], q, q', h => by obtain rfl := Option.some.inj h; exact ⟨[], by rw [List.append_nil]⟩
  | t :: l, q, q', h => by
    rw [runS] at h
    cases hs : stepT q t with
    | none => rw [hs] at h; cases h
    | some q1 =>
      rw [hs] at h
      exact (step_begins hs).trans (runS_begins l q1 q' h)
theorem runS_take {l : List S23} {q Q : St} (h : runS l q = some Q) (i : Nat) : ∃ q1, runS (l.take i) q = some q1 ∧ runS (l.drop i) q1 = some Q := by
  rw [← List.take_append_drop i l, runS_app] at h
  cases hr : runS (l.take i) q with
  | none => rw [hr] at h; cases h
  | some q1 => rw [hr] at h; exact ⟨q1, rfl, h⟩
/-- A byte of a text of numbers. -/
def by8 (x : Int) : Int := ((UInt8.ofNat x.toNat).toNat : Int)
theorem by8_id {x : Int} (h : 0 ≤ x ∧ x ≤ 255) : by8 x = x := by
  unfold by8
  rw [UInt8.toNat_ofNat']
  omega
theorem bt_str (xs : List Int) (i : Nat) (h : i < xs.length) : bt (strOfNums xs) (i : Int) = by8 (xs.getD i 0) := by
  have hz : i < (strOfNums xs).size := by rw [size_nums]; exact h
  unfold bt
  rw [Int.toNat_natCast, dif_pos hz]
  unfold by8
  congr 2
  show (strOfNums xs).data[i] = _
  simp [strOfNums, List.getD_eq_getElem?_getD, h]
theorem str_app (a b : List Int) : strOfNums (a ++ b) = strOfNums a ++ strOfNums b := by
  apply ByteArray.ext
  rw [ByteArray.data_append]
  simp [strOfNums]
theorem begin_cut {x y : List Int} (h : Begins x y) : (strOfNums y).extract 0 (strOfNums x).size = strOfNums x := by
  obtain ⟨z, rfl⟩ := h
  apply bytesOf_inj
  rw [bytesOf_extract, str_app, bytesOf_append, List.drop_zero, List.take_left' (bytesOf_length _)]
end Go.Proofs.Ytcdmnddmaeileaa.PToken
