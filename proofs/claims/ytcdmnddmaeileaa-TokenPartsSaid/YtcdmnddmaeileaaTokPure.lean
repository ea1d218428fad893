/- Plain laws of token.Text: what tokens make, one behind the other. -/
import Derived.Test.YtcdmnddmaeileaaTokText
import Derived.Test.YtcdmnddmaeileaaPb
import Derived.Test.YtcdmnddmaeileaaPTokenx5
namespace Go.Proofs.Ytcdmnddmaeileaa.PToken
open Go.RowKit Go.Proofs.YtcdmnddmaeileaaW.PrintWords Go.Proofs.YtcdmnddmaeileaaW.PrintLast Go.Proofs.YtcdmnddmaeileaaW.PrintMore Go.Proofs.Ytcdmnddmaeileaa.Pb
set_option linter.unusedVariables false
set_option linter.unusedSimpArgs false
/-- What some tokens leave: the end of all, or a state. -/
def runT : List S23 → Int → St → (ByteArray × Int) ⊕ St
  | [], _, q => .inr q
  | t :: l, lim, q => match stepT q t with
    | none => .inl (⟨#[]⟩, 4)
    | some q' => if (q'.out.length : Int) > lim then .inl (⟨#[]⟩, 62) else runT l lim q'
theorem textR_app : ∀ (l m : List S23) (lim : Int) (q : St), textR (l ++ m) lim q = match runT l lim q with | .inl r => r | .inr q' => textR m lim q'
  | [], m, lim, q => rfl
  | t :: l, m, lim, q => by
    rw [List.cons_append, textR, runT]
    cases hs : stepT q t with
    | none => rfl
    | some q' =>
      by_cases h : (q'.out.length : Int) > lim
      · simp only [if_pos h]
      · simp only [if_neg h]
        exact textR_app l m lim q'
theorem textR_run (l : List S23) (lim : Int) (q : St) : textR l lim q = match runT l lim q with | .inl r => r | .inr q' => (strOfNums q'.out, 0) := by
  have h := textR_app l [] lim q
  rw [List.append_nil] at h
  rw [h]
  cases runT l lim q <;> rfl
theorem runT_left : ∀ (l : List S23) (lim : Int) (q : St) (r : ByteArray × Int), runT l lim q = .inl r → r = (⟨#[]⟩, 4) ∨ r = (⟨#[]⟩, 62)
  | [], lim, q, r, h => by cases h
  | t :: l, lim, q, r, h => by
    rw [runT] at h
    cases hs : stepT q t with
    | none => rw [hs] at h; injection h with h; exact .inl h.symm
    | some q' =>
      rw [hs] at h
      by_cases hl : (q'.out.length : Int) > lim
      · simp only [if_pos hl] at h; injection h with h; exact .inr h.symm
      · simp only [if_neg hl] at h; exact runT_left l lim q' r h
theorem stepT_len {q q' : St} {t : S23} (h : stepT q t = some q') : q'.out.length ≤ q.out.length + 258 := by
  unfold stepT at h
  by_cases h1 : t.f0 = 1
  · rw [if_pos h1] at h
    by_cases h2 : t.f2 = 0 ∧ t.f3 = 0 ∧ t.f4 = 0
    · rw [if_pos h2] at h
      obtain rfl := Option.some.inj h
      show (q.out ++ [t.f1]).length ≤ _
      rw [List.length_append, List.length_singleton]; omega
    · rw [if_neg h2] at h; cases h
  · rw [if_neg h1] at h
    by_cases hd : dOk q.a q.b q.c q.d q.out.length t.f0 t.f1 t.f2 t.f3 t.f4 = true
    · rw [if_pos hd] at h
      obtain rfl := Option.some.inj h
      obtain ⟨d1, d2, _⟩ := dOk_elim hd
      show (grow _ _ _).length ≤ _
      rw [grow_length]; omega
    · rw [if_neg hd] at h; cases h
theorem runT_len : ∀ (l : List S23) (lim : Int) (q q' : St), runT l lim q = .inr q' → q'.out.length ≤ q.out.length + 258 * l.length
  | [], lim, q, q', h => by injection h with h; rw [h]; omega
  | t :: l, lim, q, q', h => by
    rw [runT] at h
    cases hs : stepT q t with
    | none => rw [hs] at h; cases h
    | some q1 =>
      rw [hs] at h
      by_cases hl : (q1.out.length : Int) > lim
      · simp only [if_pos hl] at h; cases h
      · simp only [if_neg hl] at h
        have := runT_len l lim q1 q' h
        have := stepT_len hs
        rw [List.length_cons]; omega
/-- Lits of bytes. -/
def lits (bs : List Int) : List S23 := bs.map fun b => ⟨1, b, 0, 0, 0⟩
theorem lits_run : ∀ (bs : List Int) (lim : Int) (q : St), ((q.out.length + bs.length : Nat) : Int) ≤ lim → textR (lits bs) lim q = (strOfNums (q.out ++ bs), 0)
  | [], lim, q, h => by rw [List.append_nil]; rfl
  | b :: bs, lim, q, h => by
    have hs : stepT q ⟨1, b, 0, 0, 0⟩ = some ⟨q.out ++ [b], q.a, q.b, q.c, q.d⟩ := by
      unfold stepT
      rw [if_pos rfl, if_pos ⟨rfl, rfl, rfl⟩]
    have hl : (q.out ++ [b]).length = q.out.length + 1 := by rw [List.length_append, List.length_singleton]
    rw [List.length_cons] at h
    show (match stepT q ⟨1, b, 0, 0, 0⟩ with | none => ((⟨#[]⟩ : ByteArray), (4 : Int)) | some q' => if (q'.out.length : Int) > lim then (⟨#[]⟩, 62) else textR (lits bs) lim q') = _
    rw [hs]
    show (if (((q.out ++ [b]).length : Nat) : Int) > lim then ((⟨#[]⟩ : ByteArray), (62 : Int)) else textR (lits bs) lim ⟨q.out ++ [b], q.a, q.b, q.c, q.d⟩) = _
    rw [hl, if_neg (by omega), lits_run bs lim _ (by show (((q.out ++ [b]).length + bs.length : Nat) : Int) ≤ lim; rw [hl]; omega)]
    show (strOfNums (q.out ++ [b] ++ bs), (0 : Int)) = _
    rw [List.append_assoc, List.singleton_append]
theorem grow_add (D : Nat) (o : List Int) (i : Nat) : ∀ j, grow D j (grow D i o) = grow D (i + j) o
  | 0 => rfl
  | j + 1 => by rw [← Nat.add_assoc, grow, grow, grow_add D o i j]
theorem front_fst (a b c d x : Int) : (front a b c d x).1 = x := by
  unfold front
  split
  · rfl
  · split
    · rfl
    · split <;> rfl
theorem strOfNums_append (a : List Int) (s : ByteArray) : strOfNums (a ++ bytesOf s) = strOfNums a ++ s := by
  have h : strOfNums (bytesOf s) = s := str_bytesOf s
  conv => rhs; rw [← h]
  unfold strOfNums
  apply ByteArray.ext
  simp
theorem text_f (l : List S23) (lim : Int) (h : l.length ≤ 1000000) : token_Text.f l lim = some (textR l lim st0) := by
  unfold token_Text.f
  rw [if_pos h]
end Go.Proofs.Ytcdmnddmaeileaa.PToken
