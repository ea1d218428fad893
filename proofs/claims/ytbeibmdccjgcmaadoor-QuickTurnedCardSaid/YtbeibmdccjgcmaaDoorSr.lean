/- A slice of structs of one-cell fields, read at every index and every field; and the list of what stands there. -/
import Derived.Deep.Slices
import Derived.Deep.Fields
import Derived.ChangeSame
import Derived.ChangeArms
import Derived.OpenShut
import Derived.SizedLaws
namespace Go.Proofs.YtbeibmdccjgcmaaDoor.Sr
open Go Go.ChangeShapes Go.WideShapes Go.Deep
/-- A list by what holds at each index. -/
theorem list_of {α : Type} {Q : Nat → α → Prop} : ∀ (n : Nat), (∀ i, i < n → ∃ p, Q i p) → ∃ L : List α, L.length = n ∧ ∀ i p, L[i]? = some p → Q i p
  | 0, _ => ⟨[], rfl, fun i p h => by simp at h⟩
  | n + 1, h => by
    obtain ⟨L, hl, hq⟩ := list_of n (fun i hi => h i (Nat.lt_succ_of_lt hi))
    obtain ⟨p, hp⟩ := h n (Nat.lt_succ_self n)
    refine ⟨L ++ [p], by rw [List.length_append, hl]; rfl, fun i q hi => ?_⟩
    rcases Nat.lt_or_ge i L.length with hlt | hge
    · rw [List.getElem?_append_left hlt] at hi
      exact hq i q hi
    · rw [List.getElem?_append_right hge] at hi
      have h0 : i - L.length = 0 := by
        rcases Nat.eq_zero_or_pos (i - L.length) with z | z
        · exact z
        · rw [List.getElem?_eq_none (by simp; omega)] at hi
          cases hi
      rw [h0] at hi
      have e : p = q := by simpa using hi
      have e2 : i = n := by omega
      rw [← e, e2]
      exact hp
section
variable {H : Type} {enc : TypeId × Value → H} {P : Program} {w : World} {base : Nat} {spare : Nat → Bool} {held : Bool}
theorem mem_all {e : TypeId} {d : DataW H} {q : Nat} : ∀ (l : List (DataW H)), d ∈ l → q ∈ DataW.weights P e d → q ∈ DataW.weightsAll P e l
  | [], h, _ => by cases h
  | x :: l, h, hq => by
    rw [DataW.weightsAll]
    rcases List.mem_cons.1 h with rfl | h
    · exact List.mem_append.2 (.inl hq)
    · exact List.mem_append.2 (.inr (mem_all l h hq))
/-- The same, and each field's weight is one of the slice's. -/
theorem fields_at2 {t e : TypeId} {fs : Array Field} {fuel : Nat} {cs : List Value} {x : DataW H × List MemPlace} (ht : P.underlying t = some (.slice e)) (he : P.underlying e = some (.struct fs))
    (hone : oneCellFields P fs = true) (hC : P.cellsOf e = fs.size) (h : DataW.trod enc P w base spare held fuel t cs = some x) :
    cs = [.slice none 0 0] ∨ ∃ (a : Addr) (len cap : Nat), cs = [.slice (some a) len cap] ∧ len ≤ cap ∧ cap ≤ maxLen ∧
      ∀ i, i < len → ∀ (j : Nat) (f : Field), fs[j]? = some f → ∃ (v : Value) (y : DataW H × List MemPlace) (n : Nat), w.cell? (a.add (i * fs.size + j)) = some v ∧ DataW.trod enc P w base spare held n f.type [v] = some y ∧ ∀ q ∈ DataW.weights P f.type y.1, q ∈ DataW.weights P t x.1 := by
  rcases open_slice ht h with ⟨h0, _⟩ | ⟨a, len, cap, m, n, D, Pl, hcs, _, hl, hm, hmm, hx, hi⟩
  · exact .inl h0
  refine .inr ⟨a, len, cap, hcs, hl, hm, fun i hil j f hj => ?_⟩
  obtain ⟨c, hc, hd⟩ := hi i (by rw [hmm]; split <;> omega)
  obtain ⟨ys, n', _, hD, hcl, hyl, hf⟩ := DataW.trod_struct he hd
  obtain ⟨_, _, hat⟩ := World.cells?_some hc
  obtain ⟨o1, o2⟩ := hone_of hone j f hj
  have hjs : j < fs.size := (Array.getElem?_eq_some_iff.1 hj).1
  have hjc : j < c.length := by rw [hcl, hC]; exact hjs
  have g := hf j f hj
  rw [o1, o2, take1_drop c j (.bool false) hjc, List.getElem?_eq_getElem (by omega)] at g
  refine ⟨_, _, n', ?_, g, fun q hq => ?_⟩
  · have g2 := hat j (by rw [hC]; exact hjs)
    rw [add_add, hC] at g2
    rw [g2, List.getD_eq_getElem?_getD, List.getElem?_eq_getElem hjc]
    rfl
  · have hDi : D i = .agg (ys.map (·.1)) := (Prod.mk.inj hD).1
    rw [hx]
    show q ∈ DataW.weights P t (.slice ((List.range len).map D) ((List.range (m - len)).map fun j => D (len + j)))
    simp only [DataW.weights, ht]
    refine List.mem_cons.2 (.inr (List.mem_append.2 (.inl (mem_all _ (List.mem_map.2 ⟨i, List.mem_range.2 hil, rfl⟩) ?_))))
    rw [hDi]
    simp only [DataW.weights, he]
    refine DataW.weights_mem_each (j := j) (t := f.type) (d := (ys[j]).1) ?_ ?_ q hq
    · rw [List.getElem?_map, Array.getElem?_toList, hj]
      first | done | rfl
    · rw [List.getElem?_map, List.getElem?_eq_getElem (by omega)]
      rfl
end
end Go.Proofs.YtbeibmdccjgcmaaDoor.Sr
