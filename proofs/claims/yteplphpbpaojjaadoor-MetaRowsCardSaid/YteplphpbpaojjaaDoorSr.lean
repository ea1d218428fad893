/- A slice of structs of one-cell fields, read at every index and every field; and the list of what stands there. -/
import Derived.Deep.Slices
import Derived.Deep.Fields
import Derived.ChangeSame
import Derived.ChangeArms
import Derived.OpenShut
namespace Go.Proofs.YteplphpbpaojjaaDoor.Sr
open Go Go.ChangeShapes Go.WideShapes Go.Deep
/-- A list by what holds at each index. -/
theorem list_of {α : Type} {Q : Nat → α → Prop} : ∀ (n : Nat), (∀ i, i < n → ∃ p, Q i p) → ∃ L : List α, L.length = n ∧ ∀ i p, L[i]? = some p → Q i p
  | 0, _ => ⟨[], rfl, fun i p h => by simp at h⟩
  | n + 1, h => by
    obtain ⟨L, hl, hq⟩ := list_of n (fun i hi => h i (Nat.lt_succ_of_lt hi))
    obtain ⟨p, hp⟩ := h n (Nat.lt_succ_self n)
    refine ⟨L ++ [p], by rw [List.length_append, hl]; rfl, fun i q hi => ?_⟩
    rcases Nat.lt_or_ge i L.length with hlt | hge
    · rw [List.getElem?_append_left hlt] at hi
      exact hq i q hi
    · rw [List.getElem?_append_right hge] at hi
      have h0 : i - L.length = 0 := by
        rcases Nat.eq_zero_or_pos (i - L.length) with z | z
        · exact z
        · rw [List.getElem?_eq_none (by simp; omega)] at hi
          cases hi
      rw [h0] at hi
      have e : p = q := by simpa using hi
      have e2 : i = n := by omega
      rw [← e, e2]
      exact hp
section
variable {H : Type} {enc : TypeId × Value → H} {P : Program} {w : World} {base : Nat} {spare : Nat → Bool} {held : Bool}
/-- Nil, or a row in which each field of each element is a cell that is read. -/
theorem fields_at {t e : TypeId} {fs : Array Field} {fuel : Nat} {cs : List Value} {x : DataW H × List MemPlace} (ht : P.underlying t = some (.slice e)) (he : P.underlying e = some (.struct fs))
    (hone : oneCellFields P fs = true) (hC : P.cellsOf e = fs.size) (h : DataW.trod enc P w base spare held fuel t cs = some x) :
    cs = [.slice none 0 0] ∨ ∃ (a : Addr) (len cap : Nat), cs = [.slice (some a) len cap] ∧ len ≤ cap ∧ cap ≤ maxLen ∧
      ∀ i, i < len → ∀ (j : Nat) (f : Field), fs[j]? = some f → ∃ (v : Value) (y : DataW H × List MemPlace) (n : Nat), w.cell? (a.add (i * fs.size + j)) = some v ∧ DataW.trod enc P w base spare held n f.type [v] = some y := by
  rcases open_slice ht h with ⟨h0, _⟩ | ⟨a, len, cap, m, n, D, Pl, hcs, _, hl, hm, hmm, _, hi⟩
  · exact .inl h0
  refine .inr ⟨a, len, cap, hcs, hl, hm, fun i hil j f hj => ?_⟩
  obtain ⟨c, hc, hd⟩ := hi i (by rw [hmm]; split <;> omega)
  obtain ⟨ys, n', _, _, hcl, hyl, hf⟩ := DataW.trod_struct he hd
  obtain ⟨_, _, hat⟩ := World.cells?_some hc
  obtain ⟨o1, o2⟩ := hone_of hone j f hj
  have hjs : j < fs.size := (Array.getElem?_eq_some_iff.1 hj).1
  have hjc : j < c.length := by rw [hcl, hC]; exact hjs
  have g := hf j f hj
  rw [o1, o2, take1_drop c j (.bool false) hjc, List.getElem?_eq_getElem (by omega)] at g
  refine ⟨_, _, n', ?_, g⟩
  have g2 := hat j (by rw [hC]; exact hjs)
  rw [add_add, hC] at g2
  rw [g2, List.getD_eq_getElem?_getD, List.getElem?_eq_getElem hjc]
  rfl
/-- Nil, or a row of arrays: each cell of each element is read. -/
theorem cells_at {t e f : TypeId} {n : Nat} {fuel : Nat} {cs : List Value} {x : DataW H × List MemPlace} (ht : P.underlying t = some (.slice e)) (he : P.underlying e = some (.array n f))
    (hf1 : P.cellsOf f = 1) (hC : P.cellsOf e = n) (h : DataW.trod enc P w base spare held fuel t cs = some x) :
    cs = [.slice none 0 0] ∨ ∃ (a : Addr) (len cap : Nat), cs = [.slice (some a) len cap] ∧ len ≤ cap ∧ cap ≤ maxLen ∧
      ∀ i, i < len → ∀ j, j < n → ∃ (v : Value) (y : DataW H × List MemPlace) (m : Nat), w.cell? (a.add (i * n + j)) = some v ∧ DataW.trod enc P w base spare held m f [v] = some y := by
  rcases open_slice ht h with ⟨h0, _⟩ | ⟨a, len, cap, m, k, D, Pl, hcs, _, hl, hm, hmm, _, hi⟩
  · exact .inl h0
  refine .inr ⟨a, len, cap, hcs, hl, hm, fun i hil j hj => ?_⟩
  obtain ⟨c, hc, hd⟩ := hi i (by rw [hmm]; split <;> omega)
  obtain ⟨ys, n', _, _, hcl, hyl, hf⟩ := DataW.trod_array he hd
  obtain ⟨_, _, hat⟩ := World.cells?_some hc
  have hjc : j < c.length := by rw [hcl, hC]; exact hj
  have g := hf j hj
  rw [hf1, Nat.mul_one, take1_drop c j (.bool false) hjc, List.getElem?_eq_getElem (by omega)] at g
  refine ⟨_, _, n', ?_, g⟩
  have g2 := hat j (by rw [hC]; exact hj)
  rw [add_add, hC] at g2
  rw [g2, List.getD_eq_getElem?_getD, List.getElem?_eq_getElem hjc]
  rfl
/-- An array of four cells, by value. -/
theorem open_arr4 {r : Reach} {b0 : Nat} {t e : TypeId} {v : Value} {d : DataW H} {p : List MemPlace} (ht : P.underlying t = some (.array 4 e)) (h1 : P.cellsOf e = 1) (hC : P.cellsOf t = 4)
    (hv : Value.okWide P w r b0 t v) (h : DataW.Trod enc P w base spare held t v d p) :
    ∃ (v0 v1 v2 v3 : Value) (y0 y1 y2 y3 : DataW H × List MemPlace) (n : Nat), v = .agg #[v0, v1, v2, v3] ∧
      DataW.trod enc P w base spare held n e [v0] = some y0 ∧ DataW.trod enc P w base spare held n e [v1] = some y1 ∧ DataW.trod enc P w base spare held n e [v2] = some y2 ∧ DataW.trod enc P w base spare held n e [v3] = some y3 := by
  have hw : ∃ cs, v = .agg cs ∧ cs.size = P.cellsOf t := by
    simp only [Value.okWide, ht] at hv
    obtain ⟨cs, q1, q2, _⟩ := hv
    exact ⟨cs, q1, q2⟩
  obtain ⟨cs, rfl, hsz⟩ := hw
  obtain ⟨l⟩ := cs
  match l, hsz.trans hC with
  | [c0, c1, c2, c3], _ =>
    obtain ⟨fuel, hf⟩ := h
    obtain ⟨xs, n, _, hx, _, hlen, hg⟩ := DataW.trod_array ht hf
    match xs, hlen with
    | [y0, y1, y2, y3], _ =>
      exact ⟨c0, c1, c2, c3, y0, y1, y2, y3, n, rfl, by simpa [Value.cells, h1] using hg 0 (by decide), by simpa [Value.cells, h1] using hg 1 (by decide), by simpa [Value.cells, h1] using hg 2 (by decide), by simpa [Value.cells, h1] using hg 3 (by decide)⟩
end
end Go.Proofs.YteplphpbpaojjaaDoor.Sr
