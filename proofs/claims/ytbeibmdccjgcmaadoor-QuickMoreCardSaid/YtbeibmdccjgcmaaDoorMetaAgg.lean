/- A struct of several one-cell fields, by value: its fields. -/
import Derived.Test.YtbeibmdccjgcmaaDoorMetaRead
import Derived.Lib.SmallJoins
import Derived.OpenShut
import Derived.Deep.Slices
import Derived.Deep.Fields
import Derived.ChangeSame
namespace Go.Proofs.YtbeibmdccjgcmaaDoor.Me
open Go Go.Joins Go.ChangeShapes Go.WideShapes Go.RowKit Go.Deep
section
variable {H : Type} {enc : TypeId × Value → H} {P : Program} {w : World} {base : Nat} {spare : Nat → Bool} {held : Bool}
theorem open_fields {r : Reach} {b0 : Nat} {t : TypeId} {fs : Array Field} {v : Value} {d : DataW H} {p : List MemPlace} (hs : P.underlying t = some (.struct fs)) (hone : oneCellFields P fs = true) (hC : P.cellsOf t = fs.size)
    (hv : Value.okWide P w r b0 t v) (h : DataW.Trod enc P w base spare held t v d p) :
    ∃ (cs : Array Value) (ys : List (DataW H × List MemPlace)) (n : Nat), v = .agg cs ∧ cs.size = fs.size ∧ ys.length = fs.size ∧ d = .agg (ys.map (·.1)) ∧ p = ys.flatMap (·.2) ∧
      ∀ (j : Nat) (f : Field), fs[j]? = some f → ∃ (u : Value) (y : DataW H × List MemPlace), cs[j]? = some u ∧ ys[j]? = some y ∧ DataW.trod enc P w base spare held n f.type [u] = some y := by
  obtain ⟨cs, rfl, hsz⟩ := okWide_struct hs hv
  obtain ⟨fuel, hf⟩ := h
  obtain ⟨ys, n, _, hx, _, hlen, hg⟩ := DataW.trod_struct hs hf
  have hx2 := (Prod.mk.injEq _ _ _ _).mp hx
  refine ⟨cs, ys, n, rfl, hsz.trans hC, hlen, hx2.1, hx2.2, fun j f hj => ?_⟩
  have hjl : j < fs.size := (Array.getElem?_eq_some_iff.1 hj).1
  have hjc : j < cs.size := by rw [hsz.trans hC]; exact hjl
  have hjy : j < ys.length := by rw [hlen]; exact hjl
  obtain ⟨ho, hk⟩ := hone_of hone j f hj
  have h1 := hg j f hj
  rw [ho, hk] at h1
  have hcs : (Value.agg cs).cells = cs := rfl
  rw [hcs] at h1
  have htl : j < cs.toList.length := by rw [Array.length_toList]; exact hjc
  have ht : (cs.toList.drop j).take 1 = [cs[j]] := by
    rw [List.drop_eq_getElem_cons htl, Array.getElem_toList]
    rfl
  rw [ht] at h1
  exact ⟨cs[j], ys[j], Array.getElem?_eq_getElem hjc, List.getElem?_eq_getElem hjy, h1.trans (List.getElem?_eq_getElem hjy)⟩
theorem open_agg5 {r : Reach} {b0 : Nat} {t : TypeId} {f0 f1 f2 f3 f4 : Field} {v : Value} {d : DataW H} {p : List MemPlace} (hs : P.underlying t = some (.struct #[f0, f1, f2, f3, f4])) (hone : oneCellFields P #[f0, f1, f2, f3, f4] = true) (hC : P.cellsOf t = 5)
    (hv : Value.okWide P w r b0 t v) (h : DataW.Trod enc P w base spare held t v d p) :
    ∃ (v0 v1 v2 v3 v4 : Value) (y0 y1 y2 y3 y4 : DataW H × List MemPlace) (n : Nat), v = .agg #[v0, v1, v2, v3, v4] ∧ d = .agg [y0.1, y1.1, y2.1, y3.1, y4.1] ∧ p = [y0, y1, y2, y3, y4].flatMap (·.2) ∧
      DataW.trod enc P w base spare held n f0.type [v0] = some y0 ∧ DataW.trod enc P w base spare held n f1.type [v1] = some y1 ∧ DataW.trod enc P w base spare held n f2.type [v2] = some y2 ∧ DataW.trod enc P w base spare held n f3.type [v3] = some y3 ∧ DataW.trod enc P w base spare held n f4.type [v4] = some y4 := by
  obtain ⟨cs, ys, n, rfl, h1, h2, rfl, rfl, hF⟩ := open_fields hs hone hC hv h
  obtain ⟨u0, y0, c0, q0, t0⟩ := hF 0 f0 rfl
  obtain ⟨u1, y1, c1, q1, t1⟩ := hF 1 f1 rfl
  obtain ⟨u2, y2, c2, q2, t2⟩ := hF 2 f2 rfl
  obtain ⟨u3, y3, c3, q3, t3⟩ := hF 3 f3 rfl
  obtain ⟨u4, y4, c4, q4, t4⟩ := hF 4 f4 rfl
  have hcs : cs = #[u0, u1, u2, u3, u4] := by
    apply Array.ext_getElem?
    intro j
    rcases (show j = 0 ∨ j = 1 ∨ j = 2 ∨ j = 3 ∨ j = 4 ∨ 5 ≤ j by omega) with e | e | e | e | e | e
    · subst e; exact c0
    · subst e; exact c1
    · subst e; exact c2
    · subst e; exact c3
    · subst e; exact c4
    · rw [Array.getElem?_eq_none (by rw [h1]; exact e), Array.getElem?_eq_none (by exact e)]
  have hys : ys = [y0, y1, y2, y3, y4] := by
    apply List.ext_getElem?
    intro j
    rcases (show j = 0 ∨ j = 1 ∨ j = 2 ∨ j = 3 ∨ j = 4 ∨ 5 ≤ j by omega) with e | e | e | e | e | e
    · subst e; exact q0
    · subst e; exact q1
    · subst e; exact q2
    · subst e; exact q3
    · subst e; exact q4
    · rw [List.getElem?_eq_none (by rw [h2]; exact e), List.getElem?_eq_none (by exact e)]
  subst hcs
  subst hys
  exact ⟨u0, u1, u2, u3, u4, y0, y1, y2, y3, y4, n, rfl, rfl, rfl, t0, t1, t2, t3, t4⟩
end
end Go.Proofs.YtbeibmdccjgcmaaDoor.Me
