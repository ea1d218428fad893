/- The bytes of any list, or how it is refused, and which lists are the same, is the document's: for all lists that the statement takes in. -/
import Derived.Test.YtbeibmdccjgcmaaDoorQLaws
import Derived.Test.YtbeibmdccjgcmaaDoorPQux66
namespace Go.Proofs.YtbeibmdccjgcmaaDoor.PQu
open Go.RowKit Go.Lib Go.Proofs.YtbeibmdccjgcmaaDoorW.PrintWords Go.Proofs.YtbeibmdccjgcmaaDoorW.PrintLast Go.Proofs.YtbeibmdccjgcmaaDoorW.PrintMore Go.Proofs.YtbeibmdccjgcmaaDoor.Pb
set_option linter.unusedVariables false
set_option linter.unusedSimpArgs false
theorem QuickMakes (a b : List MS) (ha : a.length ≤ 9223372036854775807) (hb : b.length ≤ 9223372036854775807) (hna : ∀ x ∈ a, x.f0.size ≤ 140737488351232) (hnb : ∀ x ∈ b, x.f0.size ≤ 140737488351232) : hamperlaw21_QuickMakes.f 400001 a b = some true := by
  unfold hamperlaw21_QuickMakes.f
  obtain ⟨la, e1, h1⟩ := large_f a ha hna 400001 (by decide)
  refine bind_eq e1 ?_
  cases la with
  | true => rw [if_pos rfl, hamperlaw21_QuickMakes.j0, if_pos rfl]
  | false =>
    rw [if_neg (by decide)]
    obtain ⟨lb, e2, h2⟩ := large_f b hb hnb 400001 (by decide)
    refine bind_eq e2 ?_
    obtain ⟨q1, q2⟩ := h1 rfl
    rw [hamperlaw21_QuickMakes.j0]
    cases lb with
    | true => rw [if_pos rfl]
    | false =>
      rw [if_neg (by decide)]
      refine bind_eq (qmake_f _ a (by omega)) ?_
      refine bind_eq (refmake_f a (by omega) (fun x hx => by have := q2 x hx; omega) 400000 (fuel (by omega) (Nat.le_refl _))) ?_
      rw [if_pos rfl, if_pos rfl]
      refine bind_eq (qmay_f _ a (by omega)) ?_
      refine bind_eq (mayref_f a (by omega) (fun x hx => by have := q2 x hx; omega) 400000 (fuel (by omega) (Nat.le_refl _))) ?_
      rw [if_pos (by simp)]
      obtain ⟨s1, s2⟩ := same_f a b (by omega) 400000 (by omega)
      refine bind_eq s1 (bind_eq s2 ?_)
      simp
theorem QuickMakes_walk (A : Option Addr) (c : Nat) (a : List MS) (B : Option Addr) (c2 : Nat) (b : List MS) (w : World) (hr : Kd.C k33 w A a.length a) (hc : a.length ≤ c) (hwa : ∀ p ∈ a, p.f0.size ≤ 140737488351232 ∧ (Lit.int .i64 p.f1).wf = true ∧ (Lit.int .i64 p.f2).wf = true ∧ (Lit.int .i64 p.f3).wf = true ∧ p.f4.size ≤ 140737488351232)
    (hr2 : Kd.C k33 w B b.length b) (hc2 : b.length ≤ c2) (hwb : ∀ p ∈ b, p.f0.size ≤ 140737488351232 ∧ (Lit.int .i64 p.f1).wf = true ∧ (Lit.int .i64 p.f2).wf = true ∧ (Lit.int .i64 p.f3).wf = true ∧ p.f4.size ≤ 140737488351232) (hT : Me.Tabs w) :
    Calls Tryd.prog 3 #[.slice A a.length c, .slice B b.length c2] w fun e w' => e = .returned (.bool true) ∧ Below w.heap.size w w' := by
  have ha : a.length ≤ 9223372036854775807 := hr.2.1
  have hb : b.length ≤ 9223372036854775807 := hr2.2.1
  exact hamperlaw21_QuickMakes.calls 400001 A c a B c2 b true w hT hr hc hr2 hc2 (QuickMakes a b ha hb (fun x hx => (hwa x hx).1) (fun x hx => (hwb x hx).1))
end Go.Proofs.YtbeibmdccjgcmaaDoor.PQu
