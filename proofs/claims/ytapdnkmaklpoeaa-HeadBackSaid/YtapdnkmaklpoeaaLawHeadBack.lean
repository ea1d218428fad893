-- Made by a program of this session (wip/tools/rows.py): the row of the law HeadBack, out of its walk.
import Derived.Test.YtapdnkmaklpoeaaRows
import Derived.Test.YtapdnkmaklpoeaaPureHeadBack
import Derived.WalkKit
import Derived.ProofKit
import Derived.OpenShut
import Derived.ShutString
import Derived.ChangeOld
import Derived.Below
import Derived.SizedLaws
import Derived.SliceStrings
import Derived.Lib.SmallJoins
import Derived.ChangeArms
import Derived.Test.YtapdnkmaklpoeaaWSized
import Derived.Test.YtapdnkmaklpoeaaSr
namespace Go.Proofs.Ytapdnkmaklpoeaa.headBack
open Go.ChangeShapes Go.WideShapes Go.ChangeAt Go.RowKit Go.Proofs.YtapdnkmaklpoeaaW.PrintWords
open Go.ChangeMaps (open_string shut_string)
set_option linter.unusedVariables false
theorem own : ownKnob Try.prog.godebug = none := by kernel_rfl
theorem laidOut : laidOutB Try.prog = true := by kernel_rfl
set_option maxRecDepth 100000 in
theorem lifted (os : Os) (started : os.Started) (H : Type) (enc : TypeId × Value → H) :
    ReturnsInHanded {} Try.checked os 5 .any (Rows.headBackSpec.pre6 enc Try.prog Try.f5 Rows.headBackRow.domain false) (Rows.headBackSpec.post enc Try.prog Try.f5 false true false false) := by
  refine returnsInHanded_of_change_sized (C := Try.checked) own started (by kernel_rfl) Try.func5
    (ChangeSpec.witness6 (enc := enc) (C := Try.checked) false ⟨#[], #[.slice none 0 0, .string ByteArray.empty, .int .i64 0], []⟩ 8 (by kernel_rfl) (by kernel_rfl) (by kernel_rfl) (by kernel_rfl)) ?_
  intro W base args ds gs before hval0 hW hcnd hsz0 _
  have hsz : (DataW.weightsEach Try.prog (Try.f5.params.toList ++ Rows.headBackSpec.plain.varTypes Try.prog) (ds ++ gs)).all (· ≤ reachBytes) = true := hsz0
  have hval : ∀ (j : Nat) t v, Try.f5.params[j]? = some t → args[j]? = some v → Value.okWide Try.prog W .any base t v := hval0
  have hW' := hW
  obtain ⟨p, q, hA0, hV, rfl, hfz, hnd⟩ := hW
  have hA : DataW.TrodAll enc Try.prog W 0 (fun _ => true) true Try.f5.params.toList args.toList ds p := hA0
  rw [Try.params5] at hA hval hsz
  obtain ⟨v0, vs0, d0, ds0, p0, q0, hargs, rfl, rfl, h0, r0⟩ := trodAll_cons hA
  obtain ⟨v1, vs1, d1, ds1, p1, q1, rfl, rfl, rfl, h1, r1⟩ := trodAll_cons r0
  obtain ⟨v2, vs2, d2, ds2, p2, q2, rfl, rfl, rfl, h2, r2⟩ := trodAll_cons r1
  obtain ⟨rfl, rfl, rfl⟩ := trodAll_nil r2
  obtain rfl : args = #[v0, v1, v2] := by cases args; simp_all
  obtain ⟨rfl, rfl⟩ := trodVars_none hV
  obtain ⟨a0, len0, cap0, rfl⟩ := okWide_slice Try.underlying34 (hval 0 34 v0 rfl rfl)
  have k0 := h0
  have lt0 : ∀ x ∈ p0, x.block < W.heap.size := by obtain ⟨m, hm⟩ := k0; exact DataW.trod_lt m _ _ _ hm
  obtain ⟨l0, e0, hr0, hc0, hw0⟩ : ∃ l : List Go.Proofs.Ytapdnkmaklpoeaa.PHead.S23, len0 = l.length ∧ Kd.C Go.Proofs.Ytapdnkmaklpoeaa.PHead.k23 W a0 l.length l ∧ l.length ≤ cap0 ∧ ∀ p ∈ l, (Lit.int .u8 p.f0).wf = true := by
    obtain ⟨fuel, hf⟩ := h0
    rcases Sr.fields_at Try.underlying34 Try.underlying23 (by kernel_rfl) (by kernel_rfl) hf with hcs | ⟨x, len, cap, hcs, hl, hm, hi⟩
    · simp [Value.cells] at hcs
      obtain ⟨rfl, rfl, rfl⟩ := hcs
      exact ⟨[], rfl, ⟨rfl, by simp, fun h => absurd h (by simp)⟩, Nat.zero_le _, fun p hp => by simp at hp⟩
    · simp [Value.cells] at hcs
      obtain ⟨rfl, rfl, rfl⟩ := hcs
      have hcell : ∀ i, i < len0 → ∃ p : Go.Proofs.Ytapdnkmaklpoeaa.PHead.S23, ((Lit.int .u8 p.f0).wf = true) ∧ W.cell? (x.add (i * 2 + 0)) = some (.int .u8 p.f0) ∧ W.cell? (x.add (i * 2 + 1)) = some (.string p.f1) := by
        intro i hil
        obtain ⟨v0, y0, n0, c0, t0⟩ := hi i hil 0 _ rfl
        obtain ⟨b0, e0, _, w0⟩ := DataW.trod_int Try.underlying5 t0
        obtain rfl := List.head_eq_of_cons_eq e0
        obtain ⟨v1, y1, n1, c1, t1⟩ := hi i hil 1 _ rfl
        obtain ⟨b1, e1, _, w1⟩ := DataW.trod_string Try.underlying9 t1
        obtain rfl := List.head_eq_of_cons_eq e1
        exact ⟨⟨b0, b1⟩, w0, c0, c1⟩
      obtain ⟨L, hL, hq⟩ := Sr.list_of _ hcell
      simp only [maxLen] at hm
      refine ⟨L, hL.symm, ⟨rfl, by omega, fun _ => ⟨x, rfl, fun j p hj => ⟨[.int .u8 p.f0, .string p.f1], rfl, Go.Proofs.Ytapdnkmaklpoeaa.PHead.k23_mk W p, fun i u hu => ?_⟩⟩⟩, by omega, fun p hp => ?_⟩
      · obtain ⟨_, g0, g1⟩ := hq j p hj
        match i, hu with
        | 0, hu => exact Option.some.inj hu ▸ g0
        | 1, hu => exact Option.some.inj hu ▸ g1
        | z + 2, hu => simp at hu
      · obtain ⟨j, hj⟩ := List.getElem?_of_mem hp
        exact (hq j p hj).1
  subst e0
  obtain ⟨a1, rfl, rfl, rfl, y1⟩ := open_string Try.underlying9 (hval 1 9 v1 rfl rfl) h1
  have w1 : a1.size ≤ 140737488351232 := by
    have z := sized_string hsz (j := 1) (t := 9) rfl rfl
    rw [Array.length_toList] at z
    exact z
  obtain ⟨a2, rfl, rfl, rfl, w2⟩ := open_int Try.underlying3 (hval 2 3 v2 rfl rfl) h2
  clear hA0 hval0 hsz0 hsz
  refine (Pure.backWalk a0 cap0 l0 a1 a2 W hr0 hc0 hw0 w1 w2).mono fun e W' ⟨he, bel⟩ => ?_
  subst he
  exact ⟨_, rfl, _, _, _, [], _, [], hW', trodAll_mk1 (shut_bool Try.underlying4 _), (trodAll_cons_mk (Below.trod laidOut (by kernel_rfl) (of_decide_eq_true (by kernel_rfl)) k0 bel lt0) (trodAll_cons_mk (shut_string Try.underlying9 y1) (trodAll_cons_mk (shut_int Try.underlying3 w2) trodAll_mk0))), rfl, bel.frame _, fun h => by cases h⟩
theorem over : Rows.headBackRow.holds Try.pinned (OpenSpec.ofChange Rows.headBackSpec) :=
  OpenClaim.holds_of_wide 5 Try.f5 rfl rfl rfl rfl rfl rfl rfl ⟨rfl, rfl, rfl, rfl, rfl⟩ rfl rfl rfl rfl rfl (by kernel_rfl) Try.func5 (by kernel_rfl)
    (of_decide_eq_true (by kernel_rfl)) (by unfold Func.isWrapper; first | (rw [if_pos (by decide +kernel)]; kernel_rfl) | (rw [if_neg (by decide +kernel)]; exact ⟨rfl, rfl⟩))
    (fun os started H enc _ => lifted os started H enc)
theorem proved : Rows.HeadBackSaid := over
#print axioms proved
end Go.Proofs.Ytapdnkmaklpoeaa.headBack
namespace Go.Proofs.Ytapdnkmaklpoeaa
/-- The row, under a short name, for the claim. -/
theorem headBack_holds : Rows.HeadBackSaid := headBack.proved
end Go.Proofs.Ytapdnkmaklpoeaa
