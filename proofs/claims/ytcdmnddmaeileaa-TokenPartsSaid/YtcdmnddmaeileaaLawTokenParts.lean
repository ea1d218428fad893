-- Made by a program of this session (wip/tools/rows.py): the row of the law TokenParts, out of its walk.
import Derived.Test.YtcdmnddmaeileaaRows
import Derived.Test.YtcdmnddmaeileaaHandParts
import Derived.WalkKit
import Derived.ProofKit
import Derived.OpenShut
import Derived.ShutString
import Derived.ChangeOld
import Derived.Below
import Derived.SizedLaws
import Derived.SliceStrings
import Derived.Lib.SmallJoins
import Derived.ChangeArms
import Derived.Test.YtcdmnddmaeileaaWSized
import Derived.Test.YtcdmnddmaeileaaSr
namespace Go.Proofs.Ytcdmnddmaeileaa.tokenParts
open Go.ChangeShapes Go.WideShapes Go.ChangeAt Go.RowKit Go.Proofs.YtcdmnddmaeileaaW.PrintWords
open Go.ChangeMaps (open_string shut_string)
set_option linter.unusedVariables false
theorem own : ownKnob Try.prog.godebug = none := by kernel_rfl
theorem laidOut : laidOutB Try.prog = true := by kernel_rfl
set_option maxRecDepth 100000 in
theorem lifted (os : Os) (started : os.Started) (H : Type) (enc : TypeId × Value → H) :
    ReturnsInHanded {} Try.checked os 8 .any (Rows.tokenPartsSpec.pre6 enc Try.prog Try.f8 Rows.tokenPartsRow.domain false) (Rows.tokenPartsSpec.post enc Try.prog Try.f8 false true false false) := by
  refine returnsInHanded_of_change_sized (C := Try.checked) own started (by kernel_rfl) Try.func8
    (ChangeSpec.witness6 (enc := enc) (C := Try.checked) false ⟨#[], #[.slice none 0 0, .int .i64 0, .string ByteArray.empty], []⟩ 8 (by kernel_rfl) (by kernel_rfl) (by kernel_rfl) (by kernel_rfl)) ?_
  intro W base args ds gs before hval0 hW hcnd hsz0 _
  have hsz : (DataW.weightsEach Try.prog (Try.f8.params.toList ++ Rows.tokenPartsSpec.plain.varTypes Try.prog) (ds ++ gs)).all (· ≤ reachBytes) = true := hsz0
  have hval : ∀ (j : Nat) t v, Try.f8.params[j]? = some t → args[j]? = some v → Value.okWide Try.prog W .any base t v := hval0
  have hW' := hW
  obtain ⟨p, q, hA0, hV, rfl, hfz, hnd⟩ := hW
  have hA : DataW.TrodAll enc Try.prog W 0 (fun _ => true) true Try.f8.params.toList args.toList ds p := hA0
  rw [Try.params8] at hA hval hsz
  obtain ⟨v0, vs0, d0, ds0, p0, q0, hargs, rfl, rfl, h0, r0⟩ := trodAll_cons hA
  obtain ⟨v1, vs1, d1, ds1, p1, q1, rfl, rfl, rfl, h1, r1⟩ := trodAll_cons r0
  obtain ⟨v2, vs2, d2, ds2, p2, q2, rfl, rfl, rfl, h2, r2⟩ := trodAll_cons r1
  obtain ⟨rfl, rfl, rfl⟩ := trodAll_nil r2
  obtain rfl : args = #[v0, v1, v2] := by cases args; simp_all
  obtain ⟨rfl, rfl⟩ := trodVars_none hV
  obtain ⟨a0, len0, cap0, rfl⟩ := okWide_slice Try.underlying24 (hval 0 24 v0 rfl rfl)
  have k0 := h0
  have lt0 : ∀ x ∈ p0, x.block < W.heap.size := by obtain ⟨m, hm⟩ := k0; exact DataW.trod_lt m _ _ _ hm
  obtain ⟨l0, e0, hr0, hc0, hw0⟩ : ∃ l : List Go.Proofs.Ytcdmnddmaeileaa.PToken.S23, len0 = l.length ∧ Kd.C Go.Proofs.Ytcdmnddmaeileaa.PToken.k23 W a0 l.length l ∧ l.length ≤ cap0 ∧ ∀ p ∈ l, (Lit.int .u8 p.f0).wf = true ∧ (Lit.int .u8 p.f1).wf = true ∧ (Lit.int .i64 p.f2).wf = true ∧ (Lit.int .i64 p.f3).wf = true ∧ (Lit.int .i64 p.f4).wf = true := by
    obtain ⟨fuel, hf⟩ := h0
    rcases Sr.fields_at Try.underlying24 Try.underlying23 (by kernel_rfl) (by kernel_rfl) hf with hcs | ⟨x, len, cap, hcs, hl, hm, hi⟩
    · simp [Value.cells] at hcs
      obtain ⟨rfl, rfl, rfl⟩ := hcs
      exact ⟨[], rfl, ⟨rfl, by simp, fun h => absurd h (by simp)⟩, Nat.zero_le _, fun p hp => by simp at hp⟩
    · simp [Value.cells] at hcs
      obtain ⟨rfl, rfl, rfl⟩ := hcs
      have hcell : ∀ i, i < len0 → ∃ p : Go.Proofs.Ytcdmnddmaeileaa.PToken.S23, ((Lit.int .u8 p.f0).wf = true ∧ (Lit.int .u8 p.f1).wf = true ∧ (Lit.int .i64 p.f2).wf = true ∧ (Lit.int .i64 p.f3).wf = true ∧ (Lit.int .i64 p.f4).wf = true) ∧ W.cell? (x.add (i * 5 + 0)) = some (.int .u8 p.f0) ∧ W.cell? (x.add (i * 5 + 1)) = some (.int .u8 p.f1) ∧ W.cell? (x.add (i * 5 + 2)) = some (.int .i64 p.f2) ∧ W.cell? (x.add (i * 5 + 3)) = some (.int .i64 p.f3) ∧ W.cell? (x.add (i * 5 + 4)) = some (.int .i64 p.f4) := by
        intro i hil
        obtain ⟨v0, y0, n0, c0, t0⟩ := hi i hil 0 _ rfl
        obtain ⟨b0, e0, _, w0⟩ := DataW.trod_int Try.underlying5 t0
        obtain rfl := List.head_eq_of_cons_eq e0
        obtain ⟨v1, y1, n1, c1, t1⟩ := hi i hil 1 _ rfl
        obtain ⟨b1, e1, _, w1⟩ := DataW.trod_int Try.underlying5 t1
        obtain rfl := List.head_eq_of_cons_eq e1
        obtain ⟨v2, y2, n2, c2, t2⟩ := hi i hil 2 _ rfl
        obtain ⟨b2, e2, _, w2⟩ := DataW.trod_int Try.underlying3 t2
        obtain rfl := List.head_eq_of_cons_eq e2
        obtain ⟨v3, y3, n3, c3, t3⟩ := hi i hil 3 _ rfl
        obtain ⟨b3, e3, _, w3⟩ := DataW.trod_int Try.underlying3 t3
        obtain rfl := List.head_eq_of_cons_eq e3
        obtain ⟨v4, y4, n4, c4, t4⟩ := hi i hil 4 _ rfl
        obtain ⟨b4, e4, _, w4⟩ := DataW.trod_int Try.underlying3 t4
        obtain rfl := List.head_eq_of_cons_eq e4
        exact ⟨⟨b0, b1, b2, b3, b4⟩, ⟨w0, w1, w2, w3, w4⟩, c0, c1, c2, c3, c4⟩
      obtain ⟨L, hL, hq⟩ := Sr.list_of _ hcell
      simp only [maxLen] at hm
      refine ⟨L, hL.symm, ⟨rfl, by omega, fun _ => ⟨x, rfl, fun j p hj => ⟨[.int .u8 p.f0, .int .u8 p.f1, .int .i64 p.f2, .int .i64 p.f3, .int .i64 p.f4], rfl, Go.Proofs.Ytcdmnddmaeileaa.PToken.k23_mk W p, fun i u hu => ?_⟩⟩⟩, by omega, fun p hp => ?_⟩
      · obtain ⟨_, g0, g1, g2, g3, g4⟩ := hq j p hj
        match i, hu with
        | 0, hu => exact Option.some.inj hu ▸ g0
        | 1, hu => exact Option.some.inj hu ▸ g1
        | 2, hu => exact Option.some.inj hu ▸ g2
        | 3, hu => exact Option.some.inj hu ▸ g3
        | 4, hu => exact Option.some.inj hu ▸ g4
        | z + 5, hu => simp at hu
      · obtain ⟨j, hj⟩ := List.getElem?_of_mem hp
        exact (hq j p hj).1
  subst e0
  obtain ⟨a1, rfl, rfl, rfl, w1⟩ := open_int Try.underlying3 (hval 1 3 v1 rfl rfl) h1
  obtain ⟨a2, rfl, rfl, rfl, y2⟩ := open_string Try.underlying9 (hval 2 9 v2 rfl rfl) h2
  have w2 : a2.size ≤ 140737488351232 := by
    have z := sized_string hsz (j := 2) (t := 9) rfl rfl
    rw [Array.length_toList] at z
    exact z
  clear hA0 hval0 hsz0 hsz
  refine (PToken.parts_walk a0 cap0 l0 a1 a2 W hr0 hc0 hw0 w1 w2).mono fun e W' ⟨he, bel⟩ => ?_
  subst he
  exact ⟨_, rfl, _, _, _, [], _, [], hW', trodAll_mk1 (shut_bool Try.underlying4 _), (trodAll_cons_mk (Below.trod laidOut (by kernel_rfl) (of_decide_eq_true (by kernel_rfl)) k0 bel lt0) (trodAll_cons_mk (shut_int Try.underlying3 w1) (trodAll_cons_mk (shut_string Try.underlying9 y2) trodAll_mk0))), rfl, bel.frame _, fun h => by cases h⟩
theorem over : Rows.tokenPartsRow.holds Try.pinned (OpenSpec.ofChange Rows.tokenPartsSpec) :=
  OpenClaim.holds_of_wide 8 Try.f8 rfl rfl rfl rfl rfl rfl rfl ⟨rfl, rfl, rfl, rfl, rfl⟩ rfl rfl rfl rfl rfl (by kernel_rfl) Try.func8 (by kernel_rfl)
    (of_decide_eq_true (by kernel_rfl)) (by unfold Func.isWrapper; first | (rw [if_pos (by decide +kernel)]; kernel_rfl) | (rw [if_neg (by decide +kernel)]; exact ⟨rfl, rfl⟩))
    (fun os started H enc _ => lifted os started H enc)
theorem proved : Rows.TokenPartsSaid := over
#print axioms proved
end Go.Proofs.Ytcdmnddmaeileaa.tokenParts
namespace Go.Proofs.Ytcdmnddmaeileaa
/-- The row, under a short name, for the claim. -/
theorem tokenParts_holds : Rows.TokenPartsSaid := tokenParts.proved
end Go.Proofs.Ytcdmnddmaeileaa
