-- Made by a program of this session (wip/tools/rows.py): the row of the law BlakeAgain, out of its walk.
import Derived.Test.YtacjfgdehnenpaaRows
import Derived.Test.YtacjfgdehnenpaaHandAgain
import Derived.WalkKit
import Derived.ProofKit
import Derived.OpenShut
import Derived.ShutString
import Derived.ChangeOld
import Derived.Below
import Derived.SizedLaws
import Derived.SliceStrings
import Derived.Lib.SmallJoins
import Derived.ChangeArms
import Derived.Test.YtacjfgdehnenpaaWSized
import Derived.Test.YtacjfgdehnenpaaSr
namespace Go.Proofs.Ytacjfgdehnenpaa.blakeAgain
open Go.ChangeShapes Go.WideShapes Go.ChangeAt Go.RowKit Go.Proofs.YtacjfgdehnenpaaW.PrintWords
open Go.ChangeMaps (open_string shut_string)
set_option linter.unusedVariables false
theorem own : ownKnob Try.prog.godebug = none := by kernel_rfl
theorem laidOut : laidOutB Try.prog = true := by kernel_rfl
set_option maxRecDepth 100000 in
theorem lifted (os : Os) (started : os.Started) (H : Type) (enc : TypeId × Value → H) :
    ReturnsInHanded {} Try.checked os 8 .any (Rows.blakeAgainSpec.pre6 enc Try.prog Try.f8 Rows.blakeAgainRow.domain false) (Rows.blakeAgainSpec.post enc Try.prog Try.f8 false true false false) := by
  refine returnsInHanded_of_change_sized (C := Try.checked) own started (by kernel_rfl) Try.func8
    (ChangeSpec.witness6 (enc := enc) (C := Try.checked) false ⟨#[], #[.slice none 0 0], []⟩ 8 (by kernel_rfl) (by kernel_rfl) (by kernel_rfl) (by kernel_rfl)) ?_
  intro W base args ds gs before hval0 hW hcnd hsz0 _
  have hsz : (DataW.weightsEach Try.prog (Try.f8.params.toList ++ Rows.blakeAgainSpec.plain.varTypes Try.prog) (ds ++ gs)).all (· ≤ reachBytes) = true := hsz0
  have hval : ∀ (j : Nat) t v, Try.f8.params[j]? = some t → args[j]? = some v → Value.okWide Try.prog W .any base t v := hval0
  have hW' := hW
  obtain ⟨p, q, hA0, hV, rfl, hfz, hnd⟩ := hW
  have hA : DataW.TrodAll enc Try.prog W 0 (fun _ => true) true Try.f8.params.toList args.toList ds p := hA0
  rw [Try.params8] at hA hval hsz
  obtain ⟨v0, vs0, d0, ds0, p0, q0, hargs, rfl, rfl, h0, r0⟩ := trodAll_cons hA
  obtain ⟨rfl, rfl, rfl⟩ := trodAll_nil r0
  obtain rfl : args = #[v0] := by cases args; simp_all
  obtain ⟨rfl, rfl⟩ := trodVars_none hV
  obtain ⟨a0, len0, cap0, rfl⟩ := okWide_slice Try.underlying39 (hval 0 39 v0 rfl rfl)
  have k0 := h0
  have lt0 : ∀ x ∈ p0, x.block < W.heap.size := by obtain ⟨m, hm⟩ := k0; exact DataW.trod_lt m _ _ _ hm
  obtain ⟨l0, e0, hr0, hc0⟩ : ∃ l : List (ByteArray × ByteArray), len0 = l.length ∧ Bk.PairsAt W a0 l ∧ l.length ≤ cap0 := by
    obtain ⟨fuel, hf⟩ := h0
    rcases Sr.cells_at Try.underlying39 Try.underlying40 (by kernel_rfl) (by kernel_rfl) hf with hcs | ⟨x, len, cap, hcs, hl, hm, hi⟩
    · simp [Value.cells] at hcs
      obtain ⟨rfl, rfl, rfl⟩ := hcs
      exact ⟨[], rfl, ⟨by simp, fun i p h => by simp at h⟩, Nat.zero_le _⟩
    · simp [Value.cells] at hcs
      obtain ⟨rfl, rfl, rfl⟩ := hcs
      have hcell : ∀ i, i < len0 → ∃ p : ByteArray × ByteArray, W.cell? (x.add (i * 2 + 0)) = some (.string p.1) ∧ W.cell? (x.add (i * 2 + 1)) = some (.string p.2) := by
        intro i hil
        obtain ⟨v0, y0, n0, c0, t0⟩ := hi i hil 0 (by decide)
        obtain ⟨b0, e0, _, w0⟩ := DataW.trod_string Try.underlying9 t0
        obtain rfl := List.head_eq_of_cons_eq e0
        obtain ⟨v1, y1, n1, c1, t1⟩ := hi i hil 1 (by decide)
        obtain ⟨b1, e1, _, w1⟩ := DataW.trod_string Try.underlying9 t1
        obtain rfl := List.head_eq_of_cons_eq e1
        exact ⟨⟨b0, b1⟩, c0, c1⟩
      obtain ⟨L, hL, hq⟩ := Sr.list_of _ hcell
      simp only [maxLen] at hm
      refine ⟨L, hL.symm, ⟨by omega, fun i p hp => ⟨x, rfl, ?_⟩⟩, by omega⟩
      obtain ⟨g0, g1⟩ := hq i p hp
      exact ⟨g0, by rw [← Go.Proofs.YtacjfgdehnenpaaW.PrintWords.add_field _ _ 1 (by omega)] at *; exact g1⟩
  subst e0
  clear hA0 hval0 hsz0 hsz
  refine (Bk.again_walk a0 cap0 l0 W hr0 hc0).mono fun e W' ⟨he, bel⟩ => ?_
  subst he
  exact ⟨_, rfl, _, _, _, [], _, [], hW', trodAll_mk1 (shut_bool Try.underlying4 _), (trodAll_cons_mk (Below.trod laidOut (by kernel_rfl) (of_decide_eq_true (by kernel_rfl)) k0 bel lt0) trodAll_mk0), rfl, bel.frame _, fun h => by cases h⟩
theorem over : Rows.blakeAgainRow.holds Try.pinned (OpenSpec.ofChange Rows.blakeAgainSpec) :=
  OpenClaim.holds_of_wide 8 Try.f8 rfl rfl rfl rfl rfl rfl rfl ⟨rfl, rfl, rfl, rfl, rfl⟩ rfl rfl rfl rfl rfl (by kernel_rfl) Try.func8 (by kernel_rfl)
    (of_decide_eq_true (by kernel_rfl)) (by unfold Func.isWrapper; first | (rw [if_pos (by decide +kernel)]; kernel_rfl) | (rw [if_neg (by decide +kernel)]; exact ⟨rfl, rfl⟩))
    (fun os started H enc _ => lifted os started H enc)
theorem proved : Rows.BlakeAgainSaid := over
#print axioms proved
end Go.Proofs.Ytacjfgdehnenpaa.blakeAgain
namespace Go.Proofs.Ytacjfgdehnenpaa
/-- The row, under a short name, for the claim. -/
theorem blakeAgain_holds : Rows.BlakeAgainSaid := blakeAgain.proved
end Go.Proofs.Ytacjfgdehnenpaa
