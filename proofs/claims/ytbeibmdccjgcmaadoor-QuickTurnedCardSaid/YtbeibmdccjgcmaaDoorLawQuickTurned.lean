-- Made by a program of this session (wip/tools/rows.py): the row of the law QuickTurned, out of its walk.
import Derived.Test.YtbeibmdccjgcmaaDoorRows
import Derived.Test.YtbeibmdccjgcmaaDoorQTurn
import Derived.WalkKit
import Derived.ProofKit
import Derived.OpenShut
import Derived.ShutString
import Derived.ChangeOld
import Derived.Below
import Derived.SizedLaws
import Derived.SliceStrings
import Derived.Lib.SmallJoins
import Derived.ChangeArms
import Derived.Test.YtbeibmdccjgcmaaDoorWSized
import Derived.Test.YtbeibmdccjgcmaaDoorSr
import Derived.Test.YtbeibmdccjgcmaaDoorTie
import Derived.Test.YtbeibmdccjgcmaaDoorCards
import Derived.LaidMore
import Derived.Lay
import Derived.SevenTiedAt
import Derived.Stop.Joined
import Derived.Deep.DeepHandedRow
import Derived.Deep.DeepWitnessRowRef
import Derived.Lib.LaidIn
import Derived.Lib.LaidU8T
import Derived.PinnedBridge
import Derived.JoinedCond
namespace Go.Proofs.YtbeibmdccjgcmaaDoor.quickTurned
open Go.ChangeShapes Go.WideShapes Go.ChangeAt Go.RowKit Go.Proofs.YtbeibmdccjgcmaaDoorW.PrintWords
open Go.ChangeMaps (open_string shut_string)
set_option linter.unusedVariables false
theorem own : ownKnob Tryd.prog.godebug = none := by kernel_rfl
theorem laidOut : laidOutB Tryd.prog = true := by kernel_rfl
theorem tabs_of {W : World} (hL : laidMetH Tryd.prog Rows.quickTurnedRow.laid W) (hsh : W.ShapedOpen Tryd.prog) : Me.Tabs W := by
  rw [MakeChecks.laidMetH_plain _ _ _ (by kernel_rfl)] at hL
  have h4 : Lib.VarReads Tryd.prog W "unicode/utf8.acceptRanges" Lib.acceptData := (show (Rows.laid_unicode_utf8_acceptRanges : DataW Unit) = Lib.acceptData by kernel_rfl) ▸ Lib.laidMet.reads hL (.head _)
  have h3 : Lib.VarReads Tryd.prog W "unicode/utf8.first" Lib.firstData := Pinned.utf8First_eq ▸ Lib.laidMet.reads hL (.tail _ (.head _))
  exact ⟨utf8Tabs_of_readsT (U8Types.of196 Tryd.lays196) ⟨by kernel_rfl, by kernel_rfl, by kernel_rfl, by kernel_rfl, by kernel_rfl, by kernel_rfl, by kernel_rfl⟩ h3 h4, Tryd.laysM146.s1_3 W hsh⟩
set_option maxRecDepth 100000 in
theorem lifted (os : Os) (started : os.Started) (H : Type) (enc : TypeId × Value → H) (F : Stop.Interp) :
    ReturnsInHanded {} Tryd.checked os 8 .any ((OpenSpec.ofChange Rows.quickTurnedSpec).preRow enc Tryd.prog Tryd.f8 Rows.quickTurnedRow.domain false Rows.quickTurnedRow.laid) (((OpenSpec.ofChange Rows.quickTurnedSpec).at F).post enc Tryd.prog Tryd.f8 false true false false) := by
  refine returnsInHanded_of_row (C := Tryd.checked) (s := OpenSpec.ofChange Rows.quickTurnedSpec) own started (by kernel_rfl) Tryd.func8 ?wit ?_
  case wit =>
    exact ChangeSpec.witness_shaped (s := Rows.quickTurnedSpec) (enc := enc) (C := Tryd.checked) (os := os) (X := fun w _ => laidMetH Tryd.prog Rows.quickTurnedRow.laid w) false (World.laidAll Tryd.prog os Rows.quickTurnedRow.laid) #[.slice none 0 0, .int .i64 0, .int .u8 0] 8 (World.laidAll_os _ _ _)
      (World.shaped_of_ZipB (by kernel_rfl) (by kernel_rfl)) (by kernel_rfl) (by kernel_rfl) (by kernel_rfl)
      (by rw [MakeChecks.laidMetH_plain _ _ _ (by kernel_rfl)]; exact laidMet_laidAll _ (by kernel_rfl) (by kernel_rfl))
  intro W base args ds gs before hval0 hW hcnd _ hsz0 hL hsh _
  have hTabs := tabs_of hL hsh
  have hsz : (DataW.weightsEach Tryd.prog (Tryd.f8.params.toList ++ Rows.quickTurnedSpec.plain.varTypes Tryd.prog) (ds ++ gs)).all (· ≤ reachBytes) = true := hsz0
  have hval : ∀ (j : Nat) t v, Tryd.f8.params[j]? = some t → args[j]? = some v → Value.okWide Tryd.prog W .any base t v := hval0
  have hW' := hW
  obtain ⟨p, q, hA0, hV, rfl, hfz, hnd⟩ := hW
  have hA : DataW.TrodAll enc Tryd.prog W 0 (fun _ => true) true Tryd.f8.params.toList args.toList ds p := hA0
  rw [Tryd.params8] at hA hval hsz
  obtain ⟨v0, vs0, d0, ds0, p0, q0, hargs, rfl, rfl, h0, r0⟩ := trodAll_cons hA
  obtain ⟨v1, vs1, d1, ds1, p1, q1, rfl, rfl, rfl, h1, r1⟩ := trodAll_cons r0
  obtain ⟨v2, vs2, d2, ds2, p2, q2, rfl, rfl, rfl, h2, r2⟩ := trodAll_cons r1
  obtain ⟨rfl, rfl, rfl⟩ := trodAll_nil r2
  obtain rfl : args = #[v0, v1, v2] := by cases args; simp_all
  obtain ⟨rfl, rfl⟩ := trodVars_none hV
  obtain ⟨a0, len0, cap0, rfl⟩ := okWide_slice Tryd.underlying22 (hval 0 22 v0 rfl rfl)
  have k0 := h0
  have lt0 : ∀ x ∈ p0, x.block < W.heap.size := by obtain ⟨m, hm⟩ := k0; exact DataW.trod_lt m _ _ _ hm
  obtain ⟨l0, e0, hr0, hc0, hw0⟩ : ∃ l : List Go.Proofs.YtbeibmdccjgcmaaDoor.PQu.S33, len0 = l.length ∧ Kd.C Go.Proofs.YtbeibmdccjgcmaaDoor.PQu.k33 W a0 l.length l ∧ l.length ≤ cap0 ∧ ∀ p ∈ l, p.f0.size ≤ 140737488351232 ∧ (Lit.int .i64 p.f1).wf = true ∧ (Lit.int .i64 p.f2).wf = true ∧ (Lit.int .i64 p.f3).wf = true ∧ p.f4.size ≤ 140737488351232 := by
    obtain ⟨fuel, hf⟩ := h0
    rcases Sr.fields_at2 Tryd.underlying22 Tryd.underlying33 (by kernel_rfl) (by kernel_rfl) hf with hcs | ⟨x, len, cap, hcs, hl, hm, hi⟩
    · simp [Value.cells] at hcs
      obtain ⟨rfl, rfl, rfl⟩ := hcs
      exact ⟨[], rfl, ⟨rfl, by simp, fun h => absurd h (by simp)⟩, Nat.zero_le _, fun p hp => by simp at hp⟩
    · simp [Value.cells] at hcs
      obtain ⟨rfl, rfl, rfl⟩ := hcs
      have hcell : ∀ i, i < len0 → ∃ p : Go.Proofs.YtbeibmdccjgcmaaDoor.PQu.S33, (p.f0.size ≤ 140737488351232 ∧ (Lit.int .i64 p.f1).wf = true ∧ (Lit.int .i64 p.f2).wf = true ∧ (Lit.int .i64 p.f3).wf = true ∧ p.f4.size ≤ 140737488351232) ∧ W.cell? (x.add (i * 5 + 0)) = some (.string p.f0) ∧ W.cell? (x.add (i * 5 + 1)) = some (.int .i64 p.f1) ∧ W.cell? (x.add (i * 5 + 2)) = some (.int .i64 p.f2) ∧ W.cell? (x.add (i * 5 + 3)) = some (.int .i64 p.f3) ∧ W.cell? (x.add (i * 5 + 4)) = some (.string p.f4) := by
        intro i hil
        obtain ⟨v0, y0, n0, c0, t0, q0⟩ := hi i hil 0 _ rfl
        obtain ⟨b0, e0, g0, _⟩ := DataW.trod_string Tryd.underlying9 t0
        have w0 : b0.size ≤ 140737488351232 := by
          have h1 := q0 b0.data.toList.length (by rw [g0]; simp [DataW.weights])
          have h2 : b0.data.toList.length ≤ reachBytes := by simpa using List.all_eq_true.1 hsz _ (DataW.weights_mem_each (j := 0) (t := 22) rfl rfl _ h1)
          exact h2
        obtain rfl := List.head_eq_of_cons_eq e0
        obtain ⟨v1, y1, n1, c1, t1, q1⟩ := hi i hil 1 _ rfl
        obtain ⟨b1, e1, _, w1⟩ := DataW.trod_int Tryd.underlying3 t1
        obtain rfl := List.head_eq_of_cons_eq e1
        obtain ⟨v2, y2, n2, c2, t2, q2⟩ := hi i hil 2 _ rfl
        obtain ⟨b2, e2, _, w2⟩ := DataW.trod_int Tryd.underlying2 t2
        obtain rfl := List.head_eq_of_cons_eq e2
        obtain ⟨v3, y3, n3, c3, t3, q3⟩ := hi i hil 3 _ rfl
        obtain ⟨b3, e3, _, w3⟩ := DataW.trod_int Tryd.underlying3 t3
        obtain rfl := List.head_eq_of_cons_eq e3
        obtain ⟨v4, y4, n4, c4, t4, q4⟩ := hi i hil 4 _ rfl
        obtain ⟨b4, e4, g4, _⟩ := DataW.trod_string Tryd.underlying9 t4
        have w4 : b4.size ≤ 140737488351232 := by
          have h1 := q4 b4.data.toList.length (by rw [g4]; simp [DataW.weights])
          have h2 : b4.data.toList.length ≤ reachBytes := by simpa using List.all_eq_true.1 hsz _ (DataW.weights_mem_each (j := 0) (t := 22) rfl rfl _ h1)
          exact h2
        obtain rfl := List.head_eq_of_cons_eq e4
        exact ⟨⟨b0, b1, b2, b3, b4⟩, ⟨w0, w1, w2, w3, w4⟩, c0, c1, c2, c3, c4⟩
      obtain ⟨L, hL, hq⟩ := Sr.list_of _ hcell
      simp only [maxLen] at hm
      refine ⟨L, hL.symm, ⟨rfl, by omega, fun _ => ⟨x, rfl, fun j p hj => ⟨[.string p.f0, .int .i64 p.f1, .int .i64 p.f2, .int .i64 p.f3, .string p.f4], rfl, Go.Proofs.YtbeibmdccjgcmaaDoor.PQu.k33_mk W p, fun i u hu => ?_⟩⟩⟩, by omega, fun p hp => ?_⟩
      · obtain ⟨_, g0, g1, g2, g3, g4⟩ := hq j p hj
        match i, hu with
        | 0, hu => exact Option.some.inj hu ▸ g0
        | 1, hu => exact Option.some.inj hu ▸ g1
        | 2, hu => exact Option.some.inj hu ▸ g2
        | 3, hu => exact Option.some.inj hu ▸ g3
        | 4, hu => exact Option.some.inj hu ▸ g4
        | z + 5, hu => simp at hu
      · obtain ⟨j, hj⟩ := List.getElem?_of_mem hp
        exact (hq j p hj).1
  subst e0
  obtain ⟨a1, rfl, rfl, rfl, w1⟩ := open_int Tryd.underlying3 (hval 1 3 v1 rfl rfl) h1
  obtain ⟨a2, rfl, rfl, rfl, w2⟩ := open_int Tryd.underlying5 (hval 2 5 v2 rfl rfl) h2
  clear hA0 hval0 hsz0 hsz
  refine (PQu.QuickTurned_walk a0 cap0 l0 a1 a2 W hr0 hc0 hw0 w1 w2 hTabs).mono fun e W' ⟨he, bel⟩ => ?_
  subst he
  exact ⟨_, rfl, _, _, _, [], _, [], hW', trodAll_mk1 (shut_bool Tryd.underlying4 _), (trodAll_cons_mk (Below.trod laidOut (by kernel_rfl) (of_decide_eq_true (by kernel_rfl)) k0 bel lt0) (trodAll_cons_mk (shut_int Tryd.underlying3 w1) (trodAll_cons_mk (shut_int Tryd.underlying5 w2) trodAll_mk0))), rfl, bel.frame _, fun h => by cases h⟩
theorem over : Rows.quickTurnedRow.holds Tryd.pinned (OpenSpec.ofChange Rows.quickTurnedSpec) :=
  OpenClaim.holds_of_cond 8 Tryd.f8 rfl rfl rfl rfl rfl rfl rfl ⟨rfl, rfl, rfl, rfl, rfl⟩ rfl rfl rfl rfl rfl (by kernel_rfl) Tryd.func8 (by kernel_rfl)
    (of_decide_eq_true (by kernel_rfl)) (by unfold Func.isWrapper; first | (rw [if_pos (by decide +kernel)]; kernel_rfl) | (rw [if_neg (by decide +kernel)]; exact ⟨rfl, rfl⟩))
    (fun os started H enc _ F => by rw [OpenClaim.pre_eq_preRow]; exact lifted os started H enc F)
theorem proved : Rows.QuickTurnedCardSaid :=
  Claim7.holds_tied_plain_at .later [] [.data, .pinned] true (true, "783d470a607880ec070b4ed0669331d517bed54b757f44bf684a3303d9568d28") false over (fun _ h => by cases h) (by kernel_rfl) (fun _ h => by cases h) quickTurned_row_tie rfl ⟨rfl, rfl⟩ (by kernel_rfl) rfl
    (fun f fn hf hfn => by
      obtain rfl : f = 8 := Option.some.inj ((show Tryd.prog.funcNamed "hamper/hamperlaw21.QuickTurned" = some 8 by kernel_rfl).symm.trans hf) |>.symm
      obtain rfl : fn = Tryd.f8 := (Option.some.inj (Tryd.func8.symm.trans hfn)).symm
      exact ⟨by kernel_rfl, fun j t ht => by
        rw [Tryd.params8] at ht
        have hm := Array.mem_of_getElem? ht
        have hall : ([22, 3, 5].all fun u => !Tryd.prog.wantsStandIn u) = true := by kernel_rfl
        have hm2 : t ∈ [22, 3, 5] := by simpa using hm
        exact (show Tryd.prog.wantsStandIn t = false by simpa using List.all_eq_true.1 hall t hm2)⟩)
    (by kernel_rfl)
#print axioms proved
end Go.Proofs.YtbeibmdccjgcmaaDoor.quickTurned
namespace Go.Proofs.YtbeibmdccjgcmaaDoor
/-- The card, under a short name, for the claim. -/
theorem quickTurned_holds : Rows.QuickTurnedCardSaid := quickTurned.proved
end Go.Proofs.YtbeibmdccjgcmaaDoor
