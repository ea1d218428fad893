/- A struct of several one-cell fields, by value: its fields. -/
import Derived.Test.YteplphpbpaojjaaDoorMetaRead
import Derived.Lib.SmallJoins
import Derived.OpenShut
import Derived.Deep.Slices
import Derived.Deep.Fields
import Derived.ChangeSame
import Derived.Test.YteplphpbpaojjaaDoorRows
import Derived.Test.YteplphpbpaojjaaDoorPureMetaRows
import Derived.WalkKit
import Derived.ProofKit
import Derived.ShutString
import Derived.ChangeOld
import Derived.Below
import Derived.SizedLaws
import Derived.SliceStrings
import Derived.ChangeArms
import Derived.Test.YteplphpbpaojjaaDoorWSized
import Derived.Test.YteplphpbpaojjaaDoorSr
import Derived.Test.YteplphpbpaojjaaDoorTie
import Derived.Test.YteplphpbpaojjaaDoorCards
import Derived.LaidMore
import Derived.Lay
import Derived.SevenTiedAt
import Derived.Stop.Joined
import Derived.Deep.DeepHandedRow
import Derived.Deep.DeepWitnessRowRef
import Derived.Lib.LaidIn
import Derived.Lib.LaidU8T
import Derived.PinnedBridge
import Derived.JoinedCond
namespace Go.Proofs.YteplphpbpaojjaaDoor.Me
open Go Go.Joins Go.ChangeShapes Go.WideShapes Go.RowKit Go.Deep
section
variable {H : Type} {enc : TypeId × Value → H} {P : Program} {w : World} {base : Nat} {spare : Nat → Bool} {held : Bool}
theorem open_fields {r : Reach} {b0 : Nat} {t : TypeId} {fs : Array Field} {v : Value} {d : DataW H} {p : List MemPlace} (hs : P.underlying t = some (.struct fs)) (hone : oneCellFields P fs = true) (hC : P.cellsOf t = fs.size)
    (hv : Value.okWide P w r b0 t v) (h : DataW.Trod enc P w base spare held t v d p) :
    ∃ (cs : Array Value) (ys : List (DataW H × List MemPlace)) (n : Nat), v = .agg cs ∧ cs.size = fs.size ∧ ys.length = fs.size ∧ d = .agg (ys.map (·.1)) ∧ p = ys.flatMap (·.2) ∧
      ∀ (j : Nat) (f : Field), fs[j]? = some f → ∃ (u : Value) (y : DataW H × List MemPlace), cs[j]? = some u ∧ ys[j]? = some y ∧ DataW.trod enc P w base spare held n f.type [u] = some y := by
  obtain ⟨cs, rfl, hsz⟩ := okWide_struct hs hv
  obtain ⟨fuel, hf⟩ := h
  obtain ⟨ys, n, _, hx, _, hlen, hg⟩ := DataW.trod_struct hs hf
  have hx2 := (Prod.mk.injEq _ _ _ _).mp hx
  refine ⟨cs, ys, n, rfl, hsz.trans hC, hlen, hx2.1, hx2.2, fun j f hj => ?_⟩
  have hjl : j < fs.size := (Array.getElem?_eq_some_iff.1 hj).1
  have hjc : j < cs.size := by rw [hsz.trans hC]; exact hjl
  have hjy : j < ys.length := by rw [hlen]; exact hjl
  obtain ⟨ho, hk⟩ := hone_of hone j f hj
  have h1 := hg j f hj
  rw [ho, hk] at h1
  have hcs : (Value.agg cs).cells = cs := rfl
  rw [hcs] at h1
  have htl : j < cs.toList.length := by rw [Array.length_toList]; exact hjc
  have ht : (cs.toList.drop j).take 1 = [cs[j]] := by
    rw [List.drop_eq_getElem_cons htl, Array.getElem_toList]
    rfl
  rw [ht] at h1
  exact ⟨cs[j], ys[j], Array.getElem?_eq_getElem hjc, List.getElem?_eq_getElem hjy, h1.trans (List.getElem?_eq_getElem hjy)⟩
theorem open_agg5 {r : Reach} {b0 : Nat} {t : TypeId} {f0 f1 f2 f3 f4 : Field} {v : Value} {d : DataW H} {p : List MemPlace} (hs : P.underlying t = some (.struct #[f0, f1, f2, f3, f4])) (hone : oneCellFields P #[f0, f1, f2, f3, f4] = true) (hC : P.cellsOf t = 5)
    (hv : Value.okWide P w r b0 t v) (h : DataW.Trod enc P w base spare held t v d p) :
    ∃ (v0 v1 v2 v3 v4 : Value) (y0 y1 y2 y3 y4 : DataW H × List MemPlace) (n : Nat), v = .agg #[v0, v1, v2, v3, v4] ∧ d = .agg [y0.1, y1.1, y2.1, y3.1, y4.1] ∧ p = [y0, y1, y2, y3, y4].flatMap (·.2) ∧
      DataW.trod enc P w base spare held n f0.type [v0] = some y0 ∧ DataW.trod enc P w base spare held n f1.type [v1] = some y1 ∧ DataW.trod enc P w base spare held n f2.type [v2] = some y2 ∧ DataW.trod enc P w base spare held n f3.type [v3] = some y3 ∧ DataW.trod enc P w base spare held n f4.type [v4] = some y4 := by
  obtain ⟨cs, ys, n, rfl, h1, h2, rfl, rfl, hF⟩ := open_fields hs hone hC hv h
  obtain ⟨u0, y0, c0, q0, t0⟩ := hF 0 f0 rfl
  obtain ⟨u1, y1, c1, q1, t1⟩ := hF 1 f1 rfl
  obtain ⟨u2, y2, c2, q2, t2⟩ := hF 2 f2 rfl
  obtain ⟨u3, y3, c3, q3, t3⟩ := hF 3 f3 rfl
  obtain ⟨u4, y4, c4, q4, t4⟩ := hF 4 f4 rfl
  have hcs : cs = #[u0, u1, u2, u3, u4] := by
    apply Array.ext_getElem?
    intro j
    rcases (show j = 0 ∨ j = 1 ∨ j = 2 ∨ j = 3 ∨ j = 4 ∨ 5 ≤ j by omega) with e | e | e | e | e | e
    · subst e; exact c0
    · subst e; exact c1
    · subst e; exact c2
    · subst e; exact c3
    · subst e; exact c4
    · rw [Array.getElem?_eq_none (by rw [h1]; exact e), Array.getElem?_eq_none (by exact e)]
  have hys : ys = [y0, y1, y2, y3, y4] := by
    apply List.ext_getElem?
    intro j
    rcases (show j = 0 ∨ j = 1 ∨ j = 2 ∨ j = 3 ∨ j = 4 ∨ 5 ≤ j by omega) with e | e | e | e | e | e
    · subst e; exact q0
    · subst e; exact q1
    · subst e; exact q2
    · subst e; exact q3
    · subst e; exact q4
    · rw [List.getElem?_eq_none (by rw [h2]; exact e), List.getElem?_eq_none (by exact e)]
  subst hcs
  subst hys
  exact ⟨u0, u1, u2, u3, u4, y0, y1, y2, y3, y4, n, rfl, rfl, rfl, t0, t1, t2, t3, t4⟩
end
end Go.Proofs.YteplphpbpaojjaaDoor.Me
namespace Go.Proofs.YteplphpbpaojjaaDoor.metaRows
open Go.ChangeShapes Go.WideShapes Go.ChangeAt Go.RowKit Go.Proofs.YteplphpbpaojjaaDoorW.PrintWords
open Go.ChangeMaps (open_string shut_string)
set_option linter.unusedVariables false
theorem own : ownKnob Tryd.prog.godebug = none := by kernel_rfl
theorem laidOut : laidOutB Tryd.prog = true := by kernel_rfl
theorem tabs_of {W : World} (hL : laidMetH Tryd.prog Rows.metaRowsRow.laid W) (hsh : W.ShapedOpen Tryd.prog) : Me.Tabs W := by
  rw [MakeChecks.laidMetH_plain _ _ _ (by kernel_rfl)] at hL
  have h4 : Lib.VarReads Tryd.prog W "unicode/utf8.acceptRanges" Lib.acceptData := (show (Rows.laid_unicode_utf8_acceptRanges : DataW Unit) = Lib.acceptData by kernel_rfl) ▸ Lib.laidMet.reads hL (.head _)
  have h3 : Lib.VarReads Tryd.prog W "unicode/utf8.first" Lib.firstData := Pinned.utf8First_eq ▸ Lib.laidMet.reads hL (.tail _ (.head _))
  exact ⟨utf8Tabs_of_readsT (U8Types.of196 Tryd.lays196) ⟨by kernel_rfl, by kernel_rfl, by kernel_rfl, by kernel_rfl, by kernel_rfl, by kernel_rfl, by kernel_rfl⟩ h3 h4, Tryd.laysM146.s1_3 W hsh⟩
set_option maxRecDepth 100000 in
theorem lifted (os : Os) (started : os.Started) (H : Type) (enc : TypeId × Value → H) (F : Stop.Interp) :
    ReturnsInHanded {} Tryd.checked os 6 .any ((OpenSpec.ofChange Rows.metaRowsSpec).preRow enc Tryd.prog Tryd.f6 Rows.metaRowsRow.domain false Rows.metaRowsRow.laid) (((OpenSpec.ofChange Rows.metaRowsSpec).at F).post enc Tryd.prog Tryd.f6 false true false false) := by
  refine returnsInHanded_of_row (C := Tryd.checked) (s := OpenSpec.ofChange Rows.metaRowsSpec) own started (by kernel_rfl) Tryd.func6 ?wit ?_
  case wit =>
    exact ChangeSpec.witness_shaped (s := Rows.metaRowsSpec) (enc := enc) (C := Tryd.checked) (os := os) (X := fun w _ => laidMetH Tryd.prog Rows.metaRowsRow.laid w) false (World.laidAll Tryd.prog os Rows.metaRowsRow.laid) #[.slice none 0 0] 8 (World.laidAll_os _ _ _)
      (World.shaped_of_ZipB (by kernel_rfl) (by kernel_rfl)) (by kernel_rfl) (by kernel_rfl) (by kernel_rfl)
      (by rw [MakeChecks.laidMetH_plain _ _ _ (by kernel_rfl)]; exact laidMet_laidAll _ (by kernel_rfl) (by kernel_rfl))
  intro W base args ds gs before hval0 hW hcnd _ hsz0 hL hsh _
  have hTabs := tabs_of hL hsh
  have hsz : (DataW.weightsEach Tryd.prog (Tryd.f6.params.toList ++ Rows.metaRowsSpec.plain.varTypes Tryd.prog) (ds ++ gs)).all (· ≤ reachBytes) = true := hsz0
  have hval : ∀ (j : Nat) t v, Tryd.f6.params[j]? = some t → args[j]? = some v → Value.okWide Tryd.prog W .any base t v := hval0
  have hW' := hW
  obtain ⟨p, q, hA0, hV, rfl, hfz, hnd⟩ := hW
  have hA : DataW.TrodAll enc Tryd.prog W 0 (fun _ => true) true Tryd.f6.params.toList args.toList ds p := hA0
  rw [Tryd.params6] at hA hval hsz
  obtain ⟨v0, vs0, d0, ds0, p0, q0, hargs, rfl, rfl, h0, r0⟩ := trodAll_cons hA
  obtain ⟨rfl, rfl, rfl⟩ := trodAll_nil r0
  obtain rfl : args = #[v0] := by cases args; simp_all
  obtain ⟨rfl, rfl⟩ := trodVars_none hV
  obtain ⟨a0, len0, cap0, rfl⟩ := okWide_slice Tryd.underlying34 (hval 0 34 v0 rfl rfl)
  have k0 := h0
  have lt0 : ∀ x ∈ p0, x.block < W.heap.size := by obtain ⟨m, hm⟩ := k0; exact DataW.trod_lt m _ _ _ hm
  obtain ⟨l0, e0, hr0, hc0, hw0⟩ : ∃ l : List Go.Proofs.YteplphpbpaojjaaDoor.PMa.S25, len0 = l.length ∧ Kd.C Go.Proofs.YteplphpbpaojjaaDoor.PMa.k25 W a0 l.length l ∧ l.length ≤ cap0 ∧ ∀ p ∈ l, p.f0.size ≤ maxLen ∧ (Lit.int .i64 p.f1).wf = true ∧ (Lit.int .i64 p.f2).wf = true ∧ (Lit.int .i64 p.f3).wf = true ∧ p.f4.size ≤ maxLen := by
    obtain ⟨fuel, hf⟩ := h0
    rcases Sr.fields_at Tryd.underlying34 Tryd.underlying25 (by kernel_rfl) (by kernel_rfl) hf with hcs | ⟨x, len, cap, hcs, hl, hm, hi⟩
    · simp [Value.cells] at hcs
      obtain ⟨rfl, rfl, rfl⟩ := hcs
      exact ⟨[], rfl, ⟨rfl, by simp, fun h => absurd h (by simp)⟩, Nat.zero_le _, fun p hp => by simp at hp⟩
    · simp [Value.cells] at hcs
      obtain ⟨rfl, rfl, rfl⟩ := hcs
      have hcell : ∀ i, i < len0 → ∃ p : Go.Proofs.YteplphpbpaojjaaDoor.PMa.S25, (p.f0.size ≤ maxLen ∧ (Lit.int .i64 p.f1).wf = true ∧ (Lit.int .i64 p.f2).wf = true ∧ (Lit.int .i64 p.f3).wf = true ∧ p.f4.size ≤ maxLen) ∧ W.cell? (x.add (i * 5 + 0)) = some (.string p.f0) ∧ W.cell? (x.add (i * 5 + 1)) = some (.int .i64 p.f1) ∧ W.cell? (x.add (i * 5 + 2)) = some (.int .i64 p.f2) ∧ W.cell? (x.add (i * 5 + 3)) = some (.int .i64 p.f3) ∧ W.cell? (x.add (i * 5 + 4)) = some (.string p.f4) := by
        intro i hil
        obtain ⟨v0, y0, n0, c0, t0⟩ := hi i hil 0 _ rfl
        obtain ⟨b0, e0, _, w0⟩ := DataW.trod_string Tryd.underlying9 t0
        obtain rfl := List.head_eq_of_cons_eq e0
        obtain ⟨v1, y1, n1, c1, t1⟩ := hi i hil 1 _ rfl
        obtain ⟨b1, e1, _, w1⟩ := DataW.trod_int Tryd.underlying3 t1
        obtain rfl := List.head_eq_of_cons_eq e1
        obtain ⟨v2, y2, n2, c2, t2⟩ := hi i hil 2 _ rfl
        obtain ⟨b2, e2, _, w2⟩ := DataW.trod_int Tryd.underlying2 t2
        obtain rfl := List.head_eq_of_cons_eq e2
        obtain ⟨v3, y3, n3, c3, t3⟩ := hi i hil 3 _ rfl
        obtain ⟨b3, e3, _, w3⟩ := DataW.trod_int Tryd.underlying3 t3
        obtain rfl := List.head_eq_of_cons_eq e3
        obtain ⟨v4, y4, n4, c4, t4⟩ := hi i hil 4 _ rfl
        obtain ⟨b4, e4, _, w4⟩ := DataW.trod_string Tryd.underlying9 t4
        obtain rfl := List.head_eq_of_cons_eq e4
        exact ⟨⟨b0, b1, b2, b3, b4⟩, ⟨w0, w1, w2, w3, w4⟩, c0, c1, c2, c3, c4⟩
      obtain ⟨L, hL, hq⟩ := Sr.list_of _ hcell
      simp only [maxLen] at hm
      refine ⟨L, hL.symm, ⟨rfl, by omega, fun _ => ⟨x, rfl, fun j p hj => ⟨[.string p.f0, .int .i64 p.f1, .int .i64 p.f2, .int .i64 p.f3, .string p.f4], rfl, Go.Proofs.YteplphpbpaojjaaDoor.PMa.k25_mk W p, fun i u hu => ?_⟩⟩⟩, by omega, fun p hp => ?_⟩
      · obtain ⟨_, g0, g1, g2, g3, g4⟩ := hq j p hj
        match i, hu with
        | 0, hu => exact Option.some.inj hu ▸ g0
        | 1, hu => exact Option.some.inj hu ▸ g1
        | 2, hu => exact Option.some.inj hu ▸ g2
        | 3, hu => exact Option.some.inj hu ▸ g3
        | 4, hu => exact Option.some.inj hu ▸ g4
        | z + 5, hu => simp at hu
      · obtain ⟨j, hj⟩ := List.getElem?_of_mem hp
        exact (hq j p hj).1
  subst e0
  clear hA0 hval0 hsz0 hsz
  refine (Me.MetaRows_walk a0 cap0 l0 W hr0 hc0 hw0 hTabs).mono fun e W' ⟨he, bel⟩ => ?_
  subst he
  exact ⟨_, rfl, _, _, _, [], _, [], hW', trodAll_mk1 (shut_bool Tryd.underlying4 _), (trodAll_cons_mk (Below.trod laidOut (by kernel_rfl) (of_decide_eq_true (by kernel_rfl)) k0 bel lt0) trodAll_mk0), rfl, bel.frame _, fun h => by cases h⟩
theorem over : Rows.metaRowsRow.holds Tryd.pinned (OpenSpec.ofChange Rows.metaRowsSpec) :=
  OpenClaim.holds_of_cond 6 Tryd.f6 rfl rfl rfl rfl rfl rfl rfl ⟨rfl, rfl, rfl, rfl, rfl⟩ rfl rfl rfl rfl rfl (by kernel_rfl) Tryd.func6 (by kernel_rfl)
    (of_decide_eq_true (by kernel_rfl)) (by unfold Func.isWrapper; first | (rw [if_pos (by decide +kernel)]; kernel_rfl) | (rw [if_neg (by decide +kernel)]; exact ⟨rfl, rfl⟩))
    (fun os started H enc _ F => by rw [OpenClaim.pre_eq_preRow]; exact lifted os started H enc F)
theorem proved : Rows.MetaRowsCardSaid :=
  Claim7.holds_tied_plain_at .later [] [.data, .pinned] true (true, "91c933597138838133c2c8ac73b57bed4999ef7acc0a46d9c4f05f5a3c50b86e") false over (fun _ h => by cases h) (by kernel_rfl) (fun _ h => by cases h) metaRows_row_tie rfl ⟨rfl, rfl⟩ (by kernel_rfl) rfl
    (fun f fn hf hfn => by
      obtain rfl : f = 6 := Option.some.inj ((show Tryd.prog.funcNamed "hamper/hamperlaw19.MetaRows" = some 6 by kernel_rfl).symm.trans hf) |>.symm
      obtain rfl : fn = Tryd.f6 := (Option.some.inj (Tryd.func6.symm.trans hfn)).symm
      exact ⟨by kernel_rfl, fun j t ht => by
        rw [Tryd.params6] at ht
        have hm := Array.mem_of_getElem? ht
        have hall : ([34].all fun u => !Tryd.prog.wantsStandIn u) = true := by kernel_rfl
        have hm2 : t ∈ [34] := by simpa using hm
        exact (show Tryd.prog.wantsStandIn t = false by simpa using List.all_eq_true.1 hall t hm2)⟩)
    (by kernel_rfl)
#print axioms proved
end Go.Proofs.YteplphpbpaojjaaDoor.metaRows
namespace Go.Proofs.YteplphpbpaojjaaDoor
/-- The card, under a short name, for the claim. -/
theorem metaRows_holds : Rows.MetaRowsCardSaid := metaRows.proved
end Go.Proofs.YteplphpbpaojjaaDoor
