/- TokenNames: the examples; the limits. Closed. -/
import Derived.Test.YtcdmnddmaeileaaTokAwake
import Derived.LoopTactic
namespace Go.Proofs.Ytcdmnddmaeileaa.PToken
open Go.RowKit Go.Proofs.YtcdmnddmaeileaaW.PrintWords Go.Proofs.YtcdmnddmaeileaaW.PrintLast Go.Proofs.YtcdmnddmaeileaaW.PrintMore
set_option linter.unusedVariables false
set_option linter.unusedSimpArgs false
def tA : S23 := tk 1 97 0 0 0
def tM : S23 := tk 2 0 3 1 0
def bad : List S23 := [tk 0 0 0 0 0, tk 4 0 0 0 0, tk 1 0 1 0 0, tk 2 0 2 1 0, tk 2 0 259 1 0, tk 2 0 3 0 0, tk 2 0 3 2 0, tk 2 0 3 1 1, tk 2 1 3 1 0, tk 3 0 3 0 0, tk 3 0 3 0 (-1), tk 3 0 3 0 4]
theorem bad_text : ∀ j : Fin 12, textR [tA, bad.getD j.val z23] 999 st0 = (⟨#[]⟩, 4) := by decide +kernel
theorem bad_may : ∀ j : Fin 12, (textR [tA, bad.getD j.val z23] 9223372036854775807 st0).2 = 4 := by decide +kernel
theorem q1 : textR [tA, tM, tk 3 0 2 0 0] 999 st0 = (⟨#[]⟩, 4) := by decide +kernel
theorem q2 : textR [tA, tM, tk 3 0 3 0 1] 999 st0 = (⟨#[]⟩, 4) := by decide +kernel
theorem q3 : textR [tA, tM] 3 st0 = (⟨#[]⟩, 62) := by decide +kernel
theorem q4 : textR [tA, tM] 4 st0 = (⟨#[97, 97, 97, 97]⟩, 0) := by decide +kernel
theorem q5 : textR [tA] (-1) st0 = (⟨#[]⟩, 62) := by decide +kernel
theorem q6 : textR [] 0 st0 = (⟨#[]⟩, 0) := by decide +kernel
/-- Text of tokens that lie in a new block. -/
theorem text_new (L : List S23) (h0 : 0 < L.length) (hl : L.length ≤ 1000) (lim : Int) (W : World) (r : ByteArray × Int) (hr : textR L lim st0 = r) :
    Calls Try.prog 9 #[.slice (some ⟨W.heap.size, 0, none⟩) L.length L.length, .int .i64 lim] (W.alloc (.cells (cellsT L).toArray 23)) fun e w' => e = .returned (.tuple #[.string r.1, .int .i64 r.2]) ∧ Below W.heap.size W w' := by
  have h := toks_at L (W.alloc (.cells (cellsT L).toArray 23)) W.heap.size (blk_new W _) 0 L.length (by omega) hl
  rw [List.drop_zero, List.take_length] at h
  refine (text_calls (some ⟨W.heap.size, 0, none⟩) L.length L lim _ h (Nat.le_refl _) (by omega)).mono ?_
  rintro e w' ⟨he, hb⟩
  rw [hr] at he
  exact ⟨he, (below_alloc (Below.refl W.heap.size W) _).trans (hb.mono (by simp))⟩
theorem may_new (L : List S23) (h0 : 0 < L.length) (hl : L.length ≤ 1000) (W : World) (hr : (textR L 9223372036854775807 st0).2 = 4) :
    Calls Try.prog 12 #[.slice (some ⟨W.heap.size, 0, none⟩) L.length L.length] (W.alloc (.cells (cellsT L).toArray 23)) fun e w' => e = .returned (.bool false) ∧ Below W.heap.size W w' := by
  have hh := Aside0.mk hr
  have ht := Aside0.mk (text_new L h0 hl 9223372036854775807 W _ rfl)
  clear hr
  go_enter Try.func12, Try.ntmps12
  go_wp2_with fail
  refine ht.out.mono ?_
  rintro e w1 ⟨rfl, hb⟩
  have HB := Aside0.mk hb
  rw [hh.out]
  clear hb
  go_wp2_with fail
  go_ret
  exact ⟨rfl, HB.out⟩
/-- What lies there. -/
structure Env (w W : World) (Z : Nat) (cs : Array Value) : Prop where
  blk : W.heap[Z]? = some (.cells cs 23 (0, 0))
  bel : Below w.heap.size w W
theorem Env.below {w W W1 : World} {Z : Nat} {cs : Array Value} (h : Env w W Z cs) (hb : Below W.heap.size W W1) : Env w W1 Z cs := ⟨(hb.block Z (blk_lt h.blk)).trans h.blk, h.bel.trans (hb.mono h.bel.size)⟩
theorem Env.alloc {w W : World} {Z : Nat} {cs : Array Value} (h : Env w W Z cs) (o : Obj) : Env w (W.alloc o) Z cs := h.below (below_alloc (Below.refl _ _) o)
theorem Env.at_ {w W : World} {Z : Nat} {cs : Array Value} (h : Env w W Z cs) (i : Nat) (v : Value) (hv : cs[i]? = some v) : W.cell? ⟨Z, i, none⟩ = some v := (blk_cell h.blk i).trans hv
def cA : Array Value := #[.int .u8 1, .int .u8 97, .int .i64 0, .int .i64 0, .int .i64 0]
def cM : Array Value := #[.int .u8 2, .int .u8 0, .int .i64 3, .int .i64 1, .int .i64 0]
def cT (t : S23) : Array Value := #[.int .u8 t.f0, .int .u8 t.f1, .int .i64 t.f2, .int .i64 t.f3, .int .i64 t.f4]
theorem bad_at (j : Nat) (hj : j < 12) (i : Nat) (u : Value) (hu : [Value.int .u8 (bad.getD j z23).f0, .int .u8 (bad.getD j z23).f1, .int .i64 (bad.getD j z23).f2, .int .i64 (bad.getD j z23).f3, .int .i64 (bad.getD j z23).f4][i]? = some u) : (cellsT bad).toArray[j * 5 + i]? = some u := by
  rw [List.getElem?_toArray]
  refine cellsT_at bad j (bad.getD j z23) ?_ i u hu
  rw [List.getD_eq_getElem?_getD, List.getElem?_eq_getElem (show j < bad.length from hj), Option.getD_some]
set_option maxHeartbeats 4000000 in
set_option maxRecDepth 100000 in
theorem tnames_walk (w : World) : Calls Try.prog 7 #[] w fun e w' => e = .returned (.bool true) ∧ Below w.heap.size w w' := by
  have E0 := Aside0.mk (show Env w (w.alloc (.cells cA 23)) w.heap.size cA from ⟨blk_new w _, below_alloc (Below.refl _ w) _⟩)
  go_enter Try.func7, Try.ntmps7
  go_wp2_with fail
  obtain ⟨Z1, hZ1⟩ : ∃ Z1, Z1 = w.heap.size := ⟨_, rfl⟩
  have hz2 : (w.alloc (.cells cA 23)).heap.size = w.heap.size + 1 := by simp
  rw [← hZ1] at E0 hz2 ⊢
  clear hZ1
  change Code.wp _ _ _ _ ((w.alloc (.cells cA 23)).alloc (.cells (cellsT bad).toArray 23))
  generalize w.alloc (.cells cA 23) = W0 at *
  have EA := Aside0.mk (E0.out.alloc (.cells (cellsT bad).toArray 23))
  have EL := Aside0.mk (show Env w (W0.alloc (.cells (cellsT bad).toArray 23)) W0.heap.size (cellsT bad).toArray from ⟨blk_new _ _, (E0.out.alloc _).bel⟩)
  clear E0
  rw [hz2] at EL
  clear hz2
  generalize Z1 + 1 = Z2 at EL ⊢
  generalize W0.alloc (.cells (cellsT bad).toArray 23) = W1 at *
  go_loopw [34] (fun i wr => ∃ j : Nat, j ≤ 12 ∧ i = .int .i64 j ∧ Aside0 (Env w wr Z1 cA) ∧ Aside0 (Env w wr Z2 (cellsT bad).toArray)) (fun i _ => 12 - (intOf i).toNat)
  case atStart => exact ⟨0, by omega, rfl, EA, EL⟩
  case round =>
    obtain ⟨j, hj, rfl, FA, FL⟩ := hrel
    by_cases hlt : j < 12
    · have hbt := Aside0.mk (bad_text ⟨j, hlt⟩)
      have hbm := Aside0.mk (bad_may ⟨j, hlt⟩)
      have l0 := FL.out.at_ (j * 5 + 0) _ (bad_at j hlt 0 _ rfl)
      have l1 := FL.out.at_ (j * 5 + 1) _ (bad_at j hlt 1 _ rfl)
      have l2 := FL.out.at_ (j * 5 + 2) _ (bad_at j hlt 2 _ rfl)
      have l3 := FL.out.at_ (j * 5 + 3) _ (bad_at j hlt 3 _ rfl)
      have l4 := FL.out.at_ (j * 5 + 4) _ (bad_at j hlt 4 _ rfl)
      rw [Nat.add_zero] at l0
      generalize hT : bad.getD j z23 = t at *
      go_upto_region 5 with fail
      have EB0 := Aside0.mk (show Env w (wr.alloc (.cells (cT t) 23)) wr.heap.size (cT t) from ⟨blk_new _ _, (FA.out.alloc _).bel⟩)
      have FA0 := Aside0.mk (FA.out.alloc (.cells (cT t) 23))
      have FL0 := Aside0.mk (FL.out.alloc (.cells (cT t) 23))
      obtain ⟨B, hB⟩ : ∃ B, B = wr.heap.size := ⟨_, rfl⟩
      rw [← hB] at EB0 ⊢
      clear hB l0 l1 l2 l3 l4 hT
      change Code.wp _ _ _ _ (wr.alloc (.cells (cT t) 23))
      generalize wr.alloc (.cells (cT t) 23) = W2 at *
      have a0 := FA0.out.at_ 0 _ rfl
      have a1 := FA0.out.at_ 1 _ rfl
      have a2 := FA0.out.at_ 2 _ rfl
      have a3 := FA0.out.at_ 3 _ rfl
      have a4 := FA0.out.at_ 4 _ rfl
      have t0 := EB0.out.at_ 0 _ rfl
      have t1 := EB0.out.at_ 1 _ rfl
      have t2 := EB0.out.at_ 2 _ rfl
      have t3 := EB0.out.at_ 3 _ rfl
      have t4 := EB0.out.at_ 4 _ rfl
      go_wp2_with fail
      refine (text_new [tA, t] (by simp) (by simp) 999 W2 _ hbt.out).mono ?_
      rintro e w3 ⟨rfl, hb⟩
      have FA3 := Aside0.mk (FA0.out.below hb)
      have FL3 := Aside0.mk (FL0.out.below hb)
      have EB3 := Aside0.mk (EB0.out.below hb)
      clear hb a0 a1 a2 a3 a4 t0 t1 t2 t3 t4 FA0 FL0 EB0
      have a0 := FA3.out.at_ 0 _ rfl
      have a1 := FA3.out.at_ 1 _ rfl
      have a2 := FA3.out.at_ 2 _ rfl
      have a3 := FA3.out.at_ 3 _ rfl
      have a4 := FA3.out.at_ 4 _ rfl
      have t0 := EB3.out.at_ 0 _ rfl
      have t1 := EB3.out.at_ 1 _ rfl
      have t2 := EB3.out.at_ 2 _ rfl
      have t3 := EB3.out.at_ 3 _ rfl
      have t4 := EB3.out.at_ 4 _ rfl
      go_wp2_with fail
      refine (may_new [tA, t] (by simp) (by simp) w3 hbm.out).mono ?_
      rintro e w4 ⟨rfl, hb⟩
      have FA4 := Aside0.mk (FA3.out.below hb)
      have FL4 := Aside0.mk (FL3.out.below hb)
      clear hb a0 a1 a2 a3 a4 t0 t1 t2 t3 t4
      go_wp2_with fail
      go_roundw
      case rel => exact ⟨j + 1, by omega, by go_num, FA4, FL4⟩
      case measure => simp [intOf]; omega
    · go_upto_region 10 with fail
      clear hlt hj
      have EM0 := Aside0.mk (show Env w (wr.alloc (.cells cM 23)) wr.heap.size cM from ⟨blk_new _ _, (FA.out.alloc _).bel⟩)
      have FA0 := Aside0.mk (FA.out.alloc (.cells cM 23))
      obtain ⟨B, hB⟩ : ∃ B, B = wr.heap.size := ⟨_, rfl⟩
      rw [← hB] at EM0 ⊢
      clear hB FL FA
      change Code.wp _ _ _ _ (wr.alloc (.cells cM 23))
      generalize wr.alloc (.cells cM 23) = W2 at *
      have a0 := FA0.out.at_ 0 _ rfl
      have a1 := FA0.out.at_ 1 _ rfl
      have a2 := FA0.out.at_ 2 _ rfl
      have a3 := FA0.out.at_ 3 _ rfl
      have a4 := FA0.out.at_ 4 _ rfl
      have m0 := EM0.out.at_ 0 _ rfl
      have m1 := EM0.out.at_ 1 _ rfl
      have m2 := EM0.out.at_ 2 _ rfl
      have m3 := EM0.out.at_ 3 _ rfl
      have m4 := EM0.out.at_ 4 _ rfl
      go_wp2_with fail
      refine (text_new [tA, tM, tk 3 0 2 0 0] (by decide) (by simp) 999 W2 _ q1).mono ?_
      rintro e v1 ⟨rfl, hb⟩
      have FA1 := Aside0.mk (FA0.out.below hb)
      have EM1 := Aside0.mk (EM0.out.below hb)
      clear hb a0 a1 a2 a3 a4 m0 m1 m2 m3 m4 FA0 EM0
      have a0 := FA1.out.at_ 0 _ rfl
      have a1 := FA1.out.at_ 1 _ rfl
      have a2 := FA1.out.at_ 2 _ rfl
      have a3 := FA1.out.at_ 3 _ rfl
      have a4 := FA1.out.at_ 4 _ rfl
      have m0 := EM1.out.at_ 0 _ rfl
      have m1 := EM1.out.at_ 1 _ rfl
      have m2 := EM1.out.at_ 2 _ rfl
      have m3 := EM1.out.at_ 3 _ rfl
      have m4 := EM1.out.at_ 4 _ rfl
      go_wp2_with fail
      refine (text_new [tA, tM, tk 3 0 3 0 1] (by decide) (by simp) 999 v1 _ q2).mono ?_
      rintro e v2 ⟨rfl, hb⟩
      have FA2 := Aside0.mk (FA1.out.below hb)
      have EM2 := Aside0.mk (EM1.out.below hb)
      clear hb a0 a1 a2 a3 a4 m0 m1 m2 m3 m4 FA1 EM1
      have a0 := FA2.out.at_ 0 _ rfl
      have a1 := FA2.out.at_ 1 _ rfl
      have a2 := FA2.out.at_ 2 _ rfl
      have a3 := FA2.out.at_ 3 _ rfl
      have a4 := FA2.out.at_ 4 _ rfl
      have m0 := EM2.out.at_ 0 _ rfl
      have m1 := EM2.out.at_ 1 _ rfl
      have m2 := EM2.out.at_ 2 _ rfl
      have m3 := EM2.out.at_ 3 _ rfl
      have m4 := EM2.out.at_ 4 _ rfl
      go_wp2_with fail
      refine (text_new [tA, tM] (by decide) (by simp) 3 v2 _ q3).mono ?_
      rintro e v3 ⟨rfl, hb⟩
      have FA3 := Aside0.mk (FA2.out.below hb)
      have EM3 := Aside0.mk (EM2.out.below hb)
      clear hb a0 a1 a2 a3 a4 m0 m1 m2 m3 m4 FA2 EM2
      have a0 := FA3.out.at_ 0 _ rfl
      have a1 := FA3.out.at_ 1 _ rfl
      have a2 := FA3.out.at_ 2 _ rfl
      have a3 := FA3.out.at_ 3 _ rfl
      have a4 := FA3.out.at_ 4 _ rfl
      have m0 := EM3.out.at_ 0 _ rfl
      have m1 := EM3.out.at_ 1 _ rfl
      have m2 := EM3.out.at_ 2 _ rfl
      have m3 := EM3.out.at_ 3 _ rfl
      have m4 := EM3.out.at_ 4 _ rfl
      go_wp2_with fail
      refine (text_new [tA, tM] (by decide) (by simp) 4 v3 _ q4).mono ?_
      rintro e v4 ⟨rfl, hb⟩
      have FA4 := Aside0.mk (FA3.out.below hb)
      have EM4 := Aside0.mk (EM3.out.below hb)
      clear hb a0 a1 a2 a3 a4 m0 m1 m2 m3 m4 FA3 EM3
      have a0 := FA4.out.at_ 0 _ rfl
      have a1 := FA4.out.at_ 1 _ rfl
      have a2 := FA4.out.at_ 2 _ rfl
      have a3 := FA4.out.at_ 3 _ rfl
      have a4 := FA4.out.at_ 4 _ rfl
      have m0 := EM4.out.at_ 0 _ rfl
      have m1 := EM4.out.at_ 1 _ rfl
      have m2 := EM4.out.at_ 2 _ rfl
      have m3 := EM4.out.at_ 3 _ rfl
      have m4 := EM4.out.at_ 4 _ rfl
      go_wp2_with fail
      refine (text_new [tA] (by decide) (by simp) (-1) v4 _ q5).mono ?_
      rintro e v5 ⟨rfl, hb⟩
      have FA5 := Aside0.mk (FA4.out.below hb)
      have EM5 := Aside0.mk (EM4.out.below hb)
      clear hb a0 a1 a2 a3 a4 m0 m1 m2 m3 m4 FA4 EM4
      go_wp2_with fail
      refine (text_calls none 0 [] 0 _ ⟨rfl, by decide, fun h => absurd h (by decide)⟩ (Nat.le_refl _) (by decide)).mono ?_
      rintro e v6 ⟨rfl, hb⟩
      rw [q6]
      have B6 := Aside0.mk (bel2 FA5.out.bel hb)
      clear hb
      go_wp2_with fail
      refine (awake_walk _).mono ?_
      rintro e v7 ⟨rfl, hb⟩
      have B7 := Aside0.mk (bel2 B6.out hb)
      clear hb
      go_wp2_with fail
      go_ret
      exact ⟨rfl, B7.out⟩
end Go.Proofs.Ytcdmnddmaeileaa.PToken
