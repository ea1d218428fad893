import Derived.Test.YtbeibmdccjgcmaaDoorProg
import Derived.Below
import Derived.Deep.Draws
import Derived.Deep.AppendLies
import Derived.Maps.AppendAt
import Derived.OwnWalk
import Derived.Laws.BytesArg
import Derived.Laws.MakeOwn
import Derived.Laws.OwnMore
import Derived.Deep.OwnRows
import Derived.Tactics
import Derived.Lib.ConvBytes
import Derived.Laws.Slices
import Derived.WalkKit
import Derived.KernelRfl
import Derived.RowKit3
import Derived.Deep.LoopGhost
import Derived.Deep.QuietTactic
import Derived.BigQuiet
import Derived.WideLaws
import Derived.Deep.DeepCutAuto
import Derived.Deep.CutBlock
import Derived.Deep.RegionHeld3
import Derived.Test.YtbeibmdccjgcmaaDoorWInvWords
import Derived.Laws.Rows
import Derived.Lib.AppendStr
import Derived.ArgAppend
import Derived.Laws.IdiomCopy
import Derived.OrdersHeld
import Derived.Laws.BitsLemmas
import Derived.RowKit
import Derived.Test.YtbeibmdccjgcmaaDoorWWords
import Derived.Test.YtbeibmdccjgcmaaDoorWLast
import Derived.Test.YtbeibmdccjgcmaaDoorWMore
import Derived.OpenShut
import Derived.Test.YtbeibmdccjgcmaaDoorBk12
import Derived.Test.YtbeibmdccjgcmaaDoorPRefx7
namespace Go.Proofs.YtbeibmdccjgcmaaDoor.Rf5
open Go.RowKit Go.Proofs.YtbeibmdccjgcmaaDoorW.PrintWords Go.Proofs.YtbeibmdccjgcmaaDoorW.PrintLast Go.Proofs.YtbeibmdccjgcmaaDoorW.PrintMore Go.Proofs.YtbeibmdccjgcmaaDoor.PRef
open Go.Proofs.YtbeibmdccjgcmaaDoor.Bk
set_option linter.unusedVariables false
set_option linter.unusedSimpArgs false
theorem or_comm (k : IntKind) (a b : Int) : Go.bits .or k a b = Go.bits .or k b a := by simp only [Go.bits, BitVec.or_comm]
theorem turn16 (x : Int) : hamperref05_turn.f x 16 = some (turn x 65536 65536) := by
  unfold hamperref05_turn.f Bk.turn shr shl
  rw [if_pos (by decide), or_comm]; rfl
theorem turn12 (x : Int) : hamperref05_turn.f x 12 = some (turn x 4096 1048576) := by
  unfold hamperref05_turn.f Bk.turn shr shl
  rw [if_pos (by decide), or_comm]; rfl
theorem turn8 (x : Int) : hamperref05_turn.f x 8 = some (turn x 256 16777216) := by
  unfold hamperref05_turn.f Bk.turn shr shl
  rw [if_pos (by decide), or_comm]; rfl
theorem turn7 (x : Int) : hamperref05_turn.f x 7 = some (turn x 128 33554432) := by
  unfold hamperref05_turn.f Bk.turn shr shl
  rw [if_pos (by decide), or_comm]; rfl
/-- Numbers that lie in a block, and may be written over. -/
structure VAt (W : World) (g : Nat) (L : List Int) : Prop where
  cell : ∀ i, i < L.length → W.cell? ⟨g, i, none⟩ = some (.int .u32 (L.getD i 0))
  free : ∀ i, i < L.length → W.frozen? ⟨g, i, none⟩ = false
theorem VAt.put {W : World} {g : Nat} {L : List Int} (h : VAt W g L) (i : Nat) (hi : i < L.length) (x : Int) : VAt (W.setCell ⟨g, i, none⟩ (.int .u32 x)) g (L.set i x) := by
  refine ⟨fun j hj => ?_, fun j hj => ?_⟩
  · rw [List.length_set] at hj
    by_cases e : i = j
    · subst e
      rw [World.cell?_setCell_same' _ _ _ (by rw [h.cell i hi]; rfl)]
      simp [List.getD_eq_getElem?_getD, hi]
    · rw [World.cell?_setCell_other (h := fun z => e (by injection z)), h.cell j hj]
      simp [List.getD_eq_getElem?_getD, List.getElem?_set, e]
  · rw [List.length_set] at hj
    rw [World.frozen?_setCell]
    exact h.free j hj
theorem VAt.drew {W : World} {g : Nat} {L : List Int} (h : VAt W g L) : VAt W.drew g L := ⟨h.cell, h.free⟩
theorem far_cell {W : World} {g i j : Nat} (h : i ≠ j) (v u : Value) (hc : W.cell? ⟨g, j, none⟩ = some u) : (W.setCell ⟨g, i, none⟩ v).cell? ⟨g, j, none⟩ = some u := by
  rw [World.cell?_setCell_other (h := fun z => h (by injection z))]
  exact hc
/-- The cells of four places. -/
structure Four (W : World) (g i0 i1 i2 i3 : Nat) (a b c d : Int) : Prop where
  c0 : W.cell? ⟨g, i0, none⟩ = some (.int .u32 a)
  c1 : W.cell? ⟨g, i1, none⟩ = some (.int .u32 b)
  c2 : W.cell? ⟨g, i2, none⟩ = some (.int .u32 c)
  c3 : W.cell? ⟨g, i3, none⟩ = some (.int .u32 d)
  f0 : W.frozen? ⟨g, i0, none⟩ = false
  f1 : W.frozen? ⟨g, i1, none⟩ = false
  f2 : W.frozen? ⟨g, i2, none⟩ = false
  f3 : W.frozen? ⟨g, i3, none⟩ = false
theorem Four.put0 {W : World} {g i0 i1 i2 i3 : Nat} {a b c d : Int} (h : Four W g i0 i1 i2 i3 a b c d) (n01 : i0 ≠ i1) (n02 : i0 ≠ i2) (n03 : i0 ≠ i3) (V : Int) : Four (W.setCell ⟨g, i0, none⟩ (.int .u32 V)) g i0 i1 i2 i3 V b c d :=
  ⟨World.cell?_setCell_same' _ _ _ (by rw [h.c0]; rfl), far_cell n01 _ _ h.c1, far_cell n02 _ _ h.c2, far_cell n03 _ _ h.c3,
    (World.frozen?_setCell ..).trans h.f0, (World.frozen?_setCell ..).trans h.f1, (World.frozen?_setCell ..).trans h.f2, (World.frozen?_setCell ..).trans h.f3⟩
theorem Four.put1 {W : World} {g i0 i1 i2 i3 : Nat} {a b c d : Int} (h : Four W g i0 i1 i2 i3 a b c d) (n01 : i1 ≠ i0) (n02 : i1 ≠ i2) (n03 : i1 ≠ i3) (V : Int) : Four (W.setCell ⟨g, i1, none⟩ (.int .u32 V)) g i0 i1 i2 i3 a V c d :=
  ⟨far_cell n01 _ _ h.c0, World.cell?_setCell_same' _ _ _ (by rw [h.c1]; rfl), far_cell n02 _ _ h.c2, far_cell n03 _ _ h.c3,
    (World.frozen?_setCell ..).trans h.f0, (World.frozen?_setCell ..).trans h.f1, (World.frozen?_setCell ..).trans h.f2, (World.frozen?_setCell ..).trans h.f3⟩
theorem Four.put2 {W : World} {g i0 i1 i2 i3 : Nat} {a b c d : Int} (h : Four W g i0 i1 i2 i3 a b c d) (n01 : i2 ≠ i0) (n02 : i2 ≠ i1) (n03 : i2 ≠ i3) (V : Int) : Four (W.setCell ⟨g, i2, none⟩ (.int .u32 V)) g i0 i1 i2 i3 a b V d :=
  ⟨far_cell n01 _ _ h.c0, far_cell n02 _ _ h.c1, World.cell?_setCell_same' _ _ _ (by rw [h.c2]; rfl), far_cell n03 _ _ h.c3,
    (World.frozen?_setCell ..).trans h.f0, (World.frozen?_setCell ..).trans h.f1, (World.frozen?_setCell ..).trans h.f2, (World.frozen?_setCell ..).trans h.f3⟩
theorem Four.put3 {W : World} {g i0 i1 i2 i3 : Nat} {a b c d : Int} (h : Four W g i0 i1 i2 i3 a b c d) (n01 : i3 ≠ i0) (n02 : i3 ≠ i1) (n03 : i3 ≠ i2) (V : Int) : Four (W.setCell ⟨g, i3, none⟩ (.int .u32 V)) g i0 i1 i2 i3 a b c V :=
  ⟨far_cell n01 _ _ h.c0, far_cell n02 _ _ h.c1, far_cell n03 _ _ h.c2, World.cell?_setCell_same' _ _ _ (by rw [h.c3]; rfl),
    (World.frozen?_setCell ..).trans h.f0, (World.frozen?_setCell ..).trans h.f1, (World.frozen?_setCell ..).trans h.f2, (World.frozen?_setCell ..).trans h.f3⟩
/-- All that the walk bears. -/
structure MixAt (w W : World) (g i0 i1 i2 i3 : Nat) (L : List Int) (a b c d : Int) : Prop where
  four : Four W g i0 i1 i2 i3 a b c d
  all : VAt W g L
  kept : Bk.KeepBut w W g none
theorem mix_list (L : List Int) (i0 i1 i2 i3 : Nat) (x y a b c d A1 D1 C1 B1 A2 D2 C2 B2 : Int) (ea : a = L.getD i0 0) (eb : b = L.getD i1 0) (ec : c = L.getD i2 0) (ed : d = L.getD i3 0)
    (e1 : (a + b + x) % 4294967296 = A1) (e2 : turn (Go.bits .xor .u32 d A1) 65536 65536 = D1) (e3 : (c + D1) % 4294967296 = C1) (e4 : turn (Go.bits .xor .u32 b C1) 4096 1048576 = B1)
    (e5 : (A1 + B1 + y) % 4294967296 = A2) (e6 : turn (Go.bits .xor .u32 D1 A2) 256 16777216 = D2) (e7 : (C1 + D2) % 4294967296 = C2) (e8 : turn (Go.bits .xor .u32 B1 C2) 128 33554432 = B2)
    (n01 : i0 ≠ i1) (n02 : i0 ≠ i2) (n03 : i0 ≠ i3) (n12 : i1 ≠ i2) (n13 : i1 ≠ i3) (n23 : i2 ≠ i3) :
    mixL L i0 i1 i2 i3 x y = ((((((((L.set i0 A1).set i3 D1).set i2 C1).set i1 B1).set i0 A2).set i3 D2).set i2 C2).set i1 B2) := by
  have q : mixQ a b c d x y = (A2, B2, C2, D2) := by
    unfold mixQ
    dsimp only
    rw [show (a + (b + x)) % 4294967296 = A1 from by rw [← e1, Int.add_assoc], e2, e3, e4]
    have h5 : (a + (b + x) + (B1 + y)) % 4294967296 = A2 := by rw [← e5, ← e1]; omega
    rw [h5, e6]
    have h7 : (c + D1 + D2) % 4294967296 = C2 := by rw [← e7, ← e3]; omega
    rw [h7, e8]
  unfold mixL
  rw [← ea, ← eb, ← ec, ← ed, q]
  apply List.ext_getElem?
  intro j
  simp only [List.getElem?_set, List.length_set]
  by_cases j0 : i0 = j
  · subst j0; simp [n01, n02, n03, Ne.symm n01, Ne.symm n02, Ne.symm n03]
  by_cases j1 : i1 = j
  · subst j1; simp [n01, n12, n13, Ne.symm n01, Ne.symm n12, Ne.symm n13]
  by_cases j2 : i2 = j
  · subst j2; simp [n02, n12, n23, Ne.symm n02, Ne.symm n12, Ne.symm n23]
  by_cases j3 : i3 = j
  · subst j3; simp [n03, n13, n23, Ne.symm n03, Ne.symm n13, Ne.symm n23]
  simp [j0, j1, j2, j3]
def Joined (A : Act) (F : World → Prop) : Exit → Act → World → Prop
  | .normal, a, w => a = A ∧ F w
  | _, _, _ => False
theorem wp_join {P : Program} {c : Code} {Q : Exit → Act → World → Prop} {a : Act} {w : World} (A : Act) (F : World → Prop) (h1 : c.wp P (Joined A F) a w) (h2 : ∀ W', F W' → Q Exit.normal A W') : c.wp P Q a w :=
  Code.wp_mono (fun e a' W' h => by
    cases e with
    | normal => obtain ⟨rfl, hf⟩ := h; exact h2 W' hf
    | _ => exact (h : False).elim) h1
theorem hold (F : World → Prop) {P : World → Prop} {T : World} (hF : F T) (h : ∀ W1, F W1 → P W1) : P T := h T hF
set_option maxHeartbeats 8000000 in
set_option maxRecDepth 100000 in
theorem mix_calls (g C : Nat) (L : List Int) (i0 i1 i2 i3 : Nat) (x y : Int) (w : World) (hL : VAt w g L) (hl : L.length = 16) (h0 : i0 < 16) (h1 : i1 < 16) (h2 : i2 < 16) (h3 : i3 < 16) (n01 : i0 ≠ i1) (n02 : i0 ≠ i2) (n03 : i0 ≠ i3) (n12 : i1 ≠ i2) (n13 : i1 ≠ i3) (n23 : i2 ≠ i3) :
    Calls Tryd.prog 49 #[.slice (some ⟨g, 0, none⟩) 16 C, .int .i64 i0, .int .i64 i1, .int .i64 i2, .int .i64 i3, .int .u32 x, .int .u32 y] w fun e w' => e = .returned (.tuple #[]) ∧ VAt w' g (mixL L i0 i1 i2 i3 x y) ∧ Bk.KeepBut w w' g none := by
  have c0 := hL.cell i0 (by omega)
  have c1 := hL.cell i1 (by omega)
  have c2 := hL.cell i2 (by omega)
  have c3 := hL.cell i3 (by omega)
  have f0 := hL.free i0 (by omega)
  have f1 := hL.free i1 (by omega)
  have f2 := hL.free i2 (by omega)
  have f3 := hL.free i3 (by omega)
  have HL := Aside0.mk hL
  obtain ⟨a, ha⟩ : ∃ a, a = L.getD i0 0 := ⟨_, rfl⟩
  obtain ⟨b, hb⟩ : ∃ a, a = L.getD i1 0 := ⟨_, rfl⟩
  obtain ⟨c, hc⟩ : ∃ a, a = L.getD i2 0 := ⟨_, rfl⟩
  obtain ⟨d, hd⟩ : ∃ a, a = L.getD i3 0 := ⟨_, rfl⟩
  rw [← ha] at c0
  rw [← hb] at c1
  rw [← hc] at c2
  rw [← hd] at c3
  have HM : Aside0 (MixAt w w g i0 i1 i2 i3 L a b c d) := Aside0.mk ⟨⟨c0, c1, c2, c3, f0, f1, f2, f3⟩, hL, Bk.KeepBut.refl w g none⟩
  have HE := Aside0.mk (And.intro ha (And.intro hb (And.intro hc hd)))
  have HLEN := Aside0.mk hl
  clear ha hb hc hd hL hl
  have z0 : (0 : Int) ≤ i0 := by omega
  have z1 : (0 : Int) ≤ i1 := by omega
  have z2 : (0 : Int) ≤ i2 := by omega
  have z3 : (0 : Int) ≤ i3 := by omega
  have u0 : (i0 : Int) < 16 := by omega
  have u1 : (i1 : Int) < 16 := by omega
  have u2 : (i2 : Int) < 16 := by omega
  have u3 : (i3 : Int) < 16 := by omega
  have m01 := n01.symm
  have m02 := n02.symm
  have m03 := n03.symm
  have m12 := n12.symm
  have m13 := n13.symm
  have m23 := n23.symm
  go_enter Tryd.func49, Tryd.ntmps49
  go_wp2_with fail
  go_region
  generalize hA : (a + b + x) % 4294967296 = A1
  have HA1 := Aside0.mk hA
  clear hA
  refine hold (fun W1 => MixAt w W1 g i0 i1 i2 i3 (L.set i0 A1) A1 b c d) ?_ ?_
  · have hf := HM.out.four.put0 n01 n02 n03 A1
    have hv := HM.out.all.put i0 (by simp only [List.length_set, HLEN.out]; exact h0) A1
    have hk := HM.out.kept.set_ i0 (.int .u32 A1)
    exact ⟨⟨hf.c0, hf.c1, hf.c2, hf.c3, hf.f0, hf.f1, hf.f2, hf.f3⟩, ⟨hv.cell, hv.free⟩, ⟨hk.size, hk.block, hk.os, hk.tape, hk.output⟩⟩
  clear HM c0 c1 c2 c3 f0 f1 f2 f3
  intro W1 hM
  obtain ⟨c0, c1, c2, c3, f0, f1, f2, f3⟩ := hM.four
  have HM := Aside0.mk hM
  clear hM
  go_wp2_with fail
  obtain ⟨D1, hA⟩ : ∃ V, V = turn (bits BinOp.xor IntKind.u32 d A1) 65536 65536 := ⟨_, rfl⟩
  have HD1 := Aside0.mk hA.symm
  clear hA
  apply wp_join _ (fun W1 => MixAt w W1 g i0 i1 i2 i3 ((L.set i0 A1).set i3 D1) A1 b c D1)
  case h1 =>
    go_region_with (refine (hamperref05_turn.calls _ 16 _ _ (turn16 _)).mono ?_; rintro e w5 ⟨rfl, ⟨n, rfl⟩⟩)
    all_goals
      refine ⟨rfl, ?_⟩
      have hf := HM.out.four.put3 m03 m13 m23 D1
      have hv := HM.out.all.put i3 (by simp only [List.length_set, HLEN.out]; exact h3) D1
      have hk := HM.out.kept.set_ i3 (.int .u32 D1)
      rw [← HD1.out] at hf hv hk ⊢
      exact ⟨⟨hf.c0, hf.c1, hf.c2, hf.c3, hf.f0, hf.f1, hf.f2, hf.f3⟩, ⟨hv.cell, hv.free⟩, ⟨hk.size, hk.block, hk.os, hk.tape, hk.output⟩⟩
  clear HM c0 c1 c2 c3 f0 f1 f2 f3
  intro W2 hM
  obtain ⟨c0, c1, c2, c3, f0, f1, f2, f3⟩ := hM.four
  have HM := Aside0.mk hM
  clear hM
  go_wp2_with fail
  go_region
  generalize hA : (c + D1) % 4294967296 = C1
  have HC1 := Aside0.mk hA
  clear hA
  refine hold (fun W1 => MixAt w W1 g i0 i1 i2 i3 (((L.set i0 A1).set i3 D1).set i2 C1) A1 b C1 D1) ?_ ?_
  · have hf := HM.out.four.put2 m02 m12 n23 C1
    have hv := HM.out.all.put i2 (by simp only [List.length_set, HLEN.out]; exact h2) C1
    have hk := HM.out.kept.set_ i2 (.int .u32 C1)
    exact ⟨⟨hf.c0, hf.c1, hf.c2, hf.c3, hf.f0, hf.f1, hf.f2, hf.f3⟩, ⟨hv.cell, hv.free⟩, ⟨hk.size, hk.block, hk.os, hk.tape, hk.output⟩⟩
  clear HM c0 c1 c2 c3 f0 f1 f2 f3
  intro W3 hM
  obtain ⟨c0, c1, c2, c3, f0, f1, f2, f3⟩ := hM.four
  have HM := Aside0.mk hM
  clear hM
  go_wp2_with fail
  obtain ⟨B1, hA⟩ : ∃ V, V = turn (bits BinOp.xor IntKind.u32 b C1) 4096 1048576 := ⟨_, rfl⟩
  have HB1 := Aside0.mk hA.symm
  clear hA
  apply wp_join _ (fun W1 => MixAt w W1 g i0 i1 i2 i3 ((((L.set i0 A1).set i3 D1).set i2 C1).set i1 B1) A1 B1 C1 D1)
  case h1 =>
    go_region_with (refine (hamperref05_turn.calls _ 12 _ _ (turn12 _)).mono ?_; rintro e w5 ⟨rfl, ⟨n, rfl⟩⟩)
    all_goals
      refine ⟨rfl, ?_⟩
      have hf := HM.out.four.put1 m01 n12 n13 B1
      have hv := HM.out.all.put i1 (by simp only [List.length_set, HLEN.out]; exact h1) B1
      have hk := HM.out.kept.set_ i1 (.int .u32 B1)
      rw [← HB1.out] at hf hv hk ⊢
      exact ⟨⟨hf.c0, hf.c1, hf.c2, hf.c3, hf.f0, hf.f1, hf.f2, hf.f3⟩, ⟨hv.cell, hv.free⟩, ⟨hk.size, hk.block, hk.os, hk.tape, hk.output⟩⟩
  clear HM c0 c1 c2 c3 f0 f1 f2 f3
  intro W4 hM
  obtain ⟨c0, c1, c2, c3, f0, f1, f2, f3⟩ := hM.four
  have HM := Aside0.mk hM
  clear hM
  go_wp2_with fail
  go_region
  generalize hA : (A1 + B1 + y) % 4294967296 = A2
  have HA2 := Aside0.mk hA
  clear hA
  refine hold (fun W1 => MixAt w W1 g i0 i1 i2 i3 (((((L.set i0 A1).set i3 D1).set i2 C1).set i1 B1).set i0 A2) A2 B1 C1 D1) ?_ ?_
  · have hf := HM.out.four.put0 n01 n02 n03 A2
    have hv := HM.out.all.put i0 (by simp only [List.length_set, HLEN.out]; exact h0) A2
    have hk := HM.out.kept.set_ i0 (.int .u32 A2)
    exact ⟨⟨hf.c0, hf.c1, hf.c2, hf.c3, hf.f0, hf.f1, hf.f2, hf.f3⟩, ⟨hv.cell, hv.free⟩, ⟨hk.size, hk.block, hk.os, hk.tape, hk.output⟩⟩
  clear HM c0 c1 c2 c3 f0 f1 f2 f3
  intro W5 hM
  obtain ⟨c0, c1, c2, c3, f0, f1, f2, f3⟩ := hM.four
  have HM := Aside0.mk hM
  clear hM
  go_wp2_with fail
  obtain ⟨D2, hA⟩ : ∃ V, V = turn (bits BinOp.xor IntKind.u32 D1 A2) 256 16777216 := ⟨_, rfl⟩
  have HD2 := Aside0.mk hA.symm
  clear hA
  apply wp_join _ (fun W1 => MixAt w W1 g i0 i1 i2 i3 ((((((L.set i0 A1).set i3 D1).set i2 C1).set i1 B1).set i0 A2).set i3 D2) A2 B1 C1 D2)
  case h1 =>
    go_region_with (refine (hamperref05_turn.calls _ 8 _ _ (turn8 _)).mono ?_; rintro e w5 ⟨rfl, ⟨n, rfl⟩⟩)
    all_goals
      refine ⟨rfl, ?_⟩
      have hf := HM.out.four.put3 m03 m13 m23 D2
      have hv := HM.out.all.put i3 (by simp only [List.length_set, HLEN.out]; exact h3) D2
      have hk := HM.out.kept.set_ i3 (.int .u32 D2)
      rw [← HD2.out] at hf hv hk ⊢
      exact ⟨⟨hf.c0, hf.c1, hf.c2, hf.c3, hf.f0, hf.f1, hf.f2, hf.f3⟩, ⟨hv.cell, hv.free⟩, ⟨hk.size, hk.block, hk.os, hk.tape, hk.output⟩⟩
  clear HM c0 c1 c2 c3 f0 f1 f2 f3
  intro W6 hM
  obtain ⟨c0, c1, c2, c3, f0, f1, f2, f3⟩ := hM.four
  have HM := Aside0.mk hM
  clear hM
  go_wp2_with fail
  go_region
  generalize hA : (C1 + D2) % 4294967296 = C2
  have HC2 := Aside0.mk hA
  clear hA
  refine hold (fun W1 => MixAt w W1 g i0 i1 i2 i3 (((((((L.set i0 A1).set i3 D1).set i2 C1).set i1 B1).set i0 A2).set i3 D2).set i2 C2) A2 B1 C2 D2) ?_ ?_
  · have hf := HM.out.four.put2 m02 m12 n23 C2
    have hv := HM.out.all.put i2 (by simp only [List.length_set, HLEN.out]; exact h2) C2
    have hk := HM.out.kept.set_ i2 (.int .u32 C2)
    exact ⟨⟨hf.c0, hf.c1, hf.c2, hf.c3, hf.f0, hf.f1, hf.f2, hf.f3⟩, ⟨hv.cell, hv.free⟩, ⟨hk.size, hk.block, hk.os, hk.tape, hk.output⟩⟩
  clear HM c0 c1 c2 c3 f0 f1 f2 f3
  intro W7 hM
  obtain ⟨c0, c1, c2, c3, f0, f1, f2, f3⟩ := hM.four
  have HM := Aside0.mk hM
  clear hM
  go_wp2_with fail
  obtain ⟨B2, hA⟩ : ∃ V, V = turn (bits BinOp.xor IntKind.u32 B1 C2) 128 33554432 := ⟨_, rfl⟩
  have HB2 := Aside0.mk hA.symm
  clear hA
  apply wp_join _ (fun W1 => MixAt w W1 g i0 i1 i2 i3 ((((((((L.set i0 A1).set i3 D1).set i2 C1).set i1 B1).set i0 A2).set i3 D2).set i2 C2).set i1 B2) A2 B2 C2 D2)
  case h1 =>
    go_region_with (refine (hamperref05_turn.calls _ 7 _ _ (turn7 _)).mono ?_; rintro e w5 ⟨rfl, ⟨n, rfl⟩⟩)
    all_goals
      refine ⟨rfl, ?_⟩
      have hf := HM.out.four.put1 m01 n12 n13 B2
      have hv := HM.out.all.put i1 (by simp only [List.length_set, HLEN.out]; exact h1) B2
      have hk := HM.out.kept.set_ i1 (.int .u32 B2)
      rw [← HB2.out] at hf hv hk ⊢
      exact ⟨⟨hf.c0, hf.c1, hf.c2, hf.c3, hf.f0, hf.f1, hf.f2, hf.f3⟩, ⟨hv.cell, hv.free⟩, ⟨hk.size, hk.block, hk.os, hk.tape, hk.output⟩⟩
  clear HM c0 c1 c2 c3 f0 f1 f2 f3
  intro W8 hM
  obtain ⟨c0, c1, c2, c3, f0, f1, f2, f3⟩ := hM.four
  have HM := Aside0.mk hM
  clear hM
  go_wp2_with fail
  all_goals
    go_end0
    refine ⟨rfl, ?_, HM.out.kept⟩
    have hv := HM.out.all
    obtain ⟨ea, eb, ec, ed⟩ := HE.out
    have e1 := HA1.out
    have e2 := HD1.out
    have e3 := HC1.out
    have e4 := HB1.out
    have e5 := HA2.out
    have e6 := HD2.out
    have e7 := HC2.out
    have e8 := HB2.out
    clear HA1 HD1 HC1 HB1 HA2 HD2 HC2 HB2 HM
    rw [mix_list L i0 i1 i2 i3 x y a b c d A1 D1 C1 B1 A2 D2 C2 B2 ea eb ec ed e1 e2 e3 e4 e5 e6 e7 e8 n01 n02 n03 n12 n13 n23]
    exact hv
end Go.Proofs.YtbeibmdccjgcmaaDoor.Rf5
