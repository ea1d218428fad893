import Derived.Test.YtapdnkmaklpoeaaProg
import Derived.Below
import Derived.Deep.Draws
import Derived.Deep.AppendLies
import Derived.Maps.AppendAt
import Derived.OwnWalk
import Derived.Laws.BytesArg
import Derived.Laws.MakeOwn
import Derived.Laws.OwnMore
import Derived.Deep.OwnRows
import Derived.Tactics
import Derived.Lib.ConvBytes
import Derived.Laws.Slices
import Derived.WalkKit
import Derived.KernelRfl
import Derived.RowKit3
import Derived.Deep.LoopGhost
import Derived.Deep.QuietTactic
import Derived.BigQuiet
import Derived.WideLaws
import Derived.Deep.DeepCutAuto
import Derived.Deep.CutBlock
import Derived.Deep.RegionHeld3
import Derived.Laws.Rows
import Derived.Lib.AppendStr
import Derived.ArgAppend
import Derived.Laws.IdiomCopy
import Derived.OrdersHeld
import Derived.Laws.BitsLemmas
import Derived.RowKit
import Derived.Test.YtapdnkmaklpoeaaWWords
import Derived.Test.YtapdnkmaklpoeaaWLast
import Derived.Test.YtapdnkmaklpoeaaWMore
import Derived.Test.YtapdnkmaklpoeaaBk1
namespace Go.Proofs.Ytapdnkmaklpoeaa.Bk
open Go.RowKit Go.Proofs.YtapdnkmaklpoeaaW.PrintWords Go.Proofs.YtapdnkmaklpoeaaW.PrintLast Go.Proofs.YtapdnkmaklpoeaaW.PrintMore
set_option linter.unusedVariables false
set_option linter.unusedSimpArgs false

/-- A block that holds numbers of 32 bits. -/
def IsU (w : World) (g t : Nat) (L : List Int) : Prop := w.heap[g]? = some (.cells (nums .u32 L).toArray t (0, 0))
theorem IsU.cell {w : World} {g t : Nat} {L : List Int} (h : IsU w g t L) (i : Nat) (hi : i < L.length) : w.cell? ⟨g, i, none⟩ = some (.int .u32 (L.getD i 0)) := by
  rw [blk_cell h]
  simp [nums, hi]
theorem IsU.free {w : World} {g t : Nat} {L : List Int} (h : IsU w g t L) (i : Nat) : w.frozen? ⟨g, i, none⟩ = false := blk_frozen h i
theorem IsU.put {w : World} {g t : Nat} {L : List Int} (h : IsU w g t L) (i : Nat) (x : Int) : IsU (w.setCell ⟨g, i, none⟩ (.int .u32 x)) g t (L.set i x) := by
  have := blk_set h i (.int .u32 x)
  unfold IsU
  rw [this]
  simp [nums, List.map_set]
theorem IsU.lt {w : World} {g t : Nat} {L : List Int} (h : IsU w g t L) : g < w.heap.size := blk_lt h

/-- Four numbers, mixed with two others. -/
def mixQ (a b c d x y : Int) : Int × Int × Int × Int :=
  let d1 := turn (Go.bits .xor .u32 d ((a + (b + x)) % 4294967296)) 65536 65536
  let b1 := turn (Go.bits .xor .u32 b ((c + d1) % 4294967296)) 4096 1048576
  let d2 := turn (Go.bits .xor .u32 d1 ((a + (b + x) + (b1 + y)) % 4294967296)) 256 16777216
  let b2 := turn (Go.bits .xor .u32 b1 ((c + d1 + d2) % 4294967296)) 128 33554432
  ((a + (b + x) + (b1 + y)) % 4294967296, b2, (c + d1 + d2) % 4294967296, d2)
def mixL (L : List Int) (i0 i1 i2 i3 : Nat) (x y : Int) : List Int :=
  let q := mixQ (L.getD i0 0) (L.getD i1 0) (L.getD i2 0) (L.getD i3 0) x y
  (((L.set i0 q.1).set i1 q.2.1).set i2 q.2.2.1).set i3 q.2.2.2
set_option maxHeartbeats 4000000 in
set_option maxRecDepth 100000 in
theorem mix_calls (g t : Nat) (L : List Int) (i0 i1 i2 i3 : Nat) (x y : Int) (w : World) (hL : IsU w g t L) (hl : L.length = 16) (h0 : i0 < 16) (h1 : i1 < 16) (h2 : i2 < 16) (h3 : i3 < 16) (n01 : i0 ≠ i1) (n02 : i0 ≠ i2) (n03 : i0 ≠ i3) (n12 : i1 ≠ i2) (n13 : i1 ≠ i3) (n23 : i2 ≠ i3) :
    Calls Try.prog 52 #[.pointer (some ⟨g, 0, none⟩), .agg #[.int .i64 i0, .int .i64 i1, .int .i64 i2, .int .i64 i3], .int .u32 x, .int .u32 y] w fun e w' => e = .returned (.tuple #[]) ∧ IsU w' g t (mixL L i0 i1 i2 i3 x y) ∧ KeepBut w w' g none := by
  have c0 := hL.cell i0 (by omega)
  have c1 := hL.cell i1 (by omega)
  have c2 := hL.cell i2 (by omega)
  have c3 := hL.cell i3 (by omega)
  have f0 := hL.free i0
  have f1 := hL.free i1
  have f2 := hL.free i2
  have f3 := hL.free i3
  have hlt := hL.lt
  have HL := Aside0.mk hL
  obtain ⟨a, ha⟩ : ∃ a, a = L.getD i0 0 := ⟨_, rfl⟩
  obtain ⟨b, hb⟩ : ∃ a, a = L.getD i1 0 := ⟨_, rfl⟩
  obtain ⟨c, hc⟩ : ∃ a, a = L.getD i2 0 := ⟨_, rfl⟩
  obtain ⟨d, hd⟩ : ∃ a, a = L.getD i3 0 := ⟨_, rfl⟩
  rw [← ha] at c0
  rw [← hb] at c1
  rw [← hc] at c2
  rw [← hd] at c3
  have HE := Aside0.mk (And.intro ha (And.intro hb (And.intro hc hd)))
  have HLEN := Aside0.mk hl
  clear ha hb hc hd hL hl
  have ix0 : ∀ w, (Instr.index 109 (.agg #[.int .u32 x, .int .i64 16, .int .i64 12, .int .u32 y, .int .i64 8, .int .i64 7]) (.int .i64 0)).run Try.prog w = .ok (.agg #[.int .u32 x, .int .i64 16, .int .i64 12]) w := fun _ => by kernel_rfl
  have ix1 : ∀ w, (Instr.index 109 (.agg #[.int .u32 x, .int .i64 16, .int .i64 12, .int .u32 y, .int .i64 8, .int .i64 7]) (.int .i64 1)).run Try.prog w = .ok (.agg #[.int .u32 y, .int .i64 8, .int .i64 7]) w := fun _ => by kernel_rfl
  go_enter Try.func52, Try.ntmps52
  go_wp2
  go_quiet (fail)
  go_wp2
  refine wp_loop_rounds 3 ?_
  rw [rounds_succ]
  go_wp2_with fail
  refine (rot16 _ _).mono ?_
  rintro e w1 ⟨rfl, rfl⟩
  generalize hd1 : turn (bits BinOp.xor IntKind.u32 d ((a + (b + x)) % 4294967296)) 65536 65536 = d1
  have HD1 := Aside0.mk hd1
  clear hd1
  go_wp2_with fail
  refine (rot12 _ _).mono ?_
  rintro e w1 ⟨rfl, rfl⟩
  generalize hb1 : turn (bits BinOp.xor IntKind.u32 b ((c + d1) % 4294967296)) 4096 1048576 = b1
  have HB1 := Aside0.mk hb1
  clear hb1
  go_wp2_with fail
  rw [rounds_succ]
  go_wp2_with fail
  refine (rot8 _ _).mono ?_
  rintro e w1 ⟨rfl, rfl⟩
  generalize hd2 : turn (bits BinOp.xor IntKind.u32 d1 ((a + (b + x) + (b1 + y)) % 4294967296)) 256 16777216 = d2
  have HD2 := Aside0.mk hd2
  clear hd2
  go_wp2_with fail
  refine (rot7 _ _).mono ?_
  rintro e w1 ⟨rfl, rfl⟩
  generalize hb2 : turn (bits BinOp.xor IntKind.u32 b1 ((c + d1 + d2) % 4294967296)) 128 33554432 = b2
  have HB2 := Aside0.mk hb2
  clear hb2
  go_wp2_with fail
  rw [rounds_succ]
  go_wp2
  generalize hA : (a + (b + x) + (b1 + y)) % 4294967296 = A1
  have HA := Aside0.mk hA
  clear hA
  generalize hC : (c + d1 + d2) % 4294967296 = C1
  have HC := Aside0.mk hC
  clear hC
  have HK := Aside0.mk (keep_alloc (keep_alloc (keep_drewN (keep_alloc (KeepBut.refl w g none) (.cells #[.int .i64 i0, .int .i64 i1, .int .i64 i2, .int .i64 i3] 96)) nq) (.cells #[.int .u32 x, .int .i64 16, .int .i64 12] 108)) (.cells #[.int .u32 y, .int .i64 8, .int .i64 7] 108))
  have HU := Aside0.mk (show IsU (((w.alloc (.cells #[.int .i64 i0, .int .i64 i1, .int .i64 i2, .int .i64 i3] 96)).drewN nq).alloc (.cells #[.int .u32 x, .int .i64 16, .int .i64 12] 108) |>.alloc (.cells #[.int .u32 y, .int .i64 8, .int .i64 7] 108)) g t L from blk_alloc (blk_alloc (blk_drewN (blk_alloc HL.out _) nq) _) _)
  have a0 : (((w.alloc (.cells #[.int .i64 i0, .int .i64 i1, .int .i64 i2, .int .i64 i3] 96)).drewN nq).alloc (.cells #[.int .u32 x, .int .i64 16, .int .i64 12] 108) |>.alloc (.cells #[.int .u32 y, .int .i64 8, .int .i64 7] 108)).heap[w.heap.size]? = some (.cells #[.int .i64 i0, .int .i64 i1, .int .i64 i2, .int .i64 i3] 96 (0, 0)) := blk_alloc (blk_alloc (blk_drewN (blk_new w _) nq) _) _
  have hne : g ≠ w.heap.size := by omega
  generalize (((w.alloc (.cells #[.int .i64 i0, .int .i64 i1, .int .i64 i2, .int .i64 i3] 96)).drewN nq).alloc (.cells #[.int .u32 x, .int .i64 16, .int .i64 12] 108) |>.alloc (.cells #[.int .u32 y, .int .i64 8, .int .i64 7] 108)) = W at HK HU a0 ⊢
  have p0 : W.cell? ⟨w.heap.size, 0, none⟩ = some (.int .i64 i0) := (blk_cell a0 0).trans rfl
  have p1 : W.cell? ⟨w.heap.size, 1, none⟩ = some (.int .i64 i1) := (blk_cell a0 1).trans rfl
  have p2 : W.cell? ⟨w.heap.size, 2, none⟩ = some (.int .i64 i2) := (blk_cell a0 2).trans rfl
  have p3 : W.cell? ⟨w.heap.size, 3, none⟩ = some (.int .i64 i3) := (blk_cell a0 3).trans rfl
  have q0 := HU.out.cell i0 (by rw [HLEN.out]; exact h0)
  have q1 := HU.out.cell i1 (by rw [HLEN.out]; exact h1)
  have q2 := HU.out.cell i2 (by rw [HLEN.out]; exact h2)
  have q3 := HU.out.cell i3 (by rw [HLEN.out]; exact h3)
  have g0 := HU.out.free i0
  have g1 := HU.out.free i1
  have g2 := HU.out.free i2
  have g3 := HU.out.free i3
  generalize w.heap.size = B at *
  have z0 : (0 : Int) ≤ i0 := by omega
  have z1 : (0 : Int) ≤ i1 := by omega
  have z2 : (0 : Int) ≤ i2 := by omega
  have z3 : (0 : Int) ≤ i3 := by omega
  have u0 : (i0 : Int) < 16 := by omega
  have u1 : (i1 : Int) < 16 := by omega
  have u2 : (i2 : Int) < 16 := by omega
  have u3 : (i3 : Int) < 16 := by omega
  clear c0 c1 c2 c3 f0 f1 f2 f3 a0 hlt
  have m01 := n01.symm
  have m02 := n02.symm
  have m03 := n03.symm
  have m12 := n12.symm
  have m13 := n13.symm
  have m23 := n23.symm
  have hne' := hne.symm
  go_region
  go_end0
  refine ⟨rfl, ?_, ?_⟩
  · have e := ((((HU.out.put i0 A1).put i1 b2).put i2 C1).put i3 d2)
    obtain ⟨rfl, rfl, rfl, rfl⟩ := HE.out
    have k : mixL L i0 i1 i2 i3 x y = (((L.set i0 A1).set i1 b2).set i2 C1).set i3 d2 := by
      have e1 := HD1.out
      have e2 := HB1.out
      have e3 := HA.out
      have e4 := HD2.out
      have e5 := HC.out
      have e6 := HB2.out
      clear HD1 HB1 HA HD2 HC HB2
      subst e6 e5 e4 e3 e2 e1
      rfl
    rw [k]
    exact e
  · exact keep_drew ((((HK.out.set_ i0 _).set_ i1 _).set_ i2 _).set_ i3 _)
end Go.Proofs.Ytapdnkmaklpoeaa.Bk
