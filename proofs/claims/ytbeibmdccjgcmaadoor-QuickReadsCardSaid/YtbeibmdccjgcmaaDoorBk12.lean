/- (*strings.Builder).WriteString: it holds what it held and the string's bytes behind it. -/
import Derived.Test.YtbeibmdccjgcmaaDoorProg
import Derived.Below
import Derived.Deep.Draws
import Derived.Deep.AppendLies
import Derived.Maps.AppendAt
import Derived.OwnWalk
import Derived.Laws.BytesArg
import Derived.Laws.MakeOwn
import Derived.Laws.OwnMore
import Derived.Deep.OwnRows
import Derived.Tactics
import Derived.Lib.ConvBytes
import Derived.Laws.Slices
import Derived.WalkKit
import Derived.KernelRfl
import Derived.RowKit3
import Derived.Deep.LoopGhost
import Derived.Deep.QuietTactic
import Derived.BigQuiet
import Derived.WideLaws
import Derived.Deep.DeepCutAuto
import Derived.Deep.CutBlock
import Derived.Deep.RegionHeld3
import Derived.Laws.Rows
import Derived.Lib.AppendStr
import Derived.ArgAppend
import Derived.Laws.IdiomCopy
import Derived.OrdersHeld
import Derived.Laws.BitsLemmas
import Derived.RowKit
import Derived.Test.YtbeibmdccjgcmaaDoorWWords
import Derived.Test.YtbeibmdccjgcmaaDoorWLast
import Derived.Test.YtbeibmdccjgcmaaDoorWMore
import Derived.BigRegion
import Derived.Outline
import Derived.Laws.CopyOwn
import Derived.Great.BuildSlice
import Derived.LoopTactic
import Derived.Deep.RegionLaw
import Derived.StillTailTactics
import Derived.IntWalk
import Derived.Deep.Cut
import Derived.Lib.Strings
import Derived.Lib.Slices
import Derived.Lib.Walk
import Derived.Lib.Builder
import Derived.Lib.UnsafeStr
import Derived.Lib.LazyBuf
import Derived.Laws.Externs
namespace Go.Proofs.YtbeibmdccjgcmaaDoor.Bk
open Go.RowKit Go.Proofs.YtbeibmdccjgcmaaDoorW.PrintWords Go.Proofs.YtbeibmdccjgcmaaDoorW.PrintLast Go.Proofs.YtbeibmdccjgcmaaDoorW.PrintMore
set_option linter.unusedVariables false
set_option linter.unusedSimpArgs false

/-- All is as it was but for one block (and a row), and what is new. -/
structure KeepBut (w w' : World) (g : Nat) (row : Option Nat) : Prop where
  size : w.heap.size ≤ w'.heap.size
  block : ∀ i, i < w.heap.size → i ≠ g → some i ≠ row → w'.heap[i]? = w.heap[i]?
  os : w'.os = w.os
  tape : w'.tape = w.tape
  output : w'.output = w.output
theorem KeepBut.refl (w : World) (g : Nat) (row : Option Nat) : KeepBut w w g row := ⟨Nat.le_refl _, fun _ _ _ _ => rfl, rfl, rfl, rfl⟩
theorem KeepBut.of_below {w w1 : World} (h : Below w.heap.size w w1) (g : Nat) (row : Option Nat) : KeepBut w w1 g row := ⟨h.size, fun i hi _ _ => h.block i hi, h.os, h.tape, h.output⟩
theorem KeepBut.trans {w w1 w2 : World} {g : Nat} (h : KeepBut w w1 g none) (k : KeepBut w1 w2 g none) : KeepBut w w2 g none :=
  ⟨Nat.le_trans h.size k.size, fun i hi hne hr => (k.block i (Nat.lt_of_lt_of_le hi h.size) hne hr).trans (h.block i hi hne hr), k.os.trans h.os, k.tape.trans h.tape, k.output.trans h.output⟩
theorem KeepBut.set_ {w w1 : World} {g : Nat} (h : KeepBut w w1 g none) (j : Nat) (u : Value) : KeepBut w (w1.setCell ⟨g, j, none⟩ u) g none :=
  ⟨by simpa using h.size, fun i hi hne hr => (Below.heap_setCell _ _ _ _ (fun e => hne e)).trans (h.block i hi hne hr), h.os, h.tape, h.output⟩
theorem KeepBut.below {w w1 : World} {g B : Nat} (h : KeepBut w w1 g none) (hB : B ≤ w.heap.size) (hg : B ≤ g) : Below B w w1 := ⟨h.os, h.tape, h.output, h.size, fun i hi => h.block i (Nat.lt_of_lt_of_le hi hB) (by omega) (by simp)⟩
theorem keep_drewN {w W : World} {g : Nat} {row : Option Nat} (h : KeepBut w W g row) (m : Nat) : KeepBut w (W.drewN m) g row := ⟨h.size, h.block, h.os, h.tape, h.output⟩
theorem keep_drew {w W : World} {g : Nat} {row : Option Nat} (h : KeepBut w W g row) : KeepBut w W.drew g row := ⟨h.size, h.block, h.os, h.tape, h.output⟩
theorem keep_alloc {w W : World} {g : Nat} (h : KeepBut w W g none) (o : Obj) : KeepBut w (W.alloc o) g none := h.trans (KeepBut.of_below (below_alloc (Below.refl _ _) o) g none)
theorem keep_cell {w W : World} {g : Nat} (h : KeepBut w W g none) {a : Addr} {v : Value} (hc : w.cell? a = some v) (hne : a.block ≠ g) : W.cell? a = some v := by
  have hl := World.block_lt_of_cell? w a hc
  have e := h.block a.block hl hne (by simp)
  unfold World.cell? at hc ⊢
  rw [e]
  exact hc
theorem run_index_cell {P : Program} (t e : TypeId) (n : Nat) (cs : Array Value) (j : Nat) (v : Value) (d : TypeDesc) (hu : P.underlying t = some (.array n e)) (he : P.underlying e = some d)
    (hd : (match d with | .struct _ | .array _ _ => true | _ => false) = false) (hs : (P.info? e).map (·.size) = some 1) (hj : j < n) (hv : cs[j]? = some v) (w : World) :
    (Instr.index t (.agg cs) (.int .i64 j)).run P w = .ok v w := by
  obtain ⟨i, hi, hz⟩ := Option.map_eq_some_iff.1 hs
  have hagg : (isAgg e).run P w = .ok false w := by
    unfold isAgg
    rw [Sem.run_bind, run_underlying he w]
    cases d <;> simp_all
  have h1 : (0 : Int) ≤ j ∧ (j : Int) < n := by omega
  simp [Instr.index, asIntOf, run_underlying hu, part, hagg, sizeOf, typeInfo, hi, hz, hj, hv]
theorem run_index_part {P : Program} (t e : TypeId) (n s : Nat) (cs : Array Value) (j : Nat) (d : TypeDesc) (hu : P.underlying t = some (.array n e)) (he : P.underlying e = some d)
    (hd : (match d with | .struct _ | .array _ _ => true | _ => false) = true) (hs : (P.info? e).map (·.size) = some s) (hj : j < n) (w : World) :
    (Instr.index t (.agg cs) (.int .i64 j)).run P w = .ok (.agg (cs.extract (j * s) (j * s + s))) w := by
  obtain ⟨i, hi, hz⟩ := Option.map_eq_some_iff.1 hs
  have hagg : (isAgg e).run P w = .ok true w := by
    unfold isAgg
    rw [Sem.run_bind, run_underlying he w]
    cases d <;> simp_all
  simp [Instr.index, asIntOf, run_underlying hu, part, hagg, sizeOf, typeInfo, hi, hz, hj]
/-- A turn of 32 bits down. -/
def turn (x a b : Int) : Int := Go.bits .or .u32 (x * b % 4294967296) (x / a)
set_option maxHeartbeats 1000000 in
theorem rot16 (x : Int) (w : World) : Calls Tryd.prog 78 #[.int .u32 x, .int .i64 (-16)] w fun e w' => e = .returned (.int .u32 (turn x 65536 65536)) ∧ w = w' := by
  have e : bits BinOp.and IntKind.u64 (IntKind.u64.wrap (-16)) 31 = 16 := by decide
  go_enter Tryd.func78, Tryd.ntmps78
  go_wp2
  go_ret
  exact ⟨rfl, rfl⟩
set_option maxHeartbeats 1000000 in
theorem rot12 (x : Int) (w : World) : Calls Tryd.prog 78 #[.int .u32 x, .int .i64 (-12)] w fun e w' => e = .returned (.int .u32 (turn x 4096 1048576)) ∧ w = w' := by
  have e : bits BinOp.and IntKind.u64 (IntKind.u64.wrap (-12)) 31 = 20 := by decide
  go_enter Tryd.func78, Tryd.ntmps78
  go_wp2
  go_ret
  exact ⟨rfl, rfl⟩
set_option maxHeartbeats 1000000 in
theorem rot8 (x : Int) (w : World) : Calls Tryd.prog 78 #[.int .u32 x, .int .i64 (-8)] w fun e w' => e = .returned (.int .u32 (turn x 256 16777216)) ∧ w = w' := by
  have e : bits BinOp.and IntKind.u64 (IntKind.u64.wrap (-8)) 31 = 24 := by decide
  go_enter Tryd.func78, Tryd.ntmps78
  go_wp2
  go_ret
  exact ⟨rfl, rfl⟩
set_option maxHeartbeats 1000000 in
theorem rot7 (x : Int) (w : World) : Calls Tryd.prog 78 #[.int .u32 x, .int .i64 (-7)] w fun e w' => e = .returned (.int .u32 (turn x 128 33554432)) ∧ w = w' := by
  have e : bits BinOp.and IntKind.u64 (IntKind.u64.wrap (-7)) 31 = 25 := by decide
  go_enter Tryd.func78, Tryd.ntmps78
  go_wp2
  go_ret
  exact ⟨rfl, rfl⟩

/-- The places of each round, and of each mixing. -/
def rowsL : List (List Int) := [[0, 1, 2, 3, 4, 5, 6, 7, 8, 9, 10, 11, 12, 13, 14, 15], [14, 10, 4, 8, 9, 15, 13, 6, 1, 12, 0, 2, 11, 7, 5, 3], [11, 8, 12, 0, 5, 2, 15, 13, 10, 14, 3, 6, 7, 1, 9, 4], [7, 9, 3, 1, 13, 12, 11, 14, 2, 6, 5, 10, 4, 0, 15, 8], [9, 0, 5, 7, 2, 4, 10, 15, 14, 1, 11, 12, 6, 8, 3, 13], [2, 12, 6, 10, 0, 11, 8, 3, 4, 13, 7, 5, 15, 14, 1, 9], [12, 5, 1, 15, 14, 13, 4, 10, 0, 7, 6, 3, 9, 2, 8, 11], [13, 11, 7, 14, 12, 1, 3, 9, 5, 0, 15, 4, 8, 6, 2, 10], [6, 15, 14, 9, 11, 3, 0, 8, 12, 2, 13, 7, 1, 4, 10, 5], [10, 2, 8, 4, 7, 6, 1, 5, 15, 11, 9, 14, 3, 12, 13, 0]]
def mixesL : List (List Int) := [[0, 4, 8, 12], [1, 5, 9, 13], [2, 6, 10, 14], [3, 7, 11, 15], [0, 5, 10, 15], [1, 6, 11, 12], [2, 7, 8, 13], [3, 4, 9, 14]]
def rowsC : Array Value := (rowsL.flatten.map (Value.int .u8)).toArray
def mixesC : Array Value := (mixesL.flatten.map (Value.int .i64)).toArray
def zeros160 : Array Value := (List.replicate 160 (Value.int .u8 0)).toArray
def zeros32 : Array Value := (List.replicate 32 (Value.int .i64 0)).toArray
theorem below_row {B g : Nat} {w0 w : World} (hb : Below B w0 w) (hBg : B ≤ g) (cs : Array Value) : Below B w0 (w.setRow g cs) := Go.below_setRow hb hBg cs
set_option maxHeartbeats 1000000 in
set_option maxRecDepth 100000 in
theorem rows_calls (w : World) : Calls Tryd.prog 71 #[] w fun e w' => e = .returned (.agg rowsC) ∧ Below w.heap.size w w' := by
  have hz : ∀ w, (zeroValue 104).run Tryd.prog w = .ok (.agg zeros160) w := fun w => by kernel_rfl
  go_enter Tryd.func71, Tryd.ntmps71
  go_wp2_with (first | (refine wpList_buildTo rfl 104 _ rfl _ rfl rowsC (by kernel_rfl) ?_) | (refine wpList_store_rowTo rfl 104 _ _ rfl rfl w.heap.size rowsC rfl rfl 104 zeros160 (heap_alloc_new w _) (by kernel_rfl) (by kernel_rfl) (by kernel_rfl) ?_))
  refine bodyPost_ret (v := .agg rowsC) (results_cell_row rfl _ _ w.heap.size 104 rowsC (0, 0) (.array 10 103) rfl (setRow_heap _ _ zeros160 _ _ _ (heap_alloc_new w _)) Tryd.underlying104 rfl (by kernel_rfl)) rfl ⟨rfl, ?_⟩
  exact below_row ((Below.refl _ _).alloc (Nat.le_refl _) _) (Nat.le_refl _) _
set_option maxHeartbeats 1000000 in
set_option maxRecDepth 100000 in
theorem mixes_calls (w : World) : Calls Tryd.prog 72 #[] w fun e w' => e = .returned (.agg mixesC) ∧ Below w.heap.size w w' := by
  have hz : ∀ w, (zeroValue 107).run Tryd.prog w = .ok (.agg zeros32) w := fun w => by kernel_rfl
  go_enter Tryd.func72, Tryd.ntmps72
  go_wp2_with (first | (refine wpList_buildTo rfl 107 _ rfl _ rfl mixesC (by kernel_rfl) ?_) | (refine wpList_store_rowTo rfl 107 _ _ rfl rfl w.heap.size mixesC rfl rfl 107 zeros32 (heap_alloc_new w _) (by kernel_rfl) (by kernel_rfl) (by kernel_rfl) ?_))
  refine bodyPost_ret (v := .agg mixesC) (results_cell_row rfl _ _ w.heap.size 107 mixesC (0, 0) (.array 8 106) rfl (setRow_heap _ _ zeros32 _ _ _ (heap_alloc_new w _)) Tryd.underlying107 rfl (by kernel_rfl)) rfl ⟨rfl, ?_⟩
  exact below_row ((Below.refl _ _).alloc (Nat.le_refl _) _) (Nat.le_refl _) _
end Go.Proofs.YtbeibmdccjgcmaaDoor.Bk
namespace Go.Proofs.YtbeibmdccjgcmaaDoor.Bk
open Go.RowKit Go.Proofs.YtbeibmdccjgcmaaDoorW.PrintWords Go.Proofs.YtbeibmdccjgcmaaDoorW.PrintLast Go.Proofs.YtbeibmdccjgcmaaDoorW.PrintMore
set_option linter.unusedVariables false
set_option linter.unusedSimpArgs false

/-- A block that holds numbers of 32 bits. -/
def IsU (w : World) (g t : Nat) (L : List Int) : Prop := w.heap[g]? = some (.cells (nums .u32 L).toArray t (0, 0))
theorem IsU.cell {w : World} {g t : Nat} {L : List Int} (h : IsU w g t L) (i : Nat) (hi : i < L.length) : w.cell? ⟨g, i, none⟩ = some (.int .u32 (L.getD i 0)) := by
  rw [blk_cell h]
  simp [nums, hi]
theorem IsU.free {w : World} {g t : Nat} {L : List Int} (h : IsU w g t L) (i : Nat) : w.frozen? ⟨g, i, none⟩ = false := blk_frozen h i
theorem IsU.put {w : World} {g t : Nat} {L : List Int} (h : IsU w g t L) (i : Nat) (x : Int) : IsU (w.setCell ⟨g, i, none⟩ (.int .u32 x)) g t (L.set i x) := by
  have := blk_set h i (.int .u32 x)
  unfold IsU
  rw [this]
  simp [nums, List.map_set]
theorem IsU.lt {w : World} {g t : Nat} {L : List Int} (h : IsU w g t L) : g < w.heap.size := blk_lt h

/-- Four numbers, mixed with two others. -/
def mixQ (a b c d x y : Int) : Int × Int × Int × Int :=
  let d1 := turn (Go.bits .xor .u32 d ((a + (b + x)) % 4294967296)) 65536 65536
  let b1 := turn (Go.bits .xor .u32 b ((c + d1) % 4294967296)) 4096 1048576
  let d2 := turn (Go.bits .xor .u32 d1 ((a + (b + x) + (b1 + y)) % 4294967296)) 256 16777216
  let b2 := turn (Go.bits .xor .u32 b1 ((c + d1 + d2) % 4294967296)) 128 33554432
  ((a + (b + x) + (b1 + y)) % 4294967296, b2, (c + d1 + d2) % 4294967296, d2)
def mixL (L : List Int) (i0 i1 i2 i3 : Nat) (x y : Int) : List Int :=
  let q := mixQ (L.getD i0 0) (L.getD i1 0) (L.getD i2 0) (L.getD i3 0) x y
  (((L.set i0 q.1).set i1 q.2.1).set i2 q.2.2.1).set i3 q.2.2.2
set_option maxHeartbeats 4000000 in
set_option maxRecDepth 100000 in
theorem mix_calls (g t : Nat) (L : List Int) (i0 i1 i2 i3 : Nat) (x y : Int) (w : World) (hL : IsU w g t L) (hl : L.length = 16) (h0 : i0 < 16) (h1 : i1 < 16) (h2 : i2 < 16) (h3 : i3 < 16) (n01 : i0 ≠ i1) (n02 : i0 ≠ i2) (n03 : i0 ≠ i3) (n12 : i1 ≠ i2) (n13 : i1 ≠ i3) (n23 : i2 ≠ i3) :
    Calls Tryd.prog 73 #[.pointer (some ⟨g, 0, none⟩), .agg #[.int .i64 i0, .int .i64 i1, .int .i64 i2, .int .i64 i3], .int .u32 x, .int .u32 y] w fun e w' => e = .returned (.tuple #[]) ∧ IsU w' g t (mixL L i0 i1 i2 i3 x y) ∧ KeepBut w w' g none := by
  have c0 := hL.cell i0 (by omega)
  have c1 := hL.cell i1 (by omega)
  have c2 := hL.cell i2 (by omega)
  have c3 := hL.cell i3 (by omega)
  have f0 := hL.free i0
  have f1 := hL.free i1
  have f2 := hL.free i2
  have f3 := hL.free i3
  have hlt := hL.lt
  have HL := Aside0.mk hL
  obtain ⟨a, ha⟩ : ∃ a, a = L.getD i0 0 := ⟨_, rfl⟩
  obtain ⟨b, hb⟩ : ∃ a, a = L.getD i1 0 := ⟨_, rfl⟩
  obtain ⟨c, hc⟩ : ∃ a, a = L.getD i2 0 := ⟨_, rfl⟩
  obtain ⟨d, hd⟩ : ∃ a, a = L.getD i3 0 := ⟨_, rfl⟩
  rw [← ha] at c0
  rw [← hb] at c1
  rw [← hc] at c2
  rw [← hd] at c3
  have HE := Aside0.mk (And.intro ha (And.intro hb (And.intro hc hd)))
  have HLEN := Aside0.mk hl
  clear ha hb hc hd hL hl
  have ix0 : ∀ w, (Instr.index 117 (.agg #[.int .u32 x, .int .i64 16, .int .i64 12, .int .u32 y, .int .i64 8, .int .i64 7]) (.int .i64 0)).run Tryd.prog w = .ok (.agg #[.int .u32 x, .int .i64 16, .int .i64 12]) w := fun _ => by kernel_rfl
  have ix1 : ∀ w, (Instr.index 117 (.agg #[.int .u32 x, .int .i64 16, .int .i64 12, .int .u32 y, .int .i64 8, .int .i64 7]) (.int .i64 1)).run Tryd.prog w = .ok (.agg #[.int .u32 y, .int .i64 8, .int .i64 7]) w := fun _ => by kernel_rfl
  go_enter Tryd.func73, Tryd.ntmps73
  go_wp2
  go_quiet (fail)
  go_wp2
  refine wp_loop_rounds 3 ?_
  rw [rounds_succ]
  go_wp2_with fail
  refine (rot16 _ _).mono ?_
  rintro e w1 ⟨rfl, rfl⟩
  generalize hd1 : turn (bits BinOp.xor IntKind.u32 d ((a + (b + x)) % 4294967296)) 65536 65536 = d1
  have HD1 := Aside0.mk hd1
  clear hd1
  go_wp2_with fail
  refine (rot12 _ _).mono ?_
  rintro e w1 ⟨rfl, rfl⟩
  generalize hb1 : turn (bits BinOp.xor IntKind.u32 b ((c + d1) % 4294967296)) 4096 1048576 = b1
  have HB1 := Aside0.mk hb1
  clear hb1
  go_wp2_with fail
  rw [rounds_succ]
  go_wp2_with fail
  refine (rot8 _ _).mono ?_
  rintro e w1 ⟨rfl, rfl⟩
  generalize hd2 : turn (bits BinOp.xor IntKind.u32 d1 ((a + (b + x) + (b1 + y)) % 4294967296)) 256 16777216 = d2
  have HD2 := Aside0.mk hd2
  clear hd2
  go_wp2_with fail
  refine (rot7 _ _).mono ?_
  rintro e w1 ⟨rfl, rfl⟩
  generalize hb2 : turn (bits BinOp.xor IntKind.u32 b1 ((c + d1 + d2) % 4294967296)) 128 33554432 = b2
  have HB2 := Aside0.mk hb2
  clear hb2
  go_wp2_with fail
  rw [rounds_succ]
  go_wp2
  generalize hA : (a + (b + x) + (b1 + y)) % 4294967296 = A1
  have HA := Aside0.mk hA
  clear hA
  generalize hC : (c + d1 + d2) % 4294967296 = C1
  have HC := Aside0.mk hC
  clear hC
  have HK := Aside0.mk (keep_alloc (keep_alloc (keep_drewN (keep_alloc (KeepBut.refl w g none) (.cells #[.int .i64 i0, .int .i64 i1, .int .i64 i2, .int .i64 i3] 106)) nq) (.cells #[.int .u32 x, .int .i64 16, .int .i64 12] 116)) (.cells #[.int .u32 y, .int .i64 8, .int .i64 7] 116))
  have HU := Aside0.mk (show IsU (((w.alloc (.cells #[.int .i64 i0, .int .i64 i1, .int .i64 i2, .int .i64 i3] 106)).drewN nq).alloc (.cells #[.int .u32 x, .int .i64 16, .int .i64 12] 116) |>.alloc (.cells #[.int .u32 y, .int .i64 8, .int .i64 7] 116)) g t L from blk_alloc (blk_alloc (blk_drewN (blk_alloc HL.out _) nq) _) _)
  have a0 : (((w.alloc (.cells #[.int .i64 i0, .int .i64 i1, .int .i64 i2, .int .i64 i3] 106)).drewN nq).alloc (.cells #[.int .u32 x, .int .i64 16, .int .i64 12] 116) |>.alloc (.cells #[.int .u32 y, .int .i64 8, .int .i64 7] 116)).heap[w.heap.size]? = some (.cells #[.int .i64 i0, .int .i64 i1, .int .i64 i2, .int .i64 i3] 106 (0, 0)) := blk_alloc (blk_alloc (blk_drewN (blk_new w _) nq) _) _
  have hne : g ≠ w.heap.size := by omega
  generalize (((w.alloc (.cells #[.int .i64 i0, .int .i64 i1, .int .i64 i2, .int .i64 i3] 106)).drewN nq).alloc (.cells #[.int .u32 x, .int .i64 16, .int .i64 12] 116) |>.alloc (.cells #[.int .u32 y, .int .i64 8, .int .i64 7] 116)) = W at HK HU a0 ⊢
  have p0 : W.cell? ⟨w.heap.size, 0, none⟩ = some (.int .i64 i0) := (blk_cell a0 0).trans rfl
  have p1 : W.cell? ⟨w.heap.size, 1, none⟩ = some (.int .i64 i1) := (blk_cell a0 1).trans rfl
  have p2 : W.cell? ⟨w.heap.size, 2, none⟩ = some (.int .i64 i2) := (blk_cell a0 2).trans rfl
  have p3 : W.cell? ⟨w.heap.size, 3, none⟩ = some (.int .i64 i3) := (blk_cell a0 3).trans rfl
  have q0 := HU.out.cell i0 (by rw [HLEN.out]; exact h0)
  have q1 := HU.out.cell i1 (by rw [HLEN.out]; exact h1)
  have q2 := HU.out.cell i2 (by rw [HLEN.out]; exact h2)
  have q3 := HU.out.cell i3 (by rw [HLEN.out]; exact h3)
  have g0 := HU.out.free i0
  have g1 := HU.out.free i1
  have g2 := HU.out.free i2
  have g3 := HU.out.free i3
  generalize w.heap.size = B at *
  have z0 : (0 : Int) ≤ i0 := by omega
  have z1 : (0 : Int) ≤ i1 := by omega
  have z2 : (0 : Int) ≤ i2 := by omega
  have z3 : (0 : Int) ≤ i3 := by omega
  have u0 : (i0 : Int) < 16 := by omega
  have u1 : (i1 : Int) < 16 := by omega
  have u2 : (i2 : Int) < 16 := by omega
  have u3 : (i3 : Int) < 16 := by omega
  clear c0 c1 c2 c3 f0 f1 f2 f3 a0 hlt
  have m01 := n01.symm
  have m02 := n02.symm
  have m03 := n03.symm
  have m12 := n12.symm
  have m13 := n13.symm
  have m23 := n23.symm
  have hne' := hne.symm
  go_region
  go_end0
  refine ⟨rfl, ?_, ?_⟩
  · have e := ((((HU.out.put i0 A1).put i1 b2).put i2 C1).put i3 d2)
    obtain ⟨rfl, rfl, rfl, rfl⟩ := HE.out
    have k : mixL L i0 i1 i2 i3 x y = (((L.set i0 A1).set i1 b2).set i2 C1).set i3 d2 := by
      have e1 := HD1.out
      have e2 := HB1.out
      have e3 := HA.out
      have e4 := HD2.out
      have e5 := HC.out
      have e6 := HB2.out
      clear HD1 HB1 HA HD2 HC HB2
      subst e6 e5 e4 e3 e2 e1
      rfl
    rw [k]
    exact e
  · exact keep_drew ((((HK.out.set_ i0 _).set_ i1 _).set_ i2 _).set_ i3 _)
end Go.Proofs.YtbeibmdccjgcmaaDoor.Bk
namespace Go.Proofs.YtbeibmdccjgcmaaDoor.Bk
open Go.RowKit Go.Proofs.YtbeibmdccjgcmaaDoorW.PrintWords Go.Proofs.YtbeibmdccjgcmaaDoorW.PrintLast Go.Proofs.YtbeibmdccjgcmaaDoorW.PrintMore
set_option linter.unusedVariables false
set_option linter.unusedSimpArgs false

/-- The two halves of a product. -/
def mulHi (a b : Int) : Int :=
  let w0 := IntKind.u64.wrap (bits BinOp.and IntKind.u64 a 4294967295 * bits BinOp.and IntKind.u64 b 4294967295)
  let t := IntKind.u64.wrap (IntKind.u64.wrap (a / 4294967296 * bits BinOp.and IntKind.u64 b 4294967295) + w0 / 4294967296)
  IntKind.u64.wrap (IntKind.u64.wrap (IntKind.u64.wrap (a / 4294967296 * (b / 4294967296)) + t / 4294967296) + IntKind.u64.wrap (bits BinOp.and IntKind.u64 t 4294967295 + IntKind.u64.wrap (bits BinOp.and IntKind.u64 a 4294967295 * (b / 4294967296))) / 4294967296)
def mulLo (a b : Int) : Int := IntKind.u64.wrap (a * b)
set_option maxHeartbeats 1000000 in
theorem mul64 (a b : Int) (w : World) : Calls Tryd.prog 77 #[.int .u64 a, .int .u64 b] w fun e w' => e = .returned (.tuple #[.int .u64 (mulHi a b), .int .u64 (mulLo a b)]) ∧ w = w' := by
  go_enter Tryd.func77, Tryd.ntmps77
  go_wp2
  go_ret2
  exact ⟨rfl, rfl⟩

/-- One bit more of a root. -/
def rootStep (p x : Int) (k : Nat) : Int :=
  let y := Go.bits .or .u64 x (IntKind.u64.wrap (2 ^ (34 - k)))
  if mulHi y y < p ∨ (mulHi y y = p ∧ mulLo y y = 0) then y else x
def rootTo (p : Int) : Nat → Int
  | 0 => 0
  | k + 1 => rootStep p (rootTo p k) k
def primesL : List Int := [2, 3, 5, 7, 11, 13, 17, 19]
def firstsL : List Int := primesL.map fun p => IntKind.u32.wrap (rootTo p 35)
/-- What holds behind k of the eight. -/
def FOut (g k : Nat) (w wr : World) : Prop :=
  Below w.heap.size w wr ∧ wr.heap[g]? = some (.cells #[.int .u32 0, .int .u32 0, .int .u32 0, .int .u32 0, .int .u32 0, .int .u32 0, .int .u32 0, .int .u32 0] 83 (0, 0)) ∧ IsU wr (g + 1) 83 (firstsL.take k ++ List.replicate (8 - k) 0)
theorem fill_next (L : List Int) (n k : Nat) (hn : L.length = n) (hk : k < n) : (L.take k ++ List.replicate (n - k) 0).set k (L.getD k 0) = L.take (k + 1) ++ List.replicate (n - (k + 1)) 0 := by
  have e : n - k = (n - (k + 1)) + 1 := by omega
  have hl : (L.take k).length = k := by rw [List.length_take]; omega
  rw [e, List.replicate_succ, List.set_append_right _ _ (by omega), hl, Nat.sub_self, List.set_cons_zero]
  rw [List.take_succ_eq_append_getElem (by omega), List.append_assoc, List.singleton_append]
  simp [List.getD_eq_getElem?_getD, List.getElem?_eq_getElem (show k < L.length by omega)]
theorem firsts_at (k : Nat) (hk : k < 8) : firstsL.getD k 0 = rootTo (primesL.getD k 0) 35 % 4294967296 := by
  have hl : k < primesL.length := hk
  have h1 : k < firstsL.length := by simp [firstsL, primesL]; omega
  rw [List.getD_eq_getElem?_getD, List.getD_eq_getElem?_getD, List.getElem?_eq_getElem h1, List.getElem?_eq_getElem hl]
  simp only [firstsL, List.getElem_map, Option.getD_some, IntKind.wrap, IntKind.signed, IntKind.bits]
  rfl
theorem FOut_next (w wr : World) (k : Nat) (hk : k < 8) (h : FOut w.heap.size k w wr) : FOut w.heap.size (k + 1) w (wr.setCell ⟨w.heap.size + 1, k, none⟩ (.int .u32 (rootTo (primesL.getD k 0) 35 % 4294967296))) := by
  obtain ⟨hb, h0, h1⟩ := h
  refine ⟨below_set hb (by omega), blk_far h0 (by simp) _, ?_⟩
  have e := h1.put k (rootTo (primesL.getD k 0) 35 % 4294967296)
  rw [← firsts_at k hk, fill_next firstsL 8 k rfl hk] at e
  rw [← firsts_at k hk]
  exact e
theorem FOut_start (w : World) : FOut w.heap.size 0 w ((w.alloc (.cells #[.int .u32 0, .int .u32 0, .int .u32 0, .int .u32 0, .int .u32 0, .int .u32 0, .int .u32 0, .int .u32 0] 83)).alloc (.cells #[.int .u32 0, .int .u32 0, .int .u32 0, .int .u32 0, .int .u32 0, .int .u32 0, .int .u32 0, .int .u32 0] 83)) := by
  refine ⟨below_alloc (below_alloc (Below.refl _ _) _) _, blk_alloc (blk_new w _) _, ?_⟩
  have h := blk_new (w.alloc (.cells #[.int .u32 0, .int .u32 0, .int .u32 0, .int .u32 0, .int .u32 0, .int .u32 0, .int .u32 0, .int .u32 0] 83)) (.cells #[.int .u32 0, .int .u32 0, .int .u32 0, .int .u32 0, .int .u32 0, .int .u32 0, .int .u32 0, .int .u32 0] 83)
  have e : (w.alloc (.cells #[.int .u32 0, .int .u32 0, .int .u32 0, .int .u32 0, .int .u32 0, .int .u32 0, .int .u32 0, .int .u32 0] 83)).heap.size = w.heap.size + 1 := by simp
  rw [e] at h
  exact h
set_option maxHeartbeats 2000000 in
set_option maxRecDepth 100000 in
theorem firsts_calls (w : World) : Calls Tryd.prog 70 #[] w fun e w' => e = .returned (.agg (nums .u32 firstsL).toArray) ∧ Below w.heap.size w w' := by
  have ixa : ∀ j : Nat, j < 8 → ∀ w, (Instr.index 113 (.agg #[.int .u64 2, .int .u64 3, .int .u64 5, .int .u64 7, .int .u64 11, .int .u64 13, .int .u64 17, .int .u64 19]) (.int .i64 j)).run Tryd.prog w = .ok (.int .u64 (primesL.getD j 0)) w := by
    intro j hj w
    refine run_index_cell _ _ 8 _ j _ (.int .u64) Tryd.underlying113 Tryd.underlying72 rfl (by kernel_rfl) hj ?_ w
    have hj' : j = 0 ∨ j = 1 ∨ j = 2 ∨ j = 3 ∨ j = 4 ∨ j = 5 ∨ j = 6 ∨ j = 7 := by omega
    rcases hj' with rfl | rfl | rfl | rfl | rfl | rfl | rfl | rfl <;> rfl
  have IX := Aside0.mk ixa
  clear ixa
  go_enter Tryd.func70, Tryd.ntmps70
  go_wp2
  go_loopw [10] (fun i wr => ∃ k : Nat, k ≤ 8 ∧ i = .int .i64 k ∧ FOut w.heap.size k w wr) (fun i _ => 8 - (intOf i).toNat)
  case atStart => exact ⟨0, Nat.zero_le _, rfl, FOut_start w⟩
  case round =>
    obtain ⟨k, hk, rfl, hF⟩ := hrel
    have HF := Aside0.mk hF
    clear hF
    by_cases hlt : k < 8
    · have ix := IX.out k hlt
      obtain ⟨p, hp⟩ : ∃ p, p = primesL.getD k 0 := ⟨_, rfl⟩
      rw [← hp] at ix
      have HP := Aside0.mk hp
      clear hp
      have d0 : decide ((k : Int) < 8) = true := decide_eq_true (by omega)
      have d9 : (k : Int) < 8 := by omega
      have c1 := HF.out.2.2.cell k (by simp [firstsL, primesL]; omega)
      have f1 := HF.out.2.2.free k
      generalize (firstsL.take k ++ List.replicate (8 - k) 0).getD k 0 = old at c1
      go_wp2
      go_loop [4, 5] (fun x b => ∃ j : Nat, j ≤ 35 ∧ x = .int .u64 (rootTo p j) ∧ b = .int .i64 (34 - j)) (fun _ b => (intOf b + 1).toNat)
      case atStart => exact ⟨0, Nat.zero_le _, rfl, rfl⟩
      case round =>
        obtain ⟨j, hj, rfl, rfl⟩ := hrel
        by_cases hlj : j < 35
        · have d1 : decide ((0 : Int) ≤ 34 - j) = true := decide_eq_true (by omega)
          have d2 : (0 : Int) ≤ 34 - j := by omega
          have d3 : (34 : Int) - j < 64 := by omega
          generalize hx : rootTo p j = x
          have HX := Aside0.mk hx
          clear hx
          go_wp2_with fail
          generalize hy : bits BinOp.or IntKind.u64 x (IntKind.u64.wrap (2 ^ (34 - j))) = y
          have HY := Aside0.mk hy
          clear hy
          refine (mul64 _ _ _).mono ?_
          rintro e w1 ⟨rfl, rfl⟩
          generalize hh : mulHi y y = h
          have HH := Aside0.mk hh
          clear hh
          generalize hl : mulLo y y = l
          have HL := Aside0.mk hl
          clear hl
          by_cases t1 : h < p
          · have e1 : decide (h < p) = true := decide_eq_true t1
            go_wp2
            go_round
            case rel =>
              refine ⟨j + 1, by omega, ?_, by go_num⟩
              have e : rootTo p (j + 1) = y := by
                show rootStep p (rootTo p j) j = _
                rw [HX.out]
                unfold rootStep
                simp only [HY.out, HH.out, HL.out]
                rw [if_pos (Or.inl t1)]
              rw [e]
            case measure => simp [intOf]; omega
          · have e1 : decide (h < p) = false := decide_eq_false t1
            by_cases t2 : h = p
            · have e2 : (h == p) = true := beq_iff_eq.mpr t2
              have T2 := Aside0.mk t2
              clear t2
              by_cases t3 : l = 0
              · have e3 : (l == 0) = true := beq_iff_eq.mpr t3
                have T3 := Aside0.mk t3
                clear t3
                go_wp2
                go_round
                case rel =>
                  refine ⟨j + 1, by omega, ?_, by go_num⟩
                  have e : rootTo p (j + 1) = y := by
                    show rootStep p (rootTo p j) j = _
                    rw [HX.out]
                    unfold rootStep
                    simp only [HY.out, HH.out, HL.out]
                    rw [if_pos (Or.inr ⟨T2.out, T3.out⟩)]
                  rw [e]
                case measure => simp [intOf]; omega
              · have e3 : (l == 0) = false := beq_eq_false_iff_ne.mpr t3
                go_wp2
                go_round
                case rel =>
                  refine ⟨j + 1, by omega, ?_, by go_num⟩
                  have e : rootTo p (j + 1) = x := by
                    show rootStep p (rootTo p j) j = _
                    rw [HX.out]
                    unfold rootStep
                    simp only [HY.out, HH.out, HL.out]
                    rw [if_neg (fun q => q.elim (fun z => absurd z (by omega)) (fun q => t3 q.2))]
                  rw [e]
                case measure => simp [intOf]; omega
            · have e2 : (h == p) = false := beq_eq_false_iff_ne.mpr t2
              go_wp2
              go_round
              case rel =>
                refine ⟨j + 1, by omega, ?_, by go_num⟩
                have e : rootTo p (j + 1) = x := by
                  show rootStep p (rootTo p j) j = _
                  rw [HX.out]
                  unfold rootStep
                  simp only [HY.out, HH.out, HL.out]
                  rw [if_neg (fun q => q.elim (fun z => absurd z (by omega)) (fun q => t2 q.1))]
                rw [e]
              case measure => simp [intOf]; omega
        · obtain rfl : j = 35 := by omega
          have d1 : decide ((0 : Int) ≤ 34 - (35 : Nat)) = false := by decide
          go_wp2
          go_roundw
          case rel =>
            refine ⟨k + 1, by omega, by go_num, ?_⟩
            have e := FOut_next w wr k hlt HF.out
            rw [← HP.out] at e
            exact e
          case measure => simp [intOf]; omega
    · obtain rfl : k = 8 := by omega
      obtain ⟨hb, h0, h1⟩ := HF.out
      have H0 := Aside0.mk h0
      have H1 := Aside0.mk h1
      have HB := Aside0.mk hb
      clear h0 h1 hb HF hk hlt
      go_wp2_with (first | (refine wpList_load_row rfl 83 _ rfl (w.heap.size + 1) rfl 83 (nums .u32 firstsL).toArray (0, 0) (.array 8 71) H1.out Tryd.underlying83 rfl (by kernel_rfl) ?_) | (refine wpList_store_rowTo rfl 83 _ _ rfl rfl w.heap.size (nums .u32 firstsL).toArray rfl rfl 83 _ H0.out (by kernel_rfl) (by kernel_rfl) (by kernel_rfl) ?_))
      refine bodyPost_ret (v := .agg (nums .u32 firstsL).toArray) (results_cell_row rfl _ _ w.heap.size 83 (nums .u32 firstsL).toArray (0, 0) (.array 8 71) rfl (setRow_heap _ _ _ _ _ _ H0.out) Tryd.underlying83 rfl (by kernel_rfl)) rfl ⟨rfl, ?_⟩
      exact below_row HB.out (Nat.le_refl _) _
end Go.Proofs.YtbeibmdccjgcmaaDoor.Bk
namespace Go.Proofs.YtbeibmdccjgcmaaDoor.Bk
open Go.RowKit Go.Proofs.YtbeibmdccjgcmaaDoorW.PrintWords Go.Proofs.YtbeibmdccjgcmaaDoorW.PrintLast Go.Proofs.YtbeibmdccjgcmaaDoorW.PrintMore
set_option linter.unusedVariables false
set_option linter.unusedSimpArgs false

/-- A hash in memory: its numbers, what lies in 'rest', how many bytes were mixed in. -/
structure IsHash (w : World) (g : Nat) (hs : List Int) (v : Value) (n : Int) : Prop where
  blk : w.heap[g]? = some (.cells ((nums .u32 hs) ++ [v, .int .u64 n]).toArray 85 (0, 0))
  len : hs.length = 8
theorem IsHash.lt {w : World} {g : Nat} {hs : List Int} {v : Value} {n : Int} (h : IsHash w g hs v n) : g < w.heap.size := blk_lt h.blk
theorem IsHash.cell {w : World} {g : Nat} {hs : List Int} {v : Value} {n : Int} (h : IsHash w g hs v n) (i : Nat) (hi : i < 8) : w.cell? ⟨g, i, none⟩ = some (.int .u32 (hs.getD i 0)) := by
  rw [blk_cell h.blk]
  have hl := h.len
  simp [nums, List.getElem?_append, hl, hi]
theorem IsHash.cell8 {w : World} {g : Nat} {hs : List Int} {v : Value} {n : Int} (h : IsHash w g hs v n) : w.cell? ⟨g, 8, none⟩ = some v := by
  rw [blk_cell h.blk]
  simp [nums, List.getElem?_append, h.len]
theorem IsHash.cell9 {w : World} {g : Nat} {hs : List Int} {v : Value} {n : Int} (h : IsHash w g hs v n) : w.cell? ⟨g, 9, none⟩ = some (.int .u64 n) := by
  rw [blk_cell h.blk]
  simp [nums, List.getElem?_append, h.len]
theorem IsHash.free {w : World} {g : Nat} {hs : List Int} {v : Value} {n : Int} (h : IsHash w g hs v n) (i : Nat) : w.frozen? ⟨g, i, none⟩ = false := blk_frozen h.blk i
theorem IsHash.put {w : World} {g : Nat} {hs : List Int} {v : Value} {n : Int} (h : IsHash w g hs v n) (i : Nat) (hi : i < 8) (x : Int) : IsHash (w.setCell ⟨g, i, none⟩ (.int .u32 x)) g (hs.set i x) v n := by
  refine ⟨?_, by rw [List.length_set]; exact h.len⟩
  rw [blk_set h.blk i (.int .u32 x)]
  have hl := h.len
  simp [nums, List.map_set, List.set_append, hl, hi]
theorem IsHash.put8 {w : World} {g : Nat} {hs : List Int} {v : Value} {n : Int} (h : IsHash w g hs v n) (u : Value) : IsHash (w.setCell ⟨g, 8, none⟩ u) g hs u n := by
  refine ⟨?_, h.len⟩
  rw [blk_set h.blk 8 u]
  simp [nums, List.set_append, h.len]
theorem IsHash.put9 {w : World} {g : Nat} {hs : List Int} {v : Value} {n : Int} (h : IsHash w g hs v n) (m : Int) : IsHash (w.setCell ⟨g, 9, none⟩ (.int .u64 m)) g hs v m := by
  refine ⟨?_, h.len⟩
  rw [blk_set h.blk 9 (.int .u64 m)]
  simp [nums, List.set_append, h.len]
theorem IsHash.kept {w w1 : World} {g : Nat} {hs : List Int} {v : Value} {n : Int} (h : IsHash w g hs v n) (e : w1.heap[g]? = w.heap[g]?) : IsHash w1 g hs v n := ⟨e.trans h.blk, h.len⟩
/-- What is written besides lies behind all that was. -/
theorem keep_beside {w w1 w2 : World} {g g' : Nat} (h : KeepBut w w1 g none) (k : KeepBut w1 w2 g' none) (hg : w.heap.size ≤ g') : KeepBut w w2 g none :=
  ⟨Nat.le_trans h.size k.size, fun i hi hne hr => (k.block i (Nat.lt_of_lt_of_le hi h.size) (by omega) (by simp)).trans (h.block i hi hne hr), k.os.trans h.os, k.tape.trans h.tape, k.output.trans h.output⟩
theorem keep_at {w w1 : World} {g i : Nat} (h : KeepBut w w1 g none) (hi : i < w.heap.size) (hne : i ≠ g) : w1.heap[i]? = w.heap[i]? := h.2 i hi hne (by simp)

/-- The sixteen numbers that are mixed. -/
def veeL (hs : List Int) (n : Int) (last : Bool) : List Int :=
  let L0 := hs ++ firstsL
  let L1 := L0.set 12 (Go.bits .xor .u32 (L0.getD 12 0) (n % 4294967296))
  let L2 := L1.set 13 (Go.bits .xor .u32 (L1.getD 13 0) (n / 4294967296 % 4294967296))
  if last then L2.set 14 (Go.bits .xor .u32 IntKind.u32.max (L2.getD 14 0)) else L2
/-- Where a mixing works, and on what. -/
def mixAt (i j : Nat) : Nat := ((mixesL.getD i []).getD j 0).toNat
def inner (M R V : List Int) : Nat → List Int
  | 0 => V
  | i + 1 => mixL (inner M R V i) (mixAt i 0) (mixAt i 1) (mixAt i 2) (mixAt i 3) (M.getD (R.getD (2 * i) 0).toNat 0) (M.getD (R.getD (2 * i + 1) 0).toNat 0)
def outer (M V : List Int) : Nat → List Int
  | 0 => V
  | r + 1 => inner M (rowsL.getD r []) (outer M V r) 8
/-- Bytes that lie in memory. -/
structure Bytes (w : World) (bb off m : Nat) (b : List Int) : Prop where
  len : b.length = m
  le : m ≤ 9223372036854775807
  cell : ∀ j, j < m → w.cell? ⟨bb, off + j, none⟩ = some (.int .u8 (b.getD j 0))
/-- copy onto a row, as one step of a region that draws. -/
theorem step_copy_row {P : Program} {ops : Array Oper} {o : Oper} {a : Act} {w : World} {K : Act → World → Prop} {Q : Exit → Act → World → Prop} {E : Prop} (hgd : o.guard = none) (d s : Operand) (dT sT : TypeId)
    (ho : o.op = .call { callee := .builtin .copy, args := #[d, s], argTypes := #[dT, sT] }) (elem : TypeId) (hu : P.underlying dT = some (.slice elem)) (hsz : (P.info? elem).map (·.size) = some 1)
    (g off dLen dCap : Nat) (ad : Addr) (sLen sCap : Nat) (hd : a.eval d = .slice (some ⟨g, off, none⟩) dLen dCap) (hs : a.eval s = .slice (some ad) sLen sCap)
    (cur : List Value) (t : TypeId) (hg : w.heap[g]? = some (.cells cur.toArray t (0, 0))) (cs : List Value) (hn : cs.length = Nat.min sLen dLen)
    (hsrc : ∀ j v, cs[j]? = some v → w.cell? (ad.add j) = some v) (hfit : off + cs.length ≤ cur.length) (h1 : ∀ v ∈ cs, v.oneCell' = true)
    (h : K (a.put o.dst (goInt cs.length)) (w.setRow g (Go.splice cur off cs).toArray)) :
    if Region.wanted o (yielded ops a.tmps) = true then Oper.wp P o a w K Q else E := by
  have hw : Region.wanted o (yielded ops a.tmps) = true := by simp [Region.wanted, hgd]
  rw [if_pos hw]
  have hrun := run_copy_row (P := P) w dT sT o.type elem g off dLen dCap ad sLen sCap cur.toArray t cs hu hsz hg hn hsrc (by simpa using hfit) h1
  unfold Oper.wp
  simp [execOp, ho, resolve, invoke, builtin, hd, hs, hrun, Result.andThen]
  have h2 : K (a.put o.dst (goInt cs.length)) (w.setRow g (List.take off cur ++ (cs ++ List.drop (off + cs.length) cur)).toArray) := by simpa [Go.splice] using h
  exact h2
/-- A word of four bytes. -/
def wordAt (b : List Int) (i : Nat) : Int := Go.bits .or .u32 (Go.bits .or .u32 (Go.bits .or .u32 (b.getD (4 * i) 0) (b.getD (4 * i + 1) 0 * 256)) (b.getD (4 * i + 2) 0 * 65536)) (b.getD (4 * i + 3) 0 * 16777216)
def wordsL (b : List Int) : List Int := (List.range 16).map (wordAt b)
/-- What holds when k words are read. -/
def TWords (B : Nat) (b : List Int) (k : Nat) (w wr : World) : Prop :=
  Below w.heap.size w wr ∧ IsU wr B 102 ((wordsL b).take k ++ List.replicate (16 - k) 0)
/-- What lies in memory while a block is mixed in. -/
structure TS (w W : World) (g B V : Nat) (hs : List Int) (v : Value) (n : Int) (M L : List Int) : Prop where
  keep : KeepBut w W g none
  hash : IsHash W g hs v n
  words : IsU W B 102 M
  vee : IsU W V 102 L
  ge : w.heap.size ≤ B
  lt : B < V
  glt : g < w.heap.size
section
variable {w W W1 : World} {g B V : Nat} {hs : List Int} {v : Value} {n : Int} {M L L1 : List Int}
theorem TS.drew (h : TS w W g B V hs v n M L) : TS w W.drew g B V hs v n M L := ⟨keep_drew h.keep, ⟨h.hash.blk, h.hash.len⟩, h.words, h.vee, h.ge, h.lt, h.glt⟩
theorem TS.below (h : TS w W g B V hs v n M L) (hb : Below W.heap.size W W1) : TS w W1 g B V hs v n M L :=
  ⟨keep_beside h.keep (KeepBut.of_below hb W.heap.size none) h.keep.1, h.hash.kept (hb.block g h.hash.lt), blk_below h.words hb, blk_below h.vee hb, h.ge, h.lt, h.glt⟩
theorem TS.alloc (h : TS w W g B V hs v n M L) (o : Obj) : TS w (W.alloc o) g B V hs v n M L := h.below (below_alloc (Below.refl _ _) o)
theorem TS.mixed (h : TS w W g B V hs v n M L) (hk : KeepBut W W1 V none) (hv : IsU W1 V 102 L1) : TS w W1 g B V hs v n M L1 :=
  ⟨keep_beside h.keep hk (by have := h.ge; have := h.lt; omega), h.hash.kept (keep_at hk h.hash.lt (by have := h.ge; have := h.lt; have := h.glt; omega)), (keep_at hk h.words.lt (by have := h.lt; omega)).trans h.words, hv, h.ge, h.lt, h.glt⟩
theorem TS.setV (h : TS w W g B V hs v n M L) (i : Nat) (x : Int) : TS w (W.setCell ⟨V, i, none⟩ (.int .u32 x)) g B V hs v n M (L.set i x) := h.mixed ((KeepBut.refl W V none).set_ i _) (h.vee.put i x)
theorem TS.rowV (h : TS w W g B V hs v n M L) (L1 : List Int) : TS w (W.setRow V (nums .u32 L1).toArray) g B V hs v n M L1 :=
  h.mixed ⟨by simp [World.setRow], fun i hi hne _ => setRow_other W V i _ hne, rfl, rfl, rfl⟩ (setRow_heap _ _ _ _ _ _ h.vee)
theorem TS.setH (h : TS w W g B V hs v n M L) (i : Nat) (hi : i < 8) (x : Int) : TS w (W.setCell ⟨g, i, none⟩ (.int .u32 x)) g B V (hs.set i x) v n M L :=
  ⟨h.keep.set_ i _, h.hash.put i hi x, blk_far h.words (by have := h.ge; have := h.glt; simp; omega) _, blk_far h.vee (by have := h.ge; have := h.lt; have := h.glt; simp; omega) _, h.ge, h.lt, h.glt⟩
end
theorem splice_first (hs : List Int) (hl : hs.length = 8) : Go.splice (nums .u32 [0, 0, 0, 0, 0, 0, 0, 0, 0, 0, 0, 0, 0, 0, 0, 0]) 0 (nums .u32 hs) = nums .u32 (hs ++ List.replicate 8 0) := by
  simp [Go.splice, nums, hl]
theorem splice_last (hs fs : List Int) (hl : hs.length = 8) (hf : fs.length = 8) : Go.splice (nums .u32 (hs ++ [0, 0, 0, 0, 0, 0, 0, 0])) 8 (nums .u32 fs) = nums .u32 (hs ++ fs) := by
  simp [Go.splice, nums, hl, hf]
theorem nums_one (L : List Int) : ∀ v ∈ nums .u32 L, v.oneCell' = true := by
  intro v hv
  obtain ⟨x, _, rfl⟩ := List.mem_map.1 hv
  rfl
theorem copy_src {w : World} {g : Nat} {hs : List Int} {v : Value} {n : Int} (h : IsHash w g hs v n) : ∀ j u, (nums .u32 hs)[j]? = some u → w.drew.cell? ((⟨g, 0, none⟩ : Addr).add j) = some u := by
  intro j u hj
  rw [add_plain]
  have hl : j < 8 := by
    have := (List.getElem?_eq_some_iff.1 hj).1
    rw [nums_length, h.len] at this
    exact this
  show w.cell? ⟨g, j, none⟩ = some u
  rw [h.cell j hl, ← hj]
  simp [nums, List.getElem?_eq_getElem (show j < hs.length by rw [h.len]; exact hl)]
theorem copy_srcU {w : World} {g t : Nat} {L : List Int} (h : IsU w g t L) : ∀ j u, (nums .u32 L)[j]? = some u → w.drew.cell? ((⟨g, 0, none⟩ : Addr).add j) = some u := by
  intro j u hj
  rw [add_plain]
  have hl : j < L.length := by
    have := (List.getElem?_eq_some_iff.1 hj).1
    rwa [nums_length] at this
  show w.cell? ⟨g, j, none⟩ = some u
  rw [h.cell j hl, ← hj]
  simp [nums, List.getElem?_eq_getElem hl]
def zeros16 : Array Value := (List.replicate 16 (Value.int .u8 0)).toArray
theorem row_len (k : Nat) (hk : k < 10) : (rowsL.getD k []).length = 16 := by
  have hk' : k = 0 ∨ k = 1 ∨ k = 2 ∨ k = 3 ∨ k = 4 ∨ k = 5 ∨ k = 6 ∨ k = 7 ∨ k = 8 ∨ k = 9 := by omega
  rcases hk' with rfl | rfl | rfl | rfl | rfl | rfl | rfl | rfl | rfl | rfl <;> rfl
theorem nums_all (R : List Int) : (nums .u8 R).toArray.all (·.oneCell') = true := by
  simp [nums, List.all_eq_true, Value.oneCell']
theorem row_range (k : Nat) (hk : k < 10) (j : Nat) (hj : j < 16) : ∃ a : Nat, a < 16 ∧ (rowsL.getD k []).getD j 0 = (a : Int) := by
  have h : ∀ k : Fin 10, ∀ j : Fin 16, ((rowsL.getD k.1 []).getD j.1 0).toNat < 16 ∧ (rowsL.getD k.1 []).getD j.1 0 = (((rowsL.getD k.1 []).getD j.1 0).toNat : Int) := by decide +kernel
  exact ⟨_, (h ⟨k, hk⟩ ⟨j, hj⟩).1, (h ⟨k, hk⟩ ⟨j, hj⟩).2⟩
theorem mix_ok (q : Nat) (hq : q < 8) : (mixAt q 0 < 16 ∧ mixAt q 1 < 16 ∧ mixAt q 2 < 16 ∧ mixAt q 3 < 16) ∧ mixAt q 0 ≠ mixAt q 1 ∧ mixAt q 0 ≠ mixAt q 2 ∧ mixAt q 0 ≠ mixAt q 3 ∧ mixAt q 1 ≠ mixAt q 2 ∧ mixAt q 1 ≠ mixAt q 3 ∧ mixAt q 2 ≠ mixAt q 3 := by
  have h : ∀ q : Fin 8, (mixAt q.1 0 < 16 ∧ mixAt q.1 1 < 16 ∧ mixAt q.1 2 < 16 ∧ mixAt q.1 3 < 16) ∧ mixAt q.1 0 ≠ mixAt q.1 1 ∧ mixAt q.1 0 ≠ mixAt q.1 2 ∧ mixAt q.1 0 ≠ mixAt q.1 3 ∧ mixAt q.1 1 ≠ mixAt q.1 2 ∧ mixAt q.1 1 ≠ mixAt q.1 3 ∧ mixAt q.1 2 ≠ mixAt q.1 3 := by decide +kernel
  exact h ⟨q, hq⟩
theorem mixL_len (L : List Int) (i0 i1 i2 i3 : Nat) (x y : Int) : (mixL L i0 i1 i2 i3 x y).length = L.length := by simp [mixL]
theorem inner_len (M R V : List Int) (i : Nat) : (inner M R V i).length = V.length := by
  induction i with
  | zero => rfl
  | succ i ih => rw [inner, mixL_len, ih]
theorem outer_len (M V : List Int) (r : Nat) : (outer M V r).length = V.length := by
  induction r with
  | zero => rfl
  | succ r ih => rw [outer, inner_len, ih]
/-- The numbers behind a block. -/
def finL (hs V : List Int) : List Int := (List.range 8).map fun i => Go.bits .xor .u32 (hs.getD i 0) (Go.bits .xor .u32 (V.getD i 0) (V.getD (i + 8) 0))
/-- The numbers of a hash, a block being mixed in. -/
def compress (hs b : List Int) (n : Int) (last : Bool) : List Int := finL hs (outer (wordsL b) (veeL hs n last) 10)
theorem finL_len (hs V : List Int) : (finL hs V).length = 8 := by simp [finL]
theorem fin_at (F hs : List Int) (j : Nat) (hF : F.length = 8) (hl : hs.length = 8) (hj : j < 8) : (F.take j ++ hs.drop j).getD j 0 = hs.getD j 0 := by
  rw [List.getD_eq_getElem?_getD, List.getD_eq_getElem?_getD, List.getElem?_append_right (by rw [List.length_take]; omega), List.length_take, List.getElem?_drop]
  congr 2
  omega
theorem fin_next (hs V : List Int) (j : Nat) (hl : hs.length = 8) (hj : j < 8) : ((finL hs V).take j ++ hs.drop j).set j (Go.bits .xor .u32 (hs.getD j 0) (Go.bits .xor .u32 (V.getD j 0) (V.getD (j + 8) 0))) = (finL hs V).take (j + 1) ++ hs.drop (j + 1) := by
  have hF := finL_len hs V
  have e : (finL hs V)[j]'(by omega) = Go.bits .xor .u32 (hs.getD j 0) (Go.bits .xor .u32 (V.getD j 0) (V.getD (j + 8) 0)) := by simp [finL]
  have hlt : ((finL hs V).take j).length = j := by rw [List.length_take]; omega
  rw [List.take_succ_eq_append_getElem (by omega), e, List.set_append_right _ _ (by omega), hlt, Nat.sub_self, List.drop_eq_getElem_cons (by omega), List.set_cons_zero, List.append_assoc, List.singleton_append]
theorem fin_end (hs V : List Int) (hl : hs.length = 8) : (finL hs V).take 8 ++ hs.drop 8 = finL hs V := by
  rw [List.take_of_length_le (by rw [finL_len]; exact Nat.le_refl 8), List.drop_eq_nil_of_le (by omega), List.append_nil]
theorem words_len (b : List Int) : (wordsL b).length = 16 := by simp [wordsL]
theorem row_cell {w : World} {g t : Nat} {L : List Int} (h : w.heap[g]? = some (.cells (nums .u8 L).toArray t (0, 0))) (i : Nat) (hi : i < L.length) : w.cell? ⟨g, i, none⟩ = some (.int .u8 (L.getD i 0)) := by
  rw [blk_cell h]
  simp [nums, hi]
theorem byte_at {b : List Int} (h : ∀ x ∈ b, 0 ≤ x ∧ x < 256) {j : Nat} (hj : j < b.length) : 0 ≤ b.getD j 0 ∧ b.getD j 0 < 256 := by
  rw [List.getD_eq_getElem?_getD, List.getElem?_eq_getElem hj]
  exact h _ (List.getElem_mem hj)
theorem TWords_next (b : List Int) (k : Nat) (hk : k < 16) (w wr : World) (h : TWords w.heap.size b k w wr) : TWords w.heap.size b (k + 1) w (wr.setCell ⟨w.heap.size, k, none⟩ (.int .u32 (wordAt b k))) := by
  obtain ⟨hb, h1⟩ := h
  refine ⟨below_set hb (Nat.le_refl _), ?_⟩
  have e := h1.put k (wordAt b k)
  have ea : (wordsL b).getD k 0 = wordAt b k := by simp [wordsL, hk]
  rw [← ea, fill_next (wordsL b) 16 k (by simp [wordsL]) hk] at e
  rw [← ea]
  exact e
end Go.Proofs.YtbeibmdccjgcmaaDoor.Bk
namespace Go.Proofs.YtbeibmdccjgcmaaDoor.Bk
open Go.RowKit Go.Proofs.YtbeibmdccjgcmaaDoorW.PrintWords Go.Proofs.YtbeibmdccjgcmaaDoorW.PrintLast Go.Proofs.YtbeibmdccjgcmaaDoorW.PrintMore
set_option linter.unusedVariables false
set_option linter.unusedSimpArgs false

set_option maxHeartbeats 8000000 in
set_option maxRecDepth 100000 in
theorem take_calls (g : Nat) (hs : List Int) (v : Value) (n : Int) (bb off m c : Nat) (b : List Int) (many : Int) (last : Bool) (w : World) (hH : IsHash w g hs v n) (hb : Bytes w bb off m b) (hm : 64 ≤ m) (hby : ∀ x ∈ b, 0 ≤ x ∧ x < 256) :
    Calls Tryd.prog 60 #[.pointer (some ⟨g, 0, none⟩), .slice (some ⟨bb, off, none⟩) m c, .int .i64 many, .bool last] w fun e w' => e = .returned (.tuple #[]) ∧ IsHash w' g (compress hs b (IntKind.u64.wrap (n + IntKind.u64.wrap many)) last) v (IntKind.u64.wrap (n + IntKind.u64.wrap many)) ∧ KeepBut w w' g none := by
  obtain ⟨hbl, hbm, hbc⟩ := hb
  have HC := Aside0.mk hbc
  clear hbc
  have HBY := Aside0.mk hby
  have HBL := Aside0.mk hbl
  have HH := Aside0.mk hH
  clear hby hH hbl
  go_enter Tryd.func60, Tryd.ntmps60
  go_wp2
  go_outline
  go_loopw [17] (fun i wr => ∃ k : Nat, k ≤ 16 ∧ i = .int .i64 k ∧ TWords w.heap.size b k w wr) (fun i _ => 16 - (intOf i).toNat)
  case atStart => exact ⟨0, Nat.zero_le _, rfl, below_alloc (Below.refl _ _) _, blk_new w _⟩
  case round =>
    obtain ⟨k, hk, rfl, hF⟩ := hrel
    have HF := Aside0.mk hF
    clear hF
    by_cases hlt : k < 16
    · have d0 : decide ((k : Int) < 16) = true := decide_eq_true (by omega)
      have d9 : (k : Int) < 16 := by omega
      have c0 := pw_cell_below HF.out.1 (HC.out (4 * k) (by omega))
      have c1 := pw_cell_below HF.out.1 (HC.out (4 * k + 1) (by omega))
      have c2 := pw_cell_below HF.out.1 (HC.out (4 * k + 2) (by omega))
      have c3 := pw_cell_below HF.out.1 (HC.out (4 * k + 3) (by omega))
      have cm := HF.out.2.cell k (by simp [wordsL]; omega)
      have fm := HF.out.2.free k
      generalize (List.take k (wordsL b) ++ List.replicate (16 - k) 0).getD k 0 = old at cm
      generalize hx0 : b.getD (4 * k) 0 = x0 at c0
      generalize hx1 : b.getD (4 * k + 1) 0 = x1 at c1
      generalize hx2 : b.getD (4 * k + 2) 0 = x2 at c2
      generalize hx3 : b.getD (4 * k + 3) 0 = x3 at c3
      have y0 : 0 ≤ x0 ∧ x0 < 256 := by rw [← hx0]; exact byte_at HBY.out (by rw [HBL.out]; omega)
      have y1 : 0 ≤ x1 ∧ x1 < 256 := by rw [← hx1]; exact byte_at HBY.out (by rw [HBL.out]; omega)
      have y2 : 0 ≤ x2 ∧ x2 < 256 := by rw [← hx2]; exact byte_at HBY.out (by rw [HBL.out]; omega)
      have y3 : 0 ≤ x3 ∧ x3 < 256 := by rw [← hx3]; exact byte_at HBY.out (by rw [HBL.out]; omega)
      have HX := Aside0.mk (And.intro hx0 (And.intro hx1 (And.intro hx2 hx3)))
      clear hx0 hx1 hx2 hx3
      obtain ⟨l0, u0⟩ := y0
      obtain ⟨l1, u1⟩ := y1
      obtain ⟨l2, u2⟩ := y2
      obtain ⟨l3, u3⟩ := y3
      go_wp2
      go_region
      go_wp2
      go_roundw
      case rel =>
        refine ⟨k + 1, by omega, by go_num, ?_⟩
        have e := TWords_next b k hlt w wr HF.out
        unfold wordAt at e
        obtain ⟨e0, e1, e2, e3⟩ := HX.out
        rw [e0, e1, e2, e3] at e
        exact ⟨below_drew e.1, e.2⟩
      case measure => simp [intOf]; omega
    · obtain rfl : k = 16 := by omega
      have d0 : decide (((16 : Nat) : Int) < 16) = false := by decide
      obtain ⟨hB, hM⟩ := HF.out
      have HM := Aside0.mk (show IsU wr w.heap.size 102 (wordsL b) from hM)
      have HB := Aside0.mk hB
      have HS := Aside0.mk (show w.heap.size < wr.heap.size from blk_lt hM)
      have HH1 := Aside0.mk (HH.out.kept (hB.block g HH.out.lt))
      clear hB hM HF
      have n9 := HH1.out.cell9
      have f9 := HH1.out.free 9
      go_wp2
      have E9 := HH1.out.put9 (IntKind.u64.wrap (n + IntKind.u64.wrap many))
      have EM : IsU (wr.setCell ⟨g, 9, none⟩ (.int .u64 (IntKind.u64.wrap (n + IntKind.u64.wrap many)))) w.heap.size 102 (wordsL b) := blk_far HM.out (by have := HH.out.lt; simp; omega) _
      have EV := blk_new (wr.setCell ⟨g, 9, none⟩ (.int .u64 (IntKind.u64.wrap (n + IntKind.u64.wrap many)))) (.cells #[.int .u32 0, .int .u32 0, .int .u32 0, .int .u32 0, .int .u32 0, .int .u32 0, .int .u32 0, .int .u32 0, .int .u32 0, .int .u32 0, .int .u32 0, .int .u32 0, .int .u32 0, .int .u32 0, .int .u32 0, .int .u32 0] 102)
      rw [show (wr.setCell ⟨g, 9, none⟩ (.int .u64 (IntKind.u64.wrap (n + IntKind.u64.wrap many)))).heap.size = wr.heap.size by simp] at EV
      have EK := keep_alloc ((KeepBut.of_below HB.out g none).set_ 9 (.int .u64 (IntKind.u64.wrap (n + IntKind.u64.wrap many)))) (.cells #[.int .u32 0, .int .u32 0, .int .u32 0, .int .u32 0, .int .u32 0, .int .u32 0, .int .u32 0, .int .u32 0, .int .u32 0, .int .u32 0, .int .u32 0, .int .u32 0, .int .u32 0, .int .u32 0, .int .u32 0, .int .u32 0] 102)
      have E9' := Aside0.mk (E9.kept (Below.heap_alloc _ (.cells #[.int .u32 0, .int .u32 0, .int .u32 0, .int .u32 0, .int .u32 0, .int .u32 0, .int .u32 0, .int .u32 0, .int .u32 0, .int .u32 0, .int .u32 0, .int .u32 0, .int .u32 0, .int .u32 0, .int .u32 0, .int .u32 0] 102) g E9.lt))
      have EM' := Aside0.mk (blk_alloc EM (.cells #[.int .u32 0, .int .u32 0, .int .u32 0, .int .u32 0, .int .u32 0, .int .u32 0, .int .u32 0, .int .u32 0, .int .u32 0, .int .u32 0, .int .u32 0, .int .u32 0, .int .u32 0, .int .u32 0, .int .u32 0, .int .u32 0] 102))
      have EV' := Aside0.mk EV
      have EK' := Aside0.mk EK
      clear E9 EM EV EK n9 f9 HH1 HM HB HC
      generalize hn' : IntKind.u64.wrap (n + IntKind.u64.wrap many) = n' at *
      generalize hW : (wr.setCell ⟨g, 9, none⟩ (.int .u64 n')).alloc (.cells #[.int .u32 0, .int .u32 0, .int .u32 0, .int .u32 0, .int .u32 0, .int .u32 0, .int .u32 0, .int .u32 0, .int .u32 0, .int .u32 0, .int .u32 0, .int .u32 0, .int .u32 0, .int .u32 0, .int .u32 0, .int .u32 0] 102) = W at *
      have HW := Aside0.mk hW
      have HN := Aside0.mk hn'
      clear hW hn'
      generalize hV : wr.heap.size = V at *
      have HVe := Aside0.mk hV
      clear hV
      have T0 := Aside0.mk (show TS w W g w.heap.size V hs v n' (wordsL b) (List.replicate 16 0) from ⟨EK'.out, E9'.out, EM'.out, EV'.out, Nat.le_refl _, by have := HS.out; have := HVe.out; omega, HH.out.lt⟩)
      clear EK' EM' EV' HW HVe
      have SRC := Aside0.mk (copy_src E9'.out)
      have ROW := Aside0.mk (show W.heap[V]? = some (.cells (nums .u32 (List.replicate 16 0)).toArray 102 (0, 0)) from T0.out.vee)
      have LH := Aside0.mk (show (nums .u32 hs).length = Nat.min 8 16 from by rw [nums_length]; exact HH.out.len)
      have LF := Aside0.mk (show 0 + (nums .u32 hs).length ≤ (nums .u32 (List.replicate 16 0)).length from by rw [nums_length, nums_length, HH.out.len]; decide)
      have L1 := Aside0.mk (nums_one hs)
      go_region_law (refine step_copy_row rfl (.tmp 65) (.tmp 69) 69 69 rfl 71 Tryd.underlying69 (by kernel_rfl) V 0 16 16 ⟨g, 0, none⟩ 8 8 (by simp [Act.eval, Act.put]) (by simp [Act.eval, Act.put]) (nums .u32 (List.replicate 16 0)) 102 ROW.out (nums .u32 hs) LH.out SRC.out LF.out L1.out ?_)
      clear SRC ROW LH LF L1
      rw [splice_first hs HH.out.len]
      have T1 := Aside0.mk (T0.out.drew.rowV (hs ++ List.replicate 8 0))
      clear T0 E9'
      generalize W.drew.setRow V (nums .u32 (hs ++ List.replicate 8 0)).toArray = W1 at *
      go_wp2_with fail
      refine (firsts_calls _).mono ?_
      rintro e W2 ⟨rfl, hb2⟩
      have T2 := Aside0.mk (T1.out.below hb2)
      clear T1 hb2
      have hz : ∀ w, (zeroValue 83).run Tryd.prog w = .ok (.agg #[.int .u32 0, .int .u32 0, .int .u32 0, .int .u32 0, .int .u32 0, .int .u32 0, .int .u32 0, .int .u32 0]) w := fun w => by kernel_rfl
      go_wp2_with (refine wpList_store_rowTo rfl 83 _ _ rfl rfl W2.heap.size (nums .u32 firstsL).toArray rfl rfl 83 #[.int .u32 0, .int .u32 0, .int .u32 0, .int .u32 0, .int .u32 0, .int .u32 0, .int .u32 0, .int .u32 0] (heap_alloc_new W2 _) (by kernel_rfl) (by kernel_rfl) (by kernel_rfl) ?_)
      have T3 := Aside0.mk (T2.out.below (below_row (below_alloc (Below.refl W2.heap.size W2) (.cells #[.int .u32 0, .int .u32 0, .int .u32 0, .int .u32 0, .int .u32 0, .int .u32 0, .int .u32 0, .int .u32 0] 83)) (Nat.le_refl _) (nums .u32 firstsL).toArray))
      have F3 := Aside0.mk (show IsU ((W2.alloc (.cells #[.int .u32 0, .int .u32 0, .int .u32 0, .int .u32 0, .int .u32 0, .int .u32 0, .int .u32 0, .int .u32 0] 83)).setRow W2.heap.size (nums .u32 firstsL).toArray) W2.heap.size 83 firstsL from setRow_heap _ _ _ _ _ _ (blk_new W2 (.cells #[.int .u32 0, .int .u32 0, .int .u32 0, .int .u32 0, .int .u32 0, .int .u32 0, .int .u32 0, .int .u32 0] 83)))
      generalize (W2.alloc (.cells #[.int .u32 0, .int .u32 0, .int .u32 0, .int .u32 0, .int .u32 0, .int .u32 0, .int .u32 0, .int .u32 0] 83)).setRow W2.heap.size (nums .u32 firstsL).toArray = W3 at *
      generalize W2.heap.size = F at *
      clear T2
      have SRC := Aside0.mk (copy_srcU F3.out)
      have ROW := Aside0.mk T3.out.vee
      have L1 := Aside0.mk (nums_one firstsL)
      have LF := Aside0.mk (show 8 + (nums .u32 firstsL).length ≤ (nums .u32 (hs ++ List.replicate 8 0)).length from by rw [nums_length, nums_length, List.length_append, HH.out.len]; decide)
      go_region_law (refine step_copy_row rfl (.tmp 72) (.tmp 73) 69 69 rfl 71 Tryd.underlying69 (by kernel_rfl) V 8 8 8 ⟨F, 0, none⟩ 8 8 (by simp [Act.eval, Act.put]) (by simp [Act.eval, Act.put]) (nums .u32 (hs ++ List.replicate 8 0)) 102 ROW.out (nums .u32 firstsL) rfl SRC.out LF.out L1.out ?_)
      clear SRC ROW LF L1 F3
      rw [splice_last hs firstsL HH.out.len rfl]
      have T4 := Aside0.mk (T3.out.drew.rowV (hs ++ firstsL))
      clear T3
      generalize W3.drew.setRow V (nums .u32 (hs ++ firstsL)).toArray = W4 at *
      obtain ⟨L0, hL0⟩ : ∃ L0, L0 = hs ++ firstsL := ⟨_, rfl⟩
      rw [← hL0] at T4
      have ll : L0.length = 16 := by rw [hL0, List.length_append, HH.out.len]; rfl
      have HL0 := Aside0.mk (And.intro hL0 ll)
      clear hL0
      have a1 := T4.out.vee.cell 12 (by omega)
      have a2 := T4.out.vee.free 12
      have a3 := T4.out.hash.cell9
      clear ll
      generalize hv12 : L0.getD 12 0 = v12 at a1
      have HV12 := Aside0.mk hv12
      clear hv12
      go_wp2
      go_region
      have T5 := Aside0.mk ((T4.out.setV 12 (bits BinOp.xor IntKind.u32 v12 (n' % 4294967296))).drew)
      generalize (W4.setCell ⟨V, 12, none⟩ (.int .u32 (bits BinOp.xor IntKind.u32 v12 (n' % 4294967296)))).drew = W5 at *
      clear T4 a1 a2 a3
      obtain ⟨L1, hL1⟩ : ∃ L1, L1 = L0.set 12 (bits BinOp.xor IntKind.u32 v12 (n' % 4294967296)) := ⟨_, rfl⟩
      rw [← hL1] at T5
      have ll : L1.length = 16 := by rw [hL1, List.length_set]; exact HL0.out.2
      have HL1 := Aside0.mk (And.intro hL1 ll)
      clear hL1
      have a1 := T5.out.vee.cell 13 (by omega)
      have a2 := T5.out.vee.free 13
      have a3 := T5.out.hash.cell9
      clear ll
      generalize hv13 : L1.getD 13 0 = v13 at a1
      have HV13 := Aside0.mk hv13
      clear hv13
      go_wp2
      go_region
      have T6 := Aside0.mk ((T5.out.setV 13 (bits BinOp.xor IntKind.u32 v13 (n' / 4294967296 % 4294967296))).drew)
      generalize (W5.setCell ⟨V, 13, none⟩ (.int .u32 (bits BinOp.xor IntKind.u32 v13 (n' / 4294967296 % 4294967296)))).drew = W6 at *
      clear T5 a1 a2 a3
      obtain ⟨L2, hL2⟩ : ∃ L2, L2 = L1.set 13 (bits BinOp.xor IntKind.u32 v13 (n' / 4294967296 % 4294967296)) := ⟨_, rfl⟩
      rw [← hL2] at T6
      have ll : L2.length = 16 := by rw [hL2, List.length_set]; exact HL1.out.2
      have HL2 := Aside0.mk (And.intro hL2 ll)
      clear hL2
      have a1 := T6.out.vee.cell 14 (by omega)
      have a2 := T6.out.vee.free 14
      clear ll
      generalize hv14 : L2.getD 14 0 = v14 at a1
      have HV14 := Aside0.mk hv14
      clear hv14
      have ixr : ∀ k : Nat, k < 10 → ∀ w, (Instr.index 104 (.agg rowsC) (.int .i64 k)).run Tryd.prog w = .ok (.agg (nums .u8 (rowsL.getD k [])).toArray) w := by
        intro k hk w
        rw [run_index_part 104 103 10 16 rowsC k (.array 16 5) Tryd.underlying104 Tryd.underlying103 rfl (by kernel_rfl) hk w]
        have hk' : k = 0 ∨ k = 1 ∨ k = 2 ∨ k = 3 ∨ k = 4 ∨ k = 5 ∨ k = 6 ∨ k = 7 ∨ k = 8 ∨ k = 9 := by omega
        rcases hk' with rfl | rfl | rfl | rfl | rfl | rfl | rfl | rfl | rfl | rfl <;> rfl
      have ixm : ∀ k : Nat, k < 8 → ∀ w, (Instr.index 107 (.agg mixesC) (.int .i64 k)).run Tryd.prog w = .ok (.agg #[.int .i64 (mixAt k 0), .int .i64 (mixAt k 1), .int .i64 (mixAt k 2), .int .i64 (mixAt k 3)]) w := by
        intro k hk w
        rw [run_index_part 107 106 8 4 mixesC k (.array 4 3) Tryd.underlying107 Tryd.underlying106 rfl (by kernel_rfl) hk w]
        have hk' : k = 0 ∨ k = 1 ∨ k = 2 ∨ k = 3 ∨ k = 4 ∨ k = 5 ∨ k = 6 ∨ k = 7 := by omega
        rcases hk' with rfl | rfl | rfl | rfl | rfl | rfl | rfl | rfl <;> rfl
      have IXR := Aside0.mk ixr
      have IXM := Aside0.mk ixm
      clear ixr ixm
      have hsg : IntKind.u32.signed = false := rfl
      cases last
      case' false =>
        go_wp2_with fail
        obtain ⟨L3, hL3⟩ : ∃ L3, L3 = L2 := ⟨_, rfl⟩
        have T7 := Aside0.mk T6.out
        have HT : Aside0 (L3 = veeL hs n' false ∧ L3.length = 16) := Aside0.mk ⟨by rw [hL3, HL2.out.1, ← HV13.out, HL1.out.1, ← HV12.out, HL0.out.1]; rfl, by rw [hL3]; exact HL2.out.2⟩
        rw [← hL3] at T7
        clear T6 a1 a2 HV14 HL2 HV13 HL1 HV12 HL0 hL3
        generalize W6 = W7 at *
      case' true =>
        go_wp2_with fail
        obtain ⟨L3, hL3⟩ : ∃ L3, L3 = L2.set 14 (bits BinOp.xor IntKind.u32 IntKind.u32.max v14) := ⟨_, rfl⟩
        have T7 := Aside0.mk (T6.out.setV 14 (bits BinOp.xor IntKind.u32 IntKind.u32.max v14))
        have HT : Aside0 (L3 = veeL hs n' true ∧ L3.length = 16) := Aside0.mk ⟨by rw [hL3, ← HV14.out, HL2.out.1, ← HV13.out, HL1.out.1, ← HV12.out, HL0.out.1]; rfl, by rw [hL3, List.length_set]; exact HL2.out.2⟩
        rw [← hL3] at T7
        generalize W6.setCell ⟨V, 14, none⟩ (.int .u32 (bits BinOp.xor IntKind.u32 IntKind.u32.max v14)) = W7 at *
        clear T6 a1 a2 HV14 HL2 HV13 HL1 HV12 HL0 hL3
      all_goals
        refine (rows_calls _).mono ?_
        rintro e W8 ⟨rfl, hb8⟩
        have T8 := Aside0.mk (T7.out.below hb8)
        clear T7 hb8
        go_wp2_with fail
        go_loopw [100] (fun i wr => ∃ k : Nat, k ≤ 10 ∧ i = .int .i64 k ∧ TS w wr g w.heap.size V hs v n' (wordsL b) (outer (wordsL b) L3 k)) (fun i _ => 10 - (intOf i).toNat)
        case atStart => exact ⟨0, Nat.zero_le _, rfl, T8.out⟩
        case round =>
          obtain ⟨k, hk, rfl, hT⟩ := hrel
          have HT8 := Aside0.mk hT
          clear hT T8
          by_cases hlt : k < 10
          · have d1 : decide ((k : Int) < 10) = true := decide_eq_true (by omega)
            have ix := IXR.out k hlt
            obtain ⟨R, hR⟩ : ∃ R, R = rowsL.getD k [] := ⟨_, rfl⟩
            rw [← hR] at ix
            have hr16 : R.length = 16 := by rw [hR]; exact row_len k hlt
            have HR := Aside0.mk (And.intro hR hr16)
            have hz : ∀ w, (zeroValue 103).run Tryd.prog w = .ok (.agg zeros16) w := fun w => by kernel_rfl
            have r1 := Aside0.mk (show (Tryd.prog.info? 103).map (·.size) = some (nums .u8 R).toArray.size from by rw [List.size_toArray, nums_length, hr16]; kernel_rfl)
            have r2 := Aside0.mk (show zeros16.size = (nums .u8 R).toArray.size from by show 16 = _; rw [List.size_toArray, nums_length, hr16])
            have r3 := Aside0.mk (nums_all R)
            clear hR hr16
            go_wp2_with (first | fail | (refine wpList_store_rowTo rfl 103 _ _ rfl rfl wr.heap.size (nums .u8 R).toArray rfl rfl 103 zeros16 (heap_alloc_new wr _) r1.out r2.out r3.out ?_))
            have T9 := Aside0.mk (HT8.out.below (below_row (below_alloc (Below.refl wr.heap.size wr) (.cells zeros16 103)) (Nat.le_refl _) (nums .u8 R).toArray))
            have RB := Aside0.mk (setRow_heap _ _ _ (nums .u8 R).toArray _ _ (blk_new wr (.cells zeros16 103)))
            have GV := Aside0.mk HT8.out.vee.lt
            generalize (wr.alloc (.cells zeros16 103)).setRow wr.heap.size (nums .u8 R).toArray = W9 at *
            generalize wr.heap.size = G at *
            clear r1 r2 r3
            refine (mixes_calls _).mono ?_
            rintro e W10 ⟨rfl, hb10⟩
            have T10 := Aside0.mk (T9.out.below hb10)
            have RB10 := Aside0.mk (blk_below RB.out hb10)
            clear T9 RB hb10 ix HT8
            go_wp2_with fail
            go_loopw [104] (fun i wq => ∃ q : Nat, q ≤ 8 ∧ i = .int .i64 q ∧ TS w wq g w.heap.size V hs v n' (wordsL b) (inner (wordsL b) R (outer (wordsL b) L3 k) q) ∧ wq.heap[G]? = some (.cells (nums .u8 R).toArray 103 (0, 0))) (fun i _ => 8 - (intOf i).toNat)
            case atStart => exact ⟨0, Nat.zero_le _, rfl, T10.out, RB10.out⟩
            case round =>
              obtain ⟨q, hq, rfl, hTq, hRq⟩ := hrel
              have TQ := Aside0.mk hTq
              have RQ := Aside0.mk hRq
              clear hTq hRq T10 RB10
              by_cases hltq : q < 8
              · have d2 : decide ((q : Int) < 8) = true := decide_eq_true (by omega)
                have ix := IXM.out q hltq
                have hmx := mix_ok q hltq
                have HIN : Aside0 (inner (wordsL b) R (outer (wordsL b) L3 k) (q + 1) = mixL (inner (wordsL b) R (outer (wordsL b) L3 k) q) (mixAt q 0) (mixAt q 1) (mixAt q 2) (mixAt q 3) ((wordsL b).getD (R.getD (2 * q) 0).toNat 0) ((wordsL b).getD (R.getD (2 * q + 1) 0).toNat 0)) := Aside0.mk rfl
                generalize mixAt q 0 = m0 at *
                generalize mixAt q 1 = m1 at *
                generalize mixAt q 2 = m2 at *
                generalize mixAt q 3 = m3 at *
                have HMX := Aside0.mk hmx
                clear hmx
                have xa := row_range k hlt (2 * q) (by omega)
                have xb := row_range k hlt (2 * q + 1) (by omega)
                rw [← HR.out.1] at xa xb
                obtain ⟨xn, xlt, hxv⟩ := xa
                obtain ⟨yn, ylt, hyv⟩ := xb
                go_wp2_with fail
                have T11 := Aside0.mk (TQ.out.alloc (.cells #[.int .i64 m0, .int .i64 m1, .int .i64 m2, .int .i64 m3] 106))
                have R11 := Aside0.mk (blk_alloc RQ.out (.cells #[.int .i64 m0, .int .i64 m1, .int .i64 m2, .int .i64 m3] 106))
                have A11 := blk_new wr (.cells #[.int .i64 m0, .int .i64 m1, .int .i64 m2, .int .i64 m3] 106)
                generalize wr.alloc (.cells #[.int .i64 m0, .int .i64 m1, .int .i64 m2, .int .i64 m3] 106) = W11 at *
                generalize wr.heap.size = AT at *
                have p0 : W11.cell? ⟨AT, 0, none⟩ = some (.int .i64 m0) := (blk_cell A11 0).trans rfl
                have p1 : W11.cell? ⟨AT, 1, none⟩ = some (.int .i64 m1) := (blk_cell A11 1).trans rfl
                have p2 : W11.cell? ⟨AT, 2, none⟩ = some (.int .i64 m2) := (blk_cell A11 2).trans rfl
                have p3 : W11.cell? ⟨AT, 3, none⟩ = some (.int .i64 m3) := (blk_cell A11 3).trans rfl
                have rx : W11.cell? ⟨G, 2 * q, none⟩ = some (.int .u8 xn) := by rw [row_cell R11.out (2 * q) (by rw [HR.out.2]; omega), ← hxv]
                have ry : W11.cell? ⟨G, 2 * q + 1, none⟩ = some (.int .u8 yn) := by rw [row_cell R11.out (2 * q + 1) (by rw [HR.out.2]; omega), ← hyv]
                have mx := T11.out.words.cell xn (by rw [words_len]; exact xlt)
                have my := T11.out.words.cell yn (by rw [words_len]; exact ylt)
                have HXY := Aside0.mk (And.intro hxv hyv)
                clear hxv hyv A11 TQ RQ
                have z1 : (xn : Int) < 16 := by omega
                have z2 : (yn : Int) < 16 := by omega
                have z3 : (0 : Int) ≤ xn := by omega
                have z4 : (0 : Int) ≤ yn := by omega
                have z5 : (q : Int) < 8 := by omega
                have z6 : (2 : Int) * q < 16 := by omega
                have z7 : (2 : Int) * q + 1 < 16 := by omega
                have z8 : (0 : Int) ≤ 2 * q := by omega
                have z9 : (0 : Int) ≤ 2 * q + 1 := by omega
                have s3 : (2 * (q : Int)).toNat = 2 * q := by omega
                have s4 : (2 * (q : Int) + 1).toNat = 2 * q + 1 := by omega
                have s1 : IntKind.i64.wrap (2 * (q : Int)) = 2 * q := IntWalk.i64_in _ (by omega)
                have s2 : IntKind.i64.wrap (2 * (q : Int) + 1) = 2 * q + 1 := IntWalk.i64_in _ (by omega)
                go_still_tail 14, (by kernel_rfl)
                clear s1 s2 s3 s4 z8 z9
                change wpList _ _ _ _ _ W11.drew
                have TD := Aside0.mk T11.out.drew
                have RD := Aside0.mk (blk_drew R11.out)
                clear T11 R11 p0 p1 p2 p3 rx ry mx my z1 z2 z3 z4 z5 z6 z7
                generalize W11.drew = W12 at *
                go_wp2_with fail
                refine (mix_calls V 102 (inner (wordsL b) R (outer (wordsL b) L3 k) q) m0 m1 m2 m3 _ _ _ TD.out.vee (by rw [inner_len, outer_len]; exact HT.out.2) HMX.out.1.1 HMX.out.1.2.1 HMX.out.1.2.2.1 HMX.out.1.2.2.2 HMX.out.2.1 HMX.out.2.2.1 HMX.out.2.2.2.1 HMX.out.2.2.2.2.1 HMX.out.2.2.2.2.2.1 HMX.out.2.2.2.2.2.2).mono ?_
                rintro e w1 ⟨rfl, hV, hK⟩
                have T12 := Aside0.mk (TD.out.mixed hK hV)
                have R12 := Aside0.mk ((keep_at hK (blk_lt RD.out) (by have := GV.out; omega)).trans RD.out)
                clear hV hK TD RD
                go_wp2_with fail
                go_roundw
                case rel =>
                  refine ⟨q + 1, by omega, by go_num, ?_, R12.out⟩
                  rw [HIN.out, HXY.out.1, HXY.out.2]
                  exact T12.out
                case measure => simp [intOf]; omega
              · obtain rfl : q = 8 := by omega
                have d2 : decide (((8 : Nat) : Int) < 8) = false := by decide
                go_wp2_with fail
                go_roundw
                case rel => exact ⟨k + 1, by omega, by go_num, by rw [outer, ← HR.out.1]; exact TQ.out⟩
                case measure => simp [intOf]; omega
          · obtain rfl : k = 10 := by omega
            have d1 : decide (((10 : Nat) : Int) < 10) = false := by decide
            go_wp2_with fail
            go_loopw [125] (fun i wr => ∃ j : Nat, j ≤ 8 ∧ i = .int .i64 j ∧ TS w wr g w.heap.size V ((finL hs (outer (wordsL b) L3 10)).take j ++ hs.drop j) v n' (wordsL b) (outer (wordsL b) L3 10)) (fun i _ => 8 - (intOf i).toNat)
            case atStart => exact ⟨0, Nat.zero_le _, rfl, HT8.out⟩
            case round =>
              obtain ⟨j, hj, rfl, hTj⟩ := hrel
              have TJ := Aside0.mk hTj
              clear hTj HT8
              by_cases hltj : j < 8
              · have d2 : decide ((j : Int) < 8) = true := decide_eq_true (by omega)
                have d3 : (j : Int) < 8 := by omega
                have vl : (outer (wordsL b) L3 10).length = 16 := by rw [outer_len]; exact HT.out.2
                have c1 := TJ.out.hash.cell j hltj
                rw [fin_at _ hs j (finL_len _ _) HH.out.len hltj] at c1
                have f1 := TJ.out.hash.free j
                have c2 := TJ.out.vee.cell j (by omega)
                have c3 := TJ.out.vee.cell (j + 8) (by omega)
                clear vl
                generalize hh1 : hs.getD j 0 = h1 at c1
                generalize hh2 : (outer (wordsL b) L3 10).getD j 0 = h2 at c2
                generalize hh3 : (outer (wordsL b) L3 10).getD (j + 8) 0 = h3 at c3
                have HX := Aside0.mk (And.intro hh1 (And.intro hh2 hh3))
                clear hh1 hh2 hh3
                have d4 : (j : Int) + 8 < 16 := by omega
                go_wp2_with fail
                go_region
                have TN := Aside0.mk ((TJ.out.setH j hltj (bits BinOp.xor IntKind.u32 h1 (bits BinOp.xor IntKind.u32 h2 h3))).drew)
                go_wp2_with fail
                go_roundw
                case rel =>
                  refine ⟨j + 1, by omega, by go_num, ?_⟩
                  have e := TN.out
                  rw [← HX.out.1, ← HX.out.2.1, ← HX.out.2.2, fin_next hs _ j HH.out.len hltj] at e
                  rw [← HX.out.1, ← HX.out.2.1, ← HX.out.2.2]
                  exact e
                case measure => simp [intOf]; omega
              · obtain rfl : j = 8 := by omega
                have d2 : decide (((8 : Nat) : Int) < 8) = false := by decide
                go_wp2_with fail
                go_end0
                have e := TJ.out.hash
                rw [fin_end hs _ HH.out.len, HT.out.1] at e
                exact ⟨rfl, by rw [HN.out]; exact e, TJ.out.keep⟩
end Go.Proofs.YtbeibmdccjgcmaaDoor.Bk
namespace Go.Proofs.YtbeibmdccjgcmaaDoor.Bk
open Go.RowKit Go.Proofs.YtbeibmdccjgcmaaDoorW.PrintWords Go.Proofs.YtbeibmdccjgcmaaDoorW.PrintLast Go.Proofs.YtbeibmdccjgcmaaDoorW.PrintMore
set_option linter.unusedVariables false
set_option linter.unusedSimpArgs false

/-- The bytes of a text, as numbers. -/
def strL (s : ByteArray) : List Int := s.data.toList.map fun b => (b.toNat : Int)
theorem strL_len (s : ByteArray) : (strL s).length = s.size := by rw [strL, List.length_map, Array.length_toList]; rfl
theorem strL_cells (s : ByteArray) : Lib.strCells s = nums .u8 (strL s) := by simp [Lib.strCells, nums, strL]
theorem strL_by (s : ByteArray) : ∀ x ∈ strL s, 0 ≤ x ∧ x < 256 := by
  intro x hx
  obtain ⟨b, _, rfl⟩ := List.mem_map.1 hx
  have := b.toNat_lt
  omega
/-- A slice whose bytes are b. -/
def Holds (w : World) (A : Option Addr) (b : List Int) : Prop :=
  (A = none ∧ b = []) ∨ ∃ bb off, A = some ⟨bb, off, none⟩ ∧ bb < w.heap.size ∧ ∀ j u, (nums .u8 b)[j]? = some u → w.cell? ⟨bb, off + j, none⟩ = some u
/-- It lies in no block below n, or where it lay. -/
def Moved (n : Nat) (A A' : Option Addr) : Prop := A' = A ∨ ∀ bb off, A' = some ⟨bb, off, none⟩ → n ≤ bb
section
variable {P : Program} {w : World}
theorem holds_new (w : World) (e : TypeId) (ys : List Int) (rest : List Value) : Holds (w.alloc (.cells (nums .u8 ys ++ rest).toArray e)) (some ⟨w.heap.size, 0, none⟩) ys := by
  refine .inr ⟨_, 0, rfl, by simp, fun j u hj => ?_⟩
  rw [Nat.zero_add, blk_cell (blk_new w _), List.getElem?_toArray, List.getElem?_append_left (List.getElem?_eq_some_iff.1 hj).1, hj]
theorem moved_new {n : Nat} {A : Option Addr} : Moved n A (some ⟨n, 0, none⟩) := .inr fun x y hxy => by injection hxy with h; injection h with h; omega
theorem app_string (t u ty e : TypeId) (i : TypeInfo) (ht : P.underlying t = some (.slice e)) (hu : P.underlying u = some .string) (hi : P.info? e = some i) (hz : i.zero = some (.int .u8 0)) (hs1 : i.size = 1) (hby : i.bytes = 1)
    (A : Option Addr) (b : List Int) (hA : Holds w A b) (s : ByteArray) (hl : b.length + s.size ≤ 140737488355328) :
    ∃ A' c w', (Builtin.append_ #[t, u] ty #[.slice A b.length b.length, .string s]).run P w = .ok (.slice A' (b ++ strL s).length c) w' ∧ (b ++ strL s).length ≤ c ∧ Below w.heap.size w w' ∧ Holds w' A' (b ++ strL s) ∧ Moved w.heap.size A A' := by
  by_cases hm : s.size = 0
  · have hn : strL s = [] := List.eq_nil_of_length_eq_zero (by rw [strL_len]; exact hm)
    rw [hn, List.append_nil]
    refine ⟨A, b.length, w, ?_, Nat.le_refl _, Below.refl _ _, hA, .inl rfl⟩
    have hf := Lib.run_firstCells_string (P := P) w 1 s
    have hnc : Lib.strCells s = [] := by rw [strL_cells, hn]; rfl
    rw [hnc] at hf
    have hst : ∀ a, (storeCells a ([] : List Value)).run P w = .ok () w := fun a => by simp [storeCells]
    rw [hm] at hf
    rcases A with _ | ad
    · simp [Builtin.append_, run_underlying ht, run_underlying hu, sizeOf, typeInfo, hi, hs1, Builtin.lenOf, hm, hf]
    · simp [Builtin.append_, run_underlying ht, run_underlying hu, sizeOf, typeInfo, hi, hs1, Builtin.lenOf, hm, hf, hst]
  · have hel : (b ++ strL s).length = b.length + s.size := by rw [List.length_append, strL_len]
    have hcells : ∀ k, (nums .u8 b).toArray ++ (Lib.strCells s).toArray ++ Builtin.zeroCells (Value.int .u8 0).cells k = ((nums .u8 (b ++ strL s)) ++ (Builtin.zeroCells (Value.int .u8 0).cells k).toList).toArray := by
      intro k
      rw [strL_cells]
      apply Array.ext'
      simp [nums]
    rcases hA with ⟨rfl, rfl⟩ | ⟨bb, off, rfl, hlt, hc⟩
    · have hr := run_append_nil_string (P := P) w t u ty e i (.int .u8 0) ht hu hi hz s (by omega) (by simp at hl; omega) (by rw [hby]; simp at hl; omega)
      have hcn : ∀ k, s.data.map (fun b => Value.int .u8 b.toNat) ++ Builtin.zeroCells (Value.int .u8 0).cells k = ((nums .u8 (strL s)) ++ (Builtin.zeroCells (Value.int .u8 0).cells k).toList).toArray := by
        intro k
        apply Array.ext'
        simp [nums, strL]
      rw [hcn] at hr
      refine ⟨_, _, _, by rw [List.nil_append, strL_len]; exact hr, ?_, below_alloc (below_drew (Below.refl _ _)) _, ?_, moved_new⟩
      · rw [List.nil_append, strL_len]; exact grownCap_ge w s.size 0 e
      · exact holds_new w.drew e (strL s) _
    · have hr := Lib.run_append_grow_string (P := P) w t u ty e i (.int .u8 0) ht hu hi hz ⟨bb, off, none⟩ b.length b.length (nums .u8 b) (by rw [hs1, nums_length]; omega) (fun j v hv => by rw [Addr.add_lit]; exact hc j v hv) s (by omega) (by omega) (by rw [hby]; exact growslice_fits (by omega) (by omega))
      rw [hcells] at hr
      refine ⟨_, _, _, by rw [hel]; exact hr, ?_, below_alloc (below_drew (Below.refl _ _)) _, ?_, moved_new⟩
      · rw [hel]; exact grownCap_ge w (b.length + s.size) b.length e
      · exact holds_new w.drew e (b ++ strL s) _
theorem app_zeros (t u ty e : TypeId) (i : TypeInfo) (k : IntKind) (ht : P.underlying t = some (.slice e)) (hu : P.underlying u = some (.int k)) (hi : P.info? e = some i) (hz : i.zero = some (.int .u8 0)) (hs1 : i.size = 1) (hby : i.bytes = 1)
    (A : Option Addr) (b : List Int) (hA : Holds w A b) (m : Nat) (hb : b.length + m = 64) :
    ∃ A' c w', (Builtin.append_ #[t, u] ty #[.slice A b.length b.length, .int .i64 m]).run P w = .ok (.slice A' (b ++ List.replicate m 0).length c) w' ∧ (b ++ List.replicate m 0).length ≤ c ∧ Below w.heap.size w w' ∧ Holds w' A' (b ++ List.replicate m 0) := by
  have hw : IntKind.i64.wrap (m : Int) = m := IntWalk.i64_in _ (by omega)
  have hneg : ¬ ((m : Int) < 0) := by omega
  have hbig : ¬ ((m : Int) * 1 > 2 ^ 48) := by omega
  have hst : ∀ a, (storeCells a ([] : List Value)).run P w = .ok () w := fun a => by simp [storeCells]
  have hw0 : IntKind.i64.wrap 0 = 0 := by decide
  by_cases hm : m = 0
  · subst hm
    refine ⟨A, b.length, w, ?_, by simp, Below.refl _ _, by simpa using hA⟩
    rcases A with _ | ad
    · simp [Builtin.append_, run_underlying ht, run_underlying hu, sizeOf, typeInfo, hi, hs1, hby, asInt, asIntOf, hw0]
    · simp [Builtin.append_, run_underlying ht, run_underlying hu, sizeOf, typeInfo, hi, hs1, hby, asInt, asIntOf, hst, hw0]
  · have hn : ¬ (b.length + m ≤ b.length) := by omega
    have h63 : ¬ (9223372036854775807 < (b.length : Int) + (m : Int)) := by omega
    have h48 : ¬ (281474976710656 < Builtin.nextslicecap (b.length + m) b.length) := by
      have := growslice_fits (need := b.length + m) (old := b.length) (bytes := 1) (by omega) (by omega)
      omega
    have hm48 : ¬ ((281474976710656 : Int) < (m : Int)) := by omega
    have hzc : Builtin.zeroCells (Value.int .u8 0).cells m = (nums .u8 (List.replicate m 0)).toArray := by
      apply Array.ext'
      apply List.ext_getElem
      · simp [Builtin.zeroCells, nums, Value.cells]
      · intro j h1 h2
        simp [Builtin.zeroCells, nums, Value.cells, Nat.mod_one]
    have hf : (Builtin.firstCells 1 b.length (.slice A b.length b.length)).run P w.drew = .ok (nums .u8 b).toArray w.drew := by
      rcases hA with ⟨rfl, rfl⟩ | ⟨bb, off, rfl, hlt, hc⟩
      · exact run_firstCells_none ..
      · exact run_firstCells_some (P := P) w.drew 1 b.length ⟨bb, off, none⟩ b.length b.length (nums .u8 b) (by rw [nums_length]; omega) (fun j v hv => by rw [Addr.add_lit]; exact hc j v hv)
    refine ⟨some ⟨w.heap.size, 0, none⟩, grownCap w (b.length + m) b.length e, w.drew.alloc (.cells (nums .u8 (b ++ List.replicate m 0) ++ (Builtin.zeroCells (Value.int .u8 0).cells (grownCap w (b.length + m) b.length e - (b.length + m))).toList).toArray e), ?_, ?_, below_alloc (below_drew (Below.refl _ _)) _, ?_⟩
    · simp [Builtin.append_, run_underlying ht, run_underlying hu, sizeOf, typeInfo, zeroValue, hi, hz, hs1, hby, asInt, asIntOf, hw, hn, h63, h48, hm, hm48, hneg, hf, Question.forced, newRow, grownCap]
      congr 2
      rw [hzc]
      apply Array.ext'
      simp [nums]
    · rw [List.length_append, List.length_replicate]; exact grownCap_ge w (b.length + m) b.length e
    · exact holds_new w.drew e (b ++ List.replicate m 0) _
end
end Go.Proofs.YtbeibmdccjgcmaaDoor.Bk
namespace Go.Proofs.YtbeibmdccjgcmaaDoor.Bk
open Go.RowKit Go.Proofs.YtbeibmdccjgcmaaDoorW.PrintWords Go.Proofs.YtbeibmdccjgcmaaDoorW.PrintLast Go.Proofs.YtbeibmdccjgcmaaDoorW.PrintMore
set_option linter.unusedVariables false
set_option linter.unusedSimpArgs false

/-- A hash in memory: its numbers, the bytes that are not mixed in yet, how many were. -/
structure HS (w : World) (g : Nat) (hs b : List Int) (n : Int) : Prop where
  ex : ∃ A c, IsHash w g hs (.slice A b.length c) n ∧ b.length ≤ c ∧ Holds w A b ∧ ∀ bb off, A = some ⟨bb, off, none⟩ → bb ≠ g
  by_ : ∀ x ∈ b, 0 ≤ x ∧ x < 256
theorem HS.lt {w : World} {g : Nat} {hs b : List Int} {n : Int} (h : HS w g hs b n) : g < w.heap.size := by
  obtain ⟨A, c, h1, _⟩ := h.ex
  exact h1.lt
/-- What follows, as long as there is more than a block. -/
def run : Nat → List Int → List Int → Int → List Int × List Int × Int
  | 0, hs, b, n => (hs, b, n)
  | k + 1, hs, b, n => if 64 < b.length then run k (compress hs (b.take 64) (IntKind.u64.wrap (n + IntKind.u64.wrap 64)) false) (b.drop 64) (IntKind.u64.wrap (n + IntKind.u64.wrap 64)) else (hs, b, n)
def runF (hs b : List Int) (n : Int) : List Int × List Int × Int := run b.length hs b n
theorem run_enough (k : Nat) : ∀ (hs b : List Int) (n : Int), b.length ≤ k → run k hs b n = runF hs b n := by
  induction k using Nat.strongRecOn with
  | _ k ih =>
    intro hs b n hk
    unfold runF
    cases k with
    | zero =>
      have h : b.length = 0 := by omega
      rw [h]
    | succ k =>
      by_cases h : 64 < b.length
      · obtain ⟨m, hm⟩ : ∃ m, b.length = m + 1 := ⟨b.length - 1, by omega⟩
        rw [hm, run, run, if_pos h, if_pos h, ih k (by omega) _ _ _ (by rw [List.length_drop]; omega), ih m (by omega) _ _ _ (by rw [List.length_drop]; omega)]
      · rw [run, if_neg h]
        cases hb : b.length with
        | zero => rfl
        | succ m => rw [run, if_neg h]
theorem runF_more (hs b : List Int) (n : Int) (h : 64 < b.length) : runF (compress hs (b.take 64) (IntKind.u64.wrap (n + IntKind.u64.wrap 64)) false) (b.drop 64) (IntKind.u64.wrap (n + IntKind.u64.wrap 64)) = runF hs b n := by
  obtain ⟨m, hm⟩ : ∃ m, b.length = m + 1 := ⟨b.length - 1, by omega⟩
  conv => rhs; unfold runF
  rw [hm, run, if_pos h, run_enough m _ _ _ (by rw [List.length_drop]; omega)]
theorem runF_done (hs b : List Int) (n : Int) (h : ¬ 64 < b.length) : runF hs b n = (hs, b, n) := by
  unfold runF
  cases hb : b.length with
  | zero => rfl
  | succ m => rw [run, if_neg h]
/-- A call of the builtin append, as one step of a region that draws. -/
theorem step_app {P : Program} {ops : Array Oper} {o : Oper} {a : Act} {w : World} {K : Act → World → Prop} {Q : Exit → Act → World → Prop} {E : Prop} (hgd : o.guard = none) (d x : Operand) (t u : TypeId)
    (ho : o.op = .call { callee := .builtin .append, args := #[d, x], argTypes := #[t, u] }) (v y : Value) (hd : a.eval d = v) (hx : a.eval x = y) (v' : Value) (w' : World)
    (hr : (Builtin.append_ #[t, u] o.type #[v, y]).run P w = .ok v' w') (h : K (a.put o.dst v') w') :
    if Region.wanted o (yielded ops a.tmps) = true then Oper.wp P o a w K Q else E := by
  have hw : Region.wanted o (yielded ops a.tmps) = true := by simp [Region.wanted, hgd]
  rw [if_pos hw]
  unfold Oper.wp
  simp [execOp, ho, resolve, invoke, builtin, hd, hx, hr, Result.andThen]
  exact h
theorem Holds.kept {w w1 : World} {A : Option Addr} {b : List Int} {g : Nat} (h : Holds w A b) (hk : KeepBut w w1 g none) (hne : ∀ bb off, A = some ⟨bb, off, none⟩ → bb ≠ g) : Holds w1 A b := by
  rcases h with h | ⟨bb, off, rfl, hlt, hc⟩
  · exact .inl h
  · exact .inr ⟨bb, off, rfl, Nat.lt_of_lt_of_le hlt hk.1, fun j u hj => keep_cell hk (hc j u hj) (hne bb off rfl)⟩
/-- While blocks are mixed in. -/
def InAdd (w : World) (g : Nat) (hs all : List Int) (n : Int) (k : Nat) (wr : World) : Prop :=
  ∃ hs' b' n', b'.length = k ∧ k ≤ all.length ∧ HS wr g hs' b' n' ∧ runF hs' b' n' = runF hs all n ∧ KeepBut w wr g none
theorem add_start (hs b : List Int) (n : Int) (s : ByteArray) (w w' : World) (g : Nat) (A A' : Option Addr) (c c' : Nat) (hI : IsHash w g hs (.slice A b.length c) n) (hI1 : IsHash w' g hs (.slice A b.length c) n) (hc' : (b ++ strL s).length ≤ c') (hA' : Holds w' A' (b ++ strL s))
    (hM : Moved w.drew.heap.size A A') (hne : ∀ bb off, A = some ⟨bb, off, none⟩ → bb ≠ g) (hby : ∀ x ∈ b, 0 ≤ x ∧ x < 256) (hB : Below w.drew.heap.size w.drew w') :
    InAdd w g hs (b ++ strL s) n (b ++ strL s).length (w'.setCell ⟨g, 8, none⟩ (.slice A' (b ++ strL s).length c')) := by
  have hne' : ∀ bb off, A' = some ⟨bb, off, none⟩ → bb ≠ g := by
    intro bb off h
    rcases hM with rfl | hM
    · exact hne bb off h
    · have h1 := hM bb off h
      have h2 : g < w.drew.heap.size := hI.lt
      omega
  refine ⟨hs, b ++ strL s, n, rfl, Nat.le_refl _, ⟨⟨A', c', hI1.put8 _, hc', hA'.kept ((KeepBut.refl w' g none).set_ 8 _) hne', hne'⟩, fun x hx => ?_⟩, rfl, ?_⟩
  · rcases List.mem_append.1 hx with h | h
    · exact hby x h
    · exact strL_by s x h
  · exact (show KeepBut w w' g none from ⟨hB.size, fun i hi _ _ => hB.block i hi, hB.os, hB.tape, hB.output⟩).set_ 8 _
theorem bytes_take {w : World} {bb off : Nat} {b : List Int} (hc : ∀ j u, (nums .u8 b)[j]? = some u → w.cell? ⟨bb, off + j, none⟩ = some u) (hl : 64 ≤ b.length) : Bytes w bb off 64 (b.take 64) := by
  refine ⟨by rw [List.length_take]; omega, by omega, fun j hj => hc j _ ?_⟩
  rw [nums, List.getElem?_map, List.getElem?_eq_getElem (show j < b.length by omega), List.getD_eq_getElem?_getD, List.getElem?_take, if_pos hj, List.getElem?_eq_getElem (show j < b.length by omega)]
  rfl
theorem by_take {b : List Int} (h : ∀ x ∈ b, 0 ≤ x ∧ x < 256) (k : Nat) : ∀ x ∈ b.take k, 0 ≤ x ∧ x < 256 := fun x hx => h x (List.mem_of_mem_take hx)
theorem by_drop {b : List Int} (h : ∀ x ∈ b, 0 ≤ x ∧ x < 256) (k : Nat) : ∀ x ∈ b.drop k, 0 ≤ x ∧ x < 256 := fun x hx => h x (List.mem_of_mem_drop hx)
set_option maxHeartbeats 4000000 in
set_option maxRecDepth 100000 in
theorem add_calls (g : Nat) (hs b : List Int) (n : Int) (s : ByteArray) (w : World) (hH : HS w g hs b n) (h64 : b.length ≤ 64) (hsz : s.size ≤ 140737488351232) :
    Calls Tryd.prog 39 #[.pointer (some ⟨g, 0, none⟩), .string s] w fun e w' => e = .returned (.tuple #[]) ∧ HS w' g (runF hs (b ++ strL s) n).1 (runF hs (b ++ strL s) n).2.1 (runF hs (b ++ strL s) n).2.2 ∧ KeepBut w w' g none := by
  obtain ⟨⟨A, c, hI, hc, hA, hne⟩, hby⟩ := hH
  have n8 := hI.cell8
  have f8 := hI.free 8
  obtain ⟨i0, hi, hz0, hz1, hz2⟩ := info_parts (show (Tryd.prog.info? 5).map (fun i => (i.zero, i.size, i.bytes)) = some (some (.int .u8 0), 1, 1) from by kernel_rfl)
  obtain ⟨A', c', w', hr, hc', hB, hA', hM⟩ := app_string (P := Tryd.prog) (w := w.drew) 40 9 40 5 i0 Tryd.underlying40 Tryd.underlying9 hi hz0 hz1 hz2 A b hA s (by omega)
  have HR := Aside0.mk hr
  have I1 := hI.kept (hB.block g hI.lt)
  have m8 := I1.cell8
  have k8 := I1.free 8
  have HI := Aside0.mk hI
  have HI1 := Aside0.mk I1
  have HA := Aside0.mk hA'
  have HM := Aside0.mk hM
  have HB := Aside0.mk hB
  have HNE := Aside0.mk hne
  have HC' := Aside0.mk hc'
  have HBY := Aside0.mk hby
  have q1 : (b.length : Int) ≤ c := by omega
  have q2 : (b.length : Int) ≤ 9223372036854775807 := by omega
  have H64 := Aside0.mk h64
  have HSZ := Aside0.mk hsz
  clear hi hz0 hz1 hz2 hr hc' hB hA' hM hI I1 hA hne hby h64 hsz
  go_enter Tryd.func39, Tryd.ntmps39
  go_upto_region 0 with fail
  go_cut [] from 4 (fun wx => wx = w'.setCell ⟨g, 8, none⟩ (.slice A' (b ++ strL s).length c'))
  case first =>
    go_region_law (refine step_app rfl (.tmp 19) (.tmp 20) 40 9 rfl (.slice A b.length b.length) (.string s) (by simp [Act.eval, Act.put]) (by simp [Act.eval, Act.put]) _ w' HR.out ?_)
    all_goals (go_wp2_with fail; go_meet; simp)
  case rest =>
    subst hcut
    have S0 := Aside0.mk (add_start hs b n s w w' g A A' c c' HI.out HI1.out HC'.out HA.out HM.out HNE.out HBY.out HB.out)
    clear HI HI1 HC' HA HM HNE HB HR n8 f8 m8 k8
    generalize w'.setCell ⟨g, 8, none⟩ (.slice A' (b ++ strL s).length c') = W at *
    have hall : (b ++ strL s).length ≤ 140737488351296 := by have := H64.out; have := HSZ.out; rw [List.length_append, strL_len]; omega
    have HALL := Aside0.mk hall
    clear hall
    generalize hal : b ++ strL s = all at *
    have HAL := Aside0.mk hal
    clear hal
    go_wp2_with fail
    go_loopg [24] all.length (fun k _ wr => InAdd w g hs all n k wr)
    case atStart => exact S0.out
    case round =>
      obtain ⟨hs', b', n', hk, hle, ⟨⟨A1, c1, hI, hc1, hA1, hne1⟩, hby'⟩, hrun, hK⟩ := hrel
      have HK := Aside0.mk hK
      have HRUN := Aside0.mk hrun
      have HI := Aside0.mk hI
      have n8 := hI.cell8
      have hbl : b'.length ≤ 140737488351296 := by have := HALL.out; omega
      by_cases h64 : 64 < b'.length
      · rcases hA1 with ⟨rfl, rfl⟩ | ⟨bb, off, rfl, hlt, hcell⟩
        · exact absurd h64 (by decide)
        have HB := Aside0.mk (bytes_take hcell (by omega) : Bytes wr bb off 64 (b'.take 64))
        have HBY' := Aside0.mk (by_take hby' 64)
        have HCE := Aside0.mk hcell
        have HNE1 := Aside0.mk (hne1 bb off rfl)
        have HBD := Aside0.mk (by_drop hby' 64)
        have HLT := Aside0.mk hlt
        have HKE := Aside0.mk hk
        have HLE := Aside0.mk hle
        clear hcell hne1 hby' hlt hK hrun hI hk hle
        have d0 : decide ((64 : Int) < b'.length) = true := decide_eq_true (by omega)
        have q3 : (64 : Int) ≤ c1 := by omega
        go_wp2_with fail
        refine (take_calls g hs' _ n' bb off 64 c1 (b'.take 64) 64 false _ HI.out HB.out (by omega) HBY'.out).mono ?_
        rintro e w1 ⟨rfl, hI1, hK1⟩
        have m8 := hI1.cell8
        have f8 := hI1.free 8
        have HI1 := Aside0.mk hI1
        have HK1 := Aside0.mk hK1
        clear hI1 hK1
        go_wp2_with fail
        have HN8 := Aside0.mk (HI1.out.put8 (.slice (some ⟨bb, off + 64, none⟩) (b'.length - 64) (c1 - 64)))
        go_roundg (b'.length - 64)
        case measure => have := HKE.out; omega
        case rel =>
          have hdl : (b'.drop 64).length = b'.length - 64 := List.length_drop
          refine ⟨_, b'.drop 64, _, hdl, by have := HLE.out; have := HKE.out; omega, ⟨⟨some ⟨bb, off + 64, none⟩, c1 - 64, by rw [hdl]; exact HN8.out, by omega, ?_, ?_⟩, HBD.out⟩, ?_, ?_⟩
          · refine .inr ⟨bb, off + 64, rfl, by have := HLT.out; have := HK1.out.1; simp; omega, fun j u hj => ?_⟩
            have e : (nums .u8 b')[64 + j]? = some u := by
              rw [← hj, nums, nums, List.map_drop, List.getElem?_drop]
            have e2 := keep_cell HK1.out (HCE.out (64 + j) u e) HNE1.out
            have e3 : off + (64 + j) = off + 64 + j := by omega
            rw [e3] at e2
            exact keep_cell ((KeepBut.refl w1 g none).set_ 8 _) e2 HNE1.out
          · intro x y hxy
            injection hxy with h
            injection h with h1 h2
            subst h1
            exact HNE1.out
          · rw [runF_more hs' b' n' h64]
            exact HRUN.out
          · exact (HK.out.trans HK1.out).set_ 8 _
      · have d0 : decide ((64 : Int) < b'.length) = false := decide_eq_false (by omega)
        have HS1 := Aside0.mk (show HS wr g hs' b' n' from ⟨⟨A1, c1, hI, hc1, hA1, hne1⟩, hby'⟩)
        clear hA1 hne1 hby' hk hrun hK hI hle
        go_wp2_with fail
        go_end0
        have e := HRUN.out
        rw [runF_done hs' b' n' h64] at e
        refine ⟨rfl, ?_, HK.out⟩
        rw [HAL.out, ← e]
        exact HS1.out
end Go.Proofs.YtbeibmdccjgcmaaDoor.Bk
namespace Go.Proofs.YtbeibmdccjgcmaaDoor.Bk
open Go.RowKit Go.Proofs.YtbeibmdccjgcmaaDoorW.PrintWords Go.Proofs.YtbeibmdccjgcmaaDoorW.PrintLast Go.Proofs.YtbeibmdccjgcmaaDoorW.PrintMore
set_option linter.unusedVariables false
set_option linter.unusedSimpArgs false

theorem sizeBuilder : (Tryd.prog.info? 46).map (·.size) = some 2 := by kernel_rfl
set_option maxHeartbeats 1000000 in
set_option maxRecDepth 100000 in
theorem copyCheck_used (b : Nat) (w : World) (h0 : w.cell? ⟨b, 0, none⟩ = some (.pointer (some ⟨b, 0, none⟩))) :
    Calls Tryd.prog 41 #[.pointer (some ⟨b, 0, none⟩)] w fun e w' => e = .returned (.tuple #[]) ∧ w' = w := by
  obtain ⟨j, hj, _⟩ := Option.map_eq_some_iff.1 sizeBuilder
  go_enter Tryd.func41, Tryd.ntmps41
  go_wp2
  rw [Lib.run_neq_ptr_same w _ Tryd.underlying44 hj]
  go_wp2
  go_end0
  exact ⟨rfl, rfl⟩
set_option maxHeartbeats 1000000 in
set_option maxRecDepth 100000 in
theorem copyCheck_fresh (b : Nat) (w : World) (h0 : w.cell? ⟨b, 0, none⟩ = some (.pointer none)) (hsh : w.shape? b = some (46, 2)) (hfz : w.frozen? ⟨b, 0, none⟩ = false) :
    Calls Tryd.prog 41 #[.pointer (some ⟨b, 0, none⟩)] w fun e w' => e = .returned (.tuple #[]) ∧ w' = w.setCell ⟨b, 0, none⟩ (.pointer (some ⟨b, 0, none⟩)) := by
  obtain ⟨j, hj, hjs⟩ := Option.map_eq_some_iff.1 sizeBuilder
  go_enter Tryd.func41, Tryd.ntmps41
  go_wp2
  rw [Lib.run_to_unsafe w ⟨b, 0, none⟩ Tryd.underlying44 Tryd.underlying87 hj (by rw [hjs]; decide) hsh (Nat.zero_lt_succ 1)]
  simp only [Result.andThen]
  rw [Oper.upon_value]
  go_wp2
  rw [run_callFunc_extern Tryd.func62 (by kernel_rfl) (by kernel_rfl) (by kernel_rfl) (e := Extern.AbiNoEscape.same) (by kernel_rfl)]
  rw [Lib.run_noEscape]
  simp only [Result.andThen]
  rw [Oper.upon_value]
  go_wp2
  rw [Lib.run_from_unsafe w ⟨b, 0, none⟩ Tryd.underlying87 Tryd.underlying44 hj hsh (by kernel_rfl)]
  simp only [Result.andThen]
  rw [Oper.upon_value]
  go_wp2
  go_end0
  exact ⟨rfl, rfl⟩
theorem copyCheck (B b : Nat) (bs : List Value) (w : World) (h : Lib.IsBuilder 46 5 B b bs w) :
    Calls Tryd.prog 41 #[.pointer (some ⟨b, 0, none⟩)] w fun e w' => e = .returned (.tuple #[]) ∧ (Lib.BuilderAt 46 5 B b (.pointer (some ⟨b, 0, none⟩)) bs w' ∧ Below B w w') := by
  rcases h with h | h
  · refine (copyCheck_fresh b w h.cell0 h.shape h.frozen0).mono ?_
    rintro e w' ⟨rfl, rfl⟩
    exact ⟨rfl, h.used _, (Below.refl B w).setCell (p := ⟨b, 0, none⟩) h.1 _⟩
  · refine (copyCheck_used b w h.cell0).mono ?_
    rintro e w' ⟨rfl, rfl⟩
    exact ⟨rfl, h, Below.refl B _⟩
theorem infoByte : (Tryd.prog.info? 5).map (fun i => (i.zero, i.size, i.bytes)) = some (some (.int .u8 0), 1, 1) := by kernel_rfl
set_option maxHeartbeats 2000000 in
set_option maxRecDepth 100000 in
theorem writeByte (B b : Nat) (bs : List Value) (c : Int) (w : World) (h : Lib.IsBuilder 46 5 B b bs w) (hlen : bs.length + 1 ≤ 140737488355328) (hBw : B ≤ w.heap.size) :
    Calls Tryd.prog 25 #[.pointer (some ⟨b, 0, none⟩), .int .u8 c] w fun e w' => e = .returned .nilIface ∧ (Lib.BuilderAt 46 5 B b (.pointer (some ⟨b, 0, none⟩)) (bs ++ [.int .u8 c]) w' ∧ Below B w w') := by
  obtain ⟨i0, hi, hz0, hz1, hz2⟩ := info_parts infoByte
  go_enter Tryd.func25, Tryd.ntmps25
  go_wp2_with fail
  refine (copyCheck B b bs _ h).mono ?_
  rintro e w1 ⟨rfl, h1, hb1⟩
  obtain ⟨hB, v, hbk, hown, hne⟩ := h1
  have c0 : w1.cell? ⟨b, 0, none⟩ = some (.pointer (some ⟨b, 0, none⟩)) := by rw [Lib.cell_of_heap hbk]; rfl
  have c1 : w1.cell? ⟨b, 1, none⟩ = some v := by rw [Lib.cell_of_heap hbk]; rfl
  go_wp2_with (at_builtin; refine wpList_append_own _ rfl _ _ 40 rfl B 5 i0 (.int .u8 0) 1 1 Tryd.underlying40 hi hz0 hz1 hz2 rfl (by decide) _ _ _ rfl (hown.alloc _) ⟨w1.heap.size, 0, none⟩ 1 1 [.int .u8 c] rfl rfl ?c1 ?c2 ?c3 ?c4 ?c5 ?_)
  case c1 =>
    intro j u hj
    match j, hj with
    | 0, hj => simp at hj; subst hj; simp [Addr.add]
  case c2 => intro u hu; simp at hu; subst hu; rfl
  case c3 => unfold maxLen; omega
  case c4 => omega
  case c5 => have := hb1.size; simp; omega
  intro v' w2 hown' hgrow _
  have hlt : b < w1.heap.size := blk_lt hbk
  have hb2 : w2.heap[b]? = some (.cells #[.pointer (some ⟨b, 0, none⟩), v] 46 (0, 0)) := by
    rw [hgrow.block b (by simp; omega) (fun e => hne e.symm), Lib.alloc_old w1 _ b hlt]
    exact hbk
  have d0 : w2.cell? ⟨b, 0, none⟩ = some (.pointer (some ⟨b, 0, none⟩)) := by rw [Lib.cell_of_heap hb2]; rfl
  have d1 : w2.cell? ⟨b, 1, none⟩ = some v := by rw [Lib.cell_of_heap hb2]; rfl
  have f1 : w2.frozen? ⟨b, 1, none⟩ = false := Lib.frozen_of_heap hb2 1
  obtain ⟨g, cap, rfl⟩ : ∃ g cap, v' = .slice (some ⟨g, 0, none⟩) (bs.length + 1) cap := by
    rcases hown'.2 with ⟨_, h0⟩ | ⟨g, cap, cur, hv, _⟩
    · omega
    · exact ⟨g, cap, hv⟩
  go_wp2
  go_ret
  refine ⟨rfl, ?_, ?_⟩
  · exact Lib.BuilderAt.put (T := 46) (e := 5) hB hb2 (bs' := bs ++ [.int .u8 c]) (by simpa using hown') (by decide)
  · exact ((hb1.alloc (by have := hb1.size; omega) _).grown hgrow (by have := hb1.size; simp; omega) (fun k hk => (hown.lt k hk).1)).setCell (p := ⟨b, 1, none⟩) hB _
set_option maxHeartbeats 1000000 in
set_option maxRecDepth 100000 in
theorem builderString (B b : Nat) (l : List UInt8) (w : World) (h : Lib.IsBuilder 46 5 B b (Lib.byteCells l) w) (h0 : l ≠ []) :
    Calls Tryd.prog 28 #[.pointer (some ⟨b, 0, none⟩)] w fun e w' => e = .returned (.string ⟨l.toArray⟩) ∧ Below B w w' := by
  obtain ⟨p, hB, v, hbk, hown, hne⟩ : ∃ p, Lib.BuilderAt 46 5 B b p (Lib.byteCells l) w := by
    rcases h with h | h
    · exact ⟨_, h⟩
    · exact ⟨_, h⟩
  have hl0 : l.length ≠ 0 := by simpa using h0
  rw [Lib.byteCells_length] at hown
  obtain ⟨g, cap, cur, rfl, hbg, hg, hnc, hcm, hcs, htake⟩ : ∃ g cap cur, v = .slice (some ⟨g, 0, none⟩) l.length cap ∧ B ≤ g ∧ w.heap[g]? = some (.cells cur 5 (0, 0)) ∧ l.length ≤ cap ∧ cap ≤ maxLen ∧ cur.size = cap * 1 ∧ cur.toList.take (l.length * 1) = Lib.byteCells l := by
    rcases hown.2 with ⟨_, hz⟩ | ⟨g, cap, cur, hv, r⟩
    · exact absurd hz hl0
    · exact ⟨g, cap, cur, hv, r⟩
  have c1 : w.drew.cell? ⟨b, 1, none⟩ = some (.slice (some ⟨g, 0, none⟩) l.length cap) := by
    have : w.drew.heap[b]? = some (.cells #[p, .slice (some ⟨g, 0, none⟩) l.length cap] 46 (0, 0)) := hbk
    rw [Lib.cell_of_heap this]; rfl
  have hSD : (Builtin.unsafeSliceData_ #[40] 67 #[.slice (some ⟨g, 0, none⟩) l.length cap]).run Tryd.prog w.drew = .ok (.pointer (some ⟨g, 0, none⟩)) w.drew :=
    Lib.run_unsafeSliceData_row _ _ _ _ _ _ (by omega)
  have hUS : (Builtin.unsafeString_ #[67, 3] 9 #[.pointer (some ⟨g, 0, none⟩), .int .i64 l.length]).run Tryd.prog w.drew = .ok (.string ⟨l.toArray⟩) (w.drew.freeze ⟨g, 0, none⟩ l.length) := by
    refine Lib.run_unsafeString_row w.drew 67 3 9 5 Tryd.underlying67 (by kernel_rfl) g cur.size (by have hg' : w.drew.heap[g]? = some (.cells cur 5 (0, 0)) := hg; simp [World.shape?, hg']) l h0 (by omega) (by unfold maxLen at hcm; omega) ?_
    intro j x hx
    have := hown.cells (g := g) rfl j (.int .u8 x.toNat) (by simp [Lib.byteCells, hx])
    exact this
  go_enter Tryd.func28, Tryd.ntmps28
  go_wp2
  go_region
  all_goals (go_wp2; go_ret; exact ⟨rfl, Lib.below_freeze (Below.drew (Below.refl B w)) (p := ⟨g, 0, none⟩) hbg _⟩)

end Go.Proofs.YtbeibmdccjgcmaaDoor.Bk
namespace Go.Proofs.YtbeibmdccjgcmaaDoor.Bk
open Go.RowKit Go.Proofs.YtbeibmdccjgcmaaDoorW.PrintWords Go.Proofs.YtbeibmdccjgcmaaDoorW.PrintLast Go.Proofs.YtbeibmdccjgcmaaDoorW.PrintMore
set_option linter.unusedVariables false
set_option linter.unusedSimpArgs false

/-- The first numbers, by how long a key is. -/
def initL (k : Nat) : List Int := firstsL.set 0 (Go.bits .xor .u32 (firstsL.getD 0 0) (Go.bits .xor .u32 16842784 ((k : Int) % 4294967296 * 256 % 4294967296)))
def hashC : Array Value := ((nums .u32 firstsL) ++ [Value.slice none 0 0, Value.int .u64 0]).toArray
/-- What a new hash is. -/
def Made (w : World) (k : Nat) (b : List Int) (e : Ending) (w' : World) : Prop := ∃ g, e = .returned (.pointer (some ⟨g, 0, none⟩)) ∧ HS w' g (initL k) b 0 ∧ w.heap.size ≤ g ∧ Below w.heap.size w w'
set_option maxHeartbeats 2000000 in
set_option maxRecDepth 100000 in
theorem made_none (w : World) : Calls Tryd.prog 59 #[.string ⟨#[]⟩] w (Made w 0 []) := by
  go_enter Tryd.func59, Tryd.ntmps59
  go_wp2_with fail
  refine (firsts_calls _).mono ?_
  rintro e w1 ⟨rfl, hb1⟩
  have HB1 := Aside0.mk hb1
  clear hb1
  go_wp2_with (refine wpList_buildTo rfl 85 _ rfl _ rfl hashC (by kernel_rfl) ?_)
  have I0 : IsHash (w1.alloc (.cells hashC 85)) w1.heap.size firstsL (.slice none 0 0) 0 := ⟨blk_new w1 _, rfl⟩
  have HB2 := Aside0.mk (below_alloc HB1.out (.cells hashC 85))
  have HGE := Aside0.mk HB1.out.size
  generalize w1.alloc (.cells hashC 85) = W at *
  generalize w1.heap.size = G at *
  have c0 := I0.cell 0 (by decide)
  have f0 := I0.free 0
  have HI := Aside0.mk I0
  clear I0 HB1
  generalize hx : firstsL.getD 0 0 = x0 at c0
  have HX := Aside0.mk hx
  clear hx
  go_region
  go_wp2_with fail
  go_ret
  have e : IsHash (W.setCell ⟨G, 0, none⟩ (.int .u32 (bits BinOp.xor IntKind.u32 x0 (bits BinOp.xor IntKind.u32 16842784 0)))) G (initL 0) (.slice none 0 0) 0 := by
    have h := HI.out.put 0 (by decide) (bits BinOp.xor IntKind.u32 x0 (bits BinOp.xor IntKind.u32 16842784 0))
    rw [← HX.out] at h ⊢
    exact h
  exact ⟨G, rfl, ⟨⟨none, 0, ⟨e.blk, e.len⟩, Nat.le_refl 0, .inl ⟨rfl, rfl⟩, fun _ _ h => by cases h⟩, fun x hx => by cases hx⟩, HGE.out, (below_set HB2.out HGE.out).drew⟩
theorem made_cells (m : Nat) : madeCells #[.int .u8 0] m = (nums .u8 (List.replicate m 0)).toArray := by
  apply Array.ext'
  apply List.ext_getElem
  · simp [madeCells, nums]
  · intro j h1 h2
    simp [madeCells, nums, Nat.mod_one]
theorem make64 (m : Nat) (hm : m ≤ 281474976710656) (W : World) : (Instr.makeSlice 40 (.int .i64 (m : Int)) (.int .i64 (m : Int))).run Tryd.prog W = .ok (.slice (some ⟨W.heap.size, 0, none⟩) m m) (W.alloc (.cells (nums .u8 (List.replicate m 0)).toArray 5)) := by
  rw [← made_cells]
  exact print_make 40 5 .u8 1 Tryd.underlying40 infoByte (by decide) m (by omega) W
set_option maxHeartbeats 1000000 in
theorem new_calls (w : World) : Calls Tryd.prog 38 #[] w (Made w 0 []) := by
  go_enter Tryd.func38, Tryd.ntmps38
  go_wp2_with fail
  refine (made_none _).mono ?_
  rintro e w1 ⟨g, rfl, hH, hge, hB⟩
  have HH := Aside0.mk hH
  have HB := Aside0.mk hB
  clear hH hB
  go_wp2_with fail
  go_ret
  exact ⟨g, rfl, HH.out, hge, HB.out⟩
end Go.Proofs.YtbeibmdccjgcmaaDoor.Bk
namespace Go.Proofs.YtbeibmdccjgcmaaDoor.Bk
open Go.RowKit Go.Proofs.YtbeibmdccjgcmaaDoorW.PrintWords Go.Proofs.YtbeibmdccjgcmaaDoorW.PrintLast Go.Proofs.YtbeibmdccjgcmaaDoorW.PrintMore
set_option linter.unusedVariables false
set_option linter.unusedSimpArgs false
end Go.Proofs.YtbeibmdccjgcmaaDoor.Bk
namespace Go.Proofs.YtbeibmdccjgcmaaDoor.Bk
open Go.RowKit Go.Proofs.YtbeibmdccjgcmaaDoorW.PrintWords Go.Proofs.YtbeibmdccjgcmaaDoorW.PrintLast Go.Proofs.YtbeibmdccjgcmaaDoorW.PrintMore
set_option linter.unusedVariables false
set_option linter.unusedSimpArgs false

theorem HS.kept {w w1 : World} {g g' : Nat} {hs b : List Int} {n : Int} (h : HS w g hs b n) (hk : KeepBut w w1 g' none) (hg : g ≠ g') (hb : ∀ A c bb off, IsHash w g hs (.slice A b.length c) n → A = some ⟨bb, off, none⟩ → bb ≠ g') : HS w1 g hs b n := by
  obtain ⟨A, c, h1, h2, h3, h4⟩ := h.ex
  exact ⟨⟨A, c, h1.kept (hk.block g h1.lt hg (by simp)), h2, h3.kept hk (fun bb off e => hb A c bb off h1 e), h4⟩, h.by_⟩
theorem Holds.below {w w1 : World} {A : Option Addr} {b : List Int} (h : Holds w A b) (hb : Below w.heap.size w w1) : Holds w1 A b := by
  rcases h with h | ⟨bb, off, rfl, hlt, hc⟩
  · exact .inl h
  · exact .inr ⟨bb, off, rfl, Nat.lt_of_lt_of_le hlt hb.size, fun j u hj => pw_cell_below hb (hc j u hj)⟩
theorem HS.below {w w1 : World} {g : Nat} {hs b : List Int} {n : Int} (h : HS w g hs b n) (hb : Below w.heap.size w w1) : HS w1 g hs b n := by
  obtain ⟨A, c, h1, h2, h3, h4⟩ := h.ex
  exact ⟨⟨A, c, h1.kept (hb.block g h1.lt), h2, h3.below hb, h4⟩, h.by_⟩
/-- What a copy is. -/
def Copied (w : World) (hs b : List Int) (n : Int) (e : Ending) (w' : World) : Prop := ∃ g Z, e = .returned (.pointer (some ⟨g, 0, none⟩)) ∧ IsHash w' g hs (.slice (some ⟨Z, 0, none⟩) b.length b.length) n ∧ Holds w' (some ⟨Z, 0, none⟩) b ∧ Z ≠ g ∧ (∀ x ∈ b, 0 ≤ x ∧ x < 256) ∧ w.heap.size ≤ g ∧ Below w.heap.size w w'
/-- The bytes have been copied. -/
def Filled (W : World) (Z : Nat) (b : List Int) (wx : World) : Prop := wx.heap[Z]? = some (.cells (nums .u8 b).toArray 5 (0, 0)) ∧ Below Z W wx
theorem splice_all (b : List Int) : Go.splice (nums .u8 (List.replicate b.length 0)) 0 (nums .u8 b) = nums .u8 b := by simp [Go.splice, nums]
theorem u8_one (L : List Int) : ∀ v ∈ nums .u8 L, v.oneCell' = true := by
  intro v hv
  obtain ⟨x, _, rfl⟩ := List.mem_map.1 hv
  rfl
theorem holds_lt {w : World} {A : Option Addr} {b : List Int} (h : Holds w A b) : ∀ bb off, A = some ⟨bb, off, none⟩ → bb < w.heap.size := by
  intro bb off e
  rcases h with ⟨rfl, _⟩ | ⟨x, y, rfl, hlt, _⟩
  · cases e
  · injection e with e
    injection e with e1 e2
    omega
theorem copy_from {w : World} {A : Option Addr} {b : List Int} (h : Holds w A b) (Z : Nat) : 0 < (nums .u8 b).length → some ⟨Z, 0, none⟩ = some (⟨Z, 0, none⟩ : Addr) ∧ ∃ ad, A = some ad ∧ ∀ j v, (nums .u8 b)[j]? = some v → w.drew.cell? (ad.add j) = some v := by
  intro hp
  rcases h with ⟨rfl, rfl⟩ | ⟨x, y, rfl, hlt, hc⟩
  · simp [nums] at hp
  · exact ⟨rfl, _, rfl, fun j v hj => by rw [Addr.add_lit]; exact hc j v hj⟩
set_option maxHeartbeats 2000000 in
set_option maxRecDepth 100000 in
theorem copy_calls (g : Nat) (hs b : List Int) (n : Int) (w : World) (hH : HS w g hs b n) (h64 : b.length ≤ 64) : Calls Tryd.prog 61 #[.pointer (some ⟨g, 0, none⟩)] w (Copied w hs b n) := by
  obtain ⟨⟨A, c, hI, hc, hA, hne⟩, hby⟩ := hH
  have HI := Aside0.mk hI
  have HA := Aside0.mk hA
  have HBY := Aside0.mk hby
  have HL := Aside0.mk h64
  have hlt := hI.lt
  have c8 := hI.cell8
  have hcs : ((nums .u32 hs) ++ [Value.slice A b.length c, .int .u64 n]).toArray.size = 10 := by rw [List.size_toArray, List.length_append, nums_length, hI.len]; rfl
  obtain ⟨C, hC⟩ : ∃ C, C = ((nums .u32 hs) ++ [Value.slice A b.length c, .int .u64 n]).toArray := ⟨_, rfl⟩
  have hblk : w.heap[g]? = some (.cells C 85 (0, 0)) := by rw [hC]; exact hI.blk
  rw [← hC] at hcs
  have r1 := Aside0.mk (show (Tryd.prog.info? 85).map (·.size) = some C.size from by rw [hcs]; kernel_rfl)
  have r2 := Aside0.mk (show (10 : Nat) = C.size from hcs.symm)
  have r3 := Aside0.mk (show C.all (·.oneCell') = true from by rw [hC]; simp [nums, List.all_eq_true, Value.oneCell'])
  have HBK := Aside0.mk hblk
  have HC := Aside0.mk hC
  have HNE := Aside0.mk hne
  have q1 : (b.length : Int) ≤ c := by omega
  clear hI hA hne hby hcs hC hblk
  have hmk := make64 b.length (by omega)
  clear h64
  go_enter Tryd.func61, Tryd.ntmps61
  go_upto_region 4 with (first | (refine wpList_load_row rfl 85 _ rfl g rfl 85 C (0, 0) (.struct _) HBK.out Tryd.underlying85 rfl r1.out ?_) | (refine wpList_store_rowTo rfl 85 _ _ rfl rfl w.heap.size C rfl rfl 85 _ (heap_alloc_new w _) r1.out r2.out r3.out ?_))
  have B1 := below_row (below_alloc (Below.refl w.heap.size w) (.cells #[.int .u32 0, .int .u32 0, .int .u32 0, .int .u32 0, .int .u32 0, .int .u32 0, .int .u32 0, .int .u32 0, .slice none 0 0, .int .u64 0] 85)) (Nat.le_refl _) C
  have N1 := setRow_heap _ _ _ C _ _ (blk_new w (.cells #[.int .u32 0, .int .u32 0, .int .u32 0, .int .u32 0, .int .u32 0, .int .u32 0, .int .u32 0, .int .u32 0, .slice none 0 0, .int .u64 0] 85))
  generalize (w.alloc (.cells #[.int .u32 0, .int .u32 0, .int .u32 0, .int .u32 0, .int .u32 0, .int .u32 0, .int .u32 0, .int .u32 0, .slice none 0 0, .int .u64 0] 85)).setRow w.heap.size C = W at *
  have I1 := HI.out.kept (B1.block g hlt)
  have I2 : IsHash W w.heap.size hs (.slice A b.length c) n := ⟨by rw [N1, HC.out], HI.out.len⟩
  clear c8
  have c8 := I1.cell8
  have d8 := I2.free 8
  have e8 := I2.cell8
  have hne : w.heap.size ≠ g := by omega
  have hW : w.heap.size < W.heap.size := I2.lt
  have I1 := Aside0.mk I1
  have I2 := Aside0.mk I2
  have B1 := Aside0.mk B1
  clear N1
  generalize hG : w.heap.size = G at *
  have HG := Aside0.mk hG
  clear hG
  go_upto_region 5 with fail
  have E0 := I2.out.put8 (.slice (some ⟨W.heap.size, 0, none⟩) b.length b.length)
  have E1 := E0.kept (Below.heap_alloc _ (.cells (nums .u8 (List.replicate b.length 0)).toArray 5) G E0.lt)
  have G1 := keep_alloc ((KeepBut.refl W G none).set_ 8 (.slice (some ⟨W.heap.size, 0, none⟩) b.length b.length)) (.cells (nums .u8 (List.replicate b.length 0)).toArray 5)
  have Z1 := blk_new (W.setCell ⟨G, 8, none⟩ (.slice (some ⟨W.heap.size, 0, none⟩) b.length b.length)) (.cells (nums .u8 (List.replicate b.length 0)).toArray 5)
  rw [show (W.setCell ⟨G, 8, none⟩ (.slice (some ⟨W.heap.size, 0, none⟩) b.length b.length)).heap.size = W.heap.size by simp] at Z1
  generalize (W.setCell ⟨G, 8, none⟩ (.slice (some ⟨W.heap.size, 0, none⟩) b.length b.length)).alloc (.cells (nums .u8 (List.replicate b.length 0)).toArray 5) = W2 at *
  have F1 := I1.out.kept (G1.block g (by omega) (by omega) (by simp))
  clear c8 d8 e8
  have c8 := F1.cell8
  have e8 := E1.cell8
  have HZ := Aside0.mk (blk_drew Z1)
  have LEN := Aside0.mk (show (nums .u8 b).length = Nat.min b.length b.length from by rw [nums_length]; exact (Nat.min_self _).symm)
  have SRC := Aside0.mk (copy_from (w := W2) ((HA.out.below (HG.out ▸ B1.out)).kept G1 (fun bb off e h => by have := holds_lt HA.out bb off e; have := HG.out; omega)) W.heap.size)
  have FIT := Aside0.mk (show 0 + (nums .u8 b).length ≤ (nums .u8 (List.replicate b.length 0)).length from by rw [nums_length, nums_length, List.length_replicate]; omega)
  have ONE := Aside0.mk (u8_one b)
  have BEL := Aside0.mk (below_drew (Below.refl W.heap.size W2))
  have E1' := Aside0.mk E1
  have G1' := Aside0.mk G1
  clear E0 E1 G1 Z1 F1
  generalize hZ : W.heap.size = Z at *
  have HZe := Aside0.mk hZ
  clear hZ
  go_cut [] from 4 (fun wx => Filled W2 Z b wx)
  case first =>
    go_region_law ((refine step_copy_splice rfl (.tmp 17) (.tmp 21) 40 40 rfl 5 Tryd.underlying40 (by kernel_rfl) (some ⟨Z, 0, none⟩) A b.length b.length b.length c (by simp [Act.eval, Act.put]) (by simp [Act.eval, Act.put]) Z 0 (nums .u8 (List.replicate b.length 0)) 5 HZ.out (nums .u8 b) LEN.out SRC.out FIT.out ONE.out Z W2 BEL.out (Nat.le_refl _) ?_; intro w9 h9 b9))
    all_goals (go_wp2_with fail; go_meet; exact ⟨by rw [← splice_all b]; exact h9.out, b9⟩)
  case rest =>
    have HF := Aside0.mk hcut
    clear hcut
    go_wp2_with fail
    go_ret
    obtain ⟨hz, hbz⟩ := HF.out
    refine ⟨G, Z, rfl, E1'.out.kept (hbz.block G hW), ?_, by omega, HBY.out, Nat.le_of_eq HG.out, ?_⟩
    · refine .inr ⟨Z, 0, rfl, blk_lt hz, fun j u hj => ?_⟩
      rw [Nat.zero_add, blk_cell hz, List.getElem?_toArray]
      exact hj
    · rw [HG.out]
      exact (B1.out.trans (G1'.out.below (by have := HZe.out; omega) (Nat.le_refl _))).trans (hbz.mono (by omega))
end Go.Proofs.YtbeibmdccjgcmaaDoor.Bk
namespace Go.Proofs.YtbeibmdccjgcmaaDoor.Bk
open Go.RowKit Go.Proofs.YtbeibmdccjgcmaaDoorW.PrintWords Go.Proofs.YtbeibmdccjgcmaaDoorW.PrintLast Go.Proofs.YtbeibmdccjgcmaaDoorW.PrintMore
set_option linter.unusedVariables false
set_option linter.unusedSimpArgs false

/-- The bytes of numbers, the lowest first. -/
def outL (H : List Int) : List Int := H.flatMap fun x => [x % 256, x / 256 % 256, x / 65536 % 256, x / 16777216 % 256]
def outB (H : List Int) : List UInt8 := (outL H).map fun x => UInt8.ofNat x.toNat
/-- The digest, by what is not mixed in yet. -/
def finish (hs b : List Int) (n : Int) : ByteArray := ⟨(outB (compress hs (b ++ List.replicate (64 - b.length) 0) (IntKind.u64.wrap (n + IntKind.u64.wrap b.length)) true)).toArray⟩
theorem outL_range (H : List Int) : ∀ x ∈ outL H, 0 ≤ x ∧ x < 256 := by
  intro x hx
  obtain ⟨y, _, hy⟩ := List.mem_flatMap.1 hx
  simp at hy
  omega
theorem outB_cells (H : List Int) : Lib.byteCells (outB H) = nums .u8 (outL H) := by
  simp only [Lib.byteCells, outB, nums, List.map_map]
  refine List.map_congr_left fun x hx => ?_
  have h := outL_range H x hx
  simp only [Function.comp]
  have e : ((UInt8.ofNat x.toNat).toNat : Int) = x := by
    rw [UInt8.toNat_ofNat']
    omega
  rw [e]
theorem outL_take (H : List Int) (k : Nat) (hk : k < H.length) : outL (H.take (k + 1)) = outL (H.take k) ++ [H.getD k 0 % 256, H.getD k 0 / 256 % 256, H.getD k 0 / 65536 % 256, H.getD k 0 / 16777216 % 256] := by
  have e : H.getD k 0 = H[k] := by rw [List.getD_eq_getElem?_getD, List.getElem?_eq_getElem hk]; rfl
  rw [e, List.take_succ_eq_append_getElem hk, outL, outL, List.flatMap_append]
  rfl
theorem outL_len (H : List Int) : (outL H).length = 4 * H.length := by
  induction H with
  | nil => rfl
  | cons x H ih => simp [outL] at ih ⊢; omega
/-- A call of append in a list of operations. -/
theorem wpList_app {P : Program} (w : World) {ops : Array Oper} {rest : List Oper} {o : Oper} {a : Act} {Q : Exit → Act → World → Prop} (hgd : o.guard = none) (d s : Operand) (t t' : TypeId)
    (ho : o.op = .call { callee := .builtin .append, args := #[d, s], argTypes := #[t, t'] }) (v u : Value) (hd : a.eval d = v) (hs : a.eval s = u) {v' : Value} {w' : World}
    (hr : (Builtin.append_ #[t, t'] o.type #[v, u]).run P w = .ok v' w') (h : wpList P ops Q rest (a.put o.dst v') w') : wpList P ops Q (o :: rest) a w := by
  refine wpList_plain hgd fun K hK => ?_
  unfold Oper.wp execOp
  simp only [ho, resolve, invoke, builtin, Sem.run_bind, Sem.run_pure, Result.andThen_ok, List.map_toArray, List.map_cons, List.map_nil, hd, hs, hr]
  exact hK _ _ h
theorem bytes_all {w : World} {bb off : Nat} {b : List Int} (hc : ∀ j u, (nums .u8 b)[j]? = some u → w.cell? ⟨bb, off + j, none⟩ = some u) (hl : b.length = 64) : Bytes w bb off 64 b := by
  refine ⟨hl, by omega, fun j hj => hc j _ ?_⟩
  rw [nums, List.getElem?_map, List.getElem?_eq_getElem (show j < b.length by omega), List.getD_eq_getElem?_getD, List.getElem?_eq_getElem (show j < b.length by omega)]
  rfl
theorem by_pad {b : List Int} (h : ∀ x ∈ b, 0 ≤ x ∧ x < 256) (m : Nat) : ∀ x ∈ b ++ List.replicate m 0, 0 ≤ x ∧ x < 256 := by
  intro x hx
  rcases List.mem_append.1 hx with h1 | h1
  · exact h x h1
  · have := List.eq_of_mem_replicate h1
    omega
theorem eight (H : List Int) (h : H.length = 8) : ∃ a b c d e f g i, H = [a, b, c, d, e, f, g, i] := by
  match H, h with
  | [a, b, c, d, e, f, g, i], _ => exact ⟨a, b, c, d, e, f, g, i, rfl⟩
/-- The bytes of the first k numbers are written. -/
def SumAt (w3 : World) (k : Nat) (H : List Int) (wr : World) : Prop := Lib.IsBuilder 46 5 w3.heap.size w3.heap.size (nums .u8 (outL (H.take k))) wr ∧ Below w3.heap.size w3 wr
theorem sumAt_start (w3 : World) (H : List Int) : SumAt w3 0 H (w3.alloc (.cells #[.pointer none, .slice none 0 0] 46)) :=
  ⟨.inl ⟨Nat.le_refl _, _, blk_new w3 _, own_nil _ _ _ _, by simp [Value.ownBlock]⟩, below_alloc (Below.refl _ _) _⟩
set_option maxHeartbeats 4000000 in
set_option maxRecDepth 100000 in
theorem sum_calls (g : Nat) (hs b : List Int) (n : Int) (w : World) (hH : HS w g hs b n) (h64 : b.length ≤ 64) : Calls Tryd.prog 40 #[.pointer (some ⟨g, 0, none⟩)] w fun e w' => e = .returned (.string (finish hs b n)) ∧ Below w.heap.size w w' := by
  have HH := Aside0.mk hH
  have HL := Aside0.mk h64
  clear hH h64
  go_enter Tryd.func40, Tryd.ntmps40
  go_wp2_with fail
  refine (copy_calls g hs b n _ HH.out HL.out).mono ?_
  rintro e w1 ⟨G, Z, rfl, hI, hA, hZ, hby, hge, hB1⟩
  have c8 := hI.cell8
  have q1 : (b.length : Int) ≤ 64 := by have := HL.out; omega
  obtain ⟨i0, hi, hz0, hz1, hz2⟩ := info_parts infoByte
  obtain ⟨A', c', w2, hr, hc', hB2, hA'⟩ := app_zeros (P := Tryd.prog) (w := w1) 40 3 40 5 i0 .i64 Tryd.underlying40 Tryd.underlying3 hi hz0 hz1 hz2 (some ⟨Z, 0, none⟩) b hA (64 - b.length) (by have := HL.out; omega)
  have em : ((64 - b.length : Nat) : Int) = 64 - b.length := by have := HL.out; omega
  rw [em] at hr
  have e64 : (b ++ List.replicate (64 - b.length) 0).length = 64 := by have := HL.out; rw [List.length_append, List.length_replicate]; omega
  rw [e64] at hr hc'
  obtain ⟨bb, off, rfl, hcell⟩ : ∃ bb off, A' = some ⟨bb, off, none⟩ ∧ ∀ j u, (nums .u8 (b ++ List.replicate (64 - b.length) 0))[j]? = some u → w2.cell? ⟨bb, off + j, none⟩ = some u := by
    rcases hA' with ⟨_, h⟩ | ⟨bb, off, h1, _, h2⟩
    · rw [h] at e64; exact absurd e64 (by decide)
    · exact ⟨bb, off, h1, h2⟩
  have HBS := Aside0.mk (bytes_all hcell e64)
  have HR := Aside0.mk hr
  have HI2 := Aside0.mk (hI.kept (hB2.block G hI.lt))
  have HC2 := Aside0.mk hc'
  have HBY := Aside0.mk (by_pad hby (64 - b.length))
  have HB := Aside0.mk (below_step hB1 hB2)
  have HGE := Aside0.mk hge
  clear hi hz0 hz1 hz2 hr hc' hB2 hA' hI hA hZ hby hge hB1 em hcell e64
  go_wp2_with (at_builtin; refine wpList_app _ rfl (.tmp 22) (.tmp 24) 40 3 rfl (.slice (some ⟨Z, 0, none⟩) b.length b.length) (.int .i64 (64 - b.length)) rfl rfl HR.out ?_)
  refine (take_calls G hs _ n bb off 64 c' (b ++ List.replicate (64 - b.length) 0) b.length true _ HI2.out HBS.out (Nat.le_refl _) HBY.out).mono ?_
  rintro e w3 ⟨rfl, hI3, hK3⟩
  have hf : finish hs b n = ⟨(outB (compress hs (b ++ List.replicate (64 - b.length) 0) (IntKind.u64.wrap (n + IntKind.u64.wrap b.length)) true)).toArray⟩ := rfl
  generalize compress hs (b ++ List.replicate (64 - b.length) 0) (IntKind.u64.wrap (n + IntKind.u64.wrap b.length)) true = H at hI3 hf
  obtain ⟨h0, h1, h2, h3, h4, h5, h6, h7, rfl⟩ := eight H hI3.len
  have HF := Aside0.mk hf
  have HB3 := Aside0.mk (HB.out.trans (hK3.below HB.out.size HGE.out))
  have HLEN := Aside0.mk hI3.len
  have k0 := hI3.cell 0 (by decide)
  have k1 := hI3.cell 1 (by decide)
  have k2 := hI3.cell 2 (by decide)
  have k3 := hI3.cell 3 (by decide)
  have k4 := hI3.cell 4 (by decide)
  have k5 := hI3.cell 5 (by decide)
  have k6 := hI3.cell 6 (by decide)
  have k7 := hI3.cell 7 (by decide)
  have hlt := hI3.lt
  clear hf hI3 hK3 HB c8
  go_wp2_with fail
  have ixa : ∀ j : Nat, j < 8 → ∀ w, (Instr.index 83 (.agg #[.int .u32 h0, .int .u32 h1, .int .u32 h2, .int .u32 h3, .int .u32 h4, .int .u32 h5, .int .u32 h6, .int .u32 h7]) (.int .i64 j)).run Tryd.prog w = .ok (.int .u32 ([h0, h1, h2, h3, h4, h5, h6, h7].getD j 0)) w := by
    intro j hj w
    refine run_index_cell _ _ 8 _ j _ (.int .u32) Tryd.underlying83 Tryd.underlying71 rfl (by kernel_rfl) hj ?_ w
    have hj' : j = 0 ∨ j = 1 ∨ j = 2 ∨ j = 3 ∨ j = 4 ∨ j = 5 ∨ j = 6 ∨ j = 7 := by omega
    rcases hj' with rfl | rfl | rfl | rfl | rfl | rfl | rfl | rfl <;> rfl
  have IX := Aside0.mk ixa
  clear ixa k0 k1 k2 k3 k4 k5 k6 k7
  have S0 := Aside0.mk (sumAt_start w3 [h0, h1, h2, h3, h4, h5, h6, h7])
  have HB4 := Aside0.mk HB3.out.size
  go_loopw [32] (fun i wr => ∃ k : Nat, k ≤ 8 ∧ i = .int .i64 k ∧ SumAt w3 k [h0, h1, h2, h3, h4, h5, h6, h7] wr) (fun i _ => 8 - (intOf i).toNat)
  case atStart => exact ⟨0, Nat.zero_le _, rfl, S0.out⟩
  case round =>
    obtain ⟨k, hk, rfl, hS⟩ := hrel
    have HS1 := Aside0.mk hS
    clear hS S0
    by_cases hlt8 : k < 8
    · have d0 : decide ((k : Int) < 8) = true := decide_eq_true (by omega)
      have ix := IX.out k hlt8
      obtain ⟨x, hx⟩ : ∃ x, x = [h0, h1, h2, h3, h4, h5, h6, h7].getD k 0 := ⟨_, rfl⟩
      rw [← hx] at ix
      have HX := Aside0.mk hx
      clear hx
      have HW := Aside0.mk HS1.out.2.size
      generalize hD : w3.heap.size = D at *
      have HD := Aside0.mk hD
      clear hD
      go_wp2_with fail
      refine wp_loop_rounds 5 ?_
      rw [rounds_succ]
      go_wp2_with fail
      obtain ⟨B0, hB0⟩ : ∃ B0, B0 = nums .u8 (outL ([h0, h1, h2, h3, h4, h5, h6, h7].take k)) := ⟨_, rfl⟩
      have hbl : B0.length ≤ 32 := by
        rw [hB0, nums_length, outL_len, List.length_take]
        omega
      have HS2 := Aside0.mk (show Lib.IsBuilder 46 5 D D B0 wr from by rw [hB0, ← HD.out]; exact HS1.out.1)
      have HB0 := Aside0.mk hB0
      have HBL := Aside0.mk hbl
      clear hB0 hbl
      refine (writeByte D D B0 _ _ HS2.out (by have := HBL.out; simp; omega) (by have := HW.out; omega)).mono ?_
      rintro e w5 ⟨rfl, hb5, hl5⟩
      have IB5 := Aside0.mk (show Lib.IsBuilder 46 5 D D _ w5 from .inr hb5)
      have SZ5 := Aside0.mk hb5.lt
      have BL5 := Aside0.mk hl5
      clear hb5 hl5
      go_wp2_with fail
      rw [rounds_succ]
      go_wp2_with fail
      refine (writeByte D D (B0 ++ [.int .u8 _]) _ _ IB5.out (by have := HBL.out; simp; omega) (by have := SZ5.out; omega)).mono ?_
      rintro e w6 ⟨rfl, hb6, hl6⟩
      have IB6 := Aside0.mk (show Lib.IsBuilder 46 5 D D _ w6 from .inr hb6)
      have SZ6 := Aside0.mk hb6.lt
      have BL6 := Aside0.mk hl6
      clear hb6 hl6
      go_wp2_with fail
      rw [rounds_succ]
      go_wp2_with fail
      refine (writeByte D D (B0 ++ [.int .u8 _] ++ [.int .u8 _]) _ _ IB6.out (by have := HBL.out; simp; omega) (by have := SZ6.out; omega)).mono ?_
      rintro e w7 ⟨rfl, hb7, hl7⟩
      have IB7 := Aside0.mk (show Lib.IsBuilder 46 5 D D _ w7 from .inr hb7)
      have SZ7 := Aside0.mk hb7.lt
      have BL7 := Aside0.mk hl7
      clear hb7 hl7
      go_wp2_with fail
      rw [rounds_succ]
      go_wp2_with fail
      refine (writeByte D D (B0 ++ [.int .u8 _] ++ [.int .u8 _] ++ [.int .u8 _]) _ _ IB7.out (by have := HBL.out; simp; omega) (by have := SZ7.out; omega)).mono ?_
      rintro e w8 ⟨rfl, hb8, hl8⟩
      have IB8 := Aside0.mk (show Lib.IsBuilder 46 5 D D _ w8 from .inr hb8)
      have SZ8 := Aside0.mk hb8.lt
      have BL8 := Aside0.mk hl8
      clear hb8 hl8
      go_wp2_with fail
      rw [rounds_succ]
      go_wp2_with fail
      go_roundw
      case rel =>
        refine ⟨k + 1, by omega, by go_num, ?_⟩
        have e := IB8.out
        rw [HB0.out] at e
        refine ⟨?_, ?_⟩
        · rw [HD.out, outL_take _ k (show k < [h0, h1, h2, h3, h4, h5, h6, h7].length from hlt8), ← HX.out]
          rw [show x / 65536 = x / 256 / 256 by omega, show x / 16777216 = x / 256 / 256 / 256 by omega]
          simpa [nums] using e
        · rw [HD.out]
          have h := HS1.out.2
          rw [HD.out] at h
          exact (((h.trans BL5.out).trans BL6.out).trans BL7.out).trans BL8.out
      case measure => simp [intOf]; omega
    · obtain rfl : k = 8 := by omega
      have d0 : decide (((8 : Nat) : Int) < 8) = false := by decide
      go_wp2_with fail
      refine (builderString w3.heap.size w3.heap.size (outB [h0, h1, h2, h3, h4, h5, h6, h7]) _ (by rw [outB_cells]; exact HS1.out.1) (fun h => by have := congrArg List.length h; simp [outB, outL_len] at this)).mono ?_
      rintro e w9 ⟨rfl, hl9⟩
      have HL9 := Aside0.mk hl9
      clear hl9
      go_wp2_with fail
      go_ret
      exact ⟨by rw [HF.out]; rfl, HB3.out.trans ((HS1.out.2.trans HL9.out).mono HB4.out)⟩
end Go.Proofs.YtbeibmdccjgcmaaDoor.Bk
namespace Go.Proofs.YtbeibmdccjgcmaaDoor.Bk
open Go.RowKit Go.Proofs.YtbeibmdccjgcmaaDoorW.PrintWords Go.Proofs.YtbeibmdccjgcmaaDoorW.PrintLast Go.Proofs.YtbeibmdccjgcmaaDoorW.PrintMore
set_option linter.unusedVariables false
set_option linter.unusedSimpArgs false

theorem runF_len (hs b : List Int) (n : Int) : (runF hs b n).2.1.length ≤ 64 := by
  induction hb : b.length using Nat.strongRecOn generalizing hs b n with
  | _ k ih =>
    by_cases h : 64 < b.length
    · rw [← runF_more hs b n h]
      exact ih (b.drop 64).length (by rw [List.length_drop]; omega) _ _ _ rfl
    · rw [runF_done hs b n h]
      show b.length ≤ 64
      omega
/-- The bytes ahead of all, by a key. -/
def keyL (key : ByteArray) : List Int := if key.size = 0 then [] else strL key ++ List.replicate (64 - key.size) 0
def digest (hs b : List Int) : ByteArray := finish (runF hs b 0).1 (runF hs b 0).2.1 (runF hs b 0).2.2
def blakeSum (s : ByteArray) : ByteArray := digest (initL 0) (strL s)
def blakeKeyed (key s : ByteArray) : ByteArray := digest (initL key.size) (keyL key ++ strL s)
theorem finish_size (hs b : List Int) (n : Int) : (finish hs b n).size = 32 := by
  have h : (outB (compress hs (b ++ List.replicate (64 - b.length) 0) (IntKind.u64.wrap (n + IntKind.u64.wrap b.length)) true)).length = 32 := by
    rw [outB, List.length_map, outL_len, compress, finL_len]
  rw [finish, Lib.size_eq]
  exact h
theorem blakeSum_size (s : ByteArray) : (blakeSum s).size = 32 := finish_size _ _ _
set_option maxHeartbeats 1000000 in
theorem blake_sum (s : ByteArray) (hs : s.size ≤ 140737488351232) (w : World) : Calls Tryd.prog 23 #[.string s] w fun e w' => e = .returned (.string (blakeSum s)) ∧ Below w.heap.size w w' := by
  have HS0 := Aside0.mk hs
  clear hs
  go_enter Tryd.func23, Tryd.ntmps23
  go_wp2_with fail
  refine (new_calls _).mono ?_
  rintro e w1 ⟨g, rfl, hH, hge, hB⟩
  have HH := Aside0.mk hH
  have HB := Aside0.mk hB
  have HGE := Aside0.mk hge
  clear hH hB hge
  go_wp2_with fail
  refine (add_calls g (initL 0) [] 0 s _ HH.out (by decide) HS0.out).mono ?_
  rintro e w2 ⟨rfl, hH2, hK2⟩
  have HH2 := Aside0.mk hH2
  have HB2 := Aside0.mk (HB.out.trans (hK2.below HB.out.size HGE.out))
  clear hH2 hK2
  go_wp2_with fail
  refine (sum_calls g _ _ _ _ HH2.out (runF_len _ _ _)).mono ?_
  rintro e w3 ⟨rfl, hB3⟩
  have HB3 := Aside0.mk (HB2.out.trans (hB3.mono HB2.out.size))
  clear hB3
  go_wp2_with fail
  go_ret
  exact ⟨rfl, HB3.out⟩
end Go.Proofs.YtbeibmdccjgcmaaDoor.Bk
