import Derived.Test.YteplphpbpaojjaaDoorProg
import Derived.Below
import Derived.Deep.Draws
import Derived.Deep.AppendLies
import Derived.Maps.AppendAt
import Derived.OwnWalk
import Derived.Laws.BytesArg
import Derived.Laws.MakeOwn
import Derived.Laws.OwnMore
import Derived.Deep.OwnRows
import Derived.Tactics
import Derived.Lib.ConvBytes
import Derived.Laws.Slices
import Derived.WalkKit
import Derived.KernelRfl
import Derived.RowKit3
import Derived.Deep.LoopGhost
import Derived.Deep.QuietTactic
import Derived.BigQuiet
import Derived.WideLaws
import Derived.Deep.DeepCutAuto
import Derived.Deep.CutBlock
import Derived.Deep.RegionHeld3
import Derived.Laws.Rows
import Derived.Lib.AppendStr
import Derived.ArgAppend
import Derived.Laws.IdiomCopy
import Derived.OrdersHeld
import Derived.Laws.BitsLemmas
import Derived.RowKit
import Derived.Test.YteplphpbpaojjaaDoorWWords
import Derived.Test.YteplphpbpaojjaaDoorWLast
import Derived.Test.YteplphpbpaojjaaDoorWMore
import Derived.BigRegion
import Derived.Outline
import Derived.Laws.CopyOwn
import Derived.Great.BuildSlice
import Derived.LoopTactic
namespace Go.Proofs.YteplphpbpaojjaaDoor.Bk
open Go.RowKit Go.Proofs.YteplphpbpaojjaaDoorW.PrintWords Go.Proofs.YteplphpbpaojjaaDoorW.PrintLast Go.Proofs.YteplphpbpaojjaaDoorW.PrintMore
set_option linter.unusedVariables false
set_option linter.unusedSimpArgs false

/-- All is as it was but for one block (and a row), and what is new. -/
structure KeepBut (w w' : World) (g : Nat) (row : Option Nat) : Prop where
  size : w.heap.size ≤ w'.heap.size
  block : ∀ i, i < w.heap.size → i ≠ g → some i ≠ row → w'.heap[i]? = w.heap[i]?
  os : w'.os = w.os
  tape : w'.tape = w.tape
  output : w'.output = w.output
theorem KeepBut.refl (w : World) (g : Nat) (row : Option Nat) : KeepBut w w g row := ⟨Nat.le_refl _, fun _ _ _ _ => rfl, rfl, rfl, rfl⟩
theorem KeepBut.of_below {w w1 : World} (h : Below w.heap.size w w1) (g : Nat) (row : Option Nat) : KeepBut w w1 g row := ⟨h.size, fun i hi _ _ => h.block i hi, h.os, h.tape, h.output⟩
theorem KeepBut.trans {w w1 w2 : World} {g : Nat} (h : KeepBut w w1 g none) (k : KeepBut w1 w2 g none) : KeepBut w w2 g none :=
  ⟨Nat.le_trans h.size k.size, fun i hi hne hr => (k.block i (Nat.lt_of_lt_of_le hi h.size) hne hr).trans (h.block i hi hne hr), k.os.trans h.os, k.tape.trans h.tape, k.output.trans h.output⟩
theorem KeepBut.set_ {w w1 : World} {g : Nat} (h : KeepBut w w1 g none) (j : Nat) (u : Value) : KeepBut w (w1.setCell ⟨g, j, none⟩ u) g none :=
  ⟨by simpa using h.size, fun i hi hne hr => (Below.heap_setCell _ _ _ _ (fun e => hne e)).trans (h.block i hi hne hr), h.os, h.tape, h.output⟩
theorem KeepBut.below {w w1 : World} {g B : Nat} (h : KeepBut w w1 g none) (hB : B ≤ w.heap.size) (hg : B ≤ g) : Below B w w1 := ⟨h.os, h.tape, h.output, h.size, fun i hi => h.block i (Nat.lt_of_lt_of_le hi hB) (by omega) (by simp)⟩
theorem keep_drewN {w W : World} {g : Nat} {row : Option Nat} (h : KeepBut w W g row) (m : Nat) : KeepBut w (W.drewN m) g row := ⟨h.size, h.block, h.os, h.tape, h.output⟩
theorem keep_drew {w W : World} {g : Nat} {row : Option Nat} (h : KeepBut w W g row) : KeepBut w W.drew g row := ⟨h.size, h.block, h.os, h.tape, h.output⟩
theorem keep_alloc {w W : World} {g : Nat} (h : KeepBut w W g none) (o : Obj) : KeepBut w (W.alloc o) g none := h.trans (KeepBut.of_below (below_alloc (Below.refl _ _) o) g none)
theorem keep_cell {w W : World} {g : Nat} (h : KeepBut w W g none) {a : Addr} {v : Value} (hc : w.cell? a = some v) (hne : a.block ≠ g) : W.cell? a = some v := by
  have hl := World.block_lt_of_cell? w a hc
  have e := h.block a.block hl hne (by simp)
  unfold World.cell? at hc ⊢
  rw [e]
  exact hc
theorem run_index_cell {P : Program} (t e : TypeId) (n : Nat) (cs : Array Value) (j : Nat) (v : Value) (d : TypeDesc) (hu : P.underlying t = some (.array n e)) (he : P.underlying e = some d)
    (hd : (match d with | .struct _ | .array _ _ => true | _ => false) = false) (hs : (P.info? e).map (·.size) = some 1) (hj : j < n) (hv : cs[j]? = some v) (w : World) :
    (Instr.index t (.agg cs) (.int .i64 j)).run P w = .ok v w := by
  obtain ⟨i, hi, hz⟩ := Option.map_eq_some_iff.1 hs
  have hagg : (isAgg e).run P w = .ok false w := by
    unfold isAgg
    rw [Sem.run_bind, run_underlying he w]
    cases d <;> simp_all
  have h1 : (0 : Int) ≤ j ∧ (j : Int) < n := by omega
  simp [Instr.index, asIntOf, run_underlying hu, part, hagg, sizeOf, typeInfo, hi, hz, hj, hv]
theorem run_index_part {P : Program} (t e : TypeId) (n s : Nat) (cs : Array Value) (j : Nat) (d : TypeDesc) (hu : P.underlying t = some (.array n e)) (he : P.underlying e = some d)
    (hd : (match d with | .struct _ | .array _ _ => true | _ => false) = true) (hs : (P.info? e).map (·.size) = some s) (hj : j < n) (w : World) :
    (Instr.index t (.agg cs) (.int .i64 j)).run P w = .ok (.agg (cs.extract (j * s) (j * s + s))) w := by
  obtain ⟨i, hi, hz⟩ := Option.map_eq_some_iff.1 hs
  have hagg : (isAgg e).run P w = .ok true w := by
    unfold isAgg
    rw [Sem.run_bind, run_underlying he w]
    cases d <;> simp_all
  simp [Instr.index, asIntOf, run_underlying hu, part, hagg, sizeOf, typeInfo, hi, hz, hj]
/-- A turn of 32 bits down. -/
def turn (x a b : Int) : Int := Go.bits .or .u32 (x * b % 4294967296) (x / a)
set_option maxHeartbeats 1000000 in
theorem rot16 (x : Int) (w : World) : Calls Tryd.prog 67 #[.int .u32 x, .int .i64 (-16)] w fun e w' => e = .returned (.int .u32 (turn x 65536 65536)) ∧ w = w' := by
  have e : bits BinOp.and IntKind.u64 (IntKind.u64.wrap (-16)) 31 = 16 := by decide
  go_enter Tryd.func67, Tryd.ntmps67
  go_wp2
  go_ret
  exact ⟨rfl, rfl⟩
set_option maxHeartbeats 1000000 in
theorem rot12 (x : Int) (w : World) : Calls Tryd.prog 67 #[.int .u32 x, .int .i64 (-12)] w fun e w' => e = .returned (.int .u32 (turn x 4096 1048576)) ∧ w = w' := by
  have e : bits BinOp.and IntKind.u64 (IntKind.u64.wrap (-12)) 31 = 20 := by decide
  go_enter Tryd.func67, Tryd.ntmps67
  go_wp2
  go_ret
  exact ⟨rfl, rfl⟩
set_option maxHeartbeats 1000000 in
theorem rot8 (x : Int) (w : World) : Calls Tryd.prog 67 #[.int .u32 x, .int .i64 (-8)] w fun e w' => e = .returned (.int .u32 (turn x 256 16777216)) ∧ w = w' := by
  have e : bits BinOp.and IntKind.u64 (IntKind.u64.wrap (-8)) 31 = 24 := by decide
  go_enter Tryd.func67, Tryd.ntmps67
  go_wp2
  go_ret
  exact ⟨rfl, rfl⟩
set_option maxHeartbeats 1000000 in
theorem rot7 (x : Int) (w : World) : Calls Tryd.prog 67 #[.int .u32 x, .int .i64 (-7)] w fun e w' => e = .returned (.int .u32 (turn x 128 33554432)) ∧ w = w' := by
  have e : bits BinOp.and IntKind.u64 (IntKind.u64.wrap (-7)) 31 = 25 := by decide
  go_enter Tryd.func67, Tryd.ntmps67
  go_wp2
  go_ret
  exact ⟨rfl, rfl⟩

/-- The places of each round, and of each mixing. -/
def rowsL : List (List Int) := [[0, 1, 2, 3, 4, 5, 6, 7, 8, 9, 10, 11, 12, 13, 14, 15], [14, 10, 4, 8, 9, 15, 13, 6, 1, 12, 0, 2, 11, 7, 5, 3], [11, 8, 12, 0, 5, 2, 15, 13, 10, 14, 3, 6, 7, 1, 9, 4], [7, 9, 3, 1, 13, 12, 11, 14, 2, 6, 5, 10, 4, 0, 15, 8], [9, 0, 5, 7, 2, 4, 10, 15, 14, 1, 11, 12, 6, 8, 3, 13], [2, 12, 6, 10, 0, 11, 8, 3, 4, 13, 7, 5, 15, 14, 1, 9], [12, 5, 1, 15, 14, 13, 4, 10, 0, 7, 6, 3, 9, 2, 8, 11], [13, 11, 7, 14, 12, 1, 3, 9, 5, 0, 15, 4, 8, 6, 2, 10], [6, 15, 14, 9, 11, 3, 0, 8, 12, 2, 13, 7, 1, 4, 10, 5], [10, 2, 8, 4, 7, 6, 1, 5, 15, 11, 9, 14, 3, 12, 13, 0]]
def mixesL : List (List Int) := [[0, 4, 8, 12], [1, 5, 9, 13], [2, 6, 10, 14], [3, 7, 11, 15], [0, 5, 10, 15], [1, 6, 11, 12], [2, 7, 8, 13], [3, 4, 9, 14]]
def rowsC : Array Value := (rowsL.flatten.map (Value.int .u8)).toArray
def mixesC : Array Value := (mixesL.flatten.map (Value.int .i64)).toArray
def zeros160 : Array Value := (List.replicate 160 (Value.int .u8 0)).toArray
def zeros32 : Array Value := (List.replicate 32 (Value.int .i64 0)).toArray
theorem below_row {B g : Nat} {w0 w : World} (hb : Below B w0 w) (hBg : B ≤ g) (cs : Array Value) : Below B w0 (w.setRow g cs) := Go.below_setRow hb hBg cs
set_option maxHeartbeats 1000000 in
set_option maxRecDepth 100000 in
theorem rows_calls (w : World) : Calls Tryd.prog 54 #[] w fun e w' => e = .returned (.agg rowsC) ∧ Below w.heap.size w w' := by
  have hz : ∀ w, (zeroValue 88).run Tryd.prog w = .ok (.agg zeros160) w := fun w => by kernel_rfl
  go_enter Tryd.func54, Tryd.ntmps54
  go_wp2_with (first | (refine wpList_buildTo rfl 88 _ rfl _ rfl rowsC (by kernel_rfl) ?_) | (refine wpList_store_rowTo rfl 88 _ _ rfl rfl w.heap.size rowsC rfl rfl 88 zeros160 (heap_alloc_new w _) (by kernel_rfl) (by kernel_rfl) (by kernel_rfl) ?_))
  refine bodyPost_ret (v := .agg rowsC) (results_cell_row rfl _ _ w.heap.size 88 rowsC (0, 0) (.array 10 87) rfl (setRow_heap _ _ zeros160 _ _ _ (heap_alloc_new w _)) Tryd.underlying88 rfl (by kernel_rfl)) rfl ⟨rfl, ?_⟩
  exact below_row ((Below.refl _ _).alloc (Nat.le_refl _) _) (Nat.le_refl _) _
set_option maxHeartbeats 1000000 in
set_option maxRecDepth 100000 in
theorem mixes_calls (w : World) : Calls Tryd.prog 55 #[] w fun e w' => e = .returned (.agg mixesC) ∧ Below w.heap.size w w' := by
  have hz : ∀ w, (zeroValue 91).run Tryd.prog w = .ok (.agg zeros32) w := fun w => by kernel_rfl
  go_enter Tryd.func55, Tryd.ntmps55
  go_wp2_with (first | (refine wpList_buildTo rfl 91 _ rfl _ rfl mixesC (by kernel_rfl) ?_) | (refine wpList_store_rowTo rfl 91 _ _ rfl rfl w.heap.size mixesC rfl rfl 91 zeros32 (heap_alloc_new w _) (by kernel_rfl) (by kernel_rfl) (by kernel_rfl) ?_))
  refine bodyPost_ret (v := .agg mixesC) (results_cell_row rfl _ _ w.heap.size 91 mixesC (0, 0) (.array 8 90) rfl (setRow_heap _ _ zeros32 _ _ _ (heap_alloc_new w _)) Tryd.underlying91 rfl (by kernel_rfl)) rfl ⟨rfl, ?_⟩
  exact below_row ((Below.refl _ _).alloc (Nat.le_refl _) _) (Nat.le_refl _) _
end Go.Proofs.YteplphpbpaojjaaDoor.Bk
namespace Go.Proofs.YteplphpbpaojjaaDoor.Bk
open Go.RowKit Go.Proofs.YteplphpbpaojjaaDoorW.PrintWords Go.Proofs.YteplphpbpaojjaaDoorW.PrintLast Go.Proofs.YteplphpbpaojjaaDoorW.PrintMore
set_option linter.unusedVariables false
set_option linter.unusedSimpArgs false

/-- A block that holds numbers of 32 bits. -/
def IsU (w : World) (g t : Nat) (L : List Int) : Prop := w.heap[g]? = some (.cells (nums .u32 L).toArray t (0, 0))
theorem IsU.cell {w : World} {g t : Nat} {L : List Int} (h : IsU w g t L) (i : Nat) (hi : i < L.length) : w.cell? ⟨g, i, none⟩ = some (.int .u32 (L.getD i 0)) := by
  rw [blk_cell h]
  simp [nums, hi]
theorem IsU.free {w : World} {g t : Nat} {L : List Int} (h : IsU w g t L) (i : Nat) : w.frozen? ⟨g, i, none⟩ = false := blk_frozen h i
theorem IsU.put {w : World} {g t : Nat} {L : List Int} (h : IsU w g t L) (i : Nat) (x : Int) : IsU (w.setCell ⟨g, i, none⟩ (.int .u32 x)) g t (L.set i x) := by
  have := blk_set h i (.int .u32 x)
  unfold IsU
  rw [this]
  simp [nums, List.map_set]
theorem IsU.lt {w : World} {g t : Nat} {L : List Int} (h : IsU w g t L) : g < w.heap.size := blk_lt h

/-- Four numbers, mixed with two others. -/
def mixQ (a b c d x y : Int) : Int × Int × Int × Int :=
  let d1 := turn (Go.bits .xor .u32 d ((a + (b + x)) % 4294967296)) 65536 65536
  let b1 := turn (Go.bits .xor .u32 b ((c + d1) % 4294967296)) 4096 1048576
  let d2 := turn (Go.bits .xor .u32 d1 ((a + (b + x) + (b1 + y)) % 4294967296)) 256 16777216
  let b2 := turn (Go.bits .xor .u32 b1 ((c + d1 + d2) % 4294967296)) 128 33554432
  ((a + (b + x) + (b1 + y)) % 4294967296, b2, (c + d1 + d2) % 4294967296, d2)
def mixL (L : List Int) (i0 i1 i2 i3 : Nat) (x y : Int) : List Int :=
  let q := mixQ (L.getD i0 0) (L.getD i1 0) (L.getD i2 0) (L.getD i3 0) x y
  (((L.set i0 q.1).set i1 q.2.1).set i2 q.2.2.1).set i3 q.2.2.2
set_option maxHeartbeats 4000000 in
set_option maxRecDepth 100000 in
theorem mix_calls (g t : Nat) (L : List Int) (i0 i1 i2 i3 : Nat) (x y : Int) (w : World) (hL : IsU w g t L) (hl : L.length = 16) (h0 : i0 < 16) (h1 : i1 < 16) (h2 : i2 < 16) (h3 : i3 < 16) (n01 : i0 ≠ i1) (n02 : i0 ≠ i2) (n03 : i0 ≠ i3) (n12 : i1 ≠ i2) (n13 : i1 ≠ i3) (n23 : i2 ≠ i3) :
    Calls Tryd.prog 56 #[.pointer (some ⟨g, 0, none⟩), .agg #[.int .i64 i0, .int .i64 i1, .int .i64 i2, .int .i64 i3], .int .u32 x, .int .u32 y] w fun e w' => e = .returned (.tuple #[]) ∧ IsU w' g t (mixL L i0 i1 i2 i3 x y) ∧ KeepBut w w' g none := by
  have c0 := hL.cell i0 (by omega)
  have c1 := hL.cell i1 (by omega)
  have c2 := hL.cell i2 (by omega)
  have c3 := hL.cell i3 (by omega)
  have f0 := hL.free i0
  have f1 := hL.free i1
  have f2 := hL.free i2
  have f3 := hL.free i3
  have hlt := hL.lt
  have HL := Aside0.mk hL
  obtain ⟨a, ha⟩ : ∃ a, a = L.getD i0 0 := ⟨_, rfl⟩
  obtain ⟨b, hb⟩ : ∃ a, a = L.getD i1 0 := ⟨_, rfl⟩
  obtain ⟨c, hc⟩ : ∃ a, a = L.getD i2 0 := ⟨_, rfl⟩
  obtain ⟨d, hd⟩ : ∃ a, a = L.getD i3 0 := ⟨_, rfl⟩
  rw [← ha] at c0
  rw [← hb] at c1
  rw [← hc] at c2
  rw [← hd] at c3
  have HE := Aside0.mk (And.intro ha (And.intro hb (And.intro hc hd)))
  have HLEN := Aside0.mk hl
  clear ha hb hc hd hL hl
  have ix0 : ∀ w, (Instr.index 109 (.agg #[.int .u32 x, .int .i64 16, .int .i64 12, .int .u32 y, .int .i64 8, .int .i64 7]) (.int .i64 0)).run Tryd.prog w = .ok (.agg #[.int .u32 x, .int .i64 16, .int .i64 12]) w := fun _ => by kernel_rfl
  have ix1 : ∀ w, (Instr.index 109 (.agg #[.int .u32 x, .int .i64 16, .int .i64 12, .int .u32 y, .int .i64 8, .int .i64 7]) (.int .i64 1)).run Tryd.prog w = .ok (.agg #[.int .u32 y, .int .i64 8, .int .i64 7]) w := fun _ => by kernel_rfl
  go_enter Tryd.func56, Tryd.ntmps56
  go_wp2
  go_quiet (fail)
  go_wp2
  refine wp_loop_rounds 3 ?_
  rw [rounds_succ]
  go_wp2_with fail
  refine (rot16 _ _).mono ?_
  rintro e w1 ⟨rfl, rfl⟩
  generalize hd1 : turn (bits BinOp.xor IntKind.u32 d ((a + (b + x)) % 4294967296)) 65536 65536 = d1
  have HD1 := Aside0.mk hd1
  clear hd1
  go_wp2_with fail
  refine (rot12 _ _).mono ?_
  rintro e w1 ⟨rfl, rfl⟩
  generalize hb1 : turn (bits BinOp.xor IntKind.u32 b ((c + d1) % 4294967296)) 4096 1048576 = b1
  have HB1 := Aside0.mk hb1
  clear hb1
  go_wp2_with fail
  rw [rounds_succ]
  go_wp2_with fail
  refine (rot8 _ _).mono ?_
  rintro e w1 ⟨rfl, rfl⟩
  generalize hd2 : turn (bits BinOp.xor IntKind.u32 d1 ((a + (b + x) + (b1 + y)) % 4294967296)) 256 16777216 = d2
  have HD2 := Aside0.mk hd2
  clear hd2
  go_wp2_with fail
  refine (rot7 _ _).mono ?_
  rintro e w1 ⟨rfl, rfl⟩
  generalize hb2 : turn (bits BinOp.xor IntKind.u32 b1 ((c + d1 + d2) % 4294967296)) 128 33554432 = b2
  have HB2 := Aside0.mk hb2
  clear hb2
  go_wp2_with fail
  rw [rounds_succ]
  go_wp2
  generalize hA : (a + (b + x) + (b1 + y)) % 4294967296 = A1
  have HA := Aside0.mk hA
  clear hA
  generalize hC : (c + d1 + d2) % 4294967296 = C1
  have HC := Aside0.mk hC
  clear hC
  have HK := Aside0.mk (keep_alloc (keep_alloc (keep_drewN (keep_alloc (KeepBut.refl w g none) (.cells #[.int .i64 i0, .int .i64 i1, .int .i64 i2, .int .i64 i3] 90)) nq) (.cells #[.int .u32 x, .int .i64 16, .int .i64 12] 108)) (.cells #[.int .u32 y, .int .i64 8, .int .i64 7] 108))
  have HU := Aside0.mk (show IsU (((w.alloc (.cells #[.int .i64 i0, .int .i64 i1, .int .i64 i2, .int .i64 i3] 90)).drewN nq).alloc (.cells #[.int .u32 x, .int .i64 16, .int .i64 12] 108) |>.alloc (.cells #[.int .u32 y, .int .i64 8, .int .i64 7] 108)) g t L from blk_alloc (blk_alloc (blk_drewN (blk_alloc HL.out _) nq) _) _)
  have a0 : (((w.alloc (.cells #[.int .i64 i0, .int .i64 i1, .int .i64 i2, .int .i64 i3] 90)).drewN nq).alloc (.cells #[.int .u32 x, .int .i64 16, .int .i64 12] 108) |>.alloc (.cells #[.int .u32 y, .int .i64 8, .int .i64 7] 108)).heap[w.heap.size]? = some (.cells #[.int .i64 i0, .int .i64 i1, .int .i64 i2, .int .i64 i3] 90 (0, 0)) := blk_alloc (blk_alloc (blk_drewN (blk_new w _) nq) _) _
  have hne : g ≠ w.heap.size := by omega
  generalize (((w.alloc (.cells #[.int .i64 i0, .int .i64 i1, .int .i64 i2, .int .i64 i3] 90)).drewN nq).alloc (.cells #[.int .u32 x, .int .i64 16, .int .i64 12] 108) |>.alloc (.cells #[.int .u32 y, .int .i64 8, .int .i64 7] 108)) = W at HK HU a0 ⊢
  have p0 : W.cell? ⟨w.heap.size, 0, none⟩ = some (.int .i64 i0) := (blk_cell a0 0).trans rfl
  have p1 : W.cell? ⟨w.heap.size, 1, none⟩ = some (.int .i64 i1) := (blk_cell a0 1).trans rfl
  have p2 : W.cell? ⟨w.heap.size, 2, none⟩ = some (.int .i64 i2) := (blk_cell a0 2).trans rfl
  have p3 : W.cell? ⟨w.heap.size, 3, none⟩ = some (.int .i64 i3) := (blk_cell a0 3).trans rfl
  have q0 := HU.out.cell i0 (by rw [HLEN.out]; exact h0)
  have q1 := HU.out.cell i1 (by rw [HLEN.out]; exact h1)
  have q2 := HU.out.cell i2 (by rw [HLEN.out]; exact h2)
  have q3 := HU.out.cell i3 (by rw [HLEN.out]; exact h3)
  have g0 := HU.out.free i0
  have g1 := HU.out.free i1
  have g2 := HU.out.free i2
  have g3 := HU.out.free i3
  generalize w.heap.size = B at *
  have z0 : (0 : Int) ≤ i0 := by omega
  have z1 : (0 : Int) ≤ i1 := by omega
  have z2 : (0 : Int) ≤ i2 := by omega
  have z3 : (0 : Int) ≤ i3 := by omega
  have u0 : (i0 : Int) < 16 := by omega
  have u1 : (i1 : Int) < 16 := by omega
  have u2 : (i2 : Int) < 16 := by omega
  have u3 : (i3 : Int) < 16 := by omega
  clear c0 c1 c2 c3 f0 f1 f2 f3 a0 hlt
  have m01 := n01.symm
  have m02 := n02.symm
  have m03 := n03.symm
  have m12 := n12.symm
  have m13 := n13.symm
  have m23 := n23.symm
  have hne' := hne.symm
  go_region
  go_end0
  refine ⟨rfl, ?_, ?_⟩
  · have e := ((((HU.out.put i0 A1).put i1 b2).put i2 C1).put i3 d2)
    obtain ⟨rfl, rfl, rfl, rfl⟩ := HE.out
    have k : mixL L i0 i1 i2 i3 x y = (((L.set i0 A1).set i1 b2).set i2 C1).set i3 d2 := by
      have e1 := HD1.out
      have e2 := HB1.out
      have e3 := HA.out
      have e4 := HD2.out
      have e5 := HC.out
      have e6 := HB2.out
      clear HD1 HB1 HA HD2 HC HB2
      subst e6 e5 e4 e3 e2 e1
      rfl
    rw [k]
    exact e
  · exact keep_drew ((((HK.out.set_ i0 _).set_ i1 _).set_ i2 _).set_ i3 _)
end Go.Proofs.YteplphpbpaojjaaDoor.Bk
namespace Go.Proofs.YteplphpbpaojjaaDoor.Bk
open Go.RowKit Go.Proofs.YteplphpbpaojjaaDoorW.PrintWords Go.Proofs.YteplphpbpaojjaaDoorW.PrintLast Go.Proofs.YteplphpbpaojjaaDoorW.PrintMore
set_option linter.unusedVariables false
set_option linter.unusedSimpArgs false

/-- The two halves of a product. -/
def mulHi (a b : Int) : Int :=
  let w0 := IntKind.u64.wrap (bits BinOp.and IntKind.u64 a 4294967295 * bits BinOp.and IntKind.u64 b 4294967295)
  let t := IntKind.u64.wrap (IntKind.u64.wrap (a / 4294967296 * bits BinOp.and IntKind.u64 b 4294967295) + w0 / 4294967296)
  IntKind.u64.wrap (IntKind.u64.wrap (IntKind.u64.wrap (a / 4294967296 * (b / 4294967296)) + t / 4294967296) + IntKind.u64.wrap (bits BinOp.and IntKind.u64 t 4294967295 + IntKind.u64.wrap (bits BinOp.and IntKind.u64 a 4294967295 * (b / 4294967296))) / 4294967296)
def mulLo (a b : Int) : Int := IntKind.u64.wrap (a * b)
set_option maxHeartbeats 1000000 in
theorem mul64 (a b : Int) (w : World) : Calls Tryd.prog 66 #[.int .u64 a, .int .u64 b] w fun e w' => e = .returned (.tuple #[.int .u64 (mulHi a b), .int .u64 (mulLo a b)]) ∧ w = w' := by
  go_enter Tryd.func66, Tryd.ntmps66
  go_wp2
  go_ret2
  exact ⟨rfl, rfl⟩

/-- One bit more of a root. -/
def rootStep (p x : Int) (k : Nat) : Int :=
  let y := Go.bits .or .u64 x (IntKind.u64.wrap (2 ^ (34 - k)))
  if mulHi y y < p ∨ (mulHi y y = p ∧ mulLo y y = 0) then y else x
def rootTo (p : Int) : Nat → Int
  | 0 => 0
  | k + 1 => rootStep p (rootTo p k) k
def primesL : List Int := [2, 3, 5, 7, 11, 13, 17, 19]
def firstsL : List Int := primesL.map fun p => IntKind.u32.wrap (rootTo p 35)
/-- What holds behind k of the eight. -/
def FOut (g k : Nat) (w wr : World) : Prop :=
  Below w.heap.size w wr ∧ wr.heap[g]? = some (.cells #[.int .u32 0, .int .u32 0, .int .u32 0, .int .u32 0, .int .u32 0, .int .u32 0, .int .u32 0, .int .u32 0] 75 (0, 0)) ∧ IsU wr (g + 1) 75 (firstsL.take k ++ List.replicate (8 - k) 0)
theorem fill_next (L : List Int) (n k : Nat) (hn : L.length = n) (hk : k < n) : (L.take k ++ List.replicate (n - k) 0).set k (L.getD k 0) = L.take (k + 1) ++ List.replicate (n - (k + 1)) 0 := by
  have e : n - k = (n - (k + 1)) + 1 := by omega
  have hl : (L.take k).length = k := by rw [List.length_take]; omega
  rw [e, List.replicate_succ, List.set_append_right _ _ (by omega), hl, Nat.sub_self, List.set_cons_zero]
  rw [List.take_succ_eq_append_getElem (by omega), List.append_assoc, List.singleton_append]
  simp [List.getD_eq_getElem?_getD, List.getElem?_eq_getElem (show k < L.length by omega)]
theorem firsts_at (k : Nat) (hk : k < 8) : firstsL.getD k 0 = rootTo (primesL.getD k 0) 35 % 4294967296 := by
  have hl : k < primesL.length := hk
  have h1 : k < firstsL.length := by simp [firstsL, primesL]; omega
  rw [List.getD_eq_getElem?_getD, List.getD_eq_getElem?_getD, List.getElem?_eq_getElem h1, List.getElem?_eq_getElem hl]
  simp only [firstsL, List.getElem_map, Option.getD_some, IntKind.wrap, IntKind.signed, IntKind.bits]
  rfl
theorem FOut_next (w wr : World) (k : Nat) (hk : k < 8) (h : FOut w.heap.size k w wr) : FOut w.heap.size (k + 1) w (wr.setCell ⟨w.heap.size + 1, k, none⟩ (.int .u32 (rootTo (primesL.getD k 0) 35 % 4294967296))) := by
  obtain ⟨hb, h0, h1⟩ := h
  refine ⟨below_set hb (by omega), blk_far h0 (by simp) _, ?_⟩
  have e := h1.put k (rootTo (primesL.getD k 0) 35 % 4294967296)
  rw [← firsts_at k hk, fill_next firstsL 8 k rfl hk] at e
  rw [← firsts_at k hk]
  exact e
theorem FOut_start (w : World) : FOut w.heap.size 0 w ((w.alloc (.cells #[.int .u32 0, .int .u32 0, .int .u32 0, .int .u32 0, .int .u32 0, .int .u32 0, .int .u32 0, .int .u32 0] 75)).alloc (.cells #[.int .u32 0, .int .u32 0, .int .u32 0, .int .u32 0, .int .u32 0, .int .u32 0, .int .u32 0, .int .u32 0] 75)) := by
  refine ⟨below_alloc (below_alloc (Below.refl _ _) _) _, blk_alloc (blk_new w _) _, ?_⟩
  have h := blk_new (w.alloc (.cells #[.int .u32 0, .int .u32 0, .int .u32 0, .int .u32 0, .int .u32 0, .int .u32 0, .int .u32 0, .int .u32 0] 75)) (.cells #[.int .u32 0, .int .u32 0, .int .u32 0, .int .u32 0, .int .u32 0, .int .u32 0, .int .u32 0, .int .u32 0] 75)
  have e : (w.alloc (.cells #[.int .u32 0, .int .u32 0, .int .u32 0, .int .u32 0, .int .u32 0, .int .u32 0, .int .u32 0, .int .u32 0] 75)).heap.size = w.heap.size + 1 := by simp
  rw [e] at h
  exact h
set_option maxHeartbeats 2000000 in
set_option maxRecDepth 100000 in
theorem firsts_calls (w : World) : Calls Tryd.prog 53 #[] w fun e w' => e = .returned (.agg (nums .u32 firstsL).toArray) ∧ Below w.heap.size w w' := by
  have ixa : ∀ j : Nat, j < 8 → ∀ w, (Instr.index 105 (.agg #[.int .u64 2, .int .u64 3, .int .u64 5, .int .u64 7, .int .u64 11, .int .u64 13, .int .u64 17, .int .u64 19]) (.int .i64 j)).run Tryd.prog w = .ok (.int .u64 (primesL.getD j 0)) w := by
    intro j hj w
    refine run_index_cell _ _ 8 _ j _ (.int .u64) Tryd.underlying105 Tryd.underlying76 rfl (by kernel_rfl) hj ?_ w
    have hj' : j = 0 ∨ j = 1 ∨ j = 2 ∨ j = 3 ∨ j = 4 ∨ j = 5 ∨ j = 6 ∨ j = 7 := by omega
    rcases hj' with rfl | rfl | rfl | rfl | rfl | rfl | rfl | rfl <;> rfl
  have IX := Aside0.mk ixa
  clear ixa
  go_enter Tryd.func53, Tryd.ntmps53
  go_wp2
  go_loopw [10] (fun i wr => ∃ k : Nat, k ≤ 8 ∧ i = .int .i64 k ∧ FOut w.heap.size k w wr) (fun i _ => 8 - (intOf i).toNat)
  case atStart => exact ⟨0, Nat.zero_le _, rfl, FOut_start w⟩
  case round =>
    obtain ⟨k, hk, rfl, hF⟩ := hrel
    have HF := Aside0.mk hF
    clear hF
    by_cases hlt : k < 8
    · have ix := IX.out k hlt
      obtain ⟨p, hp⟩ : ∃ p, p = primesL.getD k 0 := ⟨_, rfl⟩
      rw [← hp] at ix
      have HP := Aside0.mk hp
      clear hp
      have d0 : decide ((k : Int) < 8) = true := decide_eq_true (by omega)
      have d9 : (k : Int) < 8 := by omega
      have c1 := HF.out.2.2.cell k (by simp [firstsL, primesL]; omega)
      have f1 := HF.out.2.2.free k
      generalize (firstsL.take k ++ List.replicate (8 - k) 0).getD k 0 = old at c1
      go_wp2
      go_loop [4, 5] (fun x b => ∃ j : Nat, j ≤ 35 ∧ x = .int .u64 (rootTo p j) ∧ b = .int .i64 (34 - j)) (fun _ b => (intOf b + 1).toNat)
      case atStart => exact ⟨0, Nat.zero_le _, rfl, rfl⟩
      case round =>
        obtain ⟨j, hj, rfl, rfl⟩ := hrel
        by_cases hlj : j < 35
        · have d1 : decide ((0 : Int) ≤ 34 - j) = true := decide_eq_true (by omega)
          have d2 : (0 : Int) ≤ 34 - j := by omega
          have d3 : (34 : Int) - j < 64 := by omega
          generalize hx : rootTo p j = x
          have HX := Aside0.mk hx
          clear hx
          go_wp2_with fail
          generalize hy : bits BinOp.or IntKind.u64 x (IntKind.u64.wrap (2 ^ (34 - j))) = y
          have HY := Aside0.mk hy
          clear hy
          refine (mul64 _ _ _).mono ?_
          rintro e w1 ⟨rfl, rfl⟩
          generalize hh : mulHi y y = h
          have HH := Aside0.mk hh
          clear hh
          generalize hl : mulLo y y = l
          have HL := Aside0.mk hl
          clear hl
          by_cases t1 : h < p
          · have e1 : decide (h < p) = true := decide_eq_true t1
            go_wp2
            go_round
            case rel =>
              refine ⟨j + 1, by omega, ?_, by go_num⟩
              have e : rootTo p (j + 1) = y := by
                show rootStep p (rootTo p j) j = _
                rw [HX.out]
                unfold rootStep
                simp only [HY.out, HH.out, HL.out]
                rw [if_pos (Or.inl t1)]
              rw [e]
            case measure => simp [intOf]; omega
          · have e1 : decide (h < p) = false := decide_eq_false t1
            by_cases t2 : h = p
            · have e2 : (h == p) = true := beq_iff_eq.mpr t2
              have T2 := Aside0.mk t2
              clear t2
              by_cases t3 : l = 0
              · have e3 : (l == 0) = true := beq_iff_eq.mpr t3
                have T3 := Aside0.mk t3
                clear t3
                go_wp2
                go_round
                case rel =>
                  refine ⟨j + 1, by omega, ?_, by go_num⟩
                  have e : rootTo p (j + 1) = y := by
                    show rootStep p (rootTo p j) j = _
                    rw [HX.out]
                    unfold rootStep
                    simp only [HY.out, HH.out, HL.out]
                    rw [if_pos (Or.inr ⟨T2.out, T3.out⟩)]
                  rw [e]
                case measure => simp [intOf]; omega
              · have e3 : (l == 0) = false := beq_eq_false_iff_ne.mpr t3
                go_wp2
                go_round
                case rel =>
                  refine ⟨j + 1, by omega, ?_, by go_num⟩
                  have e : rootTo p (j + 1) = x := by
                    show rootStep p (rootTo p j) j = _
                    rw [HX.out]
                    unfold rootStep
                    simp only [HY.out, HH.out, HL.out]
                    rw [if_neg (fun q => q.elim (fun z => absurd z (by omega)) (fun q => t3 q.2))]
                  rw [e]
                case measure => simp [intOf]; omega
            · have e2 : (h == p) = false := beq_eq_false_iff_ne.mpr t2
              go_wp2
              go_round
              case rel =>
                refine ⟨j + 1, by omega, ?_, by go_num⟩
                have e : rootTo p (j + 1) = x := by
                  show rootStep p (rootTo p j) j = _
                  rw [HX.out]
                  unfold rootStep
                  simp only [HY.out, HH.out, HL.out]
                  rw [if_neg (fun q => q.elim (fun z => absurd z (by omega)) (fun q => t2 q.1))]
                rw [e]
              case measure => simp [intOf]; omega
        · obtain rfl : j = 35 := by omega
          have d1 : decide ((0 : Int) ≤ 34 - (35 : Nat)) = false := by decide
          go_wp2
          go_roundw
          case rel =>
            refine ⟨k + 1, by omega, by go_num, ?_⟩
            have e := FOut_next w wr k hlt HF.out
            rw [← HP.out] at e
            exact e
          case measure => simp [intOf]; omega
    · obtain rfl : k = 8 := by omega
      obtain ⟨hb, h0, h1⟩ := HF.out
      have H0 := Aside0.mk h0
      have H1 := Aside0.mk h1
      have HB := Aside0.mk hb
      clear h0 h1 hb HF hk hlt
      go_wp2_with (first | (refine wpList_load_row rfl 75 _ rfl (w.heap.size + 1) rfl 75 (nums .u32 firstsL).toArray (0, 0) (.array 8 74) H1.out Tryd.underlying75 rfl (by kernel_rfl) ?_) | (refine wpList_store_rowTo rfl 75 _ _ rfl rfl w.heap.size (nums .u32 firstsL).toArray rfl rfl 75 _ H0.out (by kernel_rfl) (by kernel_rfl) (by kernel_rfl) ?_))
      refine bodyPost_ret (v := .agg (nums .u32 firstsL).toArray) (results_cell_row rfl _ _ w.heap.size 75 (nums .u32 firstsL).toArray (0, 0) (.array 8 74) rfl (setRow_heap _ _ _ _ _ _ H0.out) Tryd.underlying75 rfl (by kernel_rfl)) rfl ⟨rfl, ?_⟩
      exact below_row HB.out (Nat.le_refl _) _
end Go.Proofs.YteplphpbpaojjaaDoor.Bk
