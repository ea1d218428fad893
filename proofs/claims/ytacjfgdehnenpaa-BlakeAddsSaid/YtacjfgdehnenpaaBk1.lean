import Derived.Test.YtacjfgdehnenpaaProg
import Derived.Below
import Derived.Deep.Draws
import Derived.Deep.AppendLies
import Derived.Maps.AppendAt
import Derived.OwnWalk
import Derived.Laws.BytesArg
import Derived.Laws.MakeOwn
import Derived.Laws.OwnMore
import Derived.Deep.OwnRows
import Derived.Tactics
import Derived.Lib.ConvBytes
import Derived.Laws.Slices
import Derived.WalkKit
import Derived.KernelRfl
import Derived.RowKit3
import Derived.Deep.LoopGhost
import Derived.Deep.QuietTactic
import Derived.BigQuiet
import Derived.WideLaws
import Derived.Deep.DeepCutAuto
import Derived.Deep.CutBlock
import Derived.Deep.RegionHeld3
import Derived.Laws.Rows
import Derived.Lib.AppendStr
import Derived.ArgAppend
import Derived.Laws.IdiomCopy
import Derived.OrdersHeld
import Derived.Laws.BitsLemmas
import Derived.RowKit
import Derived.Test.YtacjfgdehnenpaaWWords
import Derived.Test.YtacjfgdehnenpaaWLast
import Derived.Test.YtacjfgdehnenpaaWMore
import Derived.BigRegion
import Derived.Outline
import Derived.Laws.CopyOwn
import Derived.Great.BuildSlice
namespace Go.Proofs.Ytacjfgdehnenpaa.Bk
open Go.RowKit Go.Proofs.YtacjfgdehnenpaaW.PrintWords Go.Proofs.YtacjfgdehnenpaaW.PrintLast Go.Proofs.YtacjfgdehnenpaaW.PrintMore
set_option linter.unusedVariables false
set_option linter.unusedSimpArgs false

/-- All is as it was but for one block (and a row), and what is new. -/
structure KeepBut (w w' : World) (g : Nat) (row : Option Nat) : Prop where
  size : w.heap.size ≤ w'.heap.size
  block : ∀ i, i < w.heap.size → i ≠ g → some i ≠ row → w'.heap[i]? = w.heap[i]?
  os : w'.os = w.os
  tape : w'.tape = w.tape
  output : w'.output = w.output
theorem KeepBut.refl (w : World) (g : Nat) (row : Option Nat) : KeepBut w w g row := ⟨Nat.le_refl _, fun _ _ _ _ => rfl, rfl, rfl, rfl⟩
theorem KeepBut.of_below {w w1 : World} (h : Below w.heap.size w w1) (g : Nat) (row : Option Nat) : KeepBut w w1 g row := ⟨h.size, fun i hi _ _ => h.block i hi, h.os, h.tape, h.output⟩
theorem KeepBut.trans {w w1 w2 : World} {g : Nat} (h : KeepBut w w1 g none) (k : KeepBut w1 w2 g none) : KeepBut w w2 g none :=
  ⟨Nat.le_trans h.size k.size, fun i hi hne hr => (k.block i (Nat.lt_of_lt_of_le hi h.size) hne hr).trans (h.block i hi hne hr), k.os.trans h.os, k.tape.trans h.tape, k.output.trans h.output⟩
theorem KeepBut.set_ {w w1 : World} {g : Nat} (h : KeepBut w w1 g none) (j : Nat) (u : Value) : KeepBut w (w1.setCell ⟨g, j, none⟩ u) g none :=
  ⟨by simpa using h.size, fun i hi hne hr => (Below.heap_setCell _ _ _ _ (fun e => hne e)).trans (h.block i hi hne hr), h.os, h.tape, h.output⟩
theorem KeepBut.below {w w1 : World} {g B : Nat} (h : KeepBut w w1 g none) (hB : B ≤ w.heap.size) (hg : B ≤ g) : Below B w w1 := ⟨h.os, h.tape, h.output, h.size, fun i hi => h.block i (Nat.lt_of_lt_of_le hi hB) (by omega) (by simp)⟩
theorem keep_drewN {w W : World} {g : Nat} {row : Option Nat} (h : KeepBut w W g row) (m : Nat) : KeepBut w (W.drewN m) g row := ⟨h.size, h.block, h.os, h.tape, h.output⟩
theorem keep_drew {w W : World} {g : Nat} {row : Option Nat} (h : KeepBut w W g row) : KeepBut w W.drew g row := ⟨h.size, h.block, h.os, h.tape, h.output⟩
theorem keep_alloc {w W : World} {g : Nat} (h : KeepBut w W g none) (o : Obj) : KeepBut w (W.alloc o) g none := h.trans (KeepBut.of_below (below_alloc (Below.refl _ _) o) g none)
theorem keep_cell {w W : World} {g : Nat} (h : KeepBut w W g none) {a : Addr} {v : Value} (hc : w.cell? a = some v) (hne : a.block ≠ g) : W.cell? a = some v := by
  have hl := World.block_lt_of_cell? w a hc
  have e := h.block a.block hl hne (by simp)
  unfold World.cell? at hc ⊢
  rw [e]
  exact hc
theorem run_index_cell {P : Program} (t e : TypeId) (n : Nat) (cs : Array Value) (j : Nat) (v : Value) (d : TypeDesc) (hu : P.underlying t = some (.array n e)) (he : P.underlying e = some d)
    (hd : (match d with | .struct _ | .array _ _ => true | _ => false) = false) (hs : (P.info? e).map (·.size) = some 1) (hj : j < n) (hv : cs[j]? = some v) (w : World) :
    (Instr.index t (.agg cs) (.int .i64 j)).run P w = .ok v w := by
  obtain ⟨i, hi, hz⟩ := Option.map_eq_some_iff.1 hs
  have hagg : (isAgg e).run P w = .ok false w := by
    unfold isAgg
    rw [Sem.run_bind, run_underlying he w]
    cases d <;> simp_all
  have h1 : (0 : Int) ≤ j ∧ (j : Int) < n := by omega
  simp [Instr.index, asIntOf, run_underlying hu, part, hagg, sizeOf, typeInfo, hi, hz, hj, hv]
theorem run_index_part {P : Program} (t e : TypeId) (n s : Nat) (cs : Array Value) (j : Nat) (d : TypeDesc) (hu : P.underlying t = some (.array n e)) (he : P.underlying e = some d)
    (hd : (match d with | .struct _ | .array _ _ => true | _ => false) = true) (hs : (P.info? e).map (·.size) = some s) (hj : j < n) (w : World) :
    (Instr.index t (.agg cs) (.int .i64 j)).run P w = .ok (.agg (cs.extract (j * s) (j * s + s))) w := by
  obtain ⟨i, hi, hz⟩ := Option.map_eq_some_iff.1 hs
  have hagg : (isAgg e).run P w = .ok true w := by
    unfold isAgg
    rw [Sem.run_bind, run_underlying he w]
    cases d <;> simp_all
  simp [Instr.index, asIntOf, run_underlying hu, part, hagg, sizeOf, typeInfo, hi, hz, hj]
/-- A turn of 32 bits down. -/
def turn (x a b : Int) : Int := Go.bits .or .u32 (x * b % 4294967296) (x / a)
set_option maxHeartbeats 1000000 in
theorem rot16 (x : Int) (w : World) : Calls Try.prog 36 #[.int .u32 x, .int .i64 (-16)] w fun e w' => e = .returned (.int .u32 (turn x 65536 65536)) ∧ w = w' := by
  have e : bits BinOp.and IntKind.u64 (IntKind.u64.wrap (-16)) 31 = 16 := by decide
  go_enter Try.func36, Try.ntmps36
  go_wp2
  go_ret
  exact ⟨rfl, rfl⟩
set_option maxHeartbeats 1000000 in
theorem rot12 (x : Int) (w : World) : Calls Try.prog 36 #[.int .u32 x, .int .i64 (-12)] w fun e w' => e = .returned (.int .u32 (turn x 4096 1048576)) ∧ w = w' := by
  have e : bits BinOp.and IntKind.u64 (IntKind.u64.wrap (-12)) 31 = 20 := by decide
  go_enter Try.func36, Try.ntmps36
  go_wp2
  go_ret
  exact ⟨rfl, rfl⟩
set_option maxHeartbeats 1000000 in
theorem rot8 (x : Int) (w : World) : Calls Try.prog 36 #[.int .u32 x, .int .i64 (-8)] w fun e w' => e = .returned (.int .u32 (turn x 256 16777216)) ∧ w = w' := by
  have e : bits BinOp.and IntKind.u64 (IntKind.u64.wrap (-8)) 31 = 24 := by decide
  go_enter Try.func36, Try.ntmps36
  go_wp2
  go_ret
  exact ⟨rfl, rfl⟩
set_option maxHeartbeats 1000000 in
theorem rot7 (x : Int) (w : World) : Calls Try.prog 36 #[.int .u32 x, .int .i64 (-7)] w fun e w' => e = .returned (.int .u32 (turn x 128 33554432)) ∧ w = w' := by
  have e : bits BinOp.and IntKind.u64 (IntKind.u64.wrap (-7)) 31 = 25 := by decide
  go_enter Try.func36, Try.ntmps36
  go_wp2
  go_ret
  exact ⟨rfl, rfl⟩

/-- The places of each round, and of each mixing. -/
def rowsL : List (List Int) := [[0, 1, 2, 3, 4, 5, 6, 7, 8, 9, 10, 11, 12, 13, 14, 15], [14, 10, 4, 8, 9, 15, 13, 6, 1, 12, 0, 2, 11, 7, 5, 3], [11, 8, 12, 0, 5, 2, 15, 13, 10, 14, 3, 6, 7, 1, 9, 4], [7, 9, 3, 1, 13, 12, 11, 14, 2, 6, 5, 10, 4, 0, 15, 8], [9, 0, 5, 7, 2, 4, 10, 15, 14, 1, 11, 12, 6, 8, 3, 13], [2, 12, 6, 10, 0, 11, 8, 3, 4, 13, 7, 5, 15, 14, 1, 9], [12, 5, 1, 15, 14, 13, 4, 10, 0, 7, 6, 3, 9, 2, 8, 11], [13, 11, 7, 14, 12, 1, 3, 9, 5, 0, 15, 4, 8, 6, 2, 10], [6, 15, 14, 9, 11, 3, 0, 8, 12, 2, 13, 7, 1, 4, 10, 5], [10, 2, 8, 4, 7, 6, 1, 5, 15, 11, 9, 14, 3, 12, 13, 0]]
def mixesL : List (List Int) := [[0, 4, 8, 12], [1, 5, 9, 13], [2, 6, 10, 14], [3, 7, 11, 15], [0, 5, 10, 15], [1, 6, 11, 12], [2, 7, 8, 13], [3, 4, 9, 14]]
def rowsC : Array Value := (rowsL.flatten.map (Value.int .u8)).toArray
def mixesC : Array Value := (mixesL.flatten.map (Value.int .i64)).toArray
def zeros160 : Array Value := (List.replicate 160 (Value.int .u8 0)).toArray
def zeros32 : Array Value := (List.replicate 32 (Value.int .i64 0)).toArray
theorem below_row {B g : Nat} {w0 w : World} (hb : Below B w0 w) (hBg : B ≤ g) (cs : Array Value) : Below B w0 (w.setRow g cs) := Go.below_setRow hb hBg cs
set_option maxHeartbeats 1000000 in
set_option maxRecDepth 100000 in
theorem rows_calls (w : World) : Calls Try.prog 30 #[] w fun e w' => e = .returned (.agg rowsC) ∧ Below w.heap.size w w' := by
  have hz : ∀ w, (zeroValue 65).run Try.prog w = .ok (.agg zeros160) w := fun w => by kernel_rfl
  go_enter Try.func30, Try.ntmps30
  go_wp2_with (first | (refine wpList_buildTo rfl 65 _ rfl _ rfl rowsC (by kernel_rfl) ?_) | (refine wpList_store_rowTo rfl 65 _ _ rfl rfl w.heap.size rowsC rfl rfl 65 zeros160 (heap_alloc_new w _) (by kernel_rfl) (by kernel_rfl) (by kernel_rfl) ?_))
  refine bodyPost_ret (v := .agg rowsC) (results_cell_row rfl _ _ w.heap.size 65 rowsC (0, 0) (.array 10 64) rfl (setRow_heap _ _ zeros160 _ _ _ (heap_alloc_new w _)) Try.underlying65 rfl (by kernel_rfl)) rfl ⟨rfl, ?_⟩
  exact below_row ((Below.refl _ _).alloc (Nat.le_refl _) _) (Nat.le_refl _) _
set_option maxHeartbeats 1000000 in
set_option maxRecDepth 100000 in
theorem mixes_calls (w : World) : Calls Try.prog 31 #[] w fun e w' => e = .returned (.agg mixesC) ∧ Below w.heap.size w w' := by
  have hz : ∀ w, (zeroValue 68).run Try.prog w = .ok (.agg zeros32) w := fun w => by kernel_rfl
  go_enter Try.func31, Try.ntmps31
  go_wp2_with (first | (refine wpList_buildTo rfl 68 _ rfl _ rfl mixesC (by kernel_rfl) ?_) | (refine wpList_store_rowTo rfl 68 _ _ rfl rfl w.heap.size mixesC rfl rfl 68 zeros32 (heap_alloc_new w _) (by kernel_rfl) (by kernel_rfl) (by kernel_rfl) ?_))
  refine bodyPost_ret (v := .agg mixesC) (results_cell_row rfl _ _ w.heap.size 68 mixesC (0, 0) (.array 8 67) rfl (setRow_heap _ _ zeros32 _ _ _ (heap_alloc_new w _)) Try.underlying68 rfl (by kernel_rfl)) rfl ⟨rfl, ?_⟩
  exact below_row ((Below.refl _ _).alloc (Nat.le_refl _) _) (Nat.le_refl _) _
end Go.Proofs.Ytacjfgdehnenpaa.Bk
