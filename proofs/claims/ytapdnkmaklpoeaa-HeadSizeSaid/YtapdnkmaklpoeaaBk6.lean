import Derived.Test.YtapdnkmaklpoeaaProg
import Derived.Below
import Derived.Deep.Draws
import Derived.Deep.AppendLies
import Derived.Maps.AppendAt
import Derived.OwnWalk
import Derived.Laws.BytesArg
import Derived.Laws.MakeOwn
import Derived.Laws.OwnMore
import Derived.Deep.OwnRows
import Derived.Tactics
import Derived.Lib.ConvBytes
import Derived.Laws.Slices
import Derived.WalkKit
import Derived.KernelRfl
import Derived.RowKit3
import Derived.Deep.LoopGhost
import Derived.Deep.QuietTactic
import Derived.BigQuiet
import Derived.WideLaws
import Derived.Deep.DeepCutAuto
import Derived.Deep.CutBlock
import Derived.Deep.RegionHeld3
import Derived.Laws.Rows
import Derived.Lib.AppendStr
import Derived.ArgAppend
import Derived.Laws.IdiomCopy
import Derived.OrdersHeld
import Derived.Laws.BitsLemmas
import Derived.RowKit
import Derived.Test.YtapdnkmaklpoeaaWWords
import Derived.Test.YtapdnkmaklpoeaaWLast
import Derived.Test.YtapdnkmaklpoeaaWMore
import Derived.Test.YtapdnkmaklpoeaaBk5
import Derived.Deep.LoopGhost
import Derived.Deep.RegionLaw
import Derived.IntWalk
namespace Go.Proofs.Ytapdnkmaklpoeaa.Bk
open Go.RowKit Go.Proofs.YtapdnkmaklpoeaaW.PrintWords Go.Proofs.YtapdnkmaklpoeaaW.PrintLast Go.Proofs.YtapdnkmaklpoeaaW.PrintMore
set_option linter.unusedVariables false
set_option linter.unusedSimpArgs false

/-- The bytes of a text, as numbers. -/
def strL (s : ByteArray) : List Int := s.data.toList.map fun b => (b.toNat : Int)
theorem strL_len (s : ByteArray) : (strL s).length = s.size := by rw [strL, List.length_map, Array.length_toList]; rfl
theorem strL_cells (s : ByteArray) : Lib.strCells s = nums .u8 (strL s) := by simp [Lib.strCells, nums, strL]
theorem strL_by (s : ByteArray) : ∀ x ∈ strL s, 0 ≤ x ∧ x < 256 := by
  intro x hx
  obtain ⟨b, _, rfl⟩ := List.mem_map.1 hx
  have := b.toNat_lt
  omega
/-- A slice whose bytes are b. -/
def Holds (w : World) (A : Option Addr) (b : List Int) : Prop :=
  (A = none ∧ b = []) ∨ ∃ bb off, A = some ⟨bb, off, none⟩ ∧ bb < w.heap.size ∧ ∀ j u, (nums .u8 b)[j]? = some u → w.cell? ⟨bb, off + j, none⟩ = some u
/-- It lies in no block below n, or where it lay. -/
def Moved (n : Nat) (A A' : Option Addr) : Prop := A' = A ∨ ∀ bb off, A' = some ⟨bb, off, none⟩ → n ≤ bb
section
variable {P : Program} {w : World}
theorem holds_new (w : World) (e : TypeId) (ys : List Int) (rest : List Value) : Holds (w.alloc (.cells (nums .u8 ys ++ rest).toArray e)) (some ⟨w.heap.size, 0, none⟩) ys := by
  refine .inr ⟨_, 0, rfl, by simp, fun j u hj => ?_⟩
  rw [Nat.zero_add, blk_cell (blk_new w _), List.getElem?_toArray, List.getElem?_append_left (List.getElem?_eq_some_iff.1 hj).1, hj]
theorem moved_new {n : Nat} {A : Option Addr} : Moved n A (some ⟨n, 0, none⟩) := .inr fun x y hxy => by injection hxy with h; injection h with h; omega
theorem app_string (t u ty e : TypeId) (i : TypeInfo) (ht : P.underlying t = some (.slice e)) (hu : P.underlying u = some .string) (hi : P.info? e = some i) (hz : i.zero = some (.int .u8 0)) (hs1 : i.size = 1) (hby : i.bytes = 1)
    (A : Option Addr) (b : List Int) (hA : Holds w A b) (s : ByteArray) (hl : b.length + s.size ≤ 140737488355328) :
    ∃ A' c w', (Builtin.append_ #[t, u] ty #[.slice A b.length b.length, .string s]).run P w = .ok (.slice A' (b ++ strL s).length c) w' ∧ (b ++ strL s).length ≤ c ∧ Below w.heap.size w w' ∧ Holds w' A' (b ++ strL s) ∧ Moved w.heap.size A A' := by
  by_cases hm : s.size = 0
  · have hn : strL s = [] := List.eq_nil_of_length_eq_zero (by rw [strL_len]; exact hm)
    rw [hn, List.append_nil]
    refine ⟨A, b.length, w, ?_, Nat.le_refl _, Below.refl _ _, hA, .inl rfl⟩
    have hf := Lib.run_firstCells_string (P := P) w 1 s
    have hnc : Lib.strCells s = [] := by rw [strL_cells, hn]; rfl
    rw [hnc] at hf
    have hst : ∀ a, (storeCells a ([] : List Value)).run P w = .ok () w := fun a => by simp [storeCells]
    rw [hm] at hf
    rcases A with _ | ad
    · simp [Builtin.append_, run_underlying ht, run_underlying hu, sizeOf, typeInfo, hi, hs1, Builtin.lenOf, hm, hf]
    · simp [Builtin.append_, run_underlying ht, run_underlying hu, sizeOf, typeInfo, hi, hs1, Builtin.lenOf, hm, hf, hst]
  · have hel : (b ++ strL s).length = b.length + s.size := by rw [List.length_append, strL_len]
    have hcells : ∀ k, (nums .u8 b).toArray ++ (Lib.strCells s).toArray ++ Builtin.zeroCells (Value.int .u8 0).cells k = ((nums .u8 (b ++ strL s)) ++ (Builtin.zeroCells (Value.int .u8 0).cells k).toList).toArray := by
      intro k
      rw [strL_cells]
      apply Array.ext'
      simp [nums]
    rcases hA with ⟨rfl, rfl⟩ | ⟨bb, off, rfl, hlt, hc⟩
    · have hr := run_append_nil_string (P := P) w t u ty e i (.int .u8 0) ht hu hi hz s (by omega) (by simp at hl; omega) (by rw [hby]; simp at hl; omega)
      have hcn : ∀ k, s.data.map (fun b => Value.int .u8 b.toNat) ++ Builtin.zeroCells (Value.int .u8 0).cells k = ((nums .u8 (strL s)) ++ (Builtin.zeroCells (Value.int .u8 0).cells k).toList).toArray := by
        intro k
        apply Array.ext'
        simp [nums, strL]
      rw [hcn] at hr
      refine ⟨_, _, _, by rw [List.nil_append, strL_len]; exact hr, ?_, below_alloc (below_drew (Below.refl _ _)) _, ?_, moved_new⟩
      · rw [List.nil_append, strL_len]; exact grownCap_ge w s.size 0 e
      · exact holds_new w.drew e (strL s) _
    · have hr := Lib.run_append_grow_string (P := P) w t u ty e i (.int .u8 0) ht hu hi hz ⟨bb, off, none⟩ b.length b.length (nums .u8 b) (by rw [hs1, nums_length]; omega) (fun j v hv => by rw [Addr.add_lit]; exact hc j v hv) s (by omega) (by omega) (by rw [hby]; exact growslice_fits (by omega) (by omega))
      rw [hcells] at hr
      refine ⟨_, _, _, by rw [hel]; exact hr, ?_, below_alloc (below_drew (Below.refl _ _)) _, ?_, moved_new⟩
      · rw [hel]; exact grownCap_ge w (b.length + s.size) b.length e
      · exact holds_new w.drew e (b ++ strL s) _
theorem app_zeros (t u ty e : TypeId) (i : TypeInfo) (k : IntKind) (ht : P.underlying t = some (.slice e)) (hu : P.underlying u = some (.int k)) (hi : P.info? e = some i) (hz : i.zero = some (.int .u8 0)) (hs1 : i.size = 1) (hby : i.bytes = 1)
    (A : Option Addr) (b : List Int) (hA : Holds w A b) (m : Nat) (hb : b.length + m = 64) :
    ∃ A' c w', (Builtin.append_ #[t, u] ty #[.slice A b.length b.length, .int .i64 m]).run P w = .ok (.slice A' (b ++ List.replicate m 0).length c) w' ∧ (b ++ List.replicate m 0).length ≤ c ∧ Below w.heap.size w w' ∧ Holds w' A' (b ++ List.replicate m 0) := by
  have hw : IntKind.i64.wrap (m : Int) = m := IntWalk.i64_in _ (by omega)
  have hneg : ¬ ((m : Int) < 0) := by omega
  have hbig : ¬ ((m : Int) * 1 > 2 ^ 48) := by omega
  have hst : ∀ a, (storeCells a ([] : List Value)).run P w = .ok () w := fun a => by simp [storeCells]
  have hw0 : IntKind.i64.wrap 0 = 0 := by decide
  by_cases hm : m = 0
  · subst hm
    refine ⟨A, b.length, w, ?_, by simp, Below.refl _ _, by simpa using hA⟩
    rcases A with _ | ad
    · simp [Builtin.append_, run_underlying ht, run_underlying hu, sizeOf, typeInfo, hi, hs1, hby, asInt, asIntOf, hw0]
    · simp [Builtin.append_, run_underlying ht, run_underlying hu, sizeOf, typeInfo, hi, hs1, hby, asInt, asIntOf, hst, hw0]
  · have hn : ¬ (b.length + m ≤ b.length) := by omega
    have h63 : ¬ (9223372036854775807 < (b.length : Int) + (m : Int)) := by omega
    have h48 : ¬ (281474976710656 < Builtin.nextslicecap (b.length + m) b.length) := by
      have := growslice_fits (need := b.length + m) (old := b.length) (bytes := 1) (by omega) (by omega)
      omega
    have hm48 : ¬ ((281474976710656 : Int) < (m : Int)) := by omega
    have hzc : Builtin.zeroCells (Value.int .u8 0).cells m = (nums .u8 (List.replicate m 0)).toArray := by
      apply Array.ext'
      apply List.ext_getElem
      · simp [Builtin.zeroCells, nums, Value.cells]
      · intro j h1 h2
        simp [Builtin.zeroCells, nums, Value.cells, Nat.mod_one]
    have hf : (Builtin.firstCells 1 b.length (.slice A b.length b.length)).run P w.drew = .ok (nums .u8 b).toArray w.drew := by
      rcases hA with ⟨rfl, rfl⟩ | ⟨bb, off, rfl, hlt, hc⟩
      · exact run_firstCells_none ..
      · exact run_firstCells_some (P := P) w.drew 1 b.length ⟨bb, off, none⟩ b.length b.length (nums .u8 b) (by rw [nums_length]; omega) (fun j v hv => by rw [Addr.add_lit]; exact hc j v hv)
    refine ⟨some ⟨w.heap.size, 0, none⟩, grownCap w (b.length + m) b.length e, w.drew.alloc (.cells (nums .u8 (b ++ List.replicate m 0) ++ (Builtin.zeroCells (Value.int .u8 0).cells (grownCap w (b.length + m) b.length e - (b.length + m))).toList).toArray e), ?_, ?_, below_alloc (below_drew (Below.refl _ _)) _, ?_⟩
    · simp [Builtin.append_, run_underlying ht, run_underlying hu, sizeOf, typeInfo, zeroValue, hi, hz, hs1, hby, asInt, asIntOf, hw, hn, h63, h48, hm, hm48, hneg, hf, Question.forced, newRow, grownCap]
      congr 2
      rw [hzc]
      apply Array.ext'
      simp [nums]
    · rw [List.length_append, List.length_replicate]; exact grownCap_ge w (b.length + m) b.length e
    · exact holds_new w.drew e (b ++ List.replicate m 0) _
end
end Go.Proofs.Ytapdnkmaklpoeaa.Bk
