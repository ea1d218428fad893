import Derived.Test.YtapdnkmaklpoeaaProg
import Derived.Below
import Derived.Deep.Draws
import Derived.Deep.AppendLies
import Derived.Maps.AppendAt
import Derived.OwnWalk
import Derived.Laws.BytesArg
import Derived.Laws.MakeOwn
import Derived.Laws.OwnMore
import Derived.Deep.OwnRows
import Derived.Tactics
import Derived.Lib.ConvBytes
import Derived.Laws.Slices
import Derived.WalkKit
import Derived.KernelRfl
import Derived.RowKit3
import Derived.Deep.LoopGhost
import Derived.Deep.QuietTactic
import Derived.BigQuiet
import Derived.WideLaws
import Derived.Deep.DeepCutAuto
import Derived.Deep.CutBlock
import Derived.Deep.RegionHeld3
import Derived.Laws.Rows
import Derived.Lib.AppendStr
import Derived.ArgAppend
import Derived.Laws.IdiomCopy
import Derived.OrdersHeld
import Derived.Laws.BitsLemmas
import Derived.RowKit
import Derived.Test.YtapdnkmaklpoeaaWWords
import Derived.Test.YtapdnkmaklpoeaaWLast
import Derived.Test.YtapdnkmaklpoeaaWMore
import Derived.Test.YtapdnkmaklpoeaaBk8
import Derived.Great.BuildSlice
import Derived.Lib.LazyBuf
namespace Go.Proofs.Ytapdnkmaklpoeaa.Bk
open Go.RowKit Go.Proofs.YtapdnkmaklpoeaaW.PrintWords Go.Proofs.YtapdnkmaklpoeaaW.PrintLast Go.Proofs.YtapdnkmaklpoeaaW.PrintMore
set_option linter.unusedVariables false
set_option linter.unusedSimpArgs false

/-- The first numbers, by how long a key is. -/
def initL (k : Nat) : List Int := firstsL.set 0 (Go.bits .xor .u32 (firstsL.getD 0 0) (Go.bits .xor .u32 16842784 ((k : Int) % 4294967296 * 256 % 4294967296)))
def hashC : Array Value := ((nums .u32 firstsL) ++ [Value.slice none 0 0, Value.int .u64 0]).toArray
/-- What a new hash is. -/
def Made (w : World) (k : Nat) (b : List Int) (e : Ending) (w' : World) : Prop := ∃ g, e = .returned (.pointer (some ⟨g, 0, none⟩)) ∧ HS w' g (initL k) b 0 ∧ w.heap.size ≤ g ∧ Below w.heap.size w w'
set_option maxHeartbeats 2000000 in
set_option maxRecDepth 100000 in
theorem made_none (w : World) : Calls Try.prog 37 #[.string ⟨#[]⟩] w (Made w 0 []) := by
  go_enter Try.func37, Try.ntmps37
  go_wp2_with fail
  refine (firsts_calls _).mono ?_
  rintro e w1 ⟨rfl, hb1⟩
  have HB1 := Aside0.mk hb1
  clear hb1
  go_wp2_with (refine wpList_buildTo rfl 74 _ rfl _ rfl hashC (by kernel_rfl) ?_)
  have I0 : IsHash (w1.alloc (.cells hashC 74)) w1.heap.size firstsL (.slice none 0 0) 0 := ⟨blk_new w1 _, rfl⟩
  have HB2 := Aside0.mk (below_alloc HB1.out (.cells hashC 74))
  have HGE := Aside0.mk HB1.out.size
  generalize w1.alloc (.cells hashC 74) = W at *
  generalize w1.heap.size = G at *
  have c0 := I0.cell 0 (by decide)
  have f0 := I0.free 0
  have HI := Aside0.mk I0
  clear I0 HB1
  generalize hx : firstsL.getD 0 0 = x0 at c0
  have HX := Aside0.mk hx
  clear hx
  go_region
  go_wp2_with fail
  go_ret
  have e : IsHash (W.setCell ⟨G, 0, none⟩ (.int .u32 (bits BinOp.xor IntKind.u32 x0 (bits BinOp.xor IntKind.u32 16842784 0)))) G (initL 0) (.slice none 0 0) 0 := by
    have h := HI.out.put 0 (by decide) (bits BinOp.xor IntKind.u32 x0 (bits BinOp.xor IntKind.u32 16842784 0))
    rw [← HX.out] at h ⊢
    exact h
  exact ⟨G, rfl, ⟨⟨none, 0, ⟨e.blk, e.len⟩, Nat.le_refl 0, .inl ⟨rfl, rfl⟩, fun _ _ h => by cases h⟩, fun x hx => by cases hx⟩, HGE.out, (below_set HB2.out HGE.out).drew⟩
theorem made_cells (m : Nat) : madeCells #[.int .u8 0] m = (nums .u8 (List.replicate m 0)).toArray := by
  apply Array.ext'
  apply List.ext_getElem
  · simp [madeCells, nums]
  · intro j h1 h2
    simp [madeCells, nums, Nat.mod_one]
theorem make64 (m : Nat) (hm : m ≤ 281474976710656) (W : World) : (Instr.makeSlice 43 (.int .i64 (m : Int)) (.int .i64 (m : Int))).run Try.prog W = .ok (.slice (some ⟨W.heap.size, 0, none⟩) m m) (W.alloc (.cells (nums .u8 (List.replicate m 0)).toArray 5)) := by
  rw [← made_cells]
  exact print_make 43 5 .u8 1 Try.underlying43 infoByte (by decide) m (by omega) W
def zeros64 : Array Value := (nums .u8 (List.replicate 64 0)).toArray
theorem nums_drop (n k : Nat) : (nums .u8 (List.replicate n 0)).drop k = nums .u8 (List.replicate (n - k) 0) := by simp [nums]
/-- copy from a text onto the head of a row. -/
theorem copy_text {P : Program} (w : World) (dT sT ty e : TypeId) (i : TypeInfo) (hu : P.underlying dT = some (.slice e)) (hi : P.info? e = some i) (hs1 : i.size = 1) (g dLen dCap : Nat) (cur : Array Value) (hg : w.heap[g]? = some (.cells cur e (0, 0))) (s : ByteArray) (hle : s.size ≤ dLen) (hfit : s.size ≤ cur.size) :
    (Builtin.copy_ #[dT, sT] ty #[.slice (some ⟨g, 0, none⟩) dLen dCap, .string s]).run P w = .ok (goInt s.size) (w.setRow g (nums .u8 (strL s) ++ cur.toList.drop s.size).toArray) := by
  have hmin : Nat.min s.size dLen = s.size := Nat.min_eq_left hle
  have hst := run_storeCells_at P g 0 e (Lib.strCells s) 0 cur w hg (by rw [Lib.strCells_length]; omega) (Lib.strCells_oneCell s)
  simp only [Nat.add_zero, Nat.zero_add, Lib.strCells_length, List.take_zero, List.nil_append] at hst
  have hf := Lib.run_firstCells_string (P := P) w 1 s
  rw [← strL_cells]
  simp [Builtin.copy_, run_underlying hu, Builtin.lenOf, sizeOf, typeInfo, hi, hs1, hmin, hf, hst]
set_option maxHeartbeats 2000000 in
set_option maxRecDepth 100000 in
theorem made_key (key : ByteArray) (w : World) (h0 : 0 < key.size) (h1 : key.size ≤ 32) : Calls Try.prog 37 #[.string key] w (Made w key.size (strL key ++ List.replicate (64 - key.size) 0)) := by
  have hkb : key.size ≤ 9223372036854775807 := by omega
  have H0 := Aside0.mk h0
  have H1 := Aside0.mk h1
  clear h0 h1
  go_enter Try.func37, Try.ntmps37
  go_wp2_with fail
  refine (firsts_calls _).mono ?_
  rintro e w1 ⟨rfl, hb1⟩
  have HB1 := Aside0.mk hb1
  clear hb1
  go_wp2_with (refine wpList_buildTo rfl 74 _ rfl _ rfl hashC (by kernel_rfl) ?_)
  have I0 : IsHash (w1.alloc (.cells hashC 74)) w1.heap.size firstsL (.slice none 0 0) 0 := ⟨blk_new w1 _, rfl⟩
  have HB2 := Aside0.mk (below_alloc HB1.out (.cells hashC 74))
  have HGE := Aside0.mk HB1.out.size
  generalize w1.alloc (.cells hashC 74) = W at *
  generalize w1.heap.size = G at *
  have c0 := I0.cell 0 (by decide)
  have f0 := I0.free 0
  have HI := Aside0.mk I0
  clear I0 HB1
  generalize hx : firstsL.getD 0 0 = x0 at c0
  have HX := Aside0.mk hx
  clear hx
  go_region
  have I1 : IsHash (W.setCell ⟨G, 0, none⟩ (.int .u32 (bits BinOp.xor IntKind.u32 x0 (bits BinOp.xor IntKind.u32 16842784 ((key.size : Int) % 4294967296 * 256 % 4294967296))))).drew G (initL key.size) (.slice none 0 0) 0 := by
    have h := HI.out.put 0 (by decide) (bits BinOp.xor IntKind.u32 x0 (bits BinOp.xor IntKind.u32 16842784 ((key.size : Int) % 4294967296 * 256 % 4294967296)))
    rw [← HX.out] at h ⊢
    exact ⟨h.blk, h.len⟩
  have HI1 := Aside0.mk I1
  have HB3 := Aside0.mk (below_drew (below_set (j := 0) (v := .int .u32 (bits BinOp.xor IntKind.u32 x0 (bits BinOp.xor IntKind.u32 16842784 ((key.size : Int) % 4294967296 * 256 % 4294967296)))) HB2.out HGE.out))
  generalize (W.setCell ⟨G, 0, none⟩ (.int .u32 (bits BinOp.xor IntKind.u32 x0 (bits BinOp.xor IntKind.u32 16842784 ((key.size : Int) % 4294967296 * 256 % 4294967296))))).drew = W1 at *
  clear I1 HI HB2 c0 f0
  have c8 := HI1.out.cell8
  have f8 := HI1.out.free 8
  have hlt := HI1.out.lt
  have hmk : ∀ W : World, (Instr.makeSlice 43 (.int .i64 64) (.int .i64 64)).run Try.prog W = .ok (.slice (some ⟨W.heap.size, 0, none⟩) 64 64) (W.alloc (.cells zeros64 5)) := make64 64 (by decide)
  have hne : (!key.toList.isEmpty) = true := by
    have h := H0.out
    rw [Lib.size_eq] at h
    rw [Lib.toList_data]
    cases hk : key.data.toList with
    | nil => rw [hk] at h; exact absurd h (by decide)
    | cons a l => rfl
  obtain ⟨i0, hi, hz0, hz1, hz2⟩ := info_parts infoByte
  have E8 := HI1.out.put8 (.slice (some ⟨W1.heap.size, 0, none⟩) 64 64)
  have E8' := E8.kept (Below.heap_alloc _ (.cells zeros64 5) G E8.lt)
  have hg : ((W1.setCell ⟨G, 8, none⟩ (.slice (some ⟨W1.heap.size, 0, none⟩) 64 64)).alloc (.cells zeros64 5)).heap[W1.heap.size]? = some (.cells zeros64 5 (0, 0)) := by
    have h := blk_new (W1.setCell ⟨G, 8, none⟩ (.slice (some ⟨W1.heap.size, 0, none⟩) 64 64)) (.cells zeros64 5)
    rwa [show (W1.setCell ⟨G, 8, none⟩ (.slice (some ⟨W1.heap.size, 0, none⟩) 64 64)).heap.size = W1.heap.size by simp] at h
  have hr := Aside0.mk (copy_text (P := Try.prog) _ 43 9 3 5 i0 Try.underlying43 hi hz1 W1.heap.size 64 64 zeros64 hg key (by have := H1.out; omega) (by have := H1.out; show _ ≤ 64; omega))
  have HB4 := Aside0.mk (below_alloc (below_set (j := 8) (v := .slice (some ⟨W1.heap.size, 0, none⟩) 64 64) HB3.out HGE.out) (.cells zeros64 5))
  have hcs : nums .u8 (strL key) ++ zeros64.toList.drop key.size = nums .u8 (strL key ++ List.replicate (64 - key.size) 0) := by
    have : zeros64.toList = nums .u8 (List.replicate 64 0) := rfl
    rw [this, nums_drop, nums, nums, nums, List.map_append]
  have HZ := Aside0.mk (setRow_heap _ _ _ (nums .u8 (strL key ++ List.replicate (64 - key.size) 0)).toArray _ _ hg)
  have HE := Aside0.mk (E8'.kept (setRow_other _ W1.heap.size G (nums .u8 (strL key ++ List.replicate (64 - key.size) 0)).toArray (by omega)))
  have HB5 := Aside0.mk (below_row HB4.out (show w.heap.size ≤ W1.heap.size by have := HGE.out; omega) (nums .u8 (strL key ++ List.replicate (64 - key.size) 0)).toArray)
  have hr2 := hr.out
  rw [hcs] at hr2
  have HR := Aside0.mk hr2
  have HLT := Aside0.mk hlt
  clear hr hr2 hg E8 E8' HB4 hcs hi hz0 hz1 hz2
  have hr3 := HR.out
  go_wp2_with fail
  go_ret
  have hll : (strL key ++ List.replicate (64 - key.size) 0).length = 64 := by
    have := H1.out
    rw [List.length_append, List.length_replicate, strL_len]
    omega
  refine ⟨G, rfl, ⟨⟨some ⟨W1.heap.size, 0, none⟩, 64, by rw [hll]; exact HE.out, by omega, ?_, ?_⟩, ?_⟩, HGE.out, HB5.out⟩
  · refine .inr ⟨_, 0, rfl, blk_lt HZ.out, fun j u hj => ?_⟩
    rw [Nat.zero_add, blk_cell HZ.out, List.getElem?_toArray]
    exact hj
  · intro x y hxy
    injection hxy with h
    injection h with h1 h2
    have := HLT.out
    omega
  · intro x hx
    rcases List.mem_append.1 hx with h | h
    · exact strL_by key x h
    · have := List.eq_of_mem_replicate h
      omega
set_option maxHeartbeats 1000000 in
theorem new_calls (w : World) : Calls Try.prog 29 #[] w (Made w 0 []) := by
  go_enter Try.func29, Try.ntmps29
  go_wp2_with fail
  refine (made_none _).mono ?_
  rintro e w1 ⟨g, rfl, hH, hge, hB⟩
  have HH := Aside0.mk hH
  have HB := Aside0.mk hB
  clear hH hB
  go_wp2_with fail
  go_ret
  exact ⟨g, rfl, HH.out, hge, HB.out⟩
end Go.Proofs.Ytapdnkmaklpoeaa.Bk
