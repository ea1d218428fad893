import Derived.Test.YtacjfgdehnenpaaProg
import Derived.Below
import Derived.Deep.Draws
import Derived.Deep.AppendLies
import Derived.Maps.AppendAt
import Derived.OwnWalk
import Derived.Laws.BytesArg
import Derived.Laws.MakeOwn
import Derived.Laws.OwnMore
import Derived.Deep.OwnRows
import Derived.Tactics
import Derived.Lib.ConvBytes
import Derived.Laws.Slices
import Derived.WalkKit
import Derived.KernelRfl
import Derived.RowKit3
import Derived.Deep.LoopGhost
import Derived.Deep.QuietTactic
import Derived.BigQuiet
import Derived.WideLaws
import Derived.Deep.DeepCutAuto
import Derived.Deep.CutBlock
import Derived.Deep.RegionHeld3
import Derived.Laws.Rows
import Derived.Lib.AppendStr
import Derived.ArgAppend
import Derived.Laws.IdiomCopy
import Derived.OrdersHeld
import Derived.Laws.BitsLemmas
import Derived.RowKit
import Derived.Test.YtacjfgdehnenpaaWWords
import Derived.Test.YtacjfgdehnenpaaWLast
import Derived.Test.YtacjfgdehnenpaaWMore
import Derived.Test.YtacjfgdehnenpaaBk7
import Derived.Lib.Strings
import Derived.Lib.Slices
import Derived.Lib.Walk
import Derived.Lib.Builder
import Derived.Lib.UnsafeStr
import Derived.Lib.LazyBuf
import Derived.Laws.Externs
import Derived.IntWalk
import Derived.Great.BuildSlice
namespace Go.Proofs.Ytacjfgdehnenpaa.Bk
open Go.RowKit Go.Proofs.YtacjfgdehnenpaaW.PrintWords Go.Proofs.YtacjfgdehnenpaaW.PrintLast Go.Proofs.YtacjfgdehnenpaaW.PrintMore
set_option linter.unusedVariables false
set_option linter.unusedSimpArgs false

theorem sizeBuilder : (Try.prog.info? 53).map (·.size) = some 2 := by kernel_rfl
set_option maxHeartbeats 1000000 in
set_option maxRecDepth 100000 in
theorem copyCheck_used (b : Nat) (w : World) (h0 : w.cell? ⟨b, 0, none⟩ = some (.pointer (some ⟨b, 0, none⟩))) :
    Calls Try.prog 33 #[.pointer (some ⟨b, 0, none⟩)] w fun e w' => e = .returned (.tuple #[]) ∧ w' = w := by
  obtain ⟨j, hj, _⟩ := Option.map_eq_some_iff.1 sizeBuilder
  go_enter Try.func33, Try.ntmps33
  go_wp2
  rw [Lib.run_neq_ptr_same w _ Try.underlying51 hj]
  go_wp2
  go_end0
  exact ⟨rfl, rfl⟩
set_option maxHeartbeats 1000000 in
set_option maxRecDepth 100000 in
theorem copyCheck_fresh (b : Nat) (w : World) (h0 : w.cell? ⟨b, 0, none⟩ = some (.pointer none)) (hsh : w.shape? b = some (53, 2)) (hfz : w.frozen? ⟨b, 0, none⟩ = false) :
    Calls Try.prog 33 #[.pointer (some ⟨b, 0, none⟩)] w fun e w' => e = .returned (.tuple #[]) ∧ w' = w.setCell ⟨b, 0, none⟩ (.pointer (some ⟨b, 0, none⟩)) := by
  obtain ⟨j, hj, hjs⟩ := Option.map_eq_some_iff.1 sizeBuilder
  go_enter Try.func33, Try.ntmps33
  go_wp2
  rw [Lib.run_to_unsafe w ⟨b, 0, none⟩ Try.underlying51 Try.underlying81 hj (by rw [hjs]; decide) hsh (Nat.zero_lt_succ 1)]
  simp only [Result.andThen]
  rw [Oper.upon_value]
  go_wp2
  rw [run_callFunc_extern Try.func37 (by kernel_rfl) (by kernel_rfl) (by kernel_rfl) (e := Extern.AbiNoEscape.same) (by kernel_rfl)]
  rw [Lib.run_noEscape]
  simp only [Result.andThen]
  rw [Oper.upon_value]
  go_wp2
  rw [Lib.run_from_unsafe w ⟨b, 0, none⟩ Try.underlying81 Try.underlying51 hj hsh (by kernel_rfl)]
  simp only [Result.andThen]
  rw [Oper.upon_value]
  go_wp2
  go_end0
  exact ⟨rfl, rfl⟩
theorem copyCheck (B b : Nat) (bs : List Value) (w : World) (h : Lib.IsBuilder 53 5 B b bs w) :
    Calls Try.prog 33 #[.pointer (some ⟨b, 0, none⟩)] w fun e w' => e = .returned (.tuple #[]) ∧ (Lib.BuilderAt 53 5 B b (.pointer (some ⟨b, 0, none⟩)) bs w' ∧ Below B w w') := by
  rcases h with h | h
  · refine (copyCheck_fresh b w h.cell0 h.shape h.frozen0).mono ?_
    rintro e w' ⟨rfl, rfl⟩
    exact ⟨rfl, h.used _, (Below.refl B w).setCell (p := ⟨b, 0, none⟩) h.1 _⟩
  · refine (copyCheck_used b w h.cell0).mono ?_
    rintro e w' ⟨rfl, rfl⟩
    exact ⟨rfl, h, Below.refl B _⟩
theorem infoByte : (Try.prog.info? 5).map (fun i => (i.zero, i.size, i.bytes)) = some (some (.int .u8 0), 1, 1) := by kernel_rfl
set_option maxHeartbeats 2000000 in
set_option maxRecDepth 100000 in
theorem writeByte (B b : Nat) (bs : List Value) (c : Int) (w : World) (h : Lib.IsBuilder 53 5 B b bs w) (hlen : bs.length + 1 ≤ 140737488355328) (hBw : B ≤ w.heap.size) :
    Calls Try.prog 22 #[.pointer (some ⟨b, 0, none⟩), .int .u8 c] w fun e w' => e = .returned .nilIface ∧ (Lib.BuilderAt 53 5 B b (.pointer (some ⟨b, 0, none⟩)) (bs ++ [.int .u8 c]) w' ∧ Below B w w') := by
  obtain ⟨i0, hi, hz0, hz1, hz2⟩ := info_parts infoByte
  go_enter Try.func22, Try.ntmps22
  go_wp2_with fail
  refine (copyCheck B b bs _ h).mono ?_
  rintro e w1 ⟨rfl, h1, hb1⟩
  obtain ⟨hB, v, hbk, hown, hne⟩ := h1
  have c0 : w1.cell? ⟨b, 0, none⟩ = some (.pointer (some ⟨b, 0, none⟩)) := by rw [Lib.cell_of_heap hbk]; rfl
  have c1 : w1.cell? ⟨b, 1, none⟩ = some v := by rw [Lib.cell_of_heap hbk]; rfl
  go_wp2_with (at_builtin; refine wpList_append_own _ rfl _ _ 45 rfl B 5 i0 (.int .u8 0) 1 1 Try.underlying45 hi hz0 hz1 hz2 rfl (by decide) _ _ _ rfl (hown.alloc _) ⟨w1.heap.size, 0, none⟩ 1 1 [.int .u8 c] rfl rfl ?c1 ?c2 ?c3 ?c4 ?c5 ?_)
  case c1 =>
    intro j u hj
    match j, hj with
    | 0, hj => simp at hj; subst hj; simp [Addr.add]
  case c2 => intro u hu; simp at hu; subst hu; rfl
  case c3 => unfold maxLen; omega
  case c4 => omega
  case c5 => have := hb1.size; simp; omega
  intro v' w2 hown' hgrow _
  have hlt : b < w1.heap.size := blk_lt hbk
  have hb2 : w2.heap[b]? = some (.cells #[.pointer (some ⟨b, 0, none⟩), v] 53 (0, 0)) := by
    rw [hgrow.block b (by simp; omega) (fun e => hne e.symm), Lib.alloc_old w1 _ b hlt]
    exact hbk
  have d0 : w2.cell? ⟨b, 0, none⟩ = some (.pointer (some ⟨b, 0, none⟩)) := by rw [Lib.cell_of_heap hb2]; rfl
  have d1 : w2.cell? ⟨b, 1, none⟩ = some v := by rw [Lib.cell_of_heap hb2]; rfl
  have f1 : w2.frozen? ⟨b, 1, none⟩ = false := Lib.frozen_of_heap hb2 1
  obtain ⟨g, cap, rfl⟩ : ∃ g cap, v' = .slice (some ⟨g, 0, none⟩) (bs.length + 1) cap := by
    rcases hown'.2 with ⟨_, h0⟩ | ⟨g, cap, cur, hv, _⟩
    · omega
    · exact ⟨g, cap, hv⟩
  go_wp2
  go_ret
  refine ⟨rfl, ?_, ?_⟩
  · exact Lib.BuilderAt.put (T := 53) (e := 5) hB hb2 (bs' := bs ++ [.int .u8 c]) (by simpa using hown') (by decide)
  · exact ((hb1.alloc (by have := hb1.size; omega) _).grown hgrow (by have := hb1.size; simp; omega) (fun k hk => (hown.lt k hk).1)).setCell (p := ⟨b, 1, none⟩) hB _
set_option maxHeartbeats 1000000 in
set_option maxRecDepth 100000 in
theorem builderString (B b : Nat) (l : List UInt8) (w : World) (h : Lib.IsBuilder 53 5 B b (Lib.byteCells l) w) (h0 : l ≠ []) :
    Calls Try.prog 23 #[.pointer (some ⟨b, 0, none⟩)] w fun e w' => e = .returned (.string ⟨l.toArray⟩) ∧ Below B w w' := by
  obtain ⟨p, hB, v, hbk, hown, hne⟩ : ∃ p, Lib.BuilderAt 53 5 B b p (Lib.byteCells l) w := by
    rcases h with h | h
    · exact ⟨_, h⟩
    · exact ⟨_, h⟩
  have hl0 : l.length ≠ 0 := by simpa using h0
  rw [Lib.byteCells_length] at hown
  obtain ⟨g, cap, cur, rfl, hbg, hg, hnc, hcm, hcs, htake⟩ : ∃ g cap cur, v = .slice (some ⟨g, 0, none⟩) l.length cap ∧ B ≤ g ∧ w.heap[g]? = some (.cells cur 5 (0, 0)) ∧ l.length ≤ cap ∧ cap ≤ maxLen ∧ cur.size = cap * 1 ∧ cur.toList.take (l.length * 1) = Lib.byteCells l := by
    rcases hown.2 with ⟨_, hz⟩ | ⟨g, cap, cur, hv, r⟩
    · exact absurd hz hl0
    · exact ⟨g, cap, cur, hv, r⟩
  have c1 : w.drew.cell? ⟨b, 1, none⟩ = some (.slice (some ⟨g, 0, none⟩) l.length cap) := by
    have : w.drew.heap[b]? = some (.cells #[p, .slice (some ⟨g, 0, none⟩) l.length cap] 53 (0, 0)) := hbk
    rw [Lib.cell_of_heap this]; rfl
  have hSD : (Builtin.unsafeSliceData_ #[45] 72 #[.slice (some ⟨g, 0, none⟩) l.length cap]).run Try.prog w.drew = .ok (.pointer (some ⟨g, 0, none⟩)) w.drew :=
    Lib.run_unsafeSliceData_row _ _ _ _ _ _ (by omega)
  have hUS : (Builtin.unsafeString_ #[72, 3] 9 #[.pointer (some ⟨g, 0, none⟩), .int .i64 l.length]).run Try.prog w.drew = .ok (.string ⟨l.toArray⟩) (w.drew.freeze ⟨g, 0, none⟩ l.length) := by
    refine Lib.run_unsafeString_row w.drew 72 3 9 5 Try.underlying72 (by kernel_rfl) g cur.size (by have hg' : w.drew.heap[g]? = some (.cells cur 5 (0, 0)) := hg; simp [World.shape?, hg']) l h0 (by omega) (by unfold maxLen at hcm; omega) ?_
    intro j x hx
    have := hown.cells (g := g) rfl j (.int .u8 x.toNat) (by simp [Lib.byteCells, hx])
    exact this
  go_enter Try.func23, Try.ntmps23
  go_wp2
  go_region
  all_goals (go_wp2; go_ret; exact ⟨rfl, Lib.below_freeze (Below.drew (Below.refl B w)) (p := ⟨g, 0, none⟩) hbg _⟩)

end Go.Proofs.Ytacjfgdehnenpaa.Bk
namespace Go.Proofs.Ytacjfgdehnenpaa.Bk
open Go.RowKit Go.Proofs.YtacjfgdehnenpaaW.PrintWords Go.Proofs.YtacjfgdehnenpaaW.PrintLast Go.Proofs.YtacjfgdehnenpaaW.PrintMore
set_option linter.unusedVariables false
set_option linter.unusedSimpArgs false

/-- The first numbers, by how long a key is. -/
def initL (k : Nat) : List Int := firstsL.set 0 (Go.bits .xor .u32 (firstsL.getD 0 0) (Go.bits .xor .u32 16842784 ((k : Int) % 4294967296 * 256 % 4294967296)))
def hashC : Array Value := ((nums .u32 firstsL) ++ [Value.slice none 0 0, Value.int .u64 0]).toArray
/-- What a new hash is. -/
def Made (w : World) (k : Nat) (b : List Int) (e : Ending) (w' : World) : Prop := ∃ g, e = .returned (.pointer (some ⟨g, 0, none⟩)) ∧ HS w' g (initL k) b 0 ∧ w.heap.size ≤ g ∧ Below w.heap.size w w'
set_option maxHeartbeats 2000000 in
set_option maxRecDepth 100000 in
theorem made_none (w : World) : Calls Try.prog 19 #[.string ⟨#[]⟩] w (Made w 0 []) := by
  go_enter Try.func19, Try.ntmps19
  go_wp2_with fail
  refine (firsts_calls _).mono ?_
  rintro e w1 ⟨rfl, hb1⟩
  have HB1 := Aside0.mk hb1
  clear hb1
  go_wp2_with (refine wpList_buildTo rfl 48 _ rfl _ rfl hashC (by kernel_rfl) ?_)
  have I0 : IsHash (w1.alloc (.cells hashC 48)) w1.heap.size firstsL (.slice none 0 0) 0 := ⟨blk_new w1 _, rfl⟩
  have HB2 := Aside0.mk (below_alloc HB1.out (.cells hashC 48))
  have HGE := Aside0.mk HB1.out.size
  generalize w1.alloc (.cells hashC 48) = W at *
  generalize w1.heap.size = G at *
  have c0 := I0.cell 0 (by decide)
  have f0 := I0.free 0
  have HI := Aside0.mk I0
  clear I0 HB1
  generalize hx : firstsL.getD 0 0 = x0 at c0
  have HX := Aside0.mk hx
  clear hx
  go_region
  go_wp2_with fail
  go_ret
  have e : IsHash (W.setCell ⟨G, 0, none⟩ (.int .u32 (bits BinOp.xor IntKind.u32 x0 (bits BinOp.xor IntKind.u32 16842784 0)))) G (initL 0) (.slice none 0 0) 0 := by
    have h := HI.out.put 0 (by decide) (bits BinOp.xor IntKind.u32 x0 (bits BinOp.xor IntKind.u32 16842784 0))
    rw [← HX.out] at h ⊢
    exact h
  exact ⟨G, rfl, ⟨⟨none, 0, ⟨e.blk, e.len⟩, Nat.le_refl 0, .inl ⟨rfl, rfl⟩, fun _ _ h => by cases h⟩, fun x hx => by cases hx⟩, HGE.out, (below_set HB2.out HGE.out).drew⟩
theorem made_cells (m : Nat) : madeCells #[.int .u8 0] m = (nums .u8 (List.replicate m 0)).toArray := by
  apply Array.ext'
  apply List.ext_getElem
  · simp [madeCells, nums]
  · intro j h1 h2
    simp [madeCells, nums, Nat.mod_one]
theorem make64 (m : Nat) (hm : m ≤ 281474976710656) (W : World) : (Instr.makeSlice 45 (.int .i64 (m : Int)) (.int .i64 (m : Int))).run Try.prog W = .ok (.slice (some ⟨W.heap.size, 0, none⟩) m m) (W.alloc (.cells (nums .u8 (List.replicate m 0)).toArray 5)) := by
  rw [← made_cells]
  exact print_make 45 5 .u8 1 Try.underlying45 infoByte (by decide) m (by omega) W
def zeros64 : Array Value := (nums .u8 (List.replicate 64 0)).toArray
theorem nums_drop (n k : Nat) : (nums .u8 (List.replicate n 0)).drop k = nums .u8 (List.replicate (n - k) 0) := by simp [nums]
/-- copy from a text onto the head of a row. -/
theorem copy_text {P : Program} (w : World) (dT sT ty e : TypeId) (i : TypeInfo) (hu : P.underlying dT = some (.slice e)) (hi : P.info? e = some i) (hs1 : i.size = 1) (g dLen dCap : Nat) (cur : Array Value) (hg : w.heap[g]? = some (.cells cur e (0, 0))) (s : ByteArray) (hle : s.size ≤ dLen) (hfit : s.size ≤ cur.size) :
    (Builtin.copy_ #[dT, sT] ty #[.slice (some ⟨g, 0, none⟩) dLen dCap, .string s]).run P w = .ok (goInt s.size) (w.setRow g (nums .u8 (strL s) ++ cur.toList.drop s.size).toArray) := by
  have hmin : Nat.min s.size dLen = s.size := Nat.min_eq_left hle
  have hst := run_storeCells_at P g 0 e (Lib.strCells s) 0 cur w hg (by rw [Lib.strCells_length]; omega) (Lib.strCells_oneCell s)
  simp only [Nat.add_zero, Nat.zero_add, Lib.strCells_length, List.take_zero, List.nil_append] at hst
  have hf := Lib.run_firstCells_string (P := P) w 1 s
  rw [← strL_cells]
  simp [Builtin.copy_, run_underlying hu, Builtin.lenOf, sizeOf, typeInfo, hi, hs1, hmin, hf, hst]
set_option maxHeartbeats 2000000 in
set_option maxRecDepth 100000 in
theorem made_key (key : ByteArray) (w : World) (h0 : 0 < key.size) (h1 : key.size ≤ 32) : Calls Try.prog 19 #[.string key] w (Made w key.size (strL key ++ List.replicate (64 - key.size) 0)) := by
  have hkb : key.size ≤ 9223372036854775807 := by omega
  have H0 := Aside0.mk h0
  have H1 := Aside0.mk h1
  clear h0 h1
  go_enter Try.func19, Try.ntmps19
  go_wp2_with fail
  refine (firsts_calls _).mono ?_
  rintro e w1 ⟨rfl, hb1⟩
  have HB1 := Aside0.mk hb1
  clear hb1
  go_wp2_with (refine wpList_buildTo rfl 48 _ rfl _ rfl hashC (by kernel_rfl) ?_)
  have I0 : IsHash (w1.alloc (.cells hashC 48)) w1.heap.size firstsL (.slice none 0 0) 0 := ⟨blk_new w1 _, rfl⟩
  have HB2 := Aside0.mk (below_alloc HB1.out (.cells hashC 48))
  have HGE := Aside0.mk HB1.out.size
  generalize w1.alloc (.cells hashC 48) = W at *
  generalize w1.heap.size = G at *
  have c0 := I0.cell 0 (by decide)
  have f0 := I0.free 0
  have HI := Aside0.mk I0
  clear I0 HB1
  generalize hx : firstsL.getD 0 0 = x0 at c0
  have HX := Aside0.mk hx
  clear hx
  go_region
  have I1 : IsHash (W.setCell ⟨G, 0, none⟩ (.int .u32 (bits BinOp.xor IntKind.u32 x0 (bits BinOp.xor IntKind.u32 16842784 ((key.size : Int) % 4294967296 * 256 % 4294967296))))).drew G (initL key.size) (.slice none 0 0) 0 := by
    have h := HI.out.put 0 (by decide) (bits BinOp.xor IntKind.u32 x0 (bits BinOp.xor IntKind.u32 16842784 ((key.size : Int) % 4294967296 * 256 % 4294967296)))
    rw [← HX.out] at h ⊢
    exact ⟨h.blk, h.len⟩
  have HI1 := Aside0.mk I1
  have HB3 := Aside0.mk (below_drew (below_set (j := 0) (v := .int .u32 (bits BinOp.xor IntKind.u32 x0 (bits BinOp.xor IntKind.u32 16842784 ((key.size : Int) % 4294967296 * 256 % 4294967296)))) HB2.out HGE.out))
  generalize (W.setCell ⟨G, 0, none⟩ (.int .u32 (bits BinOp.xor IntKind.u32 x0 (bits BinOp.xor IntKind.u32 16842784 ((key.size : Int) % 4294967296 * 256 % 4294967296))))).drew = W1 at *
  clear I1 HI HB2 c0 f0
  have c8 := HI1.out.cell8
  have f8 := HI1.out.free 8
  have hlt := HI1.out.lt
  have hmk : ∀ W : World, (Instr.makeSlice 45 (.int .i64 64) (.int .i64 64)).run Try.prog W = .ok (.slice (some ⟨W.heap.size, 0, none⟩) 64 64) (W.alloc (.cells zeros64 5)) := make64 64 (by decide)
  have hne : (!key.toList.isEmpty) = true := by
    have h := H0.out
    rw [Lib.size_eq] at h
    rw [Lib.toList_data]
    cases hk : key.data.toList with
    | nil => rw [hk] at h; exact absurd h (by decide)
    | cons a l => rfl
  obtain ⟨i0, hi, hz0, hz1, hz2⟩ := info_parts infoByte
  have E8 := HI1.out.put8 (.slice (some ⟨W1.heap.size, 0, none⟩) 64 64)
  have E8' := E8.kept (Below.heap_alloc _ (.cells zeros64 5) G E8.lt)
  have hg : ((W1.setCell ⟨G, 8, none⟩ (.slice (some ⟨W1.heap.size, 0, none⟩) 64 64)).alloc (.cells zeros64 5)).heap[W1.heap.size]? = some (.cells zeros64 5 (0, 0)) := by
    have h := blk_new (W1.setCell ⟨G, 8, none⟩ (.slice (some ⟨W1.heap.size, 0, none⟩) 64 64)) (.cells zeros64 5)
    rwa [show (W1.setCell ⟨G, 8, none⟩ (.slice (some ⟨W1.heap.size, 0, none⟩) 64 64)).heap.size = W1.heap.size by simp] at h
  have hr := Aside0.mk (copy_text (P := Try.prog) _ 45 9 3 5 i0 Try.underlying45 hi hz1 W1.heap.size 64 64 zeros64 hg key (by have := H1.out; omega) (by have := H1.out; show _ ≤ 64; omega))
  have HB4 := Aside0.mk (below_alloc (below_set (j := 8) (v := .slice (some ⟨W1.heap.size, 0, none⟩) 64 64) HB3.out HGE.out) (.cells zeros64 5))
  have hcs : nums .u8 (strL key) ++ zeros64.toList.drop key.size = nums .u8 (strL key ++ List.replicate (64 - key.size) 0) := by
    have : zeros64.toList = nums .u8 (List.replicate 64 0) := rfl
    rw [this, nums_drop, nums, nums, nums, List.map_append]
  have HZ := Aside0.mk (setRow_heap _ _ _ (nums .u8 (strL key ++ List.replicate (64 - key.size) 0)).toArray _ _ hg)
  have HE := Aside0.mk (E8'.kept (setRow_other _ W1.heap.size G (nums .u8 (strL key ++ List.replicate (64 - key.size) 0)).toArray (by omega)))
  have HB5 := Aside0.mk (below_row HB4.out (show w.heap.size ≤ W1.heap.size by have := HGE.out; omega) (nums .u8 (strL key ++ List.replicate (64 - key.size) 0)).toArray)
  have hr2 := hr.out
  rw [hcs] at hr2
  have HR := Aside0.mk hr2
  have HLT := Aside0.mk hlt
  clear hr hr2 hg E8 E8' HB4 hcs hi hz0 hz1 hz2
  have hr3 := HR.out
  go_wp2_with fail
  go_ret
  have hll : (strL key ++ List.replicate (64 - key.size) 0).length = 64 := by
    have := H1.out
    rw [List.length_append, List.length_replicate, strL_len]
    omega
  refine ⟨G, rfl, ⟨⟨some ⟨W1.heap.size, 0, none⟩, 64, by rw [hll]; exact HE.out, by omega, ?_, ?_⟩, ?_⟩, HGE.out, HB5.out⟩
  · refine .inr ⟨_, 0, rfl, blk_lt HZ.out, fun j u hj => ?_⟩
    rw [Nat.zero_add, blk_cell HZ.out, List.getElem?_toArray]
    exact hj
  · intro x y hxy
    injection hxy with h
    injection h with h1 h2
    have := HLT.out
    omega
  · intro x hx
    rcases List.mem_append.1 hx with h | h
    · exact strL_by key x h
    · have := List.eq_of_mem_replicate h
      omega
set_option maxHeartbeats 1000000 in
theorem new_calls (w : World) : Calls Try.prog 9 #[] w (Made w 0 []) := by
  go_enter Try.func9, Try.ntmps9
  go_wp2_with fail
  refine (made_none _).mono ?_
  rintro e w1 ⟨g, rfl, hH, hge, hB⟩
  have HH := Aside0.mk hH
  have HB := Aside0.mk hB
  clear hH hB
  go_wp2_with fail
  go_ret
  exact ⟨g, rfl, HH.out, hge, HB.out⟩
end Go.Proofs.Ytacjfgdehnenpaa.Bk
