import Derived.Test.YteplphpbpaojjaaDoorProg
import Derived.Below
import Derived.Deep.Draws
import Derived.Deep.AppendLies
import Derived.Maps.AppendAt
import Derived.OwnWalk
import Derived.Laws.BytesArg
import Derived.Laws.MakeOwn
import Derived.Laws.OwnMore
import Derived.Deep.OwnRows
import Derived.Tactics
import Derived.Lib.ConvBytes
import Derived.Laws.Slices
import Derived.WalkKit
import Derived.KernelRfl
import Derived.RowKit3
import Derived.Deep.LoopGhost
import Derived.Deep.QuietTactic
import Derived.BigQuiet
import Derived.WideLaws
import Derived.Deep.DeepCutAuto
import Derived.Deep.CutBlock
import Derived.Deep.RegionHeld3
import Derived.Laws.Rows
import Derived.Lib.AppendStr
import Derived.ArgAppend
import Derived.Laws.IdiomCopy
import Derived.OrdersHeld
import Derived.Laws.BitsLemmas
import Derived.RowKit
import Derived.Test.YteplphpbpaojjaaDoorWWords
import Derived.Test.YteplphpbpaojjaaDoorWLast
import Derived.Test.YteplphpbpaojjaaDoorWMore
import Derived.Test.YteplphpbpaojjaaDoorBk1
import Derived.LoopTactic
import Derived.Deep.RegionLaw
import Derived.StillTailTactics
import Derived.IntWalk
namespace Go.Proofs.YteplphpbpaojjaaDoor.Bk
open Go.RowKit Go.Proofs.YteplphpbpaojjaaDoorW.PrintWords Go.Proofs.YteplphpbpaojjaaDoorW.PrintLast Go.Proofs.YteplphpbpaojjaaDoorW.PrintMore
set_option linter.unusedVariables false
set_option linter.unusedSimpArgs false

/-- A hash in memory: its numbers, what lies in 'rest', how many bytes were mixed in. -/
structure IsHash (w : World) (g : Nat) (hs : List Int) (v : Value) (n : Int) : Prop where
  blk : w.heap[g]? = some (.cells ((nums .u32 hs) ++ [v, .int .u64 n]).toArray 78 (0, 0))
  len : hs.length = 8
theorem IsHash.lt {w : World} {g : Nat} {hs : List Int} {v : Value} {n : Int} (h : IsHash w g hs v n) : g < w.heap.size := blk_lt h.blk
theorem IsHash.cell {w : World} {g : Nat} {hs : List Int} {v : Value} {n : Int} (h : IsHash w g hs v n) (i : Nat) (hi : i < 8) : w.cell? ⟨g, i, none⟩ = some (.int .u32 (hs.getD i 0)) := by
  rw [blk_cell h.blk]
  have hl := h.len
  simp [nums, List.getElem?_append, hl, hi]
theorem IsHash.cell8 {w : World} {g : Nat} {hs : List Int} {v : Value} {n : Int} (h : IsHash w g hs v n) : w.cell? ⟨g, 8, none⟩ = some v := by
  rw [blk_cell h.blk]
  simp [nums, List.getElem?_append, h.len]
theorem IsHash.cell9 {w : World} {g : Nat} {hs : List Int} {v : Value} {n : Int} (h : IsHash w g hs v n) : w.cell? ⟨g, 9, none⟩ = some (.int .u64 n) := by
  rw [blk_cell h.blk]
  simp [nums, List.getElem?_append, h.len]
theorem IsHash.free {w : World} {g : Nat} {hs : List Int} {v : Value} {n : Int} (h : IsHash w g hs v n) (i : Nat) : w.frozen? ⟨g, i, none⟩ = false := blk_frozen h.blk i
theorem IsHash.put {w : World} {g : Nat} {hs : List Int} {v : Value} {n : Int} (h : IsHash w g hs v n) (i : Nat) (hi : i < 8) (x : Int) : IsHash (w.setCell ⟨g, i, none⟩ (.int .u32 x)) g (hs.set i x) v n := by
  refine ⟨?_, by rw [List.length_set]; exact h.len⟩
  rw [blk_set h.blk i (.int .u32 x)]
  have hl := h.len
  simp [nums, List.map_set, List.set_append, hl, hi]
theorem IsHash.put8 {w : World} {g : Nat} {hs : List Int} {v : Value} {n : Int} (h : IsHash w g hs v n) (u : Value) : IsHash (w.setCell ⟨g, 8, none⟩ u) g hs u n := by
  refine ⟨?_, h.len⟩
  rw [blk_set h.blk 8 u]
  simp [nums, List.set_append, h.len]
theorem IsHash.put9 {w : World} {g : Nat} {hs : List Int} {v : Value} {n : Int} (h : IsHash w g hs v n) (m : Int) : IsHash (w.setCell ⟨g, 9, none⟩ (.int .u64 m)) g hs v m := by
  refine ⟨?_, h.len⟩
  rw [blk_set h.blk 9 (.int .u64 m)]
  simp [nums, List.set_append, h.len]
theorem IsHash.kept {w w1 : World} {g : Nat} {hs : List Int} {v : Value} {n : Int} (h : IsHash w g hs v n) (e : w1.heap[g]? = w.heap[g]?) : IsHash w1 g hs v n := ⟨e.trans h.blk, h.len⟩
/-- What is written besides lies behind all that was. -/
theorem keep_beside {w w1 w2 : World} {g g' : Nat} (h : KeepBut w w1 g none) (k : KeepBut w1 w2 g' none) (hg : w.heap.size ≤ g') : KeepBut w w2 g none :=
  ⟨Nat.le_trans h.size k.size, fun i hi hne hr => (k.block i (Nat.lt_of_lt_of_le hi h.size) (by omega) (by simp)).trans (h.block i hi hne hr), k.os.trans h.os, k.tape.trans h.tape, k.output.trans h.output⟩
theorem keep_at {w w1 : World} {g i : Nat} (h : KeepBut w w1 g none) (hi : i < w.heap.size) (hne : i ≠ g) : w1.heap[i]? = w.heap[i]? := h.2 i hi hne (by simp)

/-- The sixteen numbers that are mixed. -/
def veeL (hs : List Int) (n : Int) (last : Bool) : List Int :=
  let L0 := hs ++ firstsL
  let L1 := L0.set 12 (Go.bits .xor .u32 (L0.getD 12 0) (n % 4294967296))
  let L2 := L1.set 13 (Go.bits .xor .u32 (L1.getD 13 0) (n / 4294967296 % 4294967296))
  if last then L2.set 14 (Go.bits .xor .u32 IntKind.u32.max (L2.getD 14 0)) else L2
/-- Where a mixing works, and on what. -/
def mixAt (i j : Nat) : Nat := ((mixesL.getD i []).getD j 0).toNat
def inner (M R V : List Int) : Nat → List Int
  | 0 => V
  | i + 1 => mixL (inner M R V i) (mixAt i 0) (mixAt i 1) (mixAt i 2) (mixAt i 3) (M.getD (R.getD (2 * i) 0).toNat 0) (M.getD (R.getD (2 * i + 1) 0).toNat 0)
def outer (M V : List Int) : Nat → List Int
  | 0 => V
  | r + 1 => inner M (rowsL.getD r []) (outer M V r) 8
/-- Bytes that lie in memory. -/
structure Bytes (w : World) (bb off m : Nat) (b : List Int) : Prop where
  len : b.length = m
  le : m ≤ 9223372036854775807
  cell : ∀ j, j < m → w.cell? ⟨bb, off + j, none⟩ = some (.int .u8 (b.getD j 0))
/-- copy onto a row, as one step of a region that draws. -/
theorem step_copy_row {P : Program} {ops : Array Oper} {o : Oper} {a : Act} {w : World} {K : Act → World → Prop} {Q : Exit → Act → World → Prop} {E : Prop} (hgd : o.guard = none) (d s : Operand) (dT sT : TypeId)
    (ho : o.op = .call { callee := .builtin .copy, args := #[d, s], argTypes := #[dT, sT] }) (elem : TypeId) (hu : P.underlying dT = some (.slice elem)) (hsz : (P.info? elem).map (·.size) = some 1)
    (g off dLen dCap : Nat) (ad : Addr) (sLen sCap : Nat) (hd : a.eval d = .slice (some ⟨g, off, none⟩) dLen dCap) (hs : a.eval s = .slice (some ad) sLen sCap)
    (cur : List Value) (t : TypeId) (hg : w.heap[g]? = some (.cells cur.toArray t (0, 0))) (cs : List Value) (hn : cs.length = Nat.min sLen dLen)
    (hsrc : ∀ j v, cs[j]? = some v → w.cell? (ad.add j) = some v) (hfit : off + cs.length ≤ cur.length) (h1 : ∀ v ∈ cs, v.oneCell' = true)
    (h : K (a.put o.dst (goInt cs.length)) (w.setRow g (Go.splice cur off cs).toArray)) :
    if Region.wanted o (yielded ops a.tmps) = true then Oper.wp P o a w K Q else E := by
  have hw : Region.wanted o (yielded ops a.tmps) = true := by simp [Region.wanted, hgd]
  rw [if_pos hw]
  have hrun := run_copy_row (P := P) w dT sT o.type elem g off dLen dCap ad sLen sCap cur.toArray t cs hu hsz hg hn hsrc (by simpa using hfit) h1
  unfold Oper.wp
  simp [execOp, ho, resolve, invoke, builtin, hd, hs, hrun, Result.andThen]
  have h2 : K (a.put o.dst (goInt cs.length)) (w.setRow g (List.take off cur ++ (cs ++ List.drop (off + cs.length) cur)).toArray) := by simpa [Go.splice] using h
  exact h2
/-- A word of four bytes. -/
def wordAt (b : List Int) (i : Nat) : Int := Go.bits .or .u32 (Go.bits .or .u32 (Go.bits .or .u32 (b.getD (4 * i) 0) (b.getD (4 * i + 1) 0 * 256)) (b.getD (4 * i + 2) 0 * 65536)) (b.getD (4 * i + 3) 0 * 16777216)
def wordsL (b : List Int) : List Int := (List.range 16).map (wordAt b)
/-- What holds when k words are read. -/
def TWords (B : Nat) (b : List Int) (k : Nat) (w wr : World) : Prop :=
  Below w.heap.size w wr ∧ IsU wr B 85 ((wordsL b).take k ++ List.replicate (16 - k) 0)
/-- What lies in memory while a block is mixed in. -/
structure TS (w W : World) (g B V : Nat) (hs : List Int) (v : Value) (n : Int) (M L : List Int) : Prop where
  keep : KeepBut w W g none
  hash : IsHash W g hs v n
  words : IsU W B 85 M
  vee : IsU W V 85 L
  ge : w.heap.size ≤ B
  lt : B < V
  glt : g < w.heap.size
section
variable {w W W1 : World} {g B V : Nat} {hs : List Int} {v : Value} {n : Int} {M L L1 : List Int}
theorem TS.drew (h : TS w W g B V hs v n M L) : TS w W.drew g B V hs v n M L := ⟨keep_drew h.keep, ⟨h.hash.blk, h.hash.len⟩, h.words, h.vee, h.ge, h.lt, h.glt⟩
theorem TS.below (h : TS w W g B V hs v n M L) (hb : Below W.heap.size W W1) : TS w W1 g B V hs v n M L :=
  ⟨keep_beside h.keep (KeepBut.of_below hb W.heap.size none) h.keep.1, h.hash.kept (hb.block g h.hash.lt), blk_below h.words hb, blk_below h.vee hb, h.ge, h.lt, h.glt⟩
theorem TS.alloc (h : TS w W g B V hs v n M L) (o : Obj) : TS w (W.alloc o) g B V hs v n M L := h.below (below_alloc (Below.refl _ _) o)
theorem TS.mixed (h : TS w W g B V hs v n M L) (hk : KeepBut W W1 V none) (hv : IsU W1 V 85 L1) : TS w W1 g B V hs v n M L1 :=
  ⟨keep_beside h.keep hk (by have := h.ge; have := h.lt; omega), h.hash.kept (keep_at hk h.hash.lt (by have := h.ge; have := h.lt; have := h.glt; omega)), (keep_at hk h.words.lt (by have := h.lt; omega)).trans h.words, hv, h.ge, h.lt, h.glt⟩
theorem TS.setV (h : TS w W g B V hs v n M L) (i : Nat) (x : Int) : TS w (W.setCell ⟨V, i, none⟩ (.int .u32 x)) g B V hs v n M (L.set i x) := h.mixed ((KeepBut.refl W V none).set_ i _) (h.vee.put i x)
theorem TS.rowV (h : TS w W g B V hs v n M L) (L1 : List Int) : TS w (W.setRow V (nums .u32 L1).toArray) g B V hs v n M L1 :=
  h.mixed ⟨by simp [World.setRow], fun i hi hne _ => setRow_other W V i _ hne, rfl, rfl, rfl⟩ (setRow_heap _ _ _ _ _ _ h.vee)
theorem TS.setH (h : TS w W g B V hs v n M L) (i : Nat) (hi : i < 8) (x : Int) : TS w (W.setCell ⟨g, i, none⟩ (.int .u32 x)) g B V (hs.set i x) v n M L :=
  ⟨h.keep.set_ i _, h.hash.put i hi x, blk_far h.words (by have := h.ge; have := h.glt; simp; omega) _, blk_far h.vee (by have := h.ge; have := h.lt; have := h.glt; simp; omega) _, h.ge, h.lt, h.glt⟩
end
theorem splice_first (hs : List Int) (hl : hs.length = 8) : Go.splice (nums .u32 [0, 0, 0, 0, 0, 0, 0, 0, 0, 0, 0, 0, 0, 0, 0, 0]) 0 (nums .u32 hs) = nums .u32 (hs ++ List.replicate 8 0) := by
  simp [Go.splice, nums, hl]
theorem splice_last (hs fs : List Int) (hl : hs.length = 8) (hf : fs.length = 8) : Go.splice (nums .u32 (hs ++ [0, 0, 0, 0, 0, 0, 0, 0])) 8 (nums .u32 fs) = nums .u32 (hs ++ fs) := by
  simp [Go.splice, nums, hl, hf]
theorem nums_one (L : List Int) : ∀ v ∈ nums .u32 L, v.oneCell' = true := by
  intro v hv
  obtain ⟨x, _, rfl⟩ := List.mem_map.1 hv
  rfl
theorem copy_src {w : World} {g : Nat} {hs : List Int} {v : Value} {n : Int} (h : IsHash w g hs v n) : ∀ j u, (nums .u32 hs)[j]? = some u → w.drew.cell? ((⟨g, 0, none⟩ : Addr).add j) = some u := by
  intro j u hj
  rw [add_plain]
  have hl : j < 8 := by
    have := (List.getElem?_eq_some_iff.1 hj).1
    rw [nums_length, h.len] at this
    exact this
  show w.cell? ⟨g, j, none⟩ = some u
  rw [h.cell j hl, ← hj]
  simp [nums, List.getElem?_eq_getElem (show j < hs.length by rw [h.len]; exact hl)]
theorem copy_srcU {w : World} {g t : Nat} {L : List Int} (h : IsU w g t L) : ∀ j u, (nums .u32 L)[j]? = some u → w.drew.cell? ((⟨g, 0, none⟩ : Addr).add j) = some u := by
  intro j u hj
  rw [add_plain]
  have hl : j < L.length := by
    have := (List.getElem?_eq_some_iff.1 hj).1
    rwa [nums_length] at this
  show w.cell? ⟨g, j, none⟩ = some u
  rw [h.cell j hl, ← hj]
  simp [nums, List.getElem?_eq_getElem hl]
def zeros16 : Array Value := (List.replicate 16 (Value.int .u8 0)).toArray
theorem row_len (k : Nat) (hk : k < 10) : (rowsL.getD k []).length = 16 := by
  have hk' : k = 0 ∨ k = 1 ∨ k = 2 ∨ k = 3 ∨ k = 4 ∨ k = 5 ∨ k = 6 ∨ k = 7 ∨ k = 8 ∨ k = 9 := by omega
  rcases hk' with rfl | rfl | rfl | rfl | rfl | rfl | rfl | rfl | rfl | rfl <;> rfl
theorem nums_all (R : List Int) : (nums .u8 R).toArray.all (·.oneCell') = true := by
  simp [nums, List.all_eq_true, Value.oneCell']
theorem row_range (k : Nat) (hk : k < 10) (j : Nat) (hj : j < 16) : ∃ a : Nat, a < 16 ∧ (rowsL.getD k []).getD j 0 = (a : Int) := by
  have h : ∀ k : Fin 10, ∀ j : Fin 16, ((rowsL.getD k.1 []).getD j.1 0).toNat < 16 ∧ (rowsL.getD k.1 []).getD j.1 0 = (((rowsL.getD k.1 []).getD j.1 0).toNat : Int) := by decide +kernel
  exact ⟨_, (h ⟨k, hk⟩ ⟨j, hj⟩).1, (h ⟨k, hk⟩ ⟨j, hj⟩).2⟩
theorem mix_ok (q : Nat) (hq : q < 8) : (mixAt q 0 < 16 ∧ mixAt q 1 < 16 ∧ mixAt q 2 < 16 ∧ mixAt q 3 < 16) ∧ mixAt q 0 ≠ mixAt q 1 ∧ mixAt q 0 ≠ mixAt q 2 ∧ mixAt q 0 ≠ mixAt q 3 ∧ mixAt q 1 ≠ mixAt q 2 ∧ mixAt q 1 ≠ mixAt q 3 ∧ mixAt q 2 ≠ mixAt q 3 := by
  have h : ∀ q : Fin 8, (mixAt q.1 0 < 16 ∧ mixAt q.1 1 < 16 ∧ mixAt q.1 2 < 16 ∧ mixAt q.1 3 < 16) ∧ mixAt q.1 0 ≠ mixAt q.1 1 ∧ mixAt q.1 0 ≠ mixAt q.1 2 ∧ mixAt q.1 0 ≠ mixAt q.1 3 ∧ mixAt q.1 1 ≠ mixAt q.1 2 ∧ mixAt q.1 1 ≠ mixAt q.1 3 ∧ mixAt q.1 2 ≠ mixAt q.1 3 := by decide +kernel
  exact h ⟨q, hq⟩
theorem mixL_len (L : List Int) (i0 i1 i2 i3 : Nat) (x y : Int) : (mixL L i0 i1 i2 i3 x y).length = L.length := by simp [mixL]
theorem inner_len (M R V : List Int) (i : Nat) : (inner M R V i).length = V.length := by
  induction i with
  | zero => rfl
  | succ i ih => rw [inner, mixL_len, ih]
theorem outer_len (M V : List Int) (r : Nat) : (outer M V r).length = V.length := by
  induction r with
  | zero => rfl
  | succ r ih => rw [outer, inner_len, ih]
/-- The numbers behind a block. -/
def finL (hs V : List Int) : List Int := (List.range 8).map fun i => Go.bits .xor .u32 (hs.getD i 0) (Go.bits .xor .u32 (V.getD i 0) (V.getD (i + 8) 0))
/-- The numbers of a hash, a block being mixed in. -/
def compress (hs b : List Int) (n : Int) (last : Bool) : List Int := finL hs (outer (wordsL b) (veeL hs n last) 10)
theorem finL_len (hs V : List Int) : (finL hs V).length = 8 := by simp [finL]
theorem fin_at (F hs : List Int) (j : Nat) (hF : F.length = 8) (hl : hs.length = 8) (hj : j < 8) : (F.take j ++ hs.drop j).getD j 0 = hs.getD j 0 := by
  rw [List.getD_eq_getElem?_getD, List.getD_eq_getElem?_getD, List.getElem?_append_right (by rw [List.length_take]; omega), List.length_take, List.getElem?_drop]
  congr 2
  omega
theorem fin_next (hs V : List Int) (j : Nat) (hl : hs.length = 8) (hj : j < 8) : ((finL hs V).take j ++ hs.drop j).set j (Go.bits .xor .u32 (hs.getD j 0) (Go.bits .xor .u32 (V.getD j 0) (V.getD (j + 8) 0))) = (finL hs V).take (j + 1) ++ hs.drop (j + 1) := by
  have hF := finL_len hs V
  have e : (finL hs V)[j]'(by omega) = Go.bits .xor .u32 (hs.getD j 0) (Go.bits .xor .u32 (V.getD j 0) (V.getD (j + 8) 0)) := by simp [finL]
  have hlt : ((finL hs V).take j).length = j := by rw [List.length_take]; omega
  rw [List.take_succ_eq_append_getElem (by omega), e, List.set_append_right _ _ (by omega), hlt, Nat.sub_self, List.drop_eq_getElem_cons (by omega), List.set_cons_zero, List.append_assoc, List.singleton_append]
theorem fin_end (hs V : List Int) (hl : hs.length = 8) : (finL hs V).take 8 ++ hs.drop 8 = finL hs V := by
  rw [List.take_of_length_le (by rw [finL_len]; exact Nat.le_refl 8), List.drop_eq_nil_of_le (by omega), List.append_nil]
theorem words_len (b : List Int) : (wordsL b).length = 16 := by simp [wordsL]
theorem row_cell {w : World} {g t : Nat} {L : List Int} (h : w.heap[g]? = some (.cells (nums .u8 L).toArray t (0, 0))) (i : Nat) (hi : i < L.length) : w.cell? ⟨g, i, none⟩ = some (.int .u8 (L.getD i 0)) := by
  rw [blk_cell h]
  simp [nums, hi]
theorem byte_at {b : List Int} (h : ∀ x ∈ b, 0 ≤ x ∧ x < 256) {j : Nat} (hj : j < b.length) : 0 ≤ b.getD j 0 ∧ b.getD j 0 < 256 := by
  rw [List.getD_eq_getElem?_getD, List.getElem?_eq_getElem hj]
  exact h _ (List.getElem_mem hj)
theorem TWords_next (b : List Int) (k : Nat) (hk : k < 16) (w wr : World) (h : TWords w.heap.size b k w wr) : TWords w.heap.size b (k + 1) w (wr.setCell ⟨w.heap.size, k, none⟩ (.int .u32 (wordAt b k))) := by
  obtain ⟨hb, h1⟩ := h
  refine ⟨below_set hb (Nat.le_refl _), ?_⟩
  have e := h1.put k (wordAt b k)
  have ea : (wordsL b).getD k 0 = wordAt b k := by simp [wordsL, hk]
  rw [← ea, fill_next (wordsL b) 16 k (by simp [wordsL]) hk] at e
  rw [← ea]
  exact e
end Go.Proofs.YteplphpbpaojjaaDoor.Bk
namespace Go.Proofs.YteplphpbpaojjaaDoor.Bk
open Go.RowKit Go.Proofs.YteplphpbpaojjaaDoorW.PrintWords Go.Proofs.YteplphpbpaojjaaDoorW.PrintLast Go.Proofs.YteplphpbpaojjaaDoorW.PrintMore
set_option linter.unusedVariables false
set_option linter.unusedSimpArgs false

set_option maxHeartbeats 8000000 in
set_option maxRecDepth 100000 in
theorem take_calls (g : Nat) (hs : List Int) (v : Value) (n : Int) (bb off m c : Nat) (b : List Int) (many : Int) (last : Bool) (w : World) (hH : IsHash w g hs v n) (hb : Bytes w bb off m b) (hm : 64 ≤ m) (hby : ∀ x ∈ b, 0 ≤ x ∧ x < 256) :
    Calls Tryd.prog 46 #[.pointer (some ⟨g, 0, none⟩), .slice (some ⟨bb, off, none⟩) m c, .int .i64 many, .bool last] w fun e w' => e = .returned (.tuple #[]) ∧ IsHash w' g (compress hs b (IntKind.u64.wrap (n + IntKind.u64.wrap many)) last) v (IntKind.u64.wrap (n + IntKind.u64.wrap many)) ∧ KeepBut w w' g none := by
  obtain ⟨hbl, hbm, hbc⟩ := hb
  have HC := Aside0.mk hbc
  clear hbc
  have HBY := Aside0.mk hby
  have HBL := Aside0.mk hbl
  have HH := Aside0.mk hH
  clear hby hH hbl
  go_enter Tryd.func46, Tryd.ntmps46
  go_wp2
  go_outline
  go_loopw [17] (fun i wr => ∃ k : Nat, k ≤ 16 ∧ i = .int .i64 k ∧ TWords w.heap.size b k w wr) (fun i _ => 16 - (intOf i).toNat)
  case atStart => exact ⟨0, Nat.zero_le _, rfl, below_alloc (Below.refl _ _) _, blk_new w _⟩
  case round =>
    obtain ⟨k, hk, rfl, hF⟩ := hrel
    have HF := Aside0.mk hF
    clear hF
    by_cases hlt : k < 16
    · have d0 : decide ((k : Int) < 16) = true := decide_eq_true (by omega)
      have d9 : (k : Int) < 16 := by omega
      have c0 := pw_cell_below HF.out.1 (HC.out (4 * k) (by omega))
      have c1 := pw_cell_below HF.out.1 (HC.out (4 * k + 1) (by omega))
      have c2 := pw_cell_below HF.out.1 (HC.out (4 * k + 2) (by omega))
      have c3 := pw_cell_below HF.out.1 (HC.out (4 * k + 3) (by omega))
      have cm := HF.out.2.cell k (by simp [wordsL]; omega)
      have fm := HF.out.2.free k
      generalize (List.take k (wordsL b) ++ List.replicate (16 - k) 0).getD k 0 = old at cm
      generalize hx0 : b.getD (4 * k) 0 = x0 at c0
      generalize hx1 : b.getD (4 * k + 1) 0 = x1 at c1
      generalize hx2 : b.getD (4 * k + 2) 0 = x2 at c2
      generalize hx3 : b.getD (4 * k + 3) 0 = x3 at c3
      have y0 : 0 ≤ x0 ∧ x0 < 256 := by rw [← hx0]; exact byte_at HBY.out (by rw [HBL.out]; omega)
      have y1 : 0 ≤ x1 ∧ x1 < 256 := by rw [← hx1]; exact byte_at HBY.out (by rw [HBL.out]; omega)
      have y2 : 0 ≤ x2 ∧ x2 < 256 := by rw [← hx2]; exact byte_at HBY.out (by rw [HBL.out]; omega)
      have y3 : 0 ≤ x3 ∧ x3 < 256 := by rw [← hx3]; exact byte_at HBY.out (by rw [HBL.out]; omega)
      have HX := Aside0.mk (And.intro hx0 (And.intro hx1 (And.intro hx2 hx3)))
      clear hx0 hx1 hx2 hx3
      obtain ⟨l0, u0⟩ := y0
      obtain ⟨l1, u1⟩ := y1
      obtain ⟨l2, u2⟩ := y2
      obtain ⟨l3, u3⟩ := y3
      go_wp2
      go_region
      go_wp2
      go_roundw
      case rel =>
        refine ⟨k + 1, by omega, by go_num, ?_⟩
        have e := TWords_next b k hlt w wr HF.out
        unfold wordAt at e
        obtain ⟨e0, e1, e2, e3⟩ := HX.out
        rw [e0, e1, e2, e3] at e
        exact ⟨below_drew e.1, e.2⟩
      case measure => simp [intOf]; omega
    · obtain rfl : k = 16 := by omega
      have d0 : decide (((16 : Nat) : Int) < 16) = false := by decide
      obtain ⟨hB, hM⟩ := HF.out
      have HM := Aside0.mk (show IsU wr w.heap.size 85 (wordsL b) from hM)
      have HB := Aside0.mk hB
      have HS := Aside0.mk (show w.heap.size < wr.heap.size from blk_lt hM)
      have HH1 := Aside0.mk (HH.out.kept (hB.block g HH.out.lt))
      clear hB hM HF
      have n9 := HH1.out.cell9
      have f9 := HH1.out.free 9
      go_wp2
      have E9 := HH1.out.put9 (IntKind.u64.wrap (n + IntKind.u64.wrap many))
      have EM : IsU (wr.setCell ⟨g, 9, none⟩ (.int .u64 (IntKind.u64.wrap (n + IntKind.u64.wrap many)))) w.heap.size 85 (wordsL b) := blk_far HM.out (by have := HH.out.lt; simp; omega) _
      have EV := blk_new (wr.setCell ⟨g, 9, none⟩ (.int .u64 (IntKind.u64.wrap (n + IntKind.u64.wrap many)))) (.cells #[.int .u32 0, .int .u32 0, .int .u32 0, .int .u32 0, .int .u32 0, .int .u32 0, .int .u32 0, .int .u32 0, .int .u32 0, .int .u32 0, .int .u32 0, .int .u32 0, .int .u32 0, .int .u32 0, .int .u32 0, .int .u32 0] 85)
      rw [show (wr.setCell ⟨g, 9, none⟩ (.int .u64 (IntKind.u64.wrap (n + IntKind.u64.wrap many)))).heap.size = wr.heap.size by simp] at EV
      have EK := keep_alloc ((KeepBut.of_below HB.out g none).set_ 9 (.int .u64 (IntKind.u64.wrap (n + IntKind.u64.wrap many)))) (.cells #[.int .u32 0, .int .u32 0, .int .u32 0, .int .u32 0, .int .u32 0, .int .u32 0, .int .u32 0, .int .u32 0, .int .u32 0, .int .u32 0, .int .u32 0, .int .u32 0, .int .u32 0, .int .u32 0, .int .u32 0, .int .u32 0] 85)
      have E9' := Aside0.mk (E9.kept (Below.heap_alloc _ (.cells #[.int .u32 0, .int .u32 0, .int .u32 0, .int .u32 0, .int .u32 0, .int .u32 0, .int .u32 0, .int .u32 0, .int .u32 0, .int .u32 0, .int .u32 0, .int .u32 0, .int .u32 0, .int .u32 0, .int .u32 0, .int .u32 0] 85) g E9.lt))
      have EM' := Aside0.mk (blk_alloc EM (.cells #[.int .u32 0, .int .u32 0, .int .u32 0, .int .u32 0, .int .u32 0, .int .u32 0, .int .u32 0, .int .u32 0, .int .u32 0, .int .u32 0, .int .u32 0, .int .u32 0, .int .u32 0, .int .u32 0, .int .u32 0, .int .u32 0] 85))
      have EV' := Aside0.mk EV
      have EK' := Aside0.mk EK
      clear E9 EM EV EK n9 f9 HH1 HM HB HC
      generalize hn' : IntKind.u64.wrap (n + IntKind.u64.wrap many) = n' at *
      generalize hW : (wr.setCell ⟨g, 9, none⟩ (.int .u64 n')).alloc (.cells #[.int .u32 0, .int .u32 0, .int .u32 0, .int .u32 0, .int .u32 0, .int .u32 0, .int .u32 0, .int .u32 0, .int .u32 0, .int .u32 0, .int .u32 0, .int .u32 0, .int .u32 0, .int .u32 0, .int .u32 0, .int .u32 0] 85) = W at *
      have HW := Aside0.mk hW
      have HN := Aside0.mk hn'
      clear hW hn'
      generalize hV : wr.heap.size = V at *
      have HVe := Aside0.mk hV
      clear hV
      have T0 := Aside0.mk (show TS w W g w.heap.size V hs v n' (wordsL b) (List.replicate 16 0) from ⟨EK'.out, E9'.out, EM'.out, EV'.out, Nat.le_refl _, by have := HS.out; have := HVe.out; omega, HH.out.lt⟩)
      clear EK' EM' EV' HW HVe
      have SRC := Aside0.mk (copy_src E9'.out)
      have ROW := Aside0.mk (show W.heap[V]? = some (.cells (nums .u32 (List.replicate 16 0)).toArray 85 (0, 0)) from T0.out.vee)
      have LH := Aside0.mk (show (nums .u32 hs).length = Nat.min 8 16 from by rw [nums_length]; exact HH.out.len)
      have LF := Aside0.mk (show 0 + (nums .u32 hs).length ≤ (nums .u32 (List.replicate 16 0)).length from by rw [nums_length, nums_length, HH.out.len]; decide)
      have L1 := Aside0.mk (nums_one hs)
      go_region_law (refine step_copy_row rfl (.tmp 65) (.tmp 69) 86 86 rfl 74 Tryd.underlying86 (by kernel_rfl) V 0 16 16 ⟨g, 0, none⟩ 8 8 (by simp [Act.eval, Act.put]) (by simp [Act.eval, Act.put]) (nums .u32 (List.replicate 16 0)) 85 ROW.out (nums .u32 hs) LH.out SRC.out LF.out L1.out ?_)
      clear SRC ROW LH LF L1
      rw [splice_first hs HH.out.len]
      have T1 := Aside0.mk (T0.out.drew.rowV (hs ++ List.replicate 8 0))
      clear T0 E9'
      generalize W.drew.setRow V (nums .u32 (hs ++ List.replicate 8 0)).toArray = W1 at *
      go_wp2_with fail
      refine (firsts_calls _).mono ?_
      rintro e W2 ⟨rfl, hb2⟩
      have T2 := Aside0.mk (T1.out.below hb2)
      clear T1 hb2
      have hz : ∀ w, (zeroValue 75).run Tryd.prog w = .ok (.agg #[.int .u32 0, .int .u32 0, .int .u32 0, .int .u32 0, .int .u32 0, .int .u32 0, .int .u32 0, .int .u32 0]) w := fun w => by kernel_rfl
      go_wp2_with (refine wpList_store_rowTo rfl 75 _ _ rfl rfl W2.heap.size (nums .u32 firstsL).toArray rfl rfl 75 #[.int .u32 0, .int .u32 0, .int .u32 0, .int .u32 0, .int .u32 0, .int .u32 0, .int .u32 0, .int .u32 0] (heap_alloc_new W2 _) (by kernel_rfl) (by kernel_rfl) (by kernel_rfl) ?_)
      have T3 := Aside0.mk (T2.out.below (below_row (below_alloc (Below.refl W2.heap.size W2) (.cells #[.int .u32 0, .int .u32 0, .int .u32 0, .int .u32 0, .int .u32 0, .int .u32 0, .int .u32 0, .int .u32 0] 75)) (Nat.le_refl _) (nums .u32 firstsL).toArray))
      have F3 := Aside0.mk (show IsU ((W2.alloc (.cells #[.int .u32 0, .int .u32 0, .int .u32 0, .int .u32 0, .int .u32 0, .int .u32 0, .int .u32 0, .int .u32 0] 75)).setRow W2.heap.size (nums .u32 firstsL).toArray) W2.heap.size 75 firstsL from setRow_heap _ _ _ _ _ _ (blk_new W2 (.cells #[.int .u32 0, .int .u32 0, .int .u32 0, .int .u32 0, .int .u32 0, .int .u32 0, .int .u32 0, .int .u32 0] 75)))
      generalize (W2.alloc (.cells #[.int .u32 0, .int .u32 0, .int .u32 0, .int .u32 0, .int .u32 0, .int .u32 0, .int .u32 0, .int .u32 0] 75)).setRow W2.heap.size (nums .u32 firstsL).toArray = W3 at *
      generalize W2.heap.size = F at *
      clear T2
      have SRC := Aside0.mk (copy_srcU F3.out)
      have ROW := Aside0.mk T3.out.vee
      have L1 := Aside0.mk (nums_one firstsL)
      have LF := Aside0.mk (show 8 + (nums .u32 firstsL).length ≤ (nums .u32 (hs ++ List.replicate 8 0)).length from by rw [nums_length, nums_length, List.length_append, HH.out.len]; decide)
      go_region_law (refine step_copy_row rfl (.tmp 72) (.tmp 73) 86 86 rfl 74 Tryd.underlying86 (by kernel_rfl) V 8 8 8 ⟨F, 0, none⟩ 8 8 (by simp [Act.eval, Act.put]) (by simp [Act.eval, Act.put]) (nums .u32 (hs ++ List.replicate 8 0)) 85 ROW.out (nums .u32 firstsL) rfl SRC.out LF.out L1.out ?_)
      clear SRC ROW LF L1 F3
      rw [splice_last hs firstsL HH.out.len rfl]
      have T4 := Aside0.mk (T3.out.drew.rowV (hs ++ firstsL))
      clear T3
      generalize W3.drew.setRow V (nums .u32 (hs ++ firstsL)).toArray = W4 at *
      obtain ⟨L0, hL0⟩ : ∃ L0, L0 = hs ++ firstsL := ⟨_, rfl⟩
      rw [← hL0] at T4
      have ll : L0.length = 16 := by rw [hL0, List.length_append, HH.out.len]; rfl
      have HL0 := Aside0.mk (And.intro hL0 ll)
      clear hL0
      have a1 := T4.out.vee.cell 12 (by omega)
      have a2 := T4.out.vee.free 12
      have a3 := T4.out.hash.cell9
      clear ll
      generalize hv12 : L0.getD 12 0 = v12 at a1
      have HV12 := Aside0.mk hv12
      clear hv12
      go_wp2
      go_region
      have T5 := Aside0.mk ((T4.out.setV 12 (bits BinOp.xor IntKind.u32 v12 (n' % 4294967296))).drew)
      generalize (W4.setCell ⟨V, 12, none⟩ (.int .u32 (bits BinOp.xor IntKind.u32 v12 (n' % 4294967296)))).drew = W5 at *
      clear T4 a1 a2 a3
      obtain ⟨L1, hL1⟩ : ∃ L1, L1 = L0.set 12 (bits BinOp.xor IntKind.u32 v12 (n' % 4294967296)) := ⟨_, rfl⟩
      rw [← hL1] at T5
      have ll : L1.length = 16 := by rw [hL1, List.length_set]; exact HL0.out.2
      have HL1 := Aside0.mk (And.intro hL1 ll)
      clear hL1
      have a1 := T5.out.vee.cell 13 (by omega)
      have a2 := T5.out.vee.free 13
      have a3 := T5.out.hash.cell9
      clear ll
      generalize hv13 : L1.getD 13 0 = v13 at a1
      have HV13 := Aside0.mk hv13
      clear hv13
      go_wp2
      go_region
      have T6 := Aside0.mk ((T5.out.setV 13 (bits BinOp.xor IntKind.u32 v13 (n' / 4294967296 % 4294967296))).drew)
      generalize (W5.setCell ⟨V, 13, none⟩ (.int .u32 (bits BinOp.xor IntKind.u32 v13 (n' / 4294967296 % 4294967296)))).drew = W6 at *
      clear T5 a1 a2 a3
      obtain ⟨L2, hL2⟩ : ∃ L2, L2 = L1.set 13 (bits BinOp.xor IntKind.u32 v13 (n' / 4294967296 % 4294967296)) := ⟨_, rfl⟩
      rw [← hL2] at T6
      have ll : L2.length = 16 := by rw [hL2, List.length_set]; exact HL1.out.2
      have HL2 := Aside0.mk (And.intro hL2 ll)
      clear hL2
      have a1 := T6.out.vee.cell 14 (by omega)
      have a2 := T6.out.vee.free 14
      clear ll
      generalize hv14 : L2.getD 14 0 = v14 at a1
      have HV14 := Aside0.mk hv14
      clear hv14
      have ixr : ∀ k : Nat, k < 10 → ∀ w, (Instr.index 88 (.agg rowsC) (.int .i64 k)).run Tryd.prog w = .ok (.agg (nums .u8 (rowsL.getD k [])).toArray) w := by
        intro k hk w
        rw [run_index_part 88 87 10 16 rowsC k (.array 16 5) Tryd.underlying88 Tryd.underlying87 rfl (by kernel_rfl) hk w]
        have hk' : k = 0 ∨ k = 1 ∨ k = 2 ∨ k = 3 ∨ k = 4 ∨ k = 5 ∨ k = 6 ∨ k = 7 ∨ k = 8 ∨ k = 9 := by omega
        rcases hk' with rfl | rfl | rfl | rfl | rfl | rfl | rfl | rfl | rfl | rfl <;> rfl
      have ixm : ∀ k : Nat, k < 8 → ∀ w, (Instr.index 91 (.agg mixesC) (.int .i64 k)).run Tryd.prog w = .ok (.agg #[.int .i64 (mixAt k 0), .int .i64 (mixAt k 1), .int .i64 (mixAt k 2), .int .i64 (mixAt k 3)]) w := by
        intro k hk w
        rw [run_index_part 91 90 8 4 mixesC k (.array 4 3) Tryd.underlying91 Tryd.underlying90 rfl (by kernel_rfl) hk w]
        have hk' : k = 0 ∨ k = 1 ∨ k = 2 ∨ k = 3 ∨ k = 4 ∨ k = 5 ∨ k = 6 ∨ k = 7 := by omega
        rcases hk' with rfl | rfl | rfl | rfl | rfl | rfl | rfl | rfl <;> rfl
      have IXR := Aside0.mk ixr
      have IXM := Aside0.mk ixm
      clear ixr ixm
      have hsg : IntKind.u32.signed = false := rfl
      cases last
      case' false =>
        go_wp2_with fail
        obtain ⟨L3, hL3⟩ : ∃ L3, L3 = L2 := ⟨_, rfl⟩
        have T7 := Aside0.mk T6.out
        have HT : Aside0 (L3 = veeL hs n' false ∧ L3.length = 16) := Aside0.mk ⟨by rw [hL3, HL2.out.1, ← HV13.out, HL1.out.1, ← HV12.out, HL0.out.1]; rfl, by rw [hL3]; exact HL2.out.2⟩
        rw [← hL3] at T7
        clear T6 a1 a2 HV14 HL2 HV13 HL1 HV12 HL0 hL3
        generalize W6 = W7 at *
      case' true =>
        go_wp2_with fail
        obtain ⟨L3, hL3⟩ : ∃ L3, L3 = L2.set 14 (bits BinOp.xor IntKind.u32 IntKind.u32.max v14) := ⟨_, rfl⟩
        have T7 := Aside0.mk (T6.out.setV 14 (bits BinOp.xor IntKind.u32 IntKind.u32.max v14))
        have HT : Aside0 (L3 = veeL hs n' true ∧ L3.length = 16) := Aside0.mk ⟨by rw [hL3, ← HV14.out, HL2.out.1, ← HV13.out, HL1.out.1, ← HV12.out, HL0.out.1]; rfl, by rw [hL3, List.length_set]; exact HL2.out.2⟩
        rw [← hL3] at T7
        generalize W6.setCell ⟨V, 14, none⟩ (.int .u32 (bits BinOp.xor IntKind.u32 IntKind.u32.max v14)) = W7 at *
        clear T6 a1 a2 HV14 HL2 HV13 HL1 HV12 HL0 hL3
      all_goals
        refine (rows_calls _).mono ?_
        rintro e W8 ⟨rfl, hb8⟩
        have T8 := Aside0.mk (T7.out.below hb8)
        clear T7 hb8
        go_wp2_with fail
        go_loopw [100] (fun i wr => ∃ k : Nat, k ≤ 10 ∧ i = .int .i64 k ∧ TS w wr g w.heap.size V hs v n' (wordsL b) (outer (wordsL b) L3 k)) (fun i _ => 10 - (intOf i).toNat)
        case atStart => exact ⟨0, Nat.zero_le _, rfl, T8.out⟩
        case round =>
          obtain ⟨k, hk, rfl, hT⟩ := hrel
          have HT8 := Aside0.mk hT
          clear hT T8
          by_cases hlt : k < 10
          · have d1 : decide ((k : Int) < 10) = true := decide_eq_true (by omega)
            have ix := IXR.out k hlt
            obtain ⟨R, hR⟩ : ∃ R, R = rowsL.getD k [] := ⟨_, rfl⟩
            rw [← hR] at ix
            have hr16 : R.length = 16 := by rw [hR]; exact row_len k hlt
            have HR := Aside0.mk (And.intro hR hr16)
            have hz : ∀ w, (zeroValue 87).run Tryd.prog w = .ok (.agg zeros16) w := fun w => by kernel_rfl
            have r1 := Aside0.mk (show (Tryd.prog.info? 87).map (·.size) = some (nums .u8 R).toArray.size from by rw [List.size_toArray, nums_length, hr16]; kernel_rfl)
            have r2 := Aside0.mk (show zeros16.size = (nums .u8 R).toArray.size from by show 16 = _; rw [List.size_toArray, nums_length, hr16])
            have r3 := Aside0.mk (nums_all R)
            clear hR hr16
            go_wp2_with (first | fail | (refine wpList_store_rowTo rfl 87 _ _ rfl rfl wr.heap.size (nums .u8 R).toArray rfl rfl 87 zeros16 (heap_alloc_new wr _) r1.out r2.out r3.out ?_))
            have T9 := Aside0.mk (HT8.out.below (below_row (below_alloc (Below.refl wr.heap.size wr) (.cells zeros16 87)) (Nat.le_refl _) (nums .u8 R).toArray))
            have RB := Aside0.mk (setRow_heap _ _ _ (nums .u8 R).toArray _ _ (blk_new wr (.cells zeros16 87)))
            have GV := Aside0.mk HT8.out.vee.lt
            generalize (wr.alloc (.cells zeros16 87)).setRow wr.heap.size (nums .u8 R).toArray = W9 at *
            generalize wr.heap.size = G at *
            clear r1 r2 r3
            refine (mixes_calls _).mono ?_
            rintro e W10 ⟨rfl, hb10⟩
            have T10 := Aside0.mk (T9.out.below hb10)
            have RB10 := Aside0.mk (blk_below RB.out hb10)
            clear T9 RB hb10 ix HT8
            go_wp2_with fail
            go_loopw [104] (fun i wq => ∃ q : Nat, q ≤ 8 ∧ i = .int .i64 q ∧ TS w wq g w.heap.size V hs v n' (wordsL b) (inner (wordsL b) R (outer (wordsL b) L3 k) q) ∧ wq.heap[G]? = some (.cells (nums .u8 R).toArray 87 (0, 0))) (fun i _ => 8 - (intOf i).toNat)
            case atStart => exact ⟨0, Nat.zero_le _, rfl, T10.out, RB10.out⟩
            case round =>
              obtain ⟨q, hq, rfl, hTq, hRq⟩ := hrel
              have TQ := Aside0.mk hTq
              have RQ := Aside0.mk hRq
              clear hTq hRq T10 RB10
              by_cases hltq : q < 8
              · have d2 : decide ((q : Int) < 8) = true := decide_eq_true (by omega)
                have ix := IXM.out q hltq
                have hmx := mix_ok q hltq
                have HIN : Aside0 (inner (wordsL b) R (outer (wordsL b) L3 k) (q + 1) = mixL (inner (wordsL b) R (outer (wordsL b) L3 k) q) (mixAt q 0) (mixAt q 1) (mixAt q 2) (mixAt q 3) ((wordsL b).getD (R.getD (2 * q) 0).toNat 0) ((wordsL b).getD (R.getD (2 * q + 1) 0).toNat 0)) := Aside0.mk rfl
                generalize mixAt q 0 = m0 at *
                generalize mixAt q 1 = m1 at *
                generalize mixAt q 2 = m2 at *
                generalize mixAt q 3 = m3 at *
                have HMX := Aside0.mk hmx
                clear hmx
                have xa := row_range k hlt (2 * q) (by omega)
                have xb := row_range k hlt (2 * q + 1) (by omega)
                rw [← HR.out.1] at xa xb
                obtain ⟨xn, xlt, hxv⟩ := xa
                obtain ⟨yn, ylt, hyv⟩ := xb
                go_wp2_with fail
                have T11 := Aside0.mk (TQ.out.alloc (.cells #[.int .i64 m0, .int .i64 m1, .int .i64 m2, .int .i64 m3] 90))
                have R11 := Aside0.mk (blk_alloc RQ.out (.cells #[.int .i64 m0, .int .i64 m1, .int .i64 m2, .int .i64 m3] 90))
                have A11 := blk_new wr (.cells #[.int .i64 m0, .int .i64 m1, .int .i64 m2, .int .i64 m3] 90)
                generalize wr.alloc (.cells #[.int .i64 m0, .int .i64 m1, .int .i64 m2, .int .i64 m3] 90) = W11 at *
                generalize wr.heap.size = AT at *
                have p0 : W11.cell? ⟨AT, 0, none⟩ = some (.int .i64 m0) := (blk_cell A11 0).trans rfl
                have p1 : W11.cell? ⟨AT, 1, none⟩ = some (.int .i64 m1) := (blk_cell A11 1).trans rfl
                have p2 : W11.cell? ⟨AT, 2, none⟩ = some (.int .i64 m2) := (blk_cell A11 2).trans rfl
                have p3 : W11.cell? ⟨AT, 3, none⟩ = some (.int .i64 m3) := (blk_cell A11 3).trans rfl
                have rx : W11.cell? ⟨G, 2 * q, none⟩ = some (.int .u8 xn) := by rw [row_cell R11.out (2 * q) (by rw [HR.out.2]; omega), ← hxv]
                have ry : W11.cell? ⟨G, 2 * q + 1, none⟩ = some (.int .u8 yn) := by rw [row_cell R11.out (2 * q + 1) (by rw [HR.out.2]; omega), ← hyv]
                have mx := T11.out.words.cell xn (by rw [words_len]; exact xlt)
                have my := T11.out.words.cell yn (by rw [words_len]; exact ylt)
                have HXY := Aside0.mk (And.intro hxv hyv)
                clear hxv hyv A11 TQ RQ
                have z1 : (xn : Int) < 16 := by omega
                have z2 : (yn : Int) < 16 := by omega
                have z3 : (0 : Int) ≤ xn := by omega
                have z4 : (0 : Int) ≤ yn := by omega
                have z5 : (q : Int) < 8 := by omega
                have z6 : (2 : Int) * q < 16 := by omega
                have z7 : (2 : Int) * q + 1 < 16 := by omega
                have z8 : (0 : Int) ≤ 2 * q := by omega
                have z9 : (0 : Int) ≤ 2 * q + 1 := by omega
                have s3 : (2 * (q : Int)).toNat = 2 * q := by omega
                have s4 : (2 * (q : Int) + 1).toNat = 2 * q + 1 := by omega
                have s1 : IntKind.i64.wrap (2 * (q : Int)) = 2 * q := IntWalk.i64_in _ (by omega)
                have s2 : IntKind.i64.wrap (2 * (q : Int) + 1) = 2 * q + 1 := IntWalk.i64_in _ (by omega)
                go_still_tail 14, (by kernel_rfl)
                clear s1 s2 s3 s4 z8 z9
                change wpList _ _ _ _ _ W11.drew
                have TD := Aside0.mk T11.out.drew
                have RD := Aside0.mk (blk_drew R11.out)
                clear T11 R11 p0 p1 p2 p3 rx ry mx my z1 z2 z3 z4 z5 z6 z7
                generalize W11.drew = W12 at *
                go_wp2_with fail
                refine (mix_calls V 85 (inner (wordsL b) R (outer (wordsL b) L3 k) q) m0 m1 m2 m3 _ _ _ TD.out.vee (by rw [inner_len, outer_len]; exact HT.out.2) HMX.out.1.1 HMX.out.1.2.1 HMX.out.1.2.2.1 HMX.out.1.2.2.2 HMX.out.2.1 HMX.out.2.2.1 HMX.out.2.2.2.1 HMX.out.2.2.2.2.1 HMX.out.2.2.2.2.2.1 HMX.out.2.2.2.2.2.2).mono ?_
                rintro e w1 ⟨rfl, hV, hK⟩
                have T12 := Aside0.mk (TD.out.mixed hK hV)
                have R12 := Aside0.mk ((keep_at hK (blk_lt RD.out) (by have := GV.out; omega)).trans RD.out)
                clear hV hK TD RD
                go_wp2_with fail
                go_roundw
                case rel =>
                  refine ⟨q + 1, by omega, by go_num, ?_, R12.out⟩
                  rw [HIN.out, HXY.out.1, HXY.out.2]
                  exact T12.out
                case measure => simp [intOf]; omega
              · obtain rfl : q = 8 := by omega
                have d2 : decide (((8 : Nat) : Int) < 8) = false := by decide
                go_wp2_with fail
                go_roundw
                case rel => exact ⟨k + 1, by omega, by go_num, by rw [outer, ← HR.out.1]; exact TQ.out⟩
                case measure => simp [intOf]; omega
          · obtain rfl : k = 10 := by omega
            have d1 : decide (((10 : Nat) : Int) < 10) = false := by decide
            go_wp2_with fail
            go_loopw [125] (fun i wr => ∃ j : Nat, j ≤ 8 ∧ i = .int .i64 j ∧ TS w wr g w.heap.size V ((finL hs (outer (wordsL b) L3 10)).take j ++ hs.drop j) v n' (wordsL b) (outer (wordsL b) L3 10)) (fun i _ => 8 - (intOf i).toNat)
            case atStart => exact ⟨0, Nat.zero_le _, rfl, HT8.out⟩
            case round =>
              obtain ⟨j, hj, rfl, hTj⟩ := hrel
              have TJ := Aside0.mk hTj
              clear hTj HT8
              by_cases hltj : j < 8
              · have d2 : decide ((j : Int) < 8) = true := decide_eq_true (by omega)
                have d3 : (j : Int) < 8 := by omega
                have vl : (outer (wordsL b) L3 10).length = 16 := by rw [outer_len]; exact HT.out.2
                have c1 := TJ.out.hash.cell j hltj
                rw [fin_at _ hs j (finL_len _ _) HH.out.len hltj] at c1
                have f1 := TJ.out.hash.free j
                have c2 := TJ.out.vee.cell j (by omega)
                have c3 := TJ.out.vee.cell (j + 8) (by omega)
                clear vl
                generalize hh1 : hs.getD j 0 = h1 at c1
                generalize hh2 : (outer (wordsL b) L3 10).getD j 0 = h2 at c2
                generalize hh3 : (outer (wordsL b) L3 10).getD (j + 8) 0 = h3 at c3
                have HX := Aside0.mk (And.intro hh1 (And.intro hh2 hh3))
                clear hh1 hh2 hh3
                have d4 : (j : Int) + 8 < 16 := by omega
                go_wp2_with fail
                go_region
                have TN := Aside0.mk ((TJ.out.setH j hltj (bits BinOp.xor IntKind.u32 h1 (bits BinOp.xor IntKind.u32 h2 h3))).drew)
                go_wp2_with fail
                go_roundw
                case rel =>
                  refine ⟨j + 1, by omega, by go_num, ?_⟩
                  have e := TN.out
                  rw [← HX.out.1, ← HX.out.2.1, ← HX.out.2.2, fin_next hs _ j HH.out.len hltj] at e
                  rw [← HX.out.1, ← HX.out.2.1, ← HX.out.2.2]
                  exact e
                case measure => simp [intOf]; omega
              · obtain rfl : j = 8 := by omega
                have d2 : decide (((8 : Nat) : Int) < 8) = false := by decide
                go_wp2_with fail
                go_end0
                have e := TJ.out.hash
                rw [fin_end hs _ HH.out.len, HT.out.1] at e
                exact ⟨rfl, by rw [HN.out]; exact e, TJ.out.keep⟩
end Go.Proofs.YteplphpbpaojjaaDoor.Bk
