import Derived.Test.YtacjfgdehnenpaaProg
import Derived.Below
import Derived.Deep.Draws
import Derived.Deep.AppendLies
import Derived.Maps.AppendAt
import Derived.OwnWalk
import Derived.Laws.BytesArg
import Derived.Laws.MakeOwn
import Derived.Laws.OwnMore
import Derived.Deep.OwnRows
import Derived.Tactics
import Derived.Lib.ConvBytes
import Derived.Laws.Slices
import Derived.WalkKit
import Derived.KernelRfl
import Derived.RowKit3
import Derived.Deep.LoopGhost
import Derived.Deep.QuietTactic
import Derived.BigQuiet
import Derived.WideLaws
import Derived.Deep.DeepCutAuto
import Derived.Deep.CutBlock
import Derived.Deep.RegionHeld3
import Derived.Laws.Rows
import Derived.Lib.AppendStr
import Derived.ArgAppend
import Derived.Laws.IdiomCopy
import Derived.OrdersHeld
import Derived.Laws.BitsLemmas
import Derived.RowKit
import Derived.Test.YtacjfgdehnenpaaWWords
import Derived.Test.YtacjfgdehnenpaaWLast
import Derived.Test.YtacjfgdehnenpaaWMore
import Derived.Test.YtacjfgdehnenpaaBk3
import Derived.LoopTactic
import Derived.Deep.RegionLaw
import Derived.StillTailTactics
namespace Go.Proofs.Ytacjfgdehnenpaa.Bk
open Go.RowKit Go.Proofs.YtacjfgdehnenpaaW.PrintWords Go.Proofs.YtacjfgdehnenpaaW.PrintLast Go.Proofs.YtacjfgdehnenpaaW.PrintMore
set_option linter.unusedVariables false
set_option linter.unusedSimpArgs false

/-- A hash in memory: its numbers, what lies in 'rest', how many bytes were mixed in. -/
structure IsHash (w : World) (g : Nat) (hs : List Int) (v : Value) (n : Int) : Prop where
  blk : w.heap[g]? = some (.cells ((nums .u32 hs) ++ [v, .int .u64 n]).toArray 48 (0, 0))
  len : hs.length = 8
theorem IsHash.lt {w : World} {g : Nat} {hs : List Int} {v : Value} {n : Int} (h : IsHash w g hs v n) : g < w.heap.size := blk_lt h.blk
theorem IsHash.cell {w : World} {g : Nat} {hs : List Int} {v : Value} {n : Int} (h : IsHash w g hs v n) (i : Nat) (hi : i < 8) : w.cell? ⟨g, i, none⟩ = some (.int .u32 (hs.getD i 0)) := by
  rw [blk_cell h.blk]
  have hl := h.len
  simp [nums, List.getElem?_append, hl, hi]
theorem IsHash.cell8 {w : World} {g : Nat} {hs : List Int} {v : Value} {n : Int} (h : IsHash w g hs v n) : w.cell? ⟨g, 8, none⟩ = some v := by
  rw [blk_cell h.blk]
  simp [nums, List.getElem?_append, h.len]
theorem IsHash.cell9 {w : World} {g : Nat} {hs : List Int} {v : Value} {n : Int} (h : IsHash w g hs v n) : w.cell? ⟨g, 9, none⟩ = some (.int .u64 n) := by
  rw [blk_cell h.blk]
  simp [nums, List.getElem?_append, h.len]
theorem IsHash.free {w : World} {g : Nat} {hs : List Int} {v : Value} {n : Int} (h : IsHash w g hs v n) (i : Nat) : w.frozen? ⟨g, i, none⟩ = false := blk_frozen h.blk i
theorem IsHash.put {w : World} {g : Nat} {hs : List Int} {v : Value} {n : Int} (h : IsHash w g hs v n) (i : Nat) (hi : i < 8) (x : Int) : IsHash (w.setCell ⟨g, i, none⟩ (.int .u32 x)) g (hs.set i x) v n := by
  refine ⟨?_, by rw [List.length_set]; exact h.len⟩
  rw [blk_set h.blk i (.int .u32 x)]
  have hl := h.len
  simp [nums, List.map_set, List.set_append, hl, hi]
theorem IsHash.put8 {w : World} {g : Nat} {hs : List Int} {v : Value} {n : Int} (h : IsHash w g hs v n) (u : Value) : IsHash (w.setCell ⟨g, 8, none⟩ u) g hs u n := by
  refine ⟨?_, h.len⟩
  rw [blk_set h.blk 8 u]
  simp [nums, List.set_append, h.len]
theorem IsHash.put9 {w : World} {g : Nat} {hs : List Int} {v : Value} {n : Int} (h : IsHash w g hs v n) (m : Int) : IsHash (w.setCell ⟨g, 9, none⟩ (.int .u64 m)) g hs v m := by
  refine ⟨?_, h.len⟩
  rw [blk_set h.blk 9 (.int .u64 m)]
  simp [nums, List.set_append, h.len]
theorem IsHash.kept {w w1 : World} {g : Nat} {hs : List Int} {v : Value} {n : Int} (h : IsHash w g hs v n) (e : w1.heap[g]? = w.heap[g]?) : IsHash w1 g hs v n := ⟨e.trans h.blk, h.len⟩
/-- What is written besides lies behind all that was. -/
theorem keep_beside {w w1 w2 : World} {g g' : Nat} (h : KeepBut w w1 g none) (k : KeepBut w1 w2 g' none) (hg : w.heap.size ≤ g') : KeepBut w w2 g none :=
  ⟨Nat.le_trans h.size k.size, fun i hi hne hr => (k.block i (Nat.lt_of_lt_of_le hi h.size) (by omega) (by simp)).trans (h.block i hi hne hr), k.os.trans h.os, k.tape.trans h.tape, k.output.trans h.output⟩
theorem keep_at {w w1 : World} {g i : Nat} (h : KeepBut w w1 g none) (hi : i < w.heap.size) (hne : i ≠ g) : w1.heap[i]? = w.heap[i]? := h.2 i hi hne (by simp)

/-- The sixteen numbers that are mixed. -/
def veeL (hs : List Int) (n : Int) (last : Bool) : List Int :=
  let L0 := hs ++ firstsL
  let L1 := L0.set 12 (Go.bits .xor .u32 (L0.getD 12 0) (n % 4294967296))
  let L2 := L1.set 13 (Go.bits .xor .u32 (L1.getD 13 0) (n / 4294967296 % 4294967296))
  if last then L2.set 14 (Go.bits .xor .u32 IntKind.u32.max (L2.getD 14 0)) else L2
/-- Where a mixing works, and on what. -/
def mixAt (i j : Nat) : Nat := ((mixesL.getD i []).getD j 0).toNat
def inner (M R V : List Int) : Nat → List Int
  | 0 => V
  | i + 1 => mixL (inner M R V i) (mixAt i 0) (mixAt i 1) (mixAt i 2) (mixAt i 3) (M.getD (R.getD (2 * i) 0).toNat 0) (M.getD (R.getD (2 * i + 1) 0).toNat 0)
def outer (M V : List Int) : Nat → List Int
  | 0 => V
  | r + 1 => inner M (rowsL.getD r []) (outer M V r) 8
/-- Bytes that lie in memory. -/
structure Bytes (w : World) (bb off m : Nat) (b : List Int) : Prop where
  len : b.length = m
  le : m ≤ 9223372036854775807
  cell : ∀ j, j < m → w.cell? ⟨bb, off + j, none⟩ = some (.int .u8 (b.getD j 0))
/-- copy onto a row, as one step of a region that draws. -/
theorem step_copy_row {P : Program} {ops : Array Oper} {o : Oper} {a : Act} {w : World} {K : Act → World → Prop} {Q : Exit → Act → World → Prop} {E : Prop} (hgd : o.guard = none) (d s : Operand) (dT sT : TypeId)
    (ho : o.op = .call { callee := .builtin .copy, args := #[d, s], argTypes := #[dT, sT] }) (elem : TypeId) (hu : P.underlying dT = some (.slice elem)) (hsz : (P.info? elem).map (·.size) = some 1)
    (g off dLen dCap : Nat) (ad : Addr) (sLen sCap : Nat) (hd : a.eval d = .slice (some ⟨g, off, none⟩) dLen dCap) (hs : a.eval s = .slice (some ad) sLen sCap)
    (cur : List Value) (t : TypeId) (hg : w.heap[g]? = some (.cells cur.toArray t (0, 0))) (cs : List Value) (hn : cs.length = Nat.min sLen dLen)
    (hsrc : ∀ j v, cs[j]? = some v → w.cell? (ad.add j) = some v) (hfit : off + cs.length ≤ cur.length) (h1 : ∀ v ∈ cs, v.oneCell' = true)
    (h : K (a.put o.dst (goInt cs.length)) (w.setRow g (Go.splice cur off cs).toArray)) :
    if Region.wanted o (yielded ops a.tmps) = true then Oper.wp P o a w K Q else E := by
  have hw : Region.wanted o (yielded ops a.tmps) = true := by simp [Region.wanted, hgd]
  rw [if_pos hw]
  have hrun := run_copy_row (P := P) w dT sT o.type elem g off dLen dCap ad sLen sCap cur.toArray t cs hu hsz hg hn hsrc (by simpa using hfit) h1
  unfold Oper.wp
  simp [execOp, ho, resolve, invoke, builtin, hd, hs, hrun, Result.andThen]
  have h2 : K (a.put o.dst (goInt cs.length)) (w.setRow g (List.take off cur ++ (cs ++ List.drop (off + cs.length) cur)).toArray) := by simpa [Go.splice] using h
  exact h2
/-- A word of four bytes. -/
def wordAt (b : List Int) (i : Nat) : Int := Go.bits .or .u32 (Go.bits .or .u32 (Go.bits .or .u32 (b.getD (4 * i) 0) (b.getD (4 * i + 1) 0 * 256)) (b.getD (4 * i + 2) 0 * 65536)) (b.getD (4 * i + 3) 0 * 16777216)
def wordsL (b : List Int) : List Int := (List.range 16).map (wordAt b)
/-- What holds when k words are read. -/
def TWords (B : Nat) (b : List Int) (k : Nat) (w wr : World) : Prop :=
  Below w.heap.size w wr ∧ IsU wr B 63 ((wordsL b).take k ++ List.replicate (16 - k) 0)
/-- What lies in memory while a block is mixed in. -/
structure TS (w W : World) (g B V : Nat) (hs : List Int) (v : Value) (n : Int) (M L : List Int) : Prop where
  keep : KeepBut w W g none
  hash : IsHash W g hs v n
  words : IsU W B 63 M
  vee : IsU W V 63 L
  ge : w.heap.size ≤ B
  lt : B < V
  glt : g < w.heap.size
section
variable {w W W1 : World} {g B V : Nat} {hs : List Int} {v : Value} {n : Int} {M L L1 : List Int}
theorem TS.drew (h : TS w W g B V hs v n M L) : TS w W.drew g B V hs v n M L := ⟨keep_drew h.keep, ⟨h.hash.blk, h.hash.len⟩, h.words, h.vee, h.ge, h.lt, h.glt⟩
theorem TS.below (h : TS w W g B V hs v n M L) (hb : Below W.heap.size W W1) : TS w W1 g B V hs v n M L :=
  ⟨keep_beside h.keep (KeepBut.of_below hb W.heap.size none) h.keep.1, h.hash.kept (hb.block g h.hash.lt), blk_below h.words hb, blk_below h.vee hb, h.ge, h.lt, h.glt⟩
theorem TS.alloc (h : TS w W g B V hs v n M L) (o : Obj) : TS w (W.alloc o) g B V hs v n M L := h.below (below_alloc (Below.refl _ _) o)
theorem TS.mixed (h : TS w W g B V hs v n M L) (hk : KeepBut W W1 V none) (hv : IsU W1 V 63 L1) : TS w W1 g B V hs v n M L1 :=
  ⟨keep_beside h.keep hk (by have := h.ge; have := h.lt; omega), h.hash.kept (keep_at hk h.hash.lt (by have := h.ge; have := h.lt; have := h.glt; omega)), (keep_at hk h.words.lt (by have := h.lt; omega)).trans h.words, hv, h.ge, h.lt, h.glt⟩
theorem TS.setV (h : TS w W g B V hs v n M L) (i : Nat) (x : Int) : TS w (W.setCell ⟨V, i, none⟩ (.int .u32 x)) g B V hs v n M (L.set i x) := h.mixed ((KeepBut.refl W V none).set_ i _) (h.vee.put i x)
theorem TS.rowV (h : TS w W g B V hs v n M L) (L1 : List Int) : TS w (W.setRow V (nums .u32 L1).toArray) g B V hs v n M L1 :=
  h.mixed ⟨by simp [World.setRow], fun i hi hne _ => setRow_other W V i _ hne, rfl, rfl, rfl⟩ (setRow_heap _ _ _ _ _ _ h.vee)
theorem TS.setH (h : TS w W g B V hs v n M L) (i : Nat) (hi : i < 8) (x : Int) : TS w (W.setCell ⟨g, i, none⟩ (.int .u32 x)) g B V (hs.set i x) v n M L :=
  ⟨h.keep.set_ i _, h.hash.put i hi x, blk_far h.words (by have := h.ge; have := h.glt; simp; omega) _, blk_far h.vee (by have := h.ge; have := h.lt; have := h.glt; simp; omega) _, h.ge, h.lt, h.glt⟩
end
theorem splice_first (hs : List Int) (hl : hs.length = 8) : Go.splice (nums .u32 [0, 0, 0, 0, 0, 0, 0, 0, 0, 0, 0, 0, 0, 0, 0, 0]) 0 (nums .u32 hs) = nums .u32 (hs ++ List.replicate 8 0) := by
  simp [Go.splice, nums, hl]
theorem splice_last (hs fs : List Int) (hl : hs.length = 8) (hf : fs.length = 8) : Go.splice (nums .u32 (hs ++ [0, 0, 0, 0, 0, 0, 0, 0])) 8 (nums .u32 fs) = nums .u32 (hs ++ fs) := by
  simp [Go.splice, nums, hl, hf]
theorem nums_one (L : List Int) : ∀ v ∈ nums .u32 L, v.oneCell' = true := by
  intro v hv
  obtain ⟨x, _, rfl⟩ := List.mem_map.1 hv
  rfl
theorem copy_src {w : World} {g : Nat} {hs : List Int} {v : Value} {n : Int} (h : IsHash w g hs v n) : ∀ j u, (nums .u32 hs)[j]? = some u → w.drew.cell? ((⟨g, 0, none⟩ : Addr).add j) = some u := by
  intro j u hj
  rw [add_plain]
  have hl : j < 8 := by
    have := (List.getElem?_eq_some_iff.1 hj).1
    rw [nums_length, h.len] at this
    exact this
  show w.cell? ⟨g, j, none⟩ = some u
  rw [h.cell j hl, ← hj]
  simp [nums, List.getElem?_eq_getElem (show j < hs.length by rw [h.len]; exact hl)]
theorem copy_srcU {w : World} {g t : Nat} {L : List Int} (h : IsU w g t L) : ∀ j u, (nums .u32 L)[j]? = some u → w.drew.cell? ((⟨g, 0, none⟩ : Addr).add j) = some u := by
  intro j u hj
  rw [add_plain]
  have hl : j < L.length := by
    have := (List.getElem?_eq_some_iff.1 hj).1
    rwa [nums_length] at this
  show w.cell? ⟨g, j, none⟩ = some u
  rw [h.cell j hl, ← hj]
  simp [nums, List.getElem?_eq_getElem hl]
def zeros16 : Array Value := (List.replicate 16 (Value.int .u8 0)).toArray
theorem row_len (k : Nat) (hk : k < 10) : (rowsL.getD k []).length = 16 := by
  have hk' : k = 0 ∨ k = 1 ∨ k = 2 ∨ k = 3 ∨ k = 4 ∨ k = 5 ∨ k = 6 ∨ k = 7 ∨ k = 8 ∨ k = 9 := by omega
  rcases hk' with rfl | rfl | rfl | rfl | rfl | rfl | rfl | rfl | rfl | rfl <;> rfl
theorem nums_all (R : List Int) : (nums .u8 R).toArray.all (·.oneCell') = true := by
  simp [nums, List.all_eq_true, Value.oneCell']
theorem row_range (k : Nat) (hk : k < 10) (j : Nat) (hj : j < 16) : ∃ a : Nat, a < 16 ∧ (rowsL.getD k []).getD j 0 = (a : Int) := by
  have h : ∀ k : Fin 10, ∀ j : Fin 16, ((rowsL.getD k.1 []).getD j.1 0).toNat < 16 ∧ (rowsL.getD k.1 []).getD j.1 0 = (((rowsL.getD k.1 []).getD j.1 0).toNat : Int) := by decide +kernel
  exact ⟨_, (h ⟨k, hk⟩ ⟨j, hj⟩).1, (h ⟨k, hk⟩ ⟨j, hj⟩).2⟩
theorem mix_ok (q : Nat) (hq : q < 8) : (mixAt q 0 < 16 ∧ mixAt q 1 < 16 ∧ mixAt q 2 < 16 ∧ mixAt q 3 < 16) ∧ mixAt q 0 ≠ mixAt q 1 ∧ mixAt q 0 ≠ mixAt q 2 ∧ mixAt q 0 ≠ mixAt q 3 ∧ mixAt q 1 ≠ mixAt q 2 ∧ mixAt q 1 ≠ mixAt q 3 ∧ mixAt q 2 ≠ mixAt q 3 := by
  have h : ∀ q : Fin 8, (mixAt q.1 0 < 16 ∧ mixAt q.1 1 < 16 ∧ mixAt q.1 2 < 16 ∧ mixAt q.1 3 < 16) ∧ mixAt q.1 0 ≠ mixAt q.1 1 ∧ mixAt q.1 0 ≠ mixAt q.1 2 ∧ mixAt q.1 0 ≠ mixAt q.1 3 ∧ mixAt q.1 1 ≠ mixAt q.1 2 ∧ mixAt q.1 1 ≠ mixAt q.1 3 ∧ mixAt q.1 2 ≠ mixAt q.1 3 := by decide +kernel
  exact h ⟨q, hq⟩
theorem mixL_len (L : List Int) (i0 i1 i2 i3 : Nat) (x y : Int) : (mixL L i0 i1 i2 i3 x y).length = L.length := by simp [mixL]
theorem inner_len (M R V : List Int) (i : Nat) : (inner M R V i).length = V.length := by
  induction i with
  | zero => rfl
  | succ i ih => rw [inner, mixL_len, ih]
theorem outer_len (M V : List Int) (r : Nat) : (outer M V r).length = V.length := by
  induction r with
  | zero => rfl
  | succ r ih => rw [outer, inner_len, ih]
/-- The numbers behind a block. -/
def finL (hs V : List Int) : List Int := (List.range 8).map fun i => Go.bits .xor .u32 (hs.getD i 0) (Go.bits .xor .u32 (V.getD i 0) (V.getD (i + 8) 0))
/-- The numbers of a hash, a block being mixed in. -/
def compress (hs b : List Int) (n : Int) (last : Bool) : List Int := finL hs (outer (wordsL b) (veeL hs n last) 10)
theorem finL_len (hs V : List Int) : (finL hs V).length = 8 := by simp [finL]
theorem fin_at (F hs : List Int) (j : Nat) (hF : F.length = 8) (hl : hs.length = 8) (hj : j < 8) : (F.take j ++ hs.drop j).getD j 0 = hs.getD j 0 := by
  rw [List.getD_eq_getElem?_getD, List.getD_eq_getElem?_getD, List.getElem?_append_right (by rw [List.length_take]; omega), List.length_take, List.getElem?_drop]
  congr 2
  omega
theorem fin_next (hs V : List Int) (j : Nat) (hl : hs.length = 8) (hj : j < 8) : ((finL hs V).take j ++ hs.drop j).set j (Go.bits .xor .u32 (hs.getD j 0) (Go.bits .xor .u32 (V.getD j 0) (V.getD (j + 8) 0))) = (finL hs V).take (j + 1) ++ hs.drop (j + 1) := by
  have hF := finL_len hs V
  have e : (finL hs V)[j]'(by omega) = Go.bits .xor .u32 (hs.getD j 0) (Go.bits .xor .u32 (V.getD j 0) (V.getD (j + 8) 0)) := by simp [finL]
  have hlt : ((finL hs V).take j).length = j := by rw [List.length_take]; omega
  rw [List.take_succ_eq_append_getElem (by omega), e, List.set_append_right _ _ (by omega), hlt, Nat.sub_self, List.drop_eq_getElem_cons (by omega), List.set_cons_zero, List.append_assoc, List.singleton_append]
theorem fin_end (hs V : List Int) (hl : hs.length = 8) : (finL hs V).take 8 ++ hs.drop 8 = finL hs V := by
  rw [List.take_of_length_le (by rw [finL_len]; exact Nat.le_refl 8), List.drop_eq_nil_of_le (by omega), List.append_nil]
theorem words_len (b : List Int) : (wordsL b).length = 16 := by simp [wordsL]
theorem row_cell {w : World} {g t : Nat} {L : List Int} (h : w.heap[g]? = some (.cells (nums .u8 L).toArray t (0, 0))) (i : Nat) (hi : i < L.length) : w.cell? ⟨g, i, none⟩ = some (.int .u8 (L.getD i 0)) := by
  rw [blk_cell h]
  simp [nums, hi]
theorem byte_at {b : List Int} (h : ∀ x ∈ b, 0 ≤ x ∧ x < 256) {j : Nat} (hj : j < b.length) : 0 ≤ b.getD j 0 ∧ b.getD j 0 < 256 := by
  rw [List.getD_eq_getElem?_getD, List.getElem?_eq_getElem hj]
  exact h _ (List.getElem_mem hj)
theorem TWords_next (b : List Int) (k : Nat) (hk : k < 16) (w wr : World) (h : TWords w.heap.size b k w wr) : TWords w.heap.size b (k + 1) w (wr.setCell ⟨w.heap.size, k, none⟩ (.int .u32 (wordAt b k))) := by
  obtain ⟨hb, h1⟩ := h
  refine ⟨below_set hb (Nat.le_refl _), ?_⟩
  have e := h1.put k (wordAt b k)
  have ea : (wordsL b).getD k 0 = wordAt b k := by simp [wordsL, hk]
  rw [← ea, fill_next (wordsL b) 16 k (by simp [wordsL]) hk] at e
  rw [← ea]
  exact e
end Go.Proofs.Ytacjfgdehnenpaa.Bk
