import Derived.Test.YtapdnkmaklpoeaaProg
import Derived.Below
import Derived.Deep.Draws
import Derived.Deep.AppendLies
import Derived.Maps.AppendAt
import Derived.OwnWalk
import Derived.Laws.BytesArg
import Derived.Laws.MakeOwn
import Derived.Laws.OwnMore
import Derived.Deep.OwnRows
import Derived.Tactics
import Derived.Lib.ConvBytes
import Derived.Laws.Slices
import Derived.WalkKit
import Derived.KernelRfl
import Derived.RowKit3
import Derived.Deep.LoopGhost
import Derived.Deep.QuietTactic
import Derived.BigQuiet
import Derived.WideLaws
import Derived.Deep.DeepCutAuto
import Derived.Deep.CutBlock
import Derived.Deep.RegionHeld3
import Derived.Laws.Rows
import Derived.Lib.AppendStr
import Derived.ArgAppend
import Derived.Laws.IdiomCopy
import Derived.OrdersHeld
import Derived.Laws.BitsLemmas
import Derived.RowKit
import Derived.Test.YtapdnkmaklpoeaaWWords
import Derived.Test.YtapdnkmaklpoeaaWLast
import Derived.Test.YtapdnkmaklpoeaaWMore
import Derived.Test.YtapdnkmaklpoeaaBk9
import Derived.Deep.RegionLaw
import Derived.Deep.DeepCutAuto
import Derived.Deep.Cut
namespace Go.Proofs.Ytapdnkmaklpoeaa.Bk
open Go.RowKit Go.Proofs.YtapdnkmaklpoeaaW.PrintWords Go.Proofs.YtapdnkmaklpoeaaW.PrintLast Go.Proofs.YtapdnkmaklpoeaaW.PrintMore
set_option linter.unusedVariables false
set_option linter.unusedSimpArgs false

theorem HS.kept {w w1 : World} {g g' : Nat} {hs b : List Int} {n : Int} (h : HS w g hs b n) (hk : KeepBut w w1 g' none) (hg : g ≠ g') (hb : ∀ A c bb off, IsHash w g hs (.slice A b.length c) n → A = some ⟨bb, off, none⟩ → bb ≠ g') : HS w1 g hs b n := by
  obtain ⟨A, c, h1, h2, h3, h4⟩ := h.ex
  exact ⟨⟨A, c, h1.kept (hk.block g h1.lt hg (by simp)), h2, h3.kept hk (fun bb off e => hb A c bb off h1 e), h4⟩, h.by_⟩
theorem Holds.below {w w1 : World} {A : Option Addr} {b : List Int} (h : Holds w A b) (hb : Below w.heap.size w w1) : Holds w1 A b := by
  rcases h with h | ⟨bb, off, rfl, hlt, hc⟩
  · exact .inl h
  · exact .inr ⟨bb, off, rfl, Nat.lt_of_lt_of_le hlt hb.size, fun j u hj => pw_cell_below hb (hc j u hj)⟩
theorem HS.below {w w1 : World} {g : Nat} {hs b : List Int} {n : Int} (h : HS w g hs b n) (hb : Below w.heap.size w w1) : HS w1 g hs b n := by
  obtain ⟨A, c, h1, h2, h3, h4⟩ := h.ex
  exact ⟨⟨A, c, h1.kept (hb.block g h1.lt), h2, h3.below hb, h4⟩, h.by_⟩
/-- What a copy is. -/
def Copied (w : World) (hs b : List Int) (n : Int) (e : Ending) (w' : World) : Prop := ∃ g Z, e = .returned (.pointer (some ⟨g, 0, none⟩)) ∧ IsHash w' g hs (.slice (some ⟨Z, 0, none⟩) b.length b.length) n ∧ Holds w' (some ⟨Z, 0, none⟩) b ∧ Z ≠ g ∧ (∀ x ∈ b, 0 ≤ x ∧ x < 256) ∧ w.heap.size ≤ g ∧ Below w.heap.size w w'
/-- The bytes have been copied. -/
def Filled (W : World) (Z : Nat) (b : List Int) (wx : World) : Prop := wx.heap[Z]? = some (.cells (nums .u8 b).toArray 5 (0, 0)) ∧ Below Z W wx
theorem splice_all (b : List Int) : Go.splice (nums .u8 (List.replicate b.length 0)) 0 (nums .u8 b) = nums .u8 b := by simp [Go.splice, nums]
theorem u8_one (L : List Int) : ∀ v ∈ nums .u8 L, v.oneCell' = true := by
  intro v hv
  obtain ⟨x, _, rfl⟩ := List.mem_map.1 hv
  rfl
theorem holds_lt {w : World} {A : Option Addr} {b : List Int} (h : Holds w A b) : ∀ bb off, A = some ⟨bb, off, none⟩ → bb < w.heap.size := by
  intro bb off e
  rcases h with ⟨rfl, _⟩ | ⟨x, y, rfl, hlt, _⟩
  · cases e
  · injection e with e
    injection e with e1 e2
    omega
theorem copy_from {w : World} {A : Option Addr} {b : List Int} (h : Holds w A b) (Z : Nat) : 0 < (nums .u8 b).length → some ⟨Z, 0, none⟩ = some (⟨Z, 0, none⟩ : Addr) ∧ ∃ ad, A = some ad ∧ ∀ j v, (nums .u8 b)[j]? = some v → w.drew.cell? (ad.add j) = some v := by
  intro hp
  rcases h with ⟨rfl, rfl⟩ | ⟨x, y, rfl, hlt, hc⟩
  · simp [nums] at hp
  · exact ⟨rfl, _, rfl, fun j v hj => by rw [Addr.add_lit]; exact hc j v hj⟩
set_option maxHeartbeats 2000000 in
set_option maxRecDepth 100000 in
theorem copy_calls (g : Nat) (hs b : List Int) (n : Int) (w : World) (hH : HS w g hs b n) (h64 : b.length ≤ 64) : Calls Try.prog 39 #[.pointer (some ⟨g, 0, none⟩)] w (Copied w hs b n) := by
  obtain ⟨⟨A, c, hI, hc, hA, hne⟩, hby⟩ := hH
  have HI := Aside0.mk hI
  have HA := Aside0.mk hA
  have HBY := Aside0.mk hby
  have HL := Aside0.mk h64
  have hlt := hI.lt
  have c8 := hI.cell8
  have hcs : ((nums .u32 hs) ++ [Value.slice A b.length c, .int .u64 n]).toArray.size = 10 := by rw [List.size_toArray, List.length_append, nums_length, hI.len]; rfl
  obtain ⟨C, hC⟩ : ∃ C, C = ((nums .u32 hs) ++ [Value.slice A b.length c, .int .u64 n]).toArray := ⟨_, rfl⟩
  have hblk : w.heap[g]? = some (.cells C 74 (0, 0)) := by rw [hC]; exact hI.blk
  rw [← hC] at hcs
  have r1 := Aside0.mk (show (Try.prog.info? 74).map (·.size) = some C.size from by rw [hcs]; kernel_rfl)
  have r2 := Aside0.mk (show (10 : Nat) = C.size from hcs.symm)
  have r3 := Aside0.mk (show C.all (·.oneCell') = true from by rw [hC]; simp [nums, List.all_eq_true, Value.oneCell'])
  have HBK := Aside0.mk hblk
  have HC := Aside0.mk hC
  have HNE := Aside0.mk hne
  have q1 : (b.length : Int) ≤ c := by omega
  clear hI hA hne hby hcs hC hblk
  have hmk := make64 b.length (by omega)
  clear h64
  go_enter Try.func39, Try.ntmps39
  go_upto_region 4 with (first | (refine wpList_load_row rfl 74 _ rfl g rfl 74 C (0, 0) (.struct _) HBK.out Try.underlying74 rfl r1.out ?_) | (refine wpList_store_rowTo rfl 74 _ _ rfl rfl w.heap.size C rfl rfl 74 _ (heap_alloc_new w _) r1.out r2.out r3.out ?_))
  have B1 := below_row (below_alloc (Below.refl w.heap.size w) (.cells #[.int .u32 0, .int .u32 0, .int .u32 0, .int .u32 0, .int .u32 0, .int .u32 0, .int .u32 0, .int .u32 0, .slice none 0 0, .int .u64 0] 74)) (Nat.le_refl _) C
  have N1 := setRow_heap _ _ _ C _ _ (blk_new w (.cells #[.int .u32 0, .int .u32 0, .int .u32 0, .int .u32 0, .int .u32 0, .int .u32 0, .int .u32 0, .int .u32 0, .slice none 0 0, .int .u64 0] 74))
  generalize (w.alloc (.cells #[.int .u32 0, .int .u32 0, .int .u32 0, .int .u32 0, .int .u32 0, .int .u32 0, .int .u32 0, .int .u32 0, .slice none 0 0, .int .u64 0] 74)).setRow w.heap.size C = W at *
  have I1 := HI.out.kept (B1.block g hlt)
  have I2 : IsHash W w.heap.size hs (.slice A b.length c) n := ⟨by rw [N1, HC.out], HI.out.len⟩
  clear c8
  have c8 := I1.cell8
  have d8 := I2.free 8
  have e8 := I2.cell8
  have hne : w.heap.size ≠ g := by omega
  have hW : w.heap.size < W.heap.size := I2.lt
  have I1 := Aside0.mk I1
  have I2 := Aside0.mk I2
  have B1 := Aside0.mk B1
  clear N1
  generalize hG : w.heap.size = G at *
  have HG := Aside0.mk hG
  clear hG
  go_upto_region 5 with fail
  have E0 := I2.out.put8 (.slice (some ⟨W.heap.size, 0, none⟩) b.length b.length)
  have E1 := E0.kept (Below.heap_alloc _ (.cells (nums .u8 (List.replicate b.length 0)).toArray 5) G E0.lt)
  have G1 := keep_alloc ((KeepBut.refl W G none).set_ 8 (.slice (some ⟨W.heap.size, 0, none⟩) b.length b.length)) (.cells (nums .u8 (List.replicate b.length 0)).toArray 5)
  have Z1 := blk_new (W.setCell ⟨G, 8, none⟩ (.slice (some ⟨W.heap.size, 0, none⟩) b.length b.length)) (.cells (nums .u8 (List.replicate b.length 0)).toArray 5)
  rw [show (W.setCell ⟨G, 8, none⟩ (.slice (some ⟨W.heap.size, 0, none⟩) b.length b.length)).heap.size = W.heap.size by simp] at Z1
  generalize (W.setCell ⟨G, 8, none⟩ (.slice (some ⟨W.heap.size, 0, none⟩) b.length b.length)).alloc (.cells (nums .u8 (List.replicate b.length 0)).toArray 5) = W2 at *
  have F1 := I1.out.kept (G1.block g (by omega) (by omega) (by simp))
  clear c8 d8 e8
  have c8 := F1.cell8
  have e8 := E1.cell8
  have HZ := Aside0.mk (blk_drew Z1)
  have LEN := Aside0.mk (show (nums .u8 b).length = Nat.min b.length b.length from by rw [nums_length]; exact (Nat.min_self _).symm)
  have SRC := Aside0.mk (copy_from (w := W2) ((HA.out.below (HG.out ▸ B1.out)).kept G1 (fun bb off e h => by have := holds_lt HA.out bb off e; have := HG.out; omega)) W.heap.size)
  have FIT := Aside0.mk (show 0 + (nums .u8 b).length ≤ (nums .u8 (List.replicate b.length 0)).length from by rw [nums_length, nums_length, List.length_replicate]; omega)
  have ONE := Aside0.mk (u8_one b)
  have BEL := Aside0.mk (below_drew (Below.refl W.heap.size W2))
  have E1' := Aside0.mk E1
  have G1' := Aside0.mk G1
  clear E0 E1 G1 Z1 F1
  generalize hZ : W.heap.size = Z at *
  have HZe := Aside0.mk hZ
  clear hZ
  go_cut [] from 4 (fun wx => Filled W2 Z b wx)
  case first =>
    go_region_law ((refine step_copy_splice rfl (.tmp 17) (.tmp 21) 43 43 rfl 5 Try.underlying43 (by kernel_rfl) (some ⟨Z, 0, none⟩) A b.length b.length b.length c (by simp [Act.eval, Act.put]) (by simp [Act.eval, Act.put]) Z 0 (nums .u8 (List.replicate b.length 0)) 5 HZ.out (nums .u8 b) LEN.out SRC.out FIT.out ONE.out Z W2 BEL.out (Nat.le_refl _) ?_; intro w9 h9 b9))
    all_goals (go_wp2_with fail; go_meet; exact ⟨by rw [← splice_all b]; exact h9.out, b9⟩)
  case rest =>
    have HF := Aside0.mk hcut
    clear hcut
    go_wp2_with fail
    go_ret
    obtain ⟨hz, hbz⟩ := HF.out
    refine ⟨G, Z, rfl, E1'.out.kept (hbz.block G hW), ?_, by omega, HBY.out, Nat.le_of_eq HG.out, ?_⟩
    · refine .inr ⟨Z, 0, rfl, blk_lt hz, fun j u hj => ?_⟩
      rw [Nat.zero_add, blk_cell hz, List.getElem?_toArray]
      exact hj
    · rw [HG.out]
      exact (B1.out.trans (G1'.out.below (by have := HZe.out; omega) (Nat.le_refl _))).trans (hbz.mono (by omega))
end Go.Proofs.Ytapdnkmaklpoeaa.Bk
