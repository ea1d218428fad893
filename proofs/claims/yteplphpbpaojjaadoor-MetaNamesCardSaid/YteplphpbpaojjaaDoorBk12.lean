import Derived.Test.YteplphpbpaojjaaDoorProg
import Derived.Below
import Derived.Deep.Draws
import Derived.Deep.AppendLies
import Derived.Maps.AppendAt
import Derived.OwnWalk
import Derived.Laws.BytesArg
import Derived.Laws.MakeOwn
import Derived.Laws.OwnMore
import Derived.Deep.OwnRows
import Derived.Tactics
import Derived.Lib.ConvBytes
import Derived.Laws.Slices
import Derived.WalkKit
import Derived.KernelRfl
import Derived.RowKit3
import Derived.Deep.LoopGhost
import Derived.Deep.QuietTactic
import Derived.BigQuiet
import Derived.WideLaws
import Derived.Deep.DeepCutAuto
import Derived.Deep.CutBlock
import Derived.Deep.RegionHeld3
import Derived.Laws.Rows
import Derived.Lib.AppendStr
import Derived.ArgAppend
import Derived.Laws.IdiomCopy
import Derived.OrdersHeld
import Derived.Laws.BitsLemmas
import Derived.RowKit
import Derived.Test.YteplphpbpaojjaaDoorWWords
import Derived.Test.YteplphpbpaojjaaDoorWLast
import Derived.Test.YteplphpbpaojjaaDoorWMore
import Derived.Test.YteplphpbpaojjaaDoorBk7
import Derived.Deep.RegionLaw
import Derived.Deep.Cut
import Derived.LoopTactic
namespace Go.Proofs.YteplphpbpaojjaaDoor.Bk
open Go.RowKit Go.Proofs.YteplphpbpaojjaaDoorW.PrintWords Go.Proofs.YteplphpbpaojjaaDoorW.PrintLast Go.Proofs.YteplphpbpaojjaaDoorW.PrintMore
set_option linter.unusedVariables false
set_option linter.unusedSimpArgs false

theorem HS.kept {w w1 : World} {g g' : Nat} {hs b : List Int} {n : Int} (h : HS w g hs b n) (hk : KeepBut w w1 g' none) (hg : g ≠ g') (hb : ∀ A c bb off, IsHash w g hs (.slice A b.length c) n → A = some ⟨bb, off, none⟩ → bb ≠ g') : HS w1 g hs b n := by
  obtain ⟨A, c, h1, h2, h3, h4⟩ := h.ex
  exact ⟨⟨A, c, h1.kept (hk.block g h1.lt hg (by simp)), h2, h3.kept hk (fun bb off e => hb A c bb off h1 e), h4⟩, h.by_⟩
theorem Holds.below {w w1 : World} {A : Option Addr} {b : List Int} (h : Holds w A b) (hb : Below w.heap.size w w1) : Holds w1 A b := by
  rcases h with h | ⟨bb, off, rfl, hlt, hc⟩
  · exact .inl h
  · exact .inr ⟨bb, off, rfl, Nat.lt_of_lt_of_le hlt hb.size, fun j u hj => pw_cell_below hb (hc j u hj)⟩
theorem HS.below {w w1 : World} {g : Nat} {hs b : List Int} {n : Int} (h : HS w g hs b n) (hb : Below w.heap.size w w1) : HS w1 g hs b n := by
  obtain ⟨A, c, h1, h2, h3, h4⟩ := h.ex
  exact ⟨⟨A, c, h1.kept (hb.block g h1.lt), h2, h3.below hb, h4⟩, h.by_⟩
/-- What a copy is. -/
def Copied (w : World) (hs b : List Int) (n : Int) (e : Ending) (w' : World) : Prop := ∃ g Z, e = .returned (.pointer (some ⟨g, 0, none⟩)) ∧ IsHash w' g hs (.slice (some ⟨Z, 0, none⟩) b.length b.length) n ∧ Holds w' (some ⟨Z, 0, none⟩) b ∧ Z ≠ g ∧ (∀ x ∈ b, 0 ≤ x ∧ x < 256) ∧ w.heap.size ≤ g ∧ Below w.heap.size w w'
/-- The bytes have been copied. -/
def Filled (W : World) (Z : Nat) (b : List Int) (wx : World) : Prop := wx.heap[Z]? = some (.cells (nums .u8 b).toArray 5 (0, 0)) ∧ Below Z W wx
theorem splice_all (b : List Int) : Go.splice (nums .u8 (List.replicate b.length 0)) 0 (nums .u8 b) = nums .u8 b := by simp [Go.splice, nums]
theorem u8_one (L : List Int) : ∀ v ∈ nums .u8 L, v.oneCell' = true := by
  intro v hv
  obtain ⟨x, _, rfl⟩ := List.mem_map.1 hv
  rfl
theorem holds_lt {w : World} {A : Option Addr} {b : List Int} (h : Holds w A b) : ∀ bb off, A = some ⟨bb, off, none⟩ → bb < w.heap.size := by
  intro bb off e
  rcases h with ⟨rfl, _⟩ | ⟨x, y, rfl, hlt, _⟩
  · cases e
  · injection e with e
    injection e with e1 e2
    omega
theorem copy_from {w : World} {A : Option Addr} {b : List Int} (h : Holds w A b) (Z : Nat) : 0 < (nums .u8 b).length → some ⟨Z, 0, none⟩ = some (⟨Z, 0, none⟩ : Addr) ∧ ∃ ad, A = some ad ∧ ∀ j v, (nums .u8 b)[j]? = some v → w.drew.cell? (ad.add j) = some v := by
  intro hp
  rcases h with ⟨rfl, rfl⟩ | ⟨x, y, rfl, hlt, hc⟩
  · simp [nums] at hp
  · exact ⟨rfl, _, rfl, fun j v hj => by rw [Addr.add_lit]; exact hc j v hj⟩
set_option maxHeartbeats 2000000 in
set_option maxRecDepth 100000 in
theorem copy_calls (g : Nat) (hs b : List Int) (n : Int) (w : World) (hH : HS w g hs b n) (h64 : b.length ≤ 64) : Calls Tryd.prog 47 #[.pointer (some ⟨g, 0, none⟩)] w (Copied w hs b n) := by
  obtain ⟨⟨A, c, hI, hc, hA, hne⟩, hby⟩ := hH
  have HI := Aside0.mk hI
  have HA := Aside0.mk hA
  have HBY := Aside0.mk hby
  have HL := Aside0.mk h64
  have hlt := hI.lt
  have c8 := hI.cell8
  have hcs : ((nums .u32 hs) ++ [Value.slice A b.length c, .int .u64 n]).toArray.size = 10 := by rw [List.size_toArray, List.length_append, nums_length, hI.len]; rfl
  obtain ⟨C, hC⟩ : ∃ C, C = ((nums .u32 hs) ++ [Value.slice A b.length c, .int .u64 n]).toArray := ⟨_, rfl⟩
  have hblk : w.heap[g]? = some (.cells C 78 (0, 0)) := by rw [hC]; exact hI.blk
  rw [← hC] at hcs
  have r1 := Aside0.mk (show (Tryd.prog.info? 78).map (·.size) = some C.size from by rw [hcs]; kernel_rfl)
  have r2 := Aside0.mk (show (10 : Nat) = C.size from hcs.symm)
  have r3 := Aside0.mk (show C.all (·.oneCell') = true from by rw [hC]; simp [nums, List.all_eq_true, Value.oneCell'])
  have HBK := Aside0.mk hblk
  have HC := Aside0.mk hC
  have HNE := Aside0.mk hne
  have q1 : (b.length : Int) ≤ c := by omega
  clear hI hA hne hby hcs hC hblk
  have hmk := make64 b.length (by omega)
  clear h64
  go_enter Tryd.func47, Tryd.ntmps47
  go_upto_region 4 with (first | (refine wpList_load_row rfl 78 _ rfl g rfl 78 C (0, 0) (.struct _) HBK.out Tryd.underlying78 rfl r1.out ?_) | (refine wpList_store_rowTo rfl 78 _ _ rfl rfl w.heap.size C rfl rfl 78 _ (heap_alloc_new w _) r1.out r2.out r3.out ?_))
  have B1 := below_row (below_alloc (Below.refl w.heap.size w) (.cells #[.int .u32 0, .int .u32 0, .int .u32 0, .int .u32 0, .int .u32 0, .int .u32 0, .int .u32 0, .int .u32 0, .slice none 0 0, .int .u64 0] 78)) (Nat.le_refl _) C
  have N1 := setRow_heap _ _ _ C _ _ (blk_new w (.cells #[.int .u32 0, .int .u32 0, .int .u32 0, .int .u32 0, .int .u32 0, .int .u32 0, .int .u32 0, .int .u32 0, .slice none 0 0, .int .u64 0] 78))
  generalize (w.alloc (.cells #[.int .u32 0, .int .u32 0, .int .u32 0, .int .u32 0, .int .u32 0, .int .u32 0, .int .u32 0, .int .u32 0, .slice none 0 0, .int .u64 0] 78)).setRow w.heap.size C = W at *
  have I1 := HI.out.kept (B1.block g hlt)
  have I2 : IsHash W w.heap.size hs (.slice A b.length c) n := ⟨by rw [N1, HC.out], HI.out.len⟩
  clear c8
  have c8 := I1.cell8
  have d8 := I2.free 8
  have e8 := I2.cell8
  have hne : w.heap.size ≠ g := by omega
  have hW : w.heap.size < W.heap.size := I2.lt
  have I1 := Aside0.mk I1
  have I2 := Aside0.mk I2
  have B1 := Aside0.mk B1
  clear N1
  generalize hG : w.heap.size = G at *
  have HG := Aside0.mk hG
  clear hG
  go_upto_region 5 with fail
  have E0 := I2.out.put8 (.slice (some ⟨W.heap.size, 0, none⟩) b.length b.length)
  have E1 := E0.kept (Below.heap_alloc _ (.cells (nums .u8 (List.replicate b.length 0)).toArray 5) G E0.lt)
  have G1 := keep_alloc ((KeepBut.refl W G none).set_ 8 (.slice (some ⟨W.heap.size, 0, none⟩) b.length b.length)) (.cells (nums .u8 (List.replicate b.length 0)).toArray 5)
  have Z1 := blk_new (W.setCell ⟨G, 8, none⟩ (.slice (some ⟨W.heap.size, 0, none⟩) b.length b.length)) (.cells (nums .u8 (List.replicate b.length 0)).toArray 5)
  rw [show (W.setCell ⟨G, 8, none⟩ (.slice (some ⟨W.heap.size, 0, none⟩) b.length b.length)).heap.size = W.heap.size by simp] at Z1
  generalize (W.setCell ⟨G, 8, none⟩ (.slice (some ⟨W.heap.size, 0, none⟩) b.length b.length)).alloc (.cells (nums .u8 (List.replicate b.length 0)).toArray 5) = W2 at *
  have F1 := I1.out.kept (G1.block g (by omega) (by omega) (by simp))
  clear c8 d8 e8
  have c8 := F1.cell8
  have e8 := E1.cell8
  have HZ := Aside0.mk (blk_drew Z1)
  have LEN := Aside0.mk (show (nums .u8 b).length = Nat.min b.length b.length from by rw [nums_length]; exact (Nat.min_self _).symm)
  have SRC := Aside0.mk (copy_from (w := W2) ((HA.out.below (HG.out ▸ B1.out)).kept G1 (fun bb off e h => by have := holds_lt HA.out bb off e; have := HG.out; omega)) W.heap.size)
  have FIT := Aside0.mk (show 0 + (nums .u8 b).length ≤ (nums .u8 (List.replicate b.length 0)).length from by rw [nums_length, nums_length, List.length_replicate]; omega)
  have ONE := Aside0.mk (u8_one b)
  have BEL := Aside0.mk (below_drew (Below.refl W.heap.size W2))
  have E1' := Aside0.mk E1
  have G1' := Aside0.mk G1
  clear E0 E1 G1 Z1 F1
  generalize hZ : W.heap.size = Z at *
  have HZe := Aside0.mk hZ
  clear hZ
  go_cut [] from 4 (fun wx => Filled W2 Z b wx)
  case first =>
    go_region_law ((refine step_copy_splice rfl (.tmp 17) (.tmp 21) 51 51 rfl 5 Tryd.underlying51 (by kernel_rfl) (some ⟨Z, 0, none⟩) A b.length b.length b.length c (by simp [Act.eval, Act.put]) (by simp [Act.eval, Act.put]) Z 0 (nums .u8 (List.replicate b.length 0)) 5 HZ.out (nums .u8 b) LEN.out SRC.out FIT.out ONE.out Z W2 BEL.out (Nat.le_refl _) ?_; intro w9 h9 b9))
    all_goals (go_wp2_with fail; go_meet; exact ⟨by rw [← splice_all b]; exact h9.out, b9⟩)
  case rest =>
    have HF := Aside0.mk hcut
    clear hcut
    go_wp2_with fail
    go_ret
    obtain ⟨hz, hbz⟩ := HF.out
    refine ⟨G, Z, rfl, E1'.out.kept (hbz.block G hW), ?_, by omega, HBY.out, Nat.le_of_eq HG.out, ?_⟩
    · refine .inr ⟨Z, 0, rfl, blk_lt hz, fun j u hj => ?_⟩
      rw [Nat.zero_add, blk_cell hz, List.getElem?_toArray]
      exact hj
    · rw [HG.out]
      exact (B1.out.trans (G1'.out.below (by have := HZe.out; omega) (Nat.le_refl _))).trans (hbz.mono (by omega))
end Go.Proofs.YteplphpbpaojjaaDoor.Bk
namespace Go.Proofs.YteplphpbpaojjaaDoor.Bk
open Go.RowKit Go.Proofs.YteplphpbpaojjaaDoorW.PrintWords Go.Proofs.YteplphpbpaojjaaDoorW.PrintLast Go.Proofs.YteplphpbpaojjaaDoorW.PrintMore
set_option linter.unusedVariables false
set_option linter.unusedSimpArgs false

/-- The bytes of numbers, the lowest first. -/
def outL (H : List Int) : List Int := H.flatMap fun x => [x % 256, x / 256 % 256, x / 65536 % 256, x / 16777216 % 256]
def outB (H : List Int) : List UInt8 := (outL H).map fun x => UInt8.ofNat x.toNat
/-- The digest, by what is not mixed in yet. -/
def finish (hs b : List Int) (n : Int) : ByteArray := ⟨(outB (compress hs (b ++ List.replicate (64 - b.length) 0) (IntKind.u64.wrap (n + IntKind.u64.wrap b.length)) true)).toArray⟩
theorem outL_range (H : List Int) : ∀ x ∈ outL H, 0 ≤ x ∧ x < 256 := by
  intro x hx
  obtain ⟨y, _, hy⟩ := List.mem_flatMap.1 hx
  simp at hy
  omega
theorem outB_cells (H : List Int) : Lib.byteCells (outB H) = nums .u8 (outL H) := by
  simp only [Lib.byteCells, outB, nums, List.map_map]
  refine List.map_congr_left fun x hx => ?_
  have h := outL_range H x hx
  simp only [Function.comp]
  have e : ((UInt8.ofNat x.toNat).toNat : Int) = x := by
    rw [UInt8.toNat_ofNat']
    omega
  rw [e]
theorem outL_take (H : List Int) (k : Nat) (hk : k < H.length) : outL (H.take (k + 1)) = outL (H.take k) ++ [H.getD k 0 % 256, H.getD k 0 / 256 % 256, H.getD k 0 / 65536 % 256, H.getD k 0 / 16777216 % 256] := by
  have e : H.getD k 0 = H[k] := by rw [List.getD_eq_getElem?_getD, List.getElem?_eq_getElem hk]; rfl
  rw [e, List.take_succ_eq_append_getElem hk, outL, outL, List.flatMap_append]
  rfl
theorem outL_len (H : List Int) : (outL H).length = 4 * H.length := by
  induction H with
  | nil => rfl
  | cons x H ih => simp [outL] at ih ⊢; omega
/-- A call of append in a list of operations. -/
theorem wpList_app {P : Program} (w : World) {ops : Array Oper} {rest : List Oper} {o : Oper} {a : Act} {Q : Exit → Act → World → Prop} (hgd : o.guard = none) (d s : Operand) (t t' : TypeId)
    (ho : o.op = .call { callee := .builtin .append, args := #[d, s], argTypes := #[t, t'] }) (v u : Value) (hd : a.eval d = v) (hs : a.eval s = u) {v' : Value} {w' : World}
    (hr : (Builtin.append_ #[t, t'] o.type #[v, u]).run P w = .ok v' w') (h : wpList P ops Q rest (a.put o.dst v') w') : wpList P ops Q (o :: rest) a w := by
  refine wpList_plain hgd fun K hK => ?_
  unfold Oper.wp execOp
  simp only [ho, resolve, invoke, builtin, Sem.run_bind, Sem.run_pure, Result.andThen_ok, List.map_toArray, List.map_cons, List.map_nil, hd, hs, hr]
  exact hK _ _ h
theorem bytes_all {w : World} {bb off : Nat} {b : List Int} (hc : ∀ j u, (nums .u8 b)[j]? = some u → w.cell? ⟨bb, off + j, none⟩ = some u) (hl : b.length = 64) : Bytes w bb off 64 b := by
  refine ⟨hl, by omega, fun j hj => hc j _ ?_⟩
  rw [nums, List.getElem?_map, List.getElem?_eq_getElem (show j < b.length by omega), List.getD_eq_getElem?_getD, List.getElem?_eq_getElem (show j < b.length by omega)]
  rfl
theorem by_pad {b : List Int} (h : ∀ x ∈ b, 0 ≤ x ∧ x < 256) (m : Nat) : ∀ x ∈ b ++ List.replicate m 0, 0 ≤ x ∧ x < 256 := by
  intro x hx
  rcases List.mem_append.1 hx with h1 | h1
  · exact h x h1
  · have := List.eq_of_mem_replicate h1
    omega
theorem eight (H : List Int) (h : H.length = 8) : ∃ a b c d e f g i, H = [a, b, c, d, e, f, g, i] := by
  match H, h with
  | [a, b, c, d, e, f, g, i], _ => exact ⟨a, b, c, d, e, f, g, i, rfl⟩
/-- The bytes of the first k numbers are written. -/
def SumAt (w3 : World) (k : Nat) (H : List Int) (wr : World) : Prop := Lib.IsBuilder 69 5 w3.heap.size w3.heap.size (nums .u8 (outL (H.take k))) wr ∧ Below w3.heap.size w3 wr
theorem sumAt_start (w3 : World) (H : List Int) : SumAt w3 0 H (w3.alloc (.cells #[.pointer none, .slice none 0 0] 69)) :=
  ⟨.inl ⟨Nat.le_refl _, _, blk_new w3 _, own_nil _ _ _ _, by simp [Value.ownBlock]⟩, below_alloc (Below.refl _ _) _⟩
set_option maxHeartbeats 4000000 in
set_option maxRecDepth 100000 in
theorem sum_calls (g : Nat) (hs b : List Int) (n : Int) (w : World) (hH : HS w g hs b n) (h64 : b.length ≤ 64) : Calls Tryd.prog 36 #[.pointer (some ⟨g, 0, none⟩)] w fun e w' => e = .returned (.string (finish hs b n)) ∧ Below w.heap.size w w' := by
  have HH := Aside0.mk hH
  have HL := Aside0.mk h64
  clear hH h64
  go_enter Tryd.func36, Tryd.ntmps36
  go_wp2_with fail
  refine (copy_calls g hs b n _ HH.out HL.out).mono ?_
  rintro e w1 ⟨G, Z, rfl, hI, hA, hZ, hby, hge, hB1⟩
  have c8 := hI.cell8
  have q1 : (b.length : Int) ≤ 64 := by have := HL.out; omega
  obtain ⟨i0, hi, hz0, hz1, hz2⟩ := info_parts infoByte
  obtain ⟨A', c', w2, hr, hc', hB2, hA'⟩ := app_zeros (P := Tryd.prog) (w := w1) 51 3 51 5 i0 .i64 Tryd.underlying51 Tryd.underlying3 hi hz0 hz1 hz2 (some ⟨Z, 0, none⟩) b hA (64 - b.length) (by have := HL.out; omega)
  have em : ((64 - b.length : Nat) : Int) = 64 - b.length := by have := HL.out; omega
  rw [em] at hr
  have e64 : (b ++ List.replicate (64 - b.length) 0).length = 64 := by have := HL.out; rw [List.length_append, List.length_replicate]; omega
  rw [e64] at hr hc'
  obtain ⟨bb, off, rfl, hcell⟩ : ∃ bb off, A' = some ⟨bb, off, none⟩ ∧ ∀ j u, (nums .u8 (b ++ List.replicate (64 - b.length) 0))[j]? = some u → w2.cell? ⟨bb, off + j, none⟩ = some u := by
    rcases hA' with ⟨_, h⟩ | ⟨bb, off, h1, _, h2⟩
    · rw [h] at e64; exact absurd e64 (by decide)
    · exact ⟨bb, off, h1, h2⟩
  have HBS := Aside0.mk (bytes_all hcell e64)
  have HR := Aside0.mk hr
  have HI2 := Aside0.mk (hI.kept (hB2.block G hI.lt))
  have HC2 := Aside0.mk hc'
  have HBY := Aside0.mk (by_pad hby (64 - b.length))
  have HB := Aside0.mk (below_step hB1 hB2)
  have HGE := Aside0.mk hge
  clear hi hz0 hz1 hz2 hr hc' hB2 hA' hI hA hZ hby hge hB1 em hcell e64
  go_wp2_with (at_builtin; refine wpList_app _ rfl (.tmp 22) (.tmp 24) 51 3 rfl (.slice (some ⟨Z, 0, none⟩) b.length b.length) (.int .i64 (64 - b.length)) rfl rfl HR.out ?_)
  refine (take_calls G hs _ n bb off 64 c' (b ++ List.replicate (64 - b.length) 0) b.length true _ HI2.out HBS.out (Nat.le_refl _) HBY.out).mono ?_
  rintro e w3 ⟨rfl, hI3, hK3⟩
  have hf : finish hs b n = ⟨(outB (compress hs (b ++ List.replicate (64 - b.length) 0) (IntKind.u64.wrap (n + IntKind.u64.wrap b.length)) true)).toArray⟩ := rfl
  generalize compress hs (b ++ List.replicate (64 - b.length) 0) (IntKind.u64.wrap (n + IntKind.u64.wrap b.length)) true = H at hI3 hf
  obtain ⟨h0, h1, h2, h3, h4, h5, h6, h7, rfl⟩ := eight H hI3.len
  have HF := Aside0.mk hf
  have HB3 := Aside0.mk (HB.out.trans (hK3.below HB.out.size HGE.out))
  have HLEN := Aside0.mk hI3.len
  have k0 := hI3.cell 0 (by decide)
  have k1 := hI3.cell 1 (by decide)
  have k2 := hI3.cell 2 (by decide)
  have k3 := hI3.cell 3 (by decide)
  have k4 := hI3.cell 4 (by decide)
  have k5 := hI3.cell 5 (by decide)
  have k6 := hI3.cell 6 (by decide)
  have k7 := hI3.cell 7 (by decide)
  have hlt := hI3.lt
  clear hf hI3 hK3 HB c8
  go_wp2_with fail
  have ixa : ∀ j : Nat, j < 8 → ∀ w, (Instr.index 75 (.agg #[.int .u32 h0, .int .u32 h1, .int .u32 h2, .int .u32 h3, .int .u32 h4, .int .u32 h5, .int .u32 h6, .int .u32 h7]) (.int .i64 j)).run Tryd.prog w = .ok (.int .u32 ([h0, h1, h2, h3, h4, h5, h6, h7].getD j 0)) w := by
    intro j hj w
    refine run_index_cell _ _ 8 _ j _ (.int .u32) Tryd.underlying75 Tryd.underlying74 rfl (by kernel_rfl) hj ?_ w
    have hj' : j = 0 ∨ j = 1 ∨ j = 2 ∨ j = 3 ∨ j = 4 ∨ j = 5 ∨ j = 6 ∨ j = 7 := by omega
    rcases hj' with rfl | rfl | rfl | rfl | rfl | rfl | rfl | rfl <;> rfl
  have IX := Aside0.mk ixa
  clear ixa k0 k1 k2 k3 k4 k5 k6 k7
  have S0 := Aside0.mk (sumAt_start w3 [h0, h1, h2, h3, h4, h5, h6, h7])
  have HB4 := Aside0.mk HB3.out.size
  go_loopw [32] (fun i wr => ∃ k : Nat, k ≤ 8 ∧ i = .int .i64 k ∧ SumAt w3 k [h0, h1, h2, h3, h4, h5, h6, h7] wr) (fun i _ => 8 - (intOf i).toNat)
  case atStart => exact ⟨0, Nat.zero_le _, rfl, S0.out⟩
  case round =>
    obtain ⟨k, hk, rfl, hS⟩ := hrel
    have HS1 := Aside0.mk hS
    clear hS S0
    by_cases hlt8 : k < 8
    · have d0 : decide ((k : Int) < 8) = true := decide_eq_true (by omega)
      have ix := IX.out k hlt8
      obtain ⟨x, hx⟩ : ∃ x, x = [h0, h1, h2, h3, h4, h5, h6, h7].getD k 0 := ⟨_, rfl⟩
      rw [← hx] at ix
      have HX := Aside0.mk hx
      clear hx
      have HW := Aside0.mk HS1.out.2.size
      generalize hD : w3.heap.size = D at *
      have HD := Aside0.mk hD
      clear hD
      go_wp2_with fail
      refine wp_loop_rounds 5 ?_
      rw [rounds_succ]
      go_wp2_with fail
      obtain ⟨B0, hB0⟩ : ∃ B0, B0 = nums .u8 (outL ([h0, h1, h2, h3, h4, h5, h6, h7].take k)) := ⟨_, rfl⟩
      have hbl : B0.length ≤ 32 := by
        rw [hB0, nums_length, outL_len, List.length_take]
        omega
      have HS2 := Aside0.mk (show Lib.IsBuilder 69 5 D D B0 wr from by rw [hB0, ← HD.out]; exact HS1.out.1)
      have HB0 := Aside0.mk hB0
      have HBL := Aside0.mk hbl
      clear hB0 hbl
      refine (writeByte D D B0 _ _ HS2.out (by have := HBL.out; simp; omega) (by have := HW.out; omega)).mono ?_
      rintro e w5 ⟨rfl, hb5, hl5⟩
      have IB5 := Aside0.mk (show Lib.IsBuilder 69 5 D D _ w5 from .inr hb5)
      have SZ5 := Aside0.mk hb5.lt
      have BL5 := Aside0.mk hl5
      clear hb5 hl5
      go_wp2_with fail
      rw [rounds_succ]
      go_wp2_with fail
      refine (writeByte D D (B0 ++ [.int .u8 _]) _ _ IB5.out (by have := HBL.out; simp; omega) (by have := SZ5.out; omega)).mono ?_
      rintro e w6 ⟨rfl, hb6, hl6⟩
      have IB6 := Aside0.mk (show Lib.IsBuilder 69 5 D D _ w6 from .inr hb6)
      have SZ6 := Aside0.mk hb6.lt
      have BL6 := Aside0.mk hl6
      clear hb6 hl6
      go_wp2_with fail
      rw [rounds_succ]
      go_wp2_with fail
      refine (writeByte D D (B0 ++ [.int .u8 _] ++ [.int .u8 _]) _ _ IB6.out (by have := HBL.out; simp; omega) (by have := SZ6.out; omega)).mono ?_
      rintro e w7 ⟨rfl, hb7, hl7⟩
      have IB7 := Aside0.mk (show Lib.IsBuilder 69 5 D D _ w7 from .inr hb7)
      have SZ7 := Aside0.mk hb7.lt
      have BL7 := Aside0.mk hl7
      clear hb7 hl7
      go_wp2_with fail
      rw [rounds_succ]
      go_wp2_with fail
      refine (writeByte D D (B0 ++ [.int .u8 _] ++ [.int .u8 _] ++ [.int .u8 _]) _ _ IB7.out (by have := HBL.out; simp; omega) (by have := SZ7.out; omega)).mono ?_
      rintro e w8 ⟨rfl, hb8, hl8⟩
      have IB8 := Aside0.mk (show Lib.IsBuilder 69 5 D D _ w8 from .inr hb8)
      have SZ8 := Aside0.mk hb8.lt
      have BL8 := Aside0.mk hl8
      clear hb8 hl8
      go_wp2_with fail
      rw [rounds_succ]
      go_wp2_with fail
      go_roundw
      case rel =>
        refine ⟨k + 1, by omega, by go_num, ?_⟩
        have e := IB8.out
        rw [HB0.out] at e
        refine ⟨?_, ?_⟩
        · rw [HD.out, outL_take _ k (show k < [h0, h1, h2, h3, h4, h5, h6, h7].length from hlt8), ← HX.out]
          rw [show x / 65536 = x / 256 / 256 by omega, show x / 16777216 = x / 256 / 256 / 256 by omega]
          simpa [nums] using e
        · rw [HD.out]
          have h := HS1.out.2
          rw [HD.out] at h
          exact (((h.trans BL5.out).trans BL6.out).trans BL7.out).trans BL8.out
      case measure => simp [intOf]; omega
    · obtain rfl : k = 8 := by omega
      have d0 : decide (((8 : Nat) : Int) < 8) = false := by decide
      go_wp2_with fail
      refine (builderString w3.heap.size w3.heap.size (outB [h0, h1, h2, h3, h4, h5, h6, h7]) _ (by rw [outB_cells]; exact HS1.out.1) (fun h => by have := congrArg List.length h; simp [outB, outL_len] at this)).mono ?_
      rintro e w9 ⟨rfl, hl9⟩
      have HL9 := Aside0.mk hl9
      clear hl9
      go_wp2_with fail
      go_ret
      exact ⟨by rw [HF.out]; rfl, HB3.out.trans ((HS1.out.2.trans HL9.out).mono HB4.out)⟩
end Go.Proofs.YteplphpbpaojjaaDoor.Bk
namespace Go.Proofs.YteplphpbpaojjaaDoor.Bk
open Go.RowKit Go.Proofs.YteplphpbpaojjaaDoorW.PrintWords Go.Proofs.YteplphpbpaojjaaDoorW.PrintLast Go.Proofs.YteplphpbpaojjaaDoorW.PrintMore
set_option linter.unusedVariables false
set_option linter.unusedSimpArgs false

theorem runF_len (hs b : List Int) (n : Int) : (runF hs b n).2.1.length ≤ 64 := by
  induction hb : b.length using Nat.strongRecOn generalizing hs b n with
  | _ k ih =>
    by_cases h : 64 < b.length
    · rw [← runF_more hs b n h]
      exact ih (b.drop 64).length (by rw [List.length_drop]; omega) _ _ _ rfl
    · rw [runF_done hs b n h]
      show b.length ≤ 64
      omega
def digest (hs b : List Int) : ByteArray := finish (runF hs b 0).1 (runF hs b 0).2.1 (runF hs b 0).2.2
def blakeSum (s : ByteArray) : ByteArray := digest (initL 0) (strL s)
set_option maxHeartbeats 1000000 in
theorem blake_sum (s : ByteArray) (hs : s.size ≤ 140737488351232) (w : World) : Calls Tryd.prog 19 #[.string s] w fun e w' => e = .returned (.string (blakeSum s)) ∧ Below w.heap.size w w' := by
  have HS0 := Aside0.mk hs
  clear hs
  go_enter Tryd.func19, Tryd.ntmps19
  go_wp2_with fail
  refine (new_calls _).mono ?_
  rintro e w1 ⟨g, rfl, hH, hge, hB⟩
  have HH := Aside0.mk hH
  have HB := Aside0.mk hB
  have HGE := Aside0.mk hge
  clear hH hB hge
  go_wp2_with fail
  refine (add_calls g (initL 0) [] 0 s _ HH.out (by decide) HS0.out).mono ?_
  rintro e w2 ⟨rfl, hH2, hK2⟩
  have HH2 := Aside0.mk hH2
  have HB2 := Aside0.mk (HB.out.trans (hK2.below HB.out.size HGE.out))
  clear hH2 hK2
  go_wp2_with fail
  refine (sum_calls g _ _ _ _ HH2.out (runF_len _ _ _)).mono ?_
  rintro e w3 ⟨rfl, hB3⟩
  have HB3 := Aside0.mk (HB2.out.trans (hB3.mono HB2.out.size))
  clear hB3
  go_wp2_with fail
  go_ret
  exact ⟨rfl, HB3.out⟩
end Go.Proofs.YteplphpbpaojjaaDoor.Bk
