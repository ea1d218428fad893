import Derived.Test.YtacjfgdehnenpaaProg
import Derived.Below
import Derived.Deep.Draws
import Derived.Deep.AppendLies
import Derived.Maps.AppendAt
import Derived.OwnWalk
import Derived.Laws.BytesArg
import Derived.Laws.MakeOwn
import Derived.Laws.OwnMore
import Derived.Deep.OwnRows
import Derived.Tactics
import Derived.Lib.ConvBytes
import Derived.Laws.Slices
import Derived.WalkKit
import Derived.KernelRfl
import Derived.RowKit3
import Derived.Deep.LoopGhost
import Derived.Deep.QuietTactic
import Derived.BigQuiet
import Derived.WideLaws
import Derived.Deep.DeepCutAuto
import Derived.Deep.CutBlock
import Derived.Deep.RegionHeld3
import Derived.Laws.Rows
import Derived.Lib.AppendStr
import Derived.ArgAppend
import Derived.Laws.IdiomCopy
import Derived.OrdersHeld
import Derived.Laws.BitsLemmas
import Derived.RowKit
import Derived.Test.YtacjfgdehnenpaaWWords
import Derived.Test.YtacjfgdehnenpaaWLast
import Derived.Test.YtacjfgdehnenpaaWMore
import Derived.Test.YtacjfgdehnenpaaBk4
import Derived.LoopTactic
import Derived.Deep.RegionLaw
import Derived.StillTailTactics
import Derived.IntWalk
namespace Go.Proofs.Ytacjfgdehnenpaa.Bk
open Go.RowKit Go.Proofs.YtacjfgdehnenpaaW.PrintWords Go.Proofs.YtacjfgdehnenpaaW.PrintLast Go.Proofs.YtacjfgdehnenpaaW.PrintMore
set_option linter.unusedVariables false
set_option linter.unusedSimpArgs false

set_option maxHeartbeats 8000000 in
set_option maxRecDepth 100000 in
theorem take_calls (g : Nat) (hs : List Int) (v : Value) (n : Int) (bb off m c : Nat) (b : List Int) (many : Int) (last : Bool) (w : World) (hH : IsHash w g hs v n) (hb : Bytes w bb off m b) (hm : 64 ≤ m) (hby : ∀ x ∈ b, 0 ≤ x ∧ x < 256) :
    Calls Try.prog 21 #[.pointer (some ⟨g, 0, none⟩), .slice (some ⟨bb, off, none⟩) m c, .int .i64 many, .bool last] w fun e w' => e = .returned (.tuple #[]) ∧ IsHash w' g (compress hs b (IntKind.u64.wrap (n + IntKind.u64.wrap many)) last) v (IntKind.u64.wrap (n + IntKind.u64.wrap many)) ∧ KeepBut w w' g none := by
  obtain ⟨hbl, hbm, hbc⟩ := hb
  have HC := Aside0.mk hbc
  clear hbc
  have HBY := Aside0.mk hby
  have HBL := Aside0.mk hbl
  have HH := Aside0.mk hH
  clear hby hH hbl
  go_enter Try.func21, Try.ntmps21
  go_wp2
  go_outline
  go_loopw [17] (fun i wr => ∃ k : Nat, k ≤ 16 ∧ i = .int .i64 k ∧ TWords w.heap.size b k w wr) (fun i _ => 16 - (intOf i).toNat)
  case atStart => exact ⟨0, Nat.zero_le _, rfl, below_alloc (Below.refl _ _) _, blk_new w _⟩
  case round =>
    obtain ⟨k, hk, rfl, hF⟩ := hrel
    have HF := Aside0.mk hF
    clear hF
    by_cases hlt : k < 16
    · have d0 : decide ((k : Int) < 16) = true := decide_eq_true (by omega)
      have d9 : (k : Int) < 16 := by omega
      have c0 := pw_cell_below HF.out.1 (HC.out (4 * k) (by omega))
      have c1 := pw_cell_below HF.out.1 (HC.out (4 * k + 1) (by omega))
      have c2 := pw_cell_below HF.out.1 (HC.out (4 * k + 2) (by omega))
      have c3 := pw_cell_below HF.out.1 (HC.out (4 * k + 3) (by omega))
      have cm := HF.out.2.cell k (by simp [wordsL]; omega)
      have fm := HF.out.2.free k
      generalize (List.take k (wordsL b) ++ List.replicate (16 - k) 0).getD k 0 = old at cm
      generalize hx0 : b.getD (4 * k) 0 = x0 at c0
      generalize hx1 : b.getD (4 * k + 1) 0 = x1 at c1
      generalize hx2 : b.getD (4 * k + 2) 0 = x2 at c2
      generalize hx3 : b.getD (4 * k + 3) 0 = x3 at c3
      have y0 : 0 ≤ x0 ∧ x0 < 256 := by rw [← hx0]; exact byte_at HBY.out (by rw [HBL.out]; omega)
      have y1 : 0 ≤ x1 ∧ x1 < 256 := by rw [← hx1]; exact byte_at HBY.out (by rw [HBL.out]; omega)
      have y2 : 0 ≤ x2 ∧ x2 < 256 := by rw [← hx2]; exact byte_at HBY.out (by rw [HBL.out]; omega)
      have y3 : 0 ≤ x3 ∧ x3 < 256 := by rw [← hx3]; exact byte_at HBY.out (by rw [HBL.out]; omega)
      have HX := Aside0.mk (And.intro hx0 (And.intro hx1 (And.intro hx2 hx3)))
      clear hx0 hx1 hx2 hx3
      obtain ⟨l0, u0⟩ := y0
      obtain ⟨l1, u1⟩ := y1
      obtain ⟨l2, u2⟩ := y2
      obtain ⟨l3, u3⟩ := y3
      go_wp2
      go_region
      go_wp2
      go_roundw
      case rel =>
        refine ⟨k + 1, by omega, by go_num, ?_⟩
        have e := TWords_next b k hlt w wr HF.out
        unfold wordAt at e
        obtain ⟨e0, e1, e2, e3⟩ := HX.out
        rw [e0, e1, e2, e3] at e
        exact ⟨below_drew e.1, e.2⟩
      case measure => simp [intOf]; omega
    · obtain rfl : k = 16 := by omega
      have d0 : decide (((16 : Nat) : Int) < 16) = false := by decide
      obtain ⟨hB, hM⟩ := HF.out
      have HM := Aside0.mk (show IsU wr w.heap.size 63 (wordsL b) from hM)
      have HB := Aside0.mk hB
      have HS := Aside0.mk (show w.heap.size < wr.heap.size from blk_lt hM)
      have HH1 := Aside0.mk (HH.out.kept (hB.block g HH.out.lt))
      clear hB hM HF
      have n9 := HH1.out.cell9
      have f9 := HH1.out.free 9
      go_wp2
      have E9 := HH1.out.put9 (IntKind.u64.wrap (n + IntKind.u64.wrap many))
      have EM : IsU (wr.setCell ⟨g, 9, none⟩ (.int .u64 (IntKind.u64.wrap (n + IntKind.u64.wrap many)))) w.heap.size 63 (wordsL b) := blk_far HM.out (by have := HH.out.lt; simp; omega) _
      have EV := blk_new (wr.setCell ⟨g, 9, none⟩ (.int .u64 (IntKind.u64.wrap (n + IntKind.u64.wrap many)))) (.cells #[.int .u32 0, .int .u32 0, .int .u32 0, .int .u32 0, .int .u32 0, .int .u32 0, .int .u32 0, .int .u32 0, .int .u32 0, .int .u32 0, .int .u32 0, .int .u32 0, .int .u32 0, .int .u32 0, .int .u32 0, .int .u32 0] 63)
      rw [show (wr.setCell ⟨g, 9, none⟩ (.int .u64 (IntKind.u64.wrap (n + IntKind.u64.wrap many)))).heap.size = wr.heap.size by simp] at EV
      have EK := keep_alloc ((KeepBut.of_below HB.out g none).set_ 9 (.int .u64 (IntKind.u64.wrap (n + IntKind.u64.wrap many)))) (.cells #[.int .u32 0, .int .u32 0, .int .u32 0, .int .u32 0, .int .u32 0, .int .u32 0, .int .u32 0, .int .u32 0, .int .u32 0, .int .u32 0, .int .u32 0, .int .u32 0, .int .u32 0, .int .u32 0, .int .u32 0, .int .u32 0] 63)
      have E9' := Aside0.mk (E9.kept (Below.heap_alloc _ (.cells #[.int .u32 0, .int .u32 0, .int .u32 0, .int .u32 0, .int .u32 0, .int .u32 0, .int .u32 0, .int .u32 0, .int .u32 0, .int .u32 0, .int .u32 0, .int .u32 0, .int .u32 0, .int .u32 0, .int .u32 0, .int .u32 0] 63) g E9.lt))
      have EM' := Aside0.mk (blk_alloc EM (.cells #[.int .u32 0, .int .u32 0, .int .u32 0, .int .u32 0, .int .u32 0, .int .u32 0, .int .u32 0, .int .u32 0, .int .u32 0, .int .u32 0, .int .u32 0, .int .u32 0, .int .u32 0, .int .u32 0, .int .u32 0, .int .u32 0] 63))
      have EV' := Aside0.mk EV
      have EK' := Aside0.mk EK
      clear E9 EM EV EK n9 f9 HH1 HM HB HC
      generalize hn' : IntKind.u64.wrap (n + IntKind.u64.wrap many) = n' at *
      generalize hW : (wr.setCell ⟨g, 9, none⟩ (.int .u64 n')).alloc (.cells #[.int .u32 0, .int .u32 0, .int .u32 0, .int .u32 0, .int .u32 0, .int .u32 0, .int .u32 0, .int .u32 0, .int .u32 0, .int .u32 0, .int .u32 0, .int .u32 0, .int .u32 0, .int .u32 0, .int .u32 0, .int .u32 0] 63) = W at *
      have HW := Aside0.mk hW
      have HN := Aside0.mk hn'
      clear hW hn'
      generalize hV : wr.heap.size = V at *
      have HVe := Aside0.mk hV
      clear hV
      have T0 := Aside0.mk (show TS w W g w.heap.size V hs v n' (wordsL b) (List.replicate 16 0) from ⟨EK'.out, E9'.out, EM'.out, EV'.out, Nat.le_refl _, by have := HS.out; have := HVe.out; omega, HH.out.lt⟩)
      clear EK' EM' EV' HW HVe
      have SRC := Aside0.mk (copy_src E9'.out)
      have ROW := Aside0.mk (show W.heap[V]? = some (.cells (nums .u32 (List.replicate 16 0)).toArray 63 (0, 0)) from T0.out.vee)
      have LH := Aside0.mk (show (nums .u32 hs).length = Nat.min 8 16 from by rw [nums_length]; exact HH.out.len)
      have LF := Aside0.mk (show 0 + (nums .u32 hs).length ≤ (nums .u32 (List.replicate 16 0)).length from by rw [nums_length, nums_length, HH.out.len]; decide)
      have L1 := Aside0.mk (nums_one hs)
      go_region_law (refine step_copy_row rfl (.tmp 65) (.tmp 69) 57 57 rfl 43 Try.underlying57 (by kernel_rfl) V 0 16 16 ⟨g, 0, none⟩ 8 8 (by simp [Act.eval, Act.put]) (by simp [Act.eval, Act.put]) (nums .u32 (List.replicate 16 0)) 63 ROW.out (nums .u32 hs) LH.out SRC.out LF.out L1.out ?_)
      clear SRC ROW LH LF L1
      rw [splice_first hs HH.out.len]
      have T1 := Aside0.mk (T0.out.drew.rowV (hs ++ List.replicate 8 0))
      clear T0 E9'
      generalize W.drew.setRow V (nums .u32 (hs ++ List.replicate 8 0)).toArray = W1 at *
      go_wp2_with fail
      refine (firsts_calls _).mono ?_
      rintro e W2 ⟨rfl, hb2⟩
      have T2 := Aside0.mk (T1.out.below hb2)
      clear T1 hb2
      have hz : ∀ w, (zeroValue 44).run Try.prog w = .ok (.agg #[.int .u32 0, .int .u32 0, .int .u32 0, .int .u32 0, .int .u32 0, .int .u32 0, .int .u32 0, .int .u32 0]) w := fun w => by kernel_rfl
      go_wp2_with (refine wpList_store_rowTo rfl 44 _ _ rfl rfl W2.heap.size (nums .u32 firstsL).toArray rfl rfl 44 #[.int .u32 0, .int .u32 0, .int .u32 0, .int .u32 0, .int .u32 0, .int .u32 0, .int .u32 0, .int .u32 0] (heap_alloc_new W2 _) (by kernel_rfl) (by kernel_rfl) (by kernel_rfl) ?_)
      have T3 := Aside0.mk (T2.out.below (below_row (below_alloc (Below.refl W2.heap.size W2) (.cells #[.int .u32 0, .int .u32 0, .int .u32 0, .int .u32 0, .int .u32 0, .int .u32 0, .int .u32 0, .int .u32 0] 44)) (Nat.le_refl _) (nums .u32 firstsL).toArray))
      have F3 := Aside0.mk (show IsU ((W2.alloc (.cells #[.int .u32 0, .int .u32 0, .int .u32 0, .int .u32 0, .int .u32 0, .int .u32 0, .int .u32 0, .int .u32 0] 44)).setRow W2.heap.size (nums .u32 firstsL).toArray) W2.heap.size 44 firstsL from setRow_heap _ _ _ _ _ _ (blk_new W2 (.cells #[.int .u32 0, .int .u32 0, .int .u32 0, .int .u32 0, .int .u32 0, .int .u32 0, .int .u32 0, .int .u32 0] 44)))
      generalize (W2.alloc (.cells #[.int .u32 0, .int .u32 0, .int .u32 0, .int .u32 0, .int .u32 0, .int .u32 0, .int .u32 0, .int .u32 0] 44)).setRow W2.heap.size (nums .u32 firstsL).toArray = W3 at *
      generalize W2.heap.size = F at *
      clear T2
      have SRC := Aside0.mk (copy_srcU F3.out)
      have ROW := Aside0.mk T3.out.vee
      have L1 := Aside0.mk (nums_one firstsL)
      have LF := Aside0.mk (show 8 + (nums .u32 firstsL).length ≤ (nums .u32 (hs ++ List.replicate 8 0)).length from by rw [nums_length, nums_length, List.length_append, HH.out.len]; decide)
      go_region_law (refine step_copy_row rfl (.tmp 72) (.tmp 73) 57 57 rfl 43 Try.underlying57 (by kernel_rfl) V 8 8 8 ⟨F, 0, none⟩ 8 8 (by simp [Act.eval, Act.put]) (by simp [Act.eval, Act.put]) (nums .u32 (hs ++ List.replicate 8 0)) 63 ROW.out (nums .u32 firstsL) rfl SRC.out LF.out L1.out ?_)
      clear SRC ROW LF L1 F3
      rw [splice_last hs firstsL HH.out.len rfl]
      have T4 := Aside0.mk (T3.out.drew.rowV (hs ++ firstsL))
      clear T3
      generalize W3.drew.setRow V (nums .u32 (hs ++ firstsL)).toArray = W4 at *
      obtain ⟨L0, hL0⟩ : ∃ L0, L0 = hs ++ firstsL := ⟨_, rfl⟩
      rw [← hL0] at T4
      have ll : L0.length = 16 := by rw [hL0, List.length_append, HH.out.len]; rfl
      have HL0 := Aside0.mk (And.intro hL0 ll)
      clear hL0
      have a1 := T4.out.vee.cell 12 (by omega)
      have a2 := T4.out.vee.free 12
      have a3 := T4.out.hash.cell9
      clear ll
      generalize hv12 : L0.getD 12 0 = v12 at a1
      have HV12 := Aside0.mk hv12
      clear hv12
      go_wp2
      go_region
      have T5 := Aside0.mk ((T4.out.setV 12 (bits BinOp.xor IntKind.u32 v12 (n' % 4294967296))).drew)
      generalize (W4.setCell ⟨V, 12, none⟩ (.int .u32 (bits BinOp.xor IntKind.u32 v12 (n' % 4294967296)))).drew = W5 at *
      clear T4 a1 a2 a3
      obtain ⟨L1, hL1⟩ : ∃ L1, L1 = L0.set 12 (bits BinOp.xor IntKind.u32 v12 (n' % 4294967296)) := ⟨_, rfl⟩
      rw [← hL1] at T5
      have ll : L1.length = 16 := by rw [hL1, List.length_set]; exact HL0.out.2
      have HL1 := Aside0.mk (And.intro hL1 ll)
      clear hL1
      have a1 := T5.out.vee.cell 13 (by omega)
      have a2 := T5.out.vee.free 13
      have a3 := T5.out.hash.cell9
      clear ll
      generalize hv13 : L1.getD 13 0 = v13 at a1
      have HV13 := Aside0.mk hv13
      clear hv13
      go_wp2
      go_region
      have T6 := Aside0.mk ((T5.out.setV 13 (bits BinOp.xor IntKind.u32 v13 (n' / 4294967296 % 4294967296))).drew)
      generalize (W5.setCell ⟨V, 13, none⟩ (.int .u32 (bits BinOp.xor IntKind.u32 v13 (n' / 4294967296 % 4294967296)))).drew = W6 at *
      clear T5 a1 a2 a3
      obtain ⟨L2, hL2⟩ : ∃ L2, L2 = L1.set 13 (bits BinOp.xor IntKind.u32 v13 (n' / 4294967296 % 4294967296)) := ⟨_, rfl⟩
      rw [← hL2] at T6
      have ll : L2.length = 16 := by rw [hL2, List.length_set]; exact HL1.out.2
      have HL2 := Aside0.mk (And.intro hL2 ll)
      clear hL2
      have a1 := T6.out.vee.cell 14 (by omega)
      have a2 := T6.out.vee.free 14
      clear ll
      generalize hv14 : L2.getD 14 0 = v14 at a1
      have HV14 := Aside0.mk hv14
      clear hv14
      have ixr : ∀ k : Nat, k < 10 → ∀ w, (Instr.index 65 (.agg rowsC) (.int .i64 k)).run Try.prog w = .ok (.agg (nums .u8 (rowsL.getD k [])).toArray) w := by
        intro k hk w
        rw [run_index_part 65 64 10 16 rowsC k (.array 16 5) Try.underlying65 Try.underlying64 rfl (by kernel_rfl) hk w]
        have hk' : k = 0 ∨ k = 1 ∨ k = 2 ∨ k = 3 ∨ k = 4 ∨ k = 5 ∨ k = 6 ∨ k = 7 ∨ k = 8 ∨ k = 9 := by omega
        rcases hk' with rfl | rfl | rfl | rfl | rfl | rfl | rfl | rfl | rfl | rfl <;> rfl
      have ixm : ∀ k : Nat, k < 8 → ∀ w, (Instr.index 68 (.agg mixesC) (.int .i64 k)).run Try.prog w = .ok (.agg #[.int .i64 (mixAt k 0), .int .i64 (mixAt k 1), .int .i64 (mixAt k 2), .int .i64 (mixAt k 3)]) w := by
        intro k hk w
        rw [run_index_part 68 67 8 4 mixesC k (.array 4 3) Try.underlying68 Try.underlying67 rfl (by kernel_rfl) hk w]
        have hk' : k = 0 ∨ k = 1 ∨ k = 2 ∨ k = 3 ∨ k = 4 ∨ k = 5 ∨ k = 6 ∨ k = 7 := by omega
        rcases hk' with rfl | rfl | rfl | rfl | rfl | rfl | rfl | rfl <;> rfl
      have IXR := Aside0.mk ixr
      have IXM := Aside0.mk ixm
      clear ixr ixm
      have hsg : IntKind.u32.signed = false := rfl
      cases last
      case' false =>
        go_wp2_with fail
        obtain ⟨L3, hL3⟩ : ∃ L3, L3 = L2 := ⟨_, rfl⟩
        have T7 := Aside0.mk T6.out
        have HT : Aside0 (L3 = veeL hs n' false ∧ L3.length = 16) := Aside0.mk ⟨by rw [hL3, HL2.out.1, ← HV13.out, HL1.out.1, ← HV12.out, HL0.out.1]; rfl, by rw [hL3]; exact HL2.out.2⟩
        rw [← hL3] at T7
        clear T6 a1 a2 HV14 HL2 HV13 HL1 HV12 HL0 hL3
        generalize W6 = W7 at *
      case' true =>
        go_wp2_with fail
        obtain ⟨L3, hL3⟩ : ∃ L3, L3 = L2.set 14 (bits BinOp.xor IntKind.u32 IntKind.u32.max v14) := ⟨_, rfl⟩
        have T7 := Aside0.mk (T6.out.setV 14 (bits BinOp.xor IntKind.u32 IntKind.u32.max v14))
        have HT : Aside0 (L3 = veeL hs n' true ∧ L3.length = 16) := Aside0.mk ⟨by rw [hL3, ← HV14.out, HL2.out.1, ← HV13.out, HL1.out.1, ← HV12.out, HL0.out.1]; rfl, by rw [hL3, List.length_set]; exact HL2.out.2⟩
        rw [← hL3] at T7
        generalize W6.setCell ⟨V, 14, none⟩ (.int .u32 (bits BinOp.xor IntKind.u32 IntKind.u32.max v14)) = W7 at *
        clear T6 a1 a2 HV14 HL2 HV13 HL1 HV12 HL0 hL3
      all_goals
        refine (rows_calls _).mono ?_
        rintro e W8 ⟨rfl, hb8⟩
        have T8 := Aside0.mk (T7.out.below hb8)
        clear T7 hb8
        go_wp2_with fail
        go_loopw [100] (fun i wr => ∃ k : Nat, k ≤ 10 ∧ i = .int .i64 k ∧ TS w wr g w.heap.size V hs v n' (wordsL b) (outer (wordsL b) L3 k)) (fun i _ => 10 - (intOf i).toNat)
        case atStart => exact ⟨0, Nat.zero_le _, rfl, T8.out⟩
        case round =>
          obtain ⟨k, hk, rfl, hT⟩ := hrel
          have HT8 := Aside0.mk hT
          clear hT T8
          by_cases hlt : k < 10
          · have d1 : decide ((k : Int) < 10) = true := decide_eq_true (by omega)
            have ix := IXR.out k hlt
            obtain ⟨R, hR⟩ : ∃ R, R = rowsL.getD k [] := ⟨_, rfl⟩
            rw [← hR] at ix
            have hr16 : R.length = 16 := by rw [hR]; exact row_len k hlt
            have HR := Aside0.mk (And.intro hR hr16)
            have hz : ∀ w, (zeroValue 64).run Try.prog w = .ok (.agg zeros16) w := fun w => by kernel_rfl
            have r1 := Aside0.mk (show (Try.prog.info? 64).map (·.size) = some (nums .u8 R).toArray.size from by rw [List.size_toArray, nums_length, hr16]; kernel_rfl)
            have r2 := Aside0.mk (show zeros16.size = (nums .u8 R).toArray.size from by show 16 = _; rw [List.size_toArray, nums_length, hr16])
            have r3 := Aside0.mk (nums_all R)
            clear hR hr16
            go_wp2_with (first | fail | (refine wpList_store_rowTo rfl 64 _ _ rfl rfl wr.heap.size (nums .u8 R).toArray rfl rfl 64 zeros16 (heap_alloc_new wr _) r1.out r2.out r3.out ?_))
            have T9 := Aside0.mk (HT8.out.below (below_row (below_alloc (Below.refl wr.heap.size wr) (.cells zeros16 64)) (Nat.le_refl _) (nums .u8 R).toArray))
            have RB := Aside0.mk (setRow_heap _ _ _ (nums .u8 R).toArray _ _ (blk_new wr (.cells zeros16 64)))
            have GV := Aside0.mk HT8.out.vee.lt
            generalize (wr.alloc (.cells zeros16 64)).setRow wr.heap.size (nums .u8 R).toArray = W9 at *
            generalize wr.heap.size = G at *
            clear r1 r2 r3
            refine (mixes_calls _).mono ?_
            rintro e W10 ⟨rfl, hb10⟩
            have T10 := Aside0.mk (T9.out.below hb10)
            have RB10 := Aside0.mk (blk_below RB.out hb10)
            clear T9 RB hb10 ix HT8
            go_wp2_with fail
            go_loopw [104] (fun i wq => ∃ q : Nat, q ≤ 8 ∧ i = .int .i64 q ∧ TS w wq g w.heap.size V hs v n' (wordsL b) (inner (wordsL b) R (outer (wordsL b) L3 k) q) ∧ wq.heap[G]? = some (.cells (nums .u8 R).toArray 64 (0, 0))) (fun i _ => 8 - (intOf i).toNat)
            case atStart => exact ⟨0, Nat.zero_le _, rfl, T10.out, RB10.out⟩
            case round =>
              obtain ⟨q, hq, rfl, hTq, hRq⟩ := hrel
              have TQ := Aside0.mk hTq
              have RQ := Aside0.mk hRq
              clear hTq hRq T10 RB10
              by_cases hltq : q < 8
              · have d2 : decide ((q : Int) < 8) = true := decide_eq_true (by omega)
                have ix := IXM.out q hltq
                have hmx := mix_ok q hltq
                have HIN : Aside0 (inner (wordsL b) R (outer (wordsL b) L3 k) (q + 1) = mixL (inner (wordsL b) R (outer (wordsL b) L3 k) q) (mixAt q 0) (mixAt q 1) (mixAt q 2) (mixAt q 3) ((wordsL b).getD (R.getD (2 * q) 0).toNat 0) ((wordsL b).getD (R.getD (2 * q + 1) 0).toNat 0)) := Aside0.mk rfl
                generalize mixAt q 0 = m0 at *
                generalize mixAt q 1 = m1 at *
                generalize mixAt q 2 = m2 at *
                generalize mixAt q 3 = m3 at *
                have HMX := Aside0.mk hmx
                clear hmx
                have xa := row_range k hlt (2 * q) (by omega)
                have xb := row_range k hlt (2 * q + 1) (by omega)
                rw [← HR.out.1] at xa xb
                obtain ⟨xn, xlt, hxv⟩ := xa
                obtain ⟨yn, ylt, hyv⟩ := xb
                go_wp2_with fail
                have T11 := Aside0.mk (TQ.out.alloc (.cells #[.int .i64 m0, .int .i64 m1, .int .i64 m2, .int .i64 m3] 67))
                have R11 := Aside0.mk (blk_alloc RQ.out (.cells #[.int .i64 m0, .int .i64 m1, .int .i64 m2, .int .i64 m3] 67))
                have A11 := blk_new wr (.cells #[.int .i64 m0, .int .i64 m1, .int .i64 m2, .int .i64 m3] 67)
                generalize wr.alloc (.cells #[.int .i64 m0, .int .i64 m1, .int .i64 m2, .int .i64 m3] 67) = W11 at *
                generalize wr.heap.size = AT at *
                have p0 : W11.cell? ⟨AT, 0, none⟩ = some (.int .i64 m0) := (blk_cell A11 0).trans rfl
                have p1 : W11.cell? ⟨AT, 1, none⟩ = some (.int .i64 m1) := (blk_cell A11 1).trans rfl
                have p2 : W11.cell? ⟨AT, 2, none⟩ = some (.int .i64 m2) := (blk_cell A11 2).trans rfl
                have p3 : W11.cell? ⟨AT, 3, none⟩ = some (.int .i64 m3) := (blk_cell A11 3).trans rfl
                have rx : W11.cell? ⟨G, 2 * q, none⟩ = some (.int .u8 xn) := by rw [row_cell R11.out (2 * q) (by rw [HR.out.2]; omega), ← hxv]
                have ry : W11.cell? ⟨G, 2 * q + 1, none⟩ = some (.int .u8 yn) := by rw [row_cell R11.out (2 * q + 1) (by rw [HR.out.2]; omega), ← hyv]
                have mx := T11.out.words.cell xn (by rw [words_len]; exact xlt)
                have my := T11.out.words.cell yn (by rw [words_len]; exact ylt)
                have HXY := Aside0.mk (And.intro hxv hyv)
                clear hxv hyv A11 TQ RQ
                have z1 : (xn : Int) < 16 := by omega
                have z2 : (yn : Int) < 16 := by omega
                have z3 : (0 : Int) ≤ xn := by omega
                have z4 : (0 : Int) ≤ yn := by omega
                have z5 : (q : Int) < 8 := by omega
                have z6 : (2 : Int) * q < 16 := by omega
                have z7 : (2 : Int) * q + 1 < 16 := by omega
                have z8 : (0 : Int) ≤ 2 * q := by omega
                have z9 : (0 : Int) ≤ 2 * q + 1 := by omega
                have s3 : (2 * (q : Int)).toNat = 2 * q := by omega
                have s4 : (2 * (q : Int) + 1).toNat = 2 * q + 1 := by omega
                have s1 : IntKind.i64.wrap (2 * (q : Int)) = 2 * q := IntWalk.i64_in _ (by omega)
                have s2 : IntKind.i64.wrap (2 * (q : Int) + 1) = 2 * q + 1 := IntWalk.i64_in _ (by omega)
                go_still_tail 14, (by kernel_rfl)
                clear s1 s2 s3 s4 z8 z9
                change wpList _ _ _ _ _ W11.drew
                have TD := Aside0.mk T11.out.drew
                have RD := Aside0.mk (blk_drew R11.out)
                clear T11 R11 p0 p1 p2 p3 rx ry mx my z1 z2 z3 z4 z5 z6 z7
                generalize W11.drew = W12 at *
                go_wp2_with fail
                refine (mix_calls V 63 (inner (wordsL b) R (outer (wordsL b) L3 k) q) m0 m1 m2 m3 _ _ _ TD.out.vee (by rw [inner_len, outer_len]; exact HT.out.2) HMX.out.1.1 HMX.out.1.2.1 HMX.out.1.2.2.1 HMX.out.1.2.2.2 HMX.out.2.1 HMX.out.2.2.1 HMX.out.2.2.2.1 HMX.out.2.2.2.2.1 HMX.out.2.2.2.2.2.1 HMX.out.2.2.2.2.2.2).mono ?_
                rintro e w1 ⟨rfl, hV, hK⟩
                have T12 := Aside0.mk (TD.out.mixed hK hV)
                have R12 := Aside0.mk ((keep_at hK (blk_lt RD.out) (by have := GV.out; omega)).trans RD.out)
                clear hV hK TD RD
                go_wp2_with fail
                go_roundw
                case rel =>
                  refine ⟨q + 1, by omega, by go_num, ?_, R12.out⟩
                  rw [HIN.out, HXY.out.1, HXY.out.2]
                  exact T12.out
                case measure => simp [intOf]; omega
              · obtain rfl : q = 8 := by omega
                have d2 : decide (((8 : Nat) : Int) < 8) = false := by decide
                go_wp2_with fail
                go_roundw
                case rel => exact ⟨k + 1, by omega, by go_num, by rw [outer, ← HR.out.1]; exact TQ.out⟩
                case measure => simp [intOf]; omega
          · obtain rfl : k = 10 := by omega
            have d1 : decide (((10 : Nat) : Int) < 10) = false := by decide
            go_wp2_with fail
            go_loopw [125] (fun i wr => ∃ j : Nat, j ≤ 8 ∧ i = .int .i64 j ∧ TS w wr g w.heap.size V ((finL hs (outer (wordsL b) L3 10)).take j ++ hs.drop j) v n' (wordsL b) (outer (wordsL b) L3 10)) (fun i _ => 8 - (intOf i).toNat)
            case atStart => exact ⟨0, Nat.zero_le _, rfl, HT8.out⟩
            case round =>
              obtain ⟨j, hj, rfl, hTj⟩ := hrel
              have TJ := Aside0.mk hTj
              clear hTj HT8
              by_cases hltj : j < 8
              · have d2 : decide ((j : Int) < 8) = true := decide_eq_true (by omega)
                have d3 : (j : Int) < 8 := by omega
                have vl : (outer (wordsL b) L3 10).length = 16 := by rw [outer_len]; exact HT.out.2
                have c1 := TJ.out.hash.cell j hltj
                rw [fin_at _ hs j (finL_len _ _) HH.out.len hltj] at c1
                have f1 := TJ.out.hash.free j
                have c2 := TJ.out.vee.cell j (by omega)
                have c3 := TJ.out.vee.cell (j + 8) (by omega)
                clear vl
                generalize hh1 : hs.getD j 0 = h1 at c1
                generalize hh2 : (outer (wordsL b) L3 10).getD j 0 = h2 at c2
                generalize hh3 : (outer (wordsL b) L3 10).getD (j + 8) 0 = h3 at c3
                have HX := Aside0.mk (And.intro hh1 (And.intro hh2 hh3))
                clear hh1 hh2 hh3
                have d4 : (j : Int) + 8 < 16 := by omega
                go_wp2_with fail
                go_region
                have TN := Aside0.mk ((TJ.out.setH j hltj (bits BinOp.xor IntKind.u32 h1 (bits BinOp.xor IntKind.u32 h2 h3))).drew)
                go_wp2_with fail
                go_roundw
                case rel =>
                  refine ⟨j + 1, by omega, by go_num, ?_⟩
                  have e := TN.out
                  rw [← HX.out.1, ← HX.out.2.1, ← HX.out.2.2, fin_next hs _ j HH.out.len hltj] at e
                  rw [← HX.out.1, ← HX.out.2.1, ← HX.out.2.2]
                  exact e
                case measure => simp [intOf]; omega
              · obtain rfl : j = 8 := by omega
                have d2 : decide (((8 : Nat) : Int) < 8) = false := by decide
                go_wp2_with fail
                go_end0
                have e := TJ.out.hash
                rw [fin_end hs _ HH.out.len, HT.out.1] at e
                exact ⟨rfl, by rw [HN.out]; exact e, TJ.out.keep⟩
end Go.Proofs.Ytacjfgdehnenpaa.Bk
