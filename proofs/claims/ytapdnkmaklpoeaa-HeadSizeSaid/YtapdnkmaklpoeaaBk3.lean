import Derived.Test.YtapdnkmaklpoeaaProg
import Derived.Below
import Derived.Deep.Draws
import Derived.Deep.AppendLies
import Derived.Maps.AppendAt
import Derived.OwnWalk
import Derived.Laws.BytesArg
import Derived.Laws.MakeOwn
import Derived.Laws.OwnMore
import Derived.Deep.OwnRows
import Derived.Tactics
import Derived.Lib.ConvBytes
import Derived.Laws.Slices
import Derived.WalkKit
import Derived.KernelRfl
import Derived.RowKit3
import Derived.Deep.LoopGhost
import Derived.Deep.QuietTactic
import Derived.BigQuiet
import Derived.WideLaws
import Derived.Deep.DeepCutAuto
import Derived.Deep.CutBlock
import Derived.Deep.RegionHeld3
import Derived.Laws.Rows
import Derived.Lib.AppendStr
import Derived.ArgAppend
import Derived.Laws.IdiomCopy
import Derived.OrdersHeld
import Derived.Laws.BitsLemmas
import Derived.RowKit
import Derived.Test.YtapdnkmaklpoeaaWWords
import Derived.Test.YtapdnkmaklpoeaaWLast
import Derived.Test.YtapdnkmaklpoeaaWMore
import Derived.Test.YtapdnkmaklpoeaaBk2
import Derived.LoopTactic
namespace Go.Proofs.Ytapdnkmaklpoeaa.Bk
open Go.RowKit Go.Proofs.YtapdnkmaklpoeaaW.PrintWords Go.Proofs.YtapdnkmaklpoeaaW.PrintLast Go.Proofs.YtapdnkmaklpoeaaW.PrintMore
set_option linter.unusedVariables false
set_option linter.unusedSimpArgs false

/-- The two halves of a product. -/
def mulHi (a b : Int) : Int :=
  let w0 := IntKind.u64.wrap (bits BinOp.and IntKind.u64 a 4294967295 * bits BinOp.and IntKind.u64 b 4294967295)
  let t := IntKind.u64.wrap (IntKind.u64.wrap (a / 4294967296 * bits BinOp.and IntKind.u64 b 4294967295) + w0 / 4294967296)
  IntKind.u64.wrap (IntKind.u64.wrap (IntKind.u64.wrap (a / 4294967296 * (b / 4294967296)) + t / 4294967296) + IntKind.u64.wrap (bits BinOp.and IntKind.u64 t 4294967295 + IntKind.u64.wrap (bits BinOp.and IntKind.u64 a 4294967295 * (b / 4294967296))) / 4294967296)
def mulLo (a b : Int) : Int := IntKind.u64.wrap (a * b)
set_option maxHeartbeats 1000000 in
theorem mul64 (a b : Int) (w : World) : Calls Try.prog 55 #[.int .u64 a, .int .u64 b] w fun e w' => e = .returned (.tuple #[.int .u64 (mulHi a b), .int .u64 (mulLo a b)]) ∧ w = w' := by
  go_enter Try.func55, Try.ntmps55
  go_wp2
  go_ret2
  exact ⟨rfl, rfl⟩

/-- One bit more of a root. -/
def rootStep (p x : Int) (k : Nat) : Int :=
  let y := Go.bits .or .u64 x (IntKind.u64.wrap (2 ^ (34 - k)))
  if mulHi y y < p ∨ (mulHi y y = p ∧ mulLo y y = 0) then y else x
def rootTo (p : Int) : Nat → Int
  | 0 => 0
  | k + 1 => rootStep p (rootTo p k) k
def primesL : List Int := [2, 3, 5, 7, 11, 13, 17, 19]
def firstsL : List Int := primesL.map fun p => IntKind.u32.wrap (rootTo p 35)
theorem firstsL_are : firstsL = [0x6a09e667, 0xbb67ae85, 0x3c6ef372, 0xa54ff53a, 0x510e527f, 0x9b05688c, 0x1f83d9ab, 0x5be0cd19] := by decide +kernel
/-- What holds behind k of the eight. -/
def FOut (g k : Nat) (w wr : World) : Prop :=
  Below w.heap.size w wr ∧ wr.heap[g]? = some (.cells #[.int .u32 0, .int .u32 0, .int .u32 0, .int .u32 0, .int .u32 0, .int .u32 0, .int .u32 0, .int .u32 0] 71 (0, 0)) ∧ IsU wr (g + 1) 71 (firstsL.take k ++ List.replicate (8 - k) 0)
theorem fill_next (L : List Int) (n k : Nat) (hn : L.length = n) (hk : k < n) : (L.take k ++ List.replicate (n - k) 0).set k (L.getD k 0) = L.take (k + 1) ++ List.replicate (n - (k + 1)) 0 := by
  have e : n - k = (n - (k + 1)) + 1 := by omega
  have hl : (L.take k).length = k := by rw [List.length_take]; omega
  rw [e, List.replicate_succ, List.set_append_right _ _ (by omega), hl, Nat.sub_self, List.set_cons_zero]
  rw [List.take_succ_eq_append_getElem (by omega), List.append_assoc, List.singleton_append]
  simp [List.getD_eq_getElem?_getD, List.getElem?_eq_getElem (show k < L.length by omega)]
theorem firsts_at (k : Nat) (hk : k < 8) : firstsL.getD k 0 = rootTo (primesL.getD k 0) 35 % 4294967296 := by
  have hl : k < primesL.length := hk
  have h1 : k < firstsL.length := by simp [firstsL, primesL]; omega
  rw [List.getD_eq_getElem?_getD, List.getD_eq_getElem?_getD, List.getElem?_eq_getElem h1, List.getElem?_eq_getElem hl]
  simp only [firstsL, List.getElem_map, Option.getD_some, IntKind.wrap, IntKind.signed, IntKind.bits]
  rfl
theorem FOut_next (w wr : World) (k : Nat) (hk : k < 8) (h : FOut w.heap.size k w wr) : FOut w.heap.size (k + 1) w (wr.setCell ⟨w.heap.size + 1, k, none⟩ (.int .u32 (rootTo (primesL.getD k 0) 35 % 4294967296))) := by
  obtain ⟨hb, h0, h1⟩ := h
  refine ⟨below_set hb (by omega), blk_far h0 (by simp) _, ?_⟩
  have e := h1.put k (rootTo (primesL.getD k 0) 35 % 4294967296)
  rw [← firsts_at k hk, fill_next firstsL 8 k rfl hk] at e
  rw [← firsts_at k hk]
  exact e
theorem FOut_start (w : World) : FOut w.heap.size 0 w ((w.alloc (.cells #[.int .u32 0, .int .u32 0, .int .u32 0, .int .u32 0, .int .u32 0, .int .u32 0, .int .u32 0, .int .u32 0] 71)).alloc (.cells #[.int .u32 0, .int .u32 0, .int .u32 0, .int .u32 0, .int .u32 0, .int .u32 0, .int .u32 0, .int .u32 0] 71)) := by
  refine ⟨below_alloc (below_alloc (Below.refl _ _) _) _, blk_alloc (blk_new w _) _, ?_⟩
  have h := blk_new (w.alloc (.cells #[.int .u32 0, .int .u32 0, .int .u32 0, .int .u32 0, .int .u32 0, .int .u32 0, .int .u32 0, .int .u32 0] 71)) (.cells #[.int .u32 0, .int .u32 0, .int .u32 0, .int .u32 0, .int .u32 0, .int .u32 0, .int .u32 0, .int .u32 0] 71)
  have e : (w.alloc (.cells #[.int .u32 0, .int .u32 0, .int .u32 0, .int .u32 0, .int .u32 0, .int .u32 0, .int .u32 0, .int .u32 0] 71)).heap.size = w.heap.size + 1 := by simp
  rw [e] at h
  exact h
set_option maxHeartbeats 2000000 in
set_option maxRecDepth 100000 in
theorem firsts_calls (w : World) : Calls Try.prog 49 #[] w fun e w' => e = .returned (.agg (nums .u32 firstsL).toArray) ∧ Below w.heap.size w w' := by
  have ixa : ∀ j : Nat, j < 8 → ∀ w, (Instr.index 105 (.agg #[.int .u64 2, .int .u64 3, .int .u64 5, .int .u64 7, .int .u64 11, .int .u64 13, .int .u64 17, .int .u64 19]) (.int .i64 j)).run Try.prog w = .ok (.int .u64 (primesL.getD j 0)) w := by
    intro j hj w
    refine run_index_cell _ _ 8 _ j _ (.int .u64) Try.underlying105 Try.underlying72 rfl (by kernel_rfl) hj ?_ w
    have hj' : j = 0 ∨ j = 1 ∨ j = 2 ∨ j = 3 ∨ j = 4 ∨ j = 5 ∨ j = 6 ∨ j = 7 := by omega
    rcases hj' with rfl | rfl | rfl | rfl | rfl | rfl | rfl | rfl <;> rfl
  have IX := Aside0.mk ixa
  clear ixa
  go_enter Try.func49, Try.ntmps49
  go_wp2
  go_loopw [10] (fun i wr => ∃ k : Nat, k ≤ 8 ∧ i = .int .i64 k ∧ FOut w.heap.size k w wr) (fun i _ => 8 - (intOf i).toNat)
  case atStart => exact ⟨0, Nat.zero_le _, rfl, FOut_start w⟩
  case round =>
    obtain ⟨k, hk, rfl, hF⟩ := hrel
    have HF := Aside0.mk hF
    clear hF
    by_cases hlt : k < 8
    · have ix := IX.out k hlt
      obtain ⟨p, hp⟩ : ∃ p, p = primesL.getD k 0 := ⟨_, rfl⟩
      rw [← hp] at ix
      have HP := Aside0.mk hp
      clear hp
      have d0 : decide ((k : Int) < 8) = true := decide_eq_true (by omega)
      have d9 : (k : Int) < 8 := by omega
      have c1 := HF.out.2.2.cell k (by simp [firstsL, primesL]; omega)
      have f1 := HF.out.2.2.free k
      generalize (firstsL.take k ++ List.replicate (8 - k) 0).getD k 0 = old at c1
      go_wp2
      go_loop [4, 5] (fun x b => ∃ j : Nat, j ≤ 35 ∧ x = .int .u64 (rootTo p j) ∧ b = .int .i64 (34 - j)) (fun _ b => (intOf b + 1).toNat)
      case atStart => exact ⟨0, Nat.zero_le _, rfl, rfl⟩
      case round =>
        obtain ⟨j, hj, rfl, rfl⟩ := hrel
        by_cases hlj : j < 35
        · have d1 : decide ((0 : Int) ≤ 34 - j) = true := decide_eq_true (by omega)
          have d2 : (0 : Int) ≤ 34 - j := by omega
          have d3 : (34 : Int) - j < 64 := by omega
          generalize hx : rootTo p j = x
          have HX := Aside0.mk hx
          clear hx
          go_wp2_with fail
          generalize hy : bits BinOp.or IntKind.u64 x (IntKind.u64.wrap (2 ^ (34 - j))) = y
          have HY := Aside0.mk hy
          clear hy
          refine (mul64 _ _ _).mono ?_
          rintro e w1 ⟨rfl, rfl⟩
          generalize hh : mulHi y y = h
          have HH := Aside0.mk hh
          clear hh
          generalize hl : mulLo y y = l
          have HL := Aside0.mk hl
          clear hl
          by_cases t1 : h < p
          · have e1 : decide (h < p) = true := decide_eq_true t1
            go_wp2
            go_round
            case rel =>
              refine ⟨j + 1, by omega, ?_, by go_num⟩
              have e : rootTo p (j + 1) = y := by
                show rootStep p (rootTo p j) j = _
                rw [HX.out]
                unfold rootStep
                simp only [HY.out, HH.out, HL.out]
                rw [if_pos (Or.inl t1)]
              rw [e]
            case measure => simp [intOf]; omega
          · have e1 : decide (h < p) = false := decide_eq_false t1
            by_cases t2 : h = p
            · have e2 : (h == p) = true := beq_iff_eq.mpr t2
              have T2 := Aside0.mk t2
              clear t2
              by_cases t3 : l = 0
              · have e3 : (l == 0) = true := beq_iff_eq.mpr t3
                have T3 := Aside0.mk t3
                clear t3
                go_wp2
                go_round
                case rel =>
                  refine ⟨j + 1, by omega, ?_, by go_num⟩
                  have e : rootTo p (j + 1) = y := by
                    show rootStep p (rootTo p j) j = _
                    rw [HX.out]
                    unfold rootStep
                    simp only [HY.out, HH.out, HL.out]
                    rw [if_pos (Or.inr ⟨T2.out, T3.out⟩)]
                  rw [e]
                case measure => simp [intOf]; omega
              · have e3 : (l == 0) = false := beq_eq_false_iff_ne.mpr t3
                go_wp2
                go_round
                case rel =>
                  refine ⟨j + 1, by omega, ?_, by go_num⟩
                  have e : rootTo p (j + 1) = x := by
                    show rootStep p (rootTo p j) j = _
                    rw [HX.out]
                    unfold rootStep
                    simp only [HY.out, HH.out, HL.out]
                    rw [if_neg (fun q => q.elim (fun z => absurd z (by omega)) (fun q => t3 q.2))]
                  rw [e]
                case measure => simp [intOf]; omega
            · have e2 : (h == p) = false := beq_eq_false_iff_ne.mpr t2
              go_wp2
              go_round
              case rel =>
                refine ⟨j + 1, by omega, ?_, by go_num⟩
                have e : rootTo p (j + 1) = x := by
                  show rootStep p (rootTo p j) j = _
                  rw [HX.out]
                  unfold rootStep
                  simp only [HY.out, HH.out, HL.out]
                  rw [if_neg (fun q => q.elim (fun z => absurd z (by omega)) (fun q => t2 q.1))]
                rw [e]
              case measure => simp [intOf]; omega
        · obtain rfl : j = 35 := by omega
          have d1 : decide ((0 : Int) ≤ 34 - (35 : Nat)) = false := by decide
          go_wp2
          go_roundw
          case rel =>
            refine ⟨k + 1, by omega, by go_num, ?_⟩
            have e := FOut_next w wr k hlt HF.out
            rw [← HP.out] at e
            exact e
          case measure => simp [intOf]; omega
    · obtain rfl : k = 8 := by omega
      obtain ⟨hb, h0, h1⟩ := HF.out
      have H0 := Aside0.mk h0
      have H1 := Aside0.mk h1
      have HB := Aside0.mk hb
      clear h0 h1 hb HF hk hlt
      go_wp2_with (first | (refine wpList_load_row rfl 71 _ rfl (w.heap.size + 1) rfl 71 (nums .u32 firstsL).toArray (0, 0) (.array 8 70) H1.out Try.underlying71 rfl (by kernel_rfl) ?_) | (refine wpList_store_rowTo rfl 71 _ _ rfl rfl w.heap.size (nums .u32 firstsL).toArray rfl rfl 71 _ H0.out (by kernel_rfl) (by kernel_rfl) (by kernel_rfl) ?_))
      refine bodyPost_ret (v := .agg (nums .u32 firstsL).toArray) (results_cell_row rfl _ _ w.heap.size 71 (nums .u32 firstsL).toArray (0, 0) (.array 8 70) rfl (setRow_heap _ _ _ _ _ _ H0.out) Try.underlying71 rfl (by kernel_rfl)) rfl ⟨rfl, ?_⟩
      exact below_row HB.out (Nat.le_refl _) _
end Go.Proofs.Ytapdnkmaklpoeaa.Bk
