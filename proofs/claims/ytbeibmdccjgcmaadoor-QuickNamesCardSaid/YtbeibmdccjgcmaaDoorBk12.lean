/- (*strings.Builder).WriteString: it holds what it held and the string's bytes behind it. -/
import Derived.Test.YtbeibmdccjgcmaaDoorProg
import Derived.Below
import Derived.Deep.Draws
import Derived.Deep.AppendLies
import Derived.Maps.AppendAt
import Derived.OwnWalk
import Derived.Laws.BytesArg
import Derived.Laws.MakeOwn
import Derived.Laws.OwnMore
import Derived.Deep.OwnRows
import Derived.Tactics
import Derived.Lib.ConvBytes
import Derived.Laws.Slices
import Derived.WalkKit
import Derived.KernelRfl
import Derived.RowKit3
import Derived.Deep.LoopGhost
import Derived.Deep.QuietTactic
import Derived.BigQuiet
import Derived.WideLaws
import Derived.Deep.DeepCutAuto
import Derived.Deep.CutBlock
import Derived.Deep.RegionHeld3
import Derived.Laws.Rows
import Derived.Lib.AppendStr
import Derived.ArgAppend
import Derived.Laws.IdiomCopy
import Derived.OrdersHeld
import Derived.Laws.BitsLemmas
import Derived.RowKit
import Derived.Test.YtbeibmdccjgcmaaDoorWWords
import Derived.Test.YtbeibmdccjgcmaaDoorWLast
import Derived.Test.YtbeibmdccjgcmaaDoorWMore
import Derived.Test.YtbeibmdccjgcmaaDoorBk4
import Derived.Deep.RegionLaw
import Derived.IntWalk
import Derived.Deep.Cut
import Derived.Lib.Strings
import Derived.Lib.Slices
import Derived.Lib.Walk
import Derived.Lib.Builder
import Derived.Lib.UnsafeStr
import Derived.Lib.LazyBuf
import Derived.Laws.Externs
import Derived.Great.BuildSlice
import Derived.LoopTactic
namespace Go.Proofs.YtbeibmdccjgcmaaDoor.Bk
open Go.RowKit Go.Proofs.YtbeibmdccjgcmaaDoorW.PrintWords Go.Proofs.YtbeibmdccjgcmaaDoorW.PrintLast Go.Proofs.YtbeibmdccjgcmaaDoorW.PrintMore
set_option linter.unusedVariables false
set_option linter.unusedSimpArgs false

/-- The bytes of a text, as numbers. -/
def strL (s : ByteArray) : List Int := s.data.toList.map fun b => (b.toNat : Int)
theorem strL_len (s : ByteArray) : (strL s).length = s.size := by rw [strL, List.length_map, Array.length_toList]; rfl
theorem strL_cells (s : ByteArray) : Lib.strCells s = nums .u8 (strL s) := by simp [Lib.strCells, nums, strL]
theorem strL_by (s : ByteArray) : ∀ x ∈ strL s, 0 ≤ x ∧ x < 256 := by
  intro x hx
  obtain ⟨b, _, rfl⟩ := List.mem_map.1 hx
  have := b.toNat_lt
  omega
/-- A slice whose bytes are b. -/
def Holds (w : World) (A : Option Addr) (b : List Int) : Prop :=
  (A = none ∧ b = []) ∨ ∃ bb off, A = some ⟨bb, off, none⟩ ∧ bb < w.heap.size ∧ ∀ j u, (nums .u8 b)[j]? = some u → w.cell? ⟨bb, off + j, none⟩ = some u
/-- It lies in no block below n, or where it lay. -/
def Moved (n : Nat) (A A' : Option Addr) : Prop := A' = A ∨ ∀ bb off, A' = some ⟨bb, off, none⟩ → n ≤ bb
section
variable {P : Program} {w : World}
theorem holds_new (w : World) (e : TypeId) (ys : List Int) (rest : List Value) : Holds (w.alloc (.cells (nums .u8 ys ++ rest).toArray e)) (some ⟨w.heap.size, 0, none⟩) ys := by
  refine .inr ⟨_, 0, rfl, by simp, fun j u hj => ?_⟩
  rw [Nat.zero_add, blk_cell (blk_new w _), List.getElem?_toArray, List.getElem?_append_left (List.getElem?_eq_some_iff.1 hj).1, hj]
theorem moved_new {n : Nat} {A : Option Addr} : Moved n A (some ⟨n, 0, none⟩) := .inr fun x y hxy => by injection hxy with h; injection h with h; omega
theorem app_string (t u ty e : TypeId) (i : TypeInfo) (ht : P.underlying t = some (.slice e)) (hu : P.underlying u = some .string) (hi : P.info? e = some i) (hz : i.zero = some (.int .u8 0)) (hs1 : i.size = 1) (hby : i.bytes = 1)
    (A : Option Addr) (b : List Int) (hA : Holds w A b) (s : ByteArray) (hl : b.length + s.size ≤ 140737488355328) :
    ∃ A' c w', (Builtin.append_ #[t, u] ty #[.slice A b.length b.length, .string s]).run P w = .ok (.slice A' (b ++ strL s).length c) w' ∧ (b ++ strL s).length ≤ c ∧ Below w.heap.size w w' ∧ Holds w' A' (b ++ strL s) ∧ Moved w.heap.size A A' := by
  by_cases hm : s.size = 0
  · have hn : strL s = [] := List.eq_nil_of_length_eq_zero (by rw [strL_len]; exact hm)
    rw [hn, List.append_nil]
    refine ⟨A, b.length, w, ?_, Nat.le_refl _, Below.refl _ _, hA, .inl rfl⟩
    have hf := Lib.run_firstCells_string (P := P) w 1 s
    have hnc : Lib.strCells s = [] := by rw [strL_cells, hn]; rfl
    rw [hnc] at hf
    have hst : ∀ a, (storeCells a ([] : List Value)).run P w = .ok () w := fun a => by simp [storeCells]
    rw [hm] at hf
    rcases A with _ | ad
    · simp [Builtin.append_, run_underlying ht, run_underlying hu, sizeOf, typeInfo, hi, hs1, Builtin.lenOf, hm, hf]
    · simp [Builtin.append_, run_underlying ht, run_underlying hu, sizeOf, typeInfo, hi, hs1, Builtin.lenOf, hm, hf, hst]
  · have hel : (b ++ strL s).length = b.length + s.size := by rw [List.length_append, strL_len]
    have hcells : ∀ k, (nums .u8 b).toArray ++ (Lib.strCells s).toArray ++ Builtin.zeroCells (Value.int .u8 0).cells k = ((nums .u8 (b ++ strL s)) ++ (Builtin.zeroCells (Value.int .u8 0).cells k).toList).toArray := by
      intro k
      rw [strL_cells]
      apply Array.ext'
      simp [nums]
    rcases hA with ⟨rfl, rfl⟩ | ⟨bb, off, rfl, hlt, hc⟩
    · have hr := run_append_nil_string (P := P) w t u ty e i (.int .u8 0) ht hu hi hz s (by omega) (by simp at hl; omega) (by rw [hby]; simp at hl; omega)
      have hcn : ∀ k, s.data.map (fun b => Value.int .u8 b.toNat) ++ Builtin.zeroCells (Value.int .u8 0).cells k = ((nums .u8 (strL s)) ++ (Builtin.zeroCells (Value.int .u8 0).cells k).toList).toArray := by
        intro k
        apply Array.ext'
        simp [nums, strL]
      rw [hcn] at hr
      refine ⟨_, _, _, by rw [List.nil_append, strL_len]; exact hr, ?_, below_alloc (below_drew (Below.refl _ _)) _, ?_, moved_new⟩
      · rw [List.nil_append, strL_len]; exact grownCap_ge w s.size 0 e
      · exact holds_new w.drew e (strL s) _
    · have hr := Lib.run_append_grow_string (P := P) w t u ty e i (.int .u8 0) ht hu hi hz ⟨bb, off, none⟩ b.length b.length (nums .u8 b) (by rw [hs1, nums_length]; omega) (fun j v hv => by rw [Addr.add_lit]; exact hc j v hv) s (by omega) (by omega) (by rw [hby]; exact growslice_fits (by omega) (by omega))
      rw [hcells] at hr
      refine ⟨_, _, _, by rw [hel]; exact hr, ?_, below_alloc (below_drew (Below.refl _ _)) _, ?_, moved_new⟩
      · rw [hel]; exact grownCap_ge w (b.length + s.size) b.length e
      · exact holds_new w.drew e (b ++ strL s) _
theorem app_zeros (t u ty e : TypeId) (i : TypeInfo) (k : IntKind) (ht : P.underlying t = some (.slice e)) (hu : P.underlying u = some (.int k)) (hi : P.info? e = some i) (hz : i.zero = some (.int .u8 0)) (hs1 : i.size = 1) (hby : i.bytes = 1)
    (A : Option Addr) (b : List Int) (hA : Holds w A b) (m : Nat) (hb : b.length + m = 64) :
    ∃ A' c w', (Builtin.append_ #[t, u] ty #[.slice A b.length b.length, .int .i64 m]).run P w = .ok (.slice A' (b ++ List.replicate m 0).length c) w' ∧ (b ++ List.replicate m 0).length ≤ c ∧ Below w.heap.size w w' ∧ Holds w' A' (b ++ List.replicate m 0) := by
  have hw : IntKind.i64.wrap (m : Int) = m := IntWalk.i64_in _ (by omega)
  have hneg : ¬ ((m : Int) < 0) := by omega
  have hbig : ¬ ((m : Int) * 1 > 2 ^ 48) := by omega
  have hst : ∀ a, (storeCells a ([] : List Value)).run P w = .ok () w := fun a => by simp [storeCells]
  have hw0 : IntKind.i64.wrap 0 = 0 := by decide
  by_cases hm : m = 0
  · subst hm
    refine ⟨A, b.length, w, ?_, by simp, Below.refl _ _, by simpa using hA⟩
    rcases A with _ | ad
    · simp [Builtin.append_, run_underlying ht, run_underlying hu, sizeOf, typeInfo, hi, hs1, hby, asInt, asIntOf, hw0]
    · simp [Builtin.append_, run_underlying ht, run_underlying hu, sizeOf, typeInfo, hi, hs1, hby, asInt, asIntOf, hst, hw0]
  · have hn : ¬ (b.length + m ≤ b.length) := by omega
    have h63 : ¬ (9223372036854775807 < (b.length : Int) + (m : Int)) := by omega
    have h48 : ¬ (281474976710656 < Builtin.nextslicecap (b.length + m) b.length) := by
      have := growslice_fits (need := b.length + m) (old := b.length) (bytes := 1) (by omega) (by omega)
      omega
    have hm48 : ¬ ((281474976710656 : Int) < (m : Int)) := by omega
    have hzc : Builtin.zeroCells (Value.int .u8 0).cells m = (nums .u8 (List.replicate m 0)).toArray := by
      apply Array.ext'
      apply List.ext_getElem
      · simp [Builtin.zeroCells, nums, Value.cells]
      · intro j h1 h2
        simp [Builtin.zeroCells, nums, Value.cells, Nat.mod_one]
    have hf : (Builtin.firstCells 1 b.length (.slice A b.length b.length)).run P w.drew = .ok (nums .u8 b).toArray w.drew := by
      rcases hA with ⟨rfl, rfl⟩ | ⟨bb, off, rfl, hlt, hc⟩
      · exact run_firstCells_none ..
      · exact run_firstCells_some (P := P) w.drew 1 b.length ⟨bb, off, none⟩ b.length b.length (nums .u8 b) (by rw [nums_length]; omega) (fun j v hv => by rw [Addr.add_lit]; exact hc j v hv)
    refine ⟨some ⟨w.heap.size, 0, none⟩, grownCap w (b.length + m) b.length e, w.drew.alloc (.cells (nums .u8 (b ++ List.replicate m 0) ++ (Builtin.zeroCells (Value.int .u8 0).cells (grownCap w (b.length + m) b.length e - (b.length + m))).toList).toArray e), ?_, ?_, below_alloc (below_drew (Below.refl _ _)) _, ?_⟩
    · simp [Builtin.append_, run_underlying ht, run_underlying hu, sizeOf, typeInfo, zeroValue, hi, hz, hs1, hby, asInt, asIntOf, hw, hn, h63, h48, hm, hm48, hneg, hf, Question.forced, newRow, grownCap]
      congr 2
      rw [hzc]
      apply Array.ext'
      simp [nums]
    · rw [List.length_append, List.length_replicate]; exact grownCap_ge w (b.length + m) b.length e
    · exact holds_new w.drew e (b ++ List.replicate m 0) _
end
end Go.Proofs.YtbeibmdccjgcmaaDoor.Bk
namespace Go.Proofs.YtbeibmdccjgcmaaDoor.Bk
open Go.RowKit Go.Proofs.YtbeibmdccjgcmaaDoorW.PrintWords Go.Proofs.YtbeibmdccjgcmaaDoorW.PrintLast Go.Proofs.YtbeibmdccjgcmaaDoorW.PrintMore
set_option linter.unusedVariables false
set_option linter.unusedSimpArgs false

/-- A hash in memory: its numbers, the bytes that are not mixed in yet, how many were. -/
structure HS (w : World) (g : Nat) (hs b : List Int) (n : Int) : Prop where
  ex : ∃ A c, IsHash w g hs (.slice A b.length c) n ∧ b.length ≤ c ∧ Holds w A b ∧ ∀ bb off, A = some ⟨bb, off, none⟩ → bb ≠ g
  by_ : ∀ x ∈ b, 0 ≤ x ∧ x < 256
theorem HS.lt {w : World} {g : Nat} {hs b : List Int} {n : Int} (h : HS w g hs b n) : g < w.heap.size := by
  obtain ⟨A, c, h1, _⟩ := h.ex
  exact h1.lt
/-- What follows, as long as there is more than a block. -/
def run : Nat → List Int → List Int → Int → List Int × List Int × Int
  | 0, hs, b, n => (hs, b, n)
  | k + 1, hs, b, n => if 64 < b.length then run k (compress hs (b.take 64) (IntKind.u64.wrap (n + IntKind.u64.wrap 64)) false) (b.drop 64) (IntKind.u64.wrap (n + IntKind.u64.wrap 64)) else (hs, b, n)
def runF (hs b : List Int) (n : Int) : List Int × List Int × Int := run b.length hs b n
theorem run_enough (k : Nat) : ∀ (hs b : List Int) (n : Int), b.length ≤ k → run k hs b n = runF hs b n := by
  induction k using Nat.strongRecOn with
  | _ k ih =>
    intro hs b n hk
    unfold runF
    cases k with
    | zero =>
      have h : b.length = 0 := by omega
      rw [h]
    | succ k =>
      by_cases h : 64 < b.length
      · obtain ⟨m, hm⟩ : ∃ m, b.length = m + 1 := ⟨b.length - 1, by omega⟩
        rw [hm, run, run, if_pos h, if_pos h, ih k (by omega) _ _ _ (by rw [List.length_drop]; omega), ih m (by omega) _ _ _ (by rw [List.length_drop]; omega)]
      · rw [run, if_neg h]
        cases hb : b.length with
        | zero => rfl
        | succ m => rw [run, if_neg h]
theorem runF_more (hs b : List Int) (n : Int) (h : 64 < b.length) : runF (compress hs (b.take 64) (IntKind.u64.wrap (n + IntKind.u64.wrap 64)) false) (b.drop 64) (IntKind.u64.wrap (n + IntKind.u64.wrap 64)) = runF hs b n := by
  obtain ⟨m, hm⟩ : ∃ m, b.length = m + 1 := ⟨b.length - 1, by omega⟩
  conv => rhs; unfold runF
  rw [hm, run, if_pos h, run_enough m _ _ _ (by rw [List.length_drop]; omega)]
theorem runF_done (hs b : List Int) (n : Int) (h : ¬ 64 < b.length) : runF hs b n = (hs, b, n) := by
  unfold runF
  cases hb : b.length with
  | zero => rfl
  | succ m => rw [run, if_neg h]
/-- A call of the builtin append, as one step of a region that draws. -/
theorem step_app {P : Program} {ops : Array Oper} {o : Oper} {a : Act} {w : World} {K : Act → World → Prop} {Q : Exit → Act → World → Prop} {E : Prop} (hgd : o.guard = none) (d x : Operand) (t u : TypeId)
    (ho : o.op = .call { callee := .builtin .append, args := #[d, x], argTypes := #[t, u] }) (v y : Value) (hd : a.eval d = v) (hx : a.eval x = y) (v' : Value) (w' : World)
    (hr : (Builtin.append_ #[t, u] o.type #[v, y]).run P w = .ok v' w') (h : K (a.put o.dst v') w') :
    if Region.wanted o (yielded ops a.tmps) = true then Oper.wp P o a w K Q else E := by
  have hw : Region.wanted o (yielded ops a.tmps) = true := by simp [Region.wanted, hgd]
  rw [if_pos hw]
  unfold Oper.wp
  simp [execOp, ho, resolve, invoke, builtin, hd, hx, hr, Result.andThen]
  exact h
theorem Holds.kept {w w1 : World} {A : Option Addr} {b : List Int} {g : Nat} (h : Holds w A b) (hk : KeepBut w w1 g none) (hne : ∀ bb off, A = some ⟨bb, off, none⟩ → bb ≠ g) : Holds w1 A b := by
  rcases h with h | ⟨bb, off, rfl, hlt, hc⟩
  · exact .inl h
  · exact .inr ⟨bb, off, rfl, Nat.lt_of_lt_of_le hlt hk.1, fun j u hj => keep_cell hk (hc j u hj) (hne bb off rfl)⟩
/-- While blocks are mixed in. -/
def InAdd (w : World) (g : Nat) (hs all : List Int) (n : Int) (k : Nat) (wr : World) : Prop :=
  ∃ hs' b' n', b'.length = k ∧ k ≤ all.length ∧ HS wr g hs' b' n' ∧ runF hs' b' n' = runF hs all n ∧ KeepBut w wr g none
theorem add_start (hs b : List Int) (n : Int) (s : ByteArray) (w w' : World) (g : Nat) (A A' : Option Addr) (c c' : Nat) (hI : IsHash w g hs (.slice A b.length c) n) (hI1 : IsHash w' g hs (.slice A b.length c) n) (hc' : (b ++ strL s).length ≤ c') (hA' : Holds w' A' (b ++ strL s))
    (hM : Moved w.drew.heap.size A A') (hne : ∀ bb off, A = some ⟨bb, off, none⟩ → bb ≠ g) (hby : ∀ x ∈ b, 0 ≤ x ∧ x < 256) (hB : Below w.drew.heap.size w.drew w') :
    InAdd w g hs (b ++ strL s) n (b ++ strL s).length (w'.setCell ⟨g, 8, none⟩ (.slice A' (b ++ strL s).length c')) := by
  have hne' : ∀ bb off, A' = some ⟨bb, off, none⟩ → bb ≠ g := by
    intro bb off h
    rcases hM with rfl | hM
    · exact hne bb off h
    · have h1 := hM bb off h
      have h2 : g < w.drew.heap.size := hI.lt
      omega
  refine ⟨hs, b ++ strL s, n, rfl, Nat.le_refl _, ⟨⟨A', c', hI1.put8 _, hc', hA'.kept ((KeepBut.refl w' g none).set_ 8 _) hne', hne'⟩, fun x hx => ?_⟩, rfl, ?_⟩
  · rcases List.mem_append.1 hx with h | h
    · exact hby x h
    · exact strL_by s x h
  · exact (show KeepBut w w' g none from ⟨hB.size, fun i hi _ _ => hB.block i hi, hB.os, hB.tape, hB.output⟩).set_ 8 _
theorem bytes_take {w : World} {bb off : Nat} {b : List Int} (hc : ∀ j u, (nums .u8 b)[j]? = some u → w.cell? ⟨bb, off + j, none⟩ = some u) (hl : 64 ≤ b.length) : Bytes w bb off 64 (b.take 64) := by
  refine ⟨by rw [List.length_take]; omega, by omega, fun j hj => hc j _ ?_⟩
  rw [nums, List.getElem?_map, List.getElem?_eq_getElem (show j < b.length by omega), List.getD_eq_getElem?_getD, List.getElem?_take, if_pos hj, List.getElem?_eq_getElem (show j < b.length by omega)]
  rfl
theorem by_take {b : List Int} (h : ∀ x ∈ b, 0 ≤ x ∧ x < 256) (k : Nat) : ∀ x ∈ b.take k, 0 ≤ x ∧ x < 256 := fun x hx => h x (List.mem_of_mem_take hx)
theorem by_drop {b : List Int} (h : ∀ x ∈ b, 0 ≤ x ∧ x < 256) (k : Nat) : ∀ x ∈ b.drop k, 0 ≤ x ∧ x < 256 := fun x hx => h x (List.mem_of_mem_drop hx)
set_option maxHeartbeats 4000000 in
set_option maxRecDepth 100000 in
theorem add_calls (g : Nat) (hs b : List Int) (n : Int) (s : ByteArray) (w : World) (hH : HS w g hs b n) (h64 : b.length ≤ 64) (hsz : s.size ≤ 140737488351232) :
    Calls Tryd.prog 39 #[.pointer (some ⟨g, 0, none⟩), .string s] w fun e w' => e = .returned (.tuple #[]) ∧ HS w' g (runF hs (b ++ strL s) n).1 (runF hs (b ++ strL s) n).2.1 (runF hs (b ++ strL s) n).2.2 ∧ KeepBut w w' g none := by
  obtain ⟨⟨A, c, hI, hc, hA, hne⟩, hby⟩ := hH
  have n8 := hI.cell8
  have f8 := hI.free 8
  obtain ⟨i0, hi, hz0, hz1, hz2⟩ := info_parts (show (Tryd.prog.info? 5).map (fun i => (i.zero, i.size, i.bytes)) = some (some (.int .u8 0), 1, 1) from by kernel_rfl)
  obtain ⟨A', c', w', hr, hc', hB, hA', hM⟩ := app_string (P := Tryd.prog) (w := w.drew) 40 9 40 5 i0 Tryd.underlying40 Tryd.underlying9 hi hz0 hz1 hz2 A b hA s (by omega)
  have HR := Aside0.mk hr
  have I1 := hI.kept (hB.block g hI.lt)
  have m8 := I1.cell8
  have k8 := I1.free 8
  have HI := Aside0.mk hI
  have HI1 := Aside0.mk I1
  have HA := Aside0.mk hA'
  have HM := Aside0.mk hM
  have HB := Aside0.mk hB
  have HNE := Aside0.mk hne
  have HC' := Aside0.mk hc'
  have HBY := Aside0.mk hby
  have q1 : (b.length : Int) ≤ c := by omega
  have q2 : (b.length : Int) ≤ 9223372036854775807 := by omega
  have H64 := Aside0.mk h64
  have HSZ := Aside0.mk hsz
  clear hi hz0 hz1 hz2 hr hc' hB hA' hM hI I1 hA hne hby h64 hsz
  go_enter Tryd.func39, Tryd.ntmps39
  go_upto_region 0 with fail
  go_cut [] from 4 (fun wx => wx = w'.setCell ⟨g, 8, none⟩ (.slice A' (b ++ strL s).length c'))
  case first =>
    go_region_law (refine step_app rfl (.tmp 19) (.tmp 20) 40 9 rfl (.slice A b.length b.length) (.string s) (by simp [Act.eval, Act.put]) (by simp [Act.eval, Act.put]) _ w' HR.out ?_)
    all_goals (go_wp2_with fail; go_meet; simp)
  case rest =>
    subst hcut
    have S0 := Aside0.mk (add_start hs b n s w w' g A A' c c' HI.out HI1.out HC'.out HA.out HM.out HNE.out HBY.out HB.out)
    clear HI HI1 HC' HA HM HNE HB HR n8 f8 m8 k8
    generalize w'.setCell ⟨g, 8, none⟩ (.slice A' (b ++ strL s).length c') = W at *
    have hall : (b ++ strL s).length ≤ 140737488351296 := by have := H64.out; have := HSZ.out; rw [List.length_append, strL_len]; omega
    have HALL := Aside0.mk hall
    clear hall
    generalize hal : b ++ strL s = all at *
    have HAL := Aside0.mk hal
    clear hal
    go_wp2_with fail
    go_loopg [24] all.length (fun k _ wr => InAdd w g hs all n k wr)
    case atStart => exact S0.out
    case round =>
      obtain ⟨hs', b', n', hk, hle, ⟨⟨A1, c1, hI, hc1, hA1, hne1⟩, hby'⟩, hrun, hK⟩ := hrel
      have HK := Aside0.mk hK
      have HRUN := Aside0.mk hrun
      have HI := Aside0.mk hI
      have n8 := hI.cell8
      have hbl : b'.length ≤ 140737488351296 := by have := HALL.out; omega
      by_cases h64 : 64 < b'.length
      · rcases hA1 with ⟨rfl, rfl⟩ | ⟨bb, off, rfl, hlt, hcell⟩
        · exact absurd h64 (by decide)
        have HB := Aside0.mk (bytes_take hcell (by omega) : Bytes wr bb off 64 (b'.take 64))
        have HBY' := Aside0.mk (by_take hby' 64)
        have HCE := Aside0.mk hcell
        have HNE1 := Aside0.mk (hne1 bb off rfl)
        have HBD := Aside0.mk (by_drop hby' 64)
        have HLT := Aside0.mk hlt
        have HKE := Aside0.mk hk
        have HLE := Aside0.mk hle
        clear hcell hne1 hby' hlt hK hrun hI hk hle
        have d0 : decide ((64 : Int) < b'.length) = true := decide_eq_true (by omega)
        have q3 : (64 : Int) ≤ c1 := by omega
        go_wp2_with fail
        refine (take_calls g hs' _ n' bb off 64 c1 (b'.take 64) 64 false _ HI.out HB.out (by omega) HBY'.out).mono ?_
        rintro e w1 ⟨rfl, hI1, hK1⟩
        have m8 := hI1.cell8
        have f8 := hI1.free 8
        have HI1 := Aside0.mk hI1
        have HK1 := Aside0.mk hK1
        clear hI1 hK1
        go_wp2_with fail
        have HN8 := Aside0.mk (HI1.out.put8 (.slice (some ⟨bb, off + 64, none⟩) (b'.length - 64) (c1 - 64)))
        go_roundg (b'.length - 64)
        case measure => have := HKE.out; omega
        case rel =>
          have hdl : (b'.drop 64).length = b'.length - 64 := List.length_drop
          refine ⟨_, b'.drop 64, _, hdl, by have := HLE.out; have := HKE.out; omega, ⟨⟨some ⟨bb, off + 64, none⟩, c1 - 64, by rw [hdl]; exact HN8.out, by omega, ?_, ?_⟩, HBD.out⟩, ?_, ?_⟩
          · refine .inr ⟨bb, off + 64, rfl, by have := HLT.out; have := HK1.out.1; simp; omega, fun j u hj => ?_⟩
            have e : (nums .u8 b')[64 + j]? = some u := by
              rw [← hj, nums, nums, List.map_drop, List.getElem?_drop]
            have e2 := keep_cell HK1.out (HCE.out (64 + j) u e) HNE1.out
            have e3 : off + (64 + j) = off + 64 + j := by omega
            rw [e3] at e2
            exact keep_cell ((KeepBut.refl w1 g none).set_ 8 _) e2 HNE1.out
          · intro x y hxy
            injection hxy with h
            injection h with h1 h2
            subst h1
            exact HNE1.out
          · rw [runF_more hs' b' n' h64]
            exact HRUN.out
          · exact (HK.out.trans HK1.out).set_ 8 _
      · have d0 : decide ((64 : Int) < b'.length) = false := decide_eq_false (by omega)
        have HS1 := Aside0.mk (show HS wr g hs' b' n' from ⟨⟨A1, c1, hI, hc1, hA1, hne1⟩, hby'⟩)
        clear hA1 hne1 hby' hk hrun hK hI hle
        go_wp2_with fail
        go_end0
        have e := HRUN.out
        rw [runF_done hs' b' n' h64] at e
        refine ⟨rfl, ?_, HK.out⟩
        rw [HAL.out, ← e]
        exact HS1.out
end Go.Proofs.YtbeibmdccjgcmaaDoor.Bk
namespace Go.Proofs.YtbeibmdccjgcmaaDoor.Bk
open Go.RowKit Go.Proofs.YtbeibmdccjgcmaaDoorW.PrintWords Go.Proofs.YtbeibmdccjgcmaaDoorW.PrintLast Go.Proofs.YtbeibmdccjgcmaaDoorW.PrintMore
set_option linter.unusedVariables false
set_option linter.unusedSimpArgs false

theorem sizeBuilder : (Tryd.prog.info? 46).map (·.size) = some 2 := by kernel_rfl
set_option maxHeartbeats 1000000 in
set_option maxRecDepth 100000 in
theorem copyCheck_used (b : Nat) (w : World) (h0 : w.cell? ⟨b, 0, none⟩ = some (.pointer (some ⟨b, 0, none⟩))) :
    Calls Tryd.prog 41 #[.pointer (some ⟨b, 0, none⟩)] w fun e w' => e = .returned (.tuple #[]) ∧ w' = w := by
  obtain ⟨j, hj, _⟩ := Option.map_eq_some_iff.1 sizeBuilder
  go_enter Tryd.func41, Tryd.ntmps41
  go_wp2
  rw [Lib.run_neq_ptr_same w _ Tryd.underlying44 hj]
  go_wp2
  go_end0
  exact ⟨rfl, rfl⟩
set_option maxHeartbeats 1000000 in
set_option maxRecDepth 100000 in
theorem copyCheck_fresh (b : Nat) (w : World) (h0 : w.cell? ⟨b, 0, none⟩ = some (.pointer none)) (hsh : w.shape? b = some (46, 2)) (hfz : w.frozen? ⟨b, 0, none⟩ = false) :
    Calls Tryd.prog 41 #[.pointer (some ⟨b, 0, none⟩)] w fun e w' => e = .returned (.tuple #[]) ∧ w' = w.setCell ⟨b, 0, none⟩ (.pointer (some ⟨b, 0, none⟩)) := by
  obtain ⟨j, hj, hjs⟩ := Option.map_eq_some_iff.1 sizeBuilder
  go_enter Tryd.func41, Tryd.ntmps41
  go_wp2
  rw [Lib.run_to_unsafe w ⟨b, 0, none⟩ Tryd.underlying44 Tryd.underlying87 hj (by rw [hjs]; decide) hsh (Nat.zero_lt_succ 1)]
  simp only [Result.andThen]
  rw [Oper.upon_value]
  go_wp2
  rw [run_callFunc_extern Tryd.func62 (by kernel_rfl) (by kernel_rfl) (by kernel_rfl) (e := Extern.AbiNoEscape.same) (by kernel_rfl)]
  rw [Lib.run_noEscape]
  simp only [Result.andThen]
  rw [Oper.upon_value]
  go_wp2
  rw [Lib.run_from_unsafe w ⟨b, 0, none⟩ Tryd.underlying87 Tryd.underlying44 hj hsh (by kernel_rfl)]
  simp only [Result.andThen]
  rw [Oper.upon_value]
  go_wp2
  go_end0
  exact ⟨rfl, rfl⟩
theorem copyCheck (B b : Nat) (bs : List Value) (w : World) (h : Lib.IsBuilder 46 5 B b bs w) :
    Calls Tryd.prog 41 #[.pointer (some ⟨b, 0, none⟩)] w fun e w' => e = .returned (.tuple #[]) ∧ (Lib.BuilderAt 46 5 B b (.pointer (some ⟨b, 0, none⟩)) bs w' ∧ Below B w w') := by
  rcases h with h | h
  · refine (copyCheck_fresh b w h.cell0 h.shape h.frozen0).mono ?_
    rintro e w' ⟨rfl, rfl⟩
    exact ⟨rfl, h.used _, (Below.refl B w).setCell (p := ⟨b, 0, none⟩) h.1 _⟩
  · refine (copyCheck_used b w h.cell0).mono ?_
    rintro e w' ⟨rfl, rfl⟩
    exact ⟨rfl, h, Below.refl B _⟩
theorem infoByte : (Tryd.prog.info? 5).map (fun i => (i.zero, i.size, i.bytes)) = some (some (.int .u8 0), 1, 1) := by kernel_rfl
set_option maxHeartbeats 2000000 in
set_option maxRecDepth 100000 in
theorem writeByte (B b : Nat) (bs : List Value) (c : Int) (w : World) (h : Lib.IsBuilder 46 5 B b bs w) (hlen : bs.length + 1 ≤ 140737488355328) (hBw : B ≤ w.heap.size) :
    Calls Tryd.prog 25 #[.pointer (some ⟨b, 0, none⟩), .int .u8 c] w fun e w' => e = .returned .nilIface ∧ (Lib.BuilderAt 46 5 B b (.pointer (some ⟨b, 0, none⟩)) (bs ++ [.int .u8 c]) w' ∧ Below B w w') := by
  obtain ⟨i0, hi, hz0, hz1, hz2⟩ := info_parts infoByte
  go_enter Tryd.func25, Tryd.ntmps25
  go_wp2_with fail
  refine (copyCheck B b bs _ h).mono ?_
  rintro e w1 ⟨rfl, h1, hb1⟩
  obtain ⟨hB, v, hbk, hown, hne⟩ := h1
  have c0 : w1.cell? ⟨b, 0, none⟩ = some (.pointer (some ⟨b, 0, none⟩)) := by rw [Lib.cell_of_heap hbk]; rfl
  have c1 : w1.cell? ⟨b, 1, none⟩ = some v := by rw [Lib.cell_of_heap hbk]; rfl
  go_wp2_with (at_builtin; refine wpList_append_own _ rfl _ _ 40 rfl B 5 i0 (.int .u8 0) 1 1 Tryd.underlying40 hi hz0 hz1 hz2 rfl (by decide) _ _ _ rfl (hown.alloc _) ⟨w1.heap.size, 0, none⟩ 1 1 [.int .u8 c] rfl rfl ?c1 ?c2 ?c3 ?c4 ?c5 ?_)
  case c1 =>
    intro j u hj
    match j, hj with
    | 0, hj => simp at hj; subst hj; simp [Addr.add]
  case c2 => intro u hu; simp at hu; subst hu; rfl
  case c3 => unfold maxLen; omega
  case c4 => omega
  case c5 => have := hb1.size; simp; omega
  intro v' w2 hown' hgrow _
  have hlt : b < w1.heap.size := blk_lt hbk
  have hb2 : w2.heap[b]? = some (.cells #[.pointer (some ⟨b, 0, none⟩), v] 46 (0, 0)) := by
    rw [hgrow.block b (by simp; omega) (fun e => hne e.symm), Lib.alloc_old w1 _ b hlt]
    exact hbk
  have d0 : w2.cell? ⟨b, 0, none⟩ = some (.pointer (some ⟨b, 0, none⟩)) := by rw [Lib.cell_of_heap hb2]; rfl
  have d1 : w2.cell? ⟨b, 1, none⟩ = some v := by rw [Lib.cell_of_heap hb2]; rfl
  have f1 : w2.frozen? ⟨b, 1, none⟩ = false := Lib.frozen_of_heap hb2 1
  obtain ⟨g, cap, rfl⟩ : ∃ g cap, v' = .slice (some ⟨g, 0, none⟩) (bs.length + 1) cap := by
    rcases hown'.2 with ⟨_, h0⟩ | ⟨g, cap, cur, hv, _⟩
    · omega
    · exact ⟨g, cap, hv⟩
  go_wp2
  go_ret
  refine ⟨rfl, ?_, ?_⟩
  · exact Lib.BuilderAt.put (T := 46) (e := 5) hB hb2 (bs' := bs ++ [.int .u8 c]) (by simpa using hown') (by decide)
  · exact ((hb1.alloc (by have := hb1.size; omega) _).grown hgrow (by have := hb1.size; simp; omega) (fun k hk => (hown.lt k hk).1)).setCell (p := ⟨b, 1, none⟩) hB _
set_option maxHeartbeats 1000000 in
set_option maxRecDepth 100000 in
theorem builderString (B b : Nat) (l : List UInt8) (w : World) (h : Lib.IsBuilder 46 5 B b (Lib.byteCells l) w) (h0 : l ≠ []) :
    Calls Tryd.prog 28 #[.pointer (some ⟨b, 0, none⟩)] w fun e w' => e = .returned (.string ⟨l.toArray⟩) ∧ Below B w w' := by
  obtain ⟨p, hB, v, hbk, hown, hne⟩ : ∃ p, Lib.BuilderAt 46 5 B b p (Lib.byteCells l) w := by
    rcases h with h | h
    · exact ⟨_, h⟩
    · exact ⟨_, h⟩
  have hl0 : l.length ≠ 0 := by simpa using h0
  rw [Lib.byteCells_length] at hown
  obtain ⟨g, cap, cur, rfl, hbg, hg, hnc, hcm, hcs, htake⟩ : ∃ g cap cur, v = .slice (some ⟨g, 0, none⟩) l.length cap ∧ B ≤ g ∧ w.heap[g]? = some (.cells cur 5 (0, 0)) ∧ l.length ≤ cap ∧ cap ≤ maxLen ∧ cur.size = cap * 1 ∧ cur.toList.take (l.length * 1) = Lib.byteCells l := by
    rcases hown.2 with ⟨_, hz⟩ | ⟨g, cap, cur, hv, r⟩
    · exact absurd hz hl0
    · exact ⟨g, cap, cur, hv, r⟩
  have c1 : w.drew.cell? ⟨b, 1, none⟩ = some (.slice (some ⟨g, 0, none⟩) l.length cap) := by
    have : w.drew.heap[b]? = some (.cells #[p, .slice (some ⟨g, 0, none⟩) l.length cap] 46 (0, 0)) := hbk
    rw [Lib.cell_of_heap this]; rfl
  have hSD : (Builtin.unsafeSliceData_ #[40] 67 #[.slice (some ⟨g, 0, none⟩) l.length cap]).run Tryd.prog w.drew = .ok (.pointer (some ⟨g, 0, none⟩)) w.drew :=
    Lib.run_unsafeSliceData_row _ _ _ _ _ _ (by omega)
  have hUS : (Builtin.unsafeString_ #[67, 3] 9 #[.pointer (some ⟨g, 0, none⟩), .int .i64 l.length]).run Tryd.prog w.drew = .ok (.string ⟨l.toArray⟩) (w.drew.freeze ⟨g, 0, none⟩ l.length) := by
    refine Lib.run_unsafeString_row w.drew 67 3 9 5 Tryd.underlying67 (by kernel_rfl) g cur.size (by have hg' : w.drew.heap[g]? = some (.cells cur 5 (0, 0)) := hg; simp [World.shape?, hg']) l h0 (by omega) (by unfold maxLen at hcm; omega) ?_
    intro j x hx
    have := hown.cells (g := g) rfl j (.int .u8 x.toNat) (by simp [Lib.byteCells, hx])
    exact this
  go_enter Tryd.func28, Tryd.ntmps28
  go_wp2
  go_region
  all_goals (go_wp2; go_ret; exact ⟨rfl, Lib.below_freeze (Below.drew (Below.refl B w)) (p := ⟨g, 0, none⟩) hbg _⟩)

end Go.Proofs.YtbeibmdccjgcmaaDoor.Bk
namespace Go.Proofs.YtbeibmdccjgcmaaDoor.Bk
open Go.RowKit Go.Proofs.YtbeibmdccjgcmaaDoorW.PrintWords Go.Proofs.YtbeibmdccjgcmaaDoorW.PrintLast Go.Proofs.YtbeibmdccjgcmaaDoorW.PrintMore
set_option linter.unusedVariables false
set_option linter.unusedSimpArgs false

/-- The first numbers, by how long a key is. -/
def initL (k : Nat) : List Int := firstsL.set 0 (Go.bits .xor .u32 (firstsL.getD 0 0) (Go.bits .xor .u32 16842784 ((k : Int) % 4294967296 * 256 % 4294967296)))
def hashC : Array Value := ((nums .u32 firstsL) ++ [Value.slice none 0 0, Value.int .u64 0]).toArray
/-- What a new hash is. -/
def Made (w : World) (k : Nat) (b : List Int) (e : Ending) (w' : World) : Prop := ∃ g, e = .returned (.pointer (some ⟨g, 0, none⟩)) ∧ HS w' g (initL k) b 0 ∧ w.heap.size ≤ g ∧ Below w.heap.size w w'
set_option maxHeartbeats 2000000 in
set_option maxRecDepth 100000 in
theorem made_none (w : World) : Calls Tryd.prog 59 #[.string ⟨#[]⟩] w (Made w 0 []) := by
  go_enter Tryd.func59, Tryd.ntmps59
  go_wp2_with fail
  refine (firsts_calls _).mono ?_
  rintro e w1 ⟨rfl, hb1⟩
  have HB1 := Aside0.mk hb1
  clear hb1
  go_wp2_with (refine wpList_buildTo rfl 85 _ rfl _ rfl hashC (by kernel_rfl) ?_)
  have I0 : IsHash (w1.alloc (.cells hashC 85)) w1.heap.size firstsL (.slice none 0 0) 0 := ⟨blk_new w1 _, rfl⟩
  have HB2 := Aside0.mk (below_alloc HB1.out (.cells hashC 85))
  have HGE := Aside0.mk HB1.out.size
  generalize w1.alloc (.cells hashC 85) = W at *
  generalize w1.heap.size = G at *
  have c0 := I0.cell 0 (by decide)
  have f0 := I0.free 0
  have HI := Aside0.mk I0
  clear I0 HB1
  generalize hx : firstsL.getD 0 0 = x0 at c0
  have HX := Aside0.mk hx
  clear hx
  go_region
  go_wp2_with fail
  go_ret
  have e : IsHash (W.setCell ⟨G, 0, none⟩ (.int .u32 (bits BinOp.xor IntKind.u32 x0 (bits BinOp.xor IntKind.u32 16842784 0)))) G (initL 0) (.slice none 0 0) 0 := by
    have h := HI.out.put 0 (by decide) (bits BinOp.xor IntKind.u32 x0 (bits BinOp.xor IntKind.u32 16842784 0))
    rw [← HX.out] at h ⊢
    exact h
  exact ⟨G, rfl, ⟨⟨none, 0, ⟨e.blk, e.len⟩, Nat.le_refl 0, .inl ⟨rfl, rfl⟩, fun _ _ h => by cases h⟩, fun x hx => by cases hx⟩, HGE.out, (below_set HB2.out HGE.out).drew⟩
theorem made_cells (m : Nat) : madeCells #[.int .u8 0] m = (nums .u8 (List.replicate m 0)).toArray := by
  apply Array.ext'
  apply List.ext_getElem
  · simp [madeCells, nums]
  · intro j h1 h2
    simp [madeCells, nums, Nat.mod_one]
theorem make64 (m : Nat) (hm : m ≤ 281474976710656) (W : World) : (Instr.makeSlice 40 (.int .i64 (m : Int)) (.int .i64 (m : Int))).run Tryd.prog W = .ok (.slice (some ⟨W.heap.size, 0, none⟩) m m) (W.alloc (.cells (nums .u8 (List.replicate m 0)).toArray 5)) := by
  rw [← made_cells]
  exact print_make 40 5 .u8 1 Tryd.underlying40 infoByte (by decide) m (by omega) W
set_option maxHeartbeats 1000000 in
theorem new_calls (w : World) : Calls Tryd.prog 38 #[] w (Made w 0 []) := by
  go_enter Tryd.func38, Tryd.ntmps38
  go_wp2_with fail
  refine (made_none _).mono ?_
  rintro e w1 ⟨g, rfl, hH, hge, hB⟩
  have HH := Aside0.mk hH
  have HB := Aside0.mk hB
  clear hH hB
  go_wp2_with fail
  go_ret
  exact ⟨g, rfl, HH.out, hge, HB.out⟩
end Go.Proofs.YtbeibmdccjgcmaaDoor.Bk
namespace Go.Proofs.YtbeibmdccjgcmaaDoor.Bk
open Go.RowKit Go.Proofs.YtbeibmdccjgcmaaDoorW.PrintWords Go.Proofs.YtbeibmdccjgcmaaDoorW.PrintLast Go.Proofs.YtbeibmdccjgcmaaDoorW.PrintMore
set_option linter.unusedVariables false
set_option linter.unusedSimpArgs false
set_option maxHeartbeats 2000000 in
set_option maxRecDepth 100000 in
theorem writeString (B b : Nat) (bs : List Value) (s : ByteArray) (w : World) (h : Lib.IsBuilder 46 5 B b bs w) (hlen : bs.length + s.size ≤ 140737488355328) (hBw : B ≤ w.heap.size) :
    Calls Tryd.prog 24 #[.pointer (some ⟨b, 0, none⟩), .string s] w fun e w' => e = .returned (.tuple #[.int .i64 s.size, .nilIface]) ∧ (Lib.BuilderAt 46 5 B b (.pointer (some ⟨b, 0, none⟩)) (bs ++ Lib.strCells s) w' ∧ Below B w w') := by
  obtain ⟨i0, hi, hz0, hz1, hz2⟩ := info_parts infoByte
  go_enter Tryd.func24, Tryd.ntmps24
  go_wp2_with fail
  refine (copyCheck B b bs _ h).mono ?_
  rintro e w1 ⟨rfl, h1, hb1⟩
  obtain ⟨hB, v, hbk, hown, hne⟩ := h1
  have c0 : w1.cell? ⟨b, 0, none⟩ = some (.pointer (some ⟨b, 0, none⟩)) := by rw [Lib.cell_of_heap hbk]; rfl
  have c1 : w1.cell? ⟨b, 1, none⟩ = some v := by rw [Lib.cell_of_heap hbk]; rfl
  go_wp2_with (at_builtin; refine Lib.wpList_append_own_string _ rfl _ _ 40 9 rfl B 5 i0 Tryd.underlying40 Tryd.underlying9 hi hz0 hz1 hz2 _ _ _ rfl hown s rfl ?c3 ?c4 ?c5 ?_)
  case c3 => unfold maxLen; omega
  case c4 => omega
  case c5 => have := hb1.size; omega
  intro v' w2 hown' hgrow _
  have hlt : b < w1.heap.size := blk_lt hbk
  have hb2 : w2.heap[b]? = some (.cells #[.pointer (some ⟨b, 0, none⟩), v] 46 (0, 0)) := by
    rw [hgrow.block b hlt (fun e => hne e.symm)]
    exact hbk
  have d0 : w2.cell? ⟨b, 0, none⟩ = some (.pointer (some ⟨b, 0, none⟩)) := by rw [Lib.cell_of_heap hb2]; rfl
  have d1 : w2.cell? ⟨b, 1, none⟩ = some v := by rw [Lib.cell_of_heap hb2]; rfl
  have f1 : w2.frozen? ⟨b, 1, none⟩ = false := Lib.frozen_of_heap hb2 1
  obtain ⟨ao, n', cap, rfl⟩ : ∃ ao n' cap, v' = .slice ao n' cap := by
    rcases hown'.2 with ⟨hv, _⟩ | ⟨g, cap, cur, hv, _⟩
    · exact ⟨_, _, _, hv⟩
    · exact ⟨_, _, _, hv⟩
  go_wp2
  go_ret2
  refine ⟨rfl, ?_, ?_⟩
  · exact Lib.BuilderAt.put (T := 46) (e := 5) hB hb2 (bs' := bs ++ Lib.strCells s) (by simpa [Lib.strCells_length] using hown') (by decide)
  · exact (hb1.grown hgrow (by have := hb1.size; omega) (fun k hk => (hown.lt k hk).1)).setCell (p := ⟨b, 1, none⟩) hB _
end Go.Proofs.YtbeibmdccjgcmaaDoor.Bk
namespace Go.Proofs.YtbeibmdccjgcmaaDoor.Bk
open Go.RowKit Go.Proofs.YtbeibmdccjgcmaaDoorW.PrintWords Go.Proofs.YtbeibmdccjgcmaaDoorW.PrintLast Go.Proofs.YtbeibmdccjgcmaaDoorW.PrintMore
set_option linter.unusedVariables false
set_option linter.unusedSimpArgs false

theorem HS.kept {w w1 : World} {g g' : Nat} {hs b : List Int} {n : Int} (h : HS w g hs b n) (hk : KeepBut w w1 g' none) (hg : g ≠ g') (hb : ∀ A c bb off, IsHash w g hs (.slice A b.length c) n → A = some ⟨bb, off, none⟩ → bb ≠ g') : HS w1 g hs b n := by
  obtain ⟨A, c, h1, h2, h3, h4⟩ := h.ex
  exact ⟨⟨A, c, h1.kept (hk.block g h1.lt hg (by simp)), h2, h3.kept hk (fun bb off e => hb A c bb off h1 e), h4⟩, h.by_⟩
theorem Holds.below {w w1 : World} {A : Option Addr} {b : List Int} (h : Holds w A b) (hb : Below w.heap.size w w1) : Holds w1 A b := by
  rcases h with h | ⟨bb, off, rfl, hlt, hc⟩
  · exact .inl h
  · exact .inr ⟨bb, off, rfl, Nat.lt_of_lt_of_le hlt hb.size, fun j u hj => pw_cell_below hb (hc j u hj)⟩
theorem HS.below {w w1 : World} {g : Nat} {hs b : List Int} {n : Int} (h : HS w g hs b n) (hb : Below w.heap.size w w1) : HS w1 g hs b n := by
  obtain ⟨A, c, h1, h2, h3, h4⟩ := h.ex
  exact ⟨⟨A, c, h1.kept (hb.block g h1.lt), h2, h3.below hb, h4⟩, h.by_⟩
/-- What a copy is. -/
def Copied (w : World) (hs b : List Int) (n : Int) (e : Ending) (w' : World) : Prop := ∃ g Z, e = .returned (.pointer (some ⟨g, 0, none⟩)) ∧ IsHash w' g hs (.slice (some ⟨Z, 0, none⟩) b.length b.length) n ∧ Holds w' (some ⟨Z, 0, none⟩) b ∧ Z ≠ g ∧ (∀ x ∈ b, 0 ≤ x ∧ x < 256) ∧ w.heap.size ≤ g ∧ Below w.heap.size w w'
/-- The bytes have been copied. -/
def Filled (W : World) (Z : Nat) (b : List Int) (wx : World) : Prop := wx.heap[Z]? = some (.cells (nums .u8 b).toArray 5 (0, 0)) ∧ Below Z W wx
theorem splice_all (b : List Int) : Go.splice (nums .u8 (List.replicate b.length 0)) 0 (nums .u8 b) = nums .u8 b := by simp [Go.splice, nums]
theorem u8_one (L : List Int) : ∀ v ∈ nums .u8 L, v.oneCell' = true := by
  intro v hv
  obtain ⟨x, _, rfl⟩ := List.mem_map.1 hv
  rfl
theorem holds_lt {w : World} {A : Option Addr} {b : List Int} (h : Holds w A b) : ∀ bb off, A = some ⟨bb, off, none⟩ → bb < w.heap.size := by
  intro bb off e
  rcases h with ⟨rfl, _⟩ | ⟨x, y, rfl, hlt, _⟩
  · cases e
  · injection e with e
    injection e with e1 e2
    omega
theorem copy_from {w : World} {A : Option Addr} {b : List Int} (h : Holds w A b) (Z : Nat) : 0 < (nums .u8 b).length → some ⟨Z, 0, none⟩ = some (⟨Z, 0, none⟩ : Addr) ∧ ∃ ad, A = some ad ∧ ∀ j v, (nums .u8 b)[j]? = some v → w.drew.cell? (ad.add j) = some v := by
  intro hp
  rcases h with ⟨rfl, rfl⟩ | ⟨x, y, rfl, hlt, hc⟩
  · simp [nums] at hp
  · exact ⟨rfl, _, rfl, fun j v hj => by rw [Addr.add_lit]; exact hc j v hj⟩
set_option maxHeartbeats 2000000 in
set_option maxRecDepth 100000 in
theorem copy_calls (g : Nat) (hs b : List Int) (n : Int) (w : World) (hH : HS w g hs b n) (h64 : b.length ≤ 64) : Calls Tryd.prog 61 #[.pointer (some ⟨g, 0, none⟩)] w (Copied w hs b n) := by
  obtain ⟨⟨A, c, hI, hc, hA, hne⟩, hby⟩ := hH
  have HI := Aside0.mk hI
  have HA := Aside0.mk hA
  have HBY := Aside0.mk hby
  have HL := Aside0.mk h64
  have hlt := hI.lt
  have c8 := hI.cell8
  have hcs : ((nums .u32 hs) ++ [Value.slice A b.length c, .int .u64 n]).toArray.size = 10 := by rw [List.size_toArray, List.length_append, nums_length, hI.len]; rfl
  obtain ⟨C, hC⟩ : ∃ C, C = ((nums .u32 hs) ++ [Value.slice A b.length c, .int .u64 n]).toArray := ⟨_, rfl⟩
  have hblk : w.heap[g]? = some (.cells C 85 (0, 0)) := by rw [hC]; exact hI.blk
  rw [← hC] at hcs
  have r1 := Aside0.mk (show (Tryd.prog.info? 85).map (·.size) = some C.size from by rw [hcs]; kernel_rfl)
  have r2 := Aside0.mk (show (10 : Nat) = C.size from hcs.symm)
  have r3 := Aside0.mk (show C.all (·.oneCell') = true from by rw [hC]; simp [nums, List.all_eq_true, Value.oneCell'])
  have HBK := Aside0.mk hblk
  have HC := Aside0.mk hC
  have HNE := Aside0.mk hne
  have q1 : (b.length : Int) ≤ c := by omega
  clear hI hA hne hby hcs hC hblk
  have hmk := make64 b.length (by omega)
  clear h64
  go_enter Tryd.func61, Tryd.ntmps61
  go_upto_region 4 with (first | (refine wpList_load_row rfl 85 _ rfl g rfl 85 C (0, 0) (.struct _) HBK.out Tryd.underlying85 rfl r1.out ?_) | (refine wpList_store_rowTo rfl 85 _ _ rfl rfl w.heap.size C rfl rfl 85 _ (heap_alloc_new w _) r1.out r2.out r3.out ?_))
  have B1 := below_row (below_alloc (Below.refl w.heap.size w) (.cells #[.int .u32 0, .int .u32 0, .int .u32 0, .int .u32 0, .int .u32 0, .int .u32 0, .int .u32 0, .int .u32 0, .slice none 0 0, .int .u64 0] 85)) (Nat.le_refl _) C
  have N1 := setRow_heap _ _ _ C _ _ (blk_new w (.cells #[.int .u32 0, .int .u32 0, .int .u32 0, .int .u32 0, .int .u32 0, .int .u32 0, .int .u32 0, .int .u32 0, .slice none 0 0, .int .u64 0] 85))
  generalize (w.alloc (.cells #[.int .u32 0, .int .u32 0, .int .u32 0, .int .u32 0, .int .u32 0, .int .u32 0, .int .u32 0, .int .u32 0, .slice none 0 0, .int .u64 0] 85)).setRow w.heap.size C = W at *
  have I1 := HI.out.kept (B1.block g hlt)
  have I2 : IsHash W w.heap.size hs (.slice A b.length c) n := ⟨by rw [N1, HC.out], HI.out.len⟩
  clear c8
  have c8 := I1.cell8
  have d8 := I2.free 8
  have e8 := I2.cell8
  have hne : w.heap.size ≠ g := by omega
  have hW : w.heap.size < W.heap.size := I2.lt
  have I1 := Aside0.mk I1
  have I2 := Aside0.mk I2
  have B1 := Aside0.mk B1
  clear N1
  generalize hG : w.heap.size = G at *
  have HG := Aside0.mk hG
  clear hG
  go_upto_region 5 with fail
  have E0 := I2.out.put8 (.slice (some ⟨W.heap.size, 0, none⟩) b.length b.length)
  have E1 := E0.kept (Below.heap_alloc _ (.cells (nums .u8 (List.replicate b.length 0)).toArray 5) G E0.lt)
  have G1 := keep_alloc ((KeepBut.refl W G none).set_ 8 (.slice (some ⟨W.heap.size, 0, none⟩) b.length b.length)) (.cells (nums .u8 (List.replicate b.length 0)).toArray 5)
  have Z1 := blk_new (W.setCell ⟨G, 8, none⟩ (.slice (some ⟨W.heap.size, 0, none⟩) b.length b.length)) (.cells (nums .u8 (List.replicate b.length 0)).toArray 5)
  rw [show (W.setCell ⟨G, 8, none⟩ (.slice (some ⟨W.heap.size, 0, none⟩) b.length b.length)).heap.size = W.heap.size by simp] at Z1
  generalize (W.setCell ⟨G, 8, none⟩ (.slice (some ⟨W.heap.size, 0, none⟩) b.length b.length)).alloc (.cells (nums .u8 (List.replicate b.length 0)).toArray 5) = W2 at *
  have F1 := I1.out.kept (G1.block g (by omega) (by omega) (by simp))
  clear c8 d8 e8
  have c8 := F1.cell8
  have e8 := E1.cell8
  have HZ := Aside0.mk (blk_drew Z1)
  have LEN := Aside0.mk (show (nums .u8 b).length = Nat.min b.length b.length from by rw [nums_length]; exact (Nat.min_self _).symm)
  have SRC := Aside0.mk (copy_from (w := W2) ((HA.out.below (HG.out ▸ B1.out)).kept G1 (fun bb off e h => by have := holds_lt HA.out bb off e; have := HG.out; omega)) W.heap.size)
  have FIT := Aside0.mk (show 0 + (nums .u8 b).length ≤ (nums .u8 (List.replicate b.length 0)).length from by rw [nums_length, nums_length, List.length_replicate]; omega)
  have ONE := Aside0.mk (u8_one b)
  have BEL := Aside0.mk (below_drew (Below.refl W.heap.size W2))
  have E1' := Aside0.mk E1
  have G1' := Aside0.mk G1
  clear E0 E1 G1 Z1 F1
  generalize hZ : W.heap.size = Z at *
  have HZe := Aside0.mk hZ
  clear hZ
  go_cut [] from 4 (fun wx => Filled W2 Z b wx)
  case first =>
    go_region_law ((refine step_copy_splice rfl (.tmp 17) (.tmp 21) 40 40 rfl 5 Tryd.underlying40 (by kernel_rfl) (some ⟨Z, 0, none⟩) A b.length b.length b.length c (by simp [Act.eval, Act.put]) (by simp [Act.eval, Act.put]) Z 0 (nums .u8 (List.replicate b.length 0)) 5 HZ.out (nums .u8 b) LEN.out SRC.out FIT.out ONE.out Z W2 BEL.out (Nat.le_refl _) ?_; intro w9 h9 b9))
    all_goals (go_wp2_with fail; go_meet; exact ⟨by rw [← splice_all b]; exact h9.out, b9⟩)
  case rest =>
    have HF := Aside0.mk hcut
    clear hcut
    go_wp2_with fail
    go_ret
    obtain ⟨hz, hbz⟩ := HF.out
    refine ⟨G, Z, rfl, E1'.out.kept (hbz.block G hW), ?_, by omega, HBY.out, Nat.le_of_eq HG.out, ?_⟩
    · refine .inr ⟨Z, 0, rfl, blk_lt hz, fun j u hj => ?_⟩
      rw [Nat.zero_add, blk_cell hz, List.getElem?_toArray]
      exact hj
    · rw [HG.out]
      exact (B1.out.trans (G1'.out.below (by have := HZe.out; omega) (Nat.le_refl _))).trans (hbz.mono (by omega))
end Go.Proofs.YtbeibmdccjgcmaaDoor.Bk
namespace Go.Proofs.YtbeibmdccjgcmaaDoor.Bk
open Go.RowKit Go.Proofs.YtbeibmdccjgcmaaDoorW.PrintWords Go.Proofs.YtbeibmdccjgcmaaDoorW.PrintLast Go.Proofs.YtbeibmdccjgcmaaDoorW.PrintMore
set_option linter.unusedVariables false
set_option linter.unusedSimpArgs false

/-- The bytes of numbers, the lowest first. -/
def outL (H : List Int) : List Int := H.flatMap fun x => [x % 256, x / 256 % 256, x / 65536 % 256, x / 16777216 % 256]
def outB (H : List Int) : List UInt8 := (outL H).map fun x => UInt8.ofNat x.toNat
/-- The digest, by what is not mixed in yet. -/
def finish (hs b : List Int) (n : Int) : ByteArray := ⟨(outB (compress hs (b ++ List.replicate (64 - b.length) 0) (IntKind.u64.wrap (n + IntKind.u64.wrap b.length)) true)).toArray⟩
theorem outL_range (H : List Int) : ∀ x ∈ outL H, 0 ≤ x ∧ x < 256 := by
  intro x hx
  obtain ⟨y, _, hy⟩ := List.mem_flatMap.1 hx
  simp at hy
  omega
theorem outB_cells (H : List Int) : Lib.byteCells (outB H) = nums .u8 (outL H) := by
  simp only [Lib.byteCells, outB, nums, List.map_map]
  refine List.map_congr_left fun x hx => ?_
  have h := outL_range H x hx
  simp only [Function.comp]
  have e : ((UInt8.ofNat x.toNat).toNat : Int) = x := by
    rw [UInt8.toNat_ofNat']
    omega
  rw [e]
theorem outL_take (H : List Int) (k : Nat) (hk : k < H.length) : outL (H.take (k + 1)) = outL (H.take k) ++ [H.getD k 0 % 256, H.getD k 0 / 256 % 256, H.getD k 0 / 65536 % 256, H.getD k 0 / 16777216 % 256] := by
  have e : H.getD k 0 = H[k] := by rw [List.getD_eq_getElem?_getD, List.getElem?_eq_getElem hk]; rfl
  rw [e, List.take_succ_eq_append_getElem hk, outL, outL, List.flatMap_append]
  rfl
theorem outL_len (H : List Int) : (outL H).length = 4 * H.length := by
  induction H with
  | nil => rfl
  | cons x H ih => simp [outL] at ih ⊢; omega
/-- A call of append in a list of operations. -/
theorem wpList_app {P : Program} (w : World) {ops : Array Oper} {rest : List Oper} {o : Oper} {a : Act} {Q : Exit → Act → World → Prop} (hgd : o.guard = none) (d s : Operand) (t t' : TypeId)
    (ho : o.op = .call { callee := .builtin .append, args := #[d, s], argTypes := #[t, t'] }) (v u : Value) (hd : a.eval d = v) (hs : a.eval s = u) {v' : Value} {w' : World}
    (hr : (Builtin.append_ #[t, t'] o.type #[v, u]).run P w = .ok v' w') (h : wpList P ops Q rest (a.put o.dst v') w') : wpList P ops Q (o :: rest) a w := by
  refine wpList_plain hgd fun K hK => ?_
  unfold Oper.wp execOp
  simp only [ho, resolve, invoke, builtin, Sem.run_bind, Sem.run_pure, Result.andThen_ok, List.map_toArray, List.map_cons, List.map_nil, hd, hs, hr]
  exact hK _ _ h
theorem bytes_all {w : World} {bb off : Nat} {b : List Int} (hc : ∀ j u, (nums .u8 b)[j]? = some u → w.cell? ⟨bb, off + j, none⟩ = some u) (hl : b.length = 64) : Bytes w bb off 64 b := by
  refine ⟨hl, by omega, fun j hj => hc j _ ?_⟩
  rw [nums, List.getElem?_map, List.getElem?_eq_getElem (show j < b.length by omega), List.getD_eq_getElem?_getD, List.getElem?_eq_getElem (show j < b.length by omega)]
  rfl
theorem by_pad {b : List Int} (h : ∀ x ∈ b, 0 ≤ x ∧ x < 256) (m : Nat) : ∀ x ∈ b ++ List.replicate m 0, 0 ≤ x ∧ x < 256 := by
  intro x hx
  rcases List.mem_append.1 hx with h1 | h1
  · exact h x h1
  · have := List.eq_of_mem_replicate h1
    omega
theorem eight (H : List Int) (h : H.length = 8) : ∃ a b c d e f g i, H = [a, b, c, d, e, f, g, i] := by
  match H, h with
  | [a, b, c, d, e, f, g, i], _ => exact ⟨a, b, c, d, e, f, g, i, rfl⟩
/-- The bytes of the first k numbers are written. -/
def SumAt (w3 : World) (k : Nat) (H : List Int) (wr : World) : Prop := Lib.IsBuilder 46 5 w3.heap.size w3.heap.size (nums .u8 (outL (H.take k))) wr ∧ Below w3.heap.size w3 wr
theorem sumAt_start (w3 : World) (H : List Int) : SumAt w3 0 H (w3.alloc (.cells #[.pointer none, .slice none 0 0] 46)) :=
  ⟨.inl ⟨Nat.le_refl _, _, blk_new w3 _, own_nil _ _ _ _, by simp [Value.ownBlock]⟩, below_alloc (Below.refl _ _) _⟩
set_option maxHeartbeats 4000000 in
set_option maxRecDepth 100000 in
theorem sum_calls (g : Nat) (hs b : List Int) (n : Int) (w : World) (hH : HS w g hs b n) (h64 : b.length ≤ 64) : Calls Tryd.prog 40 #[.pointer (some ⟨g, 0, none⟩)] w fun e w' => e = .returned (.string (finish hs b n)) ∧ Below w.heap.size w w' := by
  have HH := Aside0.mk hH
  have HL := Aside0.mk h64
  clear hH h64
  go_enter Tryd.func40, Tryd.ntmps40
  go_wp2_with fail
  refine (copy_calls g hs b n _ HH.out HL.out).mono ?_
  rintro e w1 ⟨G, Z, rfl, hI, hA, hZ, hby, hge, hB1⟩
  have c8 := hI.cell8
  have q1 : (b.length : Int) ≤ 64 := by have := HL.out; omega
  obtain ⟨i0, hi, hz0, hz1, hz2⟩ := info_parts infoByte
  obtain ⟨A', c', w2, hr, hc', hB2, hA'⟩ := app_zeros (P := Tryd.prog) (w := w1) 40 3 40 5 i0 .i64 Tryd.underlying40 Tryd.underlying3 hi hz0 hz1 hz2 (some ⟨Z, 0, none⟩) b hA (64 - b.length) (by have := HL.out; omega)
  have em : ((64 - b.length : Nat) : Int) = 64 - b.length := by have := HL.out; omega
  rw [em] at hr
  have e64 : (b ++ List.replicate (64 - b.length) 0).length = 64 := by have := HL.out; rw [List.length_append, List.length_replicate]; omega
  rw [e64] at hr hc'
  obtain ⟨bb, off, rfl, hcell⟩ : ∃ bb off, A' = some ⟨bb, off, none⟩ ∧ ∀ j u, (nums .u8 (b ++ List.replicate (64 - b.length) 0))[j]? = some u → w2.cell? ⟨bb, off + j, none⟩ = some u := by
    rcases hA' with ⟨_, h⟩ | ⟨bb, off, h1, _, h2⟩
    · rw [h] at e64; exact absurd e64 (by decide)
    · exact ⟨bb, off, h1, h2⟩
  have HBS := Aside0.mk (bytes_all hcell e64)
  have HR := Aside0.mk hr
  have HI2 := Aside0.mk (hI.kept (hB2.block G hI.lt))
  have HC2 := Aside0.mk hc'
  have HBY := Aside0.mk (by_pad hby (64 - b.length))
  have HB := Aside0.mk (below_step hB1 hB2)
  have HGE := Aside0.mk hge
  clear hi hz0 hz1 hz2 hr hc' hB2 hA' hI hA hZ hby hge hB1 em hcell e64
  go_wp2_with (at_builtin; refine wpList_app _ rfl (.tmp 22) (.tmp 24) 40 3 rfl (.slice (some ⟨Z, 0, none⟩) b.length b.length) (.int .i64 (64 - b.length)) rfl rfl HR.out ?_)
  refine (take_calls G hs _ n bb off 64 c' (b ++ List.replicate (64 - b.length) 0) b.length true _ HI2.out HBS.out (Nat.le_refl _) HBY.out).mono ?_
  rintro e w3 ⟨rfl, hI3, hK3⟩
  have hf : finish hs b n = ⟨(outB (compress hs (b ++ List.replicate (64 - b.length) 0) (IntKind.u64.wrap (n + IntKind.u64.wrap b.length)) true)).toArray⟩ := rfl
  generalize compress hs (b ++ List.replicate (64 - b.length) 0) (IntKind.u64.wrap (n + IntKind.u64.wrap b.length)) true = H at hI3 hf
  obtain ⟨h0, h1, h2, h3, h4, h5, h6, h7, rfl⟩ := eight H hI3.len
  have HF := Aside0.mk hf
  have HB3 := Aside0.mk (HB.out.trans (hK3.below HB.out.size HGE.out))
  have HLEN := Aside0.mk hI3.len
  have k0 := hI3.cell 0 (by decide)
  have k1 := hI3.cell 1 (by decide)
  have k2 := hI3.cell 2 (by decide)
  have k3 := hI3.cell 3 (by decide)
  have k4 := hI3.cell 4 (by decide)
  have k5 := hI3.cell 5 (by decide)
  have k6 := hI3.cell 6 (by decide)
  have k7 := hI3.cell 7 (by decide)
  have hlt := hI3.lt
  clear hf hI3 hK3 HB c8
  go_wp2_with fail
  have ixa : ∀ j : Nat, j < 8 → ∀ w, (Instr.index 83 (.agg #[.int .u32 h0, .int .u32 h1, .int .u32 h2, .int .u32 h3, .int .u32 h4, .int .u32 h5, .int .u32 h6, .int .u32 h7]) (.int .i64 j)).run Tryd.prog w = .ok (.int .u32 ([h0, h1, h2, h3, h4, h5, h6, h7].getD j 0)) w := by
    intro j hj w
    refine run_index_cell _ _ 8 _ j _ (.int .u32) Tryd.underlying83 Tryd.underlying71 rfl (by kernel_rfl) hj ?_ w
    have hj' : j = 0 ∨ j = 1 ∨ j = 2 ∨ j = 3 ∨ j = 4 ∨ j = 5 ∨ j = 6 ∨ j = 7 := by omega
    rcases hj' with rfl | rfl | rfl | rfl | rfl | rfl | rfl | rfl <;> rfl
  have IX := Aside0.mk ixa
  clear ixa k0 k1 k2 k3 k4 k5 k6 k7
  have S0 := Aside0.mk (sumAt_start w3 [h0, h1, h2, h3, h4, h5, h6, h7])
  have HB4 := Aside0.mk HB3.out.size
  go_loopw [32] (fun i wr => ∃ k : Nat, k ≤ 8 ∧ i = .int .i64 k ∧ SumAt w3 k [h0, h1, h2, h3, h4, h5, h6, h7] wr) (fun i _ => 8 - (intOf i).toNat)
  case atStart => exact ⟨0, Nat.zero_le _, rfl, S0.out⟩
  case round =>
    obtain ⟨k, hk, rfl, hS⟩ := hrel
    have HS1 := Aside0.mk hS
    clear hS S0
    by_cases hlt8 : k < 8
    · have d0 : decide ((k : Int) < 8) = true := decide_eq_true (by omega)
      have ix := IX.out k hlt8
      obtain ⟨x, hx⟩ : ∃ x, x = [h0, h1, h2, h3, h4, h5, h6, h7].getD k 0 := ⟨_, rfl⟩
      rw [← hx] at ix
      have HX := Aside0.mk hx
      clear hx
      have HW := Aside0.mk HS1.out.2.size
      generalize hD : w3.heap.size = D at *
      have HD := Aside0.mk hD
      clear hD
      go_wp2_with fail
      refine wp_loop_rounds 5 ?_
      rw [rounds_succ]
      go_wp2_with fail
      obtain ⟨B0, hB0⟩ : ∃ B0, B0 = nums .u8 (outL ([h0, h1, h2, h3, h4, h5, h6, h7].take k)) := ⟨_, rfl⟩
      have hbl : B0.length ≤ 32 := by
        rw [hB0, nums_length, outL_len, List.length_take]
        omega
      have HS2 := Aside0.mk (show Lib.IsBuilder 46 5 D D B0 wr from by rw [hB0, ← HD.out]; exact HS1.out.1)
      have HB0 := Aside0.mk hB0
      have HBL := Aside0.mk hbl
      clear hB0 hbl
      refine (writeByte D D B0 _ _ HS2.out (by have := HBL.out; simp; omega) (by have := HW.out; omega)).mono ?_
      rintro e w5 ⟨rfl, hb5, hl5⟩
      have IB5 := Aside0.mk (show Lib.IsBuilder 46 5 D D _ w5 from .inr hb5)
      have SZ5 := Aside0.mk hb5.lt
      have BL5 := Aside0.mk hl5
      clear hb5 hl5
      go_wp2_with fail
      rw [rounds_succ]
      go_wp2_with fail
      refine (writeByte D D (B0 ++ [.int .u8 _]) _ _ IB5.out (by have := HBL.out; simp; omega) (by have := SZ5.out; omega)).mono ?_
      rintro e w6 ⟨rfl, hb6, hl6⟩
      have IB6 := Aside0.mk (show Lib.IsBuilder 46 5 D D _ w6 from .inr hb6)
      have SZ6 := Aside0.mk hb6.lt
      have BL6 := Aside0.mk hl6
      clear hb6 hl6
      go_wp2_with fail
      rw [rounds_succ]
      go_wp2_with fail
      refine (writeByte D D (B0 ++ [.int .u8 _] ++ [.int .u8 _]) _ _ IB6.out (by have := HBL.out; simp; omega) (by have := SZ6.out; omega)).mono ?_
      rintro e w7 ⟨rfl, hb7, hl7⟩
      have IB7 := Aside0.mk (show Lib.IsBuilder 46 5 D D _ w7 from .inr hb7)
      have SZ7 := Aside0.mk hb7.lt
      have BL7 := Aside0.mk hl7
      clear hb7 hl7
      go_wp2_with fail
      rw [rounds_succ]
      go_wp2_with fail
      refine (writeByte D D (B0 ++ [.int .u8 _] ++ [.int .u8 _] ++ [.int .u8 _]) _ _ IB7.out (by have := HBL.out; simp; omega) (by have := SZ7.out; omega)).mono ?_
      rintro e w8 ⟨rfl, hb8, hl8⟩
      have IB8 := Aside0.mk (show Lib.IsBuilder 46 5 D D _ w8 from .inr hb8)
      have SZ8 := Aside0.mk hb8.lt
      have BL8 := Aside0.mk hl8
      clear hb8 hl8
      go_wp2_with fail
      rw [rounds_succ]
      go_wp2_with fail
      go_roundw
      case rel =>
        refine ⟨k + 1, by omega, by go_num, ?_⟩
        have e := IB8.out
        rw [HB0.out] at e
        refine ⟨?_, ?_⟩
        · rw [HD.out, outL_take _ k (show k < [h0, h1, h2, h3, h4, h5, h6, h7].length from hlt8), ← HX.out]
          rw [show x / 65536 = x / 256 / 256 by omega, show x / 16777216 = x / 256 / 256 / 256 by omega]
          simpa [nums] using e
        · rw [HD.out]
          have h := HS1.out.2
          rw [HD.out] at h
          exact (((h.trans BL5.out).trans BL6.out).trans BL7.out).trans BL8.out
      case measure => simp [intOf]; omega
    · obtain rfl : k = 8 := by omega
      have d0 : decide (((8 : Nat) : Int) < 8) = false := by decide
      go_wp2_with fail
      refine (builderString w3.heap.size w3.heap.size (outB [h0, h1, h2, h3, h4, h5, h6, h7]) _ (by rw [outB_cells]; exact HS1.out.1) (fun h => by have := congrArg List.length h; simp [outB, outL_len] at this)).mono ?_
      rintro e w9 ⟨rfl, hl9⟩
      have HL9 := Aside0.mk hl9
      clear hl9
      go_wp2_with fail
      go_ret
      exact ⟨by rw [HF.out]; rfl, HB3.out.trans ((HS1.out.2.trans HL9.out).mono HB4.out)⟩
end Go.Proofs.YtbeibmdccjgcmaaDoor.Bk
namespace Go.Proofs.YtbeibmdccjgcmaaDoor.Bk
open Go.RowKit Go.Proofs.YtbeibmdccjgcmaaDoorW.PrintWords Go.Proofs.YtbeibmdccjgcmaaDoorW.PrintLast Go.Proofs.YtbeibmdccjgcmaaDoorW.PrintMore
set_option linter.unusedVariables false
set_option linter.unusedSimpArgs false

theorem runF_len (hs b : List Int) (n : Int) : (runF hs b n).2.1.length ≤ 64 := by
  induction hb : b.length using Nat.strongRecOn generalizing hs b n with
  | _ k ih =>
    by_cases h : 64 < b.length
    · rw [← runF_more hs b n h]
      exact ih (b.drop 64).length (by rw [List.length_drop]; omega) _ _ _ rfl
    · rw [runF_done hs b n h]
      show b.length ≤ 64
      omega
/-- The bytes ahead of all, by a key. -/
def keyL (key : ByteArray) : List Int := if key.size = 0 then [] else strL key ++ List.replicate (64 - key.size) 0
def digest (hs b : List Int) : ByteArray := finish (runF hs b 0).1 (runF hs b 0).2.1 (runF hs b 0).2.2
def blakeSum (s : ByteArray) : ByteArray := digest (initL 0) (strL s)
def blakeKeyed (key s : ByteArray) : ByteArray := digest (initL key.size) (keyL key ++ strL s)
theorem finish_size (hs b : List Int) (n : Int) : (finish hs b n).size = 32 := by
  have h : (outB (compress hs (b ++ List.replicate (64 - b.length) 0) (IntKind.u64.wrap (n + IntKind.u64.wrap b.length)) true)).length = 32 := by
    rw [outB, List.length_map, outL_len, compress, finL_len]
  rw [finish, Lib.size_eq]
  exact h
theorem blakeSum_size (s : ByteArray) : (blakeSum s).size = 32 := finish_size _ _ _
set_option maxHeartbeats 1000000 in
theorem blake_sum (s : ByteArray) (hs : s.size ≤ 140737488351232) (w : World) : Calls Tryd.prog 23 #[.string s] w fun e w' => e = .returned (.string (blakeSum s)) ∧ Below w.heap.size w w' := by
  have HS0 := Aside0.mk hs
  clear hs
  go_enter Tryd.func23, Tryd.ntmps23
  go_wp2_with fail
  refine (new_calls _).mono ?_
  rintro e w1 ⟨g, rfl, hH, hge, hB⟩
  have HH := Aside0.mk hH
  have HB := Aside0.mk hB
  have HGE := Aside0.mk hge
  clear hH hB hge
  go_wp2_with fail
  refine (add_calls g (initL 0) [] 0 s _ HH.out (by decide) HS0.out).mono ?_
  rintro e w2 ⟨rfl, hH2, hK2⟩
  have HH2 := Aside0.mk hH2
  have HB2 := Aside0.mk (HB.out.trans (hK2.below HB.out.size HGE.out))
  clear hH2 hK2
  go_wp2_with fail
  refine (sum_calls g _ _ _ _ HH2.out (runF_len _ _ _)).mono ?_
  rintro e w3 ⟨rfl, hB3⟩
  have HB3 := Aside0.mk (HB2.out.trans (hB3.mono HB2.out.size))
  clear hB3
  go_wp2_with fail
  go_ret
  exact ⟨rfl, HB3.out⟩
end Go.Proofs.YtbeibmdccjgcmaaDoor.Bk
