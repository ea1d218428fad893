import Derived.Test.YteplphpbpaojjaaDoorProg
import Derived.Below
import Derived.Deep.Draws
import Derived.Deep.AppendLies
import Derived.Maps.AppendAt
import Derived.OwnWalk
import Derived.Laws.BytesArg
import Derived.Laws.MakeOwn
import Derived.Laws.OwnMore
import Derived.Deep.OwnRows
import Derived.Tactics
import Derived.Lib.ConvBytes
import Derived.Laws.Slices
import Derived.WalkKit
import Derived.KernelRfl
import Derived.RowKit3
import Derived.Deep.LoopGhost
import Derived.Deep.QuietTactic
import Derived.BigQuiet
import Derived.WideLaws
import Derived.Deep.DeepCutAuto
import Derived.Deep.CutBlock
import Derived.Deep.RegionHeld3
import Derived.Laws.Rows
import Derived.Lib.AppendStr
import Derived.ArgAppend
import Derived.Laws.IdiomCopy
import Derived.OrdersHeld
import Derived.Laws.BitsLemmas
import Derived.RowKit
import Derived.Test.YteplphpbpaojjaaDoorWWords
import Derived.Test.YteplphpbpaojjaaDoorWLast
import Derived.Test.YteplphpbpaojjaaDoorWMore
import Derived.Test.YteplphpbpaojjaaDoorBk4
import Derived.Deep.RegionLaw
import Derived.IntWalk
import Derived.Deep.Cut
import Derived.Lib.Strings
import Derived.Lib.Slices
import Derived.Lib.Walk
import Derived.Lib.Builder
import Derived.Lib.UnsafeStr
import Derived.Lib.LazyBuf
import Derived.Laws.Externs
import Derived.Great.BuildSlice
namespace Go.Proofs.YteplphpbpaojjaaDoor.Bk
open Go.RowKit Go.Proofs.YteplphpbpaojjaaDoorW.PrintWords Go.Proofs.YteplphpbpaojjaaDoorW.PrintLast Go.Proofs.YteplphpbpaojjaaDoorW.PrintMore
set_option linter.unusedVariables false
set_option linter.unusedSimpArgs false

/-- The bytes of a text, as numbers. -/
def strL (s : ByteArray) : List Int := s.data.toList.map fun b => (b.toNat : Int)
theorem strL_len (s : ByteArray) : (strL s).length = s.size := by rw [strL, List.length_map, Array.length_toList]; rfl
theorem strL_cells (s : ByteArray) : Lib.strCells s = nums .u8 (strL s) := by simp [Lib.strCells, nums, strL]
theorem strL_by (s : ByteArray) : ∀ x ∈ strL s, 0 ≤ x ∧ x < 256 := by
  intro x hx
  obtain ⟨b, _, rfl⟩ := List.mem_map.1 hx
  have := b.toNat_lt
  omega
/-- A slice whose bytes are b. -/
def Holds (w : World) (A : Option Addr) (b : List Int) : Prop :=
  (A = none ∧ b = []) ∨ ∃ bb off, A = some ⟨bb, off, none⟩ ∧ bb < w.heap.size ∧ ∀ j u, (nums .u8 b)[j]? = some u → w.cell? ⟨bb, off + j, none⟩ = some u
/-- It lies in no block below n, or where it lay. -/
def Moved (n : Nat) (A A' : Option Addr) : Prop := A' = A ∨ ∀ bb off, A' = some ⟨bb, off, none⟩ → n ≤ bb
section
variable {P : Program} {w : World}
theorem holds_new (w : World) (e : TypeId) (ys : List Int) (rest : List Value) : Holds (w.alloc (.cells (nums .u8 ys ++ rest).toArray e)) (some ⟨w.heap.size, 0, none⟩) ys := by
  refine .inr ⟨_, 0, rfl, by simp, fun j u hj => ?_⟩
  rw [Nat.zero_add, blk_cell (blk_new w _), List.getElem?_toArray, List.getElem?_append_left (List.getElem?_eq_some_iff.1 hj).1, hj]
theorem moved_new {n : Nat} {A : Option Addr} : Moved n A (some ⟨n, 0, none⟩) := .inr fun x y hxy => by injection hxy with h; injection h with h; omega
theorem app_string (t u ty e : TypeId) (i : TypeInfo) (ht : P.underlying t = some (.slice e)) (hu : P.underlying u = some .string) (hi : P.info? e = some i) (hz : i.zero = some (.int .u8 0)) (hs1 : i.size = 1) (hby : i.bytes = 1)
    (A : Option Addr) (b : List Int) (hA : Holds w A b) (s : ByteArray) (hl : b.length + s.size ≤ 140737488355328) :
    ∃ A' c w', (Builtin.append_ #[t, u] ty #[.slice A b.length b.length, .string s]).run P w = .ok (.slice A' (b ++ strL s).length c) w' ∧ (b ++ strL s).length ≤ c ∧ Below w.heap.size w w' ∧ Holds w' A' (b ++ strL s) ∧ Moved w.heap.size A A' := by
  by_cases hm : s.size = 0
  · have hn : strL s = [] := List.eq_nil_of_length_eq_zero (by rw [strL_len]; exact hm)
    rw [hn, List.append_nil]
    refine ⟨A, b.length, w, ?_, Nat.le_refl _, Below.refl _ _, hA, .inl rfl⟩
    have hf := Lib.run_firstCells_string (P := P) w 1 s
    have hnc : Lib.strCells s = [] := by rw [strL_cells, hn]; rfl
    rw [hnc] at hf
    have hst : ∀ a, (storeCells a ([] : List Value)).run P w = .ok () w := fun a => by simp [storeCells]
    rw [hm] at hf
    rcases A with _ | ad
    · simp [Builtin.append_, run_underlying ht, run_underlying hu, sizeOf, typeInfo, hi, hs1, Builtin.lenOf, hm, hf]
    · simp [Builtin.append_, run_underlying ht, run_underlying hu, sizeOf, typeInfo, hi, hs1, Builtin.lenOf, hm, hf, hst]
  · have hel : (b ++ strL s).length = b.length + s.size := by rw [List.length_append, strL_len]
    have hcells : ∀ k, (nums .u8 b).toArray ++ (Lib.strCells s).toArray ++ Builtin.zeroCells (Value.int .u8 0).cells k = ((nums .u8 (b ++ strL s)) ++ (Builtin.zeroCells (Value.int .u8 0).cells k).toList).toArray := by
      intro k
      rw [strL_cells]
      apply Array.ext'
      simp [nums]
    rcases hA with ⟨rfl, rfl⟩ | ⟨bb, off, rfl, hlt, hc⟩
    · have hr := run_append_nil_string (P := P) w t u ty e i (.int .u8 0) ht hu hi hz s (by omega) (by simp at hl; omega) (by rw [hby]; simp at hl; omega)
      have hcn : ∀ k, s.data.map (fun b => Value.int .u8 b.toNat) ++ Builtin.zeroCells (Value.int .u8 0).cells k = ((nums .u8 (strL s)) ++ (Builtin.zeroCells (Value.int .u8 0).cells k).toList).toArray := by
        intro k
        apply Array.ext'
        simp [nums, strL]
      rw [hcn] at hr
      refine ⟨_, _, _, by rw [List.nil_append, strL_len]; exact hr, ?_, below_alloc (below_drew (Below.refl _ _)) _, ?_, moved_new⟩
      · rw [List.nil_append, strL_len]; exact grownCap_ge w s.size 0 e
      · exact holds_new w.drew e (strL s) _
    · have hr := Lib.run_append_grow_string (P := P) w t u ty e i (.int .u8 0) ht hu hi hz ⟨bb, off, none⟩ b.length b.length (nums .u8 b) (by rw [hs1, nums_length]; omega) (fun j v hv => by rw [Addr.add_lit]; exact hc j v hv) s (by omega) (by omega) (by rw [hby]; exact growslice_fits (by omega) (by omega))
      rw [hcells] at hr
      refine ⟨_, _, _, by rw [hel]; exact hr, ?_, below_alloc (below_drew (Below.refl _ _)) _, ?_, moved_new⟩
      · rw [hel]; exact grownCap_ge w (b.length + s.size) b.length e
      · exact holds_new w.drew e (b ++ strL s) _
theorem app_zeros (t u ty e : TypeId) (i : TypeInfo) (k : IntKind) (ht : P.underlying t = some (.slice e)) (hu : P.underlying u = some (.int k)) (hi : P.info? e = some i) (hz : i.zero = some (.int .u8 0)) (hs1 : i.size = 1) (hby : i.bytes = 1)
    (A : Option Addr) (b : List Int) (hA : Holds w A b) (m : Nat) (hb : b.length + m = 64) :
    ∃ A' c w', (Builtin.append_ #[t, u] ty #[.slice A b.length b.length, .int .i64 m]).run P w = .ok (.slice A' (b ++ List.replicate m 0).length c) w' ∧ (b ++ List.replicate m 0).length ≤ c ∧ Below w.heap.size w w' ∧ Holds w' A' (b ++ List.replicate m 0) := by
  have hw : IntKind.i64.wrap (m : Int) = m := IntWalk.i64_in _ (by omega)
  have hneg : ¬ ((m : Int) < 0) := by omega
  have hbig : ¬ ((m : Int) * 1 > 2 ^ 48) := by omega
  have hst : ∀ a, (storeCells a ([] : List Value)).run P w = .ok () w := fun a => by simp [storeCells]
  have hw0 : IntKind.i64.wrap 0 = 0 := by decide
  by_cases hm : m = 0
  · subst hm
    refine ⟨A, b.length, w, ?_, by simp, Below.refl _ _, by simpa using hA⟩
    rcases A with _ | ad
    · simp [Builtin.append_, run_underlying ht, run_underlying hu, sizeOf, typeInfo, hi, hs1, hby, asInt, asIntOf, hw0]
    · simp [Builtin.append_, run_underlying ht, run_underlying hu, sizeOf, typeInfo, hi, hs1, hby, asInt, asIntOf, hst, hw0]
  · have hn : ¬ (b.length + m ≤ b.length) := by omega
    have h63 : ¬ (9223372036854775807 < (b.length : Int) + (m : Int)) := by omega
    have h48 : ¬ (281474976710656 < Builtin.nextslicecap (b.length + m) b.length) := by
      have := growslice_fits (need := b.length + m) (old := b.length) (bytes := 1) (by omega) (by omega)
      omega
    have hm48 : ¬ ((281474976710656 : Int) < (m : Int)) := by omega
    have hzc : Builtin.zeroCells (Value.int .u8 0).cells m = (nums .u8 (List.replicate m 0)).toArray := by
      apply Array.ext'
      apply List.ext_getElem
      · simp [Builtin.zeroCells, nums, Value.cells]
      · intro j h1 h2
        simp [Builtin.zeroCells, nums, Value.cells, Nat.mod_one]
    have hf : (Builtin.firstCells 1 b.length (.slice A b.length b.length)).run P w.drew = .ok (nums .u8 b).toArray w.drew := by
      rcases hA with ⟨rfl, rfl⟩ | ⟨bb, off, rfl, hlt, hc⟩
      · exact run_firstCells_none ..
      · exact run_firstCells_some (P := P) w.drew 1 b.length ⟨bb, off, none⟩ b.length b.length (nums .u8 b) (by rw [nums_length]; omega) (fun j v hv => by rw [Addr.add_lit]; exact hc j v hv)
    refine ⟨some ⟨w.heap.size, 0, none⟩, grownCap w (b.length + m) b.length e, w.drew.alloc (.cells (nums .u8 (b ++ List.replicate m 0) ++ (Builtin.zeroCells (Value.int .u8 0).cells (grownCap w (b.length + m) b.length e - (b.length + m))).toList).toArray e), ?_, ?_, below_alloc (below_drew (Below.refl _ _)) _, ?_⟩
    · simp [Builtin.append_, run_underlying ht, run_underlying hu, sizeOf, typeInfo, zeroValue, hi, hz, hs1, hby, asInt, asIntOf, hw, hn, h63, h48, hm, hm48, hneg, hf, Question.forced, newRow, grownCap]
      congr 2
      rw [hzc]
      apply Array.ext'
      simp [nums]
    · rw [List.length_append, List.length_replicate]; exact grownCap_ge w (b.length + m) b.length e
    · exact holds_new w.drew e (b ++ List.replicate m 0) _
end
end Go.Proofs.YteplphpbpaojjaaDoor.Bk
namespace Go.Proofs.YteplphpbpaojjaaDoor.Bk
open Go.RowKit Go.Proofs.YteplphpbpaojjaaDoorW.PrintWords Go.Proofs.YteplphpbpaojjaaDoorW.PrintLast Go.Proofs.YteplphpbpaojjaaDoorW.PrintMore
set_option linter.unusedVariables false
set_option linter.unusedSimpArgs false

/-- A hash in memory: its numbers, the bytes that are not mixed in yet, how many were. -/
structure HS (w : World) (g : Nat) (hs b : List Int) (n : Int) : Prop where
  ex : ∃ A c, IsHash w g hs (.slice A b.length c) n ∧ b.length ≤ c ∧ Holds w A b ∧ ∀ bb off, A = some ⟨bb, off, none⟩ → bb ≠ g
  by_ : ∀ x ∈ b, 0 ≤ x ∧ x < 256
theorem HS.lt {w : World} {g : Nat} {hs b : List Int} {n : Int} (h : HS w g hs b n) : g < w.heap.size := by
  obtain ⟨A, c, h1, _⟩ := h.ex
  exact h1.lt
/-- What follows, as long as there is more than a block. -/
def run : Nat → List Int → List Int → Int → List Int × List Int × Int
  | 0, hs, b, n => (hs, b, n)
  | k + 1, hs, b, n => if 64 < b.length then run k (compress hs (b.take 64) (IntKind.u64.wrap (n + IntKind.u64.wrap 64)) false) (b.drop 64) (IntKind.u64.wrap (n + IntKind.u64.wrap 64)) else (hs, b, n)
def runF (hs b : List Int) (n : Int) : List Int × List Int × Int := run b.length hs b n
theorem run_enough (k : Nat) : ∀ (hs b : List Int) (n : Int), b.length ≤ k → run k hs b n = runF hs b n := by
  induction k using Nat.strongRecOn with
  | _ k ih =>
    intro hs b n hk
    unfold runF
    cases k with
    | zero =>
      have h : b.length = 0 := by omega
      rw [h]
    | succ k =>
      by_cases h : 64 < b.length
      · obtain ⟨m, hm⟩ : ∃ m, b.length = m + 1 := ⟨b.length - 1, by omega⟩
        rw [hm, run, run, if_pos h, if_pos h, ih k (by omega) _ _ _ (by rw [List.length_drop]; omega), ih m (by omega) _ _ _ (by rw [List.length_drop]; omega)]
      · rw [run, if_neg h]
        cases hb : b.length with
        | zero => rfl
        | succ m => rw [run, if_neg h]
theorem runF_more (hs b : List Int) (n : Int) (h : 64 < b.length) : runF (compress hs (b.take 64) (IntKind.u64.wrap (n + IntKind.u64.wrap 64)) false) (b.drop 64) (IntKind.u64.wrap (n + IntKind.u64.wrap 64)) = runF hs b n := by
  obtain ⟨m, hm⟩ : ∃ m, b.length = m + 1 := ⟨b.length - 1, by omega⟩
  conv => rhs; unfold runF
  rw [hm, run, if_pos h, run_enough m _ _ _ (by rw [List.length_drop]; omega)]
theorem runF_done (hs b : List Int) (n : Int) (h : ¬ 64 < b.length) : runF hs b n = (hs, b, n) := by
  unfold runF
  cases hb : b.length with
  | zero => rfl
  | succ m => rw [run, if_neg h]
/-- A call of the builtin append, as one step of a region that draws. -/
theorem step_app {P : Program} {ops : Array Oper} {o : Oper} {a : Act} {w : World} {K : Act → World → Prop} {Q : Exit → Act → World → Prop} {E : Prop} (hgd : o.guard = none) (d x : Operand) (t u : TypeId)
    (ho : o.op = .call { callee := .builtin .append, args := #[d, x], argTypes := #[t, u] }) (v y : Value) (hd : a.eval d = v) (hx : a.eval x = y) (v' : Value) (w' : World)
    (hr : (Builtin.append_ #[t, u] o.type #[v, y]).run P w = .ok v' w') (h : K (a.put o.dst v') w') :
    if Region.wanted o (yielded ops a.tmps) = true then Oper.wp P o a w K Q else E := by
  have hw : Region.wanted o (yielded ops a.tmps) = true := by simp [Region.wanted, hgd]
  rw [if_pos hw]
  unfold Oper.wp
  simp [execOp, ho, resolve, invoke, builtin, hd, hx, hr, Result.andThen]
  exact h
theorem Holds.kept {w w1 : World} {A : Option Addr} {b : List Int} {g : Nat} (h : Holds w A b) (hk : KeepBut w w1 g none) (hne : ∀ bb off, A = some ⟨bb, off, none⟩ → bb ≠ g) : Holds w1 A b := by
  rcases h with h | ⟨bb, off, rfl, hlt, hc⟩
  · exact .inl h
  · exact .inr ⟨bb, off, rfl, Nat.lt_of_lt_of_le hlt hk.1, fun j u hj => keep_cell hk (hc j u hj) (hne bb off rfl)⟩
/-- While blocks are mixed in. -/
def InAdd (w : World) (g : Nat) (hs all : List Int) (n : Int) (k : Nat) (wr : World) : Prop :=
  ∃ hs' b' n', b'.length = k ∧ k ≤ all.length ∧ HS wr g hs' b' n' ∧ runF hs' b' n' = runF hs all n ∧ KeepBut w wr g none
theorem add_start (hs b : List Int) (n : Int) (s : ByteArray) (w w' : World) (g : Nat) (A A' : Option Addr) (c c' : Nat) (hI : IsHash w g hs (.slice A b.length c) n) (hI1 : IsHash w' g hs (.slice A b.length c) n) (hc' : (b ++ strL s).length ≤ c') (hA' : Holds w' A' (b ++ strL s))
    (hM : Moved w.drew.heap.size A A') (hne : ∀ bb off, A = some ⟨bb, off, none⟩ → bb ≠ g) (hby : ∀ x ∈ b, 0 ≤ x ∧ x < 256) (hB : Below w.drew.heap.size w.drew w') :
    InAdd w g hs (b ++ strL s) n (b ++ strL s).length (w'.setCell ⟨g, 8, none⟩ (.slice A' (b ++ strL s).length c')) := by
  have hne' : ∀ bb off, A' = some ⟨bb, off, none⟩ → bb ≠ g := by
    intro bb off h
    rcases hM with rfl | hM
    · exact hne bb off h
    · have h1 := hM bb off h
      have h2 : g < w.drew.heap.size := hI.lt
      omega
  refine ⟨hs, b ++ strL s, n, rfl, Nat.le_refl _, ⟨⟨A', c', hI1.put8 _, hc', hA'.kept ((KeepBut.refl w' g none).set_ 8 _) hne', hne'⟩, fun x hx => ?_⟩, rfl, ?_⟩
  · rcases List.mem_append.1 hx with h | h
    · exact hby x h
    · exact strL_by s x h
  · exact (show KeepBut w w' g none from ⟨hB.size, fun i hi _ _ => hB.block i hi, hB.os, hB.tape, hB.output⟩).set_ 8 _
theorem bytes_take {w : World} {bb off : Nat} {b : List Int} (hc : ∀ j u, (nums .u8 b)[j]? = some u → w.cell? ⟨bb, off + j, none⟩ = some u) (hl : 64 ≤ b.length) : Bytes w bb off 64 (b.take 64) := by
  refine ⟨by rw [List.length_take]; omega, by omega, fun j hj => hc j _ ?_⟩
  rw [nums, List.getElem?_map, List.getElem?_eq_getElem (show j < b.length by omega), List.getD_eq_getElem?_getD, List.getElem?_take, if_pos hj, List.getElem?_eq_getElem (show j < b.length by omega)]
  rfl
theorem by_take {b : List Int} (h : ∀ x ∈ b, 0 ≤ x ∧ x < 256) (k : Nat) : ∀ x ∈ b.take k, 0 ≤ x ∧ x < 256 := fun x hx => h x (List.mem_of_mem_take hx)
theorem by_drop {b : List Int} (h : ∀ x ∈ b, 0 ≤ x ∧ x < 256) (k : Nat) : ∀ x ∈ b.drop k, 0 ≤ x ∧ x < 256 := fun x hx => h x (List.mem_of_mem_drop hx)
set_option maxHeartbeats 4000000 in
set_option maxRecDepth 100000 in
theorem add_calls (g : Nat) (hs b : List Int) (n : Int) (s : ByteArray) (w : World) (hH : HS w g hs b n) (h64 : b.length ≤ 64) (hsz : s.size ≤ 140737488351232) :
    Calls Tryd.prog 35 #[.pointer (some ⟨g, 0, none⟩), .string s] w fun e w' => e = .returned (.tuple #[]) ∧ HS w' g (runF hs (b ++ strL s) n).1 (runF hs (b ++ strL s) n).2.1 (runF hs (b ++ strL s) n).2.2 ∧ KeepBut w w' g none := by
  obtain ⟨⟨A, c, hI, hc, hA, hne⟩, hby⟩ := hH
  have n8 := hI.cell8
  have f8 := hI.free 8
  obtain ⟨i0, hi, hz0, hz1, hz2⟩ := info_parts (show (Tryd.prog.info? 5).map (fun i => (i.zero, i.size, i.bytes)) = some (some (.int .u8 0), 1, 1) from by kernel_rfl)
  obtain ⟨A', c', w', hr, hc', hB, hA', hM⟩ := app_string (P := Tryd.prog) (w := w.drew) 51 9 51 5 i0 Tryd.underlying51 Tryd.underlying9 hi hz0 hz1 hz2 A b hA s (by omega)
  have HR := Aside0.mk hr
  have I1 := hI.kept (hB.block g hI.lt)
  have m8 := I1.cell8
  have k8 := I1.free 8
  have HI := Aside0.mk hI
  have HI1 := Aside0.mk I1
  have HA := Aside0.mk hA'
  have HM := Aside0.mk hM
  have HB := Aside0.mk hB
  have HNE := Aside0.mk hne
  have HC' := Aside0.mk hc'
  have HBY := Aside0.mk hby
  have q1 : (b.length : Int) ≤ c := by omega
  have q2 : (b.length : Int) ≤ 9223372036854775807 := by omega
  have H64 := Aside0.mk h64
  have HSZ := Aside0.mk hsz
  clear hi hz0 hz1 hz2 hr hc' hB hA' hM hI I1 hA hne hby h64 hsz
  go_enter Tryd.func35, Tryd.ntmps35
  go_upto_region 0 with fail
  go_cut [] from 4 (fun wx => wx = w'.setCell ⟨g, 8, none⟩ (.slice A' (b ++ strL s).length c'))
  case first =>
    go_region_law (refine step_app rfl (.tmp 19) (.tmp 20) 51 9 rfl (.slice A b.length b.length) (.string s) (by simp [Act.eval, Act.put]) (by simp [Act.eval, Act.put]) _ w' HR.out ?_)
    all_goals (go_wp2_with fail; go_meet; simp)
  case rest =>
    subst hcut
    have S0 := Aside0.mk (add_start hs b n s w w' g A A' c c' HI.out HI1.out HC'.out HA.out HM.out HNE.out HBY.out HB.out)
    clear HI HI1 HC' HA HM HNE HB HR n8 f8 m8 k8
    generalize w'.setCell ⟨g, 8, none⟩ (.slice A' (b ++ strL s).length c') = W at *
    have hall : (b ++ strL s).length ≤ 140737488351296 := by have := H64.out; have := HSZ.out; rw [List.length_append, strL_len]; omega
    have HALL := Aside0.mk hall
    clear hall
    generalize hal : b ++ strL s = all at *
    have HAL := Aside0.mk hal
    clear hal
    go_wp2_with fail
    go_loopg [24] all.length (fun k _ wr => InAdd w g hs all n k wr)
    case atStart => exact S0.out
    case round =>
      obtain ⟨hs', b', n', hk, hle, ⟨⟨A1, c1, hI, hc1, hA1, hne1⟩, hby'⟩, hrun, hK⟩ := hrel
      have HK := Aside0.mk hK
      have HRUN := Aside0.mk hrun
      have HI := Aside0.mk hI
      have n8 := hI.cell8
      have hbl : b'.length ≤ 140737488351296 := by have := HALL.out; omega
      by_cases h64 : 64 < b'.length
      · rcases hA1 with ⟨rfl, rfl⟩ | ⟨bb, off, rfl, hlt, hcell⟩
        · exact absurd h64 (by decide)
        have HB := Aside0.mk (bytes_take hcell (by omega) : Bytes wr bb off 64 (b'.take 64))
        have HBY' := Aside0.mk (by_take hby' 64)
        have HCE := Aside0.mk hcell
        have HNE1 := Aside0.mk (hne1 bb off rfl)
        have HBD := Aside0.mk (by_drop hby' 64)
        have HLT := Aside0.mk hlt
        have HKE := Aside0.mk hk
        have HLE := Aside0.mk hle
        clear hcell hne1 hby' hlt hK hrun hI hk hle
        have d0 : decide ((64 : Int) < b'.length) = true := decide_eq_true (by omega)
        have q3 : (64 : Int) ≤ c1 := by omega
        go_wp2_with fail
        refine (take_calls g hs' _ n' bb off 64 c1 (b'.take 64) 64 false _ HI.out HB.out (by omega) HBY'.out).mono ?_
        rintro e w1 ⟨rfl, hI1, hK1⟩
        have m8 := hI1.cell8
        have f8 := hI1.free 8
        have HI1 := Aside0.mk hI1
        have HK1 := Aside0.mk hK1
        clear hI1 hK1
        go_wp2_with fail
        have HN8 := Aside0.mk (HI1.out.put8 (.slice (some ⟨bb, off + 64, none⟩) (b'.length - 64) (c1 - 64)))
        go_roundg (b'.length - 64)
        case measure => have := HKE.out; omega
        case rel =>
          have hdl : (b'.drop 64).length = b'.length - 64 := List.length_drop
          refine ⟨_, b'.drop 64, _, hdl, by have := HLE.out; have := HKE.out; omega, ⟨⟨some ⟨bb, off + 64, none⟩, c1 - 64, by rw [hdl]; exact HN8.out, by omega, ?_, ?_⟩, HBD.out⟩, ?_, ?_⟩
          · refine .inr ⟨bb, off + 64, rfl, by have := HLT.out; have := HK1.out.1; simp; omega, fun j u hj => ?_⟩
            have e : (nums .u8 b')[64 + j]? = some u := by
              rw [← hj, nums, nums, List.map_drop, List.getElem?_drop]
            have e2 := keep_cell HK1.out (HCE.out (64 + j) u e) HNE1.out
            have e3 : off + (64 + j) = off + 64 + j := by omega
            rw [e3] at e2
            exact keep_cell ((KeepBut.refl w1 g none).set_ 8 _) e2 HNE1.out
          · intro x y hxy
            injection hxy with h
            injection h with h1 h2
            subst h1
            exact HNE1.out
          · rw [runF_more hs' b' n' h64]
            exact HRUN.out
          · exact (HK.out.trans HK1.out).set_ 8 _
      · have d0 : decide ((64 : Int) < b'.length) = false := decide_eq_false (by omega)
        have HS1 := Aside0.mk (show HS wr g hs' b' n' from ⟨⟨A1, c1, hI, hc1, hA1, hne1⟩, hby'⟩)
        clear hA1 hne1 hby' hk hrun hK hI hle
        go_wp2_with fail
        go_end0
        have e := HRUN.out
        rw [runF_done hs' b' n' h64] at e
        refine ⟨rfl, ?_, HK.out⟩
        rw [HAL.out, ← e]
        exact HS1.out
end Go.Proofs.YteplphpbpaojjaaDoor.Bk
namespace Go.Proofs.YteplphpbpaojjaaDoor.Bk
open Go.RowKit Go.Proofs.YteplphpbpaojjaaDoorW.PrintWords Go.Proofs.YteplphpbpaojjaaDoorW.PrintLast Go.Proofs.YteplphpbpaojjaaDoorW.PrintMore
set_option linter.unusedVariables false
set_option linter.unusedSimpArgs false

theorem sizeBuilder : (Tryd.prog.info? 69).map (·.size) = some 2 := by kernel_rfl
set_option maxHeartbeats 1000000 in
set_option maxRecDepth 100000 in
theorem copyCheck_used (b : Nat) (w : World) (h0 : w.cell? ⟨b, 0, none⟩ = some (.pointer (some ⟨b, 0, none⟩))) :
    Calls Tryd.prog 52 #[.pointer (some ⟨b, 0, none⟩)] w fun e w' => e = .returned (.tuple #[]) ∧ w' = w := by
  obtain ⟨j, hj, _⟩ := Option.map_eq_some_iff.1 sizeBuilder
  go_enter Tryd.func52, Tryd.ntmps52
  go_wp2
  rw [Lib.run_neq_ptr_same w _ Tryd.underlying67 hj]
  go_wp2
  go_end0
  exact ⟨rfl, rfl⟩
set_option maxHeartbeats 1000000 in
set_option maxRecDepth 100000 in
theorem copyCheck_fresh (b : Nat) (w : World) (h0 : w.cell? ⟨b, 0, none⟩ = some (.pointer none)) (hsh : w.shape? b = some (69, 2)) (hfz : w.frozen? ⟨b, 0, none⟩ = false) :
    Calls Tryd.prog 52 #[.pointer (some ⟨b, 0, none⟩)] w fun e w' => e = .returned (.tuple #[]) ∧ w' = w.setCell ⟨b, 0, none⟩ (.pointer (some ⟨b, 0, none⟩)) := by
  obtain ⟨j, hj, hjs⟩ := Option.map_eq_some_iff.1 sizeBuilder
  go_enter Tryd.func52, Tryd.ntmps52
  go_wp2
  rw [Lib.run_to_unsafe w ⟨b, 0, none⟩ Tryd.underlying67 Tryd.underlying103 hj (by rw [hjs]; decide) hsh (Nat.zero_lt_succ 1)]
  simp only [Result.andThen]
  rw [Oper.upon_value]
  go_wp2
  rw [run_callFunc_extern Tryd.func65 (by kernel_rfl) (by kernel_rfl) (by kernel_rfl) (e := Extern.AbiNoEscape.same) (by kernel_rfl)]
  rw [Lib.run_noEscape]
  simp only [Result.andThen]
  rw [Oper.upon_value]
  go_wp2
  rw [Lib.run_from_unsafe w ⟨b, 0, none⟩ Tryd.underlying103 Tryd.underlying67 hj hsh (by kernel_rfl)]
  simp only [Result.andThen]
  rw [Oper.upon_value]
  go_wp2
  go_end0
  exact ⟨rfl, rfl⟩
theorem copyCheck (B b : Nat) (bs : List Value) (w : World) (h : Lib.IsBuilder 69 5 B b bs w) :
    Calls Tryd.prog 52 #[.pointer (some ⟨b, 0, none⟩)] w fun e w' => e = .returned (.tuple #[]) ∧ (Lib.BuilderAt 69 5 B b (.pointer (some ⟨b, 0, none⟩)) bs w' ∧ Below B w w') := by
  rcases h with h | h
  · refine (copyCheck_fresh b w h.cell0 h.shape h.frozen0).mono ?_
    rintro e w' ⟨rfl, rfl⟩
    exact ⟨rfl, h.used _, (Below.refl B w).setCell (p := ⟨b, 0, none⟩) h.1 _⟩
  · refine (copyCheck_used b w h.cell0).mono ?_
    rintro e w' ⟨rfl, rfl⟩
    exact ⟨rfl, h, Below.refl B _⟩
theorem infoByte : (Tryd.prog.info? 5).map (fun i => (i.zero, i.size, i.bytes)) = some (some (.int .u8 0), 1, 1) := by kernel_rfl
set_option maxHeartbeats 2000000 in
set_option maxRecDepth 100000 in
theorem writeByte (B b : Nat) (bs : List Value) (c : Int) (w : World) (h : Lib.IsBuilder 69 5 B b bs w) (hlen : bs.length + 1 ≤ 140737488355328) (hBw : B ≤ w.heap.size) :
    Calls Tryd.prog 43 #[.pointer (some ⟨b, 0, none⟩), .int .u8 c] w fun e w' => e = .returned .nilIface ∧ (Lib.BuilderAt 69 5 B b (.pointer (some ⟨b, 0, none⟩)) (bs ++ [.int .u8 c]) w' ∧ Below B w w') := by
  obtain ⟨i0, hi, hz0, hz1, hz2⟩ := info_parts infoByte
  go_enter Tryd.func43, Tryd.ntmps43
  go_wp2_with fail
  refine (copyCheck B b bs _ h).mono ?_
  rintro e w1 ⟨rfl, h1, hb1⟩
  obtain ⟨hB, v, hbk, hown, hne⟩ := h1
  have c0 : w1.cell? ⟨b, 0, none⟩ = some (.pointer (some ⟨b, 0, none⟩)) := by rw [Lib.cell_of_heap hbk]; rfl
  have c1 : w1.cell? ⟨b, 1, none⟩ = some v := by rw [Lib.cell_of_heap hbk]; rfl
  go_wp2_with (at_builtin; refine wpList_append_own _ rfl _ _ 51 rfl B 5 i0 (.int .u8 0) 1 1 Tryd.underlying51 hi hz0 hz1 hz2 rfl (by decide) _ _ _ rfl (hown.alloc _) ⟨w1.heap.size, 0, none⟩ 1 1 [.int .u8 c] rfl rfl ?c1 ?c2 ?c3 ?c4 ?c5 ?_)
  case c1 =>
    intro j u hj
    match j, hj with
    | 0, hj => simp at hj; subst hj; simp [Addr.add]
  case c2 => intro u hu; simp at hu; subst hu; rfl
  case c3 => unfold maxLen; omega
  case c4 => omega
  case c5 => have := hb1.size; simp; omega
  intro v' w2 hown' hgrow _
  have hlt : b < w1.heap.size := blk_lt hbk
  have hb2 : w2.heap[b]? = some (.cells #[.pointer (some ⟨b, 0, none⟩), v] 69 (0, 0)) := by
    rw [hgrow.block b (by simp; omega) (fun e => hne e.symm), Lib.alloc_old w1 _ b hlt]
    exact hbk
  have d0 : w2.cell? ⟨b, 0, none⟩ = some (.pointer (some ⟨b, 0, none⟩)) := by rw [Lib.cell_of_heap hb2]; rfl
  have d1 : w2.cell? ⟨b, 1, none⟩ = some v := by rw [Lib.cell_of_heap hb2]; rfl
  have f1 : w2.frozen? ⟨b, 1, none⟩ = false := Lib.frozen_of_heap hb2 1
  obtain ⟨g, cap, rfl⟩ : ∃ g cap, v' = .slice (some ⟨g, 0, none⟩) (bs.length + 1) cap := by
    rcases hown'.2 with ⟨_, h0⟩ | ⟨g, cap, cur, hv, _⟩
    · omega
    · exact ⟨g, cap, hv⟩
  go_wp2
  go_ret
  refine ⟨rfl, ?_, ?_⟩
  · exact Lib.BuilderAt.put (T := 69) (e := 5) hB hb2 (bs' := bs ++ [.int .u8 c]) (by simpa using hown') (by decide)
  · exact ((hb1.alloc (by have := hb1.size; omega) _).grown hgrow (by have := hb1.size; simp; omega) (fun k hk => (hown.lt k hk).1)).setCell (p := ⟨b, 1, none⟩) hB _
set_option maxHeartbeats 1000000 in
set_option maxRecDepth 100000 in
theorem builderString (B b : Nat) (l : List UInt8) (w : World) (h : Lib.IsBuilder 69 5 B b (Lib.byteCells l) w) (h0 : l ≠ []) :
    Calls Tryd.prog 44 #[.pointer (some ⟨b, 0, none⟩)] w fun e w' => e = .returned (.string ⟨l.toArray⟩) ∧ Below B w w' := by
  obtain ⟨p, hB, v, hbk, hown, hne⟩ : ∃ p, Lib.BuilderAt 69 5 B b p (Lib.byteCells l) w := by
    rcases h with h | h
    · exact ⟨_, h⟩
    · exact ⟨_, h⟩
  have hl0 : l.length ≠ 0 := by simpa using h0
  rw [Lib.byteCells_length] at hown
  obtain ⟨g, cap, cur, rfl, hbg, hg, hnc, hcm, hcs, htake⟩ : ∃ g cap cur, v = .slice (some ⟨g, 0, none⟩) l.length cap ∧ B ≤ g ∧ w.heap[g]? = some (.cells cur 5 (0, 0)) ∧ l.length ≤ cap ∧ cap ≤ maxLen ∧ cur.size = cap * 1 ∧ cur.toList.take (l.length * 1) = Lib.byteCells l := by
    rcases hown.2 with ⟨_, hz⟩ | ⟨g, cap, cur, hv, r⟩
    · exact absurd hz hl0
    · exact ⟨g, cap, cur, hv, r⟩
  have c1 : w.drew.cell? ⟨b, 1, none⟩ = some (.slice (some ⟨g, 0, none⟩) l.length cap) := by
    have : w.drew.heap[b]? = some (.cells #[p, .slice (some ⟨g, 0, none⟩) l.length cap] 69 (0, 0)) := hbk
    rw [Lib.cell_of_heap this]; rfl
  have hSD : (Builtin.unsafeSliceData_ #[51] 83 #[.slice (some ⟨g, 0, none⟩) l.length cap]).run Tryd.prog w.drew = .ok (.pointer (some ⟨g, 0, none⟩)) w.drew :=
    Lib.run_unsafeSliceData_row _ _ _ _ _ _ (by omega)
  have hUS : (Builtin.unsafeString_ #[83, 3] 9 #[.pointer (some ⟨g, 0, none⟩), .int .i64 l.length]).run Tryd.prog w.drew = .ok (.string ⟨l.toArray⟩) (w.drew.freeze ⟨g, 0, none⟩ l.length) := by
    refine Lib.run_unsafeString_row w.drew 83 3 9 5 Tryd.underlying83 (by kernel_rfl) g cur.size (by have hg' : w.drew.heap[g]? = some (.cells cur 5 (0, 0)) := hg; simp [World.shape?, hg']) l h0 (by omega) (by unfold maxLen at hcm; omega) ?_
    intro j x hx
    have := hown.cells (g := g) rfl j (.int .u8 x.toNat) (by simp [Lib.byteCells, hx])
    exact this
  go_enter Tryd.func44, Tryd.ntmps44
  go_wp2
  go_region
  all_goals (go_wp2; go_ret; exact ⟨rfl, Lib.below_freeze (Below.drew (Below.refl B w)) (p := ⟨g, 0, none⟩) hbg _⟩)

end Go.Proofs.YteplphpbpaojjaaDoor.Bk
namespace Go.Proofs.YteplphpbpaojjaaDoor.Bk
open Go.RowKit Go.Proofs.YteplphpbpaojjaaDoorW.PrintWords Go.Proofs.YteplphpbpaojjaaDoorW.PrintLast Go.Proofs.YteplphpbpaojjaaDoorW.PrintMore
set_option linter.unusedVariables false
set_option linter.unusedSimpArgs false

/-- The first numbers, by how long a key is. -/
def initL (k : Nat) : List Int := firstsL.set 0 (Go.bits .xor .u32 (firstsL.getD 0 0) (Go.bits .xor .u32 16842784 ((k : Int) % 4294967296 * 256 % 4294967296)))
def hashC : Array Value := ((nums .u32 firstsL) ++ [Value.slice none 0 0, Value.int .u64 0]).toArray
/-- What a new hash is. -/
def Made (w : World) (k : Nat) (b : List Int) (e : Ending) (w' : World) : Prop := ∃ g, e = .returned (.pointer (some ⟨g, 0, none⟩)) ∧ HS w' g (initL k) b 0 ∧ w.heap.size ≤ g ∧ Below w.heap.size w w'
set_option maxHeartbeats 2000000 in
set_option maxRecDepth 100000 in
theorem made_none (w : World) : Calls Tryd.prog 45 #[.string ⟨#[]⟩] w (Made w 0 []) := by
  go_enter Tryd.func45, Tryd.ntmps45
  go_wp2_with fail
  refine (firsts_calls _).mono ?_
  rintro e w1 ⟨rfl, hb1⟩
  have HB1 := Aside0.mk hb1
  clear hb1
  go_wp2_with (refine wpList_buildTo rfl 78 _ rfl _ rfl hashC (by kernel_rfl) ?_)
  have I0 : IsHash (w1.alloc (.cells hashC 78)) w1.heap.size firstsL (.slice none 0 0) 0 := ⟨blk_new w1 _, rfl⟩
  have HB2 := Aside0.mk (below_alloc HB1.out (.cells hashC 78))
  have HGE := Aside0.mk HB1.out.size
  generalize w1.alloc (.cells hashC 78) = W at *
  generalize w1.heap.size = G at *
  have c0 := I0.cell 0 (by decide)
  have f0 := I0.free 0
  have HI := Aside0.mk I0
  clear I0 HB1
  generalize hx : firstsL.getD 0 0 = x0 at c0
  have HX := Aside0.mk hx
  clear hx
  go_region
  go_wp2_with fail
  go_ret
  have e : IsHash (W.setCell ⟨G, 0, none⟩ (.int .u32 (bits BinOp.xor IntKind.u32 x0 (bits BinOp.xor IntKind.u32 16842784 0)))) G (initL 0) (.slice none 0 0) 0 := by
    have h := HI.out.put 0 (by decide) (bits BinOp.xor IntKind.u32 x0 (bits BinOp.xor IntKind.u32 16842784 0))
    rw [← HX.out] at h ⊢
    exact h
  exact ⟨G, rfl, ⟨⟨none, 0, ⟨e.blk, e.len⟩, Nat.le_refl 0, .inl ⟨rfl, rfl⟩, fun _ _ h => by cases h⟩, fun x hx => by cases hx⟩, HGE.out, (below_set HB2.out HGE.out).drew⟩
theorem made_cells (m : Nat) : madeCells #[.int .u8 0] m = (nums .u8 (List.replicate m 0)).toArray := by
  apply Array.ext'
  apply List.ext_getElem
  · simp [madeCells, nums]
  · intro j h1 h2
    simp [madeCells, nums, Nat.mod_one]
theorem make64 (m : Nat) (hm : m ≤ 281474976710656) (W : World) : (Instr.makeSlice 51 (.int .i64 (m : Int)) (.int .i64 (m : Int))).run Tryd.prog W = .ok (.slice (some ⟨W.heap.size, 0, none⟩) m m) (W.alloc (.cells (nums .u8 (List.replicate m 0)).toArray 5)) := by
  rw [← made_cells]
  exact print_make 51 5 .u8 1 Tryd.underlying51 infoByte (by decide) m (by omega) W
set_option maxHeartbeats 1000000 in
theorem new_calls (w : World) : Calls Tryd.prog 34 #[] w (Made w 0 []) := by
  go_enter Tryd.func34, Tryd.ntmps34
  go_wp2_with fail
  refine (made_none _).mono ?_
  rintro e w1 ⟨g, rfl, hH, hge, hB⟩
  have HH := Aside0.mk hH
  have HB := Aside0.mk hB
  clear hH hB
  go_wp2_with fail
  go_ret
  exact ⟨g, rfl, HH.out, hge, HB.out⟩
end Go.Proofs.YteplphpbpaojjaaDoor.Bk
