import Derived.Test.YtejgcdecnaaedaaProg
import Derived.Below
import Derived.Deep.Draws
import Derived.Deep.AppendLies
import Derived.Maps.AppendAt
import Derived.OwnWalk
import Derived.Laws.BytesArg
import Derived.Laws.MakeOwn
import Derived.Laws.OwnMore
import Derived.Deep.OwnRows
import Derived.Tactics
import Derived.Lib.ConvBytes
import Derived.Laws.Slices
import Derived.WalkKit
import Derived.KernelRfl
import Derived.RowKit3
import Derived.Deep.LoopGhost
import Derived.Deep.QuietTactic
import Derived.BigQuiet
import Derived.WideLaws
import Derived.Deep.DeepCutAuto
import Derived.Deep.CutBlock
import Derived.Deep.RegionHeld3
import Derived.Laws.Rows
import Derived.Lib.AppendStr
import Derived.ArgAppend
import Derived.Laws.IdiomCopy
import Derived.OrdersHeld
import Derived.Laws.BitsLemmas
import Derived.RowKit
import Derived.Test.YtejgcdecnaaedaaWWords
import Derived.Test.YtejgcdecnaaedaaWLast
import Derived.Test.YtejgcdecnaaedaaWMore
import Derived.Test.YtejgcdecnaaedaaPureTagBound
namespace Go.Proofs.Ytejgcdecnaaedaa.Tw
open Go.RowKit Go.Proofs.YtejgcdecnaaedaaW.PrintWords Go.Proofs.YtejgcdecnaaedaaW.PrintLast Go.Proofs.YtejgcdecnaaedaaW.PrintMore Go.Proofs.Ytejgcdecnaaedaa.PTag Go.Proofs.Ytejgcdecnaaedaa.Pb
set_option linter.unusedVariables false
set_option linter.unusedSimpArgs false
theorem is_size (k : Nat) (id : ByteArray) (v s : Int) (d t : ByteArray) (h : t.size ≠ 8) (hd : d.size ≤ 100000) : tag_Is.f (k + 3) id v s d t = some false := by
  by_cases hf : Fit id v s
  · rw [is_ok k id v s d t hf hd, decide_eq_false]
    intro e
    rw [← e, tagOf_size] at h
    exact h rfl
  · exact is_no _ _ _ _ _ _ hf
theorem eighth (p : Int) : ∃ K : Nat, wrap64 ((IntKind.u64.wrap p).tmod 8) = (K : Int) ∧ K < 8 := by
  have h0 : 0 ≤ IntKind.u64.wrap p := by unfold IntKind.wrap; simp [IntKind.signed, IntKind.bits]; omega
  rw [Int.tmod_eq_emod_of_nonneg h0]
  exact ⟨(IntKind.u64.wrap p % 8).toNat, by rw [wrap_id (by omega) (by omega)]; omega, by omega⟩
theorem bytes_cell (w : World) (e : TypeId) (t : ByteArray) (K : Nat) (h : K < t.size) : (Lib.bytesWorld w e t).cell? ⟨w.heap.size, K, none⟩ = some (.int .u8 ((bytesOf t).getD K 0)) := by
  rw [Lib.bytesWorld_cell w e t K h]
  have h' : K < t.data.toList.length := by rw [data_length]; exact h
  simp [bytesOf, List.getD_eq_getElem?_getD, List.getElem?_eq_getElem h']
theorem bytes_frozen (w : World) (e : TypeId) (t : ByteArray) (K : Nat) (h : K < t.size) : (Lib.bytesWorld w e t).frozen? ⟨w.heap.size, K, none⟩ = false := by
  have hz : (Lib.bytesCells w e t).size ≥ t.size := by
    simp [Lib.bytesCells]
  simp [World.frozen?, Lib.bytesWorld_at_new]
  omega
theorem bytes_set (w : World) (e : TypeId) (t : ByteArray) (K : Nat) (b : Int) (h : K < t.size) (ht : t.size ≤ 9223372036854775807) : ReadsInt ((Lib.bytesWorld w e t).setCell ⟨w.heap.size, K, none⟩ (.int .u8 b)) .u8 (some ⟨w.heap.size, 0, none⟩) t.size ((bytesOf t).set K b) := by
  refine ⟨by rw [List.length_set, bytesOf_length], ht, fun _ => ⟨_, rfl, fun j hj => ?_⟩⟩
  rw [add_plain]
  have hl : (bytesOf t).length = t.size := bytesOf_length t
  by_cases e : K = j
  · subst e
    rw [World.cell?_setCell_same' _ _ _ (by rw [bytes_cell w _ t K h]; rfl)]
    simp [List.getD_eq_getElem?_getD, hl, h]
  · rw [World.cell?_setCell_other (h := fun z => e (by injection z)), bytes_cell w _ t j hj]
    simp [List.getD_eq_getElem?_getD, List.getElem?_set, e]
theorem byte_of {b : Int} (h : (Lit.int .u8 b).wf = true) : 0 ≤ b ∧ b ≤ 255 := by
  simp [Lit.wf] at h
  exact h
theorem other_eq (t : ByteArray) (K : Nat) (b : Int) (h : K < t.size) (hb : 0 ≤ b ∧ b ≤ 255) : (decide (t = strOfNums ((bytesOf t).set K b)) == ((bytesOf t)[K]?.getD 0 == b)) = true := by
  have hl : K < (bytesOf t).length := by rw [bytesOf_length]; exact h
  have hby : IsBytes ((bytesOf t).set K b) := by
    intro y hy
    rcases List.mem_or_eq_of_mem_set hy with hy | hy
    · exact isBytes_of t y hy
    · subst hy; exact hb
  have hi : t = strOfNums ((bytesOf t).set K b) ↔ (bytesOf t)[K]?.getD 0 = b := by
    rw [List.getElem?_eq_getElem hl]
    show _ ↔ (bytesOf t)[K] = b
    constructor
    · intro e
      have e2 : bytesOf t = (bytesOf t).set K b := by
        have e3 := congrArg bytesOf e
        rwa [bytesOf_str hby] at e3
      have e4 : (bytesOf t)[K]? = ((bytesOf t).set K b)[K]? := congrArg (·[K]?) e2
      rw [List.getElem?_eq_getElem hl, List.getElem?_set_self hl] at e4
      injection e4
    · intro e
      rw [← e, List.set_getElem_self, str_bytesOf]
  by_cases c : (bytesOf t)[K]?.getD 0 = b
  · rw [decide_eq_true (hi.mpr c), c]; simp
  · rw [decide_eq_false (fun z => c (hi.mp z))]; simp [c]
theorem World.heap_size_alloc' (w : World) (o : Obj) : (w.alloc o).heap.size = w.heap.size + 1 := by simp
theorem four_cells {w w1 : World} {a b c d : Value} {t : TypeId} (h : Below (w.heap.size + 1) (w.alloc (.cells #[a, b, c, d] t)) w1) :
    w1.cell? ⟨w.heap.size, 0, none⟩ = some a ∧ w1.cell? ⟨w.heap.size, 1, none⟩ = some b ∧ w1.cell? ⟨w.heap.size, 2, none⟩ = some c ∧ w1.cell? ⟨w.heap.size, 3, none⟩ = some d ∧ Below w.heap.size w w1 ∧ w.heap.size < w1.heap.size := by
  have hc : ∀ (j : Nat), w1.cell? ⟨w.heap.size, j, none⟩ = #[a, b, c, d][j]? := by
    intro j
    rw [h.cell (Nat.lt_succ_self _)]
    exact blk_cell (blk_new w _) j
  refine ⟨hc 0, hc 1, hc 2, hc 3, ((Below.refl _ w).alloc (Nat.le_refl _) _).trans (h.mono (by omega)), ?_⟩
  have := h.size
  simp at this
  omega
set_option maxHeartbeats 1000000 in
theorem TagOther_walk (id : ByteArray) (v s : Int) (d x : ByteArray) (p b : Int) (w : World) (_ : id.size ≤ maxLen) (_ : (Lit.int .i64 v).wf = true) (_ : (Lit.int .i64 s).wf = true) (_ : d.size ≤ maxLen) (_ : x.size ≤ 140737488351232) (_ : (Lit.int .i64 p).wf = true) (_ : (Lit.int .u8 b).wf = true) : Calls Try.prog 7 #[.agg #[.string id, .int .i64 v, .int .i64 s, .string d], .string x, .int .i64 p, .int .u8 b] w fun e w' => e = .returned (.bool true) ∧ Below w.heap.size w w' := by
  go_enter Try.func7, Try.ntmps7
  go_wp2_with fail
  all_goals (refine (hamperlaw06_awake.calls 10 true _ awake_ten).mono ?_; rintro e w1 ⟨rfl, hB⟩; rw [World.heap_size_alloc'] at hB; obtain ⟨c0, c1, c2, c3, hB1, hlt⟩ := four_cells hB; have HB := Aside0.mk hB1; have HLT := Aside0.mk hlt; clear hB hB1 hlt; go_wp2_with fail; try (go_ret; exact ⟨rfl, HB.out⟩))
  rotate_left
  refine (tag_Is.calls 13 id v s d x false w1 (is_size 10 id v s d x (by omega) (by omega))).mono ?_
  rintro e w1 ⟨rfl, hB2⟩
  replace c0 := (hB2.cell (p := ⟨w.heap.size, 0, none⟩) HLT.out).trans c0
  replace c1 := (hB2.cell (p := ⟨w.heap.size, 1, none⟩) HLT.out).trans c1
  replace c2 := (hB2.cell (p := ⟨w.heap.size, 2, none⟩) HLT.out).trans c2
  replace c3 := (hB2.cell (p := ⟨w.heap.size, 3, none⟩) HLT.out).trans c3
  replace HB := Aside0.mk (HB.out.trans (hB2.mono (Nat.le_of_lt HLT.out)))
  replace HLT := Aside0.mk (Nat.lt_of_lt_of_le HLT.out hB2.size)
  clear hB2
  go_wp2_with fail
  all_goals
    by_cases hf : Fit id v s
    · refine (tag_Make.calls 10 id v s d (tagOf id v s d) 0 _ (make_ok 7 id v s d hf (by omega))).mono ?_
      rintro e w2 ⟨rfl, hB2⟩
      replace c0 := (hB2.cell (p := ⟨w.heap.size, 0, none⟩) HLT.out).trans c0
      replace c1 := (hB2.cell (p := ⟨w.heap.size, 1, none⟩) HLT.out).trans c1
      replace c2 := (hB2.cell (p := ⟨w.heap.size, 2, none⟩) HLT.out).trans c2
      replace c3 := (hB2.cell (p := ⟨w.heap.size, 3, none⟩) HLT.out).trans c3
      replace HB := Aside0.mk (HB.out.trans (hB2.mono (Nat.le_of_lt HLT.out)))
      replace HLT := Aside0.mk (Nat.lt_of_lt_of_le HLT.out hB2.size)
      clear hB2
      have ht : (tagOf id v s d).size = 8 := tagOf_size ..
      generalize htt : tagOf id v s d = t at ht
      have HTT := Aside0.mk htt
      clear htt
      obtain ⟨K, hK, hK8⟩ := eighth p
      have kb := fun W => print_bytes (P := Try.prog) 9 33 5 Try.underlying9 Try.underlying33 Try.underlying5 t W
      simp only [ht] at kb
      have hc := bytes_cell w2 5 t K (by omega)
      have hf1 := bytes_frozen w2 5 t K (by omega)
      have hul : IntKind.u64.wrap ((8 : Nat) : Int) = 8 := by decide
      have hul' : IntKind.u64.wrap 8 = 8 := by decide
      have hne : (⟨w2.heap.size, K, none⟩ : Addr).block ≠ w.heap.size := by show w2.heap.size ≠ _; have := HLT.out; omega
      have hold : ∀ j, ((Lib.bytesWorld w2 5 t).setCell ⟨w2.heap.size, K, none⟩ (.int .u8 b)).cell? ⟨w.heap.size, j, none⟩ = w2.cell? ⟨w.heap.size, j, none⟩ := fun j => (World.cell?_setCell_far _ _ _ _ hne).trans (Lib.bytesWorld_old _ _ _ _ HLT.out)
      have d0 := (hold 0).trans c0
      have d1 := (hold 1).trans c1
      have d2 := (hold 2).trans c2
      have d3 := (hold 3).trans c3
      have hR := bytes_set w2 5 t K b (by omega) (by omega)
      rw [ht] at hR
      have kc := fun c => string_of_reads (P := Try.prog) (c := c) Try.underlying33 Try.underlying5 Try.underlying9 hR
      have hB3 : Below w.heap.size w ((Lib.bytesWorld w2 5 t).setCell ⟨w2.heap.size, K, none⟩ (.int .u8 b)) := Below.setCell (bytes_below HB.out (Nat.le_of_lt HLT.out) _ _) (p := ⟨w2.heap.size, K, none⟩) (Nat.le_of_lt HLT.out) _
      replace HB := Aside0.mk hB3
      clear hB3 hold hR
      go_wp2_with fail
      refine (tag_Is.calls 10 id v s d _ _ _ (is_ok 7 id v s d (strOfNums ((bytesOf t).set K b)) hf (by omega))).mono ?_
      rintro e w3 ⟨rfl, hB4⟩
      replace HB := Aside0.mk (HB.out.trans (hB4.mono (by have := HB.out.size; exact this)))
      clear hB4
      rw [HTT.out]
      go_wp2_with fail
      go_ret
      refine ⟨?_, HB.out⟩
      have hz := other_eq t K b (by omega) (byte_of ‹(Lit.int .u8 b).wf = true›)
      rw [← hz]
      rfl
    · refine (tag_Make.calls 10 id v s d ⟨#[]⟩ 1 _ (make_no 10 id v s d hf)).mono ?_
      rintro e w2 ⟨rfl, hB2⟩
      replace c0 := (hB2.cell (p := ⟨w.heap.size, 0, none⟩) HLT.out).trans c0
      replace c1 := (hB2.cell (p := ⟨w.heap.size, 1, none⟩) HLT.out).trans c1
      replace c2 := (hB2.cell (p := ⟨w.heap.size, 2, none⟩) HLT.out).trans c2
      replace c3 := (hB2.cell (p := ⟨w.heap.size, 3, none⟩) HLT.out).trans c3
      replace HB := Aside0.mk (HB.out.trans (hB2.mono (Nat.le_of_lt HLT.out)))
      replace HLT := Aside0.mk (Nat.lt_of_lt_of_le HLT.out hB2.size)
      clear hB2
      go_wp2_with fail
      refine (tag_Is.calls 10 id v s d x false _ (is_no 10 id v s d x hf)).mono ?_
      rintro e w3 ⟨rfl, hB3⟩
      replace HB := Aside0.mk (HB.out.trans (hB3.mono (Nat.le_of_lt HLT.out)))
      go_wp2_with fail
      go_ret
      exact ⟨rfl, HB.out⟩
end Go.Proofs.Ytejgcdecnaaedaa.Tw
