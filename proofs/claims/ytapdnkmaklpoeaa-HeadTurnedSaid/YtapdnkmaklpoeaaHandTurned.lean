import Derived.Test.YtapdnkmaklpoeaaProg
import Derived.Below
import Derived.Deep.Draws
import Derived.Deep.AppendLies
import Derived.Maps.AppendAt
import Derived.OwnWalk
import Derived.Laws.BytesArg
import Derived.Laws.MakeOwn
import Derived.Laws.OwnMore
import Derived.Deep.OwnRows
import Derived.Tactics
import Derived.Lib.ConvBytes
import Derived.Laws.Slices
import Derived.WalkKit
import Derived.KernelRfl
import Derived.RowKit3
import Derived.Deep.LoopGhost
import Derived.Deep.QuietTactic
import Derived.BigQuiet
import Derived.WideLaws
import Derived.Deep.DeepCutAuto
import Derived.Deep.CutBlock
import Derived.Deep.RegionHeld3
import Derived.Test.YtapdnkmaklpoeaaWInvWords
import Derived.Laws.Rows
import Derived.Lib.AppendStr
import Derived.ArgAppend
import Derived.Laws.IdiomCopy
import Derived.OrdersHeld
import Derived.Laws.BitsLemmas
import Derived.RowKit
import Derived.Test.YtapdnkmaklpoeaaWWords
import Derived.Test.YtapdnkmaklpoeaaWLast
import Derived.Test.YtapdnkmaklpoeaaWMore
import Derived.OpenShut
import Derived.Deep.RegionHeld3
import Derived.Test.YtapdnkmaklpoeaaWInvWords
import Derived.Test.YtapdnkmaklpoeaaHeadTurn
import Derived.Test.YtapdnkmaklpoeaaPHeadx1
import Derived.Test.YtapdnkmaklpoeaaPHeadx20
import Derived.Test.YtapdnkmaklpoeaaPHeadx30
import Derived.Test.YtapdnkmaklpoeaaPHeadx33
import Derived.Test.YtapdnkmaklpoeaaPHeadx18
namespace Go.Proofs.Ytapdnkmaklpoeaa.Hw
open Go.RowKit Go.Proofs.YtapdnkmaklpoeaaW.PrintWords Go.Proofs.YtapdnkmaklpoeaaW.PrintLast Go.Proofs.YtapdnkmaklpoeaaW.PrintMore Go.Proofs.Ytapdnkmaklpoeaa.PHead Go.Proofs.Ytapdnkmaklpoeaa.Pb
set_option linter.unusedVariables false
set_option linter.unusedSimpArgs false
attribute [local irreducible] made front Bk.blakeSum sum4
theorem bytes_cell (w : World) (e : TypeId) (t : ByteArray) (K : Nat) (h : K < t.size) : (Lib.bytesWorld w e t).cell? ⟨w.heap.size, K, none⟩ = some (.int .u8 ((bytesOf t).getD K 0)) := by
  rw [Lib.bytesWorld_cell w e t K h]
  have h' : K < t.data.toList.length := by rw [data_length]; exact h
  simp [bytesOf, List.getD_eq_getElem?_getD, List.getElem?_eq_getElem h']
theorem bytes_frozen (w : World) (e : TypeId) (t : ByteArray) (K : Nat) (h : K < t.size) : (Lib.bytesWorld w e t).frozen? ⟨w.heap.size, K, none⟩ = false := by
  have hz : (Lib.bytesCells w e t).size ≥ t.size := by
    simp [Lib.bytesCells]
  simp [World.frozen?, Lib.bytesWorld_at_new]
  omega
theorem bytes_set (w : World) (e : TypeId) (t : ByteArray) (K : Nat) (b : Int) (h : K < t.size) (ht : t.size ≤ 9223372036854775807) : ReadsInt ((Lib.bytesWorld w e t).setCell ⟨w.heap.size, K, none⟩ (.int .u8 b)) .u8 (some ⟨w.heap.size, 0, none⟩) t.size ((bytesOf t).set K b) := by
  refine ⟨by rw [List.length_set, bytesOf_length], ht, fun _ => ⟨_, rfl, fun j hj => ?_⟩⟩
  rw [add_plain]
  have hl : (bytesOf t).length = t.size := bytesOf_length t
  by_cases e : K = j
  · subst e
    rw [World.cell?_setCell_same' _ _ _ (by rw [bytes_cell w _ t K h]; rfl)]
    simp [List.getD_eq_getElem?_getD, hl, h]
  · rw [World.cell?_setCell_other (h := fun z => e (by injection z)), bytes_cell w _ t j hj]
    simp [List.getD_eq_getElem?_getD, List.getElem?_set, e]
theorem byte_of {b : Int} (h : (Lit.int .u8 b).wf = true) : 0 ≤ b ∧ b ≤ 255 := by
  simp [Lit.wf] at h
  exact h
theorem heap_alloc1 (w : World) (o : Obj) : (w.alloc o).heap.size = w.heap.size + 1 := by simp
theorem two_cells {w w1 : World} {a b : Value} {t : TypeId} (h : Below (w.heap.size + 1) (w.alloc (.cells #[a, b] t)) w1) :
    w1.cell? ⟨w.heap.size, 0, none⟩ = some a ∧ w1.cell? ⟨w.heap.size, 1, none⟩ = some b ∧ Below w.heap.size w w1 ∧ w.heap.size < w1.heap.size := by
  have hc : ∀ (j : Nat), w1.cell? ⟨w.heap.size, j, none⟩ = #[a, b][j]? := by
    intro j
    rw [h.cell (Nat.lt_succ_self _)]
    exact blk_cell (blk_new w _) j
  refine ⟨hc 0, hc 1, ((Below.refl _ w).alloc (Nat.le_refl _) _).trans (h.mono (by omega)), ?_⟩
  have := h.size
  simp at this
  omega
/-- All that the walk bears: the box of the header, and what stood ahead. -/
structure Bx (w : World) (kind : Int) (body : ByteArray) (W : World) : Prop where
  below : Below w.heap.size w W
  lt : w.heap.size < W.heap.size
theorem Bx.add {w W W2 : World} {kind : Int} {body : ByteArray} (h : Bx w kind body W) (k : Below W.heap.size W W2) : Bx w kind body W2 :=
  ⟨h.below.trans (k.mono (Nat.le_of_lt h.lt)), Nat.lt_of_lt_of_le h.lt k.size⟩
theorem k_step {B : Nat} {w4 W W2 : World} (h : Below B w4 W) (hB : B ≤ W.heap.size) (k : Below W.heap.size W W2) : Below B w4 W2 := h.trans (k.mono hB)
theorem conv_of {w4 W : World} {A : Option Addr} {F : Nat} {G : ByteArray} (h : ReadsInt w4 .u8 A F (bytesOf G)) (k : Below w4.heap.size w4 W) (c : Nat) : (convert 43 9 (.slice A F c)).run Try.prog W = .ok (.string G) W := by
  have h2 := string_of_reads (P := Try.prog) (c := c) Try.underlying43 Try.underlying5 Try.underlying9 (h.below k)
  rw [str_bytesOf] at h2
  exact h2
attribute [local go_sem high] eqA23
set_option maxHeartbeats 4000000 in
set_option maxRecDepth 100000 in
theorem turned_walk (kind : Int) (body : ByteArray) (x1 y : Int) (w : World) (_ : (Lit.int .u8 kind).wf = true) (_ : body.size ≤ maxLen) (_ : (Lit.int .i64 x1).wf = true) (hwy : (Lit.int .u8 y).wf = true) :
    Calls Try.prog 6 #[.agg #[.int .u8 kind, .string body], .int .i64 x1, .int .u8 y] w fun e w' => e = .returned (.bool true) ∧ Below w.heap.size w w' := by
  by_cases hbig : 500 < body.size
  · have d0 : decide ((500 : Int) < (body.size : Int)) = true := decide_eq_true (by omega)
    go_enter Try.func6, Try.ntmps6
    go_wp2_with fail
    refine (hamperlaw20_awake.calls true _ awake_yes).mono ?_
    rintro e w1 ⟨rfl, hB⟩
    rw [heap_alloc1] at hB
    obtain ⟨_, _, hB1, hlt⟩ := two_cells hB
    have HB := Aside0.mk hB1
    clear hB hB1 hlt
    go_wp2_with fail
    go_ret
    exact ⟨rfl, HB.out⟩
  have d0 : decide ((500 : Int) < (body.size : Int)) = false := decide_eq_false (by omega)
  go_enter Try.func6, Try.ntmps6
  go_wp2_with fail
  refine (hamperlaw20_awake.calls true _ awake_yes).mono ?_
  rintro e w1 ⟨rfl, hB⟩
  rw [heap_alloc1] at hB
  obtain ⟨c0, c1, hB1, hlt⟩ := two_cells hB
  have HX : Aside0 (Bx w kind body w1) := Aside0.mk ⟨hB1, hlt⟩
  clear hB hB1 hlt
  go_wp2_with fail
  by_cases hkind : 1 ≤ kind ∧ kind ≤ 9
  · have hf : Fit kind body := ⟨hkind.1, hkind.2, by omega⟩
    have HF := Aside0.mk hf
    refine (head_Make.calls 21 kind body (made kind body) 0 _ (make_ok 21 (by omega) kind body hf)).mono ?_
    rintro e w2 ⟨rfl, hB2⟩
    replace c0 := (hB2.cell (p := ⟨w.heap.size, 0, none⟩) HX.out.lt).trans c0
    replace c1 := (hB2.cell (p := ⟨w.heap.size, 1, none⟩) HX.out.lt).trans c1
    replace HX := Aside0.mk (HX.out.add hB2)
    clear hB2
    have hms := made_size kind body
    have he9 := Go.Proofs.Ytapdnkmaklpoeaa.Vm.enc_len9 (n := body.size) (by omega)
    have hfe := made_end kind body
    obtain ⟨t, htt⟩ : ∃ t, t = made kind body := ⟨_, rfl⟩
    obtain ⟨F, hFF⟩ : ∃ F, F = (front kind body).size := ⟨_, rfl⟩
    have HT := Aside0.mk (And.intro htt hFF)
    rw [← htt, ← hFF] at hfe
    rw [← htt] at hms ⊢
    have hsz : 5 ≤ t.size ∧ t.size ≤ 514 := by omega
    clear htt hFF hms he9
    obtain ⟨hu, q, hq, hw⟩ := cut_at x1 t.size (by omega) (by omega)
    have hul : IntKind.u64.wrap (t.size : Int) = (t.size : Int) := by show (t.size : Int) % 18446744073709551616 = _; omega
    rw [hul] at hu hw
    have hte : (t = ByteArray.empty) = False := eq_false (fun e => by subst e; exact hu rfl)
    have hlt3 : ((t.size : Int) = 0) = False := eq_false hu
    have HFE := Aside0.mk hfe
    have HSZ := Aside0.mk hsz
    clear hfe hsz hu
    have kb := fun W => print_bytes (P := Try.prog) 9 43 5 Try.underlying9 Try.underlying43 Try.underlying5 t W
    have hc := bytes_cell w2 5 t q hq
    have hfz := bytes_frozen w2 5 t q hq
    have hbb := bytes_below (HX.out.below) (Nat.le_of_lt HX.out.lt) 5 t
    have HBB := Aside0.mk hbb
    clear hbb
    by_cases hne : (bytesOf t).getD q 0 = y
    · have hne' : (bytesOf t)[q]?.getD 0 = y := by rw [← List.getD_eq_getElem?_getD]; exact hne
      go_wp2_with fail
      go_ret
      exact ⟨rfl, HBB.out⟩
    have hby := byte_of hwy
    obtain ⟨T, hTT⟩ : ∃ T, T = strOfNums ((bytesOf t).set q y) := ⟨_, rfl⟩
    have hTb : bytesOf T = (bytesOf t).set q y := by
      rw [hTT]
      refine bytesOf_str ?_
      intro z hz
      rcases List.mem_or_eq_of_mem_set hz with hz | rfl
      · exact isBytes_of t z hz
      · exact hby
    have hTU := HT.out
    have hcases := turned kind body HF.out (by omega) q (by rw [← hTU.1]; exact hq) y hby (by rw [← hTU.1]; exact hne) T (by rw [← hTU.1]; exact hTb)
    have HC := Aside0.mk hcases
    clear hcases hTU hTb
    have hne' : (bytesOf t)[q]?.getD 0 ≠ y := by rw [← List.getD_eq_getElem?_getD]; exact hne
    have hnb : (⟨w2.heap.size, q, none⟩ : Addr).block ≠ w.heap.size := by show w2.heap.size ≠ _; have := HX.out.lt; omega
    have hold : ∀ j, ((Lib.bytesWorld w2 5 t).setCell ⟨w2.heap.size, q, none⟩ (.int .u8 y)).cell? ⟨w.heap.size, j, none⟩ = w2.cell? ⟨w.heap.size, j, none⟩ := fun j => (World.cell?_setCell_far _ _ _ _ hnb).trans (Lib.bytesWorld_old _ _ _ _ HX.out.lt)
    replace c0 := (hold 0).trans c0
    replace c1 := (hold 1).trans c1
    have hR := bytes_set w2 5 t q y hq (by have := HSZ.out; omega)
    have kc := fun c => string_of_reads (P := Try.prog) (c := c) Try.underlying43 Try.underlying5 Try.underlying9 hR
    rw [← hTT] at kc
    have hB3 : Below w.heap.size w ((Lib.bytesWorld w2 5 t).setCell ⟨w2.heap.size, q, none⟩ (.int .u8 y)) := Below.setCell HBB.out (p := ⟨w2.heap.size, q, none⟩) (Nat.le_of_lt HX.out.lt) _
    have hS3 : w2.heap.size < ((Lib.bytesWorld w2 5 t).setCell ⟨w2.heap.size, q, none⟩ (.int .u8 y)).heap.size := by
      have h1 := (Below.setCell (Below.refl 0 (Lib.bytesWorld w2 5 t)) (p := ⟨w2.heap.size, q, none⟩) (Nat.zero_le _) (.int .u8 y)).size
      rw [Lib.bytesWorld_size] at h1
      omega
    have HR := Aside0.mk hR
    have HX3 : Aside0 (Bx w kind body ((Lib.bytesWorld w2 5 t).setCell ⟨w2.heap.size, q, none⟩ (.int .u8 y))) := Aside0.mk ⟨hB3, Nat.lt_trans HX.out.lt hS3⟩
    have HS3 := Aside0.mk hS3
    have HTT := Aside0.mk hTT
    clear hold hR hB3 hS3 hTT hby hnb
    go_wp2_with fail
    generalize (Lib.bytesWorld w2 5 t).setCell ⟨w2.heap.size, q, none⟩ (.int .u8 y) = W3 at *
    clear hc hfz kb kc
    rcases HC.out with hno | ⟨kind', body', rest, hf', hTm, hqF, hdif, hor⟩
    · refine (head_Get.calls 20 T 0 ⟨#[]⟩ 0 4 _ (hno 20 (by omega))).mono ?_
      rintro e w4 ⟨rfl, hB4⟩
      replace HX := Aside0.mk (HX3.out.add hB4)
      clear hB4 hno
      go_wp2_with fail
      go_ret
      exact ⟨rfl, HX.out.below.alloc (Nat.le_of_lt HX.out.lt) _⟩
    · have hTU := HT.out
      have hsT : T.size = t.size := by rw [HTT.out, size_nums, List.length_set, bytesOf_length]
      have h514 := HSZ.out
      have hfe := HFE.out
      obtain ⟨U, hU⟩ : ∃ U, U = (made kind' body').size := ⟨_, rfl⟩
      have hg := get_made 20 (by omega) kind' body' rest hf' (by rw [← hTm]; omega)
      rw [← hTm, ← hU] at hg
      refine (head_Get.calls 20 T kind' body' U 0 _ hg).mono ?_
      rintro e w4 ⟨rfl, hB4⟩
      replace c0 := (hB4.cell (p := ⟨w.heap.size, 0, none⟩) HX3.out.lt).trans c0
      replace c1 := (hB4.cell (p := ⟨w.heap.size, 1, none⟩) HX3.out.lt).trans c1
      replace HX := Aside0.mk (HX3.out.add hB4)
      have c0a : ∀ O, (w4.alloc O).cell? ⟨w.heap.size, 0, none⟩ = _ := fun O => (((Below.refl w4.heap.size w4).alloc (Nat.le_refl _) O).cell (p := ⟨w.heap.size, 0, none⟩) HX.out.lt).trans c0
      have c1a : ∀ O, (w4.alloc O).cell? ⟨w.heap.size, 1, none⟩ = _ := fun O => (((Below.refl w4.heap.size w4).alloc (Nat.le_refl _) O).cell (p := ⟨w.heap.size, 1, none⟩) HX.out.lt).trans c1
      have HR4 := Aside0.mk (HR.out.below hB4)
      have hw2 := Aside0.mk (Nat.lt_of_lt_of_le HS3.out hB4.size)
      clear hB4 hg
      rw [← hTU.2] at hqF hor
      rw [← hTU.1, ← hU] at hor
      have hE : wrap64 ((t.size : Int) - 4) = (F : Int) := by rw [hfe, wrap_id (by omega) (by omega)]; omega
      have hnF : ¬ F ≤ q := by omega
      have dX : (kind' == kind && (body'.toList == body.toList)) = false := by
        rw [tl_beq]
        by_cases e1 : kind' = kind
        · have e2 : ¬ body' = body := fun e2 => hdif ⟨e1, e2⟩
          rw [decide_eq_false e2, Bool.and_false]
        · rw [beq_false_of_ne e1, Bool.false_and]
      have HDD := Aside0.mk hdif
      have HQF := Aside0.mk hqF
      have HTM := Aside0.mk hTm
      have HF2 := Aside0.mk hf'
      by_cases hl : U < t.size
      · clear hor hdif hsT h514 hfe hTU hTm hf' hU
        go_wp2_with fail
        go_ret
        exact ⟨rfl, HX.out.below.alloc (Nat.le_of_lt HX.out.lt) _⟩
      · obtain ⟨hor1, hor2⟩ := hor.resolve_left hl
        have hFt : F ≤ t.size := by omega
        have hGs : (front kind' body').size = F := by rw [← hor1, size_ext _ _ _ (by omega)]; omega
        have hRd := HR4.out.take_ F hFt
        have hns : ((bytesOf t).set q y).take F = bytesOf (front kind' body') := by
          have h1 : bytesOf T = (bytesOf t).set q y := by
            rw [HTT.out]
            refine bytesOf_str ?_
            intro z hz
            rcases List.mem_or_eq_of_mem_set hz with hz | rfl
            · exact isBytes_of t z hz
            · exact byte_of hwy
          rw [← h1, hTm, bytesOf_append, made_bytes, List.append_assoc, List.take_left']
          rw [bytesOf_length, hGs]
        rw [hns] at hRd
        have hx2 : t.extract 0 F = front kind body := by
          rw [hTU.1, hTU.2]
          unfold made
          exact ext_app_left _ _
        obtain ⟨G, hG⟩ : ∃ G, G = front kind' body' := ⟨_, rfl⟩
        rw [← hG] at hRd hGs hor2
        obtain ⟨p1, hp1⟩ : ∃ p1, p1 = Bk.blakeSum G := ⟨_, rfl⟩
        obtain ⟨p2, hp2⟩ : ∃ p2, p2 = Bk.blakeSum (t.extract 0 F) := ⟨_, rfl⟩
        have hsame : p1.extract 0 4 = p2.extract 0 4 := by rw [hp1, hp2, hx2]; unfold sum4 at hor2; exact hor2
        have hz1 : p1.size = 32 := by rw [hp1, Bk.blakeSum_size]
        have hz2 : p2.size = 32 := by rw [hp2, Bk.blakeSum_size]
        have hzx : (t.extract 0 F).size = F := by rw [size_ext _ _ _ (by omega)]; omega
        have SA := Aside0.mk (fun W => blake_Sum.calls G p1 W (by rw [hp1]; exact sum_f _ (by omega)))
        have SB := Aside0.mk (fun W => blake_Sum.calls (t.extract 0 F) p2 W (by rw [hp2]; exact sum_f _ (by omega)))
        have hcap : F ≤ grownCap w2 t.size 0 5 := Nat.le_trans hFt (grownCap_ge _ _ _ _)
        have HRd := Aside0.mk hRd
        have HGs := Aside0.mk hGs
        have HK := Aside0.mk ((Below.refl w4.heap.size w4).alloc (Nat.le_refl _) (.cells #[.int .u8 kind', .string body'] 23))
        have hkc := conv_of HRd.out HK.out
        clear hor hor1 hor2 hdif hsT h514 hfe hTU hTm hf' hU hns hx2 hG hp1 hp2 hRd hGs
        go_wp2_with fail
        go_region_held3 (fun W' => ∀ c, (convert 43 9 (.slice (some ⟨w2.heap.size, 0, none⟩) F c)).run Try.prog W' = .ok (.string G) W') (first | assumption | exact conv_of HRd.out ⟨HK.out.os, HK.out.tape, HK.out.output, HK.out.size, HK.out.block⟩) (first | (go_at_call 18; (first | refine (SA.out _).mono ?_ | refine (SB.out _).mono ?_); rintro e w5 ⟨rfl, hB5⟩; have HK := Aside0.mk (k_step HK.out HK.out.size ⟨hB5.os, hB5.tape, hB5.output, hB5.size, hB5.block⟩); have k0 := conv_of HRd.out HK.out; clear hB5))
        all_goals (go_wp2_with fail; go_ret; exact ⟨by first | rfl | simp [*], k_step HX.out.below (Nat.le_of_lt HX.out.lt) HK.out⟩)
  · refine (head_Make.calls 1 kind body ⟨#[]⟩ 1 _ (make_kind 0 kind body hkind)).mono ?_
    rintro e w2 ⟨rfl, hB2⟩
    replace HX := Aside0.mk (HX.out.add hB2)
    clear hB2
    go_wp2_with fail
    go_ret
    exact ⟨rfl, HX.out.below⟩
end Go.Proofs.Ytapdnkmaklpoeaa.Hw
