/- With another byte in the place of one ahead of the sum a list's bytes are refused, or the texts ahead of the sum, the one and the other, have one sum: for all that the statement takes in. -/
import Derived.Test.YtbeibmdccjgcmaaDoorQLaws
import Derived.Test.YtbeibmdccjgcmaaDoorPQux74
import Derived.Below
import Derived.Deep.Draws
import Derived.Deep.AppendLies
import Derived.Maps.AppendAt
import Derived.OwnWalk
import Derived.Laws.BytesArg
import Derived.Laws.MakeOwn
import Derived.Laws.OwnMore
import Derived.Deep.OwnRows
import Derived.Tactics
import Derived.Lib.ConvBytes
import Derived.Laws.Slices
import Derived.WalkKit
import Derived.KernelRfl
import Derived.RowKit3
import Derived.Deep.LoopGhost
import Derived.Deep.QuietTactic
import Derived.BigQuiet
import Derived.WideLaws
import Derived.Deep.DeepCutAuto
import Derived.Deep.CutBlock
import Derived.Deep.RegionHeld3
import Derived.Laws.Rows
import Derived.Lib.AppendStr
import Derived.ArgAppend
import Derived.Laws.IdiomCopy
import Derived.OrdersHeld
import Derived.Laws.BitsLemmas
import Derived.RowKit
import Derived.OpenShut
import Derived.Test.YtbeibmdccjgcmaaDoorWInvWords
import Derived.Test.YtbeibmdccjgcmaaDoorWMore
import Derived.Test.YtbeibmdccjgcmaaDoorQPure
import Derived.Test.YtbeibmdccjgcmaaDoorPQux64
namespace Go.Proofs.YtbeibmdccjgcmaaDoor.PQu
open Go.RowKit Go.Lib Go.Proofs.YtbeibmdccjgcmaaDoorW.PrintWords Go.Proofs.YtbeibmdccjgcmaaDoorW.PrintLast Go.Proofs.YtbeibmdccjgcmaaDoorW.PrintMore Go.Proofs.YtbeibmdccjgcmaaDoor.Pb
set_option linter.unusedVariables false
set_option linter.unusedSimpArgs false
set_option maxRecDepth 100000 in
theorem works_at : hamperlaw21_works.f 0 = some true := by decide +kernel
theorem works_f (k : Nat) : hamperlaw21_works.f k = some true := at_rounds hamperlaw21_works.mono (Nat.zero_le k) works_at
end Go.Proofs.YtbeibmdccjgcmaaDoor.PQu
namespace Go.Proofs.YtbeibmdccjgcmaaDoor.PQu
open Go.RowKit Go.Proofs.YtbeibmdccjgcmaaDoorW.PrintWords Go.Proofs.YtbeibmdccjgcmaaDoorW.PrintLast Go.Proofs.YtbeibmdccjgcmaaDoorW.PrintMore Go.Proofs.YtbeibmdccjgcmaaDoor.Pb
set_option linter.unusedVariables false
set_option linter.unusedSimpArgs false
theorem bytes_cell (w : World) (e : TypeId) (t : ByteArray) (K : Nat) (h : K < t.size) : (Lib.bytesWorld w e t).cell? ⟨w.heap.size, K, none⟩ = some (.int .u8 ((bytesOf t).getD K 0)) := by
  rw [Lib.bytesWorld_cell w e t K h]
  have h' : K < t.data.toList.length := by rw [data_length]; exact h
  simp [bytesOf, List.getD_eq_getElem?_getD, List.getElem?_eq_getElem h']
theorem bytes_frozen (w : World) (e : TypeId) (t : ByteArray) (K : Nat) (h : K < t.size) : (Lib.bytesWorld w e t).frozen? ⟨w.heap.size, K, none⟩ = false := by
  have hz : (Lib.bytesCells w e t).size ≥ t.size := by
    simp [Lib.bytesCells]
  simp [World.frozen?, Lib.bytesWorld_at_new]
  omega
theorem bytes_set (w : World) (e : TypeId) (t : ByteArray) (K : Nat) (b : Int) (h : K < t.size) (ht : t.size ≤ 9223372036854775807) : ReadsInt ((Lib.bytesWorld w e t).setCell ⟨w.heap.size, K, none⟩ (.int .u8 b)) .u8 (some ⟨w.heap.size, 0, none⟩) t.size ((bytesOf t).set K b) := by
  refine ⟨by rw [List.length_set, bytesOf_length], ht, fun _ => ⟨_, rfl, fun j hj => ?_⟩⟩
  rw [add_plain]
  have hl : (bytesOf t).length = t.size := bytesOf_length t
  by_cases e : K = j
  · subst e
    rw [World.cell?_setCell_same' _ _ _ (by rw [bytes_cell w _ t K h]; rfl)]
    simp [List.getD_eq_getElem?_getD, hl, h]
  · rw [World.cell?_setCell_other (h := fun z => e (by injection z)), bytes_cell w _ t j hj]
    simp [List.getD_eq_getElem?_getD, List.getElem?_set, e]
theorem byte_of {b : Int} (h : (Lit.int .u8 b).wf = true) : 0 ≤ b ∧ b ≤ 255 := by
  simp [Lit.wf] at h
  exact h
theorem conv_of {w4 W : World} {A : Option Addr} {F : Nat} {G : ByteArray} (h : ReadsInt w4 .u8 A F (bytesOf G)) (k : Below w4.heap.size w4 W) (c : Nat) : (convert 40 9 (.slice A F c)).run Tryd.prog W = .ok (.string G) W := by
  have h2 := string_of_reads (P := Tryd.prog) (c := c) Tryd.underlying40 Tryd.underlying5 Tryd.underlying9 (h.below k)
  rw [str_bytesOf] at h2
  exact h2
theorem cut_at (x : Int) (n : Nat) (hn : 0 < n) (hb : n ≤ 1000000) : IntKind.u64.wrap (n : Int) ≠ 0 ∧ ∃ q : Nat, q < n ∧ wrap64 (Int.tmod (IntKind.u64.wrap x) (IntKind.u64.wrap (n : Int))) = (q : Int) := by
  have h1 : IntKind.u64.wrap (n : Int) = (n : Int) := by
    show (n : Int) % 18446744073709551616 = _
    omega
  have h2 : IntKind.u64.wrap x = x % 18446744073709551616 := rfl
  rw [h1, h2]
  refine ⟨by omega, ?_⟩
  have h3 : (0 : Int) ≤ x % 18446744073709551616 := Int.emod_nonneg _ (by decide)
  generalize x % 18446744073709551616 = y at h3
  rw [Int.tmod_eq_emod_of_nonneg h3]
  have h4 := Int.emod_nonneg y (show (n : Int) ≠ 0 by omega)
  have h5 := Int.emod_lt_of_pos y (show (0 : Int) < (n : Int) by omega)
  exact ⟨(y % (n : Int)).toNat, by omega, by rw [wrap_id (by omega) (by omega)]; omega⟩
/-- A text with another byte at one place. -/
def turnB (s : ByteArray) (q : Nat) (x : Int) : ByteArray := strOfNums ((bytesOf s).set q x)
theorem turnB_bytes (s : ByteArray) (q : Nat) (x : Int) (hx : 0 ≤ x ∧ x ≤ 255) : bytesOf (turnB s q x) = (bytesOf s).set q x := by
  unfold turnB
  refine bytesOf_str ?_
  intro z hz
  rcases List.mem_or_eq_of_mem_set hz with hz | rfl
  · exact isBytes_of s z hz
  · exact hx
theorem turnB_size (s : ByteArray) (q : Nat) (x : Int) : (turnB s q x).size = s.size := by
  unfold turnB
  rw [size_nums, List.length_set, Go.Proofs.YtbeibmdccjgcmaaDoorW.PrintWords.bytesOf_length]
theorem turnB_end (s : ByteArray) (q : Nat) (x : Int) (hx : 0 ≤ x ∧ x ≤ 255) (n : Nat) (h : q < n) : (turnB s q x).extract n s.size = s.extract n s.size := by
  apply bytesOf_inj
  rw [bytesOf_extract, bytesOf_extract, turnB_bytes s q x hx]
  have l1 : (bytesOf s).length = s.size := Go.Proofs.YtbeibmdccjgcmaaDoorW.PrintWords.bytesOf_length s
  rw [List.take_of_length_le (by rw [List.length_set]; omega), List.take_of_length_le (by omega), List.drop_set_of_lt h]
theorem turned_law {l : List MS} {s : ByteArray} (h : makeQ l = (s, 0)) (n q : Nat) (hn : s.size = n + 32) (hq : q < n) (x : Int) (hx : 0 ≤ x ∧ x ≤ 255) :
    readQ (turnB s q x) = ([], 4) ∨ ∃ l', readQ (turnB s q x) = (l', 0) ∧ Bk.blakeSum ((turnB s q x).extract 0 n) = Bk.blakeSum (s.extract 0 n) := by
  rcases readQ_cases (turnB s q x) with e | ⟨l', e, hl'⟩
  · exact .inl e
  · refine .inr ⟨l', e, ?_⟩
    have key : ∀ (l : List MS) (t : ByteArray), makeQ l = (t, 0) → t.size = n + 32 → Bk.blakeSum (t.extract 0 n) = t.extract n t.size := by
      intro l t ht hts
      obtain ⟨_, _, hs, h1, _⟩ := made_parts ht
      have hb : n = (bodyQ l).size := by omega
      rw [hs, hb, ext_app_left, ext_app_right]
    have e1 := key l' _ hl' (by rw [turnB_size]; exact hn)
    have e2 := key l s h hn
    rw [e1, e2, turnB_size, turnB_end s q x hx n hq]
end Go.Proofs.YtbeibmdccjgcmaaDoor.PQu
namespace Go.Proofs.YtbeibmdccjgcmaaDoor.PQu
open Go.RowKit Go.Proofs.YtbeibmdccjgcmaaDoorW.PrintWords Go.Proofs.YtbeibmdccjgcmaaDoorW.PrintLast Go.Proofs.YtbeibmdccjgcmaaDoorW.PrintMore Go.Proofs.YtbeibmdccjgcmaaDoor.Pb
set_option linter.unusedVariables false
set_option linter.unusedSimpArgs false
attribute [local irreducible] Bk.blakeSum makeQ readQ
set_option maxHeartbeats 4000000 in
set_option maxRecDepth 100000 in
theorem QuickTurned_walk (A : Option Addr) (c : Nat) (l : List MS) (x1 y : Int) (w : World) (hr : Kd.C k33 w A l.length l) (hc : l.length ≤ c) (hwl : ∀ p ∈ l, p.f0.size ≤ 140737488351232 ∧ (Lit.int .i64 p.f1).wf = true ∧ (Lit.int .i64 p.f2).wf = true ∧ (Lit.int .i64 p.f3).wf = true ∧ p.f4.size ≤ 140737488351232)
    (_ : (Lit.int .i64 x1).wf = true) (hwy : (Lit.int .u8 y).wf = true) (hT : Me.Tabs w) :
    Calls Tryd.prog 8 #[.slice A l.length c, .int .i64 x1, .int .u8 y] w fun e w' => e = .returned (.bool true) ∧ Below w.heap.size w w' := by
  obtain ⟨lb, hlb, hlf⟩ := large_f l hr.2.1 (fun x hx => (hwl x hx).1) 1000 (Nat.le_refl _)
  have HR := Aside0.mk hr
  have HLC := Aside0.mk hc
  have HT := Aside0.mk hT
  have HLB := Aside0.mk hlb
  have HLF := Aside0.mk hlf
  clear hr hT hlb hlf hwl
  go_enter Tryd.func8, Tryd.ntmps8
  go_wp2_with fail
  refine (hamperlaw21_works.calls 0 true w HT.out (works_f 0)).mono ?_
  rintro e w1 ⟨rfl, hb⟩
  have HB := Aside0.mk hb
  clear hb
  go_wp2_with fail
  refine (hamperlaw21_large.calls 1000 A c l lb _ (Kd.C_below HR.out HB.out) hc HLB.out).mono ?_
  rintro e w2 ⟨rfl, hb⟩
  replace HB := Aside0.mk (HB.out.trans (hb.below.mono HB.out.size))
  clear hb
  cases lb with
  | true =>
    go_wp2_with fail
    refine (hamperlaw21_works.calls 0 true _ (HT.out.below HB.out) (works_f 0)).mono ?_
    rintro e w3 ⟨rfl, hb⟩
    replace HB := Aside0.mk (HB.out.trans (hb.mono HB.out.size))
    clear hb
    go_wp2_with fail
    go_ret
    exact ⟨rfl, HB.out⟩
  | false =>
    have hl5 := (HLF.out rfl).1
    go_wp2_with fail
    obtain ⟨s, er, hmq⟩ : ∃ s er, makeQ l = (s, er) := ⟨_, _, rfl⟩
    have hcall := qmake_calls A c l w2 (HT.out.below HB.out) (Kd.C_below HR.out HB.out) (by omega)
    rw [hmq] at hcall
    refine hcall.mono ?_
    clear hcall
    rintro e w3 ⟨rfl, hb⟩
    replace HB := Aside0.mk (HB.out.trans (hb.mono HB.out.size))
    clear hb
    by_cases he : er = 0
    rotate_left
    · have e1 : (er == 0) = false := beq_eq_false_iff_ne.mpr he
      have e2 : (er != 0) = true := bne_iff_ne.mpr he
      clear hmq
      go_wp2_with fail
      go_ret
      exact ⟨rfl, HB.out⟩
    · subst he
      obtain ⟨hfine, hl64, hs, hsz, hbz⟩ := made_parts hmq
      have hcat := catQ_size l
      obtain ⟨n, hn⟩ : ∃ n, n = (bodyQ l).size := ⟨_, rfl⟩
      rw [← hn] at hsz hbz
      have HMQ := Aside0.mk hmq
      have HFI := Aside0.mk hfine
      have hn5 : 5 ≤ n := by omega
      have hnb : n ≤ 20000 := by omega
      have hsb : s.size ≤ 20032 := by omega
      have hns : n ≤ s.size := by omega
      have hn1 : (s.size : Int) - 32 = (n : Int) := by omega
      have HSZ := Aside0.mk hsz
      clear hmq hfine hs hbz hcat hn hsz
      have hby := byte_of hwy
      obtain ⟨hu, q, hq, hw⟩ := cut_at x1 n (by omega) (by omega)
      have hul : IntKind.u64.wrap (n : Int) = (n : Int) := by show (n : Int) % 18446744073709551616 = _; omega
      rw [hul] at hu hw
      have hlt3 : ((n : Int) = 0) = False := eq_false hu
      have hne0 : (n = 0) = False := eq_false (by omega)
      have hqs : q < s.size := by omega
      clear hu
      have kb := fun W => print_bytes (P := Tryd.prog) 9 40 5 Tryd.underlying9 Tryd.underlying40 Tryd.underlying5 s W
      have hc := bytes_cell w3 5 s q hqs
      have hfz := bytes_frozen w3 5 s q hqs
      have hbb := bytes_below HB.out HB.out.size 5 s
      have HBB := Aside0.mk hbb
      clear hbb
      obtain ⟨T, hTT⟩ : ∃ T, T = turnB s q y := ⟨_, rfl⟩
      have hlaw := turned_law HMQ.out n q HSZ.out hq y hby
      have hTs := turnB_size s q y
      have hTb := turnB_bytes s q y hby
      rw [← hTT] at hlaw hTs hTb
      have hR := bytes_set w3 5 s q y hqs (by omega)
      rw [← hTb] at hR
      have HLAW := Aside0.mk hlaw
      have HTS := Aside0.mk hTs
      have HTT := Aside0.mk hTT
      have kc := fun c => string_of_reads (P := Tryd.prog) (c := c) Tryd.underlying40 Tryd.underlying5 Tryd.underlying9 hR
      rw [str_bytesOf] at kc
      have hB3 : Below w.heap.size w ((Lib.bytesWorld w3 5 s).setCell ⟨w3.heap.size, q, none⟩ (.int .u8 y)) := Below.setCell HBB.out (p := ⟨w3.heap.size, q, none⟩) HB.out.size _
      have HRD := Aside0.mk hR
      have HB3 := Aside0.mk hB3
      have hgc := grownCap_ge w3 s.size 0 5
      have hcap : n ≤ grownCap w3 s.size 0 5 := Nat.le_trans hns hgc
      have HCAP := Aside0.mk hcap
      clear hlaw hTs hTb hTT hR hB3 hgc hcap HBB
      go_wp2_with fail
      generalize (Lib.bytesWorld w3 5 s).setCell ⟨w3.heap.size, q, none⟩ (.int .u8 y) = W3 at *
      clear hc hfz kb kc
      refine (qread_calls T W3 (HT.out.below HB3.out) (by rw [HTS.out]; omega)).mono ?_
      rintro e w4 ⟨v0, rfl, hO, hb⟩
      obtain ⟨Ao, co, eo⟩ := Kd.R_slice hO
      subst eo
      have HO := Aside0.mk (Kd.R_reads' hO)
      have hkc := conv_of HRD.out hb
      have hrd5 := HRD.out.below hb
      have HRD4 := Aside0.mk hrd5
      have HB4 := Aside0.mk (HB3.out.trans (hb.mono HB3.out.size))
      clear hO hb hrd5
      by_cases heq : T = s
      · have hr : readQ T = (l, 0) := by rw [heq]; exact read_make HMQ.out
        have heq2 : (T.toList == s.toList) = true := by rw [heq]; exact beq_self_eq_true _
        rw [hr] at HO ⊢
        clear hr
        go_wp2_with fail
        refine (quick_Same.calls 1000 Ao co l A c l true _ HO.out.2.2 HO.out.2.1 (Kd.C_below HR.out HB4.out) HLC.out ((same_f l l (by omega) 1000 (by omega)).1.trans (by rw [sameQ_self]))).mono ?_
        rintro e w5 ⟨rfl, hd⟩
        have HB5 := Aside0.mk (HB4.out.trans (hd.below.mono HB4.out.size))
        clear hd
        go_wp2_with fail
        go_ret
        exact ⟨rfl, HB5.out⟩
      · have heq2 : (T.toList == s.toList) = false := by rw [tl_beq]; exact decide_eq_false heq
        rcases HLAW.out with hr | ⟨l', hr, hsum⟩
        · rw [hr] at HO ⊢
          clear hr
          go_wp2_with fail
          refine start_ (n := 15) (S := fun w' => True) (ds := []) #[false, false, false, false, false, false, false, false, false, false, false, false, false, false, false] (by kernel_rfl) rfl rfl trivial (fun hHeld => ?_)
          refine pure_ (i := 0) (N := some 60) (v := ?_) (a' := ?_) #[true, false, false, false, false, false, false, false, false, false, false, false, false, false, false] rfl rfl (by kernel_rfl) (fun _ _ _ h => h) (Or.inl ⟨by rfl, ?_⟩) ?_ ?_
          rotate_left
          · intro w'
            go_simp
            with_reducible rfl
          rotate_left
          · simp only [Act.put, List.setIfInBounds_toArray, List.set_cons_zero, List.set_cons_succ, i64_w, i32_w]
            rfl
          refine pure_ (i := 1) (N := some 61) (v := ?_) (a' := ?_) #[true, true, false, false, false, false, false, false, false, false, false, false, false, false, false] rfl rfl (by kernel_rfl) (fun _ _ _ h => h) (Or.inl ⟨by rfl, ?_⟩) ?_ ?_
          rotate_left
          · intro w'
            go_simp
            with_reducible rfl
          rotate_left
          · simp only [Act.put, List.setIfInBounds_toArray, List.set_cons_zero, List.set_cons_succ, i64_w, i32_w]
            rfl
          refine pure_ (i := 2) (N := some 62) (v := ?_) (a' := ?_) #[true, true, true, false, false, false, false, false, false, false, false, false, false, false, false] rfl rfl (by kernel_rfl) (fun _ _ _ h => h) (Or.inl ⟨by rfl, ?_⟩) ?_ ?_
          rotate_left
          · intro w'
            go_simp
            with_reducible rfl
          rotate_left
          · simp only [Act.put, List.setIfInBounds_toArray, List.set_cons_zero, List.set_cons_succ, i64_w, i32_w]
            rfl
          refine pure_ (i := 3) (N := some 63) (v := undef) (a' := ?_) #[true, true, true, true, false, false, false, false, false, false, false, false, false, false, false] rfl rfl (by kernel_rfl) (fun _ _ _ h => h) (Or.inr ⟨by rfl, rfl⟩) ?_ ?_
          rotate_left
          · simp only [Act.put, List.setIfInBounds_toArray, List.set_cons_zero, List.set_cons_succ, i64_w, i32_w]
            rfl
          refine pure_ (i := 4) (N := some 64) (v := undef) (a' := ?_) #[true, true, true, true, true, false, false, false, false, false, false, false, false, false, false] rfl rfl (by kernel_rfl) (fun _ _ _ h => h) (Or.inr ⟨by rfl, rfl⟩) ?_ ?_
          rotate_left
          · simp only [Act.put, List.setIfInBounds_toArray, List.set_cons_zero, List.set_cons_succ, i64_w, i32_w]
            rfl
          refine pure_ (i := 5) (N := some 65) (v := undef) (a' := ?_) #[true, true, true, true, true, true, false, false, false, false, false, false, false, false, false] rfl rfl (by kernel_rfl) (fun _ _ _ h => h) (Or.inr ⟨by rfl, rfl⟩) ?_ ?_
          rotate_left
          · simp only [Act.put, List.setIfInBounds_toArray, List.set_cons_zero, List.set_cons_succ, i64_w, i32_w]
            rfl
          refine pure_ (i := 6) (N := some 66) (v := undef) (a' := ?_) #[true, true, true, true, true, true, true, false, false, false, false, false, false, false, false] rfl rfl (by kernel_rfl) (fun _ _ _ h => h) (Or.inr ⟨by rfl, rfl⟩) ?_ ?_
          rotate_left
          · simp only [Act.put, List.setIfInBounds_toArray, List.set_cons_zero, List.set_cons_succ, i64_w, i32_w]
            rfl
          refine pure_ (i := 7) (N := some 67) (v := undef) (a' := ?_) #[true, true, true, true, true, true, true, true, false, false, false, false, false, false, false] rfl rfl (by kernel_rfl) (fun _ _ _ h => h) (Or.inr ⟨by rfl, rfl⟩) ?_ ?_
          rotate_left
          · simp only [Act.put, List.setIfInBounds_toArray, List.set_cons_zero, List.set_cons_succ, i64_w, i32_w]
            rfl
          refine pure_ (i := 8) (N := some 68) (v := undef) (a' := ?_) #[true, true, true, true, true, true, true, true, true, false, false, false, false, false, false] rfl rfl (by kernel_rfl) (fun _ _ _ h => h) (Or.inr ⟨by rfl, rfl⟩) ?_ ?_
          rotate_left
          · simp only [Act.put, List.setIfInBounds_toArray, List.set_cons_zero, List.set_cons_succ, i64_w, i32_w]
            rfl
          refine pure_ (i := 9) (N := some 69) (v := undef) (a' := ?_) #[true, true, true, true, true, true, true, true, true, true, false, false, false, false, false] rfl rfl (by kernel_rfl) (fun _ _ _ h => h) (Or.inr ⟨by rfl, rfl⟩) ?_ ?_
          rotate_left
          · simp only [Act.put, List.setIfInBounds_toArray, List.set_cons_zero, List.set_cons_succ, i64_w, i32_w]
            rfl
          refine pure_ (i := 10) (N := some 70) (v := undef) (a' := ?_) #[true, true, true, true, true, true, true, true, true, true, true, false, false, false, false] rfl rfl (by kernel_rfl) (fun _ _ _ h => h) (Or.inr ⟨by rfl, rfl⟩) ?_ ?_
          rotate_left
          · simp only [Act.put, List.setIfInBounds_toArray, List.set_cons_zero, List.set_cons_succ, i64_w, i32_w]
            rfl
          refine pure_ (i := 11) (N := some 71) (v := undef) (a' := ?_) #[true, true, true, true, true, true, true, true, true, true, true, true, false, false, false] rfl rfl (by kernel_rfl) (fun _ _ _ h => h) (Or.inr ⟨by rfl, rfl⟩) ?_ ?_
          rotate_left
          · simp only [Act.put, List.setIfInBounds_toArray, List.set_cons_zero, List.set_cons_succ, i64_w, i32_w]
            rfl
          refine pure_ (i := 12) (N := some 72) (v := undef) (a' := ?_) #[true, true, true, true, true, true, true, true, true, true, true, true, true, false, false] rfl rfl (by kernel_rfl) (fun _ _ _ h => h) (Or.inr ⟨by rfl, rfl⟩) ?_ ?_
          rotate_left
          · simp only [Act.put, List.setIfInBounds_toArray, List.set_cons_zero, List.set_cons_succ, i64_w, i32_w]
            rfl
          refine pure_ (i := 13) (N := some 73) (v := ?_) (a' := ?_) #[true, true, true, true, true, true, true, true, true, true, true, true, true, true, false] rfl rfl (by kernel_rfl) (fun _ _ _ h => h) (Or.inl ⟨by rfl, ?_⟩) ?_ ?_
          rotate_left
          · intro w'
            go_simp
            with_reducible rfl
          rotate_left
          · simp only [Act.put, List.setIfInBounds_toArray, List.set_cons_zero, List.set_cons_succ, i64_w, i32_w]
            rfl
          refine pure_ (i := 14) (N := some 6) (v := ?_) (a' := ?_) #[true, true, true, true, true, true, true, true, true, true, true, true, true, true, true] rfl rfl (by kernel_rfl) (fun _ _ _ h => h) (Or.inl ⟨by rfl, ?_⟩) ?_ ?_
          rotate_left
          · intro w'
            go_simp
            with_reducible rfl
          rotate_left
          · simp only [Act.put, List.setIfInBounds_toArray, List.set_cons_zero, List.set_cons_succ, i64_w, i32_w]
            rfl
          refine done_ (by kernel_rfl) ?_
          go_wp2_with fail
          go_ret
          exact ⟨rfl, below_drew1 HB4.out⟩
        · rw [hr] at HO ⊢
          clear hr
          obtain ⟨G, hG⟩ : ∃ G, G = T.extract 0 n := ⟨_, rfl⟩
          have hRd := HRD4.out.take_ n hns
          have hGb : (bytesOf T).take n = bytesOf G := by rw [hG, bytesOf_extract, List.drop_zero]
          rw [hGb] at hRd
          have hGs : G.size ≤ 140737488351232 := by rw [hG, ByteArray.size_extract]; omega
          have hGt : (s.extract 0 n).size ≤ 140737488351232 := by rw [ByteArray.size_extract]; omega
          rw [← hG] at hsum
          have HRd := Aside0.mk hRd
          have HGs := Aside0.mk hGs
          have HGt := Aside0.mk hGt
          have HK := Aside0.mk (Below.refl w4.heap.size w4)
          have hse : ((Bk.blakeSum G).toList == (Bk.blakeSum (s.extract 0 n)).toList) = true := by rw [hsum]; exact beq_self_eq_true _
          have hcap := HCAP.out
          clear hsum hGb hRd hGs hGt hG
          go_wp2_with fail
          refine start_ (n := 15) (S := fun w' => ∀ c, (convert 40 9 (.slice (some ⟨w3.heap.size, 0, none⟩) n c)).run Tryd.prog w' = .ok (.string G) w') (ds := [11]) #[false, false, false, false, false, false, false, false, false, false, false, false, false, false, false] (by kernel_rfl) rfl rfl (fun c => conv_of HRd.out (below_drew1 (Below.refl _ w4)) c) (fun hHeld => ?_)
          refine pure_ (i := 0) (N := some 60) (v := ?_) (a' := ?_) #[true, false, false, false, false, false, false, false, false, false, false, false, false, false, false] rfl rfl (by kernel_rfl) (fun _ _ _ h => h) (Or.inl ⟨by rfl, ?_⟩) ?_ ?_
          rotate_left
          · intro w'
            go_simp
            with_reducible rfl
          rotate_left
          · simp only [Act.put, List.setIfInBounds_toArray, List.set_cons_zero, List.set_cons_succ, i64_w, i32_w]
            rfl
          refine pure_ (i := 1) (N := some 61) (v := ?_) (a' := ?_) #[true, true, false, false, false, false, false, false, false, false, false, false, false, false, false] rfl rfl (by kernel_rfl) (fun _ _ _ h => h) (Or.inl ⟨by rfl, ?_⟩) ?_ ?_
          rotate_left
          · intro w'
            go_simp
            with_reducible rfl
          rotate_left
          · simp only [Act.put, List.setIfInBounds_toArray, List.set_cons_zero, List.set_cons_succ, i64_w, i32_w]
            rfl
          refine pure_ (i := 2) (N := some 62) (v := ?_) (a' := ?_) #[true, true, true, false, false, false, false, false, false, false, false, false, false, false, false] rfl rfl (by kernel_rfl) (fun _ _ _ h => h) (Or.inl ⟨by rfl, ?_⟩) ?_ ?_
          rotate_left
          · intro w'
            go_simp
            with_reducible rfl
          rotate_left
          · simp only [Act.put, List.setIfInBounds_toArray, List.set_cons_zero, List.set_cons_succ, i64_w, i32_w]
            rfl
          refine pure_ (i := 3) (N := some 63) (v := ?_) (a' := ?_) #[true, true, true, true, false, false, false, false, false, false, false, false, false, false, false] rfl rfl (by kernel_rfl) (fun _ _ _ h => h) (Or.inl ⟨by rfl, ?_⟩) ?_ ?_
          rotate_left
          · intro w'
            go_simp
            with_reducible rfl
          rotate_left
          · simp only [Act.put, List.setIfInBounds_toArray, List.set_cons_zero, List.set_cons_succ, i64_w, i32_w]
            rfl
          refine pure_ (i := 4) (N := some 64) (v := ?_) (a' := ?_) #[true, true, true, true, true, false, false, false, false, false, false, false, false, false, false] rfl rfl (by kernel_rfl) (fun _ _ _ h => h) (Or.inl ⟨by rfl, ?_⟩) ?_ ?_
          rotate_left
          · intro w'
            go_simp
            with_reducible rfl
          rotate_left
          · simp only [Act.put, List.setIfInBounds_toArray, List.set_cons_zero, List.set_cons_succ, i64_w, i32_w]
            rfl
          refine pure_ (i := 5) (N := some 65) (v := ?_) (a' := ?_) #[true, true, true, true, true, true, false, false, false, false, false, false, false, false, false] rfl rfl (by kernel_rfl) (fun _ _ _ h => h) (Or.inl ⟨by rfl, ?_⟩) ?_ ?_
          rotate_left
          · intro w'
            go_simp
            with_reducible rfl
          rotate_left
          · simp only [Act.put, List.setIfInBounds_toArray, List.set_cons_zero, List.set_cons_succ, i64_w, i32_w]
            rfl
          refine pure_ (i := 8) (N := some 68) (v := ?_) (a' := ?_) #[true, true, true, true, true, true, false, false, true, false, false, false, false, false, false] rfl rfl (by kernel_rfl) (fun _ _ _ h => h) (Or.inl ⟨by rfl, ?_⟩) ?_ ?_
          rotate_left
          · intro w'
            go_simp
            with_reducible rfl
          rotate_left
          · simp only [Act.put, List.setIfInBounds_toArray, List.set_cons_zero, List.set_cons_succ, i64_w, i32_w]
            rfl
          refine pure_ (i := 9) (N := some 69) (v := ?_) (a' := ?_) #[true, true, true, true, true, true, false, false, true, true, false, false, false, false, false] rfl rfl (by kernel_rfl) (fun _ _ _ h => h) (Or.inl ⟨by rfl, ?_⟩) ?_ ?_
          rotate_left
          · intro w'
            go_simp
            with_reducible rfl
          rotate_left
          · simp only [Act.put, List.setIfInBounds_toArray, List.set_cons_zero, List.set_cons_succ, i64_w, i32_w]
            rfl
          refine pure_ (i := 10) (N := some 70) (v := ?_) (a' := ?_) #[true, true, true, true, true, true, false, false, true, true, true, false, false, false, false] rfl rfl (by kernel_rfl) (fun _ _ _ h => h) (Or.inl ⟨by rfl, ?_⟩) ?_ ?_
          rotate_left
          · intro w'
            go_simp
            with_reducible rfl
          rotate_left
          · simp only [Act.put, List.setIfInBounds_toArray, List.set_cons_zero, List.set_cons_succ, i64_w, i32_w]
            rfl
          refine take_ (i := 6) (N := some 66) (v := ?_) (a' := ?_) #[true, true, true, true, true, true, true, false, true, true, true, false, false, false, false] rfl rfl (by kernel_rfl) (fun _ _ _ h => h) (Or.inl ⟨by rfl, ?_⟩) hHeld ?_ ?_
          rotate_left
          · intro w' s0
            go_simp
            with_reducible rfl
          rotate_left
          · simp only [Act.put, List.setIfInBounds_toArray, List.set_cons_zero, List.set_cons_succ, i64_w, i32_w]
            rfl
          refine one_ (i := 7) (N := some 67) #[true, true, true, true, true, true, true, true, true, true, true, false, false, false, false] rfl rfl (by kernel_rfl) (by decide) (fun K hK => ?_)
          refine goes_ Tryd.func23 (by kernel_rfl) rfl #[.string G] (by rfl) rfl rfl (by simp only [List.map_toArray, List.map_cons, List.map_nil]; rfl) ?_
          with_reducible refine (Bk.blake_sum G HGs.out _).mono ?_
          rintro e w5 ⟨rfl, hb5⟩
          refine ⟨_, rfl, ?_⟩
          have HK5 := Aside0.mk (show Below w4.heap.size w4 w5 from (below_drew1 (Below.refl _ w4)).trans hb5)
          clear hb5
          refine hK.out _ _ (fun c => conv_of HRd.out HK5.out c) (fun hHeld => ?_)
          clear hK K
          refine norm_ (a' := ?_) ?_ ?_
          rotate_left
          · show Act.put _ (some 67) _ = _
            simp only [Act.put, List.setIfInBounds_toArray, List.set_cons_zero, List.set_cons_succ, i64_w, i32_w]
            rfl
          refine last_ (i := 11) (N := some 71) #[true, true, true, true, true, true, true, true, true, true, true, true, false, false, false] rfl rfl (by kernel_rfl) (by decide) (fun K hK => ?_)
          refine goes_ Tryd.func23 (by kernel_rfl) rfl #[.string (s.extract 0 n)] (by rfl) rfl rfl (by simp only [List.map_toArray, List.map_cons, List.map_nil]; rfl) ?_
          with_reducible refine (Bk.blake_sum (s.extract 0 n) HGt.out _).mono ?_
          rintro e w6 ⟨rfl, hb6⟩
          refine ⟨_, rfl, ?_⟩
          have HB6 := Aside0.mk (HB4.out.trans ((below_step HK5.out hb6).mono HB4.out.size))
          clear hb6
          refine hK.out _ _ ?_
          clear hK K
          refine norm_ (a' := ?_) ?_ ?_
          rotate_left
          · show Act.put _ (some 71) _ = _
            simp only [Act.put, List.setIfInBounds_toArray, List.set_cons_zero, List.set_cons_succ, i64_w, i32_w]
            rfl
          refine pure_ (i := 12) (N := some 72) (v := ?_) (a' := ?_) #[true, true, true, true, true, true, true, true, true, true, true, true, true, false, false] rfl rfl (by kernel_rfl) (fun _ _ _ h => h) (Or.inl ⟨by rfl, ?_⟩) ?_ ?_
          rotate_left
          · intro w'
            go_simp
            with_reducible rfl
          rotate_left
          · simp only [Act.put, List.setIfInBounds_toArray, List.set_cons_zero, List.set_cons_succ, i64_w, i32_w]
            rfl
          refine pure_ (i := 13) (N := some 73) (v := ?_) (a' := ?_) #[true, true, true, true, true, true, true, true, true, true, true, true, true, true, false] rfl rfl (by kernel_rfl) (fun _ _ _ h => h) (Or.inl ⟨by rfl, ?_⟩) ?_ ?_
          rotate_left
          · intro w'
            go_simp
            with_reducible rfl
          rotate_left
          · simp only [Act.put, List.setIfInBounds_toArray, List.set_cons_zero, List.set_cons_succ, i64_w, i32_w]
            rfl
          refine pure_ (i := 14) (N := some 6) (v := ?_) (a' := ?_) #[true, true, true, true, true, true, true, true, true, true, true, true, true, true, true] rfl rfl (by kernel_rfl) (fun _ _ _ h => h) (Or.inl ⟨by rfl, ?_⟩) ?_ ?_
          rotate_left
          · intro w'
            go_simp
            with_reducible rfl
          rotate_left
          · simp only [Act.put, List.setIfInBounds_toArray, List.set_cons_zero, List.set_cons_succ, i64_w, i32_w]
            rfl
          refine done_ (by kernel_rfl) ?_
          go_wp2_with fail
          go_ret
          exact ⟨rfl, HB6.out⟩
end Go.Proofs.YtbeibmdccjgcmaaDoor.PQu
