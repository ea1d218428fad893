/- The stage's theorem in plain words. -/
import Derived.Test.YtbeibmdccjgcmaaDoorQLaws
import Derived.Test.YtbeibmdccjgcmaaDoorQuickBackR0
import Derived.Below
import Derived.Deep.Draws
import Derived.Deep.AppendLies
import Derived.Maps.AppendAt
import Derived.OwnWalk
import Derived.Laws.BytesArg
import Derived.Laws.MakeOwn
import Derived.Laws.OwnMore
import Derived.Deep.OwnRows
import Derived.Tactics
import Derived.Lib.ConvBytes
import Derived.Laws.Slices
import Derived.WalkKit
import Derived.KernelRfl
import Derived.RowKit3
import Derived.Deep.LoopGhost
import Derived.Deep.QuietTactic
import Derived.BigQuiet
import Derived.WideLaws
import Derived.Deep.DeepCutAuto
import Derived.Deep.CutBlock
import Derived.Deep.RegionHeld3
import Derived.Laws.Rows
import Derived.Lib.AppendStr
import Derived.ArgAppend
import Derived.Laws.IdiomCopy
import Derived.OrdersHeld
import Derived.Laws.BitsLemmas
import Derived.RowKit
import Derived.OpenShut
import Derived.Test.YtbeibmdccjgcmaaDoorWInvWords
import Derived.Test.YtbeibmdccjgcmaaDoorWMore
import Derived.Test.YtbeibmdccjgcmaaDoorQPure
import Derived.Test.YtbeibmdccjgcmaaDoorPQux64
import Derived.Test.YtbeibmdccjgcmaaDoorQBase
-- Made by a program of this session (wip/tools/trueonly.py, trueflat.py) out of the seat's translation.
namespace Go.Proofs.YtbeibmdccjgcmaaDoor.PQu
open Go.RowKit Go.Lib Go.Proofs.YtbeibmdccjgcmaaDoorW.PrintWords Go.Proofs.YtbeibmdccjgcmaaDoorW.PrintLast Go.Proofs.YtbeibmdccjgcmaaDoorW.PrintMore Go.Proofs.YtbeibmdccjgcmaaDoor.Pb
set_option linter.unusedVariables false
set_option linter.unusedSimpArgs false
set_option maxRecDepth 100000 in
theorem works_at : hamperlaw21_works.f 0 = some true := by decide +kernel
theorem works_f (k : Nat) : hamperlaw21_works.f k = some true := at_rounds hamperlaw21_works.mono (Nat.zero_le k) works_at
end Go.Proofs.YtbeibmdccjgcmaaDoor.PQu
namespace Go.Proofs.YtbeibmdccjgcmaaDoor.PQu
open Go.RowKit Go.Proofs.YtbeibmdccjgcmaaDoorW.PrintWords Go.Proofs.YtbeibmdccjgcmaaDoorW.PrintLast Go.Proofs.YtbeibmdccjgcmaaDoorW.PrintMore Go.Proofs.YtbeibmdccjgcmaaDoor.Pb
set_option linter.unusedVariables false
set_option linter.unusedSimpArgs false
theorem bytes_cell (w : World) (e : TypeId) (t : ByteArray) (K : Nat) (h : K < t.size) : (Lib.bytesWorld w e t).cell? ⟨w.heap.size, K, none⟩ = some (.int .u8 ((bytesOf t).getD K 0)) := by
  rw [Lib.bytesWorld_cell w e t K h]
  have h' : K < t.data.toList.length := by rw [data_length]; exact h
  simp [bytesOf, List.getD_eq_getElem?_getD, List.getElem?_eq_getElem h']
theorem bytes_frozen (w : World) (e : TypeId) (t : ByteArray) (K : Nat) (h : K < t.size) : (Lib.bytesWorld w e t).frozen? ⟨w.heap.size, K, none⟩ = false := by
  have hz : (Lib.bytesCells w e t).size ≥ t.size := by
    simp [Lib.bytesCells]
  simp [World.frozen?, Lib.bytesWorld_at_new]
  omega
theorem bytes_set (w : World) (e : TypeId) (t : ByteArray) (K : Nat) (b : Int) (h : K < t.size) (ht : t.size ≤ 9223372036854775807) : ReadsInt ((Lib.bytesWorld w e t).setCell ⟨w.heap.size, K, none⟩ (.int .u8 b)) .u8 (some ⟨w.heap.size, 0, none⟩) t.size ((bytesOf t).set K b) := by
  refine ⟨by rw [List.length_set, bytesOf_length], ht, fun _ => ⟨_, rfl, fun j hj => ?_⟩⟩
  rw [add_plain]
  have hl : (bytesOf t).length = t.size := bytesOf_length t
  by_cases e : K = j
  · subst e
    rw [World.cell?_setCell_same' _ _ _ (by rw [bytes_cell w _ t K h]; rfl)]
    simp [List.getD_eq_getElem?_getD, hl, h]
  · rw [World.cell?_setCell_other (h := fun z => e (by injection z)), bytes_cell w _ t j hj]
    simp [List.getD_eq_getElem?_getD, List.getElem?_set, e]
theorem byte_of {b : Int} (h : (Lit.int .u8 b).wf = true) : 0 ≤ b ∧ b ≤ 255 := by
  simp [Lit.wf] at h
  exact h
theorem cut_at (x : Int) (n : Nat) (hn : 0 < n) (hb : n ≤ 1000000) : IntKind.u64.wrap (n : Int) ≠ 0 ∧ ∃ q : Nat, q < n ∧ wrap64 (Int.tmod (IntKind.u64.wrap x) (IntKind.u64.wrap (n : Int))) = (q : Int) := by
  have h1 : IntKind.u64.wrap (n : Int) = (n : Int) := by
    show (n : Int) % 18446744073709551616 = _
    omega
  have h2 : IntKind.u64.wrap x = x % 18446744073709551616 := rfl
  rw [h1, h2]
  refine ⟨by omega, ?_⟩
  have h3 : (0 : Int) ≤ x % 18446744073709551616 := Int.emod_nonneg _ (by decide)
  generalize x % 18446744073709551616 = y at h3
  rw [Int.tmod_eq_emod_of_nonneg h3]
  have h4 := Int.emod_nonneg y (show (n : Int) ≠ 0 by omega)
  have h5 := Int.emod_lt_of_pos y (show (0 : Int) < (n : Int) by omega)
  exact ⟨(y % (n : Int)).toNat, by omega, by rw [wrap_id (by omega) (by omega)]; omega⟩
/-- A text with another byte at one place. -/
def turnB (s : ByteArray) (q : Nat) (x : Int) : ByteArray := strOfNums ((bytesOf s).set q x)
theorem turnB_bytes (s : ByteArray) (q : Nat) (x : Int) (hx : 0 ≤ x ∧ x ≤ 255) : bytesOf (turnB s q x) = (bytesOf s).set q x := by
  unfold turnB
  refine bytesOf_str ?_
  intro z hz
  rcases List.mem_or_eq_of_mem_set hz with hz | rfl
  · exact isBytes_of s z hz
  · exact hx
theorem turnB_front (s : ByteArray) (q : Nat) (x : Int) (hx : 0 ≤ x ∧ x ≤ 255) (n : Nat) (h : n ≤ q) : (turnB s q x).extract 0 n = s.extract 0 n := by
  apply bytesOf_inj
  rw [bytesOf_extract, bytesOf_extract, turnB_bytes s q x hx, List.take_set_of_le h]
theorem turnB_same (s : ByteArray) (q : Nat) (x : Int) (hq : q < s.size) (hx : 0 ≤ x ∧ x ≤ 255) : turnB s q x = s ↔ (bytesOf s).getD q 0 = x := by
  have l1 : (bytesOf s).length = s.size := Go.Proofs.YtbeibmdccjgcmaaDoorW.PrintWords.bytesOf_length s
  constructor
  · intro h
    have e := congrArg Go.Proofs.YtbeibmdccjgcmaaDoorW.PrintWords.bytesOf h
    rw [turnB_bytes s q x hx] at e
    have e2 := congrArg (fun l => l.getD q 0) e
    simp only [List.getD_eq_getElem?_getD, List.getElem?_set_self (by omega : q < (bytesOf s).length), Option.getD_some] at e2
    rw [List.getD_eq_getElem?_getD, ← e2]
  · intro h
    apply bytesOf_inj
    rw [turnB_bytes s q x hx]
    apply List.ext_getElem?
    intro j
    by_cases e : q = j
    · subst e
      rw [List.getElem?_set_self (by omega), List.getElem?_eq_getElem (by omega)]
      rw [List.getD_eq_getElem?_getD, List.getElem?_eq_getElem (by omega)] at h
      exact congrArg some h.symm
    · rw [List.getElem?_set_ne e]
end Go.Proofs.YtbeibmdccjgcmaaDoor.PQu
namespace Go.Proofs.YtbeibmdccjgcmaaDoor.PQu
open Go.RowKit Go.Proofs.YtbeibmdccjgcmaaDoorW.PrintWords Go.Proofs.YtbeibmdccjgcmaaDoorW.PrintLast Go.Proofs.YtbeibmdccjgcmaaDoorW.PrintMore
attribute [local go_sem] max2_int min2_int max_two min_two max_three min_three max_four min_four   -- for this text's walks alone
set_option linter.unusedVariables false
set_option linter.unusedSimpArgs false
set_option linter.defProp false
namespace hamperlaw21_QuickBack
def lb (n m : Nat) : Array Bool := ((List.range n).map m.testBit).toArray
def sa.{u} := @List.setIfInBounds_toArray.{u}
def sb.{u} := @List.set_cons_zero.{u}
def sc.{u} := @List.set_cons_succ.{u}
def pu := @pure_
def ao := @any_of
theorem am {p : Prop} (h : p) : Aside0 p := Aside0.mk h
end hamperlaw21_QuickBack
open hamperlaw21_QuickBack
set_option maxHeartbeats 40000000 in
set_option maxRecDepth 100000 in
theorem hamperlaw21_QuickBack.calls (k : Nat) (A0 : Option Addr) (c0 : Nat) (l0 : List (S33)) (a1 : ByteArray) (a2 : Int) (a3 : Int) (r : Bool) (w : World) (hTabs : Me.Tabs w) (hr0 : Kd.C k33 w A0 l0.length l0) (hc0 : l0.length ≤ c0) (h : hamperlaw21_QuickBack.f k l0 a1 a2 a3 = some r) (hr_ : r = true) :
    Calls Tryd.prog 7 #[.slice A0 l0.length c0, .string a1, .int .i64 a2, .int .u8 a3] w fun e w' => e = .returned (.bool r) ∧ Below w.heap.size w w' := by
 have hu33 := Tryd.underlying33
 have HR0 := am hr0
 have HC0 := am hc0
 clear hr0 hc0
 have HB := am (Below.refl w.heap.size w)
 have HTB := am hTabs
 clear hTabs
 have H : ((hamperlaw21_works.f k).bind fun t271 => (if t271 = true then ((hamperlaw21_large.f k l0).bind fun t272 => (if t272 = true then (j0 k l0 a1 a2 a3 true) else (j0 k l0 a1 a2 a3 (decide ((a1.size : Int) > 20000))))) else (j0 k l0 a1 a2 a3 true))) = some r := h
 clear h
 have HC5 := am H
 clear H
 go_enter Tryd.func7, Tryd.ntmps7
 go_upto_region 1 with (fail)
 go_cut [39] (fun v39 wc => ∃ (kq : Nat) (x39_4 : Bool), v39 = .bool x39_4 ∧ Aside0 (j0 kq l0 a1 a2 a3 x39_4 = some r) ∧ Aside0 (kq ≤ k) ∧ Aside0 (Below w.heap.size w wc))
 case first =>
  have H := HC5.out
  clear HC5
  replace H := Option.bind_eq_some_iff.mp H
  obtain ⟨t271, A60, H⟩ := H
  replace H : (if t271 = true then ((hamperlaw21_large.f k l0).bind fun t272 => (if t272 = true then (j0 k l0 a1 a2 a3 true) else (j0 k l0 a1 a2 a3 (decide ((a1.size : Int) > 20000))))) else (j0 k l0 a1 a2 a3 true)) = some r := H
  have A6 := am A60
  clear A60
  by_cases c7 : t271 = true
  ·
   subst c7
   have H1 : ((hamperlaw21_large.f k l0).bind fun t272 => (if t272 = true then (j0 k l0 a1 a2 a3 true) else (j0 k l0 a1 a2 a3 (decide ((a1.size : Int) > 20000))))) = some r := by rw [if_pos rfl] at H; exact H
   clear H
   have H := H1
   clear H1
   replace H := Option.bind_eq_some_iff.mp H
   obtain ⟨t272, A80, H⟩ := H
   replace H : (if t272 = true then (j0 k l0 a1 a2 a3 true) else (j0 k l0 a1 a2 a3 (decide ((a1.size : Int) > 20000)))) = some r := H
   have A8 := am A80
   clear A80
   by_cases c9 : t272 = true
   ·
    subst c9
    have H1 : (j0 k l0 a1 a2 a3 true) = some r := by rw [if_pos rfl] at H; exact H
    clear H
    have H := H1
    clear H1
    have H' := am H
    clear H
    go_wp2_with (first | ((with_reducible refine gate_callee (f := 19) rfl ?_); refine goesL_ (some 29) rfl rfl Tryd.func19 (by kernel_rfl) rfl #[] rfl (by (try simp only [List.map_toArray, List.map_cons, List.map_nil]); first | done | rfl | (simp only [List.length_drop, List.length_take]; rfl)) ?_; (with_reducible refine (hamperlaw21_works.calls (hTabs := HTB.out.below (by repeat (first | (with_reducible first | exact HB.out | apply below_alloc | apply pw_below_drewN | apply below_drew1) | exact HB.out))) k  true _ A6.out).mono ?_); rintro e w10 ⟨rfl, hb⟩; refine ⟨_, rfl, ?_⟩; have n0_ := am (below_step (by repeat (first | (with_reducible first | exact HB.out | apply below_alloc | apply pw_below_drewN | apply below_drew1) | exact HB.out)) hb); clear HB; have HB := n0_; clear n0_; (try clear hb); (try clear hb2); (try clear hk); (try clear hi)) | (go_at_call 9; (with_reducible refine (hamperlaw21_large.calls k _ _ l0 true _ ?side1 ?side2 A8.out).mono ?_); (case side1 => repeat (first | exact (Kd.C_below HR0.out HB.out) | (with_reducible refine Kd.C_alloc ?_ _) | (with_reducible refine Kd.C_drewN ?_ _) | (with_reducible refine Kd.C_drew ?_))); (case side2 => exact HC0.out); rintro e w' ⟨rfl, ⟨nd, rfl⟩⟩))
    go_meet
    case rel => exact ⟨_, (true), (by first | rfl | (simp; done) | (simp [*]; done)), H', ⟨by first | omega | exact Nat.le_refl _⟩, ⟨by repeat (first | (with_reducible first | exact HB.out | apply below_alloc | apply pw_below_drewN | apply below_drew1) | exact HB.out)⟩⟩
   ·
    replace c9 := Bool.eq_false_iff.mpr c9
    subst c9
    have H1 : (j0 k l0 a1 a2 a3 (decide ((a1.size : Int) > 20000))) = some r := by rw [if_neg (show ¬ (false = true) by decide)] at H; exact H
    clear H
    have H := H1
    clear H1
    have H' := am H
    clear H
    go_wp2_with (first | ((with_reducible refine gate_callee (f := 19) rfl ?_); refine goesL_ (some 29) rfl rfl Tryd.func19 (by kernel_rfl) rfl #[] rfl (by (try simp only [List.map_toArray, List.map_cons, List.map_nil]); first | done | rfl | (simp only [List.length_drop, List.length_take]; rfl)) ?_; (with_reducible refine (hamperlaw21_works.calls (hTabs := HTB.out.below (by repeat (first | (with_reducible first | exact HB.out | apply below_alloc | apply pw_below_drewN | apply below_drew1) | exact HB.out))) k  true _ A6.out).mono ?_); rintro e w11 ⟨rfl, hb⟩; refine ⟨_, rfl, ?_⟩; have n0_ := am (below_step (by repeat (first | (with_reducible first | exact HB.out | apply below_alloc | apply pw_below_drewN | apply below_drew1) | exact HB.out)) hb); clear HB; have HB := n0_; clear n0_; (try clear hb); (try clear hb2); (try clear hk); (try clear hi)) | (go_at_call 9; (with_reducible refine (hamperlaw21_large.calls k _ _ l0 false _ ?side1 ?side2 A8.out).mono ?_); (case side1 => repeat (first | exact (Kd.C_below HR0.out HB.out) | (with_reducible refine Kd.C_alloc ?_ _) | (with_reducible refine Kd.C_drewN ?_ _) | (with_reducible refine Kd.C_drew ?_))); (case side2 => exact HC0.out); rintro e w' ⟨rfl, ⟨nd, rfl⟩⟩))
    go_meet
    case rel => exact ⟨_, (decide ((a1.size : Int) > 20000)), (by first | rfl | (simp; done) | (simp [*]; done)), H', ⟨by first | omega | exact Nat.le_refl _⟩, ⟨by repeat (first | (with_reducible first | exact HB.out | apply below_alloc | apply pw_below_drewN | apply below_drew1) | exact HB.out)⟩⟩
  ·
   replace c7 := Bool.eq_false_iff.mpr c7
   subst c7
   have H1 : (j0 k l0 a1 a2 a3 true) = some r := by rw [if_neg (show ¬ (false = true) by decide)] at H; exact H
   clear H
   have H := H1
   clear H1
   have H' := am H
   clear H
   go_wp2_with (first | ((with_reducible refine gate_callee (f := 19) rfl ?_); refine goesL_ (some 29) rfl rfl Tryd.func19 (by kernel_rfl) rfl #[] rfl (by (try simp only [List.map_toArray, List.map_cons, List.map_nil]); first | done | rfl | (simp only [List.length_drop, List.length_take]; rfl)) ?_; (with_reducible refine (hamperlaw21_works.calls (hTabs := HTB.out.below (by repeat (first | (with_reducible first | exact HB.out | apply below_alloc | apply pw_below_drewN | apply below_drew1) | exact HB.out))) k  false _ A6.out).mono ?_); rintro e w12 ⟨rfl, hb⟩; refine ⟨_, rfl, ?_⟩; have n0_ := am (below_step (by repeat (first | (with_reducible first | exact HB.out | apply below_alloc | apply pw_below_drewN | apply below_drew1) | exact HB.out)) hb); clear HB; have HB := n0_; clear n0_; (try clear hb); (try clear hb2); (try clear hk); (try clear hi)))
   go_meet
   case rel => exact ⟨_, (true), (by first | rfl | (simp; done) | (simp [*]; done)), H', ⟨by first | omega | exact Nat.le_refl _⟩, ⟨by repeat (first | (with_reducible first | exact HB.out | apply below_alloc | apply pw_below_drewN | apply below_drew1) | exact HB.out)⟩⟩
 case rest =>
  clear HC5
  try clear c1
  try clear p2
  try clear c7
  try clear c9
  obtain ⟨kq, x39_4, rfl, HA, HJ4, HB⟩ := hcut
  cases kq with
  | zero => exact absurd HA.out (by simp [j0])
  | succ kj4 =>
   have H := HA.out
   clear HA
   simp only [j0] at H
   by_cases c13 : x39_4 = true
   ·
    subst c13
    have H1 : ((hamperlaw21_works.f kj4).bind fun t273 => (some t273)) = some r := by rw [if_pos rfl] at H; exact H
    clear H
    have H := H1
    clear H1
    replace H := Option.bind_eq_some_iff.mp H
    obtain ⟨t273, A140, H⟩ := H
    replace H : (some t273) = some r := H
    have A14 := am A140
    clear A140
    obtain rfl := Option.some.inj H
    go_wp2_with (first | ((with_reducible refine gate_callee (f := 19) rfl ?_); refine goesL_ (some 40) rfl rfl Tryd.func19 (by kernel_rfl) rfl #[] rfl (by (try simp only [List.map_toArray, List.map_cons, List.map_nil]); first | done | rfl | (simp only [List.length_drop, List.length_take]; rfl)) ?_; (with_reducible refine (hamperlaw21_works.calls (hTabs := HTB.out.below (by repeat (first | (with_reducible first | exact HB.out | apply below_alloc | apply pw_below_drewN | apply below_drew1) | exact HB.out))) kj4  t273 _ A14.out).mono ?_); rintro e w15 ⟨rfl, hb⟩; refine ⟨_, rfl, ?_⟩; have n0_ := am (below_step (by repeat (first | (with_reducible first | exact HB.out | apply below_alloc | apply pw_below_drewN | apply below_drew1) | exact HB.out)) hb); clear HB; have HB := n0_; clear n0_; (try clear hb); (try clear hb2); (try clear hk); (try clear hi)))
    go_ret
    exact ⟨by first | rfl | (simp [errW_none, errW_some] <;> rfl) | (simp [*, errW_none, errW_some] <;> rfl), by repeat (first | (with_reducible first | exact HB.out | apply below_alloc | apply pw_below_drewN | apply below_drew1) | exact HB.out)⟩
   ·
    replace c13 := Bool.eq_false_iff.mpr c13
    subst c13
    have H1 : ((quick_Read.f kj4 a1).bind fun bt274 => (if bt274.2 = 0 then ((quick_Make.f kj4 bt274.1).bind fun bt278 => (if bt278.2 = 0 then (if bt278.1.toList = a1.toList then ((quick_May.f kj4 bt274.1).bind fun t280 => (if t280 = true then (j1 kj4 l0 a2 a3) else (some false))) else (some false)) else (some false))) else (j1 kj4 l0 a2 a3))) = some r := by rw [if_neg (show ¬ (false = true) by decide)] at H; exact H
    clear H
    have H := H1
    clear H1
    replace H := Option.bind_eq_some_iff.mp H
    obtain ⟨⟨t274, t275⟩, A160, H⟩ := H
    replace H : (if t275 = 0 then ((quick_Make.f kj4 t274).bind fun bt278 => (if bt278.2 = 0 then (if bt278.1.toList = a1.toList then ((quick_May.f kj4 t274).bind fun t280 => (if t280 = true then (j1 kj4 l0 a2 a3) else (some false))) else (some false)) else (some false))) else (j1 kj4 l0 a2 a3)) = some r := H
    have A16 := am A160
    clear A160
    have HC17 := am H
    clear H
    go_upto_if 47 with (first | ((with_reducible refine gate_callee (f := 18) rfl ?_); refine goesL_ (some 43) rfl rfl Tryd.func18 (by kernel_rfl) rfl #[.string a1] rfl (by (try simp only [List.map_toArray, List.map_cons, List.map_nil]); first | done | rfl | (simp only [List.length_drop, List.length_take]; rfl)) ?_; (with_reducible refine (quick_Read.calls (hTabs := HTB.out.below (by repeat (first | (with_reducible first | exact HB.out | apply below_alloc | apply pw_below_drewN | apply below_drew1) | exact HB.out))) kj4 a1 t274 t275 _ A16.out).mono ?_); rintro e w18 ⟨v276, rfl, ho0, hb⟩; refine ⟨_, rfl, ?_⟩; have n0_ := am (Kd.R_lower ho0 (below_size (by repeat (first | (with_reducible first | exact HB.out | apply below_alloc | apply pw_below_drewN | apply below_drew1) | exact HB.out)))); have n1_ := am (below_step (by repeat (first | (with_reducible first | exact HB.out | apply below_alloc | apply pw_below_drewN | apply below_drew1) | exact HB.out)) hb); clear HB; have HO277 := n0_; have HB := n1_; clear n0_ n1_; (try clear hb); (try clear hb2); (try clear hk); (try clear hi); (try clear ho0)))
    (try simp only [Act.put, sa, sb, sc])
    go_cut [] (fun wc => ∃ (kq : Nat), Aside0 (j1 kq l0 a2 a3 = some r) ∧ Aside0 (kq ≤ kj4) ∧ Aside0 (Below w.heap.size w wc))
    case first =>
     have H := HC17.out
     clear HC17
     by_cases c19 : t275 = 0
     ·
      rw [if_pos c19] at H
      have c19b0 : (t275 == 0) = true := beq_iff_eq.mpr c19
      have c19b1 : (t275 != 0) = false := bne_eq_false_iff_eq.mpr c19
      clear c19
      (first | rw [c19b0] | (simp only [i64_w, i32_w]; rw [c19b0]) | skip)
      replace H := Option.bind_eq_some_iff.mp H
      obtain ⟨⟨t278, t279⟩, A200, H⟩ := H
      replace H : (if t279 = 0 then (if t278.toList = a1.toList then ((quick_May.f kj4 t274).bind fun t280 => (if t280 = true then (j1 kj4 l0 a2 a3) else (some false))) else (some false)) else (some false)) = some r := H
      have A20 := am A200
      clear A200
      by_cases c21 : t279 = 0
      ·
       rw [if_pos c21] at H
       have c21b0 : (t279 == 0) = true := beq_iff_eq.mpr c21
       have c21b1 : (t279 != 0) = false := bne_eq_false_iff_eq.mpr c21
       clear c21
       by_cases c22 : t278.toList = a1.toList
       ·
        rw [if_pos c22] at H
        have c22b0 : (t278.toList == a1.toList) = true := beq_iff_eq.mpr c22
        have c22b1 : (t278.toList != a1.toList) = false := bne_eq_false_iff_eq.mpr c22
        clear c22
        replace H := Option.bind_eq_some_iff.mp H
        obtain ⟨t280, A230, H⟩ := H
        replace H : (if t280 = true then (j1 kj4 l0 a2 a3) else (some false)) = some r := H
        have A23 := am A230
        clear A230
        by_cases c24 : t280 = true
        ·
         subst c24
         have H1 : (j1 kj4 l0 a2 a3) = some r := by rw [if_pos rfl] at H; exact H
         clear H
         have H := H1
         clear H1
         have H' := am H
         clear H
         obtain ⟨Ao25, co25, eo25⟩ := Kd.R_slice HO277.out
         subst eo25
         go_wp2_with (first | ((with_reducible refine gate_callee (f := 10) rfl ?_); refine goesL_ (some 50) rfl rfl Tryd.func10 (by kernel_rfl) rfl #[.slice Ao25 t274.length co25] rfl (by (try simp only [List.map_toArray, List.map_cons, List.map_nil]); first | done | rfl | (simp only [List.length_drop, List.length_take]; rfl)) ?_; (with_reducible refine (quick_Make.calls (hTabs := HTB.out.below (by repeat (first | (with_reducible first | exact HB.out | apply below_alloc | apply pw_below_drewN | apply below_drew1) | exact HB.out))) kj4 _ _ t274 t278 t279 _ ?side1 ?side2 A20.out).mono ?_); (case side1 => repeat (first | exact (Kd.R_reads' HO277.out).2.2 | (with_reducible refine Kd.C_alloc ?_ _) | (with_reducible refine Kd.C_drewN ?_ _) | (with_reducible refine Kd.C_drew ?_))); (case side2 => exact (Kd.R_reads' HO277.out).2.1); rintro e w26 ⟨rfl, hb⟩; refine ⟨_, rfl, ?_⟩; have n0_ := am (Kd.R_below (by (with_reducible repeat (first | apply Kd.R_alloc | apply Kd.R_drewN | apply Kd.R_drew)); exact HO277.out) hb); have n1_ := am (below_step (by repeat (first | (with_reducible first | exact HB.out | apply below_alloc | apply pw_below_drewN | apply below_drew1) | exact HB.out)) hb); clear HO277; clear HB; have HO277 := n0_; have HB := n1_; clear n0_ n1_; (try clear hb); (try clear hb2); (try clear hk); (try clear hi)) | (go_at_call 12; (with_reducible refine (quick_May.calls (hTabs := HTB.out.below (by repeat (first | (with_reducible first | exact HB.out | apply below_alloc | apply pw_below_drewN | apply below_drew1) | exact HB.out))) kj4 _ _ t274 true _ ?side1 ?side2 A23.out).mono ?_); (case side1 => repeat (first | exact (Kd.R_reads' HO277.out).2.2 | (with_reducible refine Kd.C_alloc ?_ _) | (with_reducible refine Kd.C_drewN ?_ _) | (with_reducible refine Kd.C_drew ?_))); (case side2 => exact (Kd.R_reads' HO277.out).2.1); rintro e w27 ⟨rfl, hb⟩; have n0_ := am (Kd.R_below (by (with_reducible repeat (first | apply Kd.R_alloc | apply Kd.R_drewN | apply Kd.R_drew)); exact HO277.out) hb); have n1_ := am (below_step (by repeat (first | (with_reducible first | exact HB.out | apply below_alloc | apply pw_below_drewN | apply below_drew1) | exact HB.out)) hb); clear HO277; clear HB; have HO277 := n0_; have HB := n1_; clear n0_ n1_; (try clear hb); (try clear hb2); (try clear hk); (try clear hi)))
         go_meet
         case rel => exact ⟨_, H', ⟨by have := HJ4.out; first | omega | exact Nat.le_refl _⟩, ⟨by repeat (first | (with_reducible first | exact HB.out | apply below_alloc | apply pw_below_drewN | apply below_drew1) | exact HB.out)⟩⟩
        ·
         replace c24 := Bool.eq_false_iff.mpr c24
         subst c24
         have H1 : (some false) = some r := by rw [if_neg (show ¬ (false = true) by decide)] at H; exact H
         exact absurd ((Option.some.inj H1).trans hr_) (by decide)
       ·
        rw [if_neg c22] at H
        have c22b0 : (t278.toList == a1.toList) = false := beq_eq_false_iff_ne.mpr c22
        have c22b1 : (t278.toList != a1.toList) = true := bne_iff_ne.mpr c22
        obtain rfl := Option.some.inj H
        obtain ⟨Ao31, co31, eo31⟩ := Kd.R_slice HO277.out
        subst eo31
        go_wp2_with (first | ((with_reducible refine gate_callee (f := 10) rfl ?_); refine goesL_ (some 50) rfl rfl Tryd.func10 (by kernel_rfl) rfl #[.slice Ao31 t274.length co31] rfl (by (try simp only [List.map_toArray, List.map_cons, List.map_nil]); first | done | rfl | (simp only [List.length_drop, List.length_take]; rfl)) ?_; (with_reducible refine (quick_Make.calls (hTabs := HTB.out.below (by repeat (first | (with_reducible first | exact HB.out | apply below_alloc | apply pw_below_drewN | apply below_drew1) | exact HB.out))) kj4 _ _ t274 t278 t279 _ ?side1 ?side2 A20.out).mono ?_); (case side1 => repeat (first | exact (Kd.R_reads' HO277.out).2.2 | (with_reducible refine Kd.C_alloc ?_ _) | (with_reducible refine Kd.C_drewN ?_ _) | (with_reducible refine Kd.C_drew ?_))); (case side2 => exact (Kd.R_reads' HO277.out).2.1); rintro e w32 ⟨rfl, hb⟩; refine ⟨_, rfl, ?_⟩; have n0_ := am (Kd.R_below (by (with_reducible repeat (first | apply Kd.R_alloc | apply Kd.R_drewN | apply Kd.R_drew)); exact HO277.out) hb); have n1_ := am (below_step (by repeat (first | (with_reducible first | exact HB.out | apply below_alloc | apply pw_below_drewN | apply below_drew1) | exact HB.out)) hb); clear HO277; clear HB; have HO277 := n0_; have HB := n1_; clear n0_ n1_; (try clear hb); (try clear hb2); (try clear hk); (try clear hi)))
        go_ret
        exact ⟨by first | rfl | (simp [errW_none, errW_some] <;> rfl) | (simp [*, errW_none, errW_some] <;> rfl), by repeat (first | (with_reducible first | exact HB.out | apply below_alloc | apply pw_below_drewN | apply below_drew1) | exact HB.out)⟩
      ·
       rw [if_neg c21] at H
       have c21b0 : (t279 == 0) = false := beq_eq_false_iff_ne.mpr c21
       have c21b1 : (t279 != 0) = true := bne_iff_ne.mpr c21
       obtain rfl := Option.some.inj H
       obtain ⟨Ao33, co33, eo33⟩ := Kd.R_slice HO277.out
       subst eo33
       go_wp2_with (first | ((with_reducible refine gate_callee (f := 10) rfl ?_); refine goesL_ (some 50) rfl rfl Tryd.func10 (by kernel_rfl) rfl #[.slice Ao33 t274.length co33] rfl (by (try simp only [List.map_toArray, List.map_cons, List.map_nil]); first | done | rfl | (simp only [List.length_drop, List.length_take]; rfl)) ?_; (with_reducible refine (quick_Make.calls (hTabs := HTB.out.below (by repeat (first | (with_reducible first | exact HB.out | apply below_alloc | apply pw_below_drewN | apply below_drew1) | exact HB.out))) kj4 _ _ t274 t278 t279 _ ?side1 ?side2 A20.out).mono ?_); (case side1 => repeat (first | exact (Kd.R_reads' HO277.out).2.2 | (with_reducible refine Kd.C_alloc ?_ _) | (with_reducible refine Kd.C_drewN ?_ _) | (with_reducible refine Kd.C_drew ?_))); (case side2 => exact (Kd.R_reads' HO277.out).2.1); rintro e w34 ⟨rfl, hb⟩; refine ⟨_, rfl, ?_⟩; have n0_ := am (Kd.R_below (by (with_reducible repeat (first | apply Kd.R_alloc | apply Kd.R_drewN | apply Kd.R_drew)); exact HO277.out) hb); have n1_ := am (below_step (by repeat (first | (with_reducible first | exact HB.out | apply below_alloc | apply pw_below_drewN | apply below_drew1) | exact HB.out)) hb); clear HO277; clear HB; have HO277 := n0_; have HB := n1_; clear n0_ n1_; (try clear hb); (try clear hb2); (try clear hk); (try clear hi)))
       go_ret
       exact ⟨by first | rfl | (simp [errW_none, errW_some] <;> rfl) | (simp [*, errW_none, errW_some] <;> rfl), by repeat (first | (with_reducible first | exact HB.out | apply below_alloc | apply pw_below_drewN | apply below_drew1) | exact HB.out)⟩
     ·
      rw [if_neg c19] at H
      have c19b0 : (t275 == 0) = false := beq_eq_false_iff_ne.mpr c19
      have c19b1 : (t275 != 0) = true := bne_iff_ne.mpr c19
      (first | rw [c19b0] | (simp only [i64_w, i32_w]; rw [c19b0]) | skip)
      have H' := am H
      clear H
      go_wp2
      go_meet
      case rel => exact ⟨_, H', ⟨by have := HJ4.out; first | omega | exact Nat.le_refl _⟩, ⟨by repeat (first | (with_reducible first | exact HB.out | apply below_alloc | apply pw_below_drewN | apply below_drew1) | exact HB.out)⟩⟩
    case rest =>
     clear HC17
     try clear c1
     try clear c2
     try clear p2
     try clear c7
     try clear c9
     try clear c10
     try clear c13
     try clear c18
     try clear c19
     try clear c19b0
     try clear c19b1
     try clear c21
     try clear c21b0
     try clear c21b1
     try clear c22
     try clear c22b0
     try clear c22b1
     try clear c24
     try clear p2
     obtain ⟨kq, HA, HJ16, HB⟩ := hcut
     cases kq with
     | zero => exact absurd HA.out (by simp [j1])
     | succ kj16 =>
      have H := HA.out
      clear HA
      simp only [j1] at H
      replace H := Option.bind_eq_some_iff.mp H
      obtain ⟨⟨t281, t282⟩, A350, H⟩ := H
      replace H : ((quick_May.f kj16 l0).bind fun t283 => (if ((t282 == 0) != t283) = true then (j2 kj16 l0 a2 a3 t281 true) else (j2 kj16 l0 a2 a3 t281 (t282 != 0)))) = some r := H
      have A35 := am A350
      clear A350
      have HC36 := am H
      clear H
      go_upto_region 9 with (first | ((with_reducible refine gate_callee (f := 10) rfl ?_); refine goesL_ (some 67) rfl rfl Tryd.func10 (by kernel_rfl) rfl #[.slice A0 l0.length c0] rfl (by (try simp only [List.map_toArray, List.map_cons, List.map_nil]); first | done | rfl | (simp only [List.length_drop, List.length_take]; rfl)) ?_; (with_reducible refine (quick_Make.calls (hTabs := HTB.out.below (by repeat (first | (with_reducible first | exact HB.out | apply below_alloc | apply pw_below_drewN | apply below_drew1) | exact HB.out))) kj16 _ _ l0 t281 t282 _ ?side1 ?side2 A35.out).mono ?_); (case side1 => repeat (first | exact (Kd.C_below HR0.out HB.out) | (with_reducible refine Kd.C_alloc ?_ _) | (with_reducible refine Kd.C_drewN ?_ _) | (with_reducible refine Kd.C_drew ?_))); (case side2 => exact HC0.out); rintro e w37 ⟨rfl, hb⟩; refine ⟨_, rfl, ?_⟩; have n0_ := am (below_step (by repeat (first | (with_reducible first | exact HB.out | apply below_alloc | apply pw_below_drewN | apply below_drew1) | exact HB.out)) hb); clear HB; have HB := n0_; clear n0_; (try clear hb); (try clear hb2); (try clear hk); (try clear hi)))
      (try simp only [Act.put, sa, sb, sc])
      go_cut [78] (fun v78 wc => ∃ (kq : Nat) (x78_35 : Bool), v78 = .bool x78_35 ∧ Aside0 (j2 kq l0 a2 a3 t281 x78_35 = some r) ∧ Aside0 (kq ≤ kj16) ∧ Aside0 (Below w.heap.size w wc))
      case first =>
       have H := HC36.out
       clear HC36
       replace H := Option.bind_eq_some_iff.mp H
       obtain ⟨t283, A380, H⟩ := H
       replace H : (if ((t282 == 0) != t283) = true then (j2 kj16 l0 a2 a3 t281 true) else (j2 kj16 l0 a2 a3 t281 (t282 != 0))) = some r := H
       have A38 := am A380
       clear A380
       by_cases c39 : ((t282 == 0) != t283) = true
       ·
        rw [if_pos c39] at H
        have c39b0 : ((t282 == 0) != t283) = true := c39
        (try (have c39b1 : decide ((t282 == 0) = t283) = false := by simpa using c39))
        (try (have c39b2 : ((t282 == 0) == t283) = false := by simpa using c39))
        (try (have c39b3 : ¬ ((t282 == 0) = t283) := by simpa using c39))
        clear c39
        (first | rw [c39b0] | (simp only [i64_w, i32_w]; rw [c39b0]) | skip)
        have H' := am H
        clear H
        go_wp2_with (first | ((with_reducible refine gate_callee (f := 12) rfl ?_); refine goesL_ (some 73) rfl rfl Tryd.func12 (by kernel_rfl) rfl #[.slice A0 l0.length c0] rfl (by (try simp only [List.map_toArray, List.map_cons, List.map_nil]); first | done | rfl | (simp only [List.length_drop, List.length_take]; rfl)) ?_; (with_reducible refine (quick_May.calls (hTabs := HTB.out.below (by repeat (first | (with_reducible first | exact HB.out | apply below_alloc | apply pw_below_drewN | apply below_drew1) | exact HB.out))) kj16 _ _ l0 t283 _ ?side1 ?side2 A38.out).mono ?_); (case side1 => repeat (first | exact (Kd.C_below HR0.out HB.out) | (with_reducible refine Kd.C_alloc ?_ _) | (with_reducible refine Kd.C_drewN ?_ _) | (with_reducible refine Kd.C_drew ?_))); (case side2 => exact HC0.out); rintro e w40 ⟨rfl, hb⟩; refine ⟨_, rfl, ?_⟩; have n0_ := am (below_step (by repeat (first | (with_reducible first | exact HB.out | apply below_alloc | apply pw_below_drewN | apply below_drew1) | exact HB.out)) hb); clear HB; have HB := n0_; clear n0_; (try clear hb); (try clear hb2); (try clear hk); (try clear hi)))
        go_meet
        case rel => exact ⟨_, (true), (by first | rfl | (simp; done) | (simp [*]; done)), H', ⟨by have := HJ4.out; have := HJ16.out; first | omega | exact Nat.le_refl _⟩, ⟨by repeat (first | (with_reducible first | exact HB.out | apply below_alloc | apply pw_below_drewN | apply below_drew1) | exact HB.out)⟩⟩
       ·
        rw [if_neg c39] at H
        have c39b0 : ((t282 == 0) != t283) = false := by simpa using c39
        (try (have c39b1 : decide ((t282 == 0) = t283) = true := by simpa using c39))
        (try (have c39b2 : ((t282 == 0) == t283) = true := by simpa using c39))
        clear c39
        (first | rw [c39b0] | (simp only [i64_w, i32_w]; rw [c39b0]) | skip)
        have H' := am H
        clear H
        go_wp2_with (first | ((with_reducible refine gate_callee (f := 12) rfl ?_); refine goesL_ (some 73) rfl rfl Tryd.func12 (by kernel_rfl) rfl #[.slice A0 l0.length c0] rfl (by (try simp only [List.map_toArray, List.map_cons, List.map_nil]); first | done | rfl | (simp only [List.length_drop, List.length_take]; rfl)) ?_; (with_reducible refine (quick_May.calls (hTabs := HTB.out.below (by repeat (first | (with_reducible first | exact HB.out | apply below_alloc | apply pw_below_drewN | apply below_drew1) | exact HB.out))) kj16 _ _ l0 t283 _ ?side1 ?side2 A38.out).mono ?_); (case side1 => repeat (first | exact (Kd.C_below HR0.out HB.out) | (with_reducible refine Kd.C_alloc ?_ _) | (with_reducible refine Kd.C_drewN ?_ _) | (with_reducible refine Kd.C_drew ?_))); (case side2 => exact HC0.out); rintro e w41 ⟨rfl, hb⟩; refine ⟨_, rfl, ?_⟩; have n0_ := am (below_step (by repeat (first | (with_reducible first | exact HB.out | apply below_alloc | apply pw_below_drewN | apply below_drew1) | exact HB.out)) hb); clear HB; have HB := n0_; clear n0_; (try clear hb); (try clear hb2); (try clear hk); (try clear hi)))
        go_meet
        case rel => exact ⟨_, ((t282 != 0)), (by first | rfl | (simp; done) | (simp [*]; done)), H', ⟨by have := HJ4.out; have := HJ16.out; first | omega | exact Nat.le_refl _⟩, ⟨by repeat (first | (with_reducible first | exact HB.out | apply below_alloc | apply pw_below_drewN | apply below_drew1) | exact HB.out)⟩⟩
      case rest =>
       clear HC36
       try clear c1
       try clear c2
       try clear p2
       try clear c3
       try clear c7
       try clear c9
       try clear c10
       try clear c12
       try clear c13
       try clear c18
       try clear c19
       try clear c19b0
       try clear c19b1
       try clear c21
       try clear c21b0
       try clear c21b1
       try clear c22
       try clear c22b0
       try clear c22b1
       try clear c24
       try clear c39
       try clear c39b0
       try clear c39b1
       try clear c39b2
       try clear p2
       obtain ⟨kq, x78_35, rfl, HA, HJ35, HB⟩ := hcut
       cases kq with
       | zero => exact absurd HA.out (by simp [j2])
       | succ kj35 =>
        have H := HA.out
        clear HA
        simp only [j2] at H
        by_cases c42 : x78_35 = true
        ·
         subst c42
         have H1 : (if t281.toList = ([] : List UInt8) then ((quick_May.f kj35 l0).bind fun t284 => (some (!t284))) else (some false)) = some r := by rw [if_pos rfl] at H; exact H
         clear H
         have H := H1
         clear H1
         by_cases c43 : t281.toList = ([] : List UInt8)
         ·
          rw [if_pos c43] at H
          have c43b0 : (t281.toList == ([] : List UInt8)) = true := beq_iff_eq.mpr c43
          have c43b1 : (t281.toList != ([] : List UInt8)) = false := bne_eq_false_iff_eq.mpr c43
          clear c43
          replace H := Option.bind_eq_some_iff.mp H
          obtain ⟨t284, A440, H⟩ := H
          replace H : (some (!t284)) = some r := H
          have A44 := am A440
          clear A440
          obtain rfl := Option.some.inj H
          go_wp2_with (first | (go_at_call 12; (with_reducible refine (quick_May.calls (hTabs := HTB.out.below (by repeat (first | (with_reducible first | exact HB.out | apply below_alloc | apply pw_below_drewN | apply below_drew1) | exact HB.out))) kj35 _ _ l0 t284 _ ?side1 ?side2 A44.out).mono ?_); (case side1 => repeat (first | exact (Kd.C_below HR0.out HB.out) | (with_reducible refine Kd.C_alloc ?_ _) | (with_reducible refine Kd.C_drewN ?_ _) | (with_reducible refine Kd.C_drew ?_))); (case side2 => exact HC0.out); rintro e w45 ⟨rfl, hb⟩; have n0_ := am (below_step (by repeat (first | (with_reducible first | exact HB.out | apply below_alloc | apply pw_below_drewN | apply below_drew1) | exact HB.out)) hb); clear HB; have HB := n0_; clear n0_; (try clear hb); (try clear hb2); (try clear hk); (try clear hi)))
          go_ret
          exact ⟨by first | rfl | (simp [errW_none, errW_some] <;> rfl) | (simp [*, errW_none, errW_some] <;> rfl), by repeat (first | (with_reducible first | exact HB.out | apply below_alloc | apply pw_below_drewN | apply below_drew1) | exact HB.out)⟩
         ·
          rw [if_neg c43] at H
          have c43b0 : (t281.toList == ([] : List UInt8)) = false := beq_eq_false_iff_ne.mpr c43
          exact absurd ((Option.some.inj H).trans hr_) (by decide)
        ·
         replace c42 := Bool.eq_false_iff.mpr c42
         subst c42
         have H1 : ((quick_Read.f kj35 t281).bind fun bt285 => (if 0 ≤ (wrap64 ((t281.size : Int) - 1)) then (if (wrap64 ((t281.size : Int) - 1)) ≤ (t281.size : Int) then ((quick_Read.f kj35 (t281.extract 0 ((wrap64 ((t281.size : Int) - 1)) : Int).toNat)).bind fun bt289 => ((some (([a3] : List Int) : List Int)).bind fun y293 => (if t281.size + (strOfNums y293).size ≤ 9223372036854775807 then ((quick_Read.f kj35 (t281 ++ (strOfNums y293))).bind fun bt296 => ((gosem_bytesOf.f t281).bind fun t300 => (if 0 ≤ (wrap64 ((wrap64 ((t300.length : Int) - 1)) - (wrap64 (Int.tmod (IntKind.u64.wrap (a2)) 32)))) then (if (wrap64 ((wrap64 ((t300.length : Int) - 1)) - (wrap64 (Int.tmod (IntKind.u64.wrap (a2)) 32)))) < (t300.length : Int) then ((quick_Read.f kj35 (strOfNums (t300.set ((wrap64 ((wrap64 ((t300.length : Int) - 1)) - (wrap64 (Int.tmod (IntKind.u64.wrap (a2)) 32)))) : Int).toNat a3))).bind fun bt305 => (if bt285.2 = 0 then ((quick_Same.f kj35 bt285.1 l0).bind fun t309 => (if t309 = true then (if ((bt305.2 == 0) != ((rd t300 (wrap64 ((wrap64 ((t300.length : Int) - 1)) - (wrap64 (Int.tmod (IntKind.u64.wrap (a2)) 32))))) == a3)) = true then (j3 kj35 l0 a2 true) else (if bt289.2 = 4 then (j3 kj35 l0 a2 (bt296.2 != 4)) else (j3 kj35 l0 a2 true))) else (j3 kj35 l0 a2 true))) else (j3 kj35 l0 a2 true))) else (none)) else (none)))) else (none)))) else (none)) else (none))) = some r := by rw [if_neg (show ¬ (false = true) by decide)] at H; exact H
         clear H
         have H := H1
         clear H1
         replace H := Option.bind_eq_some_iff.mp H
         obtain ⟨⟨t285, t286⟩, A460, H⟩ := H
         replace H : (if 0 ≤ (wrap64 ((t281.size : Int) - 1)) then (if (wrap64 ((t281.size : Int) - 1)) ≤ (t281.size : Int) then ((quick_Read.f kj35 (t281.extract 0 ((wrap64 ((t281.size : Int) - 1)) : Int).toNat)).bind fun bt289 => ((some (([a3] : List Int) : List Int)).bind fun y293 => (if t281.size + (strOfNums y293).size ≤ 9223372036854775807 then ((quick_Read.f kj35 (t281 ++ (strOfNums y293))).bind fun bt296 => ((gosem_bytesOf.f t281).bind fun t300 => (if 0 ≤ (wrap64 ((wrap64 ((t300.length : Int) - 1)) - (wrap64 (Int.tmod (IntKind.u64.wrap (a2)) 32)))) then (if (wrap64 ((wrap64 ((t300.length : Int) - 1)) - (wrap64 (Int.tmod (IntKind.u64.wrap (a2)) 32)))) < (t300.length : Int) then ((quick_Read.f kj35 (strOfNums (t300.set ((wrap64 ((wrap64 ((t300.length : Int) - 1)) - (wrap64 (Int.tmod (IntKind.u64.wrap (a2)) 32)))) : Int).toNat a3))).bind fun bt305 => (if t286 = 0 then ((quick_Same.f kj35 t285 l0).bind fun t309 => (if t309 = true then (if ((bt305.2 == 0) != ((rd t300 (wrap64 ((wrap64 ((t300.length : Int) - 1)) - (wrap64 (Int.tmod (IntKind.u64.wrap (a2)) 32))))) == a3)) = true then (j3 kj35 l0 a2 true) else (if bt289.2 = 4 then (j3 kj35 l0 a2 (bt296.2 != 4)) else (j3 kj35 l0 a2 true))) else (j3 kj35 l0 a2 true))) else (j3 kj35 l0 a2 true))) else (none)) else (none)))) else (none)))) else (none)) else (none)) = some r := H
         have A46 := am A460
         clear A460
         obtain ⟨ji47, hji47⟩ : ∃ j_ : Int, (wrap64 ((t281.size : Int) - 1)) = j_ := ⟨_, rfl⟩
         replace H : (if 0 ≤ (ji47) then (if (ji47) ≤ (t281.size : Int) then ((quick_Read.f kj35 (t281.extract 0 ((ji47) : Int).toNat)).bind fun bt289 => ((some (([a3] : List Int) : List Int)).bind fun y293 => (if t281.size + (strOfNums y293).size ≤ 9223372036854775807 then ((quick_Read.f kj35 (t281 ++ (strOfNums y293))).bind fun bt296 => ((gosem_bytesOf.f t281).bind fun t300 => (if 0 ≤ (wrap64 ((wrap64 ((t300.length : Int) - 1)) - (wrap64 (Int.tmod (IntKind.u64.wrap (a2)) 32)))) then (if (wrap64 ((wrap64 ((t300.length : Int) - 1)) - (wrap64 (Int.tmod (IntKind.u64.wrap (a2)) 32)))) < (t300.length : Int) then ((quick_Read.f kj35 (strOfNums (t300.set ((wrap64 ((wrap64 ((t300.length : Int) - 1)) - (wrap64 (Int.tmod (IntKind.u64.wrap (a2)) 32)))) : Int).toNat a3))).bind fun bt305 => (if t286 = 0 then ((quick_Same.f kj35 t285 l0).bind fun t309 => (if t309 = true then (if ((bt305.2 == 0) != ((rd t300 (wrap64 ((wrap64 ((t300.length : Int) - 1)) - (wrap64 (Int.tmod (IntKind.u64.wrap (a2)) 32))))) == a3)) = true then (j3 kj35 l0 a2 true) else (if bt289.2 = 4 then (j3 kj35 l0 a2 (bt296.2 != 4)) else (j3 kj35 l0 a2 true))) else (j3 kj35 l0 a2 true))) else (j3 kj35 l0 a2 true))) else (none)) else (none)))) else (none)))) else (none)) else (none)) = some r := by first | (rw [hji47] at H; exact H) | (simp only [hji47] at H ⊢; exact H)
         (try rw [hji47] at A46)
         have hji47w : (IntKind.i64.wrap ((t281.size : Int) - 1)) = ji47 := (i64_w _).trans hji47
         by_cases c48 : 0 ≤ (ji47)
         ·
          rw [if_pos c48] at H
          have c48b0 := eq_true c48
          have c48b1 : decide (0 ≤ (ji47)) = true := decide_eq_true c48
          clear c48
          by_cases c49 : (ji47) ≤ (t281.size : Int)
          ·
           rw [if_pos c49] at H
           have c49b0 := eq_true c49
           have c49b1 : decide ((ji47) ≤ (t281.size : Int)) = true := decide_eq_true c49
           clear c49
           replace H := Option.bind_eq_some_iff.mp H
           obtain ⟨⟨t289, t290⟩, A500, H⟩ := H
           replace H : ((some (([a3] : List Int) : List Int)).bind fun y293 => (if t281.size + (strOfNums y293).size ≤ 9223372036854775807 then ((quick_Read.f kj35 (t281 ++ (strOfNums y293))).bind fun bt296 => ((gosem_bytesOf.f t281).bind fun t300 => (if 0 ≤ (wrap64 ((wrap64 ((t300.length : Int) - 1)) - (wrap64 (Int.tmod (IntKind.u64.wrap (a2)) 32)))) then (if (wrap64 ((wrap64 ((t300.length : Int) - 1)) - (wrap64 (Int.tmod (IntKind.u64.wrap (a2)) 32)))) < (t300.length : Int) then ((quick_Read.f kj35 (strOfNums (t300.set ((wrap64 ((wrap64 ((t300.length : Int) - 1)) - (wrap64 (Int.tmod (IntKind.u64.wrap (a2)) 32)))) : Int).toNat a3))).bind fun bt305 => (if t286 = 0 then ((quick_Same.f kj35 t285 l0).bind fun t309 => (if t309 = true then (if ((bt305.2 == 0) != ((rd t300 (wrap64 ((wrap64 ((t300.length : Int) - 1)) - (wrap64 (Int.tmod (IntKind.u64.wrap (a2)) 32))))) == a3)) = true then (j3 kj35 l0 a2 true) else (if t290 = 4 then (j3 kj35 l0 a2 (bt296.2 != 4)) else (j3 kj35 l0 a2 true))) else (j3 kj35 l0 a2 true))) else (j3 kj35 l0 a2 true))) else (none)) else (none)))) else (none))) = some r := H
           have A50 := am A500
           clear A500
           obtain ⟨y293, hy293⟩ : ∃ y_ : List Int, y_ = (([a3] : List Int)) := ⟨_, rfl⟩
           replace H : (if t281.size + (strOfNums y293).size ≤ 9223372036854775807 then ((quick_Read.f kj35 (t281 ++ (strOfNums y293))).bind fun bt296 => ((gosem_bytesOf.f t281).bind fun t300 => (if 0 ≤ (wrap64 ((wrap64 ((t300.length : Int) - 1)) - (wrap64 (Int.tmod (IntKind.u64.wrap (a2)) 32)))) then (if (wrap64 ((wrap64 ((t300.length : Int) - 1)) - (wrap64 (Int.tmod (IntKind.u64.wrap (a2)) 32)))) < (t300.length : Int) then ((quick_Read.f kj35 (strOfNums (t300.set ((wrap64 ((wrap64 ((t300.length : Int) - 1)) - (wrap64 (Int.tmod (IntKind.u64.wrap (a2)) 32)))) : Int).toNat a3))).bind fun bt305 => (if t286 = 0 then ((quick_Same.f kj35 t285 l0).bind fun t309 => (if t309 = true then (if ((bt305.2 == 0) != ((rd t300 (wrap64 ((wrap64 ((t300.length : Int) - 1)) - (wrap64 (Int.tmod (IntKind.u64.wrap (a2)) 32))))) == a3)) = true then (j3 kj35 l0 a2 true) else (if t290 = 4 then (j3 kj35 l0 a2 (bt296.2 != 4)) else (j3 kj35 l0 a2 true))) else (j3 kj35 l0 a2 true))) else (j3 kj35 l0 a2 true))) else (none)) else (none)))) else (none)) = some r := by first | (rw [hy293]; with_reducible exact H) | (have H2_ := (Option.bind_some _ _).symm.trans H; rw [hy293]; with_reducible exact H2_) | (have H2_ := (Option.bind_some _ _).symm.trans H; with_reducible exact H2_) | with_reducible exact H | (rw [hy293]; exact H) | exact H
           have Ny293 := am hy293
           clear hy293
           by_cases c51 : t281.size + (strOfNums y293).size ≤ 9223372036854775807
           ·
            rw [if_pos c51] at H
            have c51b0 := eq_true c51
            have c51b1 : decide (t281.size + (strOfNums y293).size ≤ 9223372036854775807) = true := decide_eq_true c51
            try have c51b2 : (9223372036854775807 < t281.size + (strOfNums y293).size) = False := eq_false (Nat.not_lt.2 c51)
            replace H := Option.bind_eq_some_iff.mp H
            obtain ⟨⟨t296, t297⟩, A520, H⟩ := H
            replace H : ((gosem_bytesOf.f t281).bind fun t300 => (if 0 ≤ (wrap64 ((wrap64 ((t300.length : Int) - 1)) - (wrap64 (Int.tmod (IntKind.u64.wrap (a2)) 32)))) then (if (wrap64 ((wrap64 ((t300.length : Int) - 1)) - (wrap64 (Int.tmod (IntKind.u64.wrap (a2)) 32)))) < (t300.length : Int) then ((quick_Read.f kj35 (strOfNums (t300.set ((wrap64 ((wrap64 ((t300.length : Int) - 1)) - (wrap64 (Int.tmod (IntKind.u64.wrap (a2)) 32)))) : Int).toNat a3))).bind fun bt305 => (if t286 = 0 then ((quick_Same.f kj35 t285 l0).bind fun t309 => (if t309 = true then (if ((bt305.2 == 0) != ((rd t300 (wrap64 ((wrap64 ((t300.length : Int) - 1)) - (wrap64 (Int.tmod (IntKind.u64.wrap (a2)) 32))))) == a3)) = true then (j3 kj35 l0 a2 true) else (if t290 = 4 then (j3 kj35 l0 a2 (t297 != 4)) else (j3 kj35 l0 a2 true))) else (j3 kj35 l0 a2 true))) else (j3 kj35 l0 a2 true))) else (none)) else (none))) = some r := H
            have A52 := am A520
            clear A520
            replace H := Option.bind_eq_some_iff.mp H
            obtain ⟨t300, A530, H⟩ := H
            replace H : (if 0 ≤ (wrap64 ((wrap64 ((t300.length : Int) - 1)) - (wrap64 (Int.tmod (IntKind.u64.wrap (a2)) 32)))) then (if (wrap64 ((wrap64 ((t300.length : Int) - 1)) - (wrap64 (Int.tmod (IntKind.u64.wrap (a2)) 32)))) < (t300.length : Int) then ((quick_Read.f kj35 (strOfNums (t300.set ((wrap64 ((wrap64 ((t300.length : Int) - 1)) - (wrap64 (Int.tmod (IntKind.u64.wrap (a2)) 32)))) : Int).toNat a3))).bind fun bt305 => (if t286 = 0 then ((quick_Same.f kj35 t285 l0).bind fun t309 => (if t309 = true then (if ((bt305.2 == 0) != ((rd t300 (wrap64 ((wrap64 ((t300.length : Int) - 1)) - (wrap64 (Int.tmod (IntKind.u64.wrap (a2)) 32))))) == a3)) = true then (j3 kj35 l0 a2 true) else (if t290 = 4 then (j3 kj35 l0 a2 (t297 != 4)) else (j3 kj35 l0 a2 true))) else (j3 kj35 l0 a2 true))) else (j3 kj35 l0 a2 true))) else (none)) else (none)) = some r := H
            have A53 := am A530
            clear A530
            obtain ⟨ji54, hji54⟩ : ∃ j_ : Int, (wrap64 ((wrap64 ((t300.length : Int) - 1)) - (wrap64 (Int.tmod (IntKind.u64.wrap (a2)) 32)))) = j_ := ⟨_, rfl⟩
            replace H : (if 0 ≤ (ji54) then (if (ji54) < (t300.length : Int) then ((quick_Read.f kj35 (strOfNums (t300.set ((ji54) : Int).toNat a3))).bind fun bt305 => (if t286 = 0 then ((quick_Same.f kj35 t285 l0).bind fun t309 => (if t309 = true then (if ((bt305.2 == 0) != ((rd t300 (ji54)) == a3)) = true then (j3 kj35 l0 a2 true) else (if t290 = 4 then (j3 kj35 l0 a2 (t297 != 4)) else (j3 kj35 l0 a2 true))) else (j3 kj35 l0 a2 true))) else (j3 kj35 l0 a2 true))) else (none)) else (none)) = some r := by first | (rw [hji54] at H; exact H) | (simp only [hji54] at H ⊢; exact H)
            (try rw [hji54] at A46)
            (try rw [hji54] at A50)
            (try rw [hji54] at A52)
            (try rw [hji54] at A53)
            have hji54w : (IntKind.i64.wrap ((wrap64 ((t300.length : Int) - 1)) - (wrap64 (Int.tmod (IntKind.u64.wrap (a2)) 32)))) = ji54 := (i64_w _).trans hji54
            (try rw [hji54] at c48b1)
            (try rw [hji54] at c49b1)
            (try rw [hji54] at c51b1)
            by_cases c55 : 0 ≤ (ji54)
            ·
             rw [if_pos c55] at H
             have c55b0 : decide (0 ≤ (ji54)) = true := decide_eq_true c55
             clear c55
             by_cases c56 : (ji54) < (t300.length : Int)
             ·
              rw [if_pos c56] at H
              have c56b0 : decide ((ji54) < (t300.length : Int)) = true := decide_eq_true c56
              clear c56
              obtain ⟨y304, hy304⟩ : ∃ y_ : List Int, y_ = (t300.set ((ji54) : Int).toNat a3) := ⟨_, rfl⟩
              replace H : ((quick_Read.f kj35 (strOfNums y304)).bind fun bt305 => (if t286 = 0 then ((quick_Same.f kj35 t285 l0).bind fun t309 => (if t309 = true then (if ((bt305.2 == 0) != ((rd t300 (ji54)) == a3)) = true then (j3 kj35 l0 a2 true) else (if t290 = 4 then (j3 kj35 l0 a2 (t297 != 4)) else (j3 kj35 l0 a2 true))) else (j3 kj35 l0 a2 true))) else (j3 kj35 l0 a2 true))) = some r := by first | (rw [hy304]; with_reducible exact H) | (have H2_ := (Option.bind_some _ _).symm.trans H; rw [hy304]; with_reducible exact H2_) | (have H2_ := (Option.bind_some _ _).symm.trans H; with_reducible exact H2_) | with_reducible exact H | (rw [hy304]; exact H) | exact H
              have Ny304 := am hy304
              clear hy304
              replace H := Option.bind_eq_some_iff.mp H
              obtain ⟨⟨t305, t306⟩, A580, H⟩ := H
              replace H : (if t286 = 0 then ((quick_Same.f kj35 t285 l0).bind fun t309 => (if t309 = true then (if ((t306 == 0) != ((rd t300 (ji54)) == a3)) = true then (j3 kj35 l0 a2 true) else (if t290 = 4 then (j3 kj35 l0 a2 (t297 != 4)) else (j3 kj35 l0 a2 true))) else (j3 kj35 l0 a2 true))) else (j3 kj35 l0 a2 true)) = some r := H
              have A58 := am A580
              clear A580
              have HC59 := am H
              clear H
              go_upto_region 14 with (first | ((with_reducible refine gate_callee (f := 18) rfl ?_); refine goesL_ (some 88) rfl rfl Tryd.func18 (by kernel_rfl) rfl #[.string t281] rfl (by (try simp only [List.map_toArray, List.map_cons, List.map_nil]); first | done | rfl | (simp only [List.length_drop, List.length_take]; rfl)) ?_; (with_reducible refine (quick_Read.calls (hTabs := HTB.out.below (by repeat (first | (with_reducible first | exact HB.out | apply below_alloc | apply pw_below_drewN | apply below_drew1) | exact HB.out))) kj35 t281 t285 t286 _ A46.out).mono ?_); rintro e w60 ⟨v287, rfl, ho0, hb⟩; refine ⟨_, rfl, ?_⟩; have n0_ := am (Kd.R_lower ho0 (below_size (by repeat (first | (with_reducible first | exact HB.out | apply below_alloc | apply pw_below_drewN | apply below_drew1) | exact HB.out)))); have n1_ := am (below_step (by repeat (first | (with_reducible first | exact HB.out | apply below_alloc | apply pw_below_drewN | apply below_drew1) | exact HB.out)) hb); clear HB; have HO288 := n0_; have HB := n1_; clear n0_ n1_; (try clear hb); (try clear hb2); (try clear hk); (try clear hi); (try clear ho0)) | ((with_reducible refine gate_callee (f := 18) rfl ?_); refine goesL_ (some 97) rfl rfl Tryd.func18 (by kernel_rfl) rfl #[.string (t281.extract 0 ((ji47) : Int).toNat)] rfl (by (try simp only [List.map_toArray, List.map_cons, List.map_nil]); first | done | (simp only [hji47]; rfl) | rfl | (simp only [List.length_drop, List.length_take]; rfl)) ?_; (with_reducible refine (quick_Read.calls (hTabs := HTB.out.below (by repeat (first | (with_reducible first | exact HB.out | apply below_alloc | apply pw_below_drewN | apply below_drew1) | exact HB.out))) kj35 (t281.extract 0 ((ji47) : Int).toNat) t289 t290 _ A50.out).mono ?_); rintro e w61 ⟨v291, rfl, ho0, hb⟩; refine ⟨_, rfl, ?_⟩; have n0_ := am (Kd.R_elder' (by (with_reducible repeat (first | apply Kd.R_alloc | apply Kd.R_drewN | apply Kd.R_drew)); exact HO288.out) (Kd.R_base ho0) hb); have n1_ := am (Kd.R_lower (Kd.R_new' ho0 (Kd.R_lt (by (with_reducible repeat (first | apply Kd.R_alloc | apply Kd.R_drewN | apply Kd.R_drew)); exact HO288.out))) (below_size (by repeat (first | (with_reducible first | exact HB.out | apply below_alloc | apply pw_below_drewN | apply below_drew1) | exact HB.out)))); have n2_ := am (below_step (by repeat (first | (with_reducible first | exact HB.out | apply below_alloc | apply pw_below_drewN | apply below_drew1) | exact HB.out)) hb); clear HO288; clear HB; have HO288 := n0_; have HO292 := n1_; have HB := n2_; clear n0_ n1_ n2_; (try clear hb); (try clear hb2); (try clear hk); (try clear hi); (try clear ho0)) | ((with_reducible refine gate_dst (N := 103) rfl ?_); (try (refine gate_guard (by rfl) ?_; dsimp only)); refine Kd.R_lit (Kd.int .u8) _ 5 ?hg (N := 103) ?hd (xs := ([a3] : List Int)) (inner := [.int .u8 a3]) (ok := fun _ => True) (okp := fun _ => True) ?hr ?hp (fun _ hk => hk) trivial (Below.refl _ _) (Nat.le_refl _) (by simp) ?_; (case hd => rfl); (case hg => rfl); (case hr => first | (go_simp; done) | (go_simp; rfl)); (case hp => exact (Reps.one (show Kd.M (Kd.int .u8) _ _ _ a3 [.int .u8 a3] from rfl) (Reps.none _ _))); intro v294 w62 ho63 hb hg_ hnew_; clear hg_ hnew_; (first | rw [← Ny293.out] at ho63 | (simp only [Int.reduceToNat] at ho63; rw [← Ny293.out] at ho63)); have n0_ := am (Kd.R_below (by (with_reducible repeat (first | apply Kd.R_alloc | apply Kd.R_drewN | apply Kd.R_drew)); exact HO288.out) hb); have n1_ := am (Kd.R_below (by (with_reducible repeat (first | apply Kd.R_alloc | apply Kd.R_drewN | apply Kd.R_drew)); exact HO292.out) hb); have n2_ := am (Kd.R_lower ho63 (below_size (by repeat (first | (with_reducible first | exact HB.out | apply below_alloc | apply pw_below_drewN | apply below_drew1) | exact HB.out)))); have n3_ := am (below_step (by repeat (first | (with_reducible first | exact HB.out | apply below_alloc | apply pw_below_drewN | apply below_drew1) | exact HB.out)) hb); clear HO288; clear HO292; clear HB; have HO288 := n0_; have HO292 := n1_; have HO295 := n2_; have HB := n3_; clear n0_ n1_ n2_ n3_; clear hb ho63; have hcv64 := own_string (P := Tryd.prog) Tryd.underlying40 Tryd.underlying5 Tryd.underlying9 (Kd.own_of_R HO295.out)) | ((with_reducible refine gate_callee (f := 18) rfl ?_); refine goesL_ (some 106) rfl rfl Tryd.func18 (by kernel_rfl) rfl #[.string (t281 ++ (strOfNums y293))] rfl (by (try simp only [List.map_toArray, List.map_cons, List.map_nil]); first | done | rfl | (simp only [List.length_drop, List.length_take]; rfl)) ?_; (with_reducible refine (quick_Read.calls (hTabs := HTB.out.below (by repeat (first | (with_reducible first | exact HB.out | apply below_alloc | apply pw_below_drewN | apply below_drew1) | exact HB.out))) kj35 (t281 ++ (strOfNums y293)) t296 t297 _ A52.out).mono ?_); rintro e w65 ⟨v298, rfl, ho0, hb⟩; refine ⟨_, rfl, ?_⟩; have n0_ := am (Kd.R_elder' (by (with_reducible repeat (first | apply Kd.R_alloc | apply Kd.R_drewN | apply Kd.R_drew)); exact HO288.out) (Kd.R_base ho0) hb); have n1_ := am (Kd.R_elder' (by (with_reducible repeat (first | apply Kd.R_alloc | apply Kd.R_drewN | apply Kd.R_drew)); exact HO292.out) (Kd.R_base ho0) hb); have n2_ := am (Kd.R_below (by (with_reducible repeat (first | apply Kd.R_alloc | apply Kd.R_drewN | apply Kd.R_drew)); exact HO295.out) hb); have n3_ := am (Kd.R_lower (Kd.R_new' (Kd.R_new' ho0 (Kd.R_lt (by (with_reducible repeat (first | apply Kd.R_alloc | apply Kd.R_drewN | apply Kd.R_drew)); exact HO288.out))) (Kd.R_lt (by (with_reducible repeat (first | apply Kd.R_alloc | apply Kd.R_drewN | apply Kd.R_drew)); exact HO292.out))) (below_size (by repeat (first | (with_reducible first | exact HB.out | apply below_alloc | apply pw_below_drewN | apply below_drew1) | exact HB.out)))); have n4_ := am (below_step (by repeat (first | (with_reducible first | exact HB.out | apply below_alloc | apply pw_below_drewN | apply below_drew1) | exact HB.out)) hb); clear HO288; clear HO292; clear HO295; clear HB; have HO288 := n0_; have HO292 := n1_; have HO295 := n2_; have HO299 := n3_; have HB := n4_; clear n0_ n1_ n2_ n3_ n4_; (try clear hb); (try clear hb2); (try clear hk); (try clear hi); (try clear ho0)))
              have e300 : bytesOf t281 = t300 := Option.some.inj A53.out
              have l300 : t300.length = t281.size := by rw [← e300]; exact Go.Proofs.YtbeibmdccjgcmaaDoorW.PrintWords.bytesOf_length t281
              have kb := fun W => print_bytes (P := Tryd.prog) 9 40 5 Tryd.underlying9 Tryd.underlying40 Tryd.underlying5 t281 W
              have p0 : 0 ≤ ji54 := of_decide_eq_true c55b0
              have q0 : ji54 < (t281.size : Int) := by have h_ := of_decide_eq_true c56b0; rw [l300] at h_; exact h_
              have qn : ji54.toNat < t281.size := by omega
              have hc : (Lib.bytesWorld w65 5 t281).cell? ⟨w65.heap.size, ji54.toNat, none⟩ = some (.int .u8 (rd t300 ji54)) := by rw [← e300]; exact bytes_cell w65 5 t281 ji54.toNat qn
              have hfz := bytes_frozen w65 5 t281 ji54.toNat qn
              have hs64 : t281.size ≤ 9223372036854775807 := by omega
              have hR := bytes_set w65 5 t281 ji54.toNat a3 qn hs64
              have y1 : (bytesOf t281).set ji54.toNat a3 = y304 := by rw [Ny304.out, e300]
              rw [y1] at hR
              have kc := fun c => string_of_reads (P := Tryd.prog) (c := c) Tryd.underlying40 Tryd.underlying5 Tryd.underlying9 hR
              have kB := bytes_below (Below.refl w65.heap.size w65) (Nat.le_refl _) 5 t281
              have kB3 : Below w65.heap.size w65 ((Lib.bytesWorld w65 5 t281).setCell ⟨w65.heap.size, ji54.toNat, none⟩ (.int .u8 a3)) := Below.setCell kB (p := ⟨w65.heap.size, ji54.toNat, none⟩) (Nat.le_refl _) _
              have m0_ := am (Kd.R_below HO288.out kB3)
              have m1_ := am (below_step HB.out kB3)
              have hj1 : wrap64 (wrap64 ((t281.size : Int) - 1) - wrap64 (Int.tmod (IntKind.u64.wrap a2) 32)) = ji54 := by rw [← l300]; exact hji54
              have hj2 : wrap64 (ji47 - wrap64 (Int.tmod (IntKind.u64.wrap a2) 32)) = ji54 := by rw [← hji47]; exact hj1
              have p1 := eq_true p0
              have q1 := eq_true q0
              have q2 := eq_true qn
              clear hR kB kB3 e300 l300 y1 hs64
              go_upto_region 18 with (fail)
              generalize (Lib.bytesWorld w65 5 t281).setCell ⟨w65.heap.size, ji54.toNat, none⟩ (.int .u8 a3) = W3 at *
              clear HO288 HB
              have HO288 := m0_
              have HB := m1_
              clear m0_ m1_ kb hc hfz
              go_upto_region 19 with (((with_reducible refine gate_callee (f := 18) rfl ?_); refine goesL_ (some 132) rfl rfl Tryd.func18 (by kernel_rfl) rfl #[.string (strOfNums y304)] rfl (by (try simp only [List.map_toArray, List.map_cons, List.map_nil]); first | done | rfl | (simp only [List.length_drop, List.length_take]; rfl)) ?_; (with_reducible refine (quick_Read.calls (hTabs := HTB.out.below (by repeat (first | (with_reducible first | exact HB.out | apply below_alloc | apply pw_below_drewN | apply below_drew1) | exact HB.out))) kj35 (strOfNums y304) t305 t306 _ A58.out).mono ?_); rintro e w71 ⟨v307, rfl, ho0, hb⟩; refine ⟨_, rfl, ?_⟩; have n0_ := am (Kd.R_elder' (by (with_reducible repeat (first | apply Kd.R_alloc | apply Kd.R_drewN | apply Kd.R_drew)); exact HO288.out) (Kd.R_base ho0) hb); have n6_ := am (below_step (by repeat (first | (with_reducible first | exact HB.out | apply below_alloc | apply pw_below_drewN | apply below_drew1) | exact HB.out)) hb); clear HO288; clear HB; have HO288 := n0_; have HB := n6_; clear n0_ n6_; (try clear hb); (try clear hb2); (try clear hk); (try clear hi); (try clear ho0)))
              clear kc
              (try simp only [Act.put, sa, sb, sc])
              go_cut [156] (fun v156 wc => ∃ (kq : Nat) (x156_58 : Bool), v156 = .bool x156_58 ∧ Aside0 (j3 kq l0 a2 x156_58 = some r) ∧ Aside0 (kq ≤ kj35) ∧ Aside0 (Below w.heap.size w wc))
              case first =>
               have H := HC59.out
               clear HC59
               by_cases c72 : t286 = 0
               ·
                rw [if_pos c72] at H
                have c72b0 : (t286 == 0) = true := beq_iff_eq.mpr c72
                have c72b1 : (t286 != 0) = false := bne_eq_false_iff_eq.mpr c72
                clear c72
                (first | rw [c72b0] | (simp only [i64_w, i32_w]; rw [c72b0]) | skip)
                replace H := Option.bind_eq_some_iff.mp H
                obtain ⟨t309, A730, H⟩ := H
                replace H : (if t309 = true then (if ((t306 == 0) != ((rd t300 (ji54)) == a3)) = true then (j3 kj35 l0 a2 true) else (if t290 = 4 then (j3 kj35 l0 a2 (t297 != 4)) else (j3 kj35 l0 a2 true))) else (j3 kj35 l0 a2 true)) = some r := H
                have A73 := am A730
                clear A730
                by_cases c74 : t309 = true
                ·
                 subst c74
                 have H1 : (if ((t306 == 0) != ((rd t300 (ji54)) == a3)) = true then (j3 kj35 l0 a2 true) else (if t290 = 4 then (j3 kj35 l0 a2 (t297 != 4)) else (j3 kj35 l0 a2 true))) = some r := by rw [if_pos rfl] at H; exact H
                 clear H
                 have H := H1
                 clear H1
                 by_cases c75 : ((t306 == 0) != ((rd t300 (ji54)) == a3)) = true
                 ·
                  rw [if_pos c75] at H
                  have c75b0 : ((t306 == 0) != ((rd t300 (ji54)) == a3)) = true := c75
                  (try (have c75b1 : decide ((t306 == 0) = ((rd t300 (ji54)) == a3)) = false := by simpa using c75))
                  (try (have c75b2 : ((t306 == 0) == ((rd t300 (ji54)) == a3)) = false := by simpa using c75))
                  (try (have c75b3 : ¬ ((t306 == 0) = ((rd t300 (ji54)) == a3)) := by simpa using c75))
                  clear c75
                  have H' := am H
                  clear H
                  obtain ⟨Ao76, co76, eo76⟩ := Kd.R_slice HO288.out
                  subst eo76
                  go_wp2_with (first | (go_at_call 14; (with_reducible refine (quick_Same.calls kj35 _ _ t285 _ _ l0 true _ ?side1 ?side2 ?side3 ?side4 A73.out).mono ?_); (case side1 => repeat (first | exact (Kd.R_reads' HO288.out).2.2 | (with_reducible refine Kd.C_alloc ?_ _) | (with_reducible refine Kd.C_drewN ?_ _) | (with_reducible refine Kd.C_drew ?_))); (case side2 => exact (Kd.R_reads' HO288.out).2.1); (case side3 => repeat (first | exact (Kd.C_below HR0.out HB.out) | (with_reducible refine Kd.C_alloc ?_ _) | (with_reducible refine Kd.C_drewN ?_ _) | (with_reducible refine Kd.C_drew ?_))); (case side4 => exact HC0.out); rintro e w' ⟨rfl, ⟨nd, rfl⟩⟩))
                  go_meet
                  case rel => exact ⟨_, (true), (by first | rfl | (simp; done) | (simp [*]; done)), (by first | exact H' | (rw [hji47]; exact H') | (rw [hji54]; exact H') | (simp only [hji47, hji54]; exact H')), ⟨by have := HJ4.out; have := HJ16.out; have := HJ35.out; first | omega | exact Nat.le_refl _⟩, ⟨by repeat (first | (with_reducible first | exact HB.out | apply below_alloc | apply pw_below_drewN | apply below_drew1) | exact HB.out)⟩⟩
                 ·
                  rw [if_neg c75] at H
                  have c75b0 : ((t306 == 0) != ((rd t300 (ji54)) == a3)) = false := by simpa using c75
                  (try (have c75b1 : decide ((t306 == 0) = ((rd t300 (ji54)) == a3)) = true := by simpa using c75))
                  (try (have c75b2 : ((t306 == 0) == ((rd t300 (ji54)) == a3)) = true := by simpa using c75))
                  clear c75
                  by_cases c77 : t290 = 4
                  ·
                   rw [if_pos c77] at H
                   have c77b0 : (t290 == 4) = true := beq_iff_eq.mpr c77
                   have c77b1 : (t290 != 4) = false := bne_eq_false_iff_eq.mpr c77
                   clear c77
                   have H' := am H
                   clear H
                   obtain ⟨Ao78, co78, eo78⟩ := Kd.R_slice HO288.out
                   subst eo78
                   go_wp2_with (first | (go_at_call 14; (with_reducible refine (quick_Same.calls kj35 _ _ t285 _ _ l0 true _ ?side1 ?side2 ?side3 ?side4 A73.out).mono ?_); (case side1 => repeat (first | exact (Kd.R_reads' HO288.out).2.2 | (with_reducible refine Kd.C_alloc ?_ _) | (with_reducible refine Kd.C_drewN ?_ _) | (with_reducible refine Kd.C_drew ?_))); (case side2 => exact (Kd.R_reads' HO288.out).2.1); (case side3 => repeat (first | exact (Kd.C_below HR0.out HB.out) | (with_reducible refine Kd.C_alloc ?_ _) | (with_reducible refine Kd.C_drewN ?_ _) | (with_reducible refine Kd.C_drew ?_))); (case side4 => exact HC0.out); rintro e w' ⟨rfl, ⟨nd, rfl⟩⟩))
                   go_meet
                   case rel => exact ⟨_, ((t297 != 4)), (by first | rfl | (simp; done) | (simp [*]; done)), (by first | exact H' | (rw [hji47]; exact H') | (rw [hji54]; exact H') | (simp only [hji47, hji54]; exact H')), ⟨by have := HJ4.out; have := HJ16.out; have := HJ35.out; first | omega | exact Nat.le_refl _⟩, ⟨by repeat (first | (with_reducible first | exact HB.out | apply below_alloc | apply pw_below_drewN | apply below_drew1) | exact HB.out)⟩⟩
                  ·
                   rw [if_neg c77] at H
                   have c77b0 : (t290 == 4) = false := beq_eq_false_iff_ne.mpr c77
                   have c77b1 : (t290 != 4) = true := bne_iff_ne.mpr c77
                   have H' := am H
                   clear H
                   obtain ⟨Ao79, co79, eo79⟩ := Kd.R_slice HO288.out
                   subst eo79
                   go_wp2_with (first | (go_at_call 14; (with_reducible refine (quick_Same.calls kj35 _ _ t285 _ _ l0 true _ ?side1 ?side2 ?side3 ?side4 A73.out).mono ?_); (case side1 => repeat (first | exact (Kd.R_reads' HO288.out).2.2 | (with_reducible refine Kd.C_alloc ?_ _) | (with_reducible refine Kd.C_drewN ?_ _) | (with_reducible refine Kd.C_drew ?_))); (case side2 => exact (Kd.R_reads' HO288.out).2.1); (case side3 => repeat (first | exact (Kd.C_below HR0.out HB.out) | (with_reducible refine Kd.C_alloc ?_ _) | (with_reducible refine Kd.C_drewN ?_ _) | (with_reducible refine Kd.C_drew ?_))); (case side4 => exact HC0.out); rintro e w' ⟨rfl, ⟨nd, rfl⟩⟩))
                   go_meet
                   case rel => exact ⟨_, (true), (by first | rfl | (simp; done) | (simp [*]; done)), (by first | exact H' | (rw [hji47]; exact H') | (rw [hji54]; exact H') | (simp only [hji47, hji54]; exact H')), ⟨by have := HJ4.out; have := HJ16.out; have := HJ35.out; first | omega | exact Nat.le_refl _⟩, ⟨by repeat (first | (with_reducible first | exact HB.out | apply below_alloc | apply pw_below_drewN | apply below_drew1) | exact HB.out)⟩⟩
                ·
                 replace c74 := Bool.eq_false_iff.mpr c74
                 subst c74
                 have H1 : (j3 kj35 l0 a2 true) = some r := by rw [if_neg (show ¬ (false = true) by decide)] at H; exact H
                 clear H
                 have H := H1
                 clear H1
                 have H' := am H
                 clear H
                 obtain ⟨Ao80, co80, eo80⟩ := Kd.R_slice HO288.out
                 subst eo80
                 go_wp2_with (first | (go_at_call 14; (with_reducible refine (quick_Same.calls kj35 _ _ t285 _ _ l0 false _ ?side1 ?side2 ?side3 ?side4 A73.out).mono ?_); (case side1 => repeat (first | exact (Kd.R_reads' HO288.out).2.2 | (with_reducible refine Kd.C_alloc ?_ _) | (with_reducible refine Kd.C_drewN ?_ _) | (with_reducible refine Kd.C_drew ?_))); (case side2 => exact (Kd.R_reads' HO288.out).2.1); (case side3 => repeat (first | exact (Kd.C_below HR0.out HB.out) | (with_reducible refine Kd.C_alloc ?_ _) | (with_reducible refine Kd.C_drewN ?_ _) | (with_reducible refine Kd.C_drew ?_))); (case side4 => exact HC0.out); rintro e w' ⟨rfl, ⟨nd, rfl⟩⟩))
                 go_meet
                 case rel => exact ⟨_, (true), (by first | rfl | (simp; done) | (simp [*]; done)), (by first | exact H' | (rw [hji47]; exact H') | (rw [hji54]; exact H') | (simp only [hji47, hji54]; exact H')), ⟨by have := HJ4.out; have := HJ16.out; have := HJ35.out; first | omega | exact Nat.le_refl _⟩, ⟨by repeat (first | (with_reducible first | exact HB.out | apply below_alloc | apply pw_below_drewN | apply below_drew1) | exact HB.out)⟩⟩
               ·
                rw [if_neg c72] at H
                have c72b0 : (t286 == 0) = false := beq_eq_false_iff_ne.mpr c72
                have c72b1 : (t286 != 0) = true := bne_iff_ne.mpr c72
                (first | rw [c72b0] | (simp only [i64_w, i32_w]; rw [c72b0]) | skip)
                have H' := am H
                clear H
                go_wp2
                go_meet
                case rel => exact ⟨_, (true), (by first | rfl | (simp; done) | (simp [*]; done)), (by first | exact H' | (rw [hji47]; exact H') | (rw [hji54]; exact H') | (simp only [hji47, hji54]; exact H')), ⟨by have := HJ4.out; have := HJ16.out; have := HJ35.out; first | omega | exact Nat.le_refl _⟩, ⟨by repeat (first | (with_reducible first | exact HB.out | apply below_alloc | apply pw_below_drewN | apply below_drew1) | exact HB.out)⟩⟩
              case rest =>
               clear HC59
               try clear c1
               try clear c2
               try clear p2
               try clear c3
               try clear p3
               try clear q3
               try clear hx3
               try clear c4
               try clear c5
               try clear p5
               try clear q5
               try clear hx5
               try clear hf5
               try clear p6
               try clear hcv6
               try clear c7
               try clear hcv7
               try clear c9
               try clear c10
               try clear c11
               try clear c12
               try clear c13
               try clear c18
               try clear c19
               try clear c19b0
               try clear c19b1
               try clear c21
               try clear c21b0
               try clear c21b1
               try clear c22
               try clear c22b0
               try clear c22b1
               try clear c24
               try clear p30
               try clear q30
               try clear hx30
               try clear c39
               try clear c39b0
               try clear c39b1
               try clear c39b2
               try clear c42
               try clear c43
               try clear c43b0
               try clear c43b1
               try clear c48
               try clear c48b0
               try clear c48b1
               try clear c49
               try clear c49b0
               try clear c49b1
               try clear c51
               try clear c51b0
               try clear c51b1
               try clear c51b2
               try clear c55
               try clear c55b0
               try clear c56
               try clear c56b0
               try clear p57
               try clear q57
               try clear hx57
               try clear hf57
               try clear p64
               try clear hcv64
               try clear hcv70
               try clear c72
               try clear c72b0
               try clear c72b1
               try clear c74
               try clear c75
               try clear c75b0
               try clear c75b1
               try clear c75b2
               try clear c77
               try clear c77b0
               try clear c77b1
               try clear hx303_0
               try clear hx57_0
               try clear p2
               try clear p303
               try clear p57
               try clear q303
               try clear q57
               obtain ⟨kq, x156_58, rfl, HA, HJ58, HB⟩ := hcut
               cases kq with
               | zero => exact absurd HA.out (by simp [j3])
               | succ kj58 =>
                have H := HA.out
                clear HA
                simp only [j3] at H
                by_cases c81 : x156_58 = true
                ·
                 subst c81
                 have H1 : (some false) = some r := by rw [if_pos rfl] at H; exact H
                 clear H
                 have H := H1
                 clear H1
                 obtain rfl := Option.some.inj H
                 go_wp2
                 go_ret
                 exact ⟨by first | rfl | (simp [errW_none, errW_some] <;> rfl) | (simp only [← hji47, ← hji54]; first | rfl | (simp [errW_none, errW_some] <;> rfl)) | (simp [*, errW_none, errW_some] <;> rfl), by repeat (first | (with_reducible first | exact HB.out | apply below_alloc | apply pw_below_drewN | apply below_drew1) | exact HB.out)⟩
                ·
                 replace c81 := Bool.eq_false_iff.mpr c81
                 subst c81
                 have H1 : (if (l0.length : Int) = 0 then (some true) else (if (IntKind.u64.wrap ((l0.length : Int))) = 0 then (none) else ((some (([] : List (S33)) : List (S33))).bind fun y310 => (if 0 ≤ (wrap64 (Int.tmod (IntKind.u64.wrap (a2)) (IntKind.u64.wrap ((l0.length : Int))))) then (if (wrap64 (Int.tmod (IntKind.u64.wrap (a2)) (IntKind.u64.wrap ((l0.length : Int))))) ≤ (l0.length : Int) then ((some (l0.take ((wrap64 (Int.tmod (IntKind.u64.wrap (a2)) (IntKind.u64.wrap ((l0.length : Int))))) : Int).toNat : List (S33))).bind fun y313 => (if y310.length + y313.length < 2513169434916 then ((some (y310 ++ y313 : List (S33))).bind fun y317 => (if 0 ≤ (wrap64 ((wrap64 (Int.tmod (IntKind.u64.wrap (a2)) (IntKind.u64.wrap ((l0.length : Int))))) + 1)) then (if (wrap64 ((wrap64 (Int.tmod (IntKind.u64.wrap (a2)) (IntKind.u64.wrap ((l0.length : Int))))) + 1)) ≤ (l0.length : Int) then ((some (l0.drop ((wrap64 ((wrap64 (Int.tmod (IntKind.u64.wrap (a2)) (IntKind.u64.wrap ((l0.length : Int))))) + 1)) : Int).toNat : List (S33))).bind fun y320 => (if y317.length + y320.length < 2513169434916 then (hamperlaw21_QuickBack.l0 kj58 l0 (y317 ++ y320) ([] : List (S33)) (wrap64 ((l0.length : Int) - 1))) else (none))) else (none)) else (none))) else (none))) else (none)) else (none))))) = some r := by rw [if_neg (show ¬ (false = true) by decide)] at H; exact H
                 clear H
                 have H := H1
                 clear H1
                 by_cases c82 : (l0.length : Int) = 0
                 ·
                  rw [if_pos c82] at H
                  have c82b0 : ((l0.length : Int) == 0) = true := beq_iff_eq.mpr c82
                  have c82b1 : ((l0.length : Int) != 0) = false := bne_eq_false_iff_eq.mpr c82
                  clear c82
                  obtain rfl := Option.some.inj H
                  go_wp2
                  go_ret
                  exact ⟨by first | rfl | (simp [errW_none, errW_some] <;> rfl) | (simp only [← hji47, ← hji54]; first | rfl | (simp [errW_none, errW_some] <;> rfl)) | (simp [*, errW_none, errW_some] <;> rfl), by repeat (first | (with_reducible first | exact HB.out | apply below_alloc | apply pw_below_drewN | apply below_drew1) | exact HB.out)⟩
                 ·
                  rw [if_neg c82] at H
                  have c82b0 : ((l0.length : Int) == 0) = false := beq_eq_false_iff_ne.mpr c82
                  have c82b1 : ((l0.length : Int) != 0) = true := bne_iff_ne.mpr c82
                  have c82b2 : ¬ (l0 = []) := fun h_ => c82 (by rw [h_]; rfl)
                  by_cases c83 : (IntKind.u64.wrap ((l0.length : Int))) = 0
                  ·
                   rw [if_pos c83] at H
                   exact absurd H (by simp)
                  ·
                   rw [if_neg c83] at H
                   have c83b0 : ((IntKind.u64.wrap ((l0.length : Int))) == 0) = false := beq_eq_false_iff_ne.mpr c83
                   have c83b1 : ((IntKind.u64.wrap ((l0.length : Int))) != 0) = true := bne_iff_ne.mpr c83
                   obtain ⟨y310, hy310⟩ : ∃ y_ : List (S33), y_ = (([] : List (S33))) := ⟨_, rfl⟩
                   replace H : (if 0 ≤ (wrap64 (Int.tmod (IntKind.u64.wrap (a2)) (IntKind.u64.wrap ((l0.length : Int))))) then (if (wrap64 (Int.tmod (IntKind.u64.wrap (a2)) (IntKind.u64.wrap ((l0.length : Int))))) ≤ (l0.length : Int) then ((some (l0.take ((wrap64 (Int.tmod (IntKind.u64.wrap (a2)) (IntKind.u64.wrap ((l0.length : Int))))) : Int).toNat : List (S33))).bind fun y313 => (if y310.length + y313.length < 2513169434916 then ((some (y310 ++ y313 : List (S33))).bind fun y317 => (if 0 ≤ (wrap64 ((wrap64 (Int.tmod (IntKind.u64.wrap (a2)) (IntKind.u64.wrap ((l0.length : Int))))) + 1)) then (if (wrap64 ((wrap64 (Int.tmod (IntKind.u64.wrap (a2)) (IntKind.u64.wrap ((l0.length : Int))))) + 1)) ≤ (l0.length : Int) then ((some (l0.drop ((wrap64 ((wrap64 (Int.tmod (IntKind.u64.wrap (a2)) (IntKind.u64.wrap ((l0.length : Int))))) + 1)) : Int).toNat : List (S33))).bind fun y320 => (if y317.length + y320.length < 2513169434916 then (hamperlaw21_QuickBack.l0 kj58 l0 (y317 ++ y320) ([] : List (S33)) (wrap64 ((l0.length : Int) - 1))) else (none))) else (none)) else (none))) else (none))) else (none)) else (none)) = some r := by first | (rw [hy310]; with_reducible exact H) | (have H2_ := (Option.bind_some _ _).symm.trans H; rw [hy310]; with_reducible exact H2_) | (have H2_ := (Option.bind_some _ _).symm.trans H; with_reducible exact H2_) | with_reducible exact H | (rw [hy310]; exact H) | exact H
                   have Ny310 := am hy310
                   clear hy310
                   obtain ⟨ji84, hji84⟩ : ∃ j_ : Int, (wrap64 (Int.tmod (IntKind.u64.wrap (a2)) (IntKind.u64.wrap ((l0.length : Int))))) = j_ := ⟨_, rfl⟩
                   replace H : (if 0 ≤ (ji84) then (if (ji84) ≤ (l0.length : Int) then ((some (l0.take ((ji84) : Int).toNat : List (S33))).bind fun y313 => (if y310.length + y313.length < 2513169434916 then ((some (y310 ++ y313 : List (S33))).bind fun y317 => (if 0 ≤ (wrap64 ((ji84) + 1)) then (if (wrap64 ((ji84) + 1)) ≤ (l0.length : Int) then ((some (l0.drop ((wrap64 ((ji84) + 1)) : Int).toNat : List (S33))).bind fun y320 => (if y317.length + y320.length < 2513169434916 then (hamperlaw21_QuickBack.l0 kj58 l0 (y317 ++ y320) ([] : List (S33)) (wrap64 ((l0.length : Int) - 1))) else (none))) else (none)) else (none))) else (none))) else (none)) else (none)) = some r := by first | (rw [hji84] at H; exact H) | (simp only [hji84] at H ⊢; exact H)
                   have hji84w : (IntKind.i64.wrap (Int.tmod (IntKind.u64.wrap (a2)) (IntKind.u64.wrap ((l0.length : Int))))) = ji84 := (i64_w _).trans hji84
                   (try rw [hji84] at c48b1)
                   (try rw [hji84] at c49b1)
                   (try rw [hji84] at c51b1)
                   (try rw [hji84] at c55b0)
                   (try rw [hji84] at c56b0)
                   (try rw [hji84] at c82b0)
                   (try rw [hji84] at c82b1)
                   (try rw [hji84] at c82b2)
                   (try rw [hji84] at c83b0)
                   (try rw [hji84] at c83b1)
                   by_cases c85 : 0 ≤ (ji84)
                   ·
                    rw [if_pos c85] at H
                    have c85b0 := eq_true c85
                    have c85b1 : decide (0 ≤ (ji84)) = true := decide_eq_true c85
                    clear c85
                    by_cases c86 : (ji84) ≤ (l0.length : Int)
                    ·
                     rw [if_pos c86] at H
                     have c86b0 := eq_true c86
                     have c86b1 : decide ((ji84) ≤ (l0.length : Int)) = true := decide_eq_true c86
                     clear c86
                     obtain ⟨y313, hy313⟩ : ∃ y_ : List (S33), y_ = (l0.take ((ji84) : Int).toNat) := ⟨_, rfl⟩
                     replace H : (if y310.length + y313.length < 2513169434916 then ((some (y310 ++ y313 : List (S33))).bind fun y317 => (if 0 ≤ (wrap64 ((ji84) + 1)) then (if (wrap64 ((ji84) + 1)) ≤ (l0.length : Int) then ((some (l0.drop ((wrap64 ((ji84) + 1)) : Int).toNat : List (S33))).bind fun y320 => (if y317.length + y320.length < 2513169434916 then (hamperlaw21_QuickBack.l0 kj58 l0 (y317 ++ y320) ([] : List (S33)) (wrap64 ((l0.length : Int) - 1))) else (none))) else (none)) else (none))) else (none)) = some r := by first | (rw [hy313]; with_reducible exact H) | (have H2_ := (Option.bind_some _ _).symm.trans H; rw [hy313]; with_reducible exact H2_) | (have H2_ := (Option.bind_some _ _).symm.trans H; with_reducible exact H2_) | with_reducible exact H | (rw [hy313]; exact H) | exact H
                     have Ny313 := am hy313
                     clear hy313
                     by_cases c87 : y310.length + y313.length < 2513169434916
                     ·
                      rw [if_pos c87] at H
                      have LMc87 := am c87
                      clear c87
                      obtain ⟨y317, hy317⟩ : ∃ y_ : List (S33), y_ = (y310 ++ y313) := ⟨_, rfl⟩
                      replace H : (if 0 ≤ (wrap64 ((ji84) + 1)) then (if (wrap64 ((ji84) + 1)) ≤ (l0.length : Int) then ((some (l0.drop ((wrap64 ((ji84) + 1)) : Int).toNat : List (S33))).bind fun y320 => (if y317.length + y320.length < 2513169434916 then (hamperlaw21_QuickBack.l0 kj58 l0 (y317 ++ y320) ([] : List (S33)) (wrap64 ((l0.length : Int) - 1))) else (none))) else (none)) else (none)) = some r := by first | (rw [hy317]; with_reducible exact H) | (have H2_ := (Option.bind_some _ _).symm.trans H; rw [hy317]; with_reducible exact H2_) | (have H2_ := (Option.bind_some _ _).symm.trans H; with_reducible exact H2_) | with_reducible exact H | (rw [hy317]; exact H) | exact H
                      have Ny317 := am hy317
                      clear hy317
                      obtain ⟨ji88, hji88⟩ : ∃ j_ : Int, (wrap64 ((ji84) + 1)) = j_ := ⟨_, rfl⟩
                      replace H : (if 0 ≤ (ji88) then (if (ji88) ≤ (l0.length : Int) then ((some (l0.drop ((ji88) : Int).toNat : List (S33))).bind fun y320 => (if y317.length + y320.length < 2513169434916 then (hamperlaw21_QuickBack.l0 kj58 l0 (y317 ++ y320) ([] : List (S33)) (wrap64 ((l0.length : Int) - 1))) else (none))) else (none)) else (none)) = some r := by first | (rw [hji88] at H; exact H) | (simp only [hji88] at H ⊢; exact H)
                      have hji88w : (IntKind.i64.wrap ((ji84) + 1)) = ji88 := (i64_w _).trans hji88
                      (try rw [hji88] at c48b1)
                      (try rw [hji88] at c49b1)
                      (try rw [hji88] at c51b1)
                      (try rw [hji88] at c55b0)
                      (try rw [hji88] at c56b0)
                      (try rw [hji88] at c82b0)
                      (try rw [hji88] at c82b1)
                      (try rw [hji88] at c82b2)
                      (try rw [hji88] at c83b0)
                      (try rw [hji88] at c83b1)
                      (try rw [hji88] at c85b1)
                      (try rw [hji88] at c86b1)
                      by_cases c89 : 0 ≤ (ji88)
                      ·
                       rw [if_pos c89] at H
                       have c89b0 := eq_true c89
                       have c89b1 : decide (0 ≤ (ji88)) = true := decide_eq_true c89
                       clear c89
                       by_cases c90 : (ji88) ≤ (l0.length : Int)
                       ·
                        rw [if_pos c90] at H
                        have c90b0 := eq_true c90
                        have c90b1 : decide ((ji88) ≤ (l0.length : Int)) = true := decide_eq_true c90
                        clear c90
                        obtain ⟨y320, hy320⟩ : ∃ y_ : List (S33), y_ = (l0.drop ((ji88) : Int).toNat) := ⟨_, rfl⟩
                        replace H : (if y317.length + y320.length < 2513169434916 then (hamperlaw21_QuickBack.l0 kj58 l0 (y317 ++ y320) ([] : List (S33)) (wrap64 ((l0.length : Int) - 1))) else (none)) = some r := by first | (rw [hy320]; with_reducible exact H) | (have H2_ := (Option.bind_some _ _).symm.trans H; rw [hy320]; with_reducible exact H2_) | (have H2_ := (Option.bind_some _ _).symm.trans H; with_reducible exact H2_) | with_reducible exact H | (rw [hy320]; exact H) | exact H
                        have Ny320 := am hy320
                        clear hy320
                        by_cases c91 : y317.length + y320.length < 2513169434916
                        ·
                         rw [if_pos c91] at H
                         have LMc91 := am c91
                         clear c91
                         obtain ⟨y324, hy324⟩ : ∃ y_ : List (S33), y_ = (y317 ++ y320) := ⟨_, rfl⟩
                         replace H : (hamperlaw21_QuickBack.l0 kj58 l0 y324 ([] : List (S33)) (wrap64 ((l0.length : Int) - 1))) = some r := by first | (rw [hy324]; with_reducible exact H) | (have H2_ := (Option.bind_some _ _).symm.trans H; rw [hy324]; with_reducible exact H2_) | (have H2_ := (Option.bind_some _ _).symm.trans H; with_reducible exact H2_) | with_reducible exact H | (rw [hy324]; exact H) | exact H
                         have Ny324 := am hy324
                         clear hy324
                         have H' := am H
                         clear H
                         try go_wp2
                         have n0_ := am (below_drew1 HB.out)
                         clear HB
                         have HB := n0_
                         clear n0_
                         have q93 : ((ji84) : Int) ≤ ((l0.length : Int) : Int) := of_decide_eq_true (by first | (with_reducible assumption) | assumption)
                         obtain ⟨i093, hi093, _, hsz93, _⟩ := info_parts info33
                         have hroom93 : l0.length ≤ c0 := HC0.out
                         have hC93 : Kd.C k33 _ A0 l0.length l0 := HR0.out
                         have hcut93 := cut_to (P := Tryd.prog) 22 33 .i64 Tryd.underlying22 hi093 A0 l0.length c0 (ji84) (of_decide_eq_true (by first | (with_reducible assumption) | assumption)) q93 hroom93
                         have hr93 := Kd.C_take (m := ((ji84) : Int).toNat) hC93 (by omega)
                         have hy93 : y313.length = ((ji84) : Int).toNat := (by rw [Ny313.out, List.length_take]; omega)
                         rw [← Ny313.out] at hr93
                         rw [← hy93] at hcut93
                         have HR316 := am hr93
                         have HC316 := am (show y313.length ≤ c0 from by omega)
                         clear hr93 hC93 hroom93 hi093 hsz93
                         have KY93 := am hy93
                         clear hy93
                         replace q93 := eq_true q93
                         have q94 : ((ji88) : Int) ≤ ((l0.length : Int) : Int) := of_decide_eq_true (by first | (with_reducible assumption) | assumption)
                         obtain ⟨i094, hi094, _, hsz94, _⟩ := info_parts info33
                         have hroom94 : l0.length ≤ c0 := HC0.out
                         have hC94 : Kd.C k33 _ A0 l0.length l0 := HR0.out
                         have q094 : (0 : Int) ≤ ((ji88) : Int) := of_decide_eq_true (by first | (with_reducible assumption) | assumption)
                         have hcut94 := cut_from (P := Tryd.prog) 22 33 .i64 Tryd.underlying22 hi094 5 hsz94 A0 l0.length c0 (ji88) q094 q94
                         have hr94 := Kd.C_drop (m := ((ji88) : Int).toNat) (c := c0) hC94 (by omega) hroom94
                         obtain ⟨A94, hA94⟩ : ∃ A1, A1 = (if c0 = ((ji88) : Int).toNat then A0 else (A0 : Option Addr).map (·.add (((ji88) : Int).toNat * 5))) := ⟨_, rfl⟩
                         obtain ⟨c94, hc94⟩ : ∃ c1, c1 = c0 - ((ji88) : Int).toNat := ⟨_, rfl⟩
                         have hy94 : y320.length = l0.length - ((ji88) : Int).toNat := (by rw [Ny320.out, List.length_drop] <;> omega)
                         rw [show (l0).drop ((ji88) : Int).toNat = y320 from Ny320.out.symm] at hr94
                         replace hr94 : Kd.C k33 _ A94 y320.length y320 := (by rw [hA94]; exact hr94)
                         rw [← hy94, ← hA94, ← hc94] at hcut94
                         have HR323 := am hr94
                         have HC323 := am (show y320.length ≤ c94 from by rw [hy94, hc94]; exact Nat.sub_le_sub_right hroom94 _)
                         clear hr94 hC94 hroom94 hi094 hsz94 hc94
                         have KY94 := am hy94
                         have KA94 := am hA94
                         clear hy94 hA94
                         replace q94 := eq_true q94
                         refine start_ (n := 11) (S := fun w' => True) (ds := []) #[false, false, false, false, false, false, false, false, false, false, false] (by kernel_rfl) rfl rfl trivial (fun h_ => ?_); refine with_tabW hamperlaw21_QuickBack.tab24 hamperlaw21_QuickBack.bits24 (fun T_ W_ => ?_)
                         generalize wc.drew = w92 at HB HR316 HR323 h_ ⊢
                         refine pu (i := 1) (N := some 168) (v := ?_) (a' := ?_) (lb 11 2) rfl rfl (ao T_.out (by kernel_rfl)) (λ _ _ _ h => h) (.inl ⟨by rfl, ?_⟩) ?_ ?_; rotate_left; (focus intro w'; go_simp; with_reducible rfl); rotate_left; (focus simp only [Act.put, sa, sb, sc, i64_w, i32_w]; rfl)
                         refine pu (i := 2) (N := some 169) (v := ?_) (a' := ?_) (lb 11 6) rfl rfl (ao T_.out (by kernel_rfl)) (λ _ _ _ h => h) (.inl ⟨by rfl, ?_⟩) ?_ ?_; rotate_left; (focus intro w'; go_simp; with_reducible rfl); rotate_left; (focus simp only [Act.put, sa, sb, sc, i64_w, i32_w]; rfl)
                         refine pu (i := 3) (N := some 170) (v := ?_) (a' := ?_) (lb 11 14) rfl rfl (ao T_.out (by kernel_rfl)) (λ _ _ _ h => h) (.inl ⟨by rfl, ?_⟩) ?_ ?_; rotate_left; (focus intro w'; go_simp; with_reducible rfl); rotate_left; (focus simp only [Act.put, sa, sb, sc, i64_w, i32_w]; rfl)
                         refine pu (i := 5) (N := some 172) (v := ?_) (a' := ?_) (lb 11 46) rfl rfl (ao T_.out (by kernel_rfl)) (λ _ _ _ h => h) (.inl ⟨by rfl, ?_⟩) ?_ ?_; rotate_left; (focus intro w'; go_simp; with_reducible rfl); rotate_left; (focus simp only [Act.put, sa, sb, sc, i64_w, i32_w]; rfl)
                         refine pu (i := 6) (N := some 173) (v := ?_) (a' := ?_) (lb 11 110) rfl rfl (ao T_.out (by kernel_rfl)) (λ _ _ _ h => h) (.inl ⟨by rfl, ?_⟩) ?_ ?_; rotate_left; (focus intro w'; go_simp; with_reducible rfl); rotate_left; (focus simp only [Act.put, sa, sb, sc, i64_w, i32_w]; rfl)
                         refine pu (i := 7) (N := some 174) (v := ?_) (a' := ?_) (lb 11 238) rfl rfl (ao T_.out (by kernel_rfl)) (λ _ _ _ h => h) (.inl ⟨by rfl, ?_⟩) ?_ ?_; rotate_left; (focus intro w'; go_simp; with_reducible rfl); rotate_left; (focus simp only [Act.put, sa, sb, sc, i64_w, i32_w]; rfl)
                         refine pu (i := 8) (N := some 175) (v := ?_) (a' := ?_) (lb 11 494) rfl rfl (ao T_.out (by kernel_rfl)) (λ _ _ _ h => h) (.inl ⟨by rfl, ?_⟩) ?_ ?_; rotate_left; (focus intro w'; go_simp; with_reducible rfl); rotate_left; (focus simp only [Act.put, sa, sb, sc, i64_w, i32_w]; rfl)
                         refine one_ (i := 0) (N := some 167) (lb 11 495) rfl rfl (one_of T_.out (by kernel_rfl)) (by decide) (fun K hK => ?_)
                         refine Kd.R_lit_step k33 _ 33 ?hg (N := 167) ?hd (xs := ([] : List (S33))) (inner := []) (ok := fun _ => True) (okp := fun _ => True) ?hr ?hp (fun _ hk => hk) trivial (Below.refl _ _) (Nat.le_refl _) (by simp) ?_; (case hd => rfl); (case hg => rfl); (case hr => first | (go_simp; done) | (go_simp; rfl)); (case hp => exact (Reps.none _ _))
                         intro v311 w95 ho96 hb hg_ hnew_
                         clear hg_ hnew_
                         (first | rw [← Ny310.out] at ho96 | (simp only [Int.reduceToNat] at ho96; rw [← Ny310.out] at ho96))
                         have n0_ := am (Kd.R_lower ho96 (below_size (by repeat (first | (with_reducible first | exact HB.out | apply below_alloc | apply pw_below_drewN | apply below_drew1) | exact HB.out))))
                         have n1_ := am (below_step (by repeat (first | (with_reducible first | exact HB.out | apply below_alloc | apply pw_below_drewN | apply below_drew1) | exact HB.out)) hb)
                         clear HB
                         have HO312 := n0_
                         have HB := n1_
                         clear n0_ n1_
                         clear hb ho96
                         refine hK.out _ _ trivial (fun h_ => ?_)
                         clear hK K
                         refine norm_ (a' := ?_) ?_ ?_
                         rotate_left
                         ·
                          show Act.put _ (some 167) _ = _
                          simp only [Act.put, sa, sb, sc, i64_w, i32_w]
                          rfl
                         refine one_ (i := 4) (N := some 171) (lb 11 511) rfl rfl (one_of T_.out (by kernel_rfl)) (by decide) (fun K hK => ?_)
                         refine Kd.R_append_rows_step k33 (w0 := w) w.heap.size (by rfl) (.tmp 167) (.tmp 170) 22 33 (.agg #[(.string ⟨#[]⟩), (.int .i64 0), (.int .i64 0), (.int .i64 0), (.string ⟨#[]⟩)]) 56 rfl Tryd.underlying22 info33 rfl (by decide) (by omega) v311 y310 y313 _ _ _ (fun _ => True) (fun _ => False) rfl rfl ?aO ?aR (fun _ _ h => h) (fun _ h => h.elim) ?aF ?aB ?aS ?aL ?_
                         (case aR => repeat (first | exact (Kd.C_below HR316.out HB.out) | (with_reducible refine Kd.C_alloc ?_ _) | (with_reducible refine Kd.C_drewN ?_ _) | (with_reducible refine Kd.C_drew ?_)))
                         (case aB => exact (by repeat (first | (with_reducible first | exact HB.out | apply below_alloc | apply pw_below_drewN | apply below_drew1) | exact HB.out)))
                         (case aF => exact (fun _ _ => trivial))
                         (case aO => exact (by (with_reducible repeat (first | apply Kd.R_alloc | apply Kd.R_drewN | apply Kd.R_drew)); exact HO312.out))
                         (case aS => exact (below_size (by repeat (first | (with_reducible first | exact HB.out | apply below_alloc | apply pw_below_drewN | apply below_drew1) | exact HB.out))))
                         (case aL => have := LMc87.out; omega)
                         intro v318 w97 ho hb hg hat
                         rw [← Ny317.out] at ho
                         have n0_ := am (hb)
                         have n1_ := am (ho)
                         clear HB
                         clear HO312
                         have HB := n0_
                         have HO319 := n1_
                         clear n0_ n1_
                         clear ho hb hg hat
                         refine hK.out _ _ trivial (fun h_ => ?_)
                         clear hK K
                         refine norm_ (a' := ?_) ?_ ?_
                         rotate_left
                         ·
                          show Act.put _ (some 171) _ = _
                          simp only [Act.put, sa, sb, sc, i64_w, i32_w]
                          rfl
                         refine one_ (i := 9) (N := some 176) (lb 11 1023) rfl rfl (one_of T_.out (by kernel_rfl)) (by decide) (fun K hK => ?_)
                         refine Kd.R_append_rows_step k33 (w0 := w) w.heap.size (by rfl) (.tmp 171) (.tmp 175) 22 33 (.agg #[(.string ⟨#[]⟩), (.int .i64 0), (.int .i64 0), (.int .i64 0), (.string ⟨#[]⟩)]) 56 rfl Tryd.underlying22 info33 rfl (by decide) (by omega) v318 y317 y320 _ _ _ (fun _ => True) (fun _ => False) rfl rfl ?aO ?aR (fun _ _ h => h) (fun _ h => h.elim) ?aF ?aB ?aS ?aL ?_
                         (case aR => repeat (first | exact (Kd.C_below HR323.out HB.out) | (with_reducible refine Kd.C_alloc ?_ _) | (with_reducible refine Kd.C_drewN ?_ _) | (with_reducible refine Kd.C_drew ?_)))
                         (case aB => exact (by repeat (first | (with_reducible first | exact HB.out | apply below_alloc | apply pw_below_drewN | apply below_drew1) | exact HB.out)))
                         (case aF => exact (fun _ _ => trivial))
                         (case aO => exact (by (with_reducible repeat (first | apply Kd.R_alloc | apply Kd.R_drewN | apply Kd.R_drew)); exact HO319.out))
                         (case aS => exact (below_size (by repeat (first | (with_reducible first | exact HB.out | apply below_alloc | apply pw_below_drewN | apply below_drew1) | exact HB.out))))
                         (case aL => have := LMc91.out; omega)
                         intro v325 w98 ho hb hg hat
                         rw [← Ny324.out] at ho
                         have n0_ := am (hb)
                         have n1_ := am (ho)
                         clear HB
                         clear HO319
                         have HB := n0_
                         have HO326 := n1_
                         clear n0_ n1_
                         clear ho hb hg hat
                         refine hK.out _ _ trivial (fun h_ => ?_)
                         clear hK K
                         refine norm_ (a' := ?_) ?_ ?_
                         rotate_left
                         ·
                          show Act.put _ (some 176) _ = _
                          simp only [Act.put, sa, sb, sc, i64_w, i32_w]
                          rfl
                         refine pu (i := 10) (N := some 26) (v := ?_) (a' := ?_) (lb 11 2047) rfl rfl (ao T_.out (by kernel_rfl)) (λ _ _ _ h => h) (.inl ⟨by rfl, ?_⟩) ?_ ?_; rotate_left; (focus intro w'; go_simp; with_reducible rfl); rotate_left; (focus simp only [Act.put, sa, sb, sc, i64_w, i32_w]; rfl)
                         refine done_ (done_of T_.out (by kernel_rfl)) ?_
                         try go_wp2
                         go_loopg [27, 28] kj58 (fun kq v27 v28 w' => ∃ (x27_5 : List (S33)) (x28_5 : Int), v28 = .int .i64 x28_5 ∧ Aside0 (hamperlaw21_QuickBack.l0 kq l0 y324 x27_5 x28_5 = some r) ∧ Aside0 (kq ≤ kj58) ∧ Aside0 (Kd.R k33 33 w' w.heap.size (fun k_ => some k_ ≠ (v27 : Value).ownBlock) v325 y324) ∧ Aside0 (Kd.R k33 33 w' w.heap.size (fun k_ => some k_ ≠ (v325 : Value).ownBlock) v27 x27_5) ∧ Aside0 (Below w.heap.size w w'))
                         case atStart => exact ⟨(([] : List (S33))), (wrap64 ((l0.length : Int) - 1)), (by first | rfl | (simp; done) | (simp [*]; done)), H', ⟨Nat.le_refl _⟩, ⟨by (with_reducible repeat (first | apply Kd.R_alloc | apply Kd.R_drewN | apply Kd.R_drew)); exact Kd.R_mono HO326.out (fun _ hk => (by simp [Value.ownBlock]))⟩, ⟨by first | exact Kd.R_nil _ _ _ _ _ | exact Kd.N_nil _ _ _ _ _ | exact Kd.V_nil _ _ _ _ _ | exact Kd.Q_nil _ _ _ _ _ | exact Kd.S_nil _ _ _ _ _⟩, ⟨by repeat (first | (with_reducible first | exact HB.out | apply below_alloc | apply pw_below_drewN | apply below_drew1) | exact HB.out)⟩⟩
                         case round =>
                          clear H'
                          try clear c1
                          try clear c2
                          try clear p2
                          try clear c3
                          try clear p3
                          try clear q3
                          try clear hx3
                          try clear c4
                          try clear c5
                          try clear p5
                          try clear q5
                          try clear hx5
                          try clear hf5
                          try clear p6
                          try clear hcv6
                          try clear c7
                          try clear hcv7
                          try clear c8
                          try clear c9
                          try clear q9
                          try clear c10
                          try clear c11
                          try clear c12
                          try clear c13
                          try clear c18
                          try clear c19
                          try clear c19b0
                          try clear c19b1
                          try clear c21
                          try clear c21b0
                          try clear c21b1
                          try clear c22
                          try clear c22b0
                          try clear c22b1
                          try clear c24
                          try clear p30
                          try clear q30
                          try clear hx30
                          try clear c39
                          try clear c39b0
                          try clear c39b1
                          try clear c39b2
                          try clear c42
                          try clear c43
                          try clear c43b0
                          try clear c43b1
                          try clear c48
                          try clear c48b0
                          try clear c48b1
                          try clear c49
                          try clear c49b0
                          try clear c49b1
                          try clear c51
                          try clear c51b0
                          try clear c51b1
                          try clear c51b2
                          try clear c55
                          try clear c55b0
                          try clear c56
                          try clear c56b0
                          try clear p57
                          try clear q57
                          try clear hx57
                          try clear hf57
                          try clear p64
                          try clear hcv64
                          try clear hcv70
                          try clear c72
                          try clear c72b0
                          try clear c72b1
                          try clear c74
                          try clear c75
                          try clear c75b0
                          try clear c75b1
                          try clear c75b2
                          try clear c77
                          try clear c77b0
                          try clear c77b1
                          try clear c81
                          try clear c82
                          try clear c82b0
                          try clear c82b1
                          try clear c82b2
                          try clear c83
                          try clear c83b0
                          try clear c83b1
                          try clear c85
                          try clear c85b0
                          try clear c85b1
                          try clear c86
                          try clear c86b0
                          try clear c86b1
                          try clear c87
                          try clear c89
                          try clear c89b0
                          try clear c89b1
                          try clear c90
                          try clear c90b0
                          try clear c90b1
                          try clear c91
                          try clear q93
                          try clear c94
                          try clear q94
                          try clear hx303_0
                          try clear hx57_0
                          try clear p2
                          try clear p3
                          try clear p30
                          try clear p303
                          try clear p5
                          try clear p57
                          try clear p6
                          try clear p64
                          try clear q094
                          try clear q3
                          try clear q30
                          try clear q303
                          try clear q5
                          try clear q57
                          try clear q93
                          try clear q94
                          obtain ⟨x27_5, x28_5, rfl, HA, HK5, HO_26, HO_27, HB⟩ := hrel
                          cases gk with
                          | zero => exact absurd HA.out (by simp [hamperlaw21_QuickBack.l0])
                          | succ k5 =>
                           have H := HA.out
                           clear HA
                           simp only [hamperlaw21_QuickBack.l0] at H
                           by_cases c99 : x28_5 ≥ 0
                           ·
                            rw [if_pos c99] at H
                            have c99b0 : decide (0 ≤ x28_5) = true := decide_eq_true c99
                            clear c99
                            by_cases c100 : 0 ≤ x28_5
                            ·
                             rw [if_pos c100] at H
                             have c100b0 : decide (0 ≤ x28_5) = true := decide_eq_true c100
                             clear c100
                             by_cases c101 : x28_5 < (l0.length : Int)
                             ·
                              rw [if_pos c101] at H
                              have c101b0 : decide (x28_5 < (l0.length : Int)) = true := decide_eq_true c101
                              clear c101
                              by_cases c102 : x27_5.length < 2513169434916
                              ·
                               rw [if_pos c102] at H
                               have LMc102 := am c102
                               clear c102
                               obtain ⟨y328, hy328⟩ : ∃ y_ : List (S33), y_ = (x27_5 ++ [(⟨(rd_T33 l0 x28_5).f0, (rd_T33 l0 x28_5).f1, (rd_T33 l0 x28_5).f2, (rd_T33 l0 x28_5).f3, (rd_T33 l0 x28_5).f4⟩ : S33)]) := ⟨_, rfl⟩
                               replace H : (hamperlaw21_QuickBack.l0 k5 l0 y324 y328 (wrap64 (x28_5 - 1))) = some r := by first | (rw [hy328]; with_reducible exact H) | (have H2_ := (Option.bind_some _ _).symm.trans H; rw [hy328]; with_reducible exact H2_) | (have H2_ := (Option.bind_some _ _).symm.trans H; with_reducible exact H2_) | with_reducible exact H | (rw [hy328]; exact H) | exact H
                               have Ny328 := am hy328
                               clear hy328
                               have H' := am H
                               clear H
                               have p327 : 0 ≤ (x28_5 : Int) := of_decide_eq_true (by first | (with_reducible assumption) | assumption)
                               have q327 : x28_5 < (l0.length : Int) := of_decide_eq_true (by first | (with_reducible assumption) | assumption)
                               obtain ⟨ad327, e327, hx327_0, hx327_1, hx327_2, hx327_3, hx327_4⟩ := at_T33 HR0.out x28_5 p327 q327
                               cases e327
                               replace hx327_0 := (HB.out.cell (World.block_lt_of_cell? w _ hx327_0)).trans hx327_0
                               replace hx327_1 := (HB.out.cell (World.block_lt_of_cell? w _ hx327_1)).trans hx327_1
                               replace hx327_2 := (HB.out.cell (World.block_lt_of_cell? w _ hx327_2)).trans hx327_2
                               replace hx327_3 := (HB.out.cell (World.block_lt_of_cell? w _ hx327_3)).trans hx327_3
                               replace hx327_4 := (HB.out.cell (World.block_lt_of_cell? w _ hx327_4)).trans hx327_4
                               replace p327 := eq_true p327
                               replace q327 := eq_true q327
                               go_wp2_with (first | ((with_reducible refine gate_builtin (b := .append) (xs := #[.tmp 184, .tmp 189]) rfl ?_); (try (refine gate_guard (by rfl) ?_; dsimp only)); at_builtin; refine Kd.R_append k33 (w0 := w) w.heap.size rfl (.tmp 184) (.tmp 189) 22 33 (.agg #[(.string ⟨#[]⟩), (.int .i64 0), (.int .i64 0), (.int .i64 0), (.string ⟨#[]⟩)]) 56 rfl Tryd.underlying22 info33 rfl (by decide) (by omega) u27 x27_5 (⟨(rd_T33 l0 x28_5).f0, (rd_T33 l0 x28_5).f1, (rd_T33 l0 x28_5).f2, (rd_T33 l0 x28_5).f3, (rd_T33 l0 x28_5).f4⟩ : S33) [.string ((rd_T33 l0 x28_5).f0), .int .i64 ((rd_T33 l0 x28_5).f1), .int .i64 ((rd_T33 l0 x28_5).f2), .int .i64 ((rd_T33 l0 x28_5).f3), .string ((rd_T33 l0 x28_5).f4)] (fun k_ => some k_ ≠ (v325 : Value).ownBlock) (fun _ => False) rfl rfl ?aP (fun _ hk => hk.elim) ?aF ?aO ?aB ?aS ?aL ?_; (case aP => exact k33_mkM _ _ _ (⟨(rd_T33 l0 x28_5).f0, (rd_T33 l0 x28_5).f1, (rd_T33 l0 x28_5).f2, (rd_T33 l0 x28_5).f3, (rd_T33 l0 x28_5).f4⟩ : S33)); (case aB => exact (by repeat (first | (with_reducible first | exact HB.out | apply below_alloc | apply pw_below_drewN | apply below_drew1) | exact HB.out))); (case aF => exact (fun k_ hk => Kd.fresh' (Kd.R_lt (by (with_reducible repeat (first | apply Kd.R_alloc | apply Kd.R_drewN | apply Kd.R_drew)); exact HO_26.out)) k_ hk)); (case aO => exact (by (with_reducible repeat (first | apply Kd.R_alloc | apply Kd.R_drewN | apply Kd.R_drew)); exact HO_27.out)); (case aS => exact (below_size (by repeat (first | (with_reducible first | exact HB.out | apply below_alloc | apply pw_below_drewN | apply below_drew1) | exact HB.out)))); (case aL => have := LMc102.out; omega); intro v329 w103 ho hb hg hat; rw [← Ny328.out] at ho; have n0_ := am (Kd.R_after (ok := (fun _ => True)) (by (with_reducible repeat (first | apply Kd.R_alloc | apply Kd.R_drewN | apply Kd.R_drew)); exact Kd.R_mono HO_26.out (fun _ hk => ⟨trivial, hk⟩)) hg hat); have n1_ := am (hb); have n2_ := am (ho); clear HO_26; clear HB; clear HO_27; have HO_26 := n0_; have HB := n1_; have HO330 := n2_; clear n0_ n1_ n2_; clear ho hb hg hat))
                               go_roundg k5
                               case measure => have := HJ4.out; have := HJ16.out; have := HJ35.out; have := HJ58.out; have := HK5.out; omega
                               case rel => exact ⟨(y328), (wrap64 (x28_5 - 1)), (by first | rfl | (simp; done) | (simp [*]; done)), (by first | exact H' | (rw [hji47]; exact H') | (rw [hji54]; exact H') | (rw [hji84]; exact H') | (rw [hji88]; exact H') | (simp only [hji47, hji54, hji84, hji88]; exact H')), ⟨by have := HJ4.out; have := HJ16.out; have := HJ35.out; have := HJ58.out; have := HK5.out; omega⟩, ⟨by (with_reducible repeat (first | apply Kd.R_alloc | apply Kd.R_drewN | apply Kd.R_drew)); exact Kd.R_mono HO_26.out (fun _ hk => hk.2)⟩, ⟨by (with_reducible repeat (first | apply Kd.R_alloc | apply Kd.R_drewN | apply Kd.R_drew)); exact HO330.out⟩, ⟨by repeat (first | (with_reducible first | exact HB.out | apply below_alloc | apply pw_below_drewN | apply below_drew1) | exact HB.out)⟩⟩
                              ·
                               rw [if_neg c102] at H
                               exact absurd H (by simp)
                             ·
                              rw [if_neg c101] at H
                              exact absurd H (by simp)
                            ·
                             rw [if_neg c100] at H
                             exact absurd H (by simp)
                           ·
                            rw [if_neg c99] at H
                            have c99b0 : decide (0 ≤ x28_5) = false := decide_eq_false c99
                            clear c99
                            replace H := Option.bind_eq_some_iff.mp H
                            obtain ⟨t331, A1040, H⟩ := H
                            replace H : (if t331 = true then ((quick_May.f k5 x27_5).bind fun t332 => (some t332)) else (some false)) = some r := H
                            have A104 := am A1040
                            clear A1040
                            by_cases c105 : t331 = true
                            ·
                             subst c105
                             have H1 : ((quick_May.f k5 x27_5).bind fun t332 => (some t332)) = some r := by rw [if_pos rfl] at H; exact H
                             clear H
                             have H := H1
                             clear H1
                             replace H := Option.bind_eq_some_iff.mp H
                             obtain ⟨t332, A1060, H⟩ := H
                             replace H : (some t332) = some r := H
                             have A106 := am A1060
                             clear A1060
                             obtain rfl := Option.some.inj H
                             obtain ⟨Ao107, co107, eo107⟩ := Kd.R_slice HO_26.out
                             subst eo107
                             go_wp2_with (first | ((with_reducible refine gate_callee (f := 12) rfl ?_); refine goesL_ (some 192) rfl rfl Tryd.func12 (by kernel_rfl) rfl #[.slice Ao107 y324.length co107] rfl (by (try simp only [List.map_toArray, List.map_cons, List.map_nil]); first | done | rfl | (simp only [List.length_drop, List.length_take]; rfl)) ?_; (with_reducible refine (quick_May.calls (hTabs := HTB.out.below (by repeat (first | (with_reducible first | exact HB.out | apply below_alloc | apply pw_below_drewN | apply below_drew1) | exact HB.out))) k5 _ _ y324 true _ ?side1 ?side2 A104.out).mono ?_); (case side1 => repeat (first | exact (Kd.R_reads' HO_26.out).2.2 | (with_reducible refine Kd.C_alloc ?_ _) | (with_reducible refine Kd.C_drewN ?_ _) | (with_reducible refine Kd.C_drew ?_))); (case side2 => exact (Kd.R_reads' HO_26.out).2.1); rintro e w108 ⟨rfl, hb⟩; refine ⟨_, rfl, ?_⟩; have n0_ := am (Kd.R_below (by (with_reducible repeat (first | apply Kd.R_alloc | apply Kd.R_drewN | apply Kd.R_drew)); exact HO_26.out) hb); have n1_ := am (Kd.R_below (by (with_reducible repeat (first | apply Kd.R_alloc | apply Kd.R_drewN | apply Kd.R_drew)); exact HO_27.out) hb); have n2_ := am (below_step (by repeat (first | (with_reducible first | exact HB.out | apply below_alloc | apply pw_below_drewN | apply below_drew1) | exact HB.out)) hb); clear HO_26; clear HO_27; clear HB; have HO_26 := n0_; have HO_27 := n1_; have HB := n2_; clear n0_ n1_ n2_; (try clear hb); (try clear hb2); (try clear hk); (try clear hi); obtain ⟨Ao109, co109, eo109⟩ := Kd.R_slice HO_27.out; subst eo109) | (go_at_call 12; (with_reducible refine (quick_May.calls (hTabs := HTB.out.below (by repeat (first | (with_reducible first | exact HB.out | apply below_alloc | apply pw_below_drewN | apply below_drew1) | exact HB.out))) k5 _ _ x27_5 t332 _ ?side1 ?side2 A106.out).mono ?_); (case side1 => repeat (first | exact (Kd.R_reads' HO_27.out).2.2 | (with_reducible refine Kd.C_alloc ?_ _) | (with_reducible refine Kd.C_drewN ?_ _) | (with_reducible refine Kd.C_drew ?_))); (case side2 => exact (Kd.R_reads' HO_27.out).2.1); rintro e w110 ⟨rfl, hb⟩; have n0_ := am (Kd.R_below (by (with_reducible repeat (first | apply Kd.R_alloc | apply Kd.R_drewN | apply Kd.R_drew)); exact HO_26.out) hb); have n1_ := am (Kd.R_below (by (with_reducible repeat (first | apply Kd.R_alloc | apply Kd.R_drewN | apply Kd.R_drew)); exact HO_27.out) hb); have n2_ := am (below_step (by repeat (first | (with_reducible first | exact HB.out | apply below_alloc | apply pw_below_drewN | apply below_drew1) | exact HB.out)) hb); clear HO_26; clear HO_27; clear HB; have HO_26 := n0_; have HO_27 := n1_; have HB := n2_; clear n0_ n1_ n2_; (try clear hb); (try clear hb2); (try clear hk); (try clear hi)))
                             go_ret
                             exact ⟨by first | rfl | (simp [errW_none, errW_some] <;> rfl) | (simp only [← hji47, ← hji54, ← hji84, ← hji88]; first | rfl | (simp [errW_none, errW_some] <;> rfl)) | (simp [*, errW_none, errW_some] <;> rfl), by repeat (first | (with_reducible first | exact HB.out | apply below_alloc | apply pw_below_drewN | apply below_drew1) | exact HB.out)⟩
                            ·
                             replace c105 := Bool.eq_false_iff.mpr c105
                             subst c105
                             have H1 : (some false) = some r := by rw [if_neg (show ¬ (false = true) by decide)] at H; exact H
                             exact absurd ((Option.some.inj H1).trans hr_) (by decide)
                        ·
                         rw [if_neg c91] at H
                         exact absurd H (by simp)
                       ·
                        rw [if_neg c90] at H
                        exact absurd H (by simp)
                      ·
                       rw [if_neg c89] at H
                       exact absurd H (by simp)
                     ·
                      rw [if_neg c87] at H
                      exact absurd H (by simp)
                    ·
                     rw [if_neg c86] at H
                     exact absurd H (by simp)
                   ·
                    rw [if_neg c85] at H
                    exact absurd H (by simp)
             ·
              rw [if_neg c56] at H
              exact absurd H (by simp)
            ·
             rw [if_neg c55] at H
             exact absurd H (by simp)
           ·
            rw [if_neg c51] at H
            exact absurd H (by simp)
          ·
           rw [if_neg c49] at H
           exact absurd H (by simp)
         ·
          rw [if_neg c48] at H
          exact absurd H (by simp)


end Go.Proofs.YtbeibmdccjgcmaaDoor.PQu
namespace Go.Proofs.YtbeibmdccjgcmaaDoor.PQu
open Go.RowKit Go.Proofs.YtbeibmdccjgcmaaDoorW.PrintWords Go.Proofs.YtbeibmdccjgcmaaDoorW.PrintLast Go.Proofs.YtbeibmdccjgcmaaDoorW.PrintMore Go.Proofs.YtbeibmdccjgcmaaDoor.Pb
set_option linter.unusedVariables false
set_option linter.unusedSimpArgs false
/-- A list that may be, told. -/
theorem may_iff (l : List MS) : mayQ l = true ↔ (∀ x ∈ l, fineQ x = true) ∧ (namesQ l).Nodup ∧ l.length ≤ 64 ∧ sumQ l ≤ 32768 := by
  unfold mayQ
  rw [beq_iff_eq]
  constructor
  · intro h
    obtain ⟨h1, h2, _⟩ := makeQ_zero h
    obtain ⟨h3, h4, h5⟩ := togQ_zero h2
    exact ⟨all_fine h1, (dupQ_iff _).1 h3, h4, h5⟩
  · rintro ⟨h1, h2, h3, h4⟩
    have hb : badQ l = 0 := (badQ_iff l).2 fun x hx => (mkQ_fine x).2 (h1 x hx)
    rw [makeQ_two, if_pos hb]
    unfold togQ
    rw [if_pos ((dupQ_iff _).2 h2), if_neg (by omega)]
theorem fine_pos {x : MS} (h : fineQ x = true) : 0 ≤ x.f3 := (Me.rest_iff (fineQ_parts h).2).2.2.2.2.1
theorem sum_sub {a l : List MS} (h : a.Sublist l) : (∀ x ∈ l, fineQ x = true) → sumQ a ≤ sumQ l := by
  induction h with
  | slnil => exact fun _ => Int.le_refl _
  | cons x _ ih =>
    intro hf
    have h1 := ih fun y hy => hf y (List.mem_cons_of_mem _ hy)
    have h2 := fine_pos (hf x List.mem_cons_self)
    rw [sumQ]
    omega
  | cons_cons x _ ih =>
    intro hf
    have h1 := ih fun y hy => hf y (List.mem_cons_of_mem _ hy)
    rw [sumQ, sumQ]
    omega
/-- A list that may be may be without some of it. -/
theorem may_sub {a l : List MS} (h : a.Sublist l) (hl : mayQ l = true) : mayQ a = true := by
  obtain ⟨h1, h2, h3, h4⟩ := (may_iff l).1 hl
  have h5 := sum_sub h h1
  have h6 := h.length_le
  exact (may_iff a).2 ⟨fun x hx => h1 x (h.subset hx), (h.map _).nodup h2, by omega, by omega⟩
theorem sum_rev : ∀ l : List MS, sumQ l.reverse = sumQ l
  | [] => rfl
  | x :: l => by rw [List.reverse_cons, sumQ_snoc, sum_rev l, sumQ]; omega
/-- And turned about. -/
theorem may_rev {l : List MS} (hl : mayQ l = true) : mayQ l.reverse = true := by
  obtain ⟨h1, h2, h3, h4⟩ := (may_iff l).1 hl
  refine (may_iff _).2 ⟨fun x hx => h1 x (List.mem_reverse.1 hx), ?_, by rw [List.length_reverse]; exact h3, by rw [sum_rev]; exact h4⟩
  unfold namesQ
  rw [List.map_reverse]
  exact (List.reverse_perm _).nodup_iff.2 h2
theorem head_inj {a b : Nat} (ha : a ≤ 64) (hb : b ≤ 64) (h : headQ a = headQ b) : a = b := by
  have e := congrArg bytesOf h
  rw [head_bytes, head_bytes] at e
  have e2 := congrArg (fun l => l.getD 4 0) e
  have e3 : (a : Int) % 256 = (b : Int) % 256 := e2
  omega
theorem uniq {l l' : List MS} (hf : ∀ x ∈ l, fineQ x = true) (hf' : ∀ x ∈ l', fineQ x = true) (hl : l.length ≤ 64) (hl' : l'.length ≤ 64) {S S' : ByteArray} (h : headQ l.length ++ (catQ l ++ S) = headQ l'.length ++ (catQ l' ++ S')) : l = l' := by
  have e1 : headQ l.length = headQ l'.length := by
    have a := ext_app_left (headQ l.length) (catQ l ++ S)
    have b := ext_app_left (headQ l'.length) (catQ l' ++ S')
    rw [headQ_size] at a b
    rw [h] at a
    exact a.symm.trans b
  have hn := head_inj hl hl' e1
  have e2 : catQ l ++ S = catQ l' ++ S' := by
    have a := ext_app_right (headQ l.length) (catQ l ++ S)
    have b := ext_app_right (headQ l'.length) (catQ l' ++ S')
    rw [headQ_size] at a b
    rw [h] at a
    exact a.symm.trans b
  have t1 := tell_cat S l hf
  have t2 := tell_cat S' l' hf'
  rw [← e2, ← hn, t1] at t2
  have o1 := out_pairs S l
  rw [t2, out_pairs] at o1
  exact o1.symm
theorem made_form {l : List MS} {t : ByteArray} (h : makeQ l = (t, 0)) : t = headQ l.length ++ (catQ l ++ Bk.blakeSum (bodyQ l)) := by
  obtain ⟨_, _, hs, _, _⟩ := made_parts h
  rw [← app_assoc]
  exact hs
/-- No list's bytes go on as another's. -/
theorem made_uniq {l l' : List MS} {t t' : ByteArray} (h : makeQ l = (t, 0)) (h' : makeQ l' = (t', 0)) {U U' : ByteArray} (e : t ++ U = t' ++ U') : t = t' := by
  obtain ⟨hf, hl, _, _, _⟩ := made_parts h
  obtain ⟨hf', hl', _, _, _⟩ := made_parts h'
  have a := made_form h
  have b := made_form h'
  have e2 : headQ l.length ++ (catQ l ++ (Bk.blakeSum (bodyQ l) ++ U)) = headQ l'.length ++ (catQ l' ++ (Bk.blakeSum (bodyQ l') ++ U')) := by
    rw [← app_assoc, ← app_assoc, ← app_assoc (headQ l'.length), ← app_assoc (headQ l'.length ++ catQ l')]
    rw [← app_assoc] at a b
    rw [← a, ← b]
    exact e
  have u := uniq hf hf' hl hl' e2
  rw [← u] at h'
  exact congrArg Prod.fst (h.symm.trans h')
theorem ext_split (s : ByteArray) (n : Nat) : s.extract 0 n ++ s.extract n s.size = s := by
  apply bytesOf_inj
  rw [bytesOf_append, bytesOf_extract, bytesOf_extract, List.drop_zero, List.take_of_length_le (Nat.le_of_eq (Go.Proofs.YtbeibmdccjgcmaaDoorW.PrintWords.bytesOf_length s)), List.take_append_drop]
/-- Without the last byte. -/
theorem short_refused {l : List MS} {t : ByteArray} (h : makeQ l = (t, 0)) : readQ (t.extract 0 (t.size - 1)) = ([], 4) := by
  obtain ⟨_, _, _, hs, _⟩ := made_parts h
  rcases readQ_cases (t.extract 0 (t.size - 1)) with e | ⟨l', _, h'⟩
  · exact e
  · exfalso
    have e : t ++ (⟨#[]⟩ : ByteArray) = (t.extract 0 (t.size - 1)) ++ t.extract (t.size - 1) t.size := by rw [ext_split, app_nil]
    have u := congrArg ByteArray.size (made_uniq h h' e)
    rw [size_ext _ _ _ (by omega)] at u
    omega
/-- With one more. -/
theorem long_refused {l : List MS} {t : ByteArray} (h : makeQ l = (t, 0)) (x : Int) : readQ (t ++ strOfNums [x]) = ([], 4) := by
  rcases readQ_cases (t ++ strOfNums [x]) with e | ⟨l', _, h'⟩
  · exact e
  · exfalso
    have u := congrArg ByteArray.size (made_uniq h h' (app_nil (t ++ strOfNums [x])).symm)
    rw [ByteArray.size_append, size_nums, List.length_singleton] at u
    omega
/-- With another byte in the sum. -/
theorem sum_turned {l : List MS} {t : ByteArray} (h : makeQ l = (t, 0)) (q : Nat) (h1 : t.size ≤ q + 32) (h2 : q < t.size) (x : Int) (hx : 0 ≤ x ∧ x ≤ 255) : readQ (turnB t q x) = if (bytesOf t).getD q 0 = x then (l, 0) else ([], 4) := by
  by_cases e : (bytesOf t).getD q 0 = x
  · rw [if_pos e, (turnB_same t q x h2 hx).2 e]
    exact read_make h
  · rw [if_neg e]
    rcases readQ_cases (turnB t q x) with r | ⟨l', _, h'⟩
    · exact r
    · exfalso
      obtain ⟨hf, hl, hs, hz, _⟩ := made_parts h
      obtain ⟨hf', hl', hs', _, _⟩ := made_parts h'
      obtain ⟨n, hn⟩ : ∃ n, n = (bodyQ l).size := ⟨_, rfl⟩
      have b : (turnB t q x).extract 0 n = bodyQ l := by
        rw [turnB_front t q x hx n (by omega), hn]
        have c := ext_app_left (bodyQ l) (Bk.blakeSum (bodyQ l))
        rw [← hs] at c
        exact c
      have a := ext_split (turnB t q x) n
      rw [b] at a
      have c : headQ l.length ++ (catQ l ++ (turnB t q x).extract n (turnB t q x).size) = headQ l'.length ++ (catQ l' ++ Bk.blakeSum (bodyQ l')) := by
        rw [← made_form h', ← app_assoc]
        exact a
      have u := uniq hf hf' hl hl' c
      rw [← u] at h'
      exact e ((turnB_same t q x h2 hx).1 (congrArg Prod.fst (h'.symm.trans h)))
theorem qread_b (k : Nat) (s : ByteArray) (h : s.size ≤ 140737488351232) : quick_Read.f k s = some (readQ s) := if_pos h
theorem made_none {l : List MS} (h : (makeQ l).2 ≠ 0) : (makeQ l).1 = ⟨#[]⟩ := by
  unfold makeQ at h ⊢
  by_cases h1 : badQ l = 0
  · rw [if_pos h1] at h ⊢
    by_cases h2 : togQ l = 0
    · rw [if_pos h2] at h; exact absurd rfl h
    · rw [if_neg h2]
  · rw [if_neg h1]
theorem back_l0 (l : List MS) (hl : l.length ≤ 500) (less : List MS) (hless : less.length ≤ 1000) (h1 : mayQ less = true) (h2 : mayQ l.reverse = true) : ∀ (d k : Nat), d ≤ l.length → d + 1 ≤ k → hamperlaw21_QuickBack.l0 k l less ((l.drop d).reverse) ((d : Int) - 1) = some true
  | 0, k, hd, hk => by
    obtain ⟨k, rfl⟩ : ∃ q, k = q + 1 := ⟨k - 1, by omega⟩
    rw [hamperlaw21_QuickBack.l0, if_neg (by omega)]
    refine bind_eq (qmay_f k less (by omega)) ?_
    rw [h1, if_pos rfl, List.drop_zero]
    refine bind_eq (qmay_f k _ (by rw [List.length_reverse]; omega)) ?_
    rw [h2]
  | d + 1, k, hd, hk => by
    obtain ⟨k, rfl⟩ : ∃ q, k = q + 1 := ⟨k - 1, by omega⟩
    have e0 : ((d + 1 : Nat) : Int) - 1 = (d : Int) := by omega
    have e1 : (l.drop (d + 1)).reverse ++ [rd_T33 l (d : Int)] = (l.drop d).reverse := by
      have hlt : d < l.length := by omega
      rw [List.drop_eq_getElem_cons hlt, List.reverse_cons]
      congr 2
      unfold rd_T33
      rw [Int.toNat_natCast, List.getD_eq_getElem?_getD, List.getElem?_eq_getElem hlt]
      rfl
    have ih := back_l0 l hl less hless h1 h2 d k (by omega) (by omega)
    rw [← e1] at ih
    rw [hamperlaw21_QuickBack.l0, e0, if_pos (by omega), if_pos (by omega), if_pos (by omega), if_pos (by rw [List.length_reverse, List.length_drop]; omega), wrap_id (by omega) (by omega)]
    exact ih
theorem back_j3 (l : List MS) (hl : l.length ≤ 500) (hm : mayQ l = true) (n : Int) (k : Nat) (hk : 600 ≤ k) : hamperlaw21_QuickBack.j3 k l n false = some true := by
  obtain ⟨k, rfl⟩ : ∃ q, k = q + 1 := ⟨k - 1, by omega⟩
  rw [hamperlaw21_QuickBack.j3, if_neg (by decide)]
  by_cases h0 : l.length = 0
  · rw [if_pos (by omega)]
  · rw [if_neg (by omega)]
    obtain ⟨hu, q, hq, hw⟩ := cut_at n l.length (by omega) (by omega)
    rw [if_neg hu, hw, Int.toNat_natCast]
    refine bind_eq rfl ?_
    rw [if_pos (by omega), if_pos (by omega)]
    refine bind_eq rfl ?_
    rw [if_pos (by rw [List.length_nil, List.length_take]; omega)]
    refine bind_eq rfl ?_
    rw [wrap_id (by omega) (by omega), if_pos (by omega), if_pos (by omega)]
    refine bind_eq rfl ?_
    rw [if_pos (by rw [List.nil_append, List.length_take, List.length_drop]; omega), wrap_id (x := (l.length : Int) - 1) (by omega) (by omega), List.nil_append, show ((q : Int) + 1).toNat = q + 1 by omega]
    have hsub : (l.take q ++ l.drop (q + 1)).Sublist l := by
      rw [← List.eraseIdx_eq_take_drop_succ]
      exact List.eraseIdx_sublist l q
    have h := back_l0 l hl (l.take q ++ l.drop (q + 1)) (by rw [List.length_append, List.length_take, List.length_drop]; omega) (may_sub hsub hm) (may_rev hm) l.length k (Nat.le_refl _) (by omega)
    rw [List.drop_length] at h
    exact h
theorem back_j2 (l : List MS) (hl : l.length ≤ 500) (n x : Int) (hx : 0 ≤ x ∧ x ≤ 255) (k : Nat) (hk : 700 ≤ k) : hamperlaw21_QuickBack.j2 k l n x (makeQ l).1 ((makeQ l).2 != 0) = some true := by
  obtain ⟨k, rfl⟩ : ∃ q, k = q + 1 := ⟨k - 1, by omega⟩
  rw [hamperlaw21_QuickBack.j2]
  by_cases h0 : (makeQ l).2 = 0
  · have hm : mayQ l = true := by unfold mayQ; exact beq_iff_eq.2 h0
    obtain ⟨t, ht⟩ : ∃ t, makeQ l = (t, 0) := ⟨(makeQ l).1, Prod.ext rfl h0⟩
    rw [ht, if_neg (by simp)]
    dsimp only
    obtain ⟨_, hl64, _, hz, hb⟩ := made_parts ht
    have hc := catQ_size l
    have hz1 : 37 ≤ t.size := by omega
    have hz2 : t.size ≤ 100000 := by omega
    clear hz hb hc
    refine bind_eq (qread_b k t (by omega)) ?_
    rw [read_make ht, wrap_id (x := (t.size : Int) - 1) (by omega) (by omega), if_pos (by omega), if_pos (by omega), show ((t.size : Int) - 1).toNat = t.size - 1 by omega]
    refine bind_eq (qread_b k _ (by rw [ByteArray.size_extract]; omega)) ?_
    rw [short_refused ht]
    refine bind_eq rfl ?_
    rw [if_pos (by rw [size_nums, List.length_singleton]; omega)]
    refine bind_eq (qread_b k _ (by rw [ByteArray.size_append, size_nums, List.length_singleton]; omega)) ?_
    rw [long_refused ht]
    refine bind_eq rfl ?_
    have hbl : (bytesOf t).length = t.size := Go.Proofs.YtbeibmdccjgcmaaDoorW.PrintWords.bytesOf_length t
    obtain ⟨_, r, hr, hw⟩ := cut_at n 32 (by decide) (by decide)
    have hw2 : wrap64 (Int.tmod (IntKind.u64.wrap n) 32) = (r : Int) := hw
    rw [hbl, hw2, wrap_id (x := (t.size : Int) - 1) (by omega) (by omega), wrap_id (x := (t.size : Int) - 1 - (r : Int)) (by omega) (by omega)]
    obtain ⟨q, hq⟩ : ∃ q : Nat, (t.size : Int) - 1 - (r : Int) = (q : Int) := ⟨t.size - 1 - r, by omega⟩
    rw [hq, if_pos (by omega), if_pos (by omega), Int.toNat_natCast]
    have hT := sum_turned ht q (by omega) (by omega) x hx
    unfold turnB at hT
    refine bind_eq (qread_b k _ (by rw [size_nums, List.length_set, hbl]; omega)) ?_
    rw [hT, if_pos rfl]
    refine bind_eq (same_f l l (by omega) k (by omega)).1 ?_
    rw [sameQ_self, if_pos rfl]
    have hrd : rd (bytesOf t) (q : Int) = (bytesOf t).getD q 0 := by unfold rd; rw [Int.toNat_natCast]
    rw [hrd]
    have h3 := back_j3 l hl hm n k (by omega)
    by_cases e : (bytesOf t).getD q 0 = x
    · rw [if_pos e, e, if_neg (by simp), if_pos rfl]
      exact h3
    · rw [if_neg e, beq_eq_false_iff_ne.2 e, if_neg (by simp), if_pos rfl]
      exact h3
  · have hm : mayQ l = false := by unfold mayQ; exact beq_eq_false_iff_ne.2 h0
    have he : (makeQ l).1 = ⟨#[]⟩ := made_none h0
    rw [bne_iff_ne.2 h0, if_pos rfl, if_pos ((tl_nil _).2 he)]
    refine bind_eq (qmay_f k l (by omega)) ?_
    rw [hm]
    rfl
theorem back_j1 (l : List MS) (hl : l.length ≤ 500) (n x : Int) (hx : 0 ≤ x ∧ x ≤ 255) (k : Nat) (hk : 800 ≤ k) : hamperlaw21_QuickBack.j1 k l n x = some true := by
  obtain ⟨k, rfl⟩ : ∃ q, k = q + 1 := ⟨k - 1, by omega⟩
  rw [hamperlaw21_QuickBack.j1]
  refine bind_eq (qmake_f k l (by omega)) ?_
  refine bind_eq (qmay_f k l (by omega)) ?_
  rw [show mayQ l = ((makeQ l).2 == 0) from rfl, if_neg (by simp)]
  exact back_j2 l hl n x hx k (by omega)
theorem back_j0 (l : List MS) (hl : l.length ≤ 500) (s : ByteArray) (hs : s.size ≤ 20000) (n x : Int) (hx : 0 ≤ x ∧ x ≤ 255) (k : Nat) (hk : 900 ≤ k) : hamperlaw21_QuickBack.j0 k l s n x false = some true := by
  obtain ⟨k, rfl⟩ : ∃ q, k = q + 1 := ⟨k - 1, by omega⟩
  rw [hamperlaw21_QuickBack.j0, if_neg (by decide)]
  refine bind_eq (qread_b k s (by omega)) ?_
  have h1 := back_j1 l hl n x hx k (by omega)
  rcases readQ_cases s with e | ⟨m, e, hm⟩
  · rw [e, if_neg (by decide)]
    exact h1
  · obtain ⟨_, hm64, _, _, _⟩ := made_parts hm
    have hmm : mayQ m = true := by unfold mayQ; rw [hm]; rfl
    rw [e, if_pos rfl]
    refine bind_eq (qmake_f k m (by omega)) ?_
    rw [hm, if_pos rfl, if_pos rfl]
    refine bind_eq (qmay_f k m (by omega)) ?_
    rw [hmm, if_pos rfl]
    exact h1
theorem QuickBack (l : List MS) (hll : l.length ≤ 9223372036854775807) (hnm : ∀ x ∈ l, x.f0.size ≤ 140737488351232) (s : ByteArray) (n x : Int) (hx : 0 ≤ x ∧ x ≤ 255) : hamperlaw21_QuickBack.f 5000 l s n x = some true := by
  have hj : ∀ k, hamperlaw21_QuickBack.j0 (k + 1) l s n x true = some true := fun k => by
    rw [hamperlaw21_QuickBack.j0, if_pos rfl]
    exact bind_eq (works_f _) rfl
  unfold hamperlaw21_QuickBack.f
  refine bind_eq (works_f _) ?_
  rw [if_pos rfl]
  obtain ⟨b, e, hb⟩ := large_f l hll hnm 5000 (by decide)
  refine bind_eq e ?_
  cases b with
  | true =>
    rw [if_pos rfl]
    exact hj 4999
  | false =>
    obtain ⟨h1, _⟩ := hb rfl
    rw [if_neg (by decide)]
    by_cases hbig : (s.size : Int) > 20000
    · rw [decide_eq_true hbig]
      exact hj 4999
    · rw [decide_eq_false hbig]
      exact back_j0 l h1 s (by omega) n x hx 5000 (by decide)
theorem QuickBack_walk (A : Option Addr) (c : Nat) (l : List MS) (s : ByteArray) (n x : Int) (w : World) (hr : Kd.C k33 w A l.length l) (hc : l.length ≤ c) (hwl : ∀ p ∈ l, p.f0.size ≤ 140737488351232 ∧ (Lit.int .i64 p.f1).wf = true ∧ (Lit.int .i64 p.f2).wf = true ∧ (Lit.int .i64 p.f3).wf = true ∧ p.f4.size ≤ 140737488351232)
    (_ : s.size ≤ 140737488351232) (_ : (Lit.int .i64 n).wf = true) (hx : (Lit.int .u8 x).wf = true) (hT : Me.Tabs w) :
    Calls Tryd.prog 7 #[.slice A l.length c, .string s, .int .i64 n, .int .u8 x] w fun e w' => e = .returned (.bool true) ∧ Below w.heap.size w w' :=
  hamperlaw21_QuickBack.calls 5000 A c l s n x true w hT hr hc (QuickBack l hr.2.1 (fun y hy => (hwl y hy).1) s n x (byte_of hx)) rfl
end Go.Proofs.YtbeibmdccjgcmaaDoor.PQu
