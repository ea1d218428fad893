import Derived.Test.YteplphpbpaojjaaDoorPMax0
import Derived.Test.YteplphpbpaojjaaDoorPMax1
import Derived.Test.YteplphpbpaojjaaDoorPMax22
import Derived.Test.YteplphpbpaojjaaDoorPMax34
import Derived.Test.YteplphpbpaojjaaDoorPMax38
import Derived.Test.YteplphpbpaojjaaDoorPMax54
import Derived.Test.YteplphpbpaojjaaDoorPMax55
import Derived.Test.YteplphpbpaojjaaDoorMetaOfR0
-- Made by a program of this session (wip/tools/trueonly.py, trueflat.py) out of the seat's translation.
namespace Go.Proofs.YteplphpbpaojjaaDoor.PMa
open Go.RowKit Go.Proofs.YteplphpbpaojjaaDoorW.PrintWords Go.Proofs.YteplphpbpaojjaaDoorW.PrintLast Go.Proofs.YteplphpbpaojjaaDoorW.PrintMore
attribute [local go_sem] max2_int min2_int max_two min_two max_three min_three max_four min_four   -- for this text's walks alone
attribute [local go_sem high] eqA25 eqA37
set_option linter.unusedVariables false
set_option linter.unusedSimpArgs false
set_option linter.defProp false
namespace hamperlaw19_MetaOf
def lb (n m : Nat) : Array Bool := ((List.range n).map m.testBit).toArray
def sa.{u} := @List.setIfInBounds_toArray.{u}
def sb.{u} := @List.set_cons_zero.{u}
def sc.{u} := @List.set_cons_succ.{u}
def pu := @pure_
def ao := @any_of
theorem am {p : Prop} (h : p) : Aside0 p := Aside0.mk h
end hamperlaw19_MetaOf
open hamperlaw19_MetaOf
set_option maxHeartbeats 8000000 in
set_option maxRecDepth 100000 in
theorem hamperlaw19_MetaOf.calls (k : Nat) (a0_0 : ByteArray) (a0_1 : Int) (a0_2 : Int) (a0_3 : ByteArray) (a1_0 : ByteArray) (a1_1 : Int) (a1_2 : Int) (a1_3 : ByteArray) (r : Bool) (w : World) (hTabs : Me.Tabs w) (h : hamperlaw19_MetaOf.f k a0_0 a0_1 a0_2 a0_3 a1_0 a1_1 a1_2 a1_3 = some r) :
    Calls Tryd.prog 7 #[.agg #[.string a0_0, .int .i64 a0_1, .int .i64 a0_2, .string a0_3], .agg #[.string a1_0, .int .i64 a1_1, .int .i64 a1_2, .string a1_3]] w fun e w' => e = .returned (.bool r) ∧ Below w.heap.size w w' := by
 have hu37 := Tryd.underlying37
 have hu25 := Tryd.underlying25
 have HB := am (Below.refl w.heap.size w)
 have HTB := am hTabs
 clear hTabs
 have H : ((hamperlaw19_works.f k).bind fun t151 => (if t151 = true then (if (a0_3.size : Int) > 5000 then (j0 k true a0_0 a0_1 a0_2 a0_3 a1_0 a1_1 a1_2 a1_3) else (j0 k (decide ((a1_3.size : Int) > 5000)) a0_0 a0_1 a0_2 a0_3 a1_0 a1_1 a1_2 a1_3)) else (j0 k true a0_0 a0_1 a0_2 a0_3 a1_0 a1_1 a1_2 a1_3))) = some r := h
 clear h
 have HC3 := am H
 clear H
 go_enter Tryd.func7, Tryd.ntmps7
 go_upto_region 1 with (first | ((with_reducible refine gate_dst (N := 2) rfl ?_); (try (refine gate_guard (by rfl) ?_; dsimp only)); refine box_event ?hg (N := 2) ?hd (cs := #[.string a0_0, .int .i64 a0_1, .int .i64 a0_2, .string a0_3]) (t := 37) ?hr ?_; (case hd => rfl); (case hg => rfl); (case hr => first | (go_simp; done) | (go_simp; rfl)); intro g149 hg w4 hbox hb; have n0_ := am (below_step (by repeat (first | (with_reducible first | exact HB.out | apply below_alloc | apply pw_below_drewN | apply below_drew1) | exact HB.out)) hb); have n1_ := am (hbox); have n2_ := am ((by rw [hg]; exact (below_size (by repeat (first | (with_reducible first | exact HB.out | apply below_alloc | apply pw_below_drewN | apply below_drew1) | exact HB.out))) : w.heap.size ≤ g149)); have n3_ := am ((by rw [hg]; exact (below_size (by repeat (first | (with_reducible first | exact HB.out | apply below_alloc | apply pw_below_drewN | apply below_drew1) | exact HB.out))) : w.heap.size ≤ g149)); clear HB; have HB := n0_; have B149 := n1_; have GW149 := n2_; have GE149 := n3_; clear n0_ n1_ n2_ n3_; clear hb hbox hg) | ((with_reducible refine gate_dst (N := 3) rfl ?_); (try (refine gate_guard (by rfl) ?_; dsimp only)); refine box_event ?hg (N := 3) ?hd (cs := #[.string a1_0, .int .i64 a1_1, .int .i64 a1_2, .string a1_3]) (t := 37) ?hr ?_; (case hd => rfl); (case hg => rfl); (case hr => first | (go_simp; done) | (go_simp; rfl)); intro g150 hg w5 hbox hb; have n0_ := am (blk_below (g := g149) (o := .cells #[.string a0_0, .int .i64 a0_1, .int .i64 a0_2, .string a0_3] 37 (0, 0)) (by (with_reducible repeat (first | refine blk_drewN ?_ _ | refine blk_drew ?_ | refine blk_alloc ?_ _)); exact B149.out) hb); have n1_ := am (below_step (by repeat (first | (with_reducible first | exact HB.out | apply below_alloc | apply pw_below_drewN | apply below_drew1 | refine below_set ?_ GE149.out) | exact HB.out)) hb); have n2_ := am (hbox); have n3_ := am ((by rw [hg]; exact (below_size (by repeat (first | (with_reducible first | exact HB.out | apply below_alloc | apply pw_below_drewN | apply below_drew1 | refine below_set ?_ GE149.out) | exact HB.out))) : w.heap.size ≤ g150)); have n4_ := am ((by rw [hg]; exact (below_size (by repeat (first | (with_reducible first | exact HB.out | apply below_alloc | apply pw_below_drewN | apply below_drew1 | refine below_set ?_ GE149.out) | exact HB.out))) : w.heap.size ≤ g150)); have n5_ := am ((by rw [hg]; exact Nat.ne_of_lt (blk_lt (g := g149) (o := .cells #[.string a0_0, .int .i64 a0_1, .int .i64 a0_2, .string a0_3] 37 (0, 0)) (by (with_reducible repeat (first | refine blk_drewN ?_ _ | refine blk_drew ?_ | refine blk_alloc ?_ _)); exact B149.out)) : g149 ≠ g150)); have n6_ := am ((by rw [hg]; exact Nat.ne_of_gt (blk_lt (g := g149) (o := .cells #[.string a0_0, .int .i64 a0_1, .int .i64 a0_2, .string a0_3] 37 (0, 0)) (by (with_reducible repeat (first | refine blk_drewN ?_ _ | refine blk_drew ?_ | refine blk_alloc ?_ _)); exact B149.out)) : g150 ≠ g149)); clear B149; clear HB; have B149 := n0_; have HB := n1_; have B150 := n2_; have GW150 := n3_; have GE150 := n4_; have NB149_150 := n5_; have NB150_149 := n6_; clear n0_ n1_ n2_ n3_ n4_ n5_ n6_; clear hb hbox hg))
 (try simp only [Act.put, sa, sb, sc])
 go_cut [20] (fun v20 wc => ∃ (kq : Nat) (x20_2 : Bool), v20 = .bool x20_2 ∧ Aside0 (j0 kq x20_2 a0_0 a0_1 a0_2 a0_3 a1_0 a1_1 a1_2 a1_3 = some r) ∧ Aside0 (kq ≤ k) ∧ Aside0 (wc.heap[g149]? = some (.cells #[.string a0_0, .int .i64 a0_1, .int .i64 a0_2, .string a0_3] 37 (0, 0))) ∧ Aside0 (wc.heap[g150]? = some (.cells #[.string a1_0, .int .i64 a1_1, .int .i64 a1_2, .string a1_3] 37 (0, 0))) ∧ Aside0 (Below w.heap.size w wc))
 case first =>
  have H := HC3.out
  clear HC3
  replace H := Option.bind_eq_some_iff.mp H
  obtain ⟨t151, A60, H⟩ := H
  replace H : (if t151 = true then (if (a0_3.size : Int) > 5000 then (j0 k true a0_0 a0_1 a0_2 a0_3 a1_0 a1_1 a1_2 a1_3) else (j0 k (decide ((a1_3.size : Int) > 5000)) a0_0 a0_1 a0_2 a0_3 a1_0 a1_1 a1_2 a1_3)) else (j0 k true a0_0 a0_1 a0_2 a0_3 a1_0 a1_1 a1_2 a1_3)) = some r := H
  have A6 := am A60
  clear A60
  by_cases c7 : t151 = true
  ·
   subst c7
   have H1 : (if (a0_3.size : Int) > 5000 then (j0 k true a0_0 a0_1 a0_2 a0_3 a1_0 a1_1 a1_2 a1_3) else (j0 k (decide ((a1_3.size : Int) > 5000)) a0_0 a0_1 a0_2 a0_3 a1_0 a1_1 a1_2 a1_3)) = some r := by rw [if_pos rfl] at H; exact H
   clear H
   have H := H1
   clear H1
   by_cases c8 : (a0_3.size : Int) > 5000
   ·
    rw [if_pos c8] at H
    have c8b0 : decide (5000 < (a0_3.size : Int)) = true := decide_eq_true c8
    have c8b1 : decide (5000 < a0_3.size) = true := decide_eq_true (by omega)
    clear c8
    (first | rw [c8b0] | (simp only [i64_w, i32_w]; rw [c8b0]) | skip)
    have H' := am H
    clear H
    go_wp2_with (first | ((with_reducible refine gate_callee (f := 10) rfl ?_); refine goesL_ (some 7) rfl rfl Tryd.func10 (by kernel_rfl) rfl #[] rfl (by (try simp only [List.map_toArray, List.map_cons, List.map_nil]); first | done | rfl | (simp only [List.length_drop, List.length_take]; rfl)) ?_; (with_reducible refine (hamperlaw19_works.calls (hTabs := HTB.out.below (by repeat (first | (with_reducible first | exact HB.out | apply below_alloc | apply pw_below_drewN | apply below_drew1 | refine below_set ?_ GE149.out | refine below_set ?_ GE150.out) | exact HB.out))) k  true _ A6.out).mono ?_); rintro e w9 ⟨rfl, hb⟩; refine ⟨_, rfl, ?_⟩; have n0_ := am (blk_below (g := g149) (o := .cells #[.string a0_0, .int .i64 a0_1, .int .i64 a0_2, .string a0_3] 37 (0, 0)) (by (with_reducible repeat (first | refine blk_drewN ?_ _ | refine blk_drew ?_ | refine blk_alloc ?_ _)); exact B149.out) hb); have n1_ := am (blk_below (g := g150) (o := .cells #[.string a1_0, .int .i64 a1_1, .int .i64 a1_2, .string a1_3] 37 (0, 0)) (by (with_reducible repeat (first | refine blk_drewN ?_ _ | refine blk_drew ?_ | refine blk_alloc ?_ _)); exact B150.out) hb); have n2_ := am (below_step (by repeat (first | (with_reducible first | exact HB.out | apply below_alloc | apply pw_below_drewN | apply below_drew1 | refine below_set ?_ GE149.out | refine below_set ?_ GE150.out) | exact HB.out)) hb); clear B149; clear B150; clear HB; have B149 := n0_; have B150 := n1_; have HB := n2_; clear n0_ n1_ n2_; (try clear hb); (try clear hb2); (try clear hk); (try clear hi); have hnb10 := NB149_150.out; have hnc10 := NB150_149.out; have hcz11_0 : w9.cell? ⟨g149, 0, none⟩ = some (.string a0_0) := (blk_cell B149.out 0).trans rfl; have hcz11_1 : w9.cell? ⟨g149, 1, none⟩ = some (.int .i64 a0_1) := (blk_cell B149.out 1).trans rfl; have hcz11_2 : w9.cell? ⟨g149, 2, none⟩ = some (.int .i64 a0_2) := (blk_cell B149.out 2).trans rfl; have hcz11_3 : w9.cell? ⟨g149, 3, none⟩ = some (.string a0_3) := (blk_cell B149.out 3).trans rfl; have hfz11_0 := blk_frozen B149.out 0; have hfz11_1 := blk_frozen B149.out 1; have hfz11_2 := blk_frozen B149.out 2; have hfz11_3 := blk_frozen B149.out 3))
    go_meet
    case rel => exact ⟨_, (true), (by first | rfl | (simp; done) | (simp [*]; done)), H', ⟨by first | omega | exact Nat.le_refl _⟩, ⟨by (with_reducible repeat (first | refine blk_drewN ?_ _ | refine blk_drew ?_ | refine blk_alloc ?_ _)); exact B149.out⟩, ⟨by (with_reducible repeat (first | refine blk_drewN ?_ _ | refine blk_drew ?_ | refine blk_alloc ?_ _)); exact B150.out⟩, ⟨by repeat (first | (with_reducible first | exact HB.out | apply below_alloc | apply pw_below_drewN | apply below_drew1 | refine below_set ?_ GE149.out | refine below_set ?_ GE150.out) | exact HB.out)⟩⟩
   ·
    rw [if_neg c8] at H
    have c8b0 : decide (5000 < (a0_3.size : Int)) = false := decide_eq_false c8
    have c8b1 : decide (5000 < a0_3.size) = false := decide_eq_false (by omega)
    clear c8
    (first | rw [c8b0] | (simp only [i64_w, i32_w]; rw [c8b0]) | skip)
    have H' := am H
    clear H
    go_wp2_with (first | ((with_reducible refine gate_callee (f := 10) rfl ?_); refine goesL_ (some 7) rfl rfl Tryd.func10 (by kernel_rfl) rfl #[] rfl (by (try simp only [List.map_toArray, List.map_cons, List.map_nil]); first | done | rfl | (simp only [List.length_drop, List.length_take]; rfl)) ?_; (with_reducible refine (hamperlaw19_works.calls (hTabs := HTB.out.below (by repeat (first | (with_reducible first | exact HB.out | apply below_alloc | apply pw_below_drewN | apply below_drew1 | refine below_set ?_ GE149.out | refine below_set ?_ GE150.out) | exact HB.out))) k  true _ A6.out).mono ?_); rintro e w12 ⟨rfl, hb⟩; refine ⟨_, rfl, ?_⟩; have n0_ := am (blk_below (g := g149) (o := .cells #[.string a0_0, .int .i64 a0_1, .int .i64 a0_2, .string a0_3] 37 (0, 0)) (by (with_reducible repeat (first | refine blk_drewN ?_ _ | refine blk_drew ?_ | refine blk_alloc ?_ _)); exact B149.out) hb); have n1_ := am (blk_below (g := g150) (o := .cells #[.string a1_0, .int .i64 a1_1, .int .i64 a1_2, .string a1_3] 37 (0, 0)) (by (with_reducible repeat (first | refine blk_drewN ?_ _ | refine blk_drew ?_ | refine blk_alloc ?_ _)); exact B150.out) hb); have n2_ := am (below_step (by repeat (first | (with_reducible first | exact HB.out | apply below_alloc | apply pw_below_drewN | apply below_drew1 | refine below_set ?_ GE149.out | refine below_set ?_ GE150.out) | exact HB.out)) hb); clear B149; clear B150; clear HB; have B149 := n0_; have B150 := n1_; have HB := n2_; clear n0_ n1_ n2_; (try clear hb); (try clear hb2); (try clear hk); (try clear hi); have hnb13 := NB149_150.out; have hnc13 := NB150_149.out; have hcz14_0 : w12.cell? ⟨g149, 0, none⟩ = some (.string a0_0) := (blk_cell B149.out 0).trans rfl; have hcz14_1 : w12.cell? ⟨g149, 1, none⟩ = some (.int .i64 a0_1) := (blk_cell B149.out 1).trans rfl; have hcz14_2 : w12.cell? ⟨g149, 2, none⟩ = some (.int .i64 a0_2) := (blk_cell B149.out 2).trans rfl; have hcz14_3 : w12.cell? ⟨g149, 3, none⟩ = some (.string a0_3) := (blk_cell B149.out 3).trans rfl; have hfz14_0 := blk_frozen B149.out 0; have hfz14_1 := blk_frozen B149.out 1; have hfz14_2 := blk_frozen B149.out 2; have hfz14_3 := blk_frozen B149.out 3; have hcz15_0 : w12.cell? ⟨g150, 0, none⟩ = some (.string a1_0) := (blk_cell B150.out 0).trans rfl; have hcz15_1 : w12.cell? ⟨g150, 1, none⟩ = some (.int .i64 a1_1) := (blk_cell B150.out 1).trans rfl; have hcz15_2 : w12.cell? ⟨g150, 2, none⟩ = some (.int .i64 a1_2) := (blk_cell B150.out 2).trans rfl; have hcz15_3 : w12.cell? ⟨g150, 3, none⟩ = some (.string a1_3) := (blk_cell B150.out 3).trans rfl; have hfz15_0 := blk_frozen B150.out 0; have hfz15_1 := blk_frozen B150.out 1; have hfz15_2 := blk_frozen B150.out 2; have hfz15_3 := blk_frozen B150.out 3))
    go_meet
    case rel => exact ⟨_, (decide ((a1_3.size : Int) > 5000)), (by first | rfl | (simp; done) | (simp [*]; done)), H', ⟨by first | omega | exact Nat.le_refl _⟩, ⟨by (with_reducible repeat (first | refine blk_drewN ?_ _ | refine blk_drew ?_ | refine blk_alloc ?_ _)); exact B149.out⟩, ⟨by (with_reducible repeat (first | refine blk_drewN ?_ _ | refine blk_drew ?_ | refine blk_alloc ?_ _)); exact B150.out⟩, ⟨by repeat (first | (with_reducible first | exact HB.out | apply below_alloc | apply pw_below_drewN | apply below_drew1 | refine below_set ?_ GE149.out | refine below_set ?_ GE150.out) | exact HB.out)⟩⟩
  ·
   replace c7 := Bool.eq_false_iff.mpr c7
   subst c7
   have H1 : (j0 k true a0_0 a0_1 a0_2 a0_3 a1_0 a1_1 a1_2 a1_3) = some r := by rw [if_neg (show ¬ (false = true) by decide)] at H; exact H
   clear H
   have H := H1
   clear H1
   have H' := am H
   clear H
   go_wp2_with (first | ((with_reducible refine gate_callee (f := 10) rfl ?_); refine goesL_ (some 7) rfl rfl Tryd.func10 (by kernel_rfl) rfl #[] rfl (by (try simp only [List.map_toArray, List.map_cons, List.map_nil]); first | done | rfl | (simp only [List.length_drop, List.length_take]; rfl)) ?_; (with_reducible refine (hamperlaw19_works.calls (hTabs := HTB.out.below (by repeat (first | (with_reducible first | exact HB.out | apply below_alloc | apply pw_below_drewN | apply below_drew1 | refine below_set ?_ GE149.out | refine below_set ?_ GE150.out) | exact HB.out))) k  false _ A6.out).mono ?_); rintro e w16 ⟨rfl, hb⟩; refine ⟨_, rfl, ?_⟩; have n0_ := am (blk_below (g := g149) (o := .cells #[.string a0_0, .int .i64 a0_1, .int .i64 a0_2, .string a0_3] 37 (0, 0)) (by (with_reducible repeat (first | refine blk_drewN ?_ _ | refine blk_drew ?_ | refine blk_alloc ?_ _)); exact B149.out) hb); have n1_ := am (blk_below (g := g150) (o := .cells #[.string a1_0, .int .i64 a1_1, .int .i64 a1_2, .string a1_3] 37 (0, 0)) (by (with_reducible repeat (first | refine blk_drewN ?_ _ | refine blk_drew ?_ | refine blk_alloc ?_ _)); exact B150.out) hb); have n2_ := am (below_step (by repeat (first | (with_reducible first | exact HB.out | apply below_alloc | apply pw_below_drewN | apply below_drew1 | refine below_set ?_ GE149.out | refine below_set ?_ GE150.out) | exact HB.out)) hb); clear B149; clear B150; clear HB; have B149 := n0_; have B150 := n1_; have HB := n2_; clear n0_ n1_ n2_; (try clear hb); (try clear hb2); (try clear hk); (try clear hi)))
   go_meet
   case rel => exact ⟨_, (true), (by first | rfl | (simp; done) | (simp [*]; done)), H', ⟨by first | omega | exact Nat.le_refl _⟩, ⟨by (with_reducible repeat (first | refine blk_drewN ?_ _ | refine blk_drew ?_ | refine blk_alloc ?_ _)); exact B149.out⟩, ⟨by (with_reducible repeat (first | refine blk_drewN ?_ _ | refine blk_drew ?_ | refine blk_alloc ?_ _)); exact B150.out⟩, ⟨by repeat (first | (with_reducible first | exact HB.out | apply below_alloc | apply pw_below_drewN | apply below_drew1 | refine below_set ?_ GE149.out | refine below_set ?_ GE150.out) | exact HB.out)⟩⟩
 case rest =>
  clear HC3
  try clear c1
  try clear p2
  try clear c7
  try clear c8
  try clear c8b0
  try clear c8b1
  try clear c10
  try clear c13
  try clear hcz11_0
  try clear hcz11_1
  try clear hcz11_2
  try clear hcz11_3
  try clear hcz14_0
  try clear hcz14_1
  try clear hcz14_2
  try clear hcz14_3
  try clear hcz15_0
  try clear hcz15_1
  try clear hcz15_2
  try clear hcz15_3
  try clear hfz11_0
  try clear hfz11_1
  try clear hfz11_2
  try clear hfz11_3
  try clear hfz14_0
  try clear hfz14_1
  try clear hfz14_2
  try clear hfz14_3
  try clear hfz15_0
  try clear hfz15_1
  try clear hfz15_2
  try clear hfz15_3
  obtain ⟨kq, x20_2, rfl, HA, HJ2, B149, B150, HB⟩ := hcut
  cases kq with
  | zero => exact absurd HA.out (by simp [j0])
  | succ kj2 =>
   have H := HA.out
   clear HA
   simp only [j0] at H
   by_cases c17 : x20_2 = true
   ·
    subst c17
    have H1 : ((hamperlaw19_works.f kj2).bind fun t152 => (some t152)) = some r := by rw [if_pos rfl] at H; exact H
    clear H
    have H := H1
    clear H1
    replace H := Option.bind_eq_some_iff.mp H
    obtain ⟨t152, A180, H⟩ := H
    replace H : (some t152) = some r := H
    have A18 := am A180
    clear A180
    obtain rfl := Option.some.inj H
    go_wp2_with (first | ((with_reducible refine gate_callee (f := 10) rfl ?_); refine goesL_ (some 21) rfl rfl Tryd.func10 (by kernel_rfl) rfl #[] rfl (by (try simp only [List.map_toArray, List.map_cons, List.map_nil]); first | done | rfl | (simp only [List.length_drop, List.length_take]; rfl)) ?_; (with_reducible refine (hamperlaw19_works.calls (hTabs := HTB.out.below (by repeat (first | (with_reducible first | exact HB.out | apply below_alloc | apply pw_below_drewN | apply below_drew1 | refine below_set ?_ GE149.out | refine below_set ?_ GE150.out) | exact HB.out))) kj2  t152 _ A18.out).mono ?_); rintro e w19 ⟨rfl, hb⟩; refine ⟨_, rfl, ?_⟩; have n0_ := am (blk_below (g := g149) (o := .cells #[.string a0_0, .int .i64 a0_1, .int .i64 a0_2, .string a0_3] 37 (0, 0)) (by (with_reducible repeat (first | refine blk_drewN ?_ _ | refine blk_drew ?_ | refine blk_alloc ?_ _)); exact B149.out) hb); have n1_ := am (blk_below (g := g150) (o := .cells #[.string a1_0, .int .i64 a1_1, .int .i64 a1_2, .string a1_3] 37 (0, 0)) (by (with_reducible repeat (first | refine blk_drewN ?_ _ | refine blk_drew ?_ | refine blk_alloc ?_ _)); exact B150.out) hb); have n2_ := am (below_step (by repeat (first | (with_reducible first | exact HB.out | apply below_alloc | apply pw_below_drewN | apply below_drew1 | refine below_set ?_ GE149.out | refine below_set ?_ GE150.out) | exact HB.out)) hb); clear B149; clear B150; clear HB; have B149 := n0_; have B150 := n1_; have HB := n2_; clear n0_ n1_ n2_; (try clear hb); (try clear hb2); (try clear hk); (try clear hi)))
    go_ret
    exact ⟨by first | rfl | (simp [errW_none, errW_some] <;> rfl) | (simp [*, errW_none, errW_some] <;> rfl), by repeat (first | (with_reducible first | exact HB.out | apply below_alloc | apply pw_below_drewN | apply below_drew1 | refine below_set ?_ GE149.out | refine below_set ?_ GE150.out) | exact HB.out)⟩
   ·
    replace c17 := Bool.eq_false_iff.mpr c17
    subst c17
    have H1 : ((meta_Of.f a0_0 a0_1 a0_2 a0_3).bind fun bt153 => ((meta_Of.f a1_0 a1_1 a1_2 a1_3).bind fun bt159 => (if bt153.1.toList = a0_0.toList then (if bt153.2.1 = a0_1 then (if bt153.2.2.1 = a0_2 then (if bt153.2.2.2.1 = (a0_3.size : Int) then ((blake_Sum.f a0_3).bind fun t165 => (j1 kj2 (bt153.2.2.2.2.toList != t165.toList) a0_0 a0_1 a0_2 a0_3 a1_0 a1_1 a1_2 a1_3 bt153.1 bt153.2.1 bt153.2.2.1 bt153.2.2.2.1 bt153.2.2.2.2 bt159.1 bt159.2.1 bt159.2.2.1 bt159.2.2.2.1 bt159.2.2.2.2)) else (j1 kj2 true a0_0 a0_1 a0_2 a0_3 a1_0 a1_1 a1_2 a1_3 bt153.1 bt153.2.1 bt153.2.2.1 bt153.2.2.2.1 bt153.2.2.2.2 bt159.1 bt159.2.1 bt159.2.2.1 bt159.2.2.2.1 bt159.2.2.2.2)) else (j1 kj2 true a0_0 a0_1 a0_2 a0_3 a1_0 a1_1 a1_2 a1_3 bt153.1 bt153.2.1 bt153.2.2.1 bt153.2.2.2.1 bt153.2.2.2.2 bt159.1 bt159.2.1 bt159.2.2.1 bt159.2.2.2.1 bt159.2.2.2.2)) else (j1 kj2 true a0_0 a0_1 a0_2 a0_3 a1_0 a1_1 a1_2 a1_3 bt153.1 bt153.2.1 bt153.2.2.1 bt153.2.2.2.1 bt153.2.2.2.2 bt159.1 bt159.2.1 bt159.2.2.1 bt159.2.2.2.1 bt159.2.2.2.2)) else (j1 kj2 true a0_0 a0_1 a0_2 a0_3 a1_0 a1_1 a1_2 a1_3 bt153.1 bt153.2.1 bt153.2.2.1 bt153.2.2.2.1 bt153.2.2.2.2 bt159.1 bt159.2.1 bt159.2.2.1 bt159.2.2.2.1 bt159.2.2.2.2)))) = some r := by rw [if_neg (show ¬ (false = true) by decide)] at H; exact H
    clear H
    have H := H1
    clear H1
    replace H := Option.bind_eq_some_iff.mp H
    obtain ⟨⟨t153, t154, t155, t156, t157⟩, A200, H⟩ := H
    replace H : ((meta_Of.f a1_0 a1_1 a1_2 a1_3).bind fun bt159 => (if t153.toList = a0_0.toList then (if t154 = a0_1 then (if t155 = a0_2 then (if t156 = (a0_3.size : Int) then ((blake_Sum.f a0_3).bind fun t165 => (j1 kj2 (t157.toList != t165.toList) a0_0 a0_1 a0_2 a0_3 a1_0 a1_1 a1_2 a1_3 t153 t154 t155 t156 t157 bt159.1 bt159.2.1 bt159.2.2.1 bt159.2.2.2.1 bt159.2.2.2.2)) else (j1 kj2 true a0_0 a0_1 a0_2 a0_3 a1_0 a1_1 a1_2 a1_3 t153 t154 t155 t156 t157 bt159.1 bt159.2.1 bt159.2.2.1 bt159.2.2.2.1 bt159.2.2.2.2)) else (j1 kj2 true a0_0 a0_1 a0_2 a0_3 a1_0 a1_1 a1_2 a1_3 t153 t154 t155 t156 t157 bt159.1 bt159.2.1 bt159.2.2.1 bt159.2.2.2.1 bt159.2.2.2.2)) else (j1 kj2 true a0_0 a0_1 a0_2 a0_3 a1_0 a1_1 a1_2 a1_3 t153 t154 t155 t156 t157 bt159.1 bt159.2.1 bt159.2.2.1 bt159.2.2.2.1 bt159.2.2.2.2)) else (j1 kj2 true a0_0 a0_1 a0_2 a0_3 a1_0 a1_1 a1_2 a1_3 t153 t154 t155 t156 t157 bt159.1 bt159.2.1 bt159.2.2.1 bt159.2.2.2.1 bt159.2.2.2.2))) = some r := H
    have A20 := am A200
    clear A200
    replace H := Option.bind_eq_some_iff.mp H
    obtain ⟨⟨t159, t160, t161, t162, t163⟩, A210, H⟩ := H
    replace H : (if t153.toList = a0_0.toList then (if t154 = a0_1 then (if t155 = a0_2 then (if t156 = (a0_3.size : Int) then ((blake_Sum.f a0_3).bind fun t165 => (j1 kj2 (t157.toList != t165.toList) a0_0 a0_1 a0_2 a0_3 a1_0 a1_1 a1_2 a1_3 t153 t154 t155 t156 t157 t159 t160 t161 t162 t163)) else (j1 kj2 true a0_0 a0_1 a0_2 a0_3 a1_0 a1_1 a1_2 a1_3 t153 t154 t155 t156 t157 t159 t160 t161 t162 t163)) else (j1 kj2 true a0_0 a0_1 a0_2 a0_3 a1_0 a1_1 a1_2 a1_3 t153 t154 t155 t156 t157 t159 t160 t161 t162 t163)) else (j1 kj2 true a0_0 a0_1 a0_2 a0_3 a1_0 a1_1 a1_2 a1_3 t153 t154 t155 t156 t157 t159 t160 t161 t162 t163)) else (j1 kj2 true a0_0 a0_1 a0_2 a0_3 a1_0 a1_1 a1_2 a1_3 t153 t154 t155 t156 t157 t159 t160 t161 t162 t163)) = some r := H
    have A21 := am A210
    clear A210
    have HC22 := am H
    clear H
    have hnb23 := NB149_150.out
    have hnc23 := NB150_149.out
    have hcz24_0 : wc.cell? ⟨g149, 0, none⟩ = some (.string a0_0) := (blk_cell B149.out 0).trans rfl
    have hcz24_1 : wc.cell? ⟨g149, 1, none⟩ = some (.int .i64 a0_1) := (blk_cell B149.out 1).trans rfl
    have hcz24_2 : wc.cell? ⟨g149, 2, none⟩ = some (.int .i64 a0_2) := (blk_cell B149.out 2).trans rfl
    have hcz24_3 : wc.cell? ⟨g149, 3, none⟩ = some (.string a0_3) := (blk_cell B149.out 3).trans rfl
    have hfz24_0 := blk_frozen B149.out 0
    have hfz24_1 := blk_frozen B149.out 1
    have hfz24_2 := blk_frozen B149.out 2
    have hfz24_3 := blk_frozen B149.out 3
    go_upto_region 5 with (first | ((with_reducible refine gate_callee (f := 18) rfl ?_); refine goesL_ (some 23) rfl rfl Tryd.func18 (by kernel_rfl) rfl #[.agg #[.string a0_0, .int .i64 a0_1, .int .i64 a0_2, .string a0_3]] rfl (by (try simp only [List.map_toArray, List.map_cons, List.map_nil]); first | done | rfl | (simp only [List.length_drop, List.length_take]; rfl)) ?_; (with_reducible refine (meta_Of.calls a0_0 a0_1 a0_2 a0_3 t153 t154 t155 t156 t157 _ A20.out).mono ?_); rintro e w25 ⟨rfl, hb⟩; refine ⟨_, rfl, ?_⟩; have n0_ := am (blk_below (g := g149) (o := .cells #[.string a0_0, .int .i64 a0_1, .int .i64 a0_2, .string a0_3] 37 (0, 0)) (by (with_reducible repeat (first | refine blk_drewN ?_ _ | refine blk_drew ?_ | refine blk_alloc ?_ _)); exact B149.out) hb); have n1_ := am (blk_below (g := g150) (o := .cells #[.string a1_0, .int .i64 a1_1, .int .i64 a1_2, .string a1_3] 37 (0, 0)) (by (with_reducible repeat (first | refine blk_drewN ?_ _ | refine blk_drew ?_ | refine blk_alloc ?_ _)); exact B150.out) hb); have n2_ := am (below_step (by repeat (first | (with_reducible first | exact HB.out | apply below_alloc | apply pw_below_drewN | apply below_drew1 | refine below_set ?_ GE149.out | refine below_set ?_ GE150.out) | exact HB.out)) hb); clear B149; clear B150; clear HB; have B149 := n0_; have B150 := n1_; have HB := n2_; clear n0_ n1_ n2_; (try clear hb); (try clear hb2); (try clear hk); (try clear hi)) | ((with_reducible refine gate_dst (N := 5) rfl ?_); (try (refine gate_guard (by rfl) ?_; dsimp only)); refine box_event ?hg (N := 5) ?hd (cs := #[.string (⟨#[]⟩ : ByteArray), .int .i64 0, .int .i64 0, .int .i64 0, .string (⟨#[]⟩ : ByteArray)]) (t := 25) ?hr ?_; (case hd => rfl); (case hg => rfl); (case hr => first | (go_simp; done) | (go_simp; rfl)); intro g158 hg w26 hbox hb; have n0_ := am (blk_below (g := g149) (o := .cells #[.string a0_0, .int .i64 a0_1, .int .i64 a0_2, .string a0_3] 37 (0, 0)) (by (with_reducible repeat (first | refine blk_drewN ?_ _ | refine blk_drew ?_ | refine blk_alloc ?_ _)); exact B149.out) hb); have n1_ := am (blk_below (g := g150) (o := .cells #[.string a1_0, .int .i64 a1_1, .int .i64 a1_2, .string a1_3] 37 (0, 0)) (by (with_reducible repeat (first | refine blk_drewN ?_ _ | refine blk_drew ?_ | refine blk_alloc ?_ _)); exact B150.out) hb); have n2_ := am (below_step (by repeat (first | (with_reducible first | exact HB.out | apply below_alloc | apply pw_below_drewN | apply below_drew1 | refine below_set ?_ GE149.out | refine below_set ?_ GE150.out) | exact HB.out)) hb); have n3_ := am (hbox); have n4_ := am ((by rw [hg]; exact (below_size (by repeat (first | (with_reducible first | exact HB.out | apply below_alloc | apply pw_below_drewN | apply below_drew1 | refine below_set ?_ GE149.out | refine below_set ?_ GE150.out) | exact HB.out))) : w.heap.size ≤ g158)); have n5_ := am ((by rw [hg]; exact (below_size (by repeat (first | (with_reducible first | exact HB.out | apply below_alloc | apply pw_below_drewN | apply below_drew1 | refine below_set ?_ GE149.out | refine below_set ?_ GE150.out) | exact HB.out))) : w.heap.size ≤ g158)); have n6_ := am ((by rw [hg]; exact Nat.ne_of_lt (blk_lt (g := g149) (o := .cells #[.string a0_0, .int .i64 a0_1, .int .i64 a0_2, .string a0_3] 37 (0, 0)) (by (with_reducible repeat (first | refine blk_drewN ?_ _ | refine blk_drew ?_ | refine blk_alloc ?_ _)); exact B149.out)) : g149 ≠ g158)); have n7_ := am ((by rw [hg]; exact Nat.ne_of_gt (blk_lt (g := g149) (o := .cells #[.string a0_0, .int .i64 a0_1, .int .i64 a0_2, .string a0_3] 37 (0, 0)) (by (with_reducible repeat (first | refine blk_drewN ?_ _ | refine blk_drew ?_ | refine blk_alloc ?_ _)); exact B149.out)) : g158 ≠ g149)); have n8_ := am ((by rw [hg]; exact Nat.ne_of_lt (blk_lt (g := g150) (o := .cells #[.string a1_0, .int .i64 a1_1, .int .i64 a1_2, .string a1_3] 37 (0, 0)) (by (with_reducible repeat (first | refine blk_drewN ?_ _ | refine blk_drew ?_ | refine blk_alloc ?_ _)); exact B150.out)) : g150 ≠ g158)); have n9_ := am ((by rw [hg]; exact Nat.ne_of_gt (blk_lt (g := g150) (o := .cells #[.string a1_0, .int .i64 a1_1, .int .i64 a1_2, .string a1_3] 37 (0, 0)) (by (with_reducible repeat (first | refine blk_drewN ?_ _ | refine blk_drew ?_ | refine blk_alloc ?_ _)); exact B150.out)) : g158 ≠ g150)); clear B149; clear B150; clear HB; have B149 := n0_; have B150 := n1_; have HB := n2_; have B158 := n3_; have GW158 := n4_; have GE158 := n5_; have NB149_158 := n6_; have NB158_149 := n7_; have NB150_158 := n8_; have NB158_150 := n9_; clear n0_ n1_ n2_ n3_ n4_ n5_ n6_ n7_ n8_ n9_; clear hb hbox hg; have hnb27 := NB158_149.out; have hnc27 := NB149_158.out; have hnb28 := NB158_150.out; have hnc28 := NB150_158.out; have hcz29_0 : w26.cell? ⟨g158, 0, none⟩ = some (.string (⟨#[]⟩ : ByteArray)) := (blk_cell B158.out 0).trans rfl; have hcz29_1 : w26.cell? ⟨g158, 1, none⟩ = some (.int .i64 0) := (blk_cell B158.out 1).trans rfl; have hcz29_2 : w26.cell? ⟨g158, 2, none⟩ = some (.int .i64 0) := (blk_cell B158.out 2).trans rfl; have hcz29_3 : w26.cell? ⟨g158, 3, none⟩ = some (.int .i64 0) := (blk_cell B158.out 3).trans rfl; have hcz29_4 : w26.cell? ⟨g158, 4, none⟩ = some (.string (⟨#[]⟩ : ByteArray)) := (blk_cell B158.out 4).trans rfl; have hfz29_0 := blk_frozen B158.out 0; have hfz29_1 := blk_frozen B158.out 1; have hfz29_2 := blk_frozen B158.out 2; have hfz29_3 := blk_frozen B158.out 3; have hfz29_4 := blk_frozen B158.out 4; have hcz30_0 : w26.cell? ⟨g150, 0, none⟩ = some (.string a1_0) := (blk_cell B150.out 0).trans rfl; have hcz30_1 : w26.cell? ⟨g150, 1, none⟩ = some (.int .i64 a1_1) := (blk_cell B150.out 1).trans rfl; have hcz30_2 : w26.cell? ⟨g150, 2, none⟩ = some (.int .i64 a1_2) := (blk_cell B150.out 2).trans rfl; have hcz30_3 : w26.cell? ⟨g150, 3, none⟩ = some (.string a1_3) := (blk_cell B150.out 3).trans rfl; have hfz30_0 := blk_frozen B150.out 0; have hfz30_1 := blk_frozen B150.out 1; have hfz30_2 := blk_frozen B150.out 2; have hfz30_3 := blk_frozen B150.out 3) | ((with_reducible refine gate_callee (f := 18) rfl ?_); refine goesL_ (some 25) rfl rfl Tryd.func18 (by kernel_rfl) rfl #[.agg #[.string a1_0, .int .i64 a1_1, .int .i64 a1_2, .string a1_3]] rfl (by (try simp only [List.map_toArray, List.map_cons, List.map_nil]); first | done | rfl | (simp only [List.length_drop, List.length_take]; rfl)) ?_; (with_reducible refine (meta_Of.calls a1_0 a1_1 a1_2 a1_3 t159 t160 t161 t162 t163 _ A21.out).mono ?_); rintro e w31 ⟨rfl, hb⟩; refine ⟨_, rfl, ?_⟩; have n0_ := am (blk_below (g := g149) (o := .cells #[.string a0_0, .int .i64 a0_1, .int .i64 a0_2, .string a0_3] 37 (0, 0)) (by (with_reducible repeat (first | refine blk_drewN ?_ _ | refine blk_drew ?_ | refine blk_alloc ?_ _)); refine blk_far ?_ NB149_158.out _; (with_reducible repeat (first | refine blk_drewN ?_ _ | refine blk_drew ?_ | refine blk_alloc ?_ _)); refine blk_far ?_ NB149_158.out _; (with_reducible repeat (first | refine blk_drewN ?_ _ | refine blk_drew ?_ | refine blk_alloc ?_ _)); refine blk_far ?_ NB149_158.out _; (with_reducible repeat (first | refine blk_drewN ?_ _ | refine blk_drew ?_ | refine blk_alloc ?_ _)); refine blk_far ?_ NB149_158.out _; (with_reducible repeat (first | refine blk_drewN ?_ _ | refine blk_drew ?_ | refine blk_alloc ?_ _)); refine blk_far ?_ NB149_158.out _; (with_reducible repeat (first | refine blk_drewN ?_ _ | refine blk_drew ?_ | refine blk_alloc ?_ _)); exact B149.out) hb); have n1_ := am (blk_below (g := g150) (o := .cells #[.string a1_0, .int .i64 a1_1, .int .i64 a1_2, .string a1_3] 37 (0, 0)) (by (with_reducible repeat (first | refine blk_drewN ?_ _ | refine blk_drew ?_ | refine blk_alloc ?_ _)); refine blk_far ?_ NB150_158.out _; (with_reducible repeat (first | refine blk_drewN ?_ _ | refine blk_drew ?_ | refine blk_alloc ?_ _)); refine blk_far ?_ NB150_158.out _; (with_reducible repeat (first | refine blk_drewN ?_ _ | refine blk_drew ?_ | refine blk_alloc ?_ _)); refine blk_far ?_ NB150_158.out _; (with_reducible repeat (first | refine blk_drewN ?_ _ | refine blk_drew ?_ | refine blk_alloc ?_ _)); refine blk_far ?_ NB150_158.out _; (with_reducible repeat (first | refine blk_drewN ?_ _ | refine blk_drew ?_ | refine blk_alloc ?_ _)); refine blk_far ?_ NB150_158.out _; (with_reducible repeat (first | refine blk_drewN ?_ _ | refine blk_drew ?_ | refine blk_alloc ?_ _)); exact B150.out) hb); have n2_ := am (blk_below (g := g158) (o := .cells #[.string t153, .int .i64 t154, .int .i64 t155, .int .i64 t156, .string t157] 25 (0, 0)) (by (with_reducible repeat (first | refine blk_drewN ?_ _ | refine blk_drew ?_ | refine blk_alloc ?_ _)); refine blk_put (cs := #[.string t153, .int .i64 t154, .int .i64 t155, .int .i64 t156, .string (⟨#[]⟩ : ByteArray)]) ?_ 4 _ rfl; (with_reducible repeat (first | refine blk_drewN ?_ _ | refine blk_drew ?_ | refine blk_alloc ?_ _)); refine blk_put (cs := #[.string t153, .int .i64 t154, .int .i64 t155, .int .i64 0, .string (⟨#[]⟩ : ByteArray)]) ?_ 3 _ rfl; (with_reducible repeat (first | refine blk_drewN ?_ _ | refine blk_drew ?_ | refine blk_alloc ?_ _)); refine blk_put (cs := #[.string t153, .int .i64 t154, .int .i64 0, .int .i64 0, .string (⟨#[]⟩ : ByteArray)]) ?_ 2 _ rfl; (with_reducible repeat (first | refine blk_drewN ?_ _ | refine blk_drew ?_ | refine blk_alloc ?_ _)); refine blk_put (cs := #[.string t153, .int .i64 0, .int .i64 0, .int .i64 0, .string (⟨#[]⟩ : ByteArray)]) ?_ 1 _ rfl; (with_reducible repeat (first | refine blk_drewN ?_ _ | refine blk_drew ?_ | refine blk_alloc ?_ _)); refine blk_put (cs := #[.string (⟨#[]⟩ : ByteArray), .int .i64 0, .int .i64 0, .int .i64 0, .string (⟨#[]⟩ : ByteArray)]) ?_ 0 _ rfl; (with_reducible repeat (first | refine blk_drewN ?_ _ | refine blk_drew ?_ | refine blk_alloc ?_ _)); exact B158.out) hb); have n3_ := am (below_step (by repeat (first | (with_reducible first | exact HB.out | apply below_alloc | apply pw_below_drewN | apply below_drew1 | refine below_set ?_ GE149.out | refine below_set ?_ GE150.out | refine below_set ?_ GE158.out) | exact HB.out)) hb); clear B149; clear B150; clear B158; clear HB; have B149 := n0_; have B150 := n1_; have B158 := n2_; have HB := n3_; clear n0_ n1_ n2_ n3_; (try clear hb); (try clear hb2); (try clear hk); (try clear hi)) | ((with_reducible refine gate_dst (N := 6) rfl ?_); (try (refine gate_guard (by rfl) ?_; dsimp only)); refine box_event ?hg (N := 6) ?hd (cs := #[.string (⟨#[]⟩ : ByteArray), .int .i64 0, .int .i64 0, .int .i64 0, .string (⟨#[]⟩ : ByteArray)]) (t := 25) ?hr ?_; (case hd => rfl); (case hg => rfl); (case hr => first | (go_simp; done) | (go_simp; rfl)); intro g164 hg w32 hbox hb; have n0_ := am (blk_below (g := g149) (o := .cells #[.string a0_0, .int .i64 a0_1, .int .i64 a0_2, .string a0_3] 37 (0, 0)) (by (with_reducible repeat (first | refine blk_drewN ?_ _ | refine blk_drew ?_ | refine blk_alloc ?_ _)); exact B149.out) hb); have n1_ := am (blk_below (g := g150) (o := .cells #[.string a1_0, .int .i64 a1_1, .int .i64 a1_2, .string a1_3] 37 (0, 0)) (by (with_reducible repeat (first | refine blk_drewN ?_ _ | refine blk_drew ?_ | refine blk_alloc ?_ _)); exact B150.out) hb); have n2_ := am (blk_below (g := g158) (o := .cells #[.string t153, .int .i64 t154, .int .i64 t155, .int .i64 t156, .string t157] 25 (0, 0)) (by (with_reducible repeat (first | refine blk_drewN ?_ _ | refine blk_drew ?_ | refine blk_alloc ?_ _)); exact B158.out) hb); have n3_ := am (below_step (by repeat (first | (with_reducible first | exact HB.out | apply below_alloc | apply pw_below_drewN | apply below_drew1 | refine below_set ?_ GE149.out | refine below_set ?_ GE150.out | refine below_set ?_ GE158.out) | exact HB.out)) hb); have n4_ := am (hbox); have n5_ := am ((by rw [hg]; exact (below_size (by repeat (first | (with_reducible first | exact HB.out | apply below_alloc | apply pw_below_drewN | apply below_drew1 | refine below_set ?_ GE149.out | refine below_set ?_ GE150.out | refine below_set ?_ GE158.out) | exact HB.out))) : w.heap.size ≤ g164)); have n6_ := am ((by rw [hg]; exact (below_size (by repeat (first | (with_reducible first | exact HB.out | apply below_alloc | apply pw_below_drewN | apply below_drew1 | refine below_set ?_ GE149.out | refine below_set ?_ GE150.out | refine below_set ?_ GE158.out) | exact HB.out))) : w.heap.size ≤ g164)); have n7_ := am ((by rw [hg]; exact Nat.ne_of_lt (blk_lt (g := g149) (o := .cells #[.string a0_0, .int .i64 a0_1, .int .i64 a0_2, .string a0_3] 37 (0, 0)) (by (with_reducible repeat (first | refine blk_drewN ?_ _ | refine blk_drew ?_ | refine blk_alloc ?_ _)); exact B149.out)) : g149 ≠ g164)); have n8_ := am ((by rw [hg]; exact Nat.ne_of_gt (blk_lt (g := g149) (o := .cells #[.string a0_0, .int .i64 a0_1, .int .i64 a0_2, .string a0_3] 37 (0, 0)) (by (with_reducible repeat (first | refine blk_drewN ?_ _ | refine blk_drew ?_ | refine blk_alloc ?_ _)); exact B149.out)) : g164 ≠ g149)); have n9_ := am ((by rw [hg]; exact Nat.ne_of_lt (blk_lt (g := g150) (o := .cells #[.string a1_0, .int .i64 a1_1, .int .i64 a1_2, .string a1_3] 37 (0, 0)) (by (with_reducible repeat (first | refine blk_drewN ?_ _ | refine blk_drew ?_ | refine blk_alloc ?_ _)); exact B150.out)) : g150 ≠ g164)); have n10_ := am ((by rw [hg]; exact Nat.ne_of_gt (blk_lt (g := g150) (o := .cells #[.string a1_0, .int .i64 a1_1, .int .i64 a1_2, .string a1_3] 37 (0, 0)) (by (with_reducible repeat (first | refine blk_drewN ?_ _ | refine blk_drew ?_ | refine blk_alloc ?_ _)); exact B150.out)) : g164 ≠ g150)); have n11_ := am ((by rw [hg]; exact Nat.ne_of_lt (blk_lt (g := g158) (o := .cells #[.string t153, .int .i64 t154, .int .i64 t155, .int .i64 t156, .string t157] 25 (0, 0)) (by (with_reducible repeat (first | refine blk_drewN ?_ _ | refine blk_drew ?_ | refine blk_alloc ?_ _)); exact B158.out)) : g158 ≠ g164)); have n12_ := am ((by rw [hg]; exact Nat.ne_of_gt (blk_lt (g := g158) (o := .cells #[.string t153, .int .i64 t154, .int .i64 t155, .int .i64 t156, .string t157] 25 (0, 0)) (by (with_reducible repeat (first | refine blk_drewN ?_ _ | refine blk_drew ?_ | refine blk_alloc ?_ _)); exact B158.out)) : g164 ≠ g158)); clear B149; clear B150; clear B158; clear HB; have B149 := n0_; have B150 := n1_; have B158 := n2_; have HB := n3_; have B164 := n4_; have GW164 := n5_; have GE164 := n6_; have NB149_164 := n7_; have NB164_149 := n8_; have NB150_164 := n9_; have NB164_150 := n10_; have NB158_164 := n11_; have NB164_158 := n12_; clear n0_ n1_ n2_ n3_ n4_ n5_ n6_ n7_ n8_ n9_ n10_ n11_ n12_; clear hb hbox hg; have hnb33 := NB164_149.out; have hnc33 := NB149_164.out; have hnb34 := NB164_150.out; have hnc34 := NB150_164.out; have hnb35 := NB164_158.out; have hnc35 := NB158_164.out; have hcz36_0 : w32.cell? ⟨g164, 0, none⟩ = some (.string (⟨#[]⟩ : ByteArray)) := (blk_cell B164.out 0).trans rfl; have hcz36_1 : w32.cell? ⟨g164, 1, none⟩ = some (.int .i64 0) := (blk_cell B164.out 1).trans rfl; have hcz36_2 : w32.cell? ⟨g164, 2, none⟩ = some (.int .i64 0) := (blk_cell B164.out 2).trans rfl; have hcz36_3 : w32.cell? ⟨g164, 3, none⟩ = some (.int .i64 0) := (blk_cell B164.out 3).trans rfl; have hcz36_4 : w32.cell? ⟨g164, 4, none⟩ = some (.string (⟨#[]⟩ : ByteArray)) := (blk_cell B164.out 4).trans rfl; have hfz36_0 := blk_frozen B164.out 0; have hfz36_1 := blk_frozen B164.out 1; have hfz36_2 := blk_frozen B164.out 2; have hfz36_3 := blk_frozen B164.out 3; have hfz36_4 := blk_frozen B164.out 4))
    (try simp only [Act.put, sa, sb, sc])
    go_cut [60] (fun v60 wc => ∃ (kq : Nat) (x60_21 : Bool), v60 = .bool x60_21 ∧ Aside0 (j1 kq x60_21 a0_0 a0_1 a0_2 a0_3 a1_0 a1_1 a1_2 a1_3 t153 t154 t155 t156 t157 t159 t160 t161 t162 t163 = some r) ∧ Aside0 (kq ≤ kj2) ∧ Aside0 (wc.heap[g149]? = some (.cells #[.string a0_0, .int .i64 a0_1, .int .i64 a0_2, .string a0_3] 37 (0, 0))) ∧ Aside0 (wc.heap[g150]? = some (.cells #[.string a1_0, .int .i64 a1_1, .int .i64 a1_2, .string a1_3] 37 (0, 0))) ∧ Aside0 (wc.heap[g158]? = some (.cells #[.string t153, .int .i64 t154, .int .i64 t155, .int .i64 t156, .string t157] 25 (0, 0))) ∧ Aside0 (wc.heap[g164]? = some (.cells #[.string t159, .int .i64 t160, .int .i64 t161, .int .i64 t162, .string t163] 25 (0, 0))) ∧ Aside0 (Below w.heap.size w wc))
    case first =>
     have H := HC22.out
     clear HC22
     by_cases c37 : t153.toList = a0_0.toList
     ·
      rw [if_pos c37] at H
      have c37b0 : (t153.toList == a0_0.toList) = true := beq_iff_eq.mpr c37
      have c37b1 : (t153.toList != a0_0.toList) = false := bne_eq_false_iff_eq.mpr c37
      clear c37
      (first | rw [c37b0] | (simp only [i64_w, i32_w]; rw [c37b0]) | skip)
      by_cases c38 : t154 = a0_1
      ·
       rw [if_pos c38] at H
       have c38b0 : (t154 == a0_1) = true := beq_iff_eq.mpr c38
       have c38b1 : (t154 != a0_1) = false := bne_eq_false_iff_eq.mpr c38
       clear c38
       by_cases c39 : t155 = a0_2
       ·
        rw [if_pos c39] at H
        have c39b0 : (t155 == a0_2) = true := beq_iff_eq.mpr c39
        have c39b1 : (t155 != a0_2) = false := bne_eq_false_iff_eq.mpr c39
        clear c39
        by_cases c40 : t156 = (a0_3.size : Int)
        ·
         rw [if_pos c40] at H
         have c40b0 : (t156 == (a0_3.size : Int)) = true := beq_iff_eq.mpr c40
         have c40b1 : (t156 != (a0_3.size : Int)) = false := bne_eq_false_iff_eq.mpr c40
         clear c40
         replace H := Option.bind_eq_some_iff.mp H
         obtain ⟨t165, A410, H⟩ := H
         replace H : (j1 kj2 (t157.toList != t165.toList) a0_0 a0_1 a0_2 a0_3 a1_0 a1_1 a1_2 a1_3 t153 t154 t155 t156 t157 t159 t160 t161 t162 t163) = some r := H
         have A41 := am A410
         clear A410
         have H' := am H
         clear H
         try go_wp2
         have n0_ : Aside0 ((((((w32.setCell ⟨g164, 0, none⟩ (.string t159)).setCell ⟨g164, 1, none⟩ (.int .i64 t160)).setCell ⟨g164, 2, none⟩ (.int .i64 t161)).setCell ⟨g164, 3, none⟩ (.int .i64 t162)).setCell ⟨g164, 4, none⟩ (.string t163)).heap[g149]? = some (.cells #[.string a0_0, .int .i64 a0_1, .int .i64 a0_2, .string a0_3] 37 (0, 0))) := ⟨by (with_reducible repeat (first | refine blk_drewN ?_ _ | refine blk_drew ?_ | refine blk_alloc ?_ _)); refine blk_far ?_ NB149_164.out _; (with_reducible repeat (first | refine blk_drewN ?_ _ | refine blk_drew ?_ | refine blk_alloc ?_ _)); refine blk_far ?_ NB149_164.out _; (with_reducible repeat (first | refine blk_drewN ?_ _ | refine blk_drew ?_ | refine blk_alloc ?_ _)); refine blk_far ?_ NB149_164.out _; (with_reducible repeat (first | refine blk_drewN ?_ _ | refine blk_drew ?_ | refine blk_alloc ?_ _)); refine blk_far ?_ NB149_164.out _; (with_reducible repeat (first | refine blk_drewN ?_ _ | refine blk_drew ?_ | refine blk_alloc ?_ _)); refine blk_far ?_ NB149_164.out _; (with_reducible repeat (first | refine blk_drewN ?_ _ | refine blk_drew ?_ | refine blk_alloc ?_ _)); exact B149.out⟩
         have n1_ : Aside0 ((((((w32.setCell ⟨g164, 0, none⟩ (.string t159)).setCell ⟨g164, 1, none⟩ (.int .i64 t160)).setCell ⟨g164, 2, none⟩ (.int .i64 t161)).setCell ⟨g164, 3, none⟩ (.int .i64 t162)).setCell ⟨g164, 4, none⟩ (.string t163)).heap[g150]? = some (.cells #[.string a1_0, .int .i64 a1_1, .int .i64 a1_2, .string a1_3] 37 (0, 0))) := ⟨by (with_reducible repeat (first | refine blk_drewN ?_ _ | refine blk_drew ?_ | refine blk_alloc ?_ _)); refine blk_far ?_ NB150_164.out _; (with_reducible repeat (first | refine blk_drewN ?_ _ | refine blk_drew ?_ | refine blk_alloc ?_ _)); refine blk_far ?_ NB150_164.out _; (with_reducible repeat (first | refine blk_drewN ?_ _ | refine blk_drew ?_ | refine blk_alloc ?_ _)); refine blk_far ?_ NB150_164.out _; (with_reducible repeat (first | refine blk_drewN ?_ _ | refine blk_drew ?_ | refine blk_alloc ?_ _)); refine blk_far ?_ NB150_164.out _; (with_reducible repeat (first | refine blk_drewN ?_ _ | refine blk_drew ?_ | refine blk_alloc ?_ _)); refine blk_far ?_ NB150_164.out _; (with_reducible repeat (first | refine blk_drewN ?_ _ | refine blk_drew ?_ | refine blk_alloc ?_ _)); exact B150.out⟩
         have n2_ : Aside0 ((((((w32.setCell ⟨g164, 0, none⟩ (.string t159)).setCell ⟨g164, 1, none⟩ (.int .i64 t160)).setCell ⟨g164, 2, none⟩ (.int .i64 t161)).setCell ⟨g164, 3, none⟩ (.int .i64 t162)).setCell ⟨g164, 4, none⟩ (.string t163)).heap[g158]? = some (.cells #[.string t153, .int .i64 t154, .int .i64 t155, .int .i64 t156, .string t157] 25 (0, 0))) := ⟨by (with_reducible repeat (first | refine blk_drewN ?_ _ | refine blk_drew ?_ | refine blk_alloc ?_ _)); refine blk_far ?_ NB158_164.out _; (with_reducible repeat (first | refine blk_drewN ?_ _ | refine blk_drew ?_ | refine blk_alloc ?_ _)); refine blk_far ?_ NB158_164.out _; (with_reducible repeat (first | refine blk_drewN ?_ _ | refine blk_drew ?_ | refine blk_alloc ?_ _)); refine blk_far ?_ NB158_164.out _; (with_reducible repeat (first | refine blk_drewN ?_ _ | refine blk_drew ?_ | refine blk_alloc ?_ _)); refine blk_far ?_ NB158_164.out _; (with_reducible repeat (first | refine blk_drewN ?_ _ | refine blk_drew ?_ | refine blk_alloc ?_ _)); refine blk_far ?_ NB158_164.out _; (with_reducible repeat (first | refine blk_drewN ?_ _ | refine blk_drew ?_ | refine blk_alloc ?_ _)); exact B158.out⟩
         have n3_ : Aside0 ((((((w32.setCell ⟨g164, 0, none⟩ (.string t159)).setCell ⟨g164, 1, none⟩ (.int .i64 t160)).setCell ⟨g164, 2, none⟩ (.int .i64 t161)).setCell ⟨g164, 3, none⟩ (.int .i64 t162)).setCell ⟨g164, 4, none⟩ (.string t163)).heap[g164]? = some (.cells #[.string t159, .int .i64 t160, .int .i64 t161, .int .i64 t162, .string t163] 25 (0, 0))) := ⟨by (with_reducible repeat (first | refine blk_drewN ?_ _ | refine blk_drew ?_ | refine blk_alloc ?_ _)); refine blk_put (cs := #[.string t159, .int .i64 t160, .int .i64 t161, .int .i64 t162, .string (⟨#[]⟩ : ByteArray)]) ?_ 4 _ rfl; (with_reducible repeat (first | refine blk_drewN ?_ _ | refine blk_drew ?_ | refine blk_alloc ?_ _)); refine blk_put (cs := #[.string t159, .int .i64 t160, .int .i64 t161, .int .i64 0, .string (⟨#[]⟩ : ByteArray)]) ?_ 3 _ rfl; (with_reducible repeat (first | refine blk_drewN ?_ _ | refine blk_drew ?_ | refine blk_alloc ?_ _)); refine blk_put (cs := #[.string t159, .int .i64 t160, .int .i64 0, .int .i64 0, .string (⟨#[]⟩ : ByteArray)]) ?_ 2 _ rfl; (with_reducible repeat (first | refine blk_drewN ?_ _ | refine blk_drew ?_ | refine blk_alloc ?_ _)); refine blk_put (cs := #[.string t159, .int .i64 0, .int .i64 0, .int .i64 0, .string (⟨#[]⟩ : ByteArray)]) ?_ 1 _ rfl; (with_reducible repeat (first | refine blk_drewN ?_ _ | refine blk_drew ?_ | refine blk_alloc ?_ _)); refine blk_put (cs := #[.string (⟨#[]⟩ : ByteArray), .int .i64 0, .int .i64 0, .int .i64 0, .string (⟨#[]⟩ : ByteArray)]) ?_ 0 _ rfl; (with_reducible repeat (first | refine blk_drewN ?_ _ | refine blk_drew ?_ | refine blk_alloc ?_ _)); exact B164.out⟩
         have n4_ : Aside0 (Below w.heap.size w (((((w32.setCell ⟨g164, 0, none⟩ (.string t159)).setCell ⟨g164, 1, none⟩ (.int .i64 t160)).setCell ⟨g164, 2, none⟩ (.int .i64 t161)).setCell ⟨g164, 3, none⟩ (.int .i64 t162)).setCell ⟨g164, 4, none⟩ (.string t163))) := ⟨by repeat (first | (with_reducible first | exact HB.out | apply below_alloc | apply pw_below_drewN | apply below_drew1 | refine below_set ?_ GE149.out | refine below_set ?_ GE150.out | refine below_set ?_ GE158.out | refine below_set ?_ GE164.out) | exact HB.out)⟩
         (try clear B149)
         (try clear B150)
         (try clear B158)
         (try clear B164)
         (try clear HB)
         generalize (((((w32.setCell ⟨g164, 0, none⟩ (.string t159)).setCell ⟨g164, 1, none⟩ (.int .i64 t160)).setCell ⟨g164, 2, none⟩ (.int .i64 t161)).setCell ⟨g164, 3, none⟩ (.int .i64 t162)).setCell ⟨g164, 4, none⟩ (.string t163)) = w42 at n0_ n1_ n2_ n3_ n4_ ⊢
         have B149 := n0_
         have B150 := n1_
         have B158 := n2_
         have B164 := n3_
         have HB := n4_
         clear n0_ n1_ n2_ n3_ n4_
         have n0_ := am (blk_drew B149.out)
         have n1_ := am (blk_drew B150.out)
         have n2_ := am (blk_drew B158.out)
         have n3_ := am (blk_drew B164.out)
         have n4_ := am (below_drew1 HB.out)
         clear B149
         clear B150
         clear B158
         clear B164
         clear HB
         have B149 := n0_
         have B150 := n1_
         have B158 := n2_
         have B164 := n3_
         have HB := n4_
         clear n0_ n1_ n2_ n3_ n4_
         refine start_ (n := 35) (S := fun w' => w'.cell? ⟨g158, 0, none⟩ = some (.string t153) ∧ w'.cell? ⟨g158, 1, none⟩ = some (.int .i64 t154) ∧ w'.cell? ⟨g158, 2, none⟩ = some (.int .i64 t155) ∧ w'.cell? ⟨g158, 3, none⟩ = some (.int .i64 t156) ∧ w'.cell? ⟨g158, 4, none⟩ = some (.string t157) ∧ w'.cell? ⟨g149, 0, none⟩ = some (.string a0_0) ∧ w'.cell? ⟨g149, 1, none⟩ = some (.int .i64 a0_1) ∧ w'.cell? ⟨g149, 2, none⟩ = some (.int .i64 a0_2) ∧ w'.cell? ⟨g149, 3, none⟩ = some (.string a0_3)) (ds := []) #[false, false, false, false, false, false, false, false, false, false, false, false, false, false, false, false, false, false, false, false, false, false, false, false, false, false, false, false, false, false, false, false, false, false, false] (by kernel_rfl) rfl rfl ⟨(blk_cell B158.out 0).trans rfl, (blk_cell B158.out 1).trans rfl, (blk_cell B158.out 2).trans rfl, (blk_cell B158.out 3).trans rfl, (blk_cell B158.out 4).trans rfl, (blk_cell B149.out 0).trans rfl, (blk_cell B149.out 1).trans rfl, (blk_cell B149.out 2).trans rfl, (blk_cell B149.out 3).trans rfl⟩ (fun h_ => ?_); refine with_tabW hamperlaw19_MetaOf.tab5 hamperlaw19_MetaOf.bits5 (fun T_ W_ => ?_)
         generalize w42.drew = w43 at B149 B150 B158 B164 HB h_ ⊢
         refine pu (i := 0) (N := some 26) (v := ?_) (a' := ?_) (lb 35 1) rfl rfl (ao T_.out (by kernel_rfl)) (λ _ _ _ h => h) (.inl ⟨by rfl, ?_⟩) ?_ ?_; rotate_left; (focus intro w'; go_simp; with_reducible rfl); rotate_left; (focus simp only [Act.put, sa, sb, sc, i64_w, i32_w]; rfl)
         refine pu (i := 2) (N := some 28) (v := ?_) (a' := ?_) (lb 35 5) rfl rfl (ao T_.out (by kernel_rfl)) (λ _ _ _ h => h) (.inl ⟨by rfl, ?_⟩) ?_ ?_; rotate_left; (focus intro w'; go_simp; with_reducible rfl); rotate_left; (focus simp only [Act.put, sa, sb, sc, i64_w, i32_w]; rfl)
         refine take_ (i := 1) (N := some 27) (v := ?_) (a' := ?_) (lb 35 7) rfl rfl (take_ofW T_.out W_.out (by kernel_rfl)) (λ _ _ _ h => h) (.inl ⟨by rfl, ?_⟩) h_ ?_ ?_; rotate_left; (focus rintro w' ⟨s0, s1, s2, s3, s4, s5, s6, s7, s8⟩; go_simp; with_reducible rfl); rotate_left; (focus simp only [Act.put, sa, sb, sc, i64_w, i32_w]; rfl)
         refine take_ (i := 3) (N := some 29) (v := ?_) (a' := ?_) (lb 35 15) rfl rfl (take_ofW T_.out W_.out (by kernel_rfl)) (λ _ _ _ h => h) (.inl ⟨by rfl, ?_⟩) h_ ?_ ?_; rotate_left; (focus rintro w' ⟨s0, s1, s2, s3, s4, s5, s6, s7, s8⟩; go_simp; with_reducible rfl); rotate_left; (focus simp only [Act.put, sa, sb, sc, i64_w, i32_w]; rfl)
         refine pu (i := 4) (N := some 30) (v := ?_) (a' := ?_) (lb 35 31) rfl rfl (ao T_.out (by kernel_rfl)) (λ _ _ _ h => h) (.inl ⟨by rfl, ?_⟩) ?_ ?_; rotate_left; (focus intro w'; go_simp; with_reducible rfl); rotate_left; (focus simp only [Act.put, sa, sb, sc, i64_w, i32_w]; rfl)
         refine pu (i := 5) (N := some 31) (v := ?_) (a' := ?_) (lb 35 63) rfl rfl (ao T_.out (by kernel_rfl)) (λ _ _ _ h => h) (.inl ⟨by rfl, ?_⟩) ?_ ?_; rotate_left; (focus intro w'; go_simp; with_reducible rfl); rotate_left; (focus simp only [Act.put, sa, sb, sc, i64_w, i32_w]; rfl)
         refine pu (i := 6) (N := some 32) (v := ?_) (a' := ?_) (lb 35 127) rfl rfl (ao T_.out (by kernel_rfl)) (λ _ _ _ h => h) (.inl ⟨by rfl, ?_⟩) ?_ ?_; rotate_left; (focus intro w'; go_simp; with_reducible rfl); rotate_left; (focus simp only [Act.put, sa, sb, sc, i64_w, i32_w]; rfl)
         refine pu (i := 8) (N := some 34) (v := ?_) (a' := ?_) (lb 35 383) rfl rfl (ao T_.out (by kernel_rfl)) (λ _ _ _ h => h) (.inl ⟨by rfl, ?_⟩) ?_ ?_; rotate_left; (focus intro w'; go_simp; with_reducible rfl); rotate_left; (focus simp only [Act.put, sa, sb, sc, i64_w, i32_w]; rfl)
         refine take_ (i := 7) (N := some 33) (v := ?_) (a' := ?_) (lb 35 511) rfl rfl (take_ofW T_.out W_.out (by kernel_rfl)) (λ _ _ _ h => h) (.inl ⟨by rfl, ?_⟩) h_ ?_ ?_; rotate_left; (focus rintro w' ⟨s0, s1, s2, s3, s4, s5, s6, s7, s8⟩; go_simp; with_reducible rfl); rotate_left; (focus simp only [Act.put, sa, sb, sc, i64_w, i32_w]; rfl)
         refine take_ (i := 9) (N := some 35) (v := ?_) (a' := ?_) (lb 35 1023) rfl rfl (take_ofW T_.out W_.out (by kernel_rfl)) (λ _ _ _ h => h) (.inl ⟨by rfl, ?_⟩) h_ ?_ ?_; rotate_left; (focus rintro w' ⟨s0, s1, s2, s3, s4, s5, s6, s7, s8⟩; go_simp; with_reducible rfl); rotate_left; (focus simp only [Act.put, sa, sb, sc, i64_w, i32_w]; rfl)
         refine pu (i := 10) (N := some 36) (v := ?_) (a' := ?_) (lb 35 2047) rfl rfl (ao T_.out (by kernel_rfl)) (λ _ _ _ h => h) (.inl ⟨by rfl, ?_⟩) ?_ ?_; rotate_left; (focus intro w'; go_simp; with_reducible rfl); rotate_left; (focus simp only [Act.put, sa, sb, sc, i64_w, i32_w]; rfl)
         refine pu (i := 11) (N := some 37) (v := ?_) (a' := ?_) (lb 35 4095) rfl rfl (ao T_.out (by kernel_rfl)) (λ _ _ _ h => h) (.inl ⟨by rfl, ?_⟩) ?_ ?_; rotate_left; (focus intro w'; go_simp; with_reducible rfl); rotate_left; (focus simp only [Act.put, sa, sb, sc, i64_w, i32_w]; rfl)
         refine pu (i := 12) (N := some 38) (v := ?_) (a' := ?_) (lb 35 8191) rfl rfl (ao T_.out (by kernel_rfl)) (λ _ _ _ h => h) (.inl ⟨by rfl, ?_⟩) ?_ ?_; rotate_left; (focus intro w'; go_simp; with_reducible rfl); rotate_left; (focus simp only [Act.put, sa, sb, sc, i64_w, i32_w]; rfl)
         refine pu (i := 13) (N := some 39) (v := ?_) (a' := ?_) (lb 35 16383) rfl rfl (ao T_.out (by kernel_rfl)) (λ _ _ _ h => h) (.inl ⟨by rfl, ?_⟩) ?_ ?_; rotate_left; (focus intro w'; go_simp; with_reducible rfl); rotate_left; (focus simp only [Act.put, sa, sb, sc, i64_w, i32_w]; rfl)
         refine pu (i := 15) (N := some 41) (v := ?_) (a' := ?_) (lb 35 49151) rfl rfl (ao T_.out (by kernel_rfl)) (λ _ _ _ h => h) (.inl ⟨by rfl, ?_⟩) ?_ ?_; rotate_left; (focus intro w'; go_simp; with_reducible rfl); rotate_left; (focus simp only [Act.put, sa, sb, sc, i64_w, i32_w]; rfl)
         refine take_ (i := 14) (N := some 40) (v := ?_) (a' := ?_) (lb 35 65535) rfl rfl (take_ofW T_.out W_.out (by kernel_rfl)) (λ _ _ _ h => h) (.inl ⟨by rfl, ?_⟩) h_ ?_ ?_; rotate_left; (focus rintro w' ⟨s0, s1, s2, s3, s4, s5, s6, s7, s8⟩; go_simp; with_reducible rfl); rotate_left; (focus simp only [Act.put, sa, sb, sc, i64_w, i32_w]; rfl)
         refine take_ (i := 16) (N := some 42) (v := ?_) (a' := ?_) (lb 35 131071) rfl rfl (take_ofW T_.out W_.out (by kernel_rfl)) (λ _ _ _ h => h) (.inl ⟨by rfl, ?_⟩) h_ ?_ ?_; rotate_left; (focus rintro w' ⟨s0, s1, s2, s3, s4, s5, s6, s7, s8⟩; go_simp; with_reducible rfl); rotate_left; (focus simp only [Act.put, sa, sb, sc, i64_w, i32_w]; rfl)
         refine pu (i := 17) (N := some 43) (v := ?_) (a' := ?_) (lb 35 262143) rfl rfl (ao T_.out (by kernel_rfl)) (λ _ _ _ h => h) (.inl ⟨by rfl, ?_⟩) ?_ ?_; rotate_left; (focus intro w'; go_simp; with_reducible rfl); rotate_left; (focus simp only [Act.put, sa, sb, sc, i64_w, i32_w]; rfl)
         refine pu (i := 18) (N := some 44) (v := ?_) (a' := ?_) (lb 35 524287) rfl rfl (ao T_.out (by kernel_rfl)) (λ _ _ _ h => h) (.inl ⟨by rfl, ?_⟩) ?_ ?_; rotate_left; (focus intro w'; go_simp; with_reducible rfl); rotate_left; (focus simp only [Act.put, sa, sb, sc, i64_w, i32_w]; rfl)
         refine pu (i := 19) (N := some 45) (v := ?_) (a' := ?_) (lb 35 1048575) rfl rfl (ao T_.out (by kernel_rfl)) (λ _ _ _ h => h) (.inl ⟨by rfl, ?_⟩) ?_ ?_; rotate_left; (focus intro w'; go_simp; with_reducible rfl); rotate_left; (focus simp only [Act.put, sa, sb, sc, i64_w, i32_w]; rfl)
         refine pu (i := 20) (N := some 46) (v := ?_) (a' := ?_) (lb 35 2097151) rfl rfl (ao T_.out (by kernel_rfl)) (λ _ _ _ h => h) (.inl ⟨by rfl, ?_⟩) ?_ ?_; rotate_left; (focus intro w'; go_simp; with_reducible rfl); rotate_left; (focus simp only [Act.put, sa, sb, sc, i64_w, i32_w]; rfl)
         refine pu (i := 22) (N := some 48) (v := ?_) (a' := ?_) (lb 35 6291455) rfl rfl (ao T_.out (by kernel_rfl)) (λ _ _ _ h => h) (.inl ⟨by rfl, ?_⟩) ?_ ?_; rotate_left; (focus intro w'; go_simp; with_reducible rfl); rotate_left; (focus simp only [Act.put, sa, sb, sc, i64_w, i32_w]; rfl)
         refine take_ (i := 21) (N := some 47) (v := ?_) (a' := ?_) (lb 35 8388607) rfl rfl (take_ofW T_.out W_.out (by kernel_rfl)) (λ _ _ _ h => h) (.inl ⟨by rfl, ?_⟩) h_ ?_ ?_; rotate_left; (focus rintro w' ⟨s0, s1, s2, s3, s4, s5, s6, s7, s8⟩; go_simp; with_reducible rfl); rotate_left; (focus simp only [Act.put, sa, sb, sc, i64_w, i32_w]; rfl)
         refine take_ (i := 23) (N := some 49) (v := ?_) (a' := ?_) (lb 35 16777215) rfl rfl (take_ofW T_.out W_.out (by kernel_rfl)) (λ _ _ _ h => h) (.inl ⟨by rfl, ?_⟩) h_ ?_ ?_; rotate_left; (focus rintro w' ⟨s0, s1, s2, s3, s4, s5, s6, s7, s8⟩; go_simp; with_reducible rfl); rotate_left; (focus simp only [Act.put, sa, sb, sc, i64_w, i32_w]; rfl)
         refine pu (i := 24) (N := some 50) (v := ?_) (a' := ?_) (lb 35 33554431) rfl rfl (ao T_.out (by kernel_rfl)) (λ _ _ _ h => h) (.inl ⟨by rfl, ?_⟩) ?_ ?_; rotate_left; (focus intro w'; go_simp; with_reducible rfl); rotate_left; (focus simp only [Act.put, sa, sb, sc, i64_w, i32_w]; rfl)
         refine pu (i := 25) (N := some 51) (v := ?_) (a' := ?_) (lb 35 67108863) rfl rfl (ao T_.out (by kernel_rfl)) (λ _ _ _ h => h) (.inl ⟨by rfl, ?_⟩) ?_ ?_; rotate_left; (focus intro w'; go_simp; with_reducible rfl); rotate_left; (focus simp only [Act.put, sa, sb, sc, i64_w, i32_w]; rfl)
         refine pu (i := 26) (N := some 52) (v := ?_) (a' := ?_) (lb 35 134217727) rfl rfl (ao T_.out (by kernel_rfl)) (λ _ _ _ h => h) (.inl ⟨by rfl, ?_⟩) ?_ ?_; rotate_left; (focus intro w'; go_simp; with_reducible rfl); rotate_left; (focus simp only [Act.put, sa, sb, sc, i64_w, i32_w]; rfl)
         refine pu (i := 27) (N := some 53) (v := ?_) (a' := ?_) (lb 35 268435455) rfl rfl (ao T_.out (by kernel_rfl)) (λ _ _ _ h => h) (.inl ⟨by rfl, ?_⟩) ?_ ?_; rotate_left; (focus intro w'; go_simp; with_reducible rfl); rotate_left; (focus simp only [Act.put, sa, sb, sc, i64_w, i32_w]; rfl)
         refine pu (i := 28) (N := some 54) (v := ?_) (a' := ?_) (lb 35 536870911) rfl rfl (ao T_.out (by kernel_rfl)) (λ _ _ _ h => h) (.inl ⟨by rfl, ?_⟩) ?_ ?_; rotate_left; (focus intro w'; go_simp; with_reducible rfl); rotate_left; (focus simp only [Act.put, sa, sb, sc, i64_w, i32_w]; rfl)
         refine pu (i := 30) (N := some 56) (v := ?_) (a' := ?_) (lb 35 1610612735) rfl rfl (ao T_.out (by kernel_rfl)) (λ _ _ _ h => h) (.inl ⟨by rfl, ?_⟩) ?_ ?_; rotate_left; (focus intro w'; go_simp; with_reducible rfl); rotate_left; (focus simp only [Act.put, sa, sb, sc, i64_w, i32_w]; rfl)
         refine take_ (i := 29) (N := some 55) (v := ?_) (a' := ?_) (lb 35 2147483647) rfl rfl (take_ofW T_.out W_.out (by kernel_rfl)) (λ _ _ _ h => h) (.inl ⟨by rfl, ?_⟩) h_ ?_ ?_; rotate_left; (focus rintro w' ⟨s0, s1, s2, s3, s4, s5, s6, s7, s8⟩; go_simp; with_reducible rfl); rotate_left; (focus simp only [Act.put, sa, sb, sc, i64_w, i32_w]; rfl)
         refine take_ (i := 31) (N := some 57) (v := ?_) (a' := ?_) (lb 35 4294967295) rfl rfl (take_ofW T_.out W_.out (by kernel_rfl)) (λ _ _ _ h => h) (.inl ⟨by rfl, ?_⟩) h_ ?_ ?_; rotate_left; (focus rintro w' ⟨s0, s1, s2, s3, s4, s5, s6, s7, s8⟩; go_simp; with_reducible rfl); rotate_left; (focus simp only [Act.put, sa, sb, sc, i64_w, i32_w]; rfl)
         refine one_ (i := 32) (N := some 58) (lb 35 8589934591) rfl rfl (one_of T_.out (by kernel_rfl)) (by decide) (fun K hK => ?_)
         refine goes_ Tryd.func19 (by kernel_rfl) rfl #[.string a0_3] (by rfl) rfl rfl (by (try simp only [List.map_toArray, List.map_cons, List.map_nil]); first | done | rfl | (simp only [List.length_drop, List.length_take]; rfl)) ?_
         with_reducible refine (blake_Sum.calls a0_3 t165 _ A41.out).mono ?_
         rintro e w44 ⟨rfl, hb⟩
         refine ⟨_, rfl, ?_⟩
         have n0_ := am (blk_below (g := g149) (o := .cells #[.string a0_0, .int .i64 a0_1, .int .i64 a0_2, .string a0_3] 37 (0, 0)) (by (with_reducible repeat (first | refine blk_drewN ?_ _ | refine blk_drew ?_ | refine blk_alloc ?_ _)); exact B149.out) hb)
         have n1_ := am (blk_below (g := g150) (o := .cells #[.string a1_0, .int .i64 a1_1, .int .i64 a1_2, .string a1_3] 37 (0, 0)) (by (with_reducible repeat (first | refine blk_drewN ?_ _ | refine blk_drew ?_ | refine blk_alloc ?_ _)); exact B150.out) hb)
         have n2_ := am (blk_below (g := g158) (o := .cells #[.string t153, .int .i64 t154, .int .i64 t155, .int .i64 t156, .string t157] 25 (0, 0)) (by (with_reducible repeat (first | refine blk_drewN ?_ _ | refine blk_drew ?_ | refine blk_alloc ?_ _)); exact B158.out) hb)
         have n3_ := am (blk_below (g := g164) (o := .cells #[.string t159, .int .i64 t160, .int .i64 t161, .int .i64 t162, .string t163] 25 (0, 0)) (by (with_reducible repeat (first | refine blk_drewN ?_ _ | refine blk_drew ?_ | refine blk_alloc ?_ _)); exact B164.out) hb)
         have n4_ := am (below_step (by repeat (first | (with_reducible first | exact HB.out | apply below_alloc | apply pw_below_drewN | apply below_drew1 | refine below_set ?_ GE149.out | refine below_set ?_ GE150.out | refine below_set ?_ GE158.out | refine below_set ?_ GE164.out) | exact HB.out)) hb)
         clear B149
         clear B150
         clear B158
         clear B164
         clear HB
         have B149 := n0_
         have B150 := n1_
         have B158 := n2_
         have B164 := n3_
         have HB := n4_
         clear n0_ n1_ n2_ n3_ n4_
         (try clear hb)
         (try clear hb2)
         (try clear hk)
         (try clear hi)
         refine hK.out _ _ ⟨(blk_cell B158.out 0).trans rfl, (blk_cell B158.out 1).trans rfl, (blk_cell B158.out 2).trans rfl, (blk_cell B158.out 3).trans rfl, (blk_cell B158.out 4).trans rfl, (blk_cell B149.out 0).trans rfl, (blk_cell B149.out 1).trans rfl, (blk_cell B149.out 2).trans rfl, (blk_cell B149.out 3).trans rfl⟩ (fun h_ => ?_)
         clear hK K
         refine norm_ (a' := ?_) ?_ ?_
         rotate_left
         ·
          show Act.put _ (some 58) _ = _
          simp only [Act.put, sa, sb, sc, i64_w, i32_w]
          rfl
         refine pu (i := 33) (N := some 59) (v := ?_) (a' := ?_) (lb 35 17179869183) rfl rfl (ao T_.out (by kernel_rfl)) (λ _ _ _ h => h) (.inl ⟨by rfl, ?_⟩) ?_ ?_; rotate_left; (focus intro w'; go_simp; with_reducible rfl); rotate_left; (focus simp only [Act.put, sa, sb, sc, i64_w, i32_w]; rfl)
         refine pu (i := 34) (N := some 60) (v := ?_) (a' := ?_) (lb 35 34359738367) rfl rfl (ao T_.out (by kernel_rfl)) (λ _ _ _ h => h) (.inl ⟨by rfl, ?_⟩) ?_ ?_; rotate_left; (focus intro w'; go_simp; with_reducible rfl); rotate_left; (focus simp only [Act.put, sa, sb, sc, i64_w, i32_w]; rfl)
         refine done_ (done_of T_.out (by kernel_rfl)) ?_
         try go_wp2
         go_meet
         case rel => exact ⟨_, ((t157.toList != t165.toList)), (by first | rfl | (simp; done) | (simp [*]; done)), H', ⟨by have := HJ2.out; first | omega | exact Nat.le_refl _⟩, ⟨by (with_reducible repeat (first | refine blk_drewN ?_ _ | refine blk_drew ?_ | refine blk_alloc ?_ _)); exact B149.out⟩, ⟨by (with_reducible repeat (first | refine blk_drewN ?_ _ | refine blk_drew ?_ | refine blk_alloc ?_ _)); exact B150.out⟩, ⟨by (with_reducible repeat (first | refine blk_drewN ?_ _ | refine blk_drew ?_ | refine blk_alloc ?_ _)); exact B158.out⟩, ⟨by (with_reducible repeat (first | refine blk_drewN ?_ _ | refine blk_drew ?_ | refine blk_alloc ?_ _)); exact B164.out⟩, ⟨by repeat (first | (with_reducible first | exact HB.out | apply below_alloc | apply pw_below_drewN | apply below_drew1 | refine below_set ?_ GE149.out | refine below_set ?_ GE150.out | refine below_set ?_ GE158.out | refine below_set ?_ GE164.out) | exact HB.out)⟩⟩
        ·
         rw [if_neg c40] at H
         have c40b0 : (t156 == (a0_3.size : Int)) = false := beq_eq_false_iff_ne.mpr c40
         have c40b1 : (t156 != (a0_3.size : Int)) = true := bne_iff_ne.mpr c40
         have H' := am H
         clear H
         try go_wp2
         have n0_ : Aside0 ((((((w32.setCell ⟨g164, 0, none⟩ (.string t159)).setCell ⟨g164, 1, none⟩ (.int .i64 t160)).setCell ⟨g164, 2, none⟩ (.int .i64 t161)).setCell ⟨g164, 3, none⟩ (.int .i64 t162)).setCell ⟨g164, 4, none⟩ (.string t163)).heap[g149]? = some (.cells #[.string a0_0, .int .i64 a0_1, .int .i64 a0_2, .string a0_3] 37 (0, 0))) := ⟨by (with_reducible repeat (first | refine blk_drewN ?_ _ | refine blk_drew ?_ | refine blk_alloc ?_ _)); refine blk_far ?_ NB149_164.out _; (with_reducible repeat (first | refine blk_drewN ?_ _ | refine blk_drew ?_ | refine blk_alloc ?_ _)); refine blk_far ?_ NB149_164.out _; (with_reducible repeat (first | refine blk_drewN ?_ _ | refine blk_drew ?_ | refine blk_alloc ?_ _)); refine blk_far ?_ NB149_164.out _; (with_reducible repeat (first | refine blk_drewN ?_ _ | refine blk_drew ?_ | refine blk_alloc ?_ _)); refine blk_far ?_ NB149_164.out _; (with_reducible repeat (first | refine blk_drewN ?_ _ | refine blk_drew ?_ | refine blk_alloc ?_ _)); refine blk_far ?_ NB149_164.out _; (with_reducible repeat (first | refine blk_drewN ?_ _ | refine blk_drew ?_ | refine blk_alloc ?_ _)); exact B149.out⟩
         have n1_ : Aside0 ((((((w32.setCell ⟨g164, 0, none⟩ (.string t159)).setCell ⟨g164, 1, none⟩ (.int .i64 t160)).setCell ⟨g164, 2, none⟩ (.int .i64 t161)).setCell ⟨g164, 3, none⟩ (.int .i64 t162)).setCell ⟨g164, 4, none⟩ (.string t163)).heap[g150]? = some (.cells #[.string a1_0, .int .i64 a1_1, .int .i64 a1_2, .string a1_3] 37 (0, 0))) := ⟨by (with_reducible repeat (first | refine blk_drewN ?_ _ | refine blk_drew ?_ | refine blk_alloc ?_ _)); refine blk_far ?_ NB150_164.out _; (with_reducible repeat (first | refine blk_drewN ?_ _ | refine blk_drew ?_ | refine blk_alloc ?_ _)); refine blk_far ?_ NB150_164.out _; (with_reducible repeat (first | refine blk_drewN ?_ _ | refine blk_drew ?_ | refine blk_alloc ?_ _)); refine blk_far ?_ NB150_164.out _; (with_reducible repeat (first | refine blk_drewN ?_ _ | refine blk_drew ?_ | refine blk_alloc ?_ _)); refine blk_far ?_ NB150_164.out _; (with_reducible repeat (first | refine blk_drewN ?_ _ | refine blk_drew ?_ | refine blk_alloc ?_ _)); refine blk_far ?_ NB150_164.out _; (with_reducible repeat (first | refine blk_drewN ?_ _ | refine blk_drew ?_ | refine blk_alloc ?_ _)); exact B150.out⟩
         have n2_ : Aside0 ((((((w32.setCell ⟨g164, 0, none⟩ (.string t159)).setCell ⟨g164, 1, none⟩ (.int .i64 t160)).setCell ⟨g164, 2, none⟩ (.int .i64 t161)).setCell ⟨g164, 3, none⟩ (.int .i64 t162)).setCell ⟨g164, 4, none⟩ (.string t163)).heap[g158]? = some (.cells #[.string t153, .int .i64 t154, .int .i64 t155, .int .i64 t156, .string t157] 25 (0, 0))) := ⟨by (with_reducible repeat (first | refine blk_drewN ?_ _ | refine blk_drew ?_ | refine blk_alloc ?_ _)); refine blk_far ?_ NB158_164.out _; (with_reducible repeat (first | refine blk_drewN ?_ _ | refine blk_drew ?_ | refine blk_alloc ?_ _)); refine blk_far ?_ NB158_164.out _; (with_reducible repeat (first | refine blk_drewN ?_ _ | refine blk_drew ?_ | refine blk_alloc ?_ _)); refine blk_far ?_ NB158_164.out _; (with_reducible repeat (first | refine blk_drewN ?_ _ | refine blk_drew ?_ | refine blk_alloc ?_ _)); refine blk_far ?_ NB158_164.out _; (with_reducible repeat (first | refine blk_drewN ?_ _ | refine blk_drew ?_ | refine blk_alloc ?_ _)); refine blk_far ?_ NB158_164.out _; (with_reducible repeat (first | refine blk_drewN ?_ _ | refine blk_drew ?_ | refine blk_alloc ?_ _)); exact B158.out⟩
         have n3_ : Aside0 ((((((w32.setCell ⟨g164, 0, none⟩ (.string t159)).setCell ⟨g164, 1, none⟩ (.int .i64 t160)).setCell ⟨g164, 2, none⟩ (.int .i64 t161)).setCell ⟨g164, 3, none⟩ (.int .i64 t162)).setCell ⟨g164, 4, none⟩ (.string t163)).heap[g164]? = some (.cells #[.string t159, .int .i64 t160, .int .i64 t161, .int .i64 t162, .string t163] 25 (0, 0))) := ⟨by (with_reducible repeat (first | refine blk_drewN ?_ _ | refine blk_drew ?_ | refine blk_alloc ?_ _)); refine blk_put (cs := #[.string t159, .int .i64 t160, .int .i64 t161, .int .i64 t162, .string (⟨#[]⟩ : ByteArray)]) ?_ 4 _ rfl; (with_reducible repeat (first | refine blk_drewN ?_ _ | refine blk_drew ?_ | refine blk_alloc ?_ _)); refine blk_put (cs := #[.string t159, .int .i64 t160, .int .i64 t161, .int .i64 0, .string (⟨#[]⟩ : ByteArray)]) ?_ 3 _ rfl; (with_reducible repeat (first | refine blk_drewN ?_ _ | refine blk_drew ?_ | refine blk_alloc ?_ _)); refine blk_put (cs := #[.string t159, .int .i64 t160, .int .i64 0, .int .i64 0, .string (⟨#[]⟩ : ByteArray)]) ?_ 2 _ rfl; (with_reducible repeat (first | refine blk_drewN ?_ _ | refine blk_drew ?_ | refine blk_alloc ?_ _)); refine blk_put (cs := #[.string t159, .int .i64 0, .int .i64 0, .int .i64 0, .string (⟨#[]⟩ : ByteArray)]) ?_ 1 _ rfl; (with_reducible repeat (first | refine blk_drewN ?_ _ | refine blk_drew ?_ | refine blk_alloc ?_ _)); refine blk_put (cs := #[.string (⟨#[]⟩ : ByteArray), .int .i64 0, .int .i64 0, .int .i64 0, .string (⟨#[]⟩ : ByteArray)]) ?_ 0 _ rfl; (with_reducible repeat (first | refine blk_drewN ?_ _ | refine blk_drew ?_ | refine blk_alloc ?_ _)); exact B164.out⟩
         have n4_ : Aside0 (Below w.heap.size w (((((w32.setCell ⟨g164, 0, none⟩ (.string t159)).setCell ⟨g164, 1, none⟩ (.int .i64 t160)).setCell ⟨g164, 2, none⟩ (.int .i64 t161)).setCell ⟨g164, 3, none⟩ (.int .i64 t162)).setCell ⟨g164, 4, none⟩ (.string t163))) := ⟨by repeat (first | (with_reducible first | exact HB.out | apply below_alloc | apply pw_below_drewN | apply below_drew1 | refine below_set ?_ GE149.out | refine below_set ?_ GE150.out | refine below_set ?_ GE158.out | refine below_set ?_ GE164.out) | exact HB.out)⟩
         (try clear B149)
         (try clear B150)
         (try clear B158)
         (try clear B164)
         (try clear HB)
         generalize (((((w32.setCell ⟨g164, 0, none⟩ (.string t159)).setCell ⟨g164, 1, none⟩ (.int .i64 t160)).setCell ⟨g164, 2, none⟩ (.int .i64 t161)).setCell ⟨g164, 3, none⟩ (.int .i64 t162)).setCell ⟨g164, 4, none⟩ (.string t163)) = w45 at n0_ n1_ n2_ n3_ n4_ ⊢
         have B149 := n0_
         have B150 := n1_
         have B158 := n2_
         have B164 := n3_
         have HB := n4_
         clear n0_ n1_ n2_ n3_ n4_
         have n0_ := am (blk_drew B149.out)
         have n1_ := am (blk_drew B150.out)
         have n2_ := am (blk_drew B158.out)
         have n3_ := am (blk_drew B164.out)
         have n4_ := am (below_drew1 HB.out)
         clear B149
         clear B150
         clear B158
         clear B164
         clear HB
         have B149 := n0_
         have B150 := n1_
         have B158 := n2_
         have B164 := n3_
         have HB := n4_
         clear n0_ n1_ n2_ n3_ n4_
         refine start_ (n := 35) (S := fun w' => w'.cell? ⟨g158, 0, none⟩ = some (.string t153) ∧ w'.cell? ⟨g158, 1, none⟩ = some (.int .i64 t154) ∧ w'.cell? ⟨g158, 2, none⟩ = some (.int .i64 t155) ∧ w'.cell? ⟨g158, 3, none⟩ = some (.int .i64 t156) ∧ w'.cell? ⟨g158, 4, none⟩ = some (.string t157) ∧ w'.cell? ⟨g149, 0, none⟩ = some (.string a0_0) ∧ w'.cell? ⟨g149, 1, none⟩ = some (.int .i64 a0_1) ∧ w'.cell? ⟨g149, 2, none⟩ = some (.int .i64 a0_2) ∧ w'.cell? ⟨g149, 3, none⟩ = some (.string a0_3)) (ds := []) #[false, false, false, false, false, false, false, false, false, false, false, false, false, false, false, false, false, false, false, false, false, false, false, false, false, false, false, false, false, false, false, false, false, false, false] (by kernel_rfl) rfl rfl ⟨(blk_cell B158.out 0).trans rfl, (blk_cell B158.out 1).trans rfl, (blk_cell B158.out 2).trans rfl, (blk_cell B158.out 3).trans rfl, (blk_cell B158.out 4).trans rfl, (blk_cell B149.out 0).trans rfl, (blk_cell B149.out 1).trans rfl, (blk_cell B149.out 2).trans rfl, (blk_cell B149.out 3).trans rfl⟩ (fun h_ => ?_); refine with_tabW hamperlaw19_MetaOf.tab5 hamperlaw19_MetaOf.bits5 (fun T_ W_ => ?_)
         generalize w45.drew = w46 at B149 B150 B158 B164 HB h_ ⊢
         refine pu (i := 0) (N := some 26) (v := ?_) (a' := ?_) (lb 35 1) rfl rfl (ao T_.out (by kernel_rfl)) (λ _ _ _ h => h) (.inl ⟨by rfl, ?_⟩) ?_ ?_; rotate_left; (focus intro w'; go_simp; with_reducible rfl); rotate_left; (focus simp only [Act.put, sa, sb, sc, i64_w, i32_w]; rfl)
         refine pu (i := 2) (N := some 28) (v := ?_) (a' := ?_) (lb 35 5) rfl rfl (ao T_.out (by kernel_rfl)) (λ _ _ _ h => h) (.inl ⟨by rfl, ?_⟩) ?_ ?_; rotate_left; (focus intro w'; go_simp; with_reducible rfl); rotate_left; (focus simp only [Act.put, sa, sb, sc, i64_w, i32_w]; rfl)
         refine take_ (i := 1) (N := some 27) (v := ?_) (a' := ?_) (lb 35 7) rfl rfl (take_ofW T_.out W_.out (by kernel_rfl)) (λ _ _ _ h => h) (.inl ⟨by rfl, ?_⟩) h_ ?_ ?_; rotate_left; (focus rintro w' ⟨s0, s1, s2, s3, s4, s5, s6, s7, s8⟩; go_simp; with_reducible rfl); rotate_left; (focus simp only [Act.put, sa, sb, sc, i64_w, i32_w]; rfl)
         refine take_ (i := 3) (N := some 29) (v := ?_) (a' := ?_) (lb 35 15) rfl rfl (take_ofW T_.out W_.out (by kernel_rfl)) (λ _ _ _ h => h) (.inl ⟨by rfl, ?_⟩) h_ ?_ ?_; rotate_left; (focus rintro w' ⟨s0, s1, s2, s3, s4, s5, s6, s7, s8⟩; go_simp; with_reducible rfl); rotate_left; (focus simp only [Act.put, sa, sb, sc, i64_w, i32_w]; rfl)
         refine pu (i := 4) (N := some 30) (v := ?_) (a' := ?_) (lb 35 31) rfl rfl (ao T_.out (by kernel_rfl)) (λ _ _ _ h => h) (.inl ⟨by rfl, ?_⟩) ?_ ?_; rotate_left; (focus intro w'; go_simp; with_reducible rfl); rotate_left; (focus simp only [Act.put, sa, sb, sc, i64_w, i32_w]; rfl)
         refine pu (i := 5) (N := some 31) (v := ?_) (a' := ?_) (lb 35 63) rfl rfl (ao T_.out (by kernel_rfl)) (λ _ _ _ h => h) (.inl ⟨by rfl, ?_⟩) ?_ ?_; rotate_left; (focus intro w'; go_simp; with_reducible rfl); rotate_left; (focus simp only [Act.put, sa, sb, sc, i64_w, i32_w]; rfl)
         refine pu (i := 6) (N := some 32) (v := ?_) (a' := ?_) (lb 35 127) rfl rfl (ao T_.out (by kernel_rfl)) (λ _ _ _ h => h) (.inl ⟨by rfl, ?_⟩) ?_ ?_; rotate_left; (focus intro w'; go_simp; with_reducible rfl); rotate_left; (focus simp only [Act.put, sa, sb, sc, i64_w, i32_w]; rfl)
         refine pu (i := 8) (N := some 34) (v := ?_) (a' := ?_) (lb 35 383) rfl rfl (ao T_.out (by kernel_rfl)) (λ _ _ _ h => h) (.inl ⟨by rfl, ?_⟩) ?_ ?_; rotate_left; (focus intro w'; go_simp; with_reducible rfl); rotate_left; (focus simp only [Act.put, sa, sb, sc, i64_w, i32_w]; rfl)
         refine take_ (i := 7) (N := some 33) (v := ?_) (a' := ?_) (lb 35 511) rfl rfl (take_ofW T_.out W_.out (by kernel_rfl)) (λ _ _ _ h => h) (.inl ⟨by rfl, ?_⟩) h_ ?_ ?_; rotate_left; (focus rintro w' ⟨s0, s1, s2, s3, s4, s5, s6, s7, s8⟩; go_simp; with_reducible rfl); rotate_left; (focus simp only [Act.put, sa, sb, sc, i64_w, i32_w]; rfl)
         refine take_ (i := 9) (N := some 35) (v := ?_) (a' := ?_) (lb 35 1023) rfl rfl (take_ofW T_.out W_.out (by kernel_rfl)) (λ _ _ _ h => h) (.inl ⟨by rfl, ?_⟩) h_ ?_ ?_; rotate_left; (focus rintro w' ⟨s0, s1, s2, s3, s4, s5, s6, s7, s8⟩; go_simp; with_reducible rfl); rotate_left; (focus simp only [Act.put, sa, sb, sc, i64_w, i32_w]; rfl)
         refine pu (i := 10) (N := some 36) (v := ?_) (a' := ?_) (lb 35 2047) rfl rfl (ao T_.out (by kernel_rfl)) (λ _ _ _ h => h) (.inl ⟨by rfl, ?_⟩) ?_ ?_; rotate_left; (focus intro w'; go_simp; with_reducible rfl); rotate_left; (focus simp only [Act.put, sa, sb, sc, i64_w, i32_w]; rfl)
         refine pu (i := 11) (N := some 37) (v := ?_) (a' := ?_) (lb 35 4095) rfl rfl (ao T_.out (by kernel_rfl)) (λ _ _ _ h => h) (.inl ⟨by rfl, ?_⟩) ?_ ?_; rotate_left; (focus intro w'; go_simp; with_reducible rfl); rotate_left; (focus simp only [Act.put, sa, sb, sc, i64_w, i32_w]; rfl)
         refine pu (i := 12) (N := some 38) (v := ?_) (a' := ?_) (lb 35 8191) rfl rfl (ao T_.out (by kernel_rfl)) (λ _ _ _ h => h) (.inl ⟨by rfl, ?_⟩) ?_ ?_; rotate_left; (focus intro w'; go_simp; with_reducible rfl); rotate_left; (focus simp only [Act.put, sa, sb, sc, i64_w, i32_w]; rfl)
         refine pu (i := 13) (N := some 39) (v := ?_) (a' := ?_) (lb 35 16383) rfl rfl (ao T_.out (by kernel_rfl)) (λ _ _ _ h => h) (.inl ⟨by rfl, ?_⟩) ?_ ?_; rotate_left; (focus intro w'; go_simp; with_reducible rfl); rotate_left; (focus simp only [Act.put, sa, sb, sc, i64_w, i32_w]; rfl)
         refine pu (i := 15) (N := some 41) (v := ?_) (a' := ?_) (lb 35 49151) rfl rfl (ao T_.out (by kernel_rfl)) (λ _ _ _ h => h) (.inl ⟨by rfl, ?_⟩) ?_ ?_; rotate_left; (focus intro w'; go_simp; with_reducible rfl); rotate_left; (focus simp only [Act.put, sa, sb, sc, i64_w, i32_w]; rfl)
         refine take_ (i := 14) (N := some 40) (v := ?_) (a' := ?_) (lb 35 65535) rfl rfl (take_ofW T_.out W_.out (by kernel_rfl)) (λ _ _ _ h => h) (.inl ⟨by rfl, ?_⟩) h_ ?_ ?_; rotate_left; (focus rintro w' ⟨s0, s1, s2, s3, s4, s5, s6, s7, s8⟩; go_simp; with_reducible rfl); rotate_left; (focus simp only [Act.put, sa, sb, sc, i64_w, i32_w]; rfl)
         refine take_ (i := 16) (N := some 42) (v := ?_) (a' := ?_) (lb 35 131071) rfl rfl (take_ofW T_.out W_.out (by kernel_rfl)) (λ _ _ _ h => h) (.inl ⟨by rfl, ?_⟩) h_ ?_ ?_; rotate_left; (focus rintro w' ⟨s0, s1, s2, s3, s4, s5, s6, s7, s8⟩; go_simp; with_reducible rfl); rotate_left; (focus simp only [Act.put, sa, sb, sc, i64_w, i32_w]; rfl)
         refine pu (i := 17) (N := some 43) (v := ?_) (a' := ?_) (lb 35 262143) rfl rfl (ao T_.out (by kernel_rfl)) (λ _ _ _ h => h) (.inl ⟨by rfl, ?_⟩) ?_ ?_; rotate_left; (focus intro w'; go_simp; with_reducible rfl); rotate_left; (focus simp only [Act.put, sa, sb, sc, i64_w, i32_w]; rfl)
         refine pu (i := 18) (N := some 44) (v := ?_) (a' := ?_) (lb 35 524287) rfl rfl (ao T_.out (by kernel_rfl)) (λ _ _ _ h => h) (.inl ⟨by rfl, ?_⟩) ?_ ?_; rotate_left; (focus intro w'; go_simp; with_reducible rfl); rotate_left; (focus simp only [Act.put, sa, sb, sc, i64_w, i32_w]; rfl)
         refine pu (i := 19) (N := some 45) (v := ?_) (a' := ?_) (lb 35 1048575) rfl rfl (ao T_.out (by kernel_rfl)) (λ _ _ _ h => h) (.inl ⟨by rfl, ?_⟩) ?_ ?_; rotate_left; (focus intro w'; go_simp; with_reducible rfl); rotate_left; (focus simp only [Act.put, sa, sb, sc, i64_w, i32_w]; rfl)
         refine pu (i := 20) (N := some 46) (v := ?_) (a' := ?_) (lb 35 2097151) rfl rfl (ao T_.out (by kernel_rfl)) (λ _ _ _ h => h) (.inl ⟨by rfl, ?_⟩) ?_ ?_; rotate_left; (focus intro w'; go_simp; with_reducible rfl); rotate_left; (focus simp only [Act.put, sa, sb, sc, i64_w, i32_w]; rfl)
         refine pu (i := 22) (N := some 48) (v := ?_) (a' := ?_) (lb 35 6291455) rfl rfl (ao T_.out (by kernel_rfl)) (λ _ _ _ h => h) (.inl ⟨by rfl, ?_⟩) ?_ ?_; rotate_left; (focus intro w'; go_simp; with_reducible rfl); rotate_left; (focus simp only [Act.put, sa, sb, sc, i64_w, i32_w]; rfl)
         refine take_ (i := 21) (N := some 47) (v := ?_) (a' := ?_) (lb 35 8388607) rfl rfl (take_ofW T_.out W_.out (by kernel_rfl)) (λ _ _ _ h => h) (.inl ⟨by rfl, ?_⟩) h_ ?_ ?_; rotate_left; (focus rintro w' ⟨s0, s1, s2, s3, s4, s5, s6, s7, s8⟩; go_simp; with_reducible rfl); rotate_left; (focus simp only [Act.put, sa, sb, sc, i64_w, i32_w]; rfl)
         refine take_ (i := 23) (N := some 49) (v := ?_) (a' := ?_) (lb 35 16777215) rfl rfl (take_ofW T_.out W_.out (by kernel_rfl)) (λ _ _ _ h => h) (.inl ⟨by rfl, ?_⟩) h_ ?_ ?_; rotate_left; (focus rintro w' ⟨s0, s1, s2, s3, s4, s5, s6, s7, s8⟩; go_simp; with_reducible rfl); rotate_left; (focus simp only [Act.put, sa, sb, sc, i64_w, i32_w]; rfl)
         refine pu (i := 24) (N := some 50) (v := ?_) (a' := ?_) (lb 35 33554431) rfl rfl (ao T_.out (by kernel_rfl)) (λ _ _ _ h => h) (.inl ⟨by rfl, ?_⟩) ?_ ?_; rotate_left; (focus intro w'; go_simp; with_reducible rfl); rotate_left; (focus simp only [Act.put, sa, sb, sc, i64_w, i32_w]; rfl)
         refine pu (i := 25) (N := some 51) (v := ?_) (a' := ?_) (lb 35 67108863) rfl rfl (ao T_.out (by kernel_rfl)) (λ _ _ _ h => h) (.inl ⟨by rfl, ?_⟩) ?_ ?_; rotate_left; (focus intro w'; go_simp; with_reducible rfl); rotate_left; (focus simp only [Act.put, sa, sb, sc, i64_w, i32_w]; rfl)
         refine pu (i := 26) (N := some 52) (v := ?_) (a' := ?_) (lb 35 134217727) rfl rfl (ao T_.out (by kernel_rfl)) (λ _ _ _ h => h) (.inl ⟨by rfl, ?_⟩) ?_ ?_; rotate_left; (focus intro w'; go_simp; with_reducible rfl); rotate_left; (focus simp only [Act.put, sa, sb, sc, i64_w, i32_w]; rfl)
         refine pu (i := 27) (N := some 53) (v := ?_) (a' := ?_) (lb 35 268435455) rfl rfl (ao T_.out (by kernel_rfl)) (λ _ _ _ h => h) (.inl ⟨by rfl, ?_⟩) ?_ ?_; rotate_left; (focus intro w'; go_simp; with_reducible rfl); rotate_left; (focus simp only [Act.put, sa, sb, sc, i64_w, i32_w]; rfl)
         refine pu (i := 28) (N := some 54) (v := undef) (a' := ?_) (lb 35 536870911) rfl rfl (ao T_.out (by kernel_rfl)) (λ _ _ _ h => h) (Or.inr ⟨by rfl, rfl⟩) ?_ ?_
         rotate_left
         ·
          simp only [Act.put, sa, sb, sc, i64_w, i32_w]
          rfl
         refine pu (i := 29) (N := some 55) (v := undef) (a' := ?_) (lb 35 1073741823) rfl rfl (ao T_.out (by kernel_rfl)) (λ _ _ _ h => h) (Or.inr ⟨by rfl, rfl⟩) ?_ ?_
         rotate_left
         ·
          simp only [Act.put, sa, sb, sc, i64_w, i32_w]
          rfl
         refine pu (i := 30) (N := some 56) (v := undef) (a' := ?_) (lb 35 2147483647) rfl rfl (ao T_.out (by kernel_rfl)) (λ _ _ _ h => h) (Or.inr ⟨by rfl, rfl⟩) ?_ ?_
         rotate_left
         ·
          simp only [Act.put, sa, sb, sc, i64_w, i32_w]
          rfl
         refine pu (i := 31) (N := some 57) (v := undef) (a' := ?_) (lb 35 4294967295) rfl rfl (ao T_.out (by kernel_rfl)) (λ _ _ _ h => h) (Or.inr ⟨by rfl, rfl⟩) ?_ ?_
         rotate_left
         ·
          simp only [Act.put, sa, sb, sc, i64_w, i32_w]
          rfl
         refine pu (i := 32) (N := some 58) (v := undef) (a' := ?_) (lb 35 8589934591) rfl rfl (ao T_.out (by kernel_rfl)) (λ _ _ _ h => h) (Or.inr ⟨by rfl, rfl⟩) ?_ ?_
         rotate_left
         ·
          simp only [Act.put, sa, sb, sc, i64_w, i32_w]
          rfl
         refine pu (i := 33) (N := some 59) (v := undef) (a' := ?_) (lb 35 17179869183) rfl rfl (ao T_.out (by kernel_rfl)) (λ _ _ _ h => h) (Or.inr ⟨by rfl, rfl⟩) ?_ ?_
         rotate_left
         ·
          simp only [Act.put, sa, sb, sc, i64_w, i32_w]
          rfl
         refine pu (i := 34) (N := some 60) (v := ?_) (a' := ?_) (lb 35 34359738367) rfl rfl (ao T_.out (by kernel_rfl)) (λ _ _ _ h => h) (.inl ⟨by rfl, ?_⟩) ?_ ?_; rotate_left; (focus intro w'; go_simp; with_reducible rfl); rotate_left; (focus simp only [Act.put, sa, sb, sc, i64_w, i32_w]; rfl)
         refine done_ (done_of T_.out (by kernel_rfl)) ?_
         try go_wp2
         go_meet
         case rel => exact ⟨_, (true), (by first | rfl | (simp; done) | (simp [*]; done)), H', ⟨by have := HJ2.out; first | omega | exact Nat.le_refl _⟩, ⟨by (with_reducible repeat (first | refine blk_drewN ?_ _ | refine blk_drew ?_ | refine blk_alloc ?_ _)); exact B149.out⟩, ⟨by (with_reducible repeat (first | refine blk_drewN ?_ _ | refine blk_drew ?_ | refine blk_alloc ?_ _)); exact B150.out⟩, ⟨by (with_reducible repeat (first | refine blk_drewN ?_ _ | refine blk_drew ?_ | refine blk_alloc ?_ _)); exact B158.out⟩, ⟨by (with_reducible repeat (first | refine blk_drewN ?_ _ | refine blk_drew ?_ | refine blk_alloc ?_ _)); exact B164.out⟩, ⟨by repeat (first | (with_reducible first | exact HB.out | apply below_alloc | apply pw_below_drewN | apply below_drew1 | refine below_set ?_ GE149.out | refine below_set ?_ GE150.out | refine below_set ?_ GE158.out | refine below_set ?_ GE164.out) | exact HB.out)⟩⟩
       ·
        rw [if_neg c39] at H
        have c39b0 : (t155 == a0_2) = false := beq_eq_false_iff_ne.mpr c39
        have c39b1 : (t155 != a0_2) = true := bne_iff_ne.mpr c39
        have H' := am H
        clear H
        try go_wp2
        have n0_ : Aside0 ((((((w32.setCell ⟨g164, 0, none⟩ (.string t159)).setCell ⟨g164, 1, none⟩ (.int .i64 t160)).setCell ⟨g164, 2, none⟩ (.int .i64 t161)).setCell ⟨g164, 3, none⟩ (.int .i64 t162)).setCell ⟨g164, 4, none⟩ (.string t163)).heap[g149]? = some (.cells #[.string a0_0, .int .i64 a0_1, .int .i64 a0_2, .string a0_3] 37 (0, 0))) := ⟨by (with_reducible repeat (first | refine blk_drewN ?_ _ | refine blk_drew ?_ | refine blk_alloc ?_ _)); refine blk_far ?_ NB149_164.out _; (with_reducible repeat (first | refine blk_drewN ?_ _ | refine blk_drew ?_ | refine blk_alloc ?_ _)); refine blk_far ?_ NB149_164.out _; (with_reducible repeat (first | refine blk_drewN ?_ _ | refine blk_drew ?_ | refine blk_alloc ?_ _)); refine blk_far ?_ NB149_164.out _; (with_reducible repeat (first | refine blk_drewN ?_ _ | refine blk_drew ?_ | refine blk_alloc ?_ _)); refine blk_far ?_ NB149_164.out _; (with_reducible repeat (first | refine blk_drewN ?_ _ | refine blk_drew ?_ | refine blk_alloc ?_ _)); refine blk_far ?_ NB149_164.out _; (with_reducible repeat (first | refine blk_drewN ?_ _ | refine blk_drew ?_ | refine blk_alloc ?_ _)); exact B149.out⟩
        have n1_ : Aside0 ((((((w32.setCell ⟨g164, 0, none⟩ (.string t159)).setCell ⟨g164, 1, none⟩ (.int .i64 t160)).setCell ⟨g164, 2, none⟩ (.int .i64 t161)).setCell ⟨g164, 3, none⟩ (.int .i64 t162)).setCell ⟨g164, 4, none⟩ (.string t163)).heap[g150]? = some (.cells #[.string a1_0, .int .i64 a1_1, .int .i64 a1_2, .string a1_3] 37 (0, 0))) := ⟨by (with_reducible repeat (first | refine blk_drewN ?_ _ | refine blk_drew ?_ | refine blk_alloc ?_ _)); refine blk_far ?_ NB150_164.out _; (with_reducible repeat (first | refine blk_drewN ?_ _ | refine blk_drew ?_ | refine blk_alloc ?_ _)); refine blk_far ?_ NB150_164.out _; (with_reducible repeat (first | refine blk_drewN ?_ _ | refine blk_drew ?_ | refine blk_alloc ?_ _)); refine blk_far ?_ NB150_164.out _; (with_reducible repeat (first | refine blk_drewN ?_ _ | refine blk_drew ?_ | refine blk_alloc ?_ _)); refine blk_far ?_ NB150_164.out _; (with_reducible repeat (first | refine blk_drewN ?_ _ | refine blk_drew ?_ | refine blk_alloc ?_ _)); refine blk_far ?_ NB150_164.out _; (with_reducible repeat (first | refine blk_drewN ?_ _ | refine blk_drew ?_ | refine blk_alloc ?_ _)); exact B150.out⟩
        have n2_ : Aside0 ((((((w32.setCell ⟨g164, 0, none⟩ (.string t159)).setCell ⟨g164, 1, none⟩ (.int .i64 t160)).setCell ⟨g164, 2, none⟩ (.int .i64 t161)).setCell ⟨g164, 3, none⟩ (.int .i64 t162)).setCell ⟨g164, 4, none⟩ (.string t163)).heap[g158]? = some (.cells #[.string t153, .int .i64 t154, .int .i64 t155, .int .i64 t156, .string t157] 25 (0, 0))) := ⟨by (with_reducible repeat (first | refine blk_drewN ?_ _ | refine blk_drew ?_ | refine blk_alloc ?_ _)); refine blk_far ?_ NB158_164.out _; (with_reducible repeat (first | refine blk_drewN ?_ _ | refine blk_drew ?_ | refine blk_alloc ?_ _)); refine blk_far ?_ NB158_164.out _; (with_reducible repeat (first | refine blk_drewN ?_ _ | refine blk_drew ?_ | refine blk_alloc ?_ _)); refine blk_far ?_ NB158_164.out _; (with_reducible repeat (first | refine blk_drewN ?_ _ | refine blk_drew ?_ | refine blk_alloc ?_ _)); refine blk_far ?_ NB158_164.out _; (with_reducible repeat (first | refine blk_drewN ?_ _ | refine blk_drew ?_ | refine blk_alloc ?_ _)); refine blk_far ?_ NB158_164.out _; (with_reducible repeat (first | refine blk_drewN ?_ _ | refine blk_drew ?_ | refine blk_alloc ?_ _)); exact B158.out⟩
        have n3_ : Aside0 ((((((w32.setCell ⟨g164, 0, none⟩ (.string t159)).setCell ⟨g164, 1, none⟩ (.int .i64 t160)).setCell ⟨g164, 2, none⟩ (.int .i64 t161)).setCell ⟨g164, 3, none⟩ (.int .i64 t162)).setCell ⟨g164, 4, none⟩ (.string t163)).heap[g164]? = some (.cells #[.string t159, .int .i64 t160, .int .i64 t161, .int .i64 t162, .string t163] 25 (0, 0))) := ⟨by (with_reducible repeat (first | refine blk_drewN ?_ _ | refine blk_drew ?_ | refine blk_alloc ?_ _)); refine blk_put (cs := #[.string t159, .int .i64 t160, .int .i64 t161, .int .i64 t162, .string (⟨#[]⟩ : ByteArray)]) ?_ 4 _ rfl; (with_reducible repeat (first | refine blk_drewN ?_ _ | refine blk_drew ?_ | refine blk_alloc ?_ _)); refine blk_put (cs := #[.string t159, .int .i64 t160, .int .i64 t161, .int .i64 0, .string (⟨#[]⟩ : ByteArray)]) ?_ 3 _ rfl; (with_reducible repeat (first | refine blk_drewN ?_ _ | refine blk_drew ?_ | refine blk_alloc ?_ _)); refine blk_put (cs := #[.string t159, .int .i64 t160, .int .i64 0, .int .i64 0, .string (⟨#[]⟩ : ByteArray)]) ?_ 2 _ rfl; (with_reducible repeat (first | refine blk_drewN ?_ _ | refine blk_drew ?_ | refine blk_alloc ?_ _)); refine blk_put (cs := #[.string t159, .int .i64 0, .int .i64 0, .int .i64 0, .string (⟨#[]⟩ : ByteArray)]) ?_ 1 _ rfl; (with_reducible repeat (first | refine blk_drewN ?_ _ | refine blk_drew ?_ | refine blk_alloc ?_ _)); refine blk_put (cs := #[.string (⟨#[]⟩ : ByteArray), .int .i64 0, .int .i64 0, .int .i64 0, .string (⟨#[]⟩ : ByteArray)]) ?_ 0 _ rfl; (with_reducible repeat (first | refine blk_drewN ?_ _ | refine blk_drew ?_ | refine blk_alloc ?_ _)); exact B164.out⟩
        have n4_ : Aside0 (Below w.heap.size w (((((w32.setCell ⟨g164, 0, none⟩ (.string t159)).setCell ⟨g164, 1, none⟩ (.int .i64 t160)).setCell ⟨g164, 2, none⟩ (.int .i64 t161)).setCell ⟨g164, 3, none⟩ (.int .i64 t162)).setCell ⟨g164, 4, none⟩ (.string t163))) := ⟨by repeat (first | (with_reducible first | exact HB.out | apply below_alloc | apply pw_below_drewN | apply below_drew1 | refine below_set ?_ GE149.out | refine below_set ?_ GE150.out | refine below_set ?_ GE158.out | refine below_set ?_ GE164.out) | exact HB.out)⟩
        (try clear B149)
        (try clear B150)
        (try clear B158)
        (try clear B164)
        (try clear HB)
        generalize (((((w32.setCell ⟨g164, 0, none⟩ (.string t159)).setCell ⟨g164, 1, none⟩ (.int .i64 t160)).setCell ⟨g164, 2, none⟩ (.int .i64 t161)).setCell ⟨g164, 3, none⟩ (.int .i64 t162)).setCell ⟨g164, 4, none⟩ (.string t163)) = w47 at n0_ n1_ n2_ n3_ n4_ ⊢
        have B149 := n0_
        have B150 := n1_
        have B158 := n2_
        have B164 := n3_
        have HB := n4_
        clear n0_ n1_ n2_ n3_ n4_
        have n0_ := am (blk_drew B149.out)
        have n1_ := am (blk_drew B150.out)
        have n2_ := am (blk_drew B158.out)
        have n3_ := am (blk_drew B164.out)
        have n4_ := am (below_drew1 HB.out)
        clear B149
        clear B150
        clear B158
        clear B164
        clear HB
        have B149 := n0_
        have B150 := n1_
        have B158 := n2_
        have B164 := n3_
        have HB := n4_
        clear n0_ n1_ n2_ n3_ n4_
        refine start_ (n := 35) (S := fun w' => w'.cell? ⟨g158, 0, none⟩ = some (.string t153) ∧ w'.cell? ⟨g158, 1, none⟩ = some (.int .i64 t154) ∧ w'.cell? ⟨g158, 2, none⟩ = some (.int .i64 t155) ∧ w'.cell? ⟨g158, 3, none⟩ = some (.int .i64 t156) ∧ w'.cell? ⟨g158, 4, none⟩ = some (.string t157) ∧ w'.cell? ⟨g149, 0, none⟩ = some (.string a0_0) ∧ w'.cell? ⟨g149, 1, none⟩ = some (.int .i64 a0_1) ∧ w'.cell? ⟨g149, 2, none⟩ = some (.int .i64 a0_2) ∧ w'.cell? ⟨g149, 3, none⟩ = some (.string a0_3)) (ds := []) #[false, false, false, false, false, false, false, false, false, false, false, false, false, false, false, false, false, false, false, false, false, false, false, false, false, false, false, false, false, false, false, false, false, false, false] (by kernel_rfl) rfl rfl ⟨(blk_cell B158.out 0).trans rfl, (blk_cell B158.out 1).trans rfl, (blk_cell B158.out 2).trans rfl, (blk_cell B158.out 3).trans rfl, (blk_cell B158.out 4).trans rfl, (blk_cell B149.out 0).trans rfl, (blk_cell B149.out 1).trans rfl, (blk_cell B149.out 2).trans rfl, (blk_cell B149.out 3).trans rfl⟩ (fun h_ => ?_); refine with_tabW hamperlaw19_MetaOf.tab5 hamperlaw19_MetaOf.bits5 (fun T_ W_ => ?_)
        generalize w47.drew = w48 at B149 B150 B158 B164 HB h_ ⊢
        refine pu (i := 0) (N := some 26) (v := ?_) (a' := ?_) (lb 35 1) rfl rfl (ao T_.out (by kernel_rfl)) (λ _ _ _ h => h) (.inl ⟨by rfl, ?_⟩) ?_ ?_; rotate_left; (focus intro w'; go_simp; with_reducible rfl); rotate_left; (focus simp only [Act.put, sa, sb, sc, i64_w, i32_w]; rfl)
        refine pu (i := 2) (N := some 28) (v := ?_) (a' := ?_) (lb 35 5) rfl rfl (ao T_.out (by kernel_rfl)) (λ _ _ _ h => h) (.inl ⟨by rfl, ?_⟩) ?_ ?_; rotate_left; (focus intro w'; go_simp; with_reducible rfl); rotate_left; (focus simp only [Act.put, sa, sb, sc, i64_w, i32_w]; rfl)
        refine take_ (i := 1) (N := some 27) (v := ?_) (a' := ?_) (lb 35 7) rfl rfl (take_ofW T_.out W_.out (by kernel_rfl)) (λ _ _ _ h => h) (.inl ⟨by rfl, ?_⟩) h_ ?_ ?_; rotate_left; (focus rintro w' ⟨s0, s1, s2, s3, s4, s5, s6, s7, s8⟩; go_simp; with_reducible rfl); rotate_left; (focus simp only [Act.put, sa, sb, sc, i64_w, i32_w]; rfl)
        refine take_ (i := 3) (N := some 29) (v := ?_) (a' := ?_) (lb 35 15) rfl rfl (take_ofW T_.out W_.out (by kernel_rfl)) (λ _ _ _ h => h) (.inl ⟨by rfl, ?_⟩) h_ ?_ ?_; rotate_left; (focus rintro w' ⟨s0, s1, s2, s3, s4, s5, s6, s7, s8⟩; go_simp; with_reducible rfl); rotate_left; (focus simp only [Act.put, sa, sb, sc, i64_w, i32_w]; rfl)
        refine pu (i := 4) (N := some 30) (v := ?_) (a' := ?_) (lb 35 31) rfl rfl (ao T_.out (by kernel_rfl)) (λ _ _ _ h => h) (.inl ⟨by rfl, ?_⟩) ?_ ?_; rotate_left; (focus intro w'; go_simp; with_reducible rfl); rotate_left; (focus simp only [Act.put, sa, sb, sc, i64_w, i32_w]; rfl)
        refine pu (i := 5) (N := some 31) (v := ?_) (a' := ?_) (lb 35 63) rfl rfl (ao T_.out (by kernel_rfl)) (λ _ _ _ h => h) (.inl ⟨by rfl, ?_⟩) ?_ ?_; rotate_left; (focus intro w'; go_simp; with_reducible rfl); rotate_left; (focus simp only [Act.put, sa, sb, sc, i64_w, i32_w]; rfl)
        refine pu (i := 6) (N := some 32) (v := ?_) (a' := ?_) (lb 35 127) rfl rfl (ao T_.out (by kernel_rfl)) (λ _ _ _ h => h) (.inl ⟨by rfl, ?_⟩) ?_ ?_; rotate_left; (focus intro w'; go_simp; with_reducible rfl); rotate_left; (focus simp only [Act.put, sa, sb, sc, i64_w, i32_w]; rfl)
        refine pu (i := 8) (N := some 34) (v := ?_) (a' := ?_) (lb 35 383) rfl rfl (ao T_.out (by kernel_rfl)) (λ _ _ _ h => h) (.inl ⟨by rfl, ?_⟩) ?_ ?_; rotate_left; (focus intro w'; go_simp; with_reducible rfl); rotate_left; (focus simp only [Act.put, sa, sb, sc, i64_w, i32_w]; rfl)
        refine take_ (i := 7) (N := some 33) (v := ?_) (a' := ?_) (lb 35 511) rfl rfl (take_ofW T_.out W_.out (by kernel_rfl)) (λ _ _ _ h => h) (.inl ⟨by rfl, ?_⟩) h_ ?_ ?_; rotate_left; (focus rintro w' ⟨s0, s1, s2, s3, s4, s5, s6, s7, s8⟩; go_simp; with_reducible rfl); rotate_left; (focus simp only [Act.put, sa, sb, sc, i64_w, i32_w]; rfl)
        refine take_ (i := 9) (N := some 35) (v := ?_) (a' := ?_) (lb 35 1023) rfl rfl (take_ofW T_.out W_.out (by kernel_rfl)) (λ _ _ _ h => h) (.inl ⟨by rfl, ?_⟩) h_ ?_ ?_; rotate_left; (focus rintro w' ⟨s0, s1, s2, s3, s4, s5, s6, s7, s8⟩; go_simp; with_reducible rfl); rotate_left; (focus simp only [Act.put, sa, sb, sc, i64_w, i32_w]; rfl)
        refine pu (i := 10) (N := some 36) (v := ?_) (a' := ?_) (lb 35 2047) rfl rfl (ao T_.out (by kernel_rfl)) (λ _ _ _ h => h) (.inl ⟨by rfl, ?_⟩) ?_ ?_; rotate_left; (focus intro w'; go_simp; with_reducible rfl); rotate_left; (focus simp only [Act.put, sa, sb, sc, i64_w, i32_w]; rfl)
        refine pu (i := 11) (N := some 37) (v := ?_) (a' := ?_) (lb 35 4095) rfl rfl (ao T_.out (by kernel_rfl)) (λ _ _ _ h => h) (.inl ⟨by rfl, ?_⟩) ?_ ?_; rotate_left; (focus intro w'; go_simp; with_reducible rfl); rotate_left; (focus simp only [Act.put, sa, sb, sc, i64_w, i32_w]; rfl)
        refine pu (i := 12) (N := some 38) (v := ?_) (a' := ?_) (lb 35 8191) rfl rfl (ao T_.out (by kernel_rfl)) (λ _ _ _ h => h) (.inl ⟨by rfl, ?_⟩) ?_ ?_; rotate_left; (focus intro w'; go_simp; with_reducible rfl); rotate_left; (focus simp only [Act.put, sa, sb, sc, i64_w, i32_w]; rfl)
        refine pu (i := 13) (N := some 39) (v := ?_) (a' := ?_) (lb 35 16383) rfl rfl (ao T_.out (by kernel_rfl)) (λ _ _ _ h => h) (.inl ⟨by rfl, ?_⟩) ?_ ?_; rotate_left; (focus intro w'; go_simp; with_reducible rfl); rotate_left; (focus simp only [Act.put, sa, sb, sc, i64_w, i32_w]; rfl)
        refine pu (i := 15) (N := some 41) (v := ?_) (a' := ?_) (lb 35 49151) rfl rfl (ao T_.out (by kernel_rfl)) (λ _ _ _ h => h) (.inl ⟨by rfl, ?_⟩) ?_ ?_; rotate_left; (focus intro w'; go_simp; with_reducible rfl); rotate_left; (focus simp only [Act.put, sa, sb, sc, i64_w, i32_w]; rfl)
        refine take_ (i := 14) (N := some 40) (v := ?_) (a' := ?_) (lb 35 65535) rfl rfl (take_ofW T_.out W_.out (by kernel_rfl)) (λ _ _ _ h => h) (.inl ⟨by rfl, ?_⟩) h_ ?_ ?_; rotate_left; (focus rintro w' ⟨s0, s1, s2, s3, s4, s5, s6, s7, s8⟩; go_simp; with_reducible rfl); rotate_left; (focus simp only [Act.put, sa, sb, sc, i64_w, i32_w]; rfl)
        refine take_ (i := 16) (N := some 42) (v := ?_) (a' := ?_) (lb 35 131071) rfl rfl (take_ofW T_.out W_.out (by kernel_rfl)) (λ _ _ _ h => h) (.inl ⟨by rfl, ?_⟩) h_ ?_ ?_; rotate_left; (focus rintro w' ⟨s0, s1, s2, s3, s4, s5, s6, s7, s8⟩; go_simp; with_reducible rfl); rotate_left; (focus simp only [Act.put, sa, sb, sc, i64_w, i32_w]; rfl)
        refine pu (i := 17) (N := some 43) (v := ?_) (a' := ?_) (lb 35 262143) rfl rfl (ao T_.out (by kernel_rfl)) (λ _ _ _ h => h) (.inl ⟨by rfl, ?_⟩) ?_ ?_; rotate_left; (focus intro w'; go_simp; with_reducible rfl); rotate_left; (focus simp only [Act.put, sa, sb, sc, i64_w, i32_w]; rfl)
        refine pu (i := 18) (N := some 44) (v := ?_) (a' := ?_) (lb 35 524287) rfl rfl (ao T_.out (by kernel_rfl)) (λ _ _ _ h => h) (.inl ⟨by rfl, ?_⟩) ?_ ?_; rotate_left; (focus intro w'; go_simp; with_reducible rfl); rotate_left; (focus simp only [Act.put, sa, sb, sc, i64_w, i32_w]; rfl)
        refine pu (i := 19) (N := some 45) (v := ?_) (a' := ?_) (lb 35 1048575) rfl rfl (ao T_.out (by kernel_rfl)) (λ _ _ _ h => h) (.inl ⟨by rfl, ?_⟩) ?_ ?_; rotate_left; (focus intro w'; go_simp; with_reducible rfl); rotate_left; (focus simp only [Act.put, sa, sb, sc, i64_w, i32_w]; rfl)
        refine pu (i := 20) (N := some 46) (v := undef) (a' := ?_) (lb 35 2097151) rfl rfl (ao T_.out (by kernel_rfl)) (λ _ _ _ h => h) (Or.inr ⟨by rfl, rfl⟩) ?_ ?_
        rotate_left
        ·
         simp only [Act.put, sa, sb, sc, i64_w, i32_w]
         rfl
        refine pu (i := 21) (N := some 47) (v := undef) (a' := ?_) (lb 35 4194303) rfl rfl (ao T_.out (by kernel_rfl)) (λ _ _ _ h => h) (Or.inr ⟨by rfl, rfl⟩) ?_ ?_
        rotate_left
        ·
         simp only [Act.put, sa, sb, sc, i64_w, i32_w]
         rfl
        refine pu (i := 22) (N := some 48) (v := undef) (a' := ?_) (lb 35 8388607) rfl rfl (ao T_.out (by kernel_rfl)) (λ _ _ _ h => h) (Or.inr ⟨by rfl, rfl⟩) ?_ ?_
        rotate_left
        ·
         simp only [Act.put, sa, sb, sc, i64_w, i32_w]
         rfl
        refine pu (i := 23) (N := some 49) (v := undef) (a' := ?_) (lb 35 16777215) rfl rfl (ao T_.out (by kernel_rfl)) (λ _ _ _ h => h) (Or.inr ⟨by rfl, rfl⟩) ?_ ?_
        rotate_left
        ·
         simp only [Act.put, sa, sb, sc, i64_w, i32_w]
         rfl
        refine pu (i := 24) (N := some 50) (v := undef) (a' := ?_) (lb 35 33554431) rfl rfl (ao T_.out (by kernel_rfl)) (λ _ _ _ h => h) (Or.inr ⟨by rfl, rfl⟩) ?_ ?_
        rotate_left
        ·
         simp only [Act.put, sa, sb, sc, i64_w, i32_w]
         rfl
        refine pu (i := 25) (N := some 51) (v := undef) (a' := ?_) (lb 35 67108863) rfl rfl (ao T_.out (by kernel_rfl)) (λ _ _ _ h => h) (Or.inr ⟨by rfl, rfl⟩) ?_ ?_
        rotate_left
        ·
         simp only [Act.put, sa, sb, sc, i64_w, i32_w]
         rfl
        refine pu (i := 26) (N := some 52) (v := ?_) (a' := ?_) (lb 35 134217727) rfl rfl (ao T_.out (by kernel_rfl)) (λ _ _ _ h => h) (.inl ⟨by rfl, ?_⟩) ?_ ?_; rotate_left; (focus intro w'; go_simp; with_reducible rfl); rotate_left; (focus simp only [Act.put, sa, sb, sc, i64_w, i32_w]; rfl)
        refine pu (i := 27) (N := some 53) (v := ?_) (a' := ?_) (lb 35 268435455) rfl rfl (ao T_.out (by kernel_rfl)) (λ _ _ _ h => h) (.inl ⟨by rfl, ?_⟩) ?_ ?_; rotate_left; (focus intro w'; go_simp; with_reducible rfl); rotate_left; (focus simp only [Act.put, sa, sb, sc, i64_w, i32_w]; rfl)
        refine pu (i := 28) (N := some 54) (v := undef) (a' := ?_) (lb 35 536870911) rfl rfl (ao T_.out (by kernel_rfl)) (λ _ _ _ h => h) (Or.inr ⟨by rfl, rfl⟩) ?_ ?_
        rotate_left
        ·
         simp only [Act.put, sa, sb, sc, i64_w, i32_w]
         rfl
        refine pu (i := 29) (N := some 55) (v := undef) (a' := ?_) (lb 35 1073741823) rfl rfl (ao T_.out (by kernel_rfl)) (λ _ _ _ h => h) (Or.inr ⟨by rfl, rfl⟩) ?_ ?_
        rotate_left
        ·
         simp only [Act.put, sa, sb, sc, i64_w, i32_w]
         rfl
        refine pu (i := 30) (N := some 56) (v := undef) (a' := ?_) (lb 35 2147483647) rfl rfl (ao T_.out (by kernel_rfl)) (λ _ _ _ h => h) (Or.inr ⟨by rfl, rfl⟩) ?_ ?_
        rotate_left
        ·
         simp only [Act.put, sa, sb, sc, i64_w, i32_w]
         rfl
        refine pu (i := 31) (N := some 57) (v := undef) (a' := ?_) (lb 35 4294967295) rfl rfl (ao T_.out (by kernel_rfl)) (λ _ _ _ h => h) (Or.inr ⟨by rfl, rfl⟩) ?_ ?_
        rotate_left
        ·
         simp only [Act.put, sa, sb, sc, i64_w, i32_w]
         rfl
        refine pu (i := 32) (N := some 58) (v := undef) (a' := ?_) (lb 35 8589934591) rfl rfl (ao T_.out (by kernel_rfl)) (λ _ _ _ h => h) (Or.inr ⟨by rfl, rfl⟩) ?_ ?_
        rotate_left
        ·
         simp only [Act.put, sa, sb, sc, i64_w, i32_w]
         rfl
        refine pu (i := 33) (N := some 59) (v := undef) (a' := ?_) (lb 35 17179869183) rfl rfl (ao T_.out (by kernel_rfl)) (λ _ _ _ h => h) (Or.inr ⟨by rfl, rfl⟩) ?_ ?_
        rotate_left
        ·
         simp only [Act.put, sa, sb, sc, i64_w, i32_w]
         rfl
        refine pu (i := 34) (N := some 60) (v := ?_) (a' := ?_) (lb 35 34359738367) rfl rfl (ao T_.out (by kernel_rfl)) (λ _ _ _ h => h) (.inl ⟨by rfl, ?_⟩) ?_ ?_; rotate_left; (focus intro w'; go_simp; with_reducible rfl); rotate_left; (focus simp only [Act.put, sa, sb, sc, i64_w, i32_w]; rfl)
        refine done_ (done_of T_.out (by kernel_rfl)) ?_
        try go_wp2
        go_meet
        case rel => exact ⟨_, (true), (by first | rfl | (simp; done) | (simp [*]; done)), H', ⟨by have := HJ2.out; first | omega | exact Nat.le_refl _⟩, ⟨by (with_reducible repeat (first | refine blk_drewN ?_ _ | refine blk_drew ?_ | refine blk_alloc ?_ _)); exact B149.out⟩, ⟨by (with_reducible repeat (first | refine blk_drewN ?_ _ | refine blk_drew ?_ | refine blk_alloc ?_ _)); exact B150.out⟩, ⟨by (with_reducible repeat (first | refine blk_drewN ?_ _ | refine blk_drew ?_ | refine blk_alloc ?_ _)); exact B158.out⟩, ⟨by (with_reducible repeat (first | refine blk_drewN ?_ _ | refine blk_drew ?_ | refine blk_alloc ?_ _)); exact B164.out⟩, ⟨by repeat (first | (with_reducible first | exact HB.out | apply below_alloc | apply pw_below_drewN | apply below_drew1 | refine below_set ?_ GE149.out | refine below_set ?_ GE150.out | refine below_set ?_ GE158.out | refine below_set ?_ GE164.out) | exact HB.out)⟩⟩
      ·
       rw [if_neg c38] at H
       have c38b0 : (t154 == a0_1) = false := beq_eq_false_iff_ne.mpr c38
       have c38b1 : (t154 != a0_1) = true := bne_iff_ne.mpr c38
       have H' := am H
       clear H
       try go_wp2
       have n0_ : Aside0 ((((((w32.setCell ⟨g164, 0, none⟩ (.string t159)).setCell ⟨g164, 1, none⟩ (.int .i64 t160)).setCell ⟨g164, 2, none⟩ (.int .i64 t161)).setCell ⟨g164, 3, none⟩ (.int .i64 t162)).setCell ⟨g164, 4, none⟩ (.string t163)).heap[g149]? = some (.cells #[.string a0_0, .int .i64 a0_1, .int .i64 a0_2, .string a0_3] 37 (0, 0))) := ⟨by (with_reducible repeat (first | refine blk_drewN ?_ _ | refine blk_drew ?_ | refine blk_alloc ?_ _)); refine blk_far ?_ NB149_164.out _; (with_reducible repeat (first | refine blk_drewN ?_ _ | refine blk_drew ?_ | refine blk_alloc ?_ _)); refine blk_far ?_ NB149_164.out _; (with_reducible repeat (first | refine blk_drewN ?_ _ | refine blk_drew ?_ | refine blk_alloc ?_ _)); refine blk_far ?_ NB149_164.out _; (with_reducible repeat (first | refine blk_drewN ?_ _ | refine blk_drew ?_ | refine blk_alloc ?_ _)); refine blk_far ?_ NB149_164.out _; (with_reducible repeat (first | refine blk_drewN ?_ _ | refine blk_drew ?_ | refine blk_alloc ?_ _)); refine blk_far ?_ NB149_164.out _; (with_reducible repeat (first | refine blk_drewN ?_ _ | refine blk_drew ?_ | refine blk_alloc ?_ _)); exact B149.out⟩
       have n1_ : Aside0 ((((((w32.setCell ⟨g164, 0, none⟩ (.string t159)).setCell ⟨g164, 1, none⟩ (.int .i64 t160)).setCell ⟨g164, 2, none⟩ (.int .i64 t161)).setCell ⟨g164, 3, none⟩ (.int .i64 t162)).setCell ⟨g164, 4, none⟩ (.string t163)).heap[g150]? = some (.cells #[.string a1_0, .int .i64 a1_1, .int .i64 a1_2, .string a1_3] 37 (0, 0))) := ⟨by (with_reducible repeat (first | refine blk_drewN ?_ _ | refine blk_drew ?_ | refine blk_alloc ?_ _)); refine blk_far ?_ NB150_164.out _; (with_reducible repeat (first | refine blk_drewN ?_ _ | refine blk_drew ?_ | refine blk_alloc ?_ _)); refine blk_far ?_ NB150_164.out _; (with_reducible repeat (first | refine blk_drewN ?_ _ | refine blk_drew ?_ | refine blk_alloc ?_ _)); refine blk_far ?_ NB150_164.out _; (with_reducible repeat (first | refine blk_drewN ?_ _ | refine blk_drew ?_ | refine blk_alloc ?_ _)); refine blk_far ?_ NB150_164.out _; (with_reducible repeat (first | refine blk_drewN ?_ _ | refine blk_drew ?_ | refine blk_alloc ?_ _)); refine blk_far ?_ NB150_164.out _; (with_reducible repeat (first | refine blk_drewN ?_ _ | refine blk_drew ?_ | refine blk_alloc ?_ _)); exact B150.out⟩
       have n2_ : Aside0 ((((((w32.setCell ⟨g164, 0, none⟩ (.string t159)).setCell ⟨g164, 1, none⟩ (.int .i64 t160)).setCell ⟨g164, 2, none⟩ (.int .i64 t161)).setCell ⟨g164, 3, none⟩ (.int .i64 t162)).setCell ⟨g164, 4, none⟩ (.string t163)).heap[g158]? = some (.cells #[.string t153, .int .i64 t154, .int .i64 t155, .int .i64 t156, .string t157] 25 (0, 0))) := ⟨by (with_reducible repeat (first | refine blk_drewN ?_ _ | refine blk_drew ?_ | refine blk_alloc ?_ _)); refine blk_far ?_ NB158_164.out _; (with_reducible repeat (first | refine blk_drewN ?_ _ | refine blk_drew ?_ | refine blk_alloc ?_ _)); refine blk_far ?_ NB158_164.out _; (with_reducible repeat (first | refine blk_drewN ?_ _ | refine blk_drew ?_ | refine blk_alloc ?_ _)); refine blk_far ?_ NB158_164.out _; (with_reducible repeat (first | refine blk_drewN ?_ _ | refine blk_drew ?_ | refine blk_alloc ?_ _)); refine blk_far ?_ NB158_164.out _; (with_reducible repeat (first | refine blk_drewN ?_ _ | refine blk_drew ?_ | refine blk_alloc ?_ _)); refine blk_far ?_ NB158_164.out _; (with_reducible repeat (first | refine blk_drewN ?_ _ | refine blk_drew ?_ | refine blk_alloc ?_ _)); exact B158.out⟩
       have n3_ : Aside0 ((((((w32.setCell ⟨g164, 0, none⟩ (.string t159)).setCell ⟨g164, 1, none⟩ (.int .i64 t160)).setCell ⟨g164, 2, none⟩ (.int .i64 t161)).setCell ⟨g164, 3, none⟩ (.int .i64 t162)).setCell ⟨g164, 4, none⟩ (.string t163)).heap[g164]? = some (.cells #[.string t159, .int .i64 t160, .int .i64 t161, .int .i64 t162, .string t163] 25 (0, 0))) := ⟨by (with_reducible repeat (first | refine blk_drewN ?_ _ | refine blk_drew ?_ | refine blk_alloc ?_ _)); refine blk_put (cs := #[.string t159, .int .i64 t160, .int .i64 t161, .int .i64 t162, .string (⟨#[]⟩ : ByteArray)]) ?_ 4 _ rfl; (with_reducible repeat (first | refine blk_drewN ?_ _ | refine blk_drew ?_ | refine blk_alloc ?_ _)); refine blk_put (cs := #[.string t159, .int .i64 t160, .int .i64 t161, .int .i64 0, .string (⟨#[]⟩ : ByteArray)]) ?_ 3 _ rfl; (with_reducible repeat (first | refine blk_drewN ?_ _ | refine blk_drew ?_ | refine blk_alloc ?_ _)); refine blk_put (cs := #[.string t159, .int .i64 t160, .int .i64 0, .int .i64 0, .string (⟨#[]⟩ : ByteArray)]) ?_ 2 _ rfl; (with_reducible repeat (first | refine blk_drewN ?_ _ | refine blk_drew ?_ | refine blk_alloc ?_ _)); refine blk_put (cs := #[.string t159, .int .i64 0, .int .i64 0, .int .i64 0, .string (⟨#[]⟩ : ByteArray)]) ?_ 1 _ rfl; (with_reducible repeat (first | refine blk_drewN ?_ _ | refine blk_drew ?_ | refine blk_alloc ?_ _)); refine blk_put (cs := #[.string (⟨#[]⟩ : ByteArray), .int .i64 0, .int .i64 0, .int .i64 0, .string (⟨#[]⟩ : ByteArray)]) ?_ 0 _ rfl; (with_reducible repeat (first | refine blk_drewN ?_ _ | refine blk_drew ?_ | refine blk_alloc ?_ _)); exact B164.out⟩
       have n4_ : Aside0 (Below w.heap.size w (((((w32.setCell ⟨g164, 0, none⟩ (.string t159)).setCell ⟨g164, 1, none⟩ (.int .i64 t160)).setCell ⟨g164, 2, none⟩ (.int .i64 t161)).setCell ⟨g164, 3, none⟩ (.int .i64 t162)).setCell ⟨g164, 4, none⟩ (.string t163))) := ⟨by repeat (first | (with_reducible first | exact HB.out | apply below_alloc | apply pw_below_drewN | apply below_drew1 | refine below_set ?_ GE149.out | refine below_set ?_ GE150.out | refine below_set ?_ GE158.out | refine below_set ?_ GE164.out) | exact HB.out)⟩
       (try clear B149)
       (try clear B150)
       (try clear B158)
       (try clear B164)
       (try clear HB)
       generalize (((((w32.setCell ⟨g164, 0, none⟩ (.string t159)).setCell ⟨g164, 1, none⟩ (.int .i64 t160)).setCell ⟨g164, 2, none⟩ (.int .i64 t161)).setCell ⟨g164, 3, none⟩ (.int .i64 t162)).setCell ⟨g164, 4, none⟩ (.string t163)) = w49 at n0_ n1_ n2_ n3_ n4_ ⊢
       have B149 := n0_
       have B150 := n1_
       have B158 := n2_
       have B164 := n3_
       have HB := n4_
       clear n0_ n1_ n2_ n3_ n4_
       have n0_ := am (blk_drew B149.out)
       have n1_ := am (blk_drew B150.out)
       have n2_ := am (blk_drew B158.out)
       have n3_ := am (blk_drew B164.out)
       have n4_ := am (below_drew1 HB.out)
       clear B149
       clear B150
       clear B158
       clear B164
       clear HB
       have B149 := n0_
       have B150 := n1_
       have B158 := n2_
       have B164 := n3_
       have HB := n4_
       clear n0_ n1_ n2_ n3_ n4_
       refine start_ (n := 35) (S := fun w' => w'.cell? ⟨g158, 0, none⟩ = some (.string t153) ∧ w'.cell? ⟨g158, 1, none⟩ = some (.int .i64 t154) ∧ w'.cell? ⟨g158, 2, none⟩ = some (.int .i64 t155) ∧ w'.cell? ⟨g158, 3, none⟩ = some (.int .i64 t156) ∧ w'.cell? ⟨g158, 4, none⟩ = some (.string t157) ∧ w'.cell? ⟨g149, 0, none⟩ = some (.string a0_0) ∧ w'.cell? ⟨g149, 1, none⟩ = some (.int .i64 a0_1) ∧ w'.cell? ⟨g149, 2, none⟩ = some (.int .i64 a0_2) ∧ w'.cell? ⟨g149, 3, none⟩ = some (.string a0_3)) (ds := []) #[false, false, false, false, false, false, false, false, false, false, false, false, false, false, false, false, false, false, false, false, false, false, false, false, false, false, false, false, false, false, false, false, false, false, false] (by kernel_rfl) rfl rfl ⟨(blk_cell B158.out 0).trans rfl, (blk_cell B158.out 1).trans rfl, (blk_cell B158.out 2).trans rfl, (blk_cell B158.out 3).trans rfl, (blk_cell B158.out 4).trans rfl, (blk_cell B149.out 0).trans rfl, (blk_cell B149.out 1).trans rfl, (blk_cell B149.out 2).trans rfl, (blk_cell B149.out 3).trans rfl⟩ (fun h_ => ?_); refine with_tabW hamperlaw19_MetaOf.tab5 hamperlaw19_MetaOf.bits5 (fun T_ W_ => ?_)
       generalize w49.drew = w50 at B149 B150 B158 B164 HB h_ ⊢
       refine pu (i := 0) (N := some 26) (v := ?_) (a' := ?_) (lb 35 1) rfl rfl (ao T_.out (by kernel_rfl)) (λ _ _ _ h => h) (.inl ⟨by rfl, ?_⟩) ?_ ?_; rotate_left; (focus intro w'; go_simp; with_reducible rfl); rotate_left; (focus simp only [Act.put, sa, sb, sc, i64_w, i32_w]; rfl)
       refine pu (i := 2) (N := some 28) (v := ?_) (a' := ?_) (lb 35 5) rfl rfl (ao T_.out (by kernel_rfl)) (λ _ _ _ h => h) (.inl ⟨by rfl, ?_⟩) ?_ ?_; rotate_left; (focus intro w'; go_simp; with_reducible rfl); rotate_left; (focus simp only [Act.put, sa, sb, sc, i64_w, i32_w]; rfl)
       refine take_ (i := 1) (N := some 27) (v := ?_) (a' := ?_) (lb 35 7) rfl rfl (take_ofW T_.out W_.out (by kernel_rfl)) (λ _ _ _ h => h) (.inl ⟨by rfl, ?_⟩) h_ ?_ ?_; rotate_left; (focus rintro w' ⟨s0, s1, s2, s3, s4, s5, s6, s7, s8⟩; go_simp; with_reducible rfl); rotate_left; (focus simp only [Act.put, sa, sb, sc, i64_w, i32_w]; rfl)
       refine take_ (i := 3) (N := some 29) (v := ?_) (a' := ?_) (lb 35 15) rfl rfl (take_ofW T_.out W_.out (by kernel_rfl)) (λ _ _ _ h => h) (.inl ⟨by rfl, ?_⟩) h_ ?_ ?_; rotate_left; (focus rintro w' ⟨s0, s1, s2, s3, s4, s5, s6, s7, s8⟩; go_simp; with_reducible rfl); rotate_left; (focus simp only [Act.put, sa, sb, sc, i64_w, i32_w]; rfl)
       refine pu (i := 4) (N := some 30) (v := ?_) (a' := ?_) (lb 35 31) rfl rfl (ao T_.out (by kernel_rfl)) (λ _ _ _ h => h) (.inl ⟨by rfl, ?_⟩) ?_ ?_; rotate_left; (focus intro w'; go_simp; with_reducible rfl); rotate_left; (focus simp only [Act.put, sa, sb, sc, i64_w, i32_w]; rfl)
       refine pu (i := 5) (N := some 31) (v := ?_) (a' := ?_) (lb 35 63) rfl rfl (ao T_.out (by kernel_rfl)) (λ _ _ _ h => h) (.inl ⟨by rfl, ?_⟩) ?_ ?_; rotate_left; (focus intro w'; go_simp; with_reducible rfl); rotate_left; (focus simp only [Act.put, sa, sb, sc, i64_w, i32_w]; rfl)
       refine pu (i := 6) (N := some 32) (v := ?_) (a' := ?_) (lb 35 127) rfl rfl (ao T_.out (by kernel_rfl)) (λ _ _ _ h => h) (.inl ⟨by rfl, ?_⟩) ?_ ?_; rotate_left; (focus intro w'; go_simp; with_reducible rfl); rotate_left; (focus simp only [Act.put, sa, sb, sc, i64_w, i32_w]; rfl)
       refine pu (i := 8) (N := some 34) (v := ?_) (a' := ?_) (lb 35 383) rfl rfl (ao T_.out (by kernel_rfl)) (λ _ _ _ h => h) (.inl ⟨by rfl, ?_⟩) ?_ ?_; rotate_left; (focus intro w'; go_simp; with_reducible rfl); rotate_left; (focus simp only [Act.put, sa, sb, sc, i64_w, i32_w]; rfl)
       refine take_ (i := 7) (N := some 33) (v := ?_) (a' := ?_) (lb 35 511) rfl rfl (take_ofW T_.out W_.out (by kernel_rfl)) (λ _ _ _ h => h) (.inl ⟨by rfl, ?_⟩) h_ ?_ ?_; rotate_left; (focus rintro w' ⟨s0, s1, s2, s3, s4, s5, s6, s7, s8⟩; go_simp; with_reducible rfl); rotate_left; (focus simp only [Act.put, sa, sb, sc, i64_w, i32_w]; rfl)
       refine take_ (i := 9) (N := some 35) (v := ?_) (a' := ?_) (lb 35 1023) rfl rfl (take_ofW T_.out W_.out (by kernel_rfl)) (λ _ _ _ h => h) (.inl ⟨by rfl, ?_⟩) h_ ?_ ?_; rotate_left; (focus rintro w' ⟨s0, s1, s2, s3, s4, s5, s6, s7, s8⟩; go_simp; with_reducible rfl); rotate_left; (focus simp only [Act.put, sa, sb, sc, i64_w, i32_w]; rfl)
       refine pu (i := 10) (N := some 36) (v := ?_) (a' := ?_) (lb 35 2047) rfl rfl (ao T_.out (by kernel_rfl)) (λ _ _ _ h => h) (.inl ⟨by rfl, ?_⟩) ?_ ?_; rotate_left; (focus intro w'; go_simp; with_reducible rfl); rotate_left; (focus simp only [Act.put, sa, sb, sc, i64_w, i32_w]; rfl)
       refine pu (i := 11) (N := some 37) (v := ?_) (a' := ?_) (lb 35 4095) rfl rfl (ao T_.out (by kernel_rfl)) (λ _ _ _ h => h) (.inl ⟨by rfl, ?_⟩) ?_ ?_; rotate_left; (focus intro w'; go_simp; with_reducible rfl); rotate_left; (focus simp only [Act.put, sa, sb, sc, i64_w, i32_w]; rfl)
       refine pu (i := 12) (N := some 38) (v := ?_) (a' := ?_) (lb 35 8191) rfl rfl (ao T_.out (by kernel_rfl)) (λ _ _ _ h => h) (.inl ⟨by rfl, ?_⟩) ?_ ?_; rotate_left; (focus intro w'; go_simp; with_reducible rfl); rotate_left; (focus simp only [Act.put, sa, sb, sc, i64_w, i32_w]; rfl)
       refine pu (i := 13) (N := some 39) (v := undef) (a' := ?_) (lb 35 16383) rfl rfl (ao T_.out (by kernel_rfl)) (λ _ _ _ h => h) (Or.inr ⟨by rfl, rfl⟩) ?_ ?_
       rotate_left
       ·
        simp only [Act.put, sa, sb, sc, i64_w, i32_w]
        rfl
       refine pu (i := 14) (N := some 40) (v := undef) (a' := ?_) (lb 35 32767) rfl rfl (ao T_.out (by kernel_rfl)) (λ _ _ _ h => h) (Or.inr ⟨by rfl, rfl⟩) ?_ ?_
       rotate_left
       ·
        simp only [Act.put, sa, sb, sc, i64_w, i32_w]
        rfl
       refine pu (i := 15) (N := some 41) (v := undef) (a' := ?_) (lb 35 65535) rfl rfl (ao T_.out (by kernel_rfl)) (λ _ _ _ h => h) (Or.inr ⟨by rfl, rfl⟩) ?_ ?_
       rotate_left
       ·
        simp only [Act.put, sa, sb, sc, i64_w, i32_w]
        rfl
       refine pu (i := 16) (N := some 42) (v := undef) (a' := ?_) (lb 35 131071) rfl rfl (ao T_.out (by kernel_rfl)) (λ _ _ _ h => h) (Or.inr ⟨by rfl, rfl⟩) ?_ ?_
       rotate_left
       ·
        simp only [Act.put, sa, sb, sc, i64_w, i32_w]
        rfl
       refine pu (i := 17) (N := some 43) (v := undef) (a' := ?_) (lb 35 262143) rfl rfl (ao T_.out (by kernel_rfl)) (λ _ _ _ h => h) (Or.inr ⟨by rfl, rfl⟩) ?_ ?_
       rotate_left
       ·
        simp only [Act.put, sa, sb, sc, i64_w, i32_w]
        rfl
       refine pu (i := 18) (N := some 44) (v := ?_) (a' := ?_) (lb 35 524287) rfl rfl (ao T_.out (by kernel_rfl)) (λ _ _ _ h => h) (.inl ⟨by rfl, ?_⟩) ?_ ?_; rotate_left; (focus intro w'; go_simp; with_reducible rfl); rotate_left; (focus simp only [Act.put, sa, sb, sc, i64_w, i32_w]; rfl)
       refine pu (i := 19) (N := some 45) (v := ?_) (a' := ?_) (lb 35 1048575) rfl rfl (ao T_.out (by kernel_rfl)) (λ _ _ _ h => h) (.inl ⟨by rfl, ?_⟩) ?_ ?_; rotate_left; (focus intro w'; go_simp; with_reducible rfl); rotate_left; (focus simp only [Act.put, sa, sb, sc, i64_w, i32_w]; rfl)
       refine pu (i := 20) (N := some 46) (v := undef) (a' := ?_) (lb 35 2097151) rfl rfl (ao T_.out (by kernel_rfl)) (λ _ _ _ h => h) (Or.inr ⟨by rfl, rfl⟩) ?_ ?_
       rotate_left
       ·
        simp only [Act.put, sa, sb, sc, i64_w, i32_w]
        rfl
       refine pu (i := 21) (N := some 47) (v := undef) (a' := ?_) (lb 35 4194303) rfl rfl (ao T_.out (by kernel_rfl)) (λ _ _ _ h => h) (Or.inr ⟨by rfl, rfl⟩) ?_ ?_
       rotate_left
       ·
        simp only [Act.put, sa, sb, sc, i64_w, i32_w]
        rfl
       refine pu (i := 22) (N := some 48) (v := undef) (a' := ?_) (lb 35 8388607) rfl rfl (ao T_.out (by kernel_rfl)) (λ _ _ _ h => h) (Or.inr ⟨by rfl, rfl⟩) ?_ ?_
       rotate_left
       ·
        simp only [Act.put, sa, sb, sc, i64_w, i32_w]
        rfl
       refine pu (i := 23) (N := some 49) (v := undef) (a' := ?_) (lb 35 16777215) rfl rfl (ao T_.out (by kernel_rfl)) (λ _ _ _ h => h) (Or.inr ⟨by rfl, rfl⟩) ?_ ?_
       rotate_left
       ·
        simp only [Act.put, sa, sb, sc, i64_w, i32_w]
        rfl
       refine pu (i := 24) (N := some 50) (v := undef) (a' := ?_) (lb 35 33554431) rfl rfl (ao T_.out (by kernel_rfl)) (λ _ _ _ h => h) (Or.inr ⟨by rfl, rfl⟩) ?_ ?_
       rotate_left
       ·
        simp only [Act.put, sa, sb, sc, i64_w, i32_w]
        rfl
       refine pu (i := 25) (N := some 51) (v := undef) (a' := ?_) (lb 35 67108863) rfl rfl (ao T_.out (by kernel_rfl)) (λ _ _ _ h => h) (Or.inr ⟨by rfl, rfl⟩) ?_ ?_
       rotate_left
       ·
        simp only [Act.put, sa, sb, sc, i64_w, i32_w]
        rfl
       refine pu (i := 26) (N := some 52) (v := ?_) (a' := ?_) (lb 35 134217727) rfl rfl (ao T_.out (by kernel_rfl)) (λ _ _ _ h => h) (.inl ⟨by rfl, ?_⟩) ?_ ?_; rotate_left; (focus intro w'; go_simp; with_reducible rfl); rotate_left; (focus simp only [Act.put, sa, sb, sc, i64_w, i32_w]; rfl)
       refine pu (i := 27) (N := some 53) (v := ?_) (a' := ?_) (lb 35 268435455) rfl rfl (ao T_.out (by kernel_rfl)) (λ _ _ _ h => h) (.inl ⟨by rfl, ?_⟩) ?_ ?_; rotate_left; (focus intro w'; go_simp; with_reducible rfl); rotate_left; (focus simp only [Act.put, sa, sb, sc, i64_w, i32_w]; rfl)
       refine pu (i := 28) (N := some 54) (v := undef) (a' := ?_) (lb 35 536870911) rfl rfl (ao T_.out (by kernel_rfl)) (λ _ _ _ h => h) (Or.inr ⟨by rfl, rfl⟩) ?_ ?_
       rotate_left
       ·
        simp only [Act.put, sa, sb, sc, i64_w, i32_w]
        rfl
       refine pu (i := 29) (N := some 55) (v := undef) (a' := ?_) (lb 35 1073741823) rfl rfl (ao T_.out (by kernel_rfl)) (λ _ _ _ h => h) (Or.inr ⟨by rfl, rfl⟩) ?_ ?_
       rotate_left
       ·
        simp only [Act.put, sa, sb, sc, i64_w, i32_w]
        rfl
       refine pu (i := 30) (N := some 56) (v := undef) (a' := ?_) (lb 35 2147483647) rfl rfl (ao T_.out (by kernel_rfl)) (λ _ _ _ h => h) (Or.inr ⟨by rfl, rfl⟩) ?_ ?_
       rotate_left
       ·
        simp only [Act.put, sa, sb, sc, i64_w, i32_w]
        rfl
       refine pu (i := 31) (N := some 57) (v := undef) (a' := ?_) (lb 35 4294967295) rfl rfl (ao T_.out (by kernel_rfl)) (λ _ _ _ h => h) (Or.inr ⟨by rfl, rfl⟩) ?_ ?_
       rotate_left
       ·
        simp only [Act.put, sa, sb, sc, i64_w, i32_w]
        rfl
       refine pu (i := 32) (N := some 58) (v := undef) (a' := ?_) (lb 35 8589934591) rfl rfl (ao T_.out (by kernel_rfl)) (λ _ _ _ h => h) (Or.inr ⟨by rfl, rfl⟩) ?_ ?_
       rotate_left
       ·
        simp only [Act.put, sa, sb, sc, i64_w, i32_w]
        rfl
       refine pu (i := 33) (N := some 59) (v := undef) (a' := ?_) (lb 35 17179869183) rfl rfl (ao T_.out (by kernel_rfl)) (λ _ _ _ h => h) (Or.inr ⟨by rfl, rfl⟩) ?_ ?_
       rotate_left
       ·
        simp only [Act.put, sa, sb, sc, i64_w, i32_w]
        rfl
       refine pu (i := 34) (N := some 60) (v := ?_) (a' := ?_) (lb 35 34359738367) rfl rfl (ao T_.out (by kernel_rfl)) (λ _ _ _ h => h) (.inl ⟨by rfl, ?_⟩) ?_ ?_; rotate_left; (focus intro w'; go_simp; with_reducible rfl); rotate_left; (focus simp only [Act.put, sa, sb, sc, i64_w, i32_w]; rfl)
       refine done_ (done_of T_.out (by kernel_rfl)) ?_
       try go_wp2
       go_meet
       case rel => exact ⟨_, (true), (by first | rfl | (simp; done) | (simp [*]; done)), H', ⟨by have := HJ2.out; first | omega | exact Nat.le_refl _⟩, ⟨by (with_reducible repeat (first | refine blk_drewN ?_ _ | refine blk_drew ?_ | refine blk_alloc ?_ _)); exact B149.out⟩, ⟨by (with_reducible repeat (first | refine blk_drewN ?_ _ | refine blk_drew ?_ | refine blk_alloc ?_ _)); exact B150.out⟩, ⟨by (with_reducible repeat (first | refine blk_drewN ?_ _ | refine blk_drew ?_ | refine blk_alloc ?_ _)); exact B158.out⟩, ⟨by (with_reducible repeat (first | refine blk_drewN ?_ _ | refine blk_drew ?_ | refine blk_alloc ?_ _)); exact B164.out⟩, ⟨by repeat (first | (with_reducible first | exact HB.out | apply below_alloc | apply pw_below_drewN | apply below_drew1 | refine below_set ?_ GE149.out | refine below_set ?_ GE150.out | refine below_set ?_ GE158.out | refine below_set ?_ GE164.out) | exact HB.out)⟩⟩
     ·
      rw [if_neg c37] at H
      have c37b0 : (t153.toList == a0_0.toList) = false := beq_eq_false_iff_ne.mpr c37
      have c37b1 : (t153.toList != a0_0.toList) = true := bne_iff_ne.mpr c37
      (first | rw [c37b0] | (simp only [i64_w, i32_w]; rw [c37b0]) | skip)
      have H' := am H
      clear H
      try go_wp2
      have n0_ : Aside0 ((((((w32.setCell ⟨g164, 0, none⟩ (.string t159)).setCell ⟨g164, 1, none⟩ (.int .i64 t160)).setCell ⟨g164, 2, none⟩ (.int .i64 t161)).setCell ⟨g164, 3, none⟩ (.int .i64 t162)).setCell ⟨g164, 4, none⟩ (.string t163)).heap[g149]? = some (.cells #[.string a0_0, .int .i64 a0_1, .int .i64 a0_2, .string a0_3] 37 (0, 0))) := ⟨by (with_reducible repeat (first | refine blk_drewN ?_ _ | refine blk_drew ?_ | refine blk_alloc ?_ _)); refine blk_far ?_ NB149_164.out _; (with_reducible repeat (first | refine blk_drewN ?_ _ | refine blk_drew ?_ | refine blk_alloc ?_ _)); refine blk_far ?_ NB149_164.out _; (with_reducible repeat (first | refine blk_drewN ?_ _ | refine blk_drew ?_ | refine blk_alloc ?_ _)); refine blk_far ?_ NB149_164.out _; (with_reducible repeat (first | refine blk_drewN ?_ _ | refine blk_drew ?_ | refine blk_alloc ?_ _)); refine blk_far ?_ NB149_164.out _; (with_reducible repeat (first | refine blk_drewN ?_ _ | refine blk_drew ?_ | refine blk_alloc ?_ _)); refine blk_far ?_ NB149_164.out _; (with_reducible repeat (first | refine blk_drewN ?_ _ | refine blk_drew ?_ | refine blk_alloc ?_ _)); exact B149.out⟩
      have n1_ : Aside0 ((((((w32.setCell ⟨g164, 0, none⟩ (.string t159)).setCell ⟨g164, 1, none⟩ (.int .i64 t160)).setCell ⟨g164, 2, none⟩ (.int .i64 t161)).setCell ⟨g164, 3, none⟩ (.int .i64 t162)).setCell ⟨g164, 4, none⟩ (.string t163)).heap[g150]? = some (.cells #[.string a1_0, .int .i64 a1_1, .int .i64 a1_2, .string a1_3] 37 (0, 0))) := ⟨by (with_reducible repeat (first | refine blk_drewN ?_ _ | refine blk_drew ?_ | refine blk_alloc ?_ _)); refine blk_far ?_ NB150_164.out _; (with_reducible repeat (first | refine blk_drewN ?_ _ | refine blk_drew ?_ | refine blk_alloc ?_ _)); refine blk_far ?_ NB150_164.out _; (with_reducible repeat (first | refine blk_drewN ?_ _ | refine blk_drew ?_ | refine blk_alloc ?_ _)); refine blk_far ?_ NB150_164.out _; (with_reducible repeat (first | refine blk_drewN ?_ _ | refine blk_drew ?_ | refine blk_alloc ?_ _)); refine blk_far ?_ NB150_164.out _; (with_reducible repeat (first | refine blk_drewN ?_ _ | refine blk_drew ?_ | refine blk_alloc ?_ _)); refine blk_far ?_ NB150_164.out _; (with_reducible repeat (first | refine blk_drewN ?_ _ | refine blk_drew ?_ | refine blk_alloc ?_ _)); exact B150.out⟩
      have n2_ : Aside0 ((((((w32.setCell ⟨g164, 0, none⟩ (.string t159)).setCell ⟨g164, 1, none⟩ (.int .i64 t160)).setCell ⟨g164, 2, none⟩ (.int .i64 t161)).setCell ⟨g164, 3, none⟩ (.int .i64 t162)).setCell ⟨g164, 4, none⟩ (.string t163)).heap[g158]? = some (.cells #[.string t153, .int .i64 t154, .int .i64 t155, .int .i64 t156, .string t157] 25 (0, 0))) := ⟨by (with_reducible repeat (first | refine blk_drewN ?_ _ | refine blk_drew ?_ | refine blk_alloc ?_ _)); refine blk_far ?_ NB158_164.out _; (with_reducible repeat (first | refine blk_drewN ?_ _ | refine blk_drew ?_ | refine blk_alloc ?_ _)); refine blk_far ?_ NB158_164.out _; (with_reducible repeat (first | refine blk_drewN ?_ _ | refine blk_drew ?_ | refine blk_alloc ?_ _)); refine blk_far ?_ NB158_164.out _; (with_reducible repeat (first | refine blk_drewN ?_ _ | refine blk_drew ?_ | refine blk_alloc ?_ _)); refine blk_far ?_ NB158_164.out _; (with_reducible repeat (first | refine blk_drewN ?_ _ | refine blk_drew ?_ | refine blk_alloc ?_ _)); refine blk_far ?_ NB158_164.out _; (with_reducible repeat (first | refine blk_drewN ?_ _ | refine blk_drew ?_ | refine blk_alloc ?_ _)); exact B158.out⟩
      have n3_ : Aside0 ((((((w32.setCell ⟨g164, 0, none⟩ (.string t159)).setCell ⟨g164, 1, none⟩ (.int .i64 t160)).setCell ⟨g164, 2, none⟩ (.int .i64 t161)).setCell ⟨g164, 3, none⟩ (.int .i64 t162)).setCell ⟨g164, 4, none⟩ (.string t163)).heap[g164]? = some (.cells #[.string t159, .int .i64 t160, .int .i64 t161, .int .i64 t162, .string t163] 25 (0, 0))) := ⟨by (with_reducible repeat (first | refine blk_drewN ?_ _ | refine blk_drew ?_ | refine blk_alloc ?_ _)); refine blk_put (cs := #[.string t159, .int .i64 t160, .int .i64 t161, .int .i64 t162, .string (⟨#[]⟩ : ByteArray)]) ?_ 4 _ rfl; (with_reducible repeat (first | refine blk_drewN ?_ _ | refine blk_drew ?_ | refine blk_alloc ?_ _)); refine blk_put (cs := #[.string t159, .int .i64 t160, .int .i64 t161, .int .i64 0, .string (⟨#[]⟩ : ByteArray)]) ?_ 3 _ rfl; (with_reducible repeat (first | refine blk_drewN ?_ _ | refine blk_drew ?_ | refine blk_alloc ?_ _)); refine blk_put (cs := #[.string t159, .int .i64 t160, .int .i64 0, .int .i64 0, .string (⟨#[]⟩ : ByteArray)]) ?_ 2 _ rfl; (with_reducible repeat (first | refine blk_drewN ?_ _ | refine blk_drew ?_ | refine blk_alloc ?_ _)); refine blk_put (cs := #[.string t159, .int .i64 0, .int .i64 0, .int .i64 0, .string (⟨#[]⟩ : ByteArray)]) ?_ 1 _ rfl; (with_reducible repeat (first | refine blk_drewN ?_ _ | refine blk_drew ?_ | refine blk_alloc ?_ _)); refine blk_put (cs := #[.string (⟨#[]⟩ : ByteArray), .int .i64 0, .int .i64 0, .int .i64 0, .string (⟨#[]⟩ : ByteArray)]) ?_ 0 _ rfl; (with_reducible repeat (first | refine blk_drewN ?_ _ | refine blk_drew ?_ | refine blk_alloc ?_ _)); exact B164.out⟩
      have n4_ : Aside0 (Below w.heap.size w (((((w32.setCell ⟨g164, 0, none⟩ (.string t159)).setCell ⟨g164, 1, none⟩ (.int .i64 t160)).setCell ⟨g164, 2, none⟩ (.int .i64 t161)).setCell ⟨g164, 3, none⟩ (.int .i64 t162)).setCell ⟨g164, 4, none⟩ (.string t163))) := ⟨by repeat (first | (with_reducible first | exact HB.out | apply below_alloc | apply pw_below_drewN | apply below_drew1 | refine below_set ?_ GE149.out | refine below_set ?_ GE150.out | refine below_set ?_ GE158.out | refine below_set ?_ GE164.out) | exact HB.out)⟩
      (try clear B149)
      (try clear B150)
      (try clear B158)
      (try clear B164)
      (try clear HB)
      generalize (((((w32.setCell ⟨g164, 0, none⟩ (.string t159)).setCell ⟨g164, 1, none⟩ (.int .i64 t160)).setCell ⟨g164, 2, none⟩ (.int .i64 t161)).setCell ⟨g164, 3, none⟩ (.int .i64 t162)).setCell ⟨g164, 4, none⟩ (.string t163)) = w51 at n0_ n1_ n2_ n3_ n4_ ⊢
      have B149 := n0_
      have B150 := n1_
      have B158 := n2_
      have B164 := n3_
      have HB := n4_
      clear n0_ n1_ n2_ n3_ n4_
      have n0_ := am (blk_drew B149.out)
      have n1_ := am (blk_drew B150.out)
      have n2_ := am (blk_drew B158.out)
      have n3_ := am (blk_drew B164.out)
      have n4_ := am (below_drew1 HB.out)
      clear B149
      clear B150
      clear B158
      clear B164
      clear HB
      have B149 := n0_
      have B150 := n1_
      have B158 := n2_
      have B164 := n3_
      have HB := n4_
      clear n0_ n1_ n2_ n3_ n4_
      refine start_ (n := 35) (S := fun w' => w'.cell? ⟨g158, 0, none⟩ = some (.string t153) ∧ w'.cell? ⟨g158, 1, none⟩ = some (.int .i64 t154) ∧ w'.cell? ⟨g158, 2, none⟩ = some (.int .i64 t155) ∧ w'.cell? ⟨g158, 3, none⟩ = some (.int .i64 t156) ∧ w'.cell? ⟨g158, 4, none⟩ = some (.string t157) ∧ w'.cell? ⟨g149, 0, none⟩ = some (.string a0_0) ∧ w'.cell? ⟨g149, 1, none⟩ = some (.int .i64 a0_1) ∧ w'.cell? ⟨g149, 2, none⟩ = some (.int .i64 a0_2) ∧ w'.cell? ⟨g149, 3, none⟩ = some (.string a0_3)) (ds := []) #[false, false, false, false, false, false, false, false, false, false, false, false, false, false, false, false, false, false, false, false, false, false, false, false, false, false, false, false, false, false, false, false, false, false, false] (by kernel_rfl) rfl rfl ⟨(blk_cell B158.out 0).trans rfl, (blk_cell B158.out 1).trans rfl, (blk_cell B158.out 2).trans rfl, (blk_cell B158.out 3).trans rfl, (blk_cell B158.out 4).trans rfl, (blk_cell B149.out 0).trans rfl, (blk_cell B149.out 1).trans rfl, (blk_cell B149.out 2).trans rfl, (blk_cell B149.out 3).trans rfl⟩ (fun h_ => ?_); refine with_tabW hamperlaw19_MetaOf.tab5 hamperlaw19_MetaOf.bits5 (fun T_ W_ => ?_)
      generalize w51.drew = w52 at B149 B150 B158 B164 HB h_ ⊢
      refine pu (i := 0) (N := some 26) (v := ?_) (a' := ?_) (lb 35 1) rfl rfl (ao T_.out (by kernel_rfl)) (λ _ _ _ h => h) (.inl ⟨by rfl, ?_⟩) ?_ ?_; rotate_left; (focus intro w'; go_simp; with_reducible rfl); rotate_left; (focus simp only [Act.put, sa, sb, sc, i64_w, i32_w]; rfl)
      refine pu (i := 2) (N := some 28) (v := ?_) (a' := ?_) (lb 35 5) rfl rfl (ao T_.out (by kernel_rfl)) (λ _ _ _ h => h) (.inl ⟨by rfl, ?_⟩) ?_ ?_; rotate_left; (focus intro w'; go_simp; with_reducible rfl); rotate_left; (focus simp only [Act.put, sa, sb, sc, i64_w, i32_w]; rfl)
      refine take_ (i := 1) (N := some 27) (v := ?_) (a' := ?_) (lb 35 7) rfl rfl (take_ofW T_.out W_.out (by kernel_rfl)) (λ _ _ _ h => h) (.inl ⟨by rfl, ?_⟩) h_ ?_ ?_; rotate_left; (focus rintro w' ⟨s0, s1, s2, s3, s4, s5, s6, s7, s8⟩; go_simp; with_reducible rfl); rotate_left; (focus simp only [Act.put, sa, sb, sc, i64_w, i32_w]; rfl)
      refine take_ (i := 3) (N := some 29) (v := ?_) (a' := ?_) (lb 35 15) rfl rfl (take_ofW T_.out W_.out (by kernel_rfl)) (λ _ _ _ h => h) (.inl ⟨by rfl, ?_⟩) h_ ?_ ?_; rotate_left; (focus rintro w' ⟨s0, s1, s2, s3, s4, s5, s6, s7, s8⟩; go_simp; with_reducible rfl); rotate_left; (focus simp only [Act.put, sa, sb, sc, i64_w, i32_w]; rfl)
      refine pu (i := 4) (N := some 30) (v := ?_) (a' := ?_) (lb 35 31) rfl rfl (ao T_.out (by kernel_rfl)) (λ _ _ _ h => h) (.inl ⟨by rfl, ?_⟩) ?_ ?_; rotate_left; (focus intro w'; go_simp; with_reducible rfl); rotate_left; (focus simp only [Act.put, sa, sb, sc, i64_w, i32_w]; rfl)
      refine pu (i := 5) (N := some 31) (v := ?_) (a' := ?_) (lb 35 63) rfl rfl (ao T_.out (by kernel_rfl)) (λ _ _ _ h => h) (.inl ⟨by rfl, ?_⟩) ?_ ?_; rotate_left; (focus intro w'; go_simp; with_reducible rfl); rotate_left; (focus simp only [Act.put, sa, sb, sc, i64_w, i32_w]; rfl)
      refine pu (i := 6) (N := some 32) (v := undef) (a' := ?_) (lb 35 127) rfl rfl (ao T_.out (by kernel_rfl)) (λ _ _ _ h => h) (Or.inr ⟨by rfl, rfl⟩) ?_ ?_
      rotate_left
      ·
       simp only [Act.put, sa, sb, sc, i64_w, i32_w]
       rfl
      refine pu (i := 7) (N := some 33) (v := undef) (a' := ?_) (lb 35 255) rfl rfl (ao T_.out (by kernel_rfl)) (λ _ _ _ h => h) (Or.inr ⟨by rfl, rfl⟩) ?_ ?_
      rotate_left
      ·
       simp only [Act.put, sa, sb, sc, i64_w, i32_w]
       rfl
      refine pu (i := 8) (N := some 34) (v := undef) (a' := ?_) (lb 35 511) rfl rfl (ao T_.out (by kernel_rfl)) (λ _ _ _ h => h) (Or.inr ⟨by rfl, rfl⟩) ?_ ?_
      rotate_left
      ·
       simp only [Act.put, sa, sb, sc, i64_w, i32_w]
       rfl
      refine pu (i := 9) (N := some 35) (v := undef) (a' := ?_) (lb 35 1023) rfl rfl (ao T_.out (by kernel_rfl)) (λ _ _ _ h => h) (Or.inr ⟨by rfl, rfl⟩) ?_ ?_
      rotate_left
      ·
       simp only [Act.put, sa, sb, sc, i64_w, i32_w]
       rfl
      refine pu (i := 10) (N := some 36) (v := undef) (a' := ?_) (lb 35 2047) rfl rfl (ao T_.out (by kernel_rfl)) (λ _ _ _ h => h) (Or.inr ⟨by rfl, rfl⟩) ?_ ?_
      rotate_left
      ·
       simp only [Act.put, sa, sb, sc, i64_w, i32_w]
       rfl
      refine pu (i := 11) (N := some 37) (v := ?_) (a' := ?_) (lb 35 4095) rfl rfl (ao T_.out (by kernel_rfl)) (λ _ _ _ h => h) (.inl ⟨by rfl, ?_⟩) ?_ ?_; rotate_left; (focus intro w'; go_simp; with_reducible rfl); rotate_left; (focus simp only [Act.put, sa, sb, sc, i64_w, i32_w]; rfl)
      refine pu (i := 12) (N := some 38) (v := ?_) (a' := ?_) (lb 35 8191) rfl rfl (ao T_.out (by kernel_rfl)) (λ _ _ _ h => h) (.inl ⟨by rfl, ?_⟩) ?_ ?_; rotate_left; (focus intro w'; go_simp; with_reducible rfl); rotate_left; (focus simp only [Act.put, sa, sb, sc, i64_w, i32_w]; rfl)
      refine pu (i := 13) (N := some 39) (v := undef) (a' := ?_) (lb 35 16383) rfl rfl (ao T_.out (by kernel_rfl)) (λ _ _ _ h => h) (Or.inr ⟨by rfl, rfl⟩) ?_ ?_
      rotate_left
      ·
       simp only [Act.put, sa, sb, sc, i64_w, i32_w]
       rfl
      refine pu (i := 14) (N := some 40) (v := undef) (a' := ?_) (lb 35 32767) rfl rfl (ao T_.out (by kernel_rfl)) (λ _ _ _ h => h) (Or.inr ⟨by rfl, rfl⟩) ?_ ?_
      rotate_left
      ·
       simp only [Act.put, sa, sb, sc, i64_w, i32_w]
       rfl
      refine pu (i := 15) (N := some 41) (v := undef) (a' := ?_) (lb 35 65535) rfl rfl (ao T_.out (by kernel_rfl)) (λ _ _ _ h => h) (Or.inr ⟨by rfl, rfl⟩) ?_ ?_
      rotate_left
      ·
       simp only [Act.put, sa, sb, sc, i64_w, i32_w]
       rfl
      refine pu (i := 16) (N := some 42) (v := undef) (a' := ?_) (lb 35 131071) rfl rfl (ao T_.out (by kernel_rfl)) (λ _ _ _ h => h) (Or.inr ⟨by rfl, rfl⟩) ?_ ?_
      rotate_left
      ·
       simp only [Act.put, sa, sb, sc, i64_w, i32_w]
       rfl
      refine pu (i := 17) (N := some 43) (v := undef) (a' := ?_) (lb 35 262143) rfl rfl (ao T_.out (by kernel_rfl)) (λ _ _ _ h => h) (Or.inr ⟨by rfl, rfl⟩) ?_ ?_
      rotate_left
      ·
       simp only [Act.put, sa, sb, sc, i64_w, i32_w]
       rfl
      refine pu (i := 18) (N := some 44) (v := ?_) (a' := ?_) (lb 35 524287) rfl rfl (ao T_.out (by kernel_rfl)) (λ _ _ _ h => h) (.inl ⟨by rfl, ?_⟩) ?_ ?_; rotate_left; (focus intro w'; go_simp; with_reducible rfl); rotate_left; (focus simp only [Act.put, sa, sb, sc, i64_w, i32_w]; rfl)
      refine pu (i := 19) (N := some 45) (v := ?_) (a' := ?_) (lb 35 1048575) rfl rfl (ao T_.out (by kernel_rfl)) (λ _ _ _ h => h) (.inl ⟨by rfl, ?_⟩) ?_ ?_; rotate_left; (focus intro w'; go_simp; with_reducible rfl); rotate_left; (focus simp only [Act.put, sa, sb, sc, i64_w, i32_w]; rfl)
      refine pu (i := 20) (N := some 46) (v := undef) (a' := ?_) (lb 35 2097151) rfl rfl (ao T_.out (by kernel_rfl)) (λ _ _ _ h => h) (Or.inr ⟨by rfl, rfl⟩) ?_ ?_
      rotate_left
      ·
       simp only [Act.put, sa, sb, sc, i64_w, i32_w]
       rfl
      refine pu (i := 21) (N := some 47) (v := undef) (a' := ?_) (lb 35 4194303) rfl rfl (ao T_.out (by kernel_rfl)) (λ _ _ _ h => h) (Or.inr ⟨by rfl, rfl⟩) ?_ ?_
      rotate_left
      ·
       simp only [Act.put, sa, sb, sc, i64_w, i32_w]
       rfl
      refine pu (i := 22) (N := some 48) (v := undef) (a' := ?_) (lb 35 8388607) rfl rfl (ao T_.out (by kernel_rfl)) (λ _ _ _ h => h) (Or.inr ⟨by rfl, rfl⟩) ?_ ?_
      rotate_left
      ·
       simp only [Act.put, sa, sb, sc, i64_w, i32_w]
       rfl
      refine pu (i := 23) (N := some 49) (v := undef) (a' := ?_) (lb 35 16777215) rfl rfl (ao T_.out (by kernel_rfl)) (λ _ _ _ h => h) (Or.inr ⟨by rfl, rfl⟩) ?_ ?_
      rotate_left
      ·
       simp only [Act.put, sa, sb, sc, i64_w, i32_w]
       rfl
      refine pu (i := 24) (N := some 50) (v := undef) (a' := ?_) (lb 35 33554431) rfl rfl (ao T_.out (by kernel_rfl)) (λ _ _ _ h => h) (Or.inr ⟨by rfl, rfl⟩) ?_ ?_
      rotate_left
      ·
       simp only [Act.put, sa, sb, sc, i64_w, i32_w]
       rfl
      refine pu (i := 25) (N := some 51) (v := undef) (a' := ?_) (lb 35 67108863) rfl rfl (ao T_.out (by kernel_rfl)) (λ _ _ _ h => h) (Or.inr ⟨by rfl, rfl⟩) ?_ ?_
      rotate_left
      ·
       simp only [Act.put, sa, sb, sc, i64_w, i32_w]
       rfl
      refine pu (i := 26) (N := some 52) (v := ?_) (a' := ?_) (lb 35 134217727) rfl rfl (ao T_.out (by kernel_rfl)) (λ _ _ _ h => h) (.inl ⟨by rfl, ?_⟩) ?_ ?_; rotate_left; (focus intro w'; go_simp; with_reducible rfl); rotate_left; (focus simp only [Act.put, sa, sb, sc, i64_w, i32_w]; rfl)
      refine pu (i := 27) (N := some 53) (v := ?_) (a' := ?_) (lb 35 268435455) rfl rfl (ao T_.out (by kernel_rfl)) (λ _ _ _ h => h) (.inl ⟨by rfl, ?_⟩) ?_ ?_; rotate_left; (focus intro w'; go_simp; with_reducible rfl); rotate_left; (focus simp only [Act.put, sa, sb, sc, i64_w, i32_w]; rfl)
      refine pu (i := 28) (N := some 54) (v := undef) (a' := ?_) (lb 35 536870911) rfl rfl (ao T_.out (by kernel_rfl)) (λ _ _ _ h => h) (Or.inr ⟨by rfl, rfl⟩) ?_ ?_
      rotate_left
      ·
       simp only [Act.put, sa, sb, sc, i64_w, i32_w]
       rfl
      refine pu (i := 29) (N := some 55) (v := undef) (a' := ?_) (lb 35 1073741823) rfl rfl (ao T_.out (by kernel_rfl)) (λ _ _ _ h => h) (Or.inr ⟨by rfl, rfl⟩) ?_ ?_
      rotate_left
      ·
       simp only [Act.put, sa, sb, sc, i64_w, i32_w]
       rfl
      refine pu (i := 30) (N := some 56) (v := undef) (a' := ?_) (lb 35 2147483647) rfl rfl (ao T_.out (by kernel_rfl)) (λ _ _ _ h => h) (Or.inr ⟨by rfl, rfl⟩) ?_ ?_
      rotate_left
      ·
       simp only [Act.put, sa, sb, sc, i64_w, i32_w]
       rfl
      refine pu (i := 31) (N := some 57) (v := undef) (a' := ?_) (lb 35 4294967295) rfl rfl (ao T_.out (by kernel_rfl)) (λ _ _ _ h => h) (Or.inr ⟨by rfl, rfl⟩) ?_ ?_
      rotate_left
      ·
       simp only [Act.put, sa, sb, sc, i64_w, i32_w]
       rfl
      refine pu (i := 32) (N := some 58) (v := undef) (a' := ?_) (lb 35 8589934591) rfl rfl (ao T_.out (by kernel_rfl)) (λ _ _ _ h => h) (Or.inr ⟨by rfl, rfl⟩) ?_ ?_
      rotate_left
      ·
       simp only [Act.put, sa, sb, sc, i64_w, i32_w]
       rfl
      refine pu (i := 33) (N := some 59) (v := undef) (a' := ?_) (lb 35 17179869183) rfl rfl (ao T_.out (by kernel_rfl)) (λ _ _ _ h => h) (Or.inr ⟨by rfl, rfl⟩) ?_ ?_
      rotate_left
      ·
       simp only [Act.put, sa, sb, sc, i64_w, i32_w]
       rfl
      refine pu (i := 34) (N := some 60) (v := ?_) (a' := ?_) (lb 35 34359738367) rfl rfl (ao T_.out (by kernel_rfl)) (λ _ _ _ h => h) (.inl ⟨by rfl, ?_⟩) ?_ ?_; rotate_left; (focus intro w'; go_simp; with_reducible rfl); rotate_left; (focus simp only [Act.put, sa, sb, sc, i64_w, i32_w]; rfl)
      refine done_ (done_of T_.out (by kernel_rfl)) ?_
      try go_wp2
      go_meet
      case rel => exact ⟨_, (true), (by first | rfl | (simp; done) | (simp [*]; done)), H', ⟨by have := HJ2.out; first | omega | exact Nat.le_refl _⟩, ⟨by (with_reducible repeat (first | refine blk_drewN ?_ _ | refine blk_drew ?_ | refine blk_alloc ?_ _)); exact B149.out⟩, ⟨by (with_reducible repeat (first | refine blk_drewN ?_ _ | refine blk_drew ?_ | refine blk_alloc ?_ _)); exact B150.out⟩, ⟨by (with_reducible repeat (first | refine blk_drewN ?_ _ | refine blk_drew ?_ | refine blk_alloc ?_ _)); exact B158.out⟩, ⟨by (with_reducible repeat (first | refine blk_drewN ?_ _ | refine blk_drew ?_ | refine blk_alloc ?_ _)); exact B164.out⟩, ⟨by repeat (first | (with_reducible first | exact HB.out | apply below_alloc | apply pw_below_drewN | apply below_drew1 | refine below_set ?_ GE149.out | refine below_set ?_ GE150.out | refine below_set ?_ GE158.out | refine below_set ?_ GE164.out) | exact HB.out)⟩⟩
    case rest =>
     clear HC22
     try clear p2
     try clear c3
     try clear c37
     try clear c37b0
     try clear c37b1
     try clear c38
     try clear c38b0
     try clear c38b1
     obtain ⟨kq, x60_21, rfl, HA, HJ21, B149, B150, B158, B164, HB⟩ := hcut
     cases kq with
     | zero => exact absurd HA.out (by simp [j1])
     | succ kj21 =>
      have H := HA.out
      clear HA
      simp only [j1] at H
      by_cases c53 : x60_21 = true
      ·
       subst c53
       have H1 : (some false) = some r := by rw [if_pos rfl] at H; exact H
       clear H
       have H := H1
       clear H1
       obtain rfl := Option.some.inj H
       go_wp2
       go_ret
       exact ⟨by first | rfl | (simp [errW_none, errW_some] <;> rfl) | (simp [*, errW_none, errW_some] <;> rfl), by repeat (first | (with_reducible first | exact HB.out | apply below_alloc | apply pw_below_drewN | apply below_drew1 | refine below_set ?_ GE149.out | refine below_set ?_ GE150.out | refine below_set ?_ GE158.out | refine below_set ?_ GE164.out) | exact HB.out)⟩
      ·
       replace c53 := Bool.eq_false_iff.mpr c53
       subst c53
       have H1 : ((meta_May.f t153 t154 t155 t156 t157).bind fun t166 => ((meta_Name.f a0_0).bind fun t167 => (if t167 = true then (if a0_1 ≥ 0 then (if a0_1 ≤ 65535 then (if a0_2 ≥ 0 then (j2 kj21 (t166 != (decide (a0_2 ≤ 1099511627776))) a0_0 a0_1 a0_2 a0_3 a1_0 a1_1 a1_2 a1_3 t153 t154 t155 t156 t157 t159 t160 t161 t162 t163) else (j2 kj21 (t166 != false) a0_0 a0_1 a0_2 a0_3 a1_0 a1_1 a1_2 a1_3 t153 t154 t155 t156 t157 t159 t160 t161 t162 t163)) else (j2 kj21 (t166 != false) a0_0 a0_1 a0_2 a0_3 a1_0 a1_1 a1_2 a1_3 t153 t154 t155 t156 t157 t159 t160 t161 t162 t163)) else (j2 kj21 (t166 != false) a0_0 a0_1 a0_2 a0_3 a1_0 a1_1 a1_2 a1_3 t153 t154 t155 t156 t157 t159 t160 t161 t162 t163)) else (j2 kj21 (t166 != false) a0_0 a0_1 a0_2 a0_3 a1_0 a1_1 a1_2 a1_3 t153 t154 t155 t156 t157 t159 t160 t161 t162 t163)))) = some r := by rw [if_neg (show ¬ (false = true) by decide)] at H; exact H
       clear H
       have H := H1
       clear H1
       have HC54 := am H
       clear H
       go_upto_region 7 with (fail)
       go_cut [86] (fun v86 wc => ∃ (kq : Nat) (x86_53 : Bool), v86 = .bool x86_53 ∧ Aside0 (j2 kq x86_53 a0_0 a0_1 a0_2 a0_3 a1_0 a1_1 a1_2 a1_3 t153 t154 t155 t156 t157 t159 t160 t161 t162 t163 = some r) ∧ Aside0 (kq ≤ kj21) ∧ Aside0 (wc.heap[g149]? = some (.cells #[.string a0_0, .int .i64 a0_1, .int .i64 a0_2, .string a0_3] 37 (0, 0))) ∧ Aside0 (wc.heap[g150]? = some (.cells #[.string a1_0, .int .i64 a1_1, .int .i64 a1_2, .string a1_3] 37 (0, 0))) ∧ Aside0 (wc.heap[g158]? = some (.cells #[.string t153, .int .i64 t154, .int .i64 t155, .int .i64 t156, .string t157] 25 (0, 0))) ∧ Aside0 (wc.heap[g164]? = some (.cells #[.string t159, .int .i64 t160, .int .i64 t161, .int .i64 t162, .string t163] 25 (0, 0))) ∧ Aside0 (Below w.heap.size w wc))
       case first =>
        have H := HC54.out
        clear HC54
        replace H := Option.bind_eq_some_iff.mp H
        obtain ⟨t166, A550, H⟩ := H
        replace H : ((meta_Name.f a0_0).bind fun t167 => (if t167 = true then (if a0_1 ≥ 0 then (if a0_1 ≤ 65535 then (if a0_2 ≥ 0 then (j2 kj21 (t166 != (decide (a0_2 ≤ 1099511627776))) a0_0 a0_1 a0_2 a0_3 a1_0 a1_1 a1_2 a1_3 t153 t154 t155 t156 t157 t159 t160 t161 t162 t163) else (j2 kj21 (t166 != false) a0_0 a0_1 a0_2 a0_3 a1_0 a1_1 a1_2 a1_3 t153 t154 t155 t156 t157 t159 t160 t161 t162 t163)) else (j2 kj21 (t166 != false) a0_0 a0_1 a0_2 a0_3 a1_0 a1_1 a1_2 a1_3 t153 t154 t155 t156 t157 t159 t160 t161 t162 t163)) else (j2 kj21 (t166 != false) a0_0 a0_1 a0_2 a0_3 a1_0 a1_1 a1_2 a1_3 t153 t154 t155 t156 t157 t159 t160 t161 t162 t163)) else (j2 kj21 (t166 != false) a0_0 a0_1 a0_2 a0_3 a1_0 a1_1 a1_2 a1_3 t153 t154 t155 t156 t157 t159 t160 t161 t162 t163))) = some r := H
        have A55 := am A550
        clear A550
        replace H := Option.bind_eq_some_iff.mp H
        obtain ⟨t167, A560, H⟩ := H
        replace H : (if t167 = true then (if a0_1 ≥ 0 then (if a0_1 ≤ 65535 then (if a0_2 ≥ 0 then (j2 kj21 (t166 != (decide (a0_2 ≤ 1099511627776))) a0_0 a0_1 a0_2 a0_3 a1_0 a1_1 a1_2 a1_3 t153 t154 t155 t156 t157 t159 t160 t161 t162 t163) else (j2 kj21 (t166 != false) a0_0 a0_1 a0_2 a0_3 a1_0 a1_1 a1_2 a1_3 t153 t154 t155 t156 t157 t159 t160 t161 t162 t163)) else (j2 kj21 (t166 != false) a0_0 a0_1 a0_2 a0_3 a1_0 a1_1 a1_2 a1_3 t153 t154 t155 t156 t157 t159 t160 t161 t162 t163)) else (j2 kj21 (t166 != false) a0_0 a0_1 a0_2 a0_3 a1_0 a1_1 a1_2 a1_3 t153 t154 t155 t156 t157 t159 t160 t161 t162 t163)) else (j2 kj21 (t166 != false) a0_0 a0_1 a0_2 a0_3 a1_0 a1_1 a1_2 a1_3 t153 t154 t155 t156 t157 t159 t160 t161 t162 t163)) = some r := H
        have A56 := am A560
        clear A560
        by_cases c57 : t167 = true
        ·
         subst c57
         have H1 : (if a0_1 ≥ 0 then (if a0_1 ≤ 65535 then (if a0_2 ≥ 0 then (j2 kj21 (t166 != (decide (a0_2 ≤ 1099511627776))) a0_0 a0_1 a0_2 a0_3 a1_0 a1_1 a1_2 a1_3 t153 t154 t155 t156 t157 t159 t160 t161 t162 t163) else (j2 kj21 (t166 != false) a0_0 a0_1 a0_2 a0_3 a1_0 a1_1 a1_2 a1_3 t153 t154 t155 t156 t157 t159 t160 t161 t162 t163)) else (j2 kj21 (t166 != false) a0_0 a0_1 a0_2 a0_3 a1_0 a1_1 a1_2 a1_3 t153 t154 t155 t156 t157 t159 t160 t161 t162 t163)) else (j2 kj21 (t166 != false) a0_0 a0_1 a0_2 a0_3 a1_0 a1_1 a1_2 a1_3 t153 t154 t155 t156 t157 t159 t160 t161 t162 t163)) = some r := by rw [if_pos rfl] at H; exact H
         clear H
         have H := H1
         clear H1
         by_cases c58 : a0_1 ≥ 0
         ·
          rw [if_pos c58] at H
          have c58b0 : decide (0 ≤ a0_1) = true := decide_eq_true c58
          clear c58
          (first | rw [c58b0] | (simp only [i64_w, i32_w]; rw [c58b0]) | skip)
          by_cases c59 : a0_1 ≤ 65535
          ·
           rw [if_pos c59] at H
           have c59b0 : decide (a0_1 ≤ 65535) = true := decide_eq_true c59
           clear c59
           by_cases c60 : a0_2 ≥ 0
           ·
            rw [if_pos c60] at H
            have c60b0 : decide (0 ≤ a0_2) = true := decide_eq_true c60
            clear c60
            have H' := am H
            clear H
            try go_wp2
            have n0_ := am (blk_drew B149.out)
            have n1_ := am (blk_drew B150.out)
            have n2_ := am (blk_drew B158.out)
            have n3_ := am (blk_drew B164.out)
            have n4_ := am (below_drew1 HB.out)
            clear B149
            clear B150
            clear B158
            clear B164
            clear HB
            have B149 := n0_
            have B150 := n1_
            have B158 := n2_
            have B164 := n3_
            have HB := n4_
            clear n0_ n1_ n2_ n3_ n4_
            refine start_ (n := 26) (S := fun w' => w'.cell? ⟨g158, 0, none⟩ = some (.string t153) ∧ w'.cell? ⟨g158, 1, none⟩ = some (.int .i64 t154) ∧ w'.cell? ⟨g158, 2, none⟩ = some (.int .i64 t155) ∧ w'.cell? ⟨g158, 3, none⟩ = some (.int .i64 t156) ∧ w'.cell? ⟨g158, 4, none⟩ = some (.string t157) ∧ w'.cell? ⟨g149, 0, none⟩ = some (.string a0_0) ∧ w'.cell? ⟨g149, 1, none⟩ = some (.int .i64 a0_1) ∧ w'.cell? ⟨g149, 2, none⟩ = some (.int .i64 a0_2) ∧ w'.cell? ⟨g149, 3, none⟩ = some (.string a0_3)) (ds := []) #[false, false, false, false, false, false, false, false, false, false, false, false, false, false, false, false, false, false, false, false, false, false, false, false, false, false] (by kernel_rfl) rfl rfl ⟨(blk_cell B158.out 0).trans rfl, (blk_cell B158.out 1).trans rfl, (blk_cell B158.out 2).trans rfl, (blk_cell B158.out 3).trans rfl, (blk_cell B158.out 4).trans rfl, (blk_cell B149.out 0).trans rfl, (blk_cell B149.out 1).trans rfl, (blk_cell B149.out 2).trans rfl, (blk_cell B149.out 3).trans rfl⟩ (fun h_ => ?_); refine with_tabW hamperlaw19_MetaOf.tab7 hamperlaw19_MetaOf.bits7 (fun T_ W_ => ?_)
            generalize wc.drew = w61 at B149 B150 B158 B164 HB h_ ⊢
            refine pu (i := 2) (N := some 63) (v := ?_) (a' := ?_) (lb 26 4) rfl rfl (ao T_.out (by kernel_rfl)) (λ _ _ _ h => h) (.inl ⟨by rfl, ?_⟩) ?_ ?_; rotate_left; (focus intro w'; go_simp; with_reducible rfl); rotate_left; (focus simp only [Act.put, sa, sb, sc, i64_w, i32_w]; rfl)
            refine take_ (i := 0) (N := some 61) (v := ?_) (a' := ?_) (lb 26 5) rfl rfl (take_ofW T_.out W_.out (by kernel_rfl)) (λ _ _ _ h => h) (.inl ⟨by rfl, ?_⟩) h_ ?_ ?_; rotate_left; (focus rintro w' ⟨s0, s1, s2, s3, s4, s5, s6, s7, s8⟩; go_simp; with_reducible rfl); rotate_left; (focus simp only [Act.put, sa, sb, sc, i64_w, i32_w]; rfl)
            refine take_ (i := 3) (N := some 64) (v := ?_) (a' := ?_) (lb 26 13) rfl rfl (take_ofW T_.out W_.out (by kernel_rfl)) (λ _ _ _ h => h) (.inl ⟨by rfl, ?_⟩) h_ ?_ ?_; rotate_left; (focus rintro w' ⟨s0, s1, s2, s3, s4, s5, s6, s7, s8⟩; go_simp; with_reducible rfl); rotate_left; (focus simp only [Act.put, sa, sb, sc, i64_w, i32_w]; rfl)
            refine one_ (i := 1) (N := some 62) (lb 26 15) rfl rfl (one_of T_.out (by kernel_rfl)) (by decide) (fun K hK => ?_)
            refine goes_ Tryd.func14 (by kernel_rfl) rfl #[.agg #[.string t153, .int .i64 t154, .int .i64 t155, .int .i64 t156, .string t157]] (by rfl) rfl rfl (by (try simp only [List.map_toArray, List.map_cons, List.map_nil]); first | done | rfl | (simp only [List.length_drop, List.length_take]; rfl)) ?_
            with_reducible refine (meta_May.calls (hTabs := HTB.out.below (by repeat (first | (with_reducible first | exact HB.out | apply below_alloc | apply pw_below_drewN | apply below_drew1) | exact HB.out))) t153 t154 t155 t156 t157 t166 _ A55.out).mono ?_
            rintro e w62 ⟨rfl, hb⟩
            refine ⟨_, rfl, ?_⟩
            have n0_ := am (blk_below (g := g149) (o := .cells #[.string a0_0, .int .i64 a0_1, .int .i64 a0_2, .string a0_3] 37 (0, 0)) (by (with_reducible repeat (first | refine blk_drewN ?_ _ | refine blk_drew ?_ | refine blk_alloc ?_ _)); exact B149.out) hb)
            have n1_ := am (blk_below (g := g150) (o := .cells #[.string a1_0, .int .i64 a1_1, .int .i64 a1_2, .string a1_3] 37 (0, 0)) (by (with_reducible repeat (first | refine blk_drewN ?_ _ | refine blk_drew ?_ | refine blk_alloc ?_ _)); exact B150.out) hb)
            have n2_ := am (blk_below (g := g158) (o := .cells #[.string t153, .int .i64 t154, .int .i64 t155, .int .i64 t156, .string t157] 25 (0, 0)) (by (with_reducible repeat (first | refine blk_drewN ?_ _ | refine blk_drew ?_ | refine blk_alloc ?_ _)); exact B158.out) hb)
            have n3_ := am (blk_below (g := g164) (o := .cells #[.string t159, .int .i64 t160, .int .i64 t161, .int .i64 t162, .string t163] 25 (0, 0)) (by (with_reducible repeat (first | refine blk_drewN ?_ _ | refine blk_drew ?_ | refine blk_alloc ?_ _)); exact B164.out) hb)
            have n4_ := am (below_step (by repeat (first | (with_reducible first | exact HB.out | apply below_alloc | apply pw_below_drewN | apply below_drew1 | refine below_set ?_ GE149.out | refine below_set ?_ GE150.out | refine below_set ?_ GE158.out | refine below_set ?_ GE164.out) | exact HB.out)) hb)
            clear B149
            clear B150
            clear B158
            clear B164
            clear HB
            have B149 := n0_
            have B150 := n1_
            have B158 := n2_
            have B164 := n3_
            have HB := n4_
            clear n0_ n1_ n2_ n3_ n4_
            (try clear hb)
            (try clear hb2)
            (try clear hk)
            (try clear hi)
            refine hK.out _ _ ⟨(blk_cell B158.out 0).trans rfl, (blk_cell B158.out 1).trans rfl, (blk_cell B158.out 2).trans rfl, (blk_cell B158.out 3).trans rfl, (blk_cell B158.out 4).trans rfl, (blk_cell B149.out 0).trans rfl, (blk_cell B149.out 1).trans rfl, (blk_cell B149.out 2).trans rfl, (blk_cell B149.out 3).trans rfl⟩ (fun h_ => ?_)
            clear hK K
            refine norm_ (a' := ?_) ?_ ?_
            rotate_left
            ·
             show Act.put _ (some 62) _ = _
             simp only [Act.put, sa, sb, sc, i64_w, i32_w]
             rfl
            refine one_ (i := 4) (N := some 65) (lb 26 31) rfl rfl (one_of T_.out (by kernel_rfl)) (by decide) (fun K hK => ?_)
            refine goes_ Tryd.func11 (by kernel_rfl) rfl #[.string a0_0] (by rfl) rfl rfl (by (try simp only [List.map_toArray, List.map_cons, List.map_nil]); first | done | rfl | (simp only [List.length_drop, List.length_take]; rfl)) ?_
            with_reducible refine (meta_Name.calls (hTabs := HTB.out.below (by repeat (first | (with_reducible first | exact HB.out | apply below_alloc | apply pw_below_drewN | apply below_drew1) | exact HB.out))) a0_0 true _ A56.out).mono ?_
            rintro e w63 ⟨rfl, hb⟩
            refine ⟨_, rfl, ?_⟩
            have n0_ := am (blk_below (g := g149) (o := .cells #[.string a0_0, .int .i64 a0_1, .int .i64 a0_2, .string a0_3] 37 (0, 0)) (by (with_reducible repeat (first | refine blk_drewN ?_ _ | refine blk_drew ?_ | refine blk_alloc ?_ _)); exact B149.out) hb)
            have n1_ := am (blk_below (g := g150) (o := .cells #[.string a1_0, .int .i64 a1_1, .int .i64 a1_2, .string a1_3] 37 (0, 0)) (by (with_reducible repeat (first | refine blk_drewN ?_ _ | refine blk_drew ?_ | refine blk_alloc ?_ _)); exact B150.out) hb)
            have n2_ := am (blk_below (g := g158) (o := .cells #[.string t153, .int .i64 t154, .int .i64 t155, .int .i64 t156, .string t157] 25 (0, 0)) (by (with_reducible repeat (first | refine blk_drewN ?_ _ | refine blk_drew ?_ | refine blk_alloc ?_ _)); exact B158.out) hb)
            have n3_ := am (blk_below (g := g164) (o := .cells #[.string t159, .int .i64 t160, .int .i64 t161, .int .i64 t162, .string t163] 25 (0, 0)) (by (with_reducible repeat (first | refine blk_drewN ?_ _ | refine blk_drew ?_ | refine blk_alloc ?_ _)); exact B164.out) hb)
            have n4_ := am (below_step (by repeat (first | (with_reducible first | exact HB.out | apply below_alloc | apply pw_below_drewN | apply below_drew1 | refine below_set ?_ GE149.out | refine below_set ?_ GE150.out | refine below_set ?_ GE158.out | refine below_set ?_ GE164.out) | exact HB.out)) hb)
            clear B149
            clear B150
            clear B158
            clear B164
            clear HB
            have B149 := n0_
            have B150 := n1_
            have B158 := n2_
            have B164 := n3_
            have HB := n4_
            clear n0_ n1_ n2_ n3_ n4_
            (try clear hb)
            (try clear hb2)
            (try clear hk)
            (try clear hi)
            refine hK.out _ _ ⟨(blk_cell B158.out 0).trans rfl, (blk_cell B158.out 1).trans rfl, (blk_cell B158.out 2).trans rfl, (blk_cell B158.out 3).trans rfl, (blk_cell B158.out 4).trans rfl, (blk_cell B149.out 0).trans rfl, (blk_cell B149.out 1).trans rfl, (blk_cell B149.out 2).trans rfl, (blk_cell B149.out 3).trans rfl⟩ (fun h_ => ?_)
            clear hK K
            refine norm_ (a' := ?_) ?_ ?_
            rotate_left
            ·
             show Act.put _ (some 65) _ = _
             simp only [Act.put, sa, sb, sc, i64_w, i32_w]
             rfl
            refine pu (i := 5) (N := some 66) (v := ?_) (a' := ?_) (lb 26 63) rfl rfl (ao T_.out (by kernel_rfl)) (λ _ _ _ h => h) (.inl ⟨by rfl, ?_⟩) ?_ ?_; rotate_left; (focus intro w'; go_simp; with_reducible rfl); rotate_left; (focus simp only [Act.put, sa, sb, sc, i64_w, i32_w]; rfl)
            refine pu (i := 6) (N := some 67) (v := ?_) (a' := ?_) (lb 26 127) rfl rfl (ao T_.out (by kernel_rfl)) (λ _ _ _ h => h) (.inl ⟨by rfl, ?_⟩) ?_ ?_; rotate_left; (focus intro w'; go_simp; with_reducible rfl); rotate_left; (focus simp only [Act.put, sa, sb, sc, i64_w, i32_w]; rfl)
            refine take_ (i := 7) (N := some 68) (v := ?_) (a' := ?_) (lb 26 255) rfl rfl (take_ofW T_.out W_.out (by kernel_rfl)) (λ _ _ _ h => h) (.inl ⟨by rfl, ?_⟩) h_ ?_ ?_; rotate_left; (focus rintro w' ⟨s0, s1, s2, s3, s4, s5, s6, s7, s8⟩; go_simp; with_reducible rfl); rotate_left; (focus simp only [Act.put, sa, sb, sc, i64_w, i32_w]; rfl)
            refine pu (i := 8) (N := some 69) (v := ?_) (a' := ?_) (lb 26 511) rfl rfl (ao T_.out (by kernel_rfl)) (λ _ _ _ h => h) (.inl ⟨by rfl, ?_⟩) ?_ ?_; rotate_left; (focus intro w'; go_simp; with_reducible rfl); rotate_left; (focus simp only [Act.put, sa, sb, sc, i64_w, i32_w]; rfl)
            refine pu (i := 9) (N := some 70) (v := ?_) (a' := ?_) (lb 26 1023) rfl rfl (ao T_.out (by kernel_rfl)) (λ _ _ _ h => h) (.inl ⟨by rfl, ?_⟩) ?_ ?_; rotate_left; (focus intro w'; go_simp; with_reducible rfl); rotate_left; (focus simp only [Act.put, sa, sb, sc, i64_w, i32_w]; rfl)
            refine pu (i := 10) (N := some 71) (v := ?_) (a' := ?_) (lb 26 2047) rfl rfl (ao T_.out (by kernel_rfl)) (λ _ _ _ h => h) (.inl ⟨by rfl, ?_⟩) ?_ ?_; rotate_left; (focus intro w'; go_simp; with_reducible rfl); rotate_left; (focus simp only [Act.put, sa, sb, sc, i64_w, i32_w]; rfl)
            refine pu (i := 11) (N := some 72) (v := ?_) (a' := ?_) (lb 26 4095) rfl rfl (ao T_.out (by kernel_rfl)) (λ _ _ _ h => h) (.inl ⟨by rfl, ?_⟩) ?_ ?_; rotate_left; (focus intro w'; go_simp; with_reducible rfl); rotate_left; (focus simp only [Act.put, sa, sb, sc, i64_w, i32_w]; rfl)
            refine take_ (i := 12) (N := some 73) (v := ?_) (a' := ?_) (lb 26 8191) rfl rfl (take_ofW T_.out W_.out (by kernel_rfl)) (λ _ _ _ h => h) (.inl ⟨by rfl, ?_⟩) h_ ?_ ?_; rotate_left; (focus rintro w' ⟨s0, s1, s2, s3, s4, s5, s6, s7, s8⟩; go_simp; with_reducible rfl); rotate_left; (focus simp only [Act.put, sa, sb, sc, i64_w, i32_w]; rfl)
            refine pu (i := 13) (N := some 74) (v := ?_) (a' := ?_) (lb 26 16383) rfl rfl (ao T_.out (by kernel_rfl)) (λ _ _ _ h => h) (.inl ⟨by rfl, ?_⟩) ?_ ?_; rotate_left; (focus intro w'; go_simp; with_reducible rfl); rotate_left; (focus simp only [Act.put, sa, sb, sc, i64_w, i32_w]; rfl)
            refine pu (i := 14) (N := some 75) (v := ?_) (a' := ?_) (lb 26 32767) rfl rfl (ao T_.out (by kernel_rfl)) (λ _ _ _ h => h) (.inl ⟨by rfl, ?_⟩) ?_ ?_; rotate_left; (focus intro w'; go_simp; with_reducible rfl); rotate_left; (focus simp only [Act.put, sa, sb, sc, i64_w, i32_w]; rfl)
            refine pu (i := 15) (N := some 76) (v := ?_) (a' := ?_) (lb 26 65535) rfl rfl (ao T_.out (by kernel_rfl)) (λ _ _ _ h => h) (.inl ⟨by rfl, ?_⟩) ?_ ?_; rotate_left; (focus intro w'; go_simp; with_reducible rfl); rotate_left; (focus simp only [Act.put, sa, sb, sc, i64_w, i32_w]; rfl)
            refine pu (i := 16) (N := some 77) (v := ?_) (a' := ?_) (lb 26 131071) rfl rfl (ao T_.out (by kernel_rfl)) (λ _ _ _ h => h) (.inl ⟨by rfl, ?_⟩) ?_ ?_; rotate_left; (focus intro w'; go_simp; with_reducible rfl); rotate_left; (focus simp only [Act.put, sa, sb, sc, i64_w, i32_w]; rfl)
            refine take_ (i := 17) (N := some 78) (v := ?_) (a' := ?_) (lb 26 262143) rfl rfl (take_ofW T_.out W_.out (by kernel_rfl)) (λ _ _ _ h => h) (.inl ⟨by rfl, ?_⟩) h_ ?_ ?_; rotate_left; (focus rintro w' ⟨s0, s1, s2, s3, s4, s5, s6, s7, s8⟩; go_simp; with_reducible rfl); rotate_left; (focus simp only [Act.put, sa, sb, sc, i64_w, i32_w]; rfl)
            refine pu (i := 18) (N := some 79) (v := ?_) (a' := ?_) (lb 26 524287) rfl rfl (ao T_.out (by kernel_rfl)) (λ _ _ _ h => h) (.inl ⟨by rfl, ?_⟩) ?_ ?_; rotate_left; (focus intro w'; go_simp; with_reducible rfl); rotate_left; (focus simp only [Act.put, sa, sb, sc, i64_w, i32_w]; rfl)
            refine pu (i := 19) (N := some 80) (v := ?_) (a' := ?_) (lb 26 1048575) rfl rfl (ao T_.out (by kernel_rfl)) (λ _ _ _ h => h) (.inl ⟨by rfl, ?_⟩) ?_ ?_; rotate_left; (focus intro w'; go_simp; with_reducible rfl); rotate_left; (focus simp only [Act.put, sa, sb, sc, i64_w, i32_w]; rfl)
            refine pu (i := 20) (N := some 81) (v := ?_) (a' := ?_) (lb 26 2097151) rfl rfl (ao T_.out (by kernel_rfl)) (λ _ _ _ h => h) (.inl ⟨by rfl, ?_⟩) ?_ ?_; rotate_left; (focus intro w'; go_simp; with_reducible rfl); rotate_left; (focus simp only [Act.put, sa, sb, sc, i64_w, i32_w]; rfl)
            refine pu (i := 21) (N := some 82) (v := ?_) (a' := ?_) (lb 26 4194303) rfl rfl (ao T_.out (by kernel_rfl)) (λ _ _ _ h => h) (.inl ⟨by rfl, ?_⟩) ?_ ?_; rotate_left; (focus intro w'; go_simp; with_reducible rfl); rotate_left; (focus simp only [Act.put, sa, sb, sc, i64_w, i32_w]; rfl)
            refine take_ (i := 22) (N := some 83) (v := ?_) (a' := ?_) (lb 26 8388607) rfl rfl (take_ofW T_.out W_.out (by kernel_rfl)) (λ _ _ _ h => h) (.inl ⟨by rfl, ?_⟩) h_ ?_ ?_; rotate_left; (focus rintro w' ⟨s0, s1, s2, s3, s4, s5, s6, s7, s8⟩; go_simp; with_reducible rfl); rotate_left; (focus simp only [Act.put, sa, sb, sc, i64_w, i32_w]; rfl)
            refine pu (i := 23) (N := some 84) (v := ?_) (a' := ?_) (lb 26 16777215) rfl rfl (ao T_.out (by kernel_rfl)) (λ _ _ _ h => h) (.inl ⟨by rfl, ?_⟩) ?_ ?_; rotate_left; (focus intro w'; go_simp; with_reducible rfl); rotate_left; (focus simp only [Act.put, sa, sb, sc, i64_w, i32_w]; rfl)
            refine pu (i := 24) (N := some 85) (v := ?_) (a' := ?_) (lb 26 33554431) rfl rfl (ao T_.out (by kernel_rfl)) (λ _ _ _ h => h) (.inl ⟨by rfl, ?_⟩) ?_ ?_; rotate_left; (focus intro w'; go_simp; with_reducible rfl); rotate_left; (focus simp only [Act.put, sa, sb, sc, i64_w, i32_w]; rfl)
            refine pu (i := 25) (N := some 86) (v := ?_) (a' := ?_) (lb 26 67108863) rfl rfl (ao T_.out (by kernel_rfl)) (λ _ _ _ h => h) (.inl ⟨by rfl, ?_⟩) ?_ ?_; rotate_left; (focus intro w'; go_simp; with_reducible rfl); rotate_left; (focus simp only [Act.put, sa, sb, sc, i64_w, i32_w]; rfl)
            refine done_ (done_of T_.out (by kernel_rfl)) ?_
            try go_wp2
            go_meet
            case rel => exact ⟨_, ((t166 != (decide (a0_2 ≤ 1099511627776)))), (by first | rfl | (simp; done) | (simp [*]; done)), H', ⟨by have := HJ2.out; have := HJ21.out; first | omega | exact Nat.le_refl _⟩, ⟨by (with_reducible repeat (first | refine blk_drewN ?_ _ | refine blk_drew ?_ | refine blk_alloc ?_ _)); exact B149.out⟩, ⟨by (with_reducible repeat (first | refine blk_drewN ?_ _ | refine blk_drew ?_ | refine blk_alloc ?_ _)); exact B150.out⟩, ⟨by (with_reducible repeat (first | refine blk_drewN ?_ _ | refine blk_drew ?_ | refine blk_alloc ?_ _)); exact B158.out⟩, ⟨by (with_reducible repeat (first | refine blk_drewN ?_ _ | refine blk_drew ?_ | refine blk_alloc ?_ _)); exact B164.out⟩, ⟨by repeat (first | (with_reducible first | exact HB.out | apply below_alloc | apply pw_below_drewN | apply below_drew1 | refine below_set ?_ GE149.out | refine below_set ?_ GE150.out | refine below_set ?_ GE158.out | refine below_set ?_ GE164.out) | exact HB.out)⟩⟩
           ·
            rw [if_neg c60] at H
            have c60b0 : decide (0 ≤ a0_2) = false := decide_eq_false c60
            clear c60
            have H' := am H
            clear H
            try go_wp2
            have n0_ := am (blk_drew B149.out)
            have n1_ := am (blk_drew B150.out)
            have n2_ := am (blk_drew B158.out)
            have n3_ := am (blk_drew B164.out)
            have n4_ := am (below_drew1 HB.out)
            clear B149
            clear B150
            clear B158
            clear B164
            clear HB
            have B149 := n0_
            have B150 := n1_
            have B158 := n2_
            have B164 := n3_
            have HB := n4_
            clear n0_ n1_ n2_ n3_ n4_
            refine start_ (n := 26) (S := fun w' => w'.cell? ⟨g158, 0, none⟩ = some (.string t153) ∧ w'.cell? ⟨g158, 1, none⟩ = some (.int .i64 t154) ∧ w'.cell? ⟨g158, 2, none⟩ = some (.int .i64 t155) ∧ w'.cell? ⟨g158, 3, none⟩ = some (.int .i64 t156) ∧ w'.cell? ⟨g158, 4, none⟩ = some (.string t157) ∧ w'.cell? ⟨g149, 0, none⟩ = some (.string a0_0) ∧ w'.cell? ⟨g149, 1, none⟩ = some (.int .i64 a0_1) ∧ w'.cell? ⟨g149, 2, none⟩ = some (.int .i64 a0_2) ∧ w'.cell? ⟨g149, 3, none⟩ = some (.string a0_3)) (ds := []) #[false, false, false, false, false, false, false, false, false, false, false, false, false, false, false, false, false, false, false, false, false, false, false, false, false, false] (by kernel_rfl) rfl rfl ⟨(blk_cell B158.out 0).trans rfl, (blk_cell B158.out 1).trans rfl, (blk_cell B158.out 2).trans rfl, (blk_cell B158.out 3).trans rfl, (blk_cell B158.out 4).trans rfl, (blk_cell B149.out 0).trans rfl, (blk_cell B149.out 1).trans rfl, (blk_cell B149.out 2).trans rfl, (blk_cell B149.out 3).trans rfl⟩ (fun h_ => ?_); refine with_tabW hamperlaw19_MetaOf.tab7 hamperlaw19_MetaOf.bits7 (fun T_ W_ => ?_)
            generalize wc.drew = w64 at B149 B150 B158 B164 HB h_ ⊢
            refine pu (i := 2) (N := some 63) (v := ?_) (a' := ?_) (lb 26 4) rfl rfl (ao T_.out (by kernel_rfl)) (λ _ _ _ h => h) (.inl ⟨by rfl, ?_⟩) ?_ ?_; rotate_left; (focus intro w'; go_simp; with_reducible rfl); rotate_left; (focus simp only [Act.put, sa, sb, sc, i64_w, i32_w]; rfl)
            refine take_ (i := 0) (N := some 61) (v := ?_) (a' := ?_) (lb 26 5) rfl rfl (take_ofW T_.out W_.out (by kernel_rfl)) (λ _ _ _ h => h) (.inl ⟨by rfl, ?_⟩) h_ ?_ ?_; rotate_left; (focus rintro w' ⟨s0, s1, s2, s3, s4, s5, s6, s7, s8⟩; go_simp; with_reducible rfl); rotate_left; (focus simp only [Act.put, sa, sb, sc, i64_w, i32_w]; rfl)
            refine take_ (i := 3) (N := some 64) (v := ?_) (a' := ?_) (lb 26 13) rfl rfl (take_ofW T_.out W_.out (by kernel_rfl)) (λ _ _ _ h => h) (.inl ⟨by rfl, ?_⟩) h_ ?_ ?_; rotate_left; (focus rintro w' ⟨s0, s1, s2, s3, s4, s5, s6, s7, s8⟩; go_simp; with_reducible rfl); rotate_left; (focus simp only [Act.put, sa, sb, sc, i64_w, i32_w]; rfl)
            refine one_ (i := 1) (N := some 62) (lb 26 15) rfl rfl (one_of T_.out (by kernel_rfl)) (by decide) (fun K hK => ?_)
            refine goes_ Tryd.func14 (by kernel_rfl) rfl #[.agg #[.string t153, .int .i64 t154, .int .i64 t155, .int .i64 t156, .string t157]] (by rfl) rfl rfl (by (try simp only [List.map_toArray, List.map_cons, List.map_nil]); first | done | rfl | (simp only [List.length_drop, List.length_take]; rfl)) ?_
            with_reducible refine (meta_May.calls (hTabs := HTB.out.below (by repeat (first | (with_reducible first | exact HB.out | apply below_alloc | apply pw_below_drewN | apply below_drew1) | exact HB.out))) t153 t154 t155 t156 t157 t166 _ A55.out).mono ?_
            rintro e w65 ⟨rfl, hb⟩
            refine ⟨_, rfl, ?_⟩
            have n0_ := am (blk_below (g := g149) (o := .cells #[.string a0_0, .int .i64 a0_1, .int .i64 a0_2, .string a0_3] 37 (0, 0)) (by (with_reducible repeat (first | refine blk_drewN ?_ _ | refine blk_drew ?_ | refine blk_alloc ?_ _)); exact B149.out) hb)
            have n1_ := am (blk_below (g := g150) (o := .cells #[.string a1_0, .int .i64 a1_1, .int .i64 a1_2, .string a1_3] 37 (0, 0)) (by (with_reducible repeat (first | refine blk_drewN ?_ _ | refine blk_drew ?_ | refine blk_alloc ?_ _)); exact B150.out) hb)
            have n2_ := am (blk_below (g := g158) (o := .cells #[.string t153, .int .i64 t154, .int .i64 t155, .int .i64 t156, .string t157] 25 (0, 0)) (by (with_reducible repeat (first | refine blk_drewN ?_ _ | refine blk_drew ?_ | refine blk_alloc ?_ _)); exact B158.out) hb)
            have n3_ := am (blk_below (g := g164) (o := .cells #[.string t159, .int .i64 t160, .int .i64 t161, .int .i64 t162, .string t163] 25 (0, 0)) (by (with_reducible repeat (first | refine blk_drewN ?_ _ | refine blk_drew ?_ | refine blk_alloc ?_ _)); exact B164.out) hb)
            have n4_ := am (below_step (by repeat (first | (with_reducible first | exact HB.out | apply below_alloc | apply pw_below_drewN | apply below_drew1 | refine below_set ?_ GE149.out | refine below_set ?_ GE150.out | refine below_set ?_ GE158.out | refine below_set ?_ GE164.out) | exact HB.out)) hb)
            clear B149
            clear B150
            clear B158
            clear B164
            clear HB
            have B149 := n0_
            have B150 := n1_
            have B158 := n2_
            have B164 := n3_
            have HB := n4_
            clear n0_ n1_ n2_ n3_ n4_
            (try clear hb)
            (try clear hb2)
            (try clear hk)
            (try clear hi)
            refine hK.out _ _ ⟨(blk_cell B158.out 0).trans rfl, (blk_cell B158.out 1).trans rfl, (blk_cell B158.out 2).trans rfl, (blk_cell B158.out 3).trans rfl, (blk_cell B158.out 4).trans rfl, (blk_cell B149.out 0).trans rfl, (blk_cell B149.out 1).trans rfl, (blk_cell B149.out 2).trans rfl, (blk_cell B149.out 3).trans rfl⟩ (fun h_ => ?_)
            clear hK K
            refine norm_ (a' := ?_) ?_ ?_
            rotate_left
            ·
             show Act.put _ (some 62) _ = _
             simp only [Act.put, sa, sb, sc, i64_w, i32_w]
             rfl
            refine one_ (i := 4) (N := some 65) (lb 26 31) rfl rfl (one_of T_.out (by kernel_rfl)) (by decide) (fun K hK => ?_)
            refine goes_ Tryd.func11 (by kernel_rfl) rfl #[.string a0_0] (by rfl) rfl rfl (by (try simp only [List.map_toArray, List.map_cons, List.map_nil]); first | done | rfl | (simp only [List.length_drop, List.length_take]; rfl)) ?_
            with_reducible refine (meta_Name.calls (hTabs := HTB.out.below (by repeat (first | (with_reducible first | exact HB.out | apply below_alloc | apply pw_below_drewN | apply below_drew1) | exact HB.out))) a0_0 true _ A56.out).mono ?_
            rintro e w66 ⟨rfl, hb⟩
            refine ⟨_, rfl, ?_⟩
            have n0_ := am (blk_below (g := g149) (o := .cells #[.string a0_0, .int .i64 a0_1, .int .i64 a0_2, .string a0_3] 37 (0, 0)) (by (with_reducible repeat (first | refine blk_drewN ?_ _ | refine blk_drew ?_ | refine blk_alloc ?_ _)); exact B149.out) hb)
            have n1_ := am (blk_below (g := g150) (o := .cells #[.string a1_0, .int .i64 a1_1, .int .i64 a1_2, .string a1_3] 37 (0, 0)) (by (with_reducible repeat (first | refine blk_drewN ?_ _ | refine blk_drew ?_ | refine blk_alloc ?_ _)); exact B150.out) hb)
            have n2_ := am (blk_below (g := g158) (o := .cells #[.string t153, .int .i64 t154, .int .i64 t155, .int .i64 t156, .string t157] 25 (0, 0)) (by (with_reducible repeat (first | refine blk_drewN ?_ _ | refine blk_drew ?_ | refine blk_alloc ?_ _)); exact B158.out) hb)
            have n3_ := am (blk_below (g := g164) (o := .cells #[.string t159, .int .i64 t160, .int .i64 t161, .int .i64 t162, .string t163] 25 (0, 0)) (by (with_reducible repeat (first | refine blk_drewN ?_ _ | refine blk_drew ?_ | refine blk_alloc ?_ _)); exact B164.out) hb)
            have n4_ := am (below_step (by repeat (first | (with_reducible first | exact HB.out | apply below_alloc | apply pw_below_drewN | apply below_drew1 | refine below_set ?_ GE149.out | refine below_set ?_ GE150.out | refine below_set ?_ GE158.out | refine below_set ?_ GE164.out) | exact HB.out)) hb)
            clear B149
            clear B150
            clear B158
            clear B164
            clear HB
            have B149 := n0_
            have B150 := n1_
            have B158 := n2_
            have B164 := n3_
            have HB := n4_
            clear n0_ n1_ n2_ n3_ n4_
            (try clear hb)
            (try clear hb2)
            (try clear hk)
            (try clear hi)
            refine hK.out _ _ ⟨(blk_cell B158.out 0).trans rfl, (blk_cell B158.out 1).trans rfl, (blk_cell B158.out 2).trans rfl, (blk_cell B158.out 3).trans rfl, (blk_cell B158.out 4).trans rfl, (blk_cell B149.out 0).trans rfl, (blk_cell B149.out 1).trans rfl, (blk_cell B149.out 2).trans rfl, (blk_cell B149.out 3).trans rfl⟩ (fun h_ => ?_)
            clear hK K
            refine norm_ (a' := ?_) ?_ ?_
            rotate_left
            ·
             show Act.put _ (some 65) _ = _
             simp only [Act.put, sa, sb, sc, i64_w, i32_w]
             rfl
            refine pu (i := 5) (N := some 66) (v := ?_) (a' := ?_) (lb 26 63) rfl rfl (ao T_.out (by kernel_rfl)) (λ _ _ _ h => h) (.inl ⟨by rfl, ?_⟩) ?_ ?_; rotate_left; (focus intro w'; go_simp; with_reducible rfl); rotate_left; (focus simp only [Act.put, sa, sb, sc, i64_w, i32_w]; rfl)
            refine pu (i := 6) (N := some 67) (v := ?_) (a' := ?_) (lb 26 127) rfl rfl (ao T_.out (by kernel_rfl)) (λ _ _ _ h => h) (.inl ⟨by rfl, ?_⟩) ?_ ?_; rotate_left; (focus intro w'; go_simp; with_reducible rfl); rotate_left; (focus simp only [Act.put, sa, sb, sc, i64_w, i32_w]; rfl)
            refine take_ (i := 7) (N := some 68) (v := ?_) (a' := ?_) (lb 26 255) rfl rfl (take_ofW T_.out W_.out (by kernel_rfl)) (λ _ _ _ h => h) (.inl ⟨by rfl, ?_⟩) h_ ?_ ?_; rotate_left; (focus rintro w' ⟨s0, s1, s2, s3, s4, s5, s6, s7, s8⟩; go_simp; with_reducible rfl); rotate_left; (focus simp only [Act.put, sa, sb, sc, i64_w, i32_w]; rfl)
            refine pu (i := 8) (N := some 69) (v := ?_) (a' := ?_) (lb 26 511) rfl rfl (ao T_.out (by kernel_rfl)) (λ _ _ _ h => h) (.inl ⟨by rfl, ?_⟩) ?_ ?_; rotate_left; (focus intro w'; go_simp; with_reducible rfl); rotate_left; (focus simp only [Act.put, sa, sb, sc, i64_w, i32_w]; rfl)
            refine pu (i := 9) (N := some 70) (v := ?_) (a' := ?_) (lb 26 1023) rfl rfl (ao T_.out (by kernel_rfl)) (λ _ _ _ h => h) (.inl ⟨by rfl, ?_⟩) ?_ ?_; rotate_left; (focus intro w'; go_simp; with_reducible rfl); rotate_left; (focus simp only [Act.put, sa, sb, sc, i64_w, i32_w]; rfl)
            refine pu (i := 10) (N := some 71) (v := ?_) (a' := ?_) (lb 26 2047) rfl rfl (ao T_.out (by kernel_rfl)) (λ _ _ _ h => h) (.inl ⟨by rfl, ?_⟩) ?_ ?_; rotate_left; (focus intro w'; go_simp; with_reducible rfl); rotate_left; (focus simp only [Act.put, sa, sb, sc, i64_w, i32_w]; rfl)
            refine pu (i := 11) (N := some 72) (v := ?_) (a' := ?_) (lb 26 4095) rfl rfl (ao T_.out (by kernel_rfl)) (λ _ _ _ h => h) (.inl ⟨by rfl, ?_⟩) ?_ ?_; rotate_left; (focus intro w'; go_simp; with_reducible rfl); rotate_left; (focus simp only [Act.put, sa, sb, sc, i64_w, i32_w]; rfl)
            refine take_ (i := 12) (N := some 73) (v := ?_) (a' := ?_) (lb 26 8191) rfl rfl (take_ofW T_.out W_.out (by kernel_rfl)) (λ _ _ _ h => h) (.inl ⟨by rfl, ?_⟩) h_ ?_ ?_; rotate_left; (focus rintro w' ⟨s0, s1, s2, s3, s4, s5, s6, s7, s8⟩; go_simp; with_reducible rfl); rotate_left; (focus simp only [Act.put, sa, sb, sc, i64_w, i32_w]; rfl)
            refine pu (i := 13) (N := some 74) (v := ?_) (a' := ?_) (lb 26 16383) rfl rfl (ao T_.out (by kernel_rfl)) (λ _ _ _ h => h) (.inl ⟨by rfl, ?_⟩) ?_ ?_; rotate_left; (focus intro w'; go_simp; with_reducible rfl); rotate_left; (focus simp only [Act.put, sa, sb, sc, i64_w, i32_w]; rfl)
            refine pu (i := 14) (N := some 75) (v := ?_) (a' := ?_) (lb 26 32767) rfl rfl (ao T_.out (by kernel_rfl)) (λ _ _ _ h => h) (.inl ⟨by rfl, ?_⟩) ?_ ?_; rotate_left; (focus intro w'; go_simp; with_reducible rfl); rotate_left; (focus simp only [Act.put, sa, sb, sc, i64_w, i32_w]; rfl)
            refine pu (i := 15) (N := some 76) (v := ?_) (a' := ?_) (lb 26 65535) rfl rfl (ao T_.out (by kernel_rfl)) (λ _ _ _ h => h) (.inl ⟨by rfl, ?_⟩) ?_ ?_; rotate_left; (focus intro w'; go_simp; with_reducible rfl); rotate_left; (focus simp only [Act.put, sa, sb, sc, i64_w, i32_w]; rfl)
            refine pu (i := 16) (N := some 77) (v := ?_) (a' := ?_) (lb 26 131071) rfl rfl (ao T_.out (by kernel_rfl)) (λ _ _ _ h => h) (.inl ⟨by rfl, ?_⟩) ?_ ?_; rotate_left; (focus intro w'; go_simp; with_reducible rfl); rotate_left; (focus simp only [Act.put, sa, sb, sc, i64_w, i32_w]; rfl)
            refine take_ (i := 17) (N := some 78) (v := ?_) (a' := ?_) (lb 26 262143) rfl rfl (take_ofW T_.out W_.out (by kernel_rfl)) (λ _ _ _ h => h) (.inl ⟨by rfl, ?_⟩) h_ ?_ ?_; rotate_left; (focus rintro w' ⟨s0, s1, s2, s3, s4, s5, s6, s7, s8⟩; go_simp; with_reducible rfl); rotate_left; (focus simp only [Act.put, sa, sb, sc, i64_w, i32_w]; rfl)
            refine pu (i := 18) (N := some 79) (v := ?_) (a' := ?_) (lb 26 524287) rfl rfl (ao T_.out (by kernel_rfl)) (λ _ _ _ h => h) (.inl ⟨by rfl, ?_⟩) ?_ ?_; rotate_left; (focus intro w'; go_simp; with_reducible rfl); rotate_left; (focus simp only [Act.put, sa, sb, sc, i64_w, i32_w]; rfl)
            refine pu (i := 19) (N := some 80) (v := ?_) (a' := ?_) (lb 26 1048575) rfl rfl (ao T_.out (by kernel_rfl)) (λ _ _ _ h => h) (.inl ⟨by rfl, ?_⟩) ?_ ?_; rotate_left; (focus intro w'; go_simp; with_reducible rfl); rotate_left; (focus simp only [Act.put, sa, sb, sc, i64_w, i32_w]; rfl)
            refine pu (i := 20) (N := some 81) (v := ?_) (a' := ?_) (lb 26 2097151) rfl rfl (ao T_.out (by kernel_rfl)) (λ _ _ _ h => h) (.inl ⟨by rfl, ?_⟩) ?_ ?_; rotate_left; (focus intro w'; go_simp; with_reducible rfl); rotate_left; (focus simp only [Act.put, sa, sb, sc, i64_w, i32_w]; rfl)
            refine pu (i := 21) (N := some 82) (v := undef) (a' := ?_) (lb 26 4194303) rfl rfl (ao T_.out (by kernel_rfl)) (λ _ _ _ h => h) (Or.inr ⟨by rfl, rfl⟩) ?_ ?_
            rotate_left
            ·
             simp only [Act.put, sa, sb, sc, i64_w, i32_w]
             rfl
            refine pu (i := 22) (N := some 83) (v := undef) (a' := ?_) (lb 26 8388607) rfl rfl (ao T_.out (by kernel_rfl)) (λ _ _ _ h => h) (Or.inr ⟨by rfl, rfl⟩) ?_ ?_
            rotate_left
            ·
             simp only [Act.put, sa, sb, sc, i64_w, i32_w]
             rfl
            refine pu (i := 23) (N := some 84) (v := undef) (a' := ?_) (lb 26 16777215) rfl rfl (ao T_.out (by kernel_rfl)) (λ _ _ _ h => h) (Or.inr ⟨by rfl, rfl⟩) ?_ ?_
            rotate_left
            ·
             simp only [Act.put, sa, sb, sc, i64_w, i32_w]
             rfl
            refine pu (i := 24) (N := some 85) (v := ?_) (a' := ?_) (lb 26 33554431) rfl rfl (ao T_.out (by kernel_rfl)) (λ _ _ _ h => h) (.inl ⟨by rfl, ?_⟩) ?_ ?_; rotate_left; (focus intro w'; go_simp; with_reducible rfl); rotate_left; (focus simp only [Act.put, sa, sb, sc, i64_w, i32_w]; rfl)
            refine pu (i := 25) (N := some 86) (v := ?_) (a' := ?_) (lb 26 67108863) rfl rfl (ao T_.out (by kernel_rfl)) (λ _ _ _ h => h) (.inl ⟨by rfl, ?_⟩) ?_ ?_; rotate_left; (focus intro w'; go_simp; with_reducible rfl); rotate_left; (focus simp only [Act.put, sa, sb, sc, i64_w, i32_w]; rfl)
            refine done_ (done_of T_.out (by kernel_rfl)) ?_
            try go_wp2
            go_meet
            case rel => exact ⟨_, ((t166 != false)), (by first | rfl | (simp; done) | (simp [*]; done)), H', ⟨by have := HJ2.out; have := HJ21.out; first | omega | exact Nat.le_refl _⟩, ⟨by (with_reducible repeat (first | refine blk_drewN ?_ _ | refine blk_drew ?_ | refine blk_alloc ?_ _)); exact B149.out⟩, ⟨by (with_reducible repeat (first | refine blk_drewN ?_ _ | refine blk_drew ?_ | refine blk_alloc ?_ _)); exact B150.out⟩, ⟨by (with_reducible repeat (first | refine blk_drewN ?_ _ | refine blk_drew ?_ | refine blk_alloc ?_ _)); exact B158.out⟩, ⟨by (with_reducible repeat (first | refine blk_drewN ?_ _ | refine blk_drew ?_ | refine blk_alloc ?_ _)); exact B164.out⟩, ⟨by repeat (first | (with_reducible first | exact HB.out | apply below_alloc | apply pw_below_drewN | apply below_drew1 | refine below_set ?_ GE149.out | refine below_set ?_ GE150.out | refine below_set ?_ GE158.out | refine below_set ?_ GE164.out) | exact HB.out)⟩⟩
          ·
           rw [if_neg c59] at H
           have c59b0 : decide (a0_1 ≤ 65535) = false := decide_eq_false c59
           clear c59
           have H' := am H
           clear H
           try go_wp2
           have n0_ := am (blk_drew B149.out)
           have n1_ := am (blk_drew B150.out)
           have n2_ := am (blk_drew B158.out)
           have n3_ := am (blk_drew B164.out)
           have n4_ := am (below_drew1 HB.out)
           clear B149
           clear B150
           clear B158
           clear B164
           clear HB
           have B149 := n0_
           have B150 := n1_
           have B158 := n2_
           have B164 := n3_
           have HB := n4_
           clear n0_ n1_ n2_ n3_ n4_
           refine start_ (n := 26) (S := fun w' => w'.cell? ⟨g158, 0, none⟩ = some (.string t153) ∧ w'.cell? ⟨g158, 1, none⟩ = some (.int .i64 t154) ∧ w'.cell? ⟨g158, 2, none⟩ = some (.int .i64 t155) ∧ w'.cell? ⟨g158, 3, none⟩ = some (.int .i64 t156) ∧ w'.cell? ⟨g158, 4, none⟩ = some (.string t157) ∧ w'.cell? ⟨g149, 0, none⟩ = some (.string a0_0) ∧ w'.cell? ⟨g149, 1, none⟩ = some (.int .i64 a0_1) ∧ w'.cell? ⟨g149, 2, none⟩ = some (.int .i64 a0_2) ∧ w'.cell? ⟨g149, 3, none⟩ = some (.string a0_3)) (ds := []) #[false, false, false, false, false, false, false, false, false, false, false, false, false, false, false, false, false, false, false, false, false, false, false, false, false, false] (by kernel_rfl) rfl rfl ⟨(blk_cell B158.out 0).trans rfl, (blk_cell B158.out 1).trans rfl, (blk_cell B158.out 2).trans rfl, (blk_cell B158.out 3).trans rfl, (blk_cell B158.out 4).trans rfl, (blk_cell B149.out 0).trans rfl, (blk_cell B149.out 1).trans rfl, (blk_cell B149.out 2).trans rfl, (blk_cell B149.out 3).trans rfl⟩ (fun h_ => ?_); refine with_tabW hamperlaw19_MetaOf.tab7 hamperlaw19_MetaOf.bits7 (fun T_ W_ => ?_)
           generalize wc.drew = w67 at B149 B150 B158 B164 HB h_ ⊢
           refine pu (i := 2) (N := some 63) (v := ?_) (a' := ?_) (lb 26 4) rfl rfl (ao T_.out (by kernel_rfl)) (λ _ _ _ h => h) (.inl ⟨by rfl, ?_⟩) ?_ ?_; rotate_left; (focus intro w'; go_simp; with_reducible rfl); rotate_left; (focus simp only [Act.put, sa, sb, sc, i64_w, i32_w]; rfl)
           refine take_ (i := 0) (N := some 61) (v := ?_) (a' := ?_) (lb 26 5) rfl rfl (take_ofW T_.out W_.out (by kernel_rfl)) (λ _ _ _ h => h) (.inl ⟨by rfl, ?_⟩) h_ ?_ ?_; rotate_left; (focus rintro w' ⟨s0, s1, s2, s3, s4, s5, s6, s7, s8⟩; go_simp; with_reducible rfl); rotate_left; (focus simp only [Act.put, sa, sb, sc, i64_w, i32_w]; rfl)
           refine take_ (i := 3) (N := some 64) (v := ?_) (a' := ?_) (lb 26 13) rfl rfl (take_ofW T_.out W_.out (by kernel_rfl)) (λ _ _ _ h => h) (.inl ⟨by rfl, ?_⟩) h_ ?_ ?_; rotate_left; (focus rintro w' ⟨s0, s1, s2, s3, s4, s5, s6, s7, s8⟩; go_simp; with_reducible rfl); rotate_left; (focus simp only [Act.put, sa, sb, sc, i64_w, i32_w]; rfl)
           refine one_ (i := 1) (N := some 62) (lb 26 15) rfl rfl (one_of T_.out (by kernel_rfl)) (by decide) (fun K hK => ?_)
           refine goes_ Tryd.func14 (by kernel_rfl) rfl #[.agg #[.string t153, .int .i64 t154, .int .i64 t155, .int .i64 t156, .string t157]] (by rfl) rfl rfl (by (try simp only [List.map_toArray, List.map_cons, List.map_nil]); first | done | rfl | (simp only [List.length_drop, List.length_take]; rfl)) ?_
           with_reducible refine (meta_May.calls (hTabs := HTB.out.below (by repeat (first | (with_reducible first | exact HB.out | apply below_alloc | apply pw_below_drewN | apply below_drew1) | exact HB.out))) t153 t154 t155 t156 t157 t166 _ A55.out).mono ?_
           rintro e w68 ⟨rfl, hb⟩
           refine ⟨_, rfl, ?_⟩
           have n0_ := am (blk_below (g := g149) (o := .cells #[.string a0_0, .int .i64 a0_1, .int .i64 a0_2, .string a0_3] 37 (0, 0)) (by (with_reducible repeat (first | refine blk_drewN ?_ _ | refine blk_drew ?_ | refine blk_alloc ?_ _)); exact B149.out) hb)
           have n1_ := am (blk_below (g := g150) (o := .cells #[.string a1_0, .int .i64 a1_1, .int .i64 a1_2, .string a1_3] 37 (0, 0)) (by (with_reducible repeat (first | refine blk_drewN ?_ _ | refine blk_drew ?_ | refine blk_alloc ?_ _)); exact B150.out) hb)
           have n2_ := am (blk_below (g := g158) (o := .cells #[.string t153, .int .i64 t154, .int .i64 t155, .int .i64 t156, .string t157] 25 (0, 0)) (by (with_reducible repeat (first | refine blk_drewN ?_ _ | refine blk_drew ?_ | refine blk_alloc ?_ _)); exact B158.out) hb)
           have n3_ := am (blk_below (g := g164) (o := .cells #[.string t159, .int .i64 t160, .int .i64 t161, .int .i64 t162, .string t163] 25 (0, 0)) (by (with_reducible repeat (first | refine blk_drewN ?_ _ | refine blk_drew ?_ | refine blk_alloc ?_ _)); exact B164.out) hb)
           have n4_ := am (below_step (by repeat (first | (with_reducible first | exact HB.out | apply below_alloc | apply pw_below_drewN | apply below_drew1 | refine below_set ?_ GE149.out | refine below_set ?_ GE150.out | refine below_set ?_ GE158.out | refine below_set ?_ GE164.out) | exact HB.out)) hb)
           clear B149
           clear B150
           clear B158
           clear B164
           clear HB
           have B149 := n0_
           have B150 := n1_
           have B158 := n2_
           have B164 := n3_
           have HB := n4_
           clear n0_ n1_ n2_ n3_ n4_
           (try clear hb)
           (try clear hb2)
           (try clear hk)
           (try clear hi)
           refine hK.out _ _ ⟨(blk_cell B158.out 0).trans rfl, (blk_cell B158.out 1).trans rfl, (blk_cell B158.out 2).trans rfl, (blk_cell B158.out 3).trans rfl, (blk_cell B158.out 4).trans rfl, (blk_cell B149.out 0).trans rfl, (blk_cell B149.out 1).trans rfl, (blk_cell B149.out 2).trans rfl, (blk_cell B149.out 3).trans rfl⟩ (fun h_ => ?_)
           clear hK K
           refine norm_ (a' := ?_) ?_ ?_
           rotate_left
           ·
            show Act.put _ (some 62) _ = _
            simp only [Act.put, sa, sb, sc, i64_w, i32_w]
            rfl
           refine one_ (i := 4) (N := some 65) (lb 26 31) rfl rfl (one_of T_.out (by kernel_rfl)) (by decide) (fun K hK => ?_)
           refine goes_ Tryd.func11 (by kernel_rfl) rfl #[.string a0_0] (by rfl) rfl rfl (by (try simp only [List.map_toArray, List.map_cons, List.map_nil]); first | done | rfl | (simp only [List.length_drop, List.length_take]; rfl)) ?_
           with_reducible refine (meta_Name.calls (hTabs := HTB.out.below (by repeat (first | (with_reducible first | exact HB.out | apply below_alloc | apply pw_below_drewN | apply below_drew1) | exact HB.out))) a0_0 true _ A56.out).mono ?_
           rintro e w69 ⟨rfl, hb⟩
           refine ⟨_, rfl, ?_⟩
           have n0_ := am (blk_below (g := g149) (o := .cells #[.string a0_0, .int .i64 a0_1, .int .i64 a0_2, .string a0_3] 37 (0, 0)) (by (with_reducible repeat (first | refine blk_drewN ?_ _ | refine blk_drew ?_ | refine blk_alloc ?_ _)); exact B149.out) hb)
           have n1_ := am (blk_below (g := g150) (o := .cells #[.string a1_0, .int .i64 a1_1, .int .i64 a1_2, .string a1_3] 37 (0, 0)) (by (with_reducible repeat (first | refine blk_drewN ?_ _ | refine blk_drew ?_ | refine blk_alloc ?_ _)); exact B150.out) hb)
           have n2_ := am (blk_below (g := g158) (o := .cells #[.string t153, .int .i64 t154, .int .i64 t155, .int .i64 t156, .string t157] 25 (0, 0)) (by (with_reducible repeat (first | refine blk_drewN ?_ _ | refine blk_drew ?_ | refine blk_alloc ?_ _)); exact B158.out) hb)
           have n3_ := am (blk_below (g := g164) (o := .cells #[.string t159, .int .i64 t160, .int .i64 t161, .int .i64 t162, .string t163] 25 (0, 0)) (by (with_reducible repeat (first | refine blk_drewN ?_ _ | refine blk_drew ?_ | refine blk_alloc ?_ _)); exact B164.out) hb)
           have n4_ := am (below_step (by repeat (first | (with_reducible first | exact HB.out | apply below_alloc | apply pw_below_drewN | apply below_drew1 | refine below_set ?_ GE149.out | refine below_set ?_ GE150.out | refine below_set ?_ GE158.out | refine below_set ?_ GE164.out) | exact HB.out)) hb)
           clear B149
           clear B150
           clear B158
           clear B164
           clear HB
           have B149 := n0_
           have B150 := n1_
           have B158 := n2_
           have B164 := n3_
           have HB := n4_
           clear n0_ n1_ n2_ n3_ n4_
           (try clear hb)
           (try clear hb2)
           (try clear hk)
           (try clear hi)
           refine hK.out _ _ ⟨(blk_cell B158.out 0).trans rfl, (blk_cell B158.out 1).trans rfl, (blk_cell B158.out 2).trans rfl, (blk_cell B158.out 3).trans rfl, (blk_cell B158.out 4).trans rfl, (blk_cell B149.out 0).trans rfl, (blk_cell B149.out 1).trans rfl, (blk_cell B149.out 2).trans rfl, (blk_cell B149.out 3).trans rfl⟩ (fun h_ => ?_)
           clear hK K
           refine norm_ (a' := ?_) ?_ ?_
           rotate_left
           ·
            show Act.put _ (some 65) _ = _
            simp only [Act.put, sa, sb, sc, i64_w, i32_w]
            rfl
           refine pu (i := 5) (N := some 66) (v := ?_) (a' := ?_) (lb 26 63) rfl rfl (ao T_.out (by kernel_rfl)) (λ _ _ _ h => h) (.inl ⟨by rfl, ?_⟩) ?_ ?_; rotate_left; (focus intro w'; go_simp; with_reducible rfl); rotate_left; (focus simp only [Act.put, sa, sb, sc, i64_w, i32_w]; rfl)
           refine pu (i := 6) (N := some 67) (v := ?_) (a' := ?_) (lb 26 127) rfl rfl (ao T_.out (by kernel_rfl)) (λ _ _ _ h => h) (.inl ⟨by rfl, ?_⟩) ?_ ?_; rotate_left; (focus intro w'; go_simp; with_reducible rfl); rotate_left; (focus simp only [Act.put, sa, sb, sc, i64_w, i32_w]; rfl)
           refine take_ (i := 7) (N := some 68) (v := ?_) (a' := ?_) (lb 26 255) rfl rfl (take_ofW T_.out W_.out (by kernel_rfl)) (λ _ _ _ h => h) (.inl ⟨by rfl, ?_⟩) h_ ?_ ?_; rotate_left; (focus rintro w' ⟨s0, s1, s2, s3, s4, s5, s6, s7, s8⟩; go_simp; with_reducible rfl); rotate_left; (focus simp only [Act.put, sa, sb, sc, i64_w, i32_w]; rfl)
           refine pu (i := 8) (N := some 69) (v := ?_) (a' := ?_) (lb 26 511) rfl rfl (ao T_.out (by kernel_rfl)) (λ _ _ _ h => h) (.inl ⟨by rfl, ?_⟩) ?_ ?_; rotate_left; (focus intro w'; go_simp; with_reducible rfl); rotate_left; (focus simp only [Act.put, sa, sb, sc, i64_w, i32_w]; rfl)
           refine pu (i := 9) (N := some 70) (v := ?_) (a' := ?_) (lb 26 1023) rfl rfl (ao T_.out (by kernel_rfl)) (λ _ _ _ h => h) (.inl ⟨by rfl, ?_⟩) ?_ ?_; rotate_left; (focus intro w'; go_simp; with_reducible rfl); rotate_left; (focus simp only [Act.put, sa, sb, sc, i64_w, i32_w]; rfl)
           refine pu (i := 10) (N := some 71) (v := ?_) (a' := ?_) (lb 26 2047) rfl rfl (ao T_.out (by kernel_rfl)) (λ _ _ _ h => h) (.inl ⟨by rfl, ?_⟩) ?_ ?_; rotate_left; (focus intro w'; go_simp; with_reducible rfl); rotate_left; (focus simp only [Act.put, sa, sb, sc, i64_w, i32_w]; rfl)
           refine pu (i := 11) (N := some 72) (v := ?_) (a' := ?_) (lb 26 4095) rfl rfl (ao T_.out (by kernel_rfl)) (λ _ _ _ h => h) (.inl ⟨by rfl, ?_⟩) ?_ ?_; rotate_left; (focus intro w'; go_simp; with_reducible rfl); rotate_left; (focus simp only [Act.put, sa, sb, sc, i64_w, i32_w]; rfl)
           refine take_ (i := 12) (N := some 73) (v := ?_) (a' := ?_) (lb 26 8191) rfl rfl (take_ofW T_.out W_.out (by kernel_rfl)) (λ _ _ _ h => h) (.inl ⟨by rfl, ?_⟩) h_ ?_ ?_; rotate_left; (focus rintro w' ⟨s0, s1, s2, s3, s4, s5, s6, s7, s8⟩; go_simp; with_reducible rfl); rotate_left; (focus simp only [Act.put, sa, sb, sc, i64_w, i32_w]; rfl)
           refine pu (i := 13) (N := some 74) (v := ?_) (a' := ?_) (lb 26 16383) rfl rfl (ao T_.out (by kernel_rfl)) (λ _ _ _ h => h) (.inl ⟨by rfl, ?_⟩) ?_ ?_; rotate_left; (focus intro w'; go_simp; with_reducible rfl); rotate_left; (focus simp only [Act.put, sa, sb, sc, i64_w, i32_w]; rfl)
           refine pu (i := 14) (N := some 75) (v := ?_) (a' := ?_) (lb 26 32767) rfl rfl (ao T_.out (by kernel_rfl)) (λ _ _ _ h => h) (.inl ⟨by rfl, ?_⟩) ?_ ?_; rotate_left; (focus intro w'; go_simp; with_reducible rfl); rotate_left; (focus simp only [Act.put, sa, sb, sc, i64_w, i32_w]; rfl)
           refine pu (i := 15) (N := some 76) (v := ?_) (a' := ?_) (lb 26 65535) rfl rfl (ao T_.out (by kernel_rfl)) (λ _ _ _ h => h) (.inl ⟨by rfl, ?_⟩) ?_ ?_; rotate_left; (focus intro w'; go_simp; with_reducible rfl); rotate_left; (focus simp only [Act.put, sa, sb, sc, i64_w, i32_w]; rfl)
           refine pu (i := 16) (N := some 77) (v := undef) (a' := ?_) (lb 26 131071) rfl rfl (ao T_.out (by kernel_rfl)) (λ _ _ _ h => h) (Or.inr ⟨by rfl, rfl⟩) ?_ ?_
           rotate_left
           ·
            simp only [Act.put, sa, sb, sc, i64_w, i32_w]
            rfl
           refine pu (i := 17) (N := some 78) (v := undef) (a' := ?_) (lb 26 262143) rfl rfl (ao T_.out (by kernel_rfl)) (λ _ _ _ h => h) (Or.inr ⟨by rfl, rfl⟩) ?_ ?_
           rotate_left
           ·
            simp only [Act.put, sa, sb, sc, i64_w, i32_w]
            rfl
           refine pu (i := 18) (N := some 79) (v := undef) (a' := ?_) (lb 26 524287) rfl rfl (ao T_.out (by kernel_rfl)) (λ _ _ _ h => h) (Or.inr ⟨by rfl, rfl⟩) ?_ ?_
           rotate_left
           ·
            simp only [Act.put, sa, sb, sc, i64_w, i32_w]
            rfl
           refine pu (i := 19) (N := some 80) (v := ?_) (a' := ?_) (lb 26 1048575) rfl rfl (ao T_.out (by kernel_rfl)) (λ _ _ _ h => h) (.inl ⟨by rfl, ?_⟩) ?_ ?_; rotate_left; (focus intro w'; go_simp; with_reducible rfl); rotate_left; (focus simp only [Act.put, sa, sb, sc, i64_w, i32_w]; rfl)
           refine pu (i := 20) (N := some 81) (v := ?_) (a' := ?_) (lb 26 2097151) rfl rfl (ao T_.out (by kernel_rfl)) (λ _ _ _ h => h) (.inl ⟨by rfl, ?_⟩) ?_ ?_; rotate_left; (focus intro w'; go_simp; with_reducible rfl); rotate_left; (focus simp only [Act.put, sa, sb, sc, i64_w, i32_w]; rfl)
           refine pu (i := 21) (N := some 82) (v := undef) (a' := ?_) (lb 26 4194303) rfl rfl (ao T_.out (by kernel_rfl)) (λ _ _ _ h => h) (Or.inr ⟨by rfl, rfl⟩) ?_ ?_
           rotate_left
           ·
            simp only [Act.put, sa, sb, sc, i64_w, i32_w]
            rfl
           refine pu (i := 22) (N := some 83) (v := undef) (a' := ?_) (lb 26 8388607) rfl rfl (ao T_.out (by kernel_rfl)) (λ _ _ _ h => h) (Or.inr ⟨by rfl, rfl⟩) ?_ ?_
           rotate_left
           ·
            simp only [Act.put, sa, sb, sc, i64_w, i32_w]
            rfl
           refine pu (i := 23) (N := some 84) (v := undef) (a' := ?_) (lb 26 16777215) rfl rfl (ao T_.out (by kernel_rfl)) (λ _ _ _ h => h) (Or.inr ⟨by rfl, rfl⟩) ?_ ?_
           rotate_left
           ·
            simp only [Act.put, sa, sb, sc, i64_w, i32_w]
            rfl
           refine pu (i := 24) (N := some 85) (v := ?_) (a' := ?_) (lb 26 33554431) rfl rfl (ao T_.out (by kernel_rfl)) (λ _ _ _ h => h) (.inl ⟨by rfl, ?_⟩) ?_ ?_; rotate_left; (focus intro w'; go_simp; with_reducible rfl); rotate_left; (focus simp only [Act.put, sa, sb, sc, i64_w, i32_w]; rfl)
           refine pu (i := 25) (N := some 86) (v := ?_) (a' := ?_) (lb 26 67108863) rfl rfl (ao T_.out (by kernel_rfl)) (λ _ _ _ h => h) (.inl ⟨by rfl, ?_⟩) ?_ ?_; rotate_left; (focus intro w'; go_simp; with_reducible rfl); rotate_left; (focus simp only [Act.put, sa, sb, sc, i64_w, i32_w]; rfl)
           refine done_ (done_of T_.out (by kernel_rfl)) ?_
           try go_wp2
           go_meet
           case rel => exact ⟨_, ((t166 != false)), (by first | rfl | (simp; done) | (simp [*]; done)), H', ⟨by have := HJ2.out; have := HJ21.out; first | omega | exact Nat.le_refl _⟩, ⟨by (with_reducible repeat (first | refine blk_drewN ?_ _ | refine blk_drew ?_ | refine blk_alloc ?_ _)); exact B149.out⟩, ⟨by (with_reducible repeat (first | refine blk_drewN ?_ _ | refine blk_drew ?_ | refine blk_alloc ?_ _)); exact B150.out⟩, ⟨by (with_reducible repeat (first | refine blk_drewN ?_ _ | refine blk_drew ?_ | refine blk_alloc ?_ _)); exact B158.out⟩, ⟨by (with_reducible repeat (first | refine blk_drewN ?_ _ | refine blk_drew ?_ | refine blk_alloc ?_ _)); exact B164.out⟩, ⟨by repeat (first | (with_reducible first | exact HB.out | apply below_alloc | apply pw_below_drewN | apply below_drew1 | refine below_set ?_ GE149.out | refine below_set ?_ GE150.out | refine below_set ?_ GE158.out | refine below_set ?_ GE164.out) | exact HB.out)⟩⟩
         ·
          rw [if_neg c58] at H
          have c58b0 : decide (0 ≤ a0_1) = false := decide_eq_false c58
          clear c58
          (first | rw [c58b0] | (simp only [i64_w, i32_w]; rw [c58b0]) | skip)
          have H' := am H
          clear H
          try go_wp2
          have n0_ := am (blk_drew B149.out)
          have n1_ := am (blk_drew B150.out)
          have n2_ := am (blk_drew B158.out)
          have n3_ := am (blk_drew B164.out)
          have n4_ := am (below_drew1 HB.out)
          clear B149
          clear B150
          clear B158
          clear B164
          clear HB
          have B149 := n0_
          have B150 := n1_
          have B158 := n2_
          have B164 := n3_
          have HB := n4_
          clear n0_ n1_ n2_ n3_ n4_
          refine start_ (n := 26) (S := fun w' => w'.cell? ⟨g158, 0, none⟩ = some (.string t153) ∧ w'.cell? ⟨g158, 1, none⟩ = some (.int .i64 t154) ∧ w'.cell? ⟨g158, 2, none⟩ = some (.int .i64 t155) ∧ w'.cell? ⟨g158, 3, none⟩ = some (.int .i64 t156) ∧ w'.cell? ⟨g158, 4, none⟩ = some (.string t157) ∧ w'.cell? ⟨g149, 0, none⟩ = some (.string a0_0) ∧ w'.cell? ⟨g149, 1, none⟩ = some (.int .i64 a0_1) ∧ w'.cell? ⟨g149, 2, none⟩ = some (.int .i64 a0_2) ∧ w'.cell? ⟨g149, 3, none⟩ = some (.string a0_3)) (ds := []) #[false, false, false, false, false, false, false, false, false, false, false, false, false, false, false, false, false, false, false, false, false, false, false, false, false, false] (by kernel_rfl) rfl rfl ⟨(blk_cell B158.out 0).trans rfl, (blk_cell B158.out 1).trans rfl, (blk_cell B158.out 2).trans rfl, (blk_cell B158.out 3).trans rfl, (blk_cell B158.out 4).trans rfl, (blk_cell B149.out 0).trans rfl, (blk_cell B149.out 1).trans rfl, (blk_cell B149.out 2).trans rfl, (blk_cell B149.out 3).trans rfl⟩ (fun h_ => ?_); refine with_tabW hamperlaw19_MetaOf.tab7 hamperlaw19_MetaOf.bits7 (fun T_ W_ => ?_)
          generalize wc.drew = w70 at B149 B150 B158 B164 HB h_ ⊢
          refine pu (i := 2) (N := some 63) (v := ?_) (a' := ?_) (lb 26 4) rfl rfl (ao T_.out (by kernel_rfl)) (λ _ _ _ h => h) (.inl ⟨by rfl, ?_⟩) ?_ ?_; rotate_left; (focus intro w'; go_simp; with_reducible rfl); rotate_left; (focus simp only [Act.put, sa, sb, sc, i64_w, i32_w]; rfl)
          refine take_ (i := 0) (N := some 61) (v := ?_) (a' := ?_) (lb 26 5) rfl rfl (take_ofW T_.out W_.out (by kernel_rfl)) (λ _ _ _ h => h) (.inl ⟨by rfl, ?_⟩) h_ ?_ ?_; rotate_left; (focus rintro w' ⟨s0, s1, s2, s3, s4, s5, s6, s7, s8⟩; go_simp; with_reducible rfl); rotate_left; (focus simp only [Act.put, sa, sb, sc, i64_w, i32_w]; rfl)
          refine take_ (i := 3) (N := some 64) (v := ?_) (a' := ?_) (lb 26 13) rfl rfl (take_ofW T_.out W_.out (by kernel_rfl)) (λ _ _ _ h => h) (.inl ⟨by rfl, ?_⟩) h_ ?_ ?_; rotate_left; (focus rintro w' ⟨s0, s1, s2, s3, s4, s5, s6, s7, s8⟩; go_simp; with_reducible rfl); rotate_left; (focus simp only [Act.put, sa, sb, sc, i64_w, i32_w]; rfl)
          refine one_ (i := 1) (N := some 62) (lb 26 15) rfl rfl (one_of T_.out (by kernel_rfl)) (by decide) (fun K hK => ?_)
          refine goes_ Tryd.func14 (by kernel_rfl) rfl #[.agg #[.string t153, .int .i64 t154, .int .i64 t155, .int .i64 t156, .string t157]] (by rfl) rfl rfl (by (try simp only [List.map_toArray, List.map_cons, List.map_nil]); first | done | rfl | (simp only [List.length_drop, List.length_take]; rfl)) ?_
          with_reducible refine (meta_May.calls (hTabs := HTB.out.below (by repeat (first | (with_reducible first | exact HB.out | apply below_alloc | apply pw_below_drewN | apply below_drew1) | exact HB.out))) t153 t154 t155 t156 t157 t166 _ A55.out).mono ?_
          rintro e w71 ⟨rfl, hb⟩
          refine ⟨_, rfl, ?_⟩
          have n0_ := am (blk_below (g := g149) (o := .cells #[.string a0_0, .int .i64 a0_1, .int .i64 a0_2, .string a0_3] 37 (0, 0)) (by (with_reducible repeat (first | refine blk_drewN ?_ _ | refine blk_drew ?_ | refine blk_alloc ?_ _)); exact B149.out) hb)
          have n1_ := am (blk_below (g := g150) (o := .cells #[.string a1_0, .int .i64 a1_1, .int .i64 a1_2, .string a1_3] 37 (0, 0)) (by (with_reducible repeat (first | refine blk_drewN ?_ _ | refine blk_drew ?_ | refine blk_alloc ?_ _)); exact B150.out) hb)
          have n2_ := am (blk_below (g := g158) (o := .cells #[.string t153, .int .i64 t154, .int .i64 t155, .int .i64 t156, .string t157] 25 (0, 0)) (by (with_reducible repeat (first | refine blk_drewN ?_ _ | refine blk_drew ?_ | refine blk_alloc ?_ _)); exact B158.out) hb)
          have n3_ := am (blk_below (g := g164) (o := .cells #[.string t159, .int .i64 t160, .int .i64 t161, .int .i64 t162, .string t163] 25 (0, 0)) (by (with_reducible repeat (first | refine blk_drewN ?_ _ | refine blk_drew ?_ | refine blk_alloc ?_ _)); exact B164.out) hb)
          have n4_ := am (below_step (by repeat (first | (with_reducible first | exact HB.out | apply below_alloc | apply pw_below_drewN | apply below_drew1 | refine below_set ?_ GE149.out | refine below_set ?_ GE150.out | refine below_set ?_ GE158.out | refine below_set ?_ GE164.out) | exact HB.out)) hb)
          clear B149
          clear B150
          clear B158
          clear B164
          clear HB
          have B149 := n0_
          have B150 := n1_
          have B158 := n2_
          have B164 := n3_
          have HB := n4_
          clear n0_ n1_ n2_ n3_ n4_
          (try clear hb)
          (try clear hb2)
          (try clear hk)
          (try clear hi)
          refine hK.out _ _ ⟨(blk_cell B158.out 0).trans rfl, (blk_cell B158.out 1).trans rfl, (blk_cell B158.out 2).trans rfl, (blk_cell B158.out 3).trans rfl, (blk_cell B158.out 4).trans rfl, (blk_cell B149.out 0).trans rfl, (blk_cell B149.out 1).trans rfl, (blk_cell B149.out 2).trans rfl, (blk_cell B149.out 3).trans rfl⟩ (fun h_ => ?_)
          clear hK K
          refine norm_ (a' := ?_) ?_ ?_
          rotate_left
          ·
           show Act.put _ (some 62) _ = _
           simp only [Act.put, sa, sb, sc, i64_w, i32_w]
           rfl
          refine one_ (i := 4) (N := some 65) (lb 26 31) rfl rfl (one_of T_.out (by kernel_rfl)) (by decide) (fun K hK => ?_)
          refine goes_ Tryd.func11 (by kernel_rfl) rfl #[.string a0_0] (by rfl) rfl rfl (by (try simp only [List.map_toArray, List.map_cons, List.map_nil]); first | done | rfl | (simp only [List.length_drop, List.length_take]; rfl)) ?_
          with_reducible refine (meta_Name.calls (hTabs := HTB.out.below (by repeat (first | (with_reducible first | exact HB.out | apply below_alloc | apply pw_below_drewN | apply below_drew1) | exact HB.out))) a0_0 true _ A56.out).mono ?_
          rintro e w72 ⟨rfl, hb⟩
          refine ⟨_, rfl, ?_⟩
          have n0_ := am (blk_below (g := g149) (o := .cells #[.string a0_0, .int .i64 a0_1, .int .i64 a0_2, .string a0_3] 37 (0, 0)) (by (with_reducible repeat (first | refine blk_drewN ?_ _ | refine blk_drew ?_ | refine blk_alloc ?_ _)); exact B149.out) hb)
          have n1_ := am (blk_below (g := g150) (o := .cells #[.string a1_0, .int .i64 a1_1, .int .i64 a1_2, .string a1_3] 37 (0, 0)) (by (with_reducible repeat (first | refine blk_drewN ?_ _ | refine blk_drew ?_ | refine blk_alloc ?_ _)); exact B150.out) hb)
          have n2_ := am (blk_below (g := g158) (o := .cells #[.string t153, .int .i64 t154, .int .i64 t155, .int .i64 t156, .string t157] 25 (0, 0)) (by (with_reducible repeat (first | refine blk_drewN ?_ _ | refine blk_drew ?_ | refine blk_alloc ?_ _)); exact B158.out) hb)
          have n3_ := am (blk_below (g := g164) (o := .cells #[.string t159, .int .i64 t160, .int .i64 t161, .int .i64 t162, .string t163] 25 (0, 0)) (by (with_reducible repeat (first | refine blk_drewN ?_ _ | refine blk_drew ?_ | refine blk_alloc ?_ _)); exact B164.out) hb)
          have n4_ := am (below_step (by repeat (first | (with_reducible first | exact HB.out | apply below_alloc | apply pw_below_drewN | apply below_drew1 | refine below_set ?_ GE149.out | refine below_set ?_ GE150.out | refine below_set ?_ GE158.out | refine below_set ?_ GE164.out) | exact HB.out)) hb)
          clear B149
          clear B150
          clear B158
          clear B164
          clear HB
          have B149 := n0_
          have B150 := n1_
          have B158 := n2_
          have B164 := n3_
          have HB := n4_
          clear n0_ n1_ n2_ n3_ n4_
          (try clear hb)
          (try clear hb2)
          (try clear hk)
          (try clear hi)
          refine hK.out _ _ ⟨(blk_cell B158.out 0).trans rfl, (blk_cell B158.out 1).trans rfl, (blk_cell B158.out 2).trans rfl, (blk_cell B158.out 3).trans rfl, (blk_cell B158.out 4).trans rfl, (blk_cell B149.out 0).trans rfl, (blk_cell B149.out 1).trans rfl, (blk_cell B149.out 2).trans rfl, (blk_cell B149.out 3).trans rfl⟩ (fun h_ => ?_)
          clear hK K
          refine norm_ (a' := ?_) ?_ ?_
          rotate_left
          ·
           show Act.put _ (some 65) _ = _
           simp only [Act.put, sa, sb, sc, i64_w, i32_w]
           rfl
          refine pu (i := 5) (N := some 66) (v := ?_) (a' := ?_) (lb 26 63) rfl rfl (ao T_.out (by kernel_rfl)) (λ _ _ _ h => h) (.inl ⟨by rfl, ?_⟩) ?_ ?_; rotate_left; (focus intro w'; go_simp; with_reducible rfl); rotate_left; (focus simp only [Act.put, sa, sb, sc, i64_w, i32_w]; rfl)
          refine pu (i := 6) (N := some 67) (v := ?_) (a' := ?_) (lb 26 127) rfl rfl (ao T_.out (by kernel_rfl)) (λ _ _ _ h => h) (.inl ⟨by rfl, ?_⟩) ?_ ?_; rotate_left; (focus intro w'; go_simp; with_reducible rfl); rotate_left; (focus simp only [Act.put, sa, sb, sc, i64_w, i32_w]; rfl)
          refine take_ (i := 7) (N := some 68) (v := ?_) (a' := ?_) (lb 26 255) rfl rfl (take_ofW T_.out W_.out (by kernel_rfl)) (λ _ _ _ h => h) (.inl ⟨by rfl, ?_⟩) h_ ?_ ?_; rotate_left; (focus rintro w' ⟨s0, s1, s2, s3, s4, s5, s6, s7, s8⟩; go_simp; with_reducible rfl); rotate_left; (focus simp only [Act.put, sa, sb, sc, i64_w, i32_w]; rfl)
          refine pu (i := 8) (N := some 69) (v := ?_) (a' := ?_) (lb 26 511) rfl rfl (ao T_.out (by kernel_rfl)) (λ _ _ _ h => h) (.inl ⟨by rfl, ?_⟩) ?_ ?_; rotate_left; (focus intro w'; go_simp; with_reducible rfl); rotate_left; (focus simp only [Act.put, sa, sb, sc, i64_w, i32_w]; rfl)
          refine pu (i := 9) (N := some 70) (v := ?_) (a' := ?_) (lb 26 1023) rfl rfl (ao T_.out (by kernel_rfl)) (λ _ _ _ h => h) (.inl ⟨by rfl, ?_⟩) ?_ ?_; rotate_left; (focus intro w'; go_simp; with_reducible rfl); rotate_left; (focus simp only [Act.put, sa, sb, sc, i64_w, i32_w]; rfl)
          refine pu (i := 10) (N := some 71) (v := ?_) (a' := ?_) (lb 26 2047) rfl rfl (ao T_.out (by kernel_rfl)) (λ _ _ _ h => h) (.inl ⟨by rfl, ?_⟩) ?_ ?_; rotate_left; (focus intro w'; go_simp; with_reducible rfl); rotate_left; (focus simp only [Act.put, sa, sb, sc, i64_w, i32_w]; rfl)
          refine pu (i := 11) (N := some 72) (v := undef) (a' := ?_) (lb 26 4095) rfl rfl (ao T_.out (by kernel_rfl)) (λ _ _ _ h => h) (Or.inr ⟨by rfl, rfl⟩) ?_ ?_
          rotate_left
          ·
           simp only [Act.put, sa, sb, sc, i64_w, i32_w]
           rfl
          refine pu (i := 12) (N := some 73) (v := undef) (a' := ?_) (lb 26 8191) rfl rfl (ao T_.out (by kernel_rfl)) (λ _ _ _ h => h) (Or.inr ⟨by rfl, rfl⟩) ?_ ?_
          rotate_left
          ·
           simp only [Act.put, sa, sb, sc, i64_w, i32_w]
           rfl
          refine pu (i := 13) (N := some 74) (v := undef) (a' := ?_) (lb 26 16383) rfl rfl (ao T_.out (by kernel_rfl)) (λ _ _ _ h => h) (Or.inr ⟨by rfl, rfl⟩) ?_ ?_
          rotate_left
          ·
           simp only [Act.put, sa, sb, sc, i64_w, i32_w]
           rfl
          refine pu (i := 14) (N := some 75) (v := ?_) (a' := ?_) (lb 26 32767) rfl rfl (ao T_.out (by kernel_rfl)) (λ _ _ _ h => h) (.inl ⟨by rfl, ?_⟩) ?_ ?_; rotate_left; (focus intro w'; go_simp; with_reducible rfl); rotate_left; (focus simp only [Act.put, sa, sb, sc, i64_w, i32_w]; rfl)
          refine pu (i := 15) (N := some 76) (v := ?_) (a' := ?_) (lb 26 65535) rfl rfl (ao T_.out (by kernel_rfl)) (λ _ _ _ h => h) (.inl ⟨by rfl, ?_⟩) ?_ ?_; rotate_left; (focus intro w'; go_simp; with_reducible rfl); rotate_left; (focus simp only [Act.put, sa, sb, sc, i64_w, i32_w]; rfl)
          refine pu (i := 16) (N := some 77) (v := undef) (a' := ?_) (lb 26 131071) rfl rfl (ao T_.out (by kernel_rfl)) (λ _ _ _ h => h) (Or.inr ⟨by rfl, rfl⟩) ?_ ?_
          rotate_left
          ·
           simp only [Act.put, sa, sb, sc, i64_w, i32_w]
           rfl
          refine pu (i := 17) (N := some 78) (v := undef) (a' := ?_) (lb 26 262143) rfl rfl (ao T_.out (by kernel_rfl)) (λ _ _ _ h => h) (Or.inr ⟨by rfl, rfl⟩) ?_ ?_
          rotate_left
          ·
           simp only [Act.put, sa, sb, sc, i64_w, i32_w]
           rfl
          refine pu (i := 18) (N := some 79) (v := undef) (a' := ?_) (lb 26 524287) rfl rfl (ao T_.out (by kernel_rfl)) (λ _ _ _ h => h) (Or.inr ⟨by rfl, rfl⟩) ?_ ?_
          rotate_left
          ·
           simp only [Act.put, sa, sb, sc, i64_w, i32_w]
           rfl
          refine pu (i := 19) (N := some 80) (v := ?_) (a' := ?_) (lb 26 1048575) rfl rfl (ao T_.out (by kernel_rfl)) (λ _ _ _ h => h) (.inl ⟨by rfl, ?_⟩) ?_ ?_; rotate_left; (focus intro w'; go_simp; with_reducible rfl); rotate_left; (focus simp only [Act.put, sa, sb, sc, i64_w, i32_w]; rfl)
          refine pu (i := 20) (N := some 81) (v := ?_) (a' := ?_) (lb 26 2097151) rfl rfl (ao T_.out (by kernel_rfl)) (λ _ _ _ h => h) (.inl ⟨by rfl, ?_⟩) ?_ ?_; rotate_left; (focus intro w'; go_simp; with_reducible rfl); rotate_left; (focus simp only [Act.put, sa, sb, sc, i64_w, i32_w]; rfl)
          refine pu (i := 21) (N := some 82) (v := undef) (a' := ?_) (lb 26 4194303) rfl rfl (ao T_.out (by kernel_rfl)) (λ _ _ _ h => h) (Or.inr ⟨by rfl, rfl⟩) ?_ ?_
          rotate_left
          ·
           simp only [Act.put, sa, sb, sc, i64_w, i32_w]
           rfl
          refine pu (i := 22) (N := some 83) (v := undef) (a' := ?_) (lb 26 8388607) rfl rfl (ao T_.out (by kernel_rfl)) (λ _ _ _ h => h) (Or.inr ⟨by rfl, rfl⟩) ?_ ?_
          rotate_left
          ·
           simp only [Act.put, sa, sb, sc, i64_w, i32_w]
           rfl
          refine pu (i := 23) (N := some 84) (v := undef) (a' := ?_) (lb 26 16777215) rfl rfl (ao T_.out (by kernel_rfl)) (λ _ _ _ h => h) (Or.inr ⟨by rfl, rfl⟩) ?_ ?_
          rotate_left
          ·
           simp only [Act.put, sa, sb, sc, i64_w, i32_w]
           rfl
          refine pu (i := 24) (N := some 85) (v := ?_) (a' := ?_) (lb 26 33554431) rfl rfl (ao T_.out (by kernel_rfl)) (λ _ _ _ h => h) (.inl ⟨by rfl, ?_⟩) ?_ ?_; rotate_left; (focus intro w'; go_simp; with_reducible rfl); rotate_left; (focus simp only [Act.put, sa, sb, sc, i64_w, i32_w]; rfl)
          refine pu (i := 25) (N := some 86) (v := ?_) (a' := ?_) (lb 26 67108863) rfl rfl (ao T_.out (by kernel_rfl)) (λ _ _ _ h => h) (.inl ⟨by rfl, ?_⟩) ?_ ?_; rotate_left; (focus intro w'; go_simp; with_reducible rfl); rotate_left; (focus simp only [Act.put, sa, sb, sc, i64_w, i32_w]; rfl)
          refine done_ (done_of T_.out (by kernel_rfl)) ?_
          try go_wp2
          go_meet
          case rel => exact ⟨_, ((t166 != false)), (by first | rfl | (simp; done) | (simp [*]; done)), H', ⟨by have := HJ2.out; have := HJ21.out; first | omega | exact Nat.le_refl _⟩, ⟨by (with_reducible repeat (first | refine blk_drewN ?_ _ | refine blk_drew ?_ | refine blk_alloc ?_ _)); exact B149.out⟩, ⟨by (with_reducible repeat (first | refine blk_drewN ?_ _ | refine blk_drew ?_ | refine blk_alloc ?_ _)); exact B150.out⟩, ⟨by (with_reducible repeat (first | refine blk_drewN ?_ _ | refine blk_drew ?_ | refine blk_alloc ?_ _)); exact B158.out⟩, ⟨by (with_reducible repeat (first | refine blk_drewN ?_ _ | refine blk_drew ?_ | refine blk_alloc ?_ _)); exact B164.out⟩, ⟨by repeat (first | (with_reducible first | exact HB.out | apply below_alloc | apply pw_below_drewN | apply below_drew1 | refine below_set ?_ GE149.out | refine below_set ?_ GE150.out | refine below_set ?_ GE158.out | refine below_set ?_ GE164.out) | exact HB.out)⟩⟩
        ·
         replace c57 := Bool.eq_false_iff.mpr c57
         subst c57
         have H1 : (j2 kj21 (t166 != false) a0_0 a0_1 a0_2 a0_3 a1_0 a1_1 a1_2 a1_3 t153 t154 t155 t156 t157 t159 t160 t161 t162 t163) = some r := by rw [if_neg (show ¬ (false = true) by decide)] at H; exact H
         clear H
         have H := H1
         clear H1
         have H' := am H
         clear H
         try go_wp2
         have n0_ := am (blk_drew B149.out)
         have n1_ := am (blk_drew B150.out)
         have n2_ := am (blk_drew B158.out)
         have n3_ := am (blk_drew B164.out)
         have n4_ := am (below_drew1 HB.out)
         clear B149
         clear B150
         clear B158
         clear B164
         clear HB
         have B149 := n0_
         have B150 := n1_
         have B158 := n2_
         have B164 := n3_
         have HB := n4_
         clear n0_ n1_ n2_ n3_ n4_
         refine start_ (n := 26) (S := fun w' => w'.cell? ⟨g158, 0, none⟩ = some (.string t153) ∧ w'.cell? ⟨g158, 1, none⟩ = some (.int .i64 t154) ∧ w'.cell? ⟨g158, 2, none⟩ = some (.int .i64 t155) ∧ w'.cell? ⟨g158, 3, none⟩ = some (.int .i64 t156) ∧ w'.cell? ⟨g158, 4, none⟩ = some (.string t157) ∧ w'.cell? ⟨g149, 0, none⟩ = some (.string a0_0) ∧ w'.cell? ⟨g149, 1, none⟩ = some (.int .i64 a0_1) ∧ w'.cell? ⟨g149, 2, none⟩ = some (.int .i64 a0_2) ∧ w'.cell? ⟨g149, 3, none⟩ = some (.string a0_3)) (ds := []) #[false, false, false, false, false, false, false, false, false, false, false, false, false, false, false, false, false, false, false, false, false, false, false, false, false, false] (by kernel_rfl) rfl rfl ⟨(blk_cell B158.out 0).trans rfl, (blk_cell B158.out 1).trans rfl, (blk_cell B158.out 2).trans rfl, (blk_cell B158.out 3).trans rfl, (blk_cell B158.out 4).trans rfl, (blk_cell B149.out 0).trans rfl, (blk_cell B149.out 1).trans rfl, (blk_cell B149.out 2).trans rfl, (blk_cell B149.out 3).trans rfl⟩ (fun h_ => ?_); refine with_tabW hamperlaw19_MetaOf.tab7 hamperlaw19_MetaOf.bits7 (fun T_ W_ => ?_)
         generalize wc.drew = w73 at B149 B150 B158 B164 HB h_ ⊢
         refine pu (i := 2) (N := some 63) (v := ?_) (a' := ?_) (lb 26 4) rfl rfl (ao T_.out (by kernel_rfl)) (λ _ _ _ h => h) (.inl ⟨by rfl, ?_⟩) ?_ ?_; rotate_left; (focus intro w'; go_simp; with_reducible rfl); rotate_left; (focus simp only [Act.put, sa, sb, sc, i64_w, i32_w]; rfl)
         refine take_ (i := 0) (N := some 61) (v := ?_) (a' := ?_) (lb 26 5) rfl rfl (take_ofW T_.out W_.out (by kernel_rfl)) (λ _ _ _ h => h) (.inl ⟨by rfl, ?_⟩) h_ ?_ ?_; rotate_left; (focus rintro w' ⟨s0, s1, s2, s3, s4, s5, s6, s7, s8⟩; go_simp; with_reducible rfl); rotate_left; (focus simp only [Act.put, sa, sb, sc, i64_w, i32_w]; rfl)
         refine take_ (i := 3) (N := some 64) (v := ?_) (a' := ?_) (lb 26 13) rfl rfl (take_ofW T_.out W_.out (by kernel_rfl)) (λ _ _ _ h => h) (.inl ⟨by rfl, ?_⟩) h_ ?_ ?_; rotate_left; (focus rintro w' ⟨s0, s1, s2, s3, s4, s5, s6, s7, s8⟩; go_simp; with_reducible rfl); rotate_left; (focus simp only [Act.put, sa, sb, sc, i64_w, i32_w]; rfl)
         refine one_ (i := 1) (N := some 62) (lb 26 15) rfl rfl (one_of T_.out (by kernel_rfl)) (by decide) (fun K hK => ?_)
         refine goes_ Tryd.func14 (by kernel_rfl) rfl #[.agg #[.string t153, .int .i64 t154, .int .i64 t155, .int .i64 t156, .string t157]] (by rfl) rfl rfl (by (try simp only [List.map_toArray, List.map_cons, List.map_nil]); first | done | rfl | (simp only [List.length_drop, List.length_take]; rfl)) ?_
         with_reducible refine (meta_May.calls (hTabs := HTB.out.below (by repeat (first | (with_reducible first | exact HB.out | apply below_alloc | apply pw_below_drewN | apply below_drew1) | exact HB.out))) t153 t154 t155 t156 t157 t166 _ A55.out).mono ?_
         rintro e w74 ⟨rfl, hb⟩
         refine ⟨_, rfl, ?_⟩
         have n0_ := am (blk_below (g := g149) (o := .cells #[.string a0_0, .int .i64 a0_1, .int .i64 a0_2, .string a0_3] 37 (0, 0)) (by (with_reducible repeat (first | refine blk_drewN ?_ _ | refine blk_drew ?_ | refine blk_alloc ?_ _)); exact B149.out) hb)
         have n1_ := am (blk_below (g := g150) (o := .cells #[.string a1_0, .int .i64 a1_1, .int .i64 a1_2, .string a1_3] 37 (0, 0)) (by (with_reducible repeat (first | refine blk_drewN ?_ _ | refine blk_drew ?_ | refine blk_alloc ?_ _)); exact B150.out) hb)
         have n2_ := am (blk_below (g := g158) (o := .cells #[.string t153, .int .i64 t154, .int .i64 t155, .int .i64 t156, .string t157] 25 (0, 0)) (by (with_reducible repeat (first | refine blk_drewN ?_ _ | refine blk_drew ?_ | refine blk_alloc ?_ _)); exact B158.out) hb)
         have n3_ := am (blk_below (g := g164) (o := .cells #[.string t159, .int .i64 t160, .int .i64 t161, .int .i64 t162, .string t163] 25 (0, 0)) (by (with_reducible repeat (first | refine blk_drewN ?_ _ | refine blk_drew ?_ | refine blk_alloc ?_ _)); exact B164.out) hb)
         have n4_ := am (below_step (by repeat (first | (with_reducible first | exact HB.out | apply below_alloc | apply pw_below_drewN | apply below_drew1 | refine below_set ?_ GE149.out | refine below_set ?_ GE150.out | refine below_set ?_ GE158.out | refine below_set ?_ GE164.out) | exact HB.out)) hb)
         clear B149
         clear B150
         clear B158
         clear B164
         clear HB
         have B149 := n0_
         have B150 := n1_
         have B158 := n2_
         have B164 := n3_
         have HB := n4_
         clear n0_ n1_ n2_ n3_ n4_
         (try clear hb)
         (try clear hb2)
         (try clear hk)
         (try clear hi)
         refine hK.out _ _ ⟨(blk_cell B158.out 0).trans rfl, (blk_cell B158.out 1).trans rfl, (blk_cell B158.out 2).trans rfl, (blk_cell B158.out 3).trans rfl, (blk_cell B158.out 4).trans rfl, (blk_cell B149.out 0).trans rfl, (blk_cell B149.out 1).trans rfl, (blk_cell B149.out 2).trans rfl, (blk_cell B149.out 3).trans rfl⟩ (fun h_ => ?_)
         clear hK K
         refine norm_ (a' := ?_) ?_ ?_
         rotate_left
         ·
          show Act.put _ (some 62) _ = _
          simp only [Act.put, sa, sb, sc, i64_w, i32_w]
          rfl
         refine one_ (i := 4) (N := some 65) (lb 26 31) rfl rfl (one_of T_.out (by kernel_rfl)) (by decide) (fun K hK => ?_)
         refine goes_ Tryd.func11 (by kernel_rfl) rfl #[.string a0_0] (by rfl) rfl rfl (by (try simp only [List.map_toArray, List.map_cons, List.map_nil]); first | done | rfl | (simp only [List.length_drop, List.length_take]; rfl)) ?_
         with_reducible refine (meta_Name.calls (hTabs := HTB.out.below (by repeat (first | (with_reducible first | exact HB.out | apply below_alloc | apply pw_below_drewN | apply below_drew1) | exact HB.out))) a0_0 false _ A56.out).mono ?_
         rintro e w75 ⟨rfl, hb⟩
         refine ⟨_, rfl, ?_⟩
         have n0_ := am (blk_below (g := g149) (o := .cells #[.string a0_0, .int .i64 a0_1, .int .i64 a0_2, .string a0_3] 37 (0, 0)) (by (with_reducible repeat (first | refine blk_drewN ?_ _ | refine blk_drew ?_ | refine blk_alloc ?_ _)); exact B149.out) hb)
         have n1_ := am (blk_below (g := g150) (o := .cells #[.string a1_0, .int .i64 a1_1, .int .i64 a1_2, .string a1_3] 37 (0, 0)) (by (with_reducible repeat (first | refine blk_drewN ?_ _ | refine blk_drew ?_ | refine blk_alloc ?_ _)); exact B150.out) hb)
         have n2_ := am (blk_below (g := g158) (o := .cells #[.string t153, .int .i64 t154, .int .i64 t155, .int .i64 t156, .string t157] 25 (0, 0)) (by (with_reducible repeat (first | refine blk_drewN ?_ _ | refine blk_drew ?_ | refine blk_alloc ?_ _)); exact B158.out) hb)
         have n3_ := am (blk_below (g := g164) (o := .cells #[.string t159, .int .i64 t160, .int .i64 t161, .int .i64 t162, .string t163] 25 (0, 0)) (by (with_reducible repeat (first | refine blk_drewN ?_ _ | refine blk_drew ?_ | refine blk_alloc ?_ _)); exact B164.out) hb)
         have n4_ := am (below_step (by repeat (first | (with_reducible first | exact HB.out | apply below_alloc | apply pw_below_drewN | apply below_drew1 | refine below_set ?_ GE149.out | refine below_set ?_ GE150.out | refine below_set ?_ GE158.out | refine below_set ?_ GE164.out) | exact HB.out)) hb)
         clear B149
         clear B150
         clear B158
         clear B164
         clear HB
         have B149 := n0_
         have B150 := n1_
         have B158 := n2_
         have B164 := n3_
         have HB := n4_
         clear n0_ n1_ n2_ n3_ n4_
         (try clear hb)
         (try clear hb2)
         (try clear hk)
         (try clear hi)
         refine hK.out _ _ ⟨(blk_cell B158.out 0).trans rfl, (blk_cell B158.out 1).trans rfl, (blk_cell B158.out 2).trans rfl, (blk_cell B158.out 3).trans rfl, (blk_cell B158.out 4).trans rfl, (blk_cell B149.out 0).trans rfl, (blk_cell B149.out 1).trans rfl, (blk_cell B149.out 2).trans rfl, (blk_cell B149.out 3).trans rfl⟩ (fun h_ => ?_)
         clear hK K
         refine norm_ (a' := ?_) ?_ ?_
         rotate_left
         ·
          show Act.put _ (some 65) _ = _
          simp only [Act.put, sa, sb, sc, i64_w, i32_w]
          rfl
         refine pu (i := 5) (N := some 66) (v := ?_) (a' := ?_) (lb 26 63) rfl rfl (ao T_.out (by kernel_rfl)) (λ _ _ _ h => h) (.inl ⟨by rfl, ?_⟩) ?_ ?_; rotate_left; (focus intro w'; go_simp; with_reducible rfl); rotate_left; (focus simp only [Act.put, sa, sb, sc, i64_w, i32_w]; rfl)
         refine pu (i := 6) (N := some 67) (v := undef) (a' := ?_) (lb 26 127) rfl rfl (ao T_.out (by kernel_rfl)) (λ _ _ _ h => h) (Or.inr ⟨by rfl, rfl⟩) ?_ ?_
         rotate_left
         ·
          simp only [Act.put, sa, sb, sc, i64_w, i32_w]
          rfl
         refine pu (i := 7) (N := some 68) (v := undef) (a' := ?_) (lb 26 255) rfl rfl (ao T_.out (by kernel_rfl)) (λ _ _ _ h => h) (Or.inr ⟨by rfl, rfl⟩) ?_ ?_
         rotate_left
         ·
          simp only [Act.put, sa, sb, sc, i64_w, i32_w]
          rfl
         refine pu (i := 8) (N := some 69) (v := undef) (a' := ?_) (lb 26 511) rfl rfl (ao T_.out (by kernel_rfl)) (λ _ _ _ h => h) (Or.inr ⟨by rfl, rfl⟩) ?_ ?_
         rotate_left
         ·
          simp only [Act.put, sa, sb, sc, i64_w, i32_w]
          rfl
         refine pu (i := 9) (N := some 70) (v := ?_) (a' := ?_) (lb 26 1023) rfl rfl (ao T_.out (by kernel_rfl)) (λ _ _ _ h => h) (.inl ⟨by rfl, ?_⟩) ?_ ?_; rotate_left; (focus intro w'; go_simp; with_reducible rfl); rotate_left; (focus simp only [Act.put, sa, sb, sc, i64_w, i32_w]; rfl)
         refine pu (i := 10) (N := some 71) (v := ?_) (a' := ?_) (lb 26 2047) rfl rfl (ao T_.out (by kernel_rfl)) (λ _ _ _ h => h) (.inl ⟨by rfl, ?_⟩) ?_ ?_; rotate_left; (focus intro w'; go_simp; with_reducible rfl); rotate_left; (focus simp only [Act.put, sa, sb, sc, i64_w, i32_w]; rfl)
         refine pu (i := 11) (N := some 72) (v := undef) (a' := ?_) (lb 26 4095) rfl rfl (ao T_.out (by kernel_rfl)) (λ _ _ _ h => h) (Or.inr ⟨by rfl, rfl⟩) ?_ ?_
         rotate_left
         ·
          simp only [Act.put, sa, sb, sc, i64_w, i32_w]
          rfl
         refine pu (i := 12) (N := some 73) (v := undef) (a' := ?_) (lb 26 8191) rfl rfl (ao T_.out (by kernel_rfl)) (λ _ _ _ h => h) (Or.inr ⟨by rfl, rfl⟩) ?_ ?_
         rotate_left
         ·
          simp only [Act.put, sa, sb, sc, i64_w, i32_w]
          rfl
         refine pu (i := 13) (N := some 74) (v := undef) (a' := ?_) (lb 26 16383) rfl rfl (ao T_.out (by kernel_rfl)) (λ _ _ _ h => h) (Or.inr ⟨by rfl, rfl⟩) ?_ ?_
         rotate_left
         ·
          simp only [Act.put, sa, sb, sc, i64_w, i32_w]
          rfl
         refine pu (i := 14) (N := some 75) (v := ?_) (a' := ?_) (lb 26 32767) rfl rfl (ao T_.out (by kernel_rfl)) (λ _ _ _ h => h) (.inl ⟨by rfl, ?_⟩) ?_ ?_; rotate_left; (focus intro w'; go_simp; with_reducible rfl); rotate_left; (focus simp only [Act.put, sa, sb, sc, i64_w, i32_w]; rfl)
         refine pu (i := 15) (N := some 76) (v := ?_) (a' := ?_) (lb 26 65535) rfl rfl (ao T_.out (by kernel_rfl)) (λ _ _ _ h => h) (.inl ⟨by rfl, ?_⟩) ?_ ?_; rotate_left; (focus intro w'; go_simp; with_reducible rfl); rotate_left; (focus simp only [Act.put, sa, sb, sc, i64_w, i32_w]; rfl)
         refine pu (i := 16) (N := some 77) (v := undef) (a' := ?_) (lb 26 131071) rfl rfl (ao T_.out (by kernel_rfl)) (λ _ _ _ h => h) (Or.inr ⟨by rfl, rfl⟩) ?_ ?_
         rotate_left
         ·
          simp only [Act.put, sa, sb, sc, i64_w, i32_w]
          rfl
         refine pu (i := 17) (N := some 78) (v := undef) (a' := ?_) (lb 26 262143) rfl rfl (ao T_.out (by kernel_rfl)) (λ _ _ _ h => h) (Or.inr ⟨by rfl, rfl⟩) ?_ ?_
         rotate_left
         ·
          simp only [Act.put, sa, sb, sc, i64_w, i32_w]
          rfl
         refine pu (i := 18) (N := some 79) (v := undef) (a' := ?_) (lb 26 524287) rfl rfl (ao T_.out (by kernel_rfl)) (λ _ _ _ h => h) (Or.inr ⟨by rfl, rfl⟩) ?_ ?_
         rotate_left
         ·
          simp only [Act.put, sa, sb, sc, i64_w, i32_w]
          rfl
         refine pu (i := 19) (N := some 80) (v := ?_) (a' := ?_) (lb 26 1048575) rfl rfl (ao T_.out (by kernel_rfl)) (λ _ _ _ h => h) (.inl ⟨by rfl, ?_⟩) ?_ ?_; rotate_left; (focus intro w'; go_simp; with_reducible rfl); rotate_left; (focus simp only [Act.put, sa, sb, sc, i64_w, i32_w]; rfl)
         refine pu (i := 20) (N := some 81) (v := ?_) (a' := ?_) (lb 26 2097151) rfl rfl (ao T_.out (by kernel_rfl)) (λ _ _ _ h => h) (.inl ⟨by rfl, ?_⟩) ?_ ?_; rotate_left; (focus intro w'; go_simp; with_reducible rfl); rotate_left; (focus simp only [Act.put, sa, sb, sc, i64_w, i32_w]; rfl)
         refine pu (i := 21) (N := some 82) (v := undef) (a' := ?_) (lb 26 4194303) rfl rfl (ao T_.out (by kernel_rfl)) (λ _ _ _ h => h) (Or.inr ⟨by rfl, rfl⟩) ?_ ?_
         rotate_left
         ·
          simp only [Act.put, sa, sb, sc, i64_w, i32_w]
          rfl
         refine pu (i := 22) (N := some 83) (v := undef) (a' := ?_) (lb 26 8388607) rfl rfl (ao T_.out (by kernel_rfl)) (λ _ _ _ h => h) (Or.inr ⟨by rfl, rfl⟩) ?_ ?_
         rotate_left
         ·
          simp only [Act.put, sa, sb, sc, i64_w, i32_w]
          rfl
         refine pu (i := 23) (N := some 84) (v := undef) (a' := ?_) (lb 26 16777215) rfl rfl (ao T_.out (by kernel_rfl)) (λ _ _ _ h => h) (Or.inr ⟨by rfl, rfl⟩) ?_ ?_
         rotate_left
         ·
          simp only [Act.put, sa, sb, sc, i64_w, i32_w]
          rfl
         refine pu (i := 24) (N := some 85) (v := ?_) (a' := ?_) (lb 26 33554431) rfl rfl (ao T_.out (by kernel_rfl)) (λ _ _ _ h => h) (.inl ⟨by rfl, ?_⟩) ?_ ?_; rotate_left; (focus intro w'; go_simp; with_reducible rfl); rotate_left; (focus simp only [Act.put, sa, sb, sc, i64_w, i32_w]; rfl)
         refine pu (i := 25) (N := some 86) (v := ?_) (a' := ?_) (lb 26 67108863) rfl rfl (ao T_.out (by kernel_rfl)) (λ _ _ _ h => h) (.inl ⟨by rfl, ?_⟩) ?_ ?_; rotate_left; (focus intro w'; go_simp; with_reducible rfl); rotate_left; (focus simp only [Act.put, sa, sb, sc, i64_w, i32_w]; rfl)
         refine done_ (done_of T_.out (by kernel_rfl)) ?_
         try go_wp2
         go_meet
         case rel => exact ⟨_, ((t166 != false)), (by first | rfl | (simp; done) | (simp [*]; done)), H', ⟨by have := HJ2.out; have := HJ21.out; first | omega | exact Nat.le_refl _⟩, ⟨by (with_reducible repeat (first | refine blk_drewN ?_ _ | refine blk_drew ?_ | refine blk_alloc ?_ _)); exact B149.out⟩, ⟨by (with_reducible repeat (first | refine blk_drewN ?_ _ | refine blk_drew ?_ | refine blk_alloc ?_ _)); exact B150.out⟩, ⟨by (with_reducible repeat (first | refine blk_drewN ?_ _ | refine blk_drew ?_ | refine blk_alloc ?_ _)); exact B158.out⟩, ⟨by (with_reducible repeat (first | refine blk_drewN ?_ _ | refine blk_drew ?_ | refine blk_alloc ?_ _)); exact B164.out⟩, ⟨by repeat (first | (with_reducible first | exact HB.out | apply below_alloc | apply pw_below_drewN | apply below_drew1 | refine below_set ?_ GE149.out | refine below_set ?_ GE150.out | refine below_set ?_ GE158.out | refine below_set ?_ GE164.out) | exact HB.out)⟩⟩
       case rest =>
        clear HC54
        try clear c1
        try clear p2
        try clear c5
        try clear c11
        try clear c14
        try clear c57
        try clear c58
        try clear c58b0
        obtain ⟨kq, x86_53, rfl, HA, HJ53, B149, B150, B158, B164, HB⟩ := hcut
        cases kq with
        | zero => exact absurd HA.out (by simp [j2])
        | succ kj53 =>
         have H := HA.out
         clear HA
         simp only [j2] at H
         by_cases c76 : x86_53 = true
         ·
          subst c76
          have H1 : (some false) = some r := by rw [if_pos rfl] at H; exact H
          clear H
          have H := H1
          clear H1
          obtain rfl := Option.some.inj H
          go_wp2
          go_ret
          exact ⟨by first | rfl | (simp [errW_none, errW_some] <;> rfl) | (simp [*, errW_none, errW_some] <;> rfl), by repeat (first | (with_reducible first | exact HB.out | apply below_alloc | apply pw_below_drewN | apply below_drew1 | refine below_set ?_ GE149.out | refine below_set ?_ GE150.out | refine below_set ?_ GE158.out | refine below_set ?_ GE164.out) | exact HB.out)⟩
         ·
          replace c76 := Bool.eq_false_iff.mpr c76
          subst c76
          have H1 : (if (!(t153.toList == t159.toList) || (!(t154 == t160) || (!(t155 == t161) || (!(t156 == t162) || (!(t157.toList == t163.toList)))))) = true then (some (!(a0_0.toList == a1_0.toList) || (!(a0_1 == a1_1) || (!(a0_2 == a1_2) || (!(a0_3.toList == a1_3.toList)))))) else (if (a0_0.toList == a1_0.toList && (a0_1 == a1_1 && (a0_2 == a1_2 && (a0_3.toList == a1_3.toList)))) = true then (some true) else (if a0_3.toList = a1_3.toList then (some false) else (if (a0_3.size : Int) = (a1_3.size : Int) then ((blake_Sum.f a0_3).bind fun t168 => ((blake_Sum.f a1_3).bind fun t169 => (some (t168.toList == t169.toList)))) else (some false))))) = some r := by rw [if_neg (show ¬ (false = true) by decide)] at H; exact H
          clear H
          have H := H1
          clear H1
          by_cases c77 : (!(t153.toList == t159.toList) || (!(t154 == t160) || (!(t155 == t161) || (!(t156 == t162) || (!(t157.toList == t163.toList)))))) = true
          ·
           rw [if_pos c77] at H
           have c77b0 : (!(t153.toList == t159.toList) || (!(t154 == t160) || (!(t155 == t161) || (!(t156 == t162) || (!(t157.toList == t163.toList)))))) = true := c77
           clear c77
           obtain rfl := Option.some.inj H
           have hnb78 := NB158_149.out
           have hnc78 := NB149_158.out
           have hnb79 := NB158_150.out
           have hnc79 := NB150_158.out
           have hnb80 := NB158_164.out
           have hnc80 := NB164_158.out
           have hcz81_0 : wc.cell? ⟨g158, 0, none⟩ = some (.string t153) := (blk_cell B158.out 0).trans rfl
           have hcz81_1 : wc.cell? ⟨g158, 1, none⟩ = some (.int .i64 t154) := (blk_cell B158.out 1).trans rfl
           have hcz81_2 : wc.cell? ⟨g158, 2, none⟩ = some (.int .i64 t155) := (blk_cell B158.out 2).trans rfl
           have hcz81_3 : wc.cell? ⟨g158, 3, none⟩ = some (.int .i64 t156) := (blk_cell B158.out 3).trans rfl
           have hcz81_4 : wc.cell? ⟨g158, 4, none⟩ = some (.string t157) := (blk_cell B158.out 4).trans rfl
           have hfz81_0 := blk_frozen B158.out 0
           have hfz81_1 := blk_frozen B158.out 1
           have hfz81_2 := blk_frozen B158.out 2
           have hfz81_3 := blk_frozen B158.out 3
           have hfz81_4 := blk_frozen B158.out 4
           have hnb82 := NB164_149.out
           have hnc82 := NB149_164.out
           have hnb83 := NB164_150.out
           have hnc83 := NB150_164.out
           have hcz84_0 : wc.cell? ⟨g164, 0, none⟩ = some (.string t159) := (blk_cell B164.out 0).trans rfl
           have hcz84_1 : wc.cell? ⟨g164, 1, none⟩ = some (.int .i64 t160) := (blk_cell B164.out 1).trans rfl
           have hcz84_2 : wc.cell? ⟨g164, 2, none⟩ = some (.int .i64 t161) := (blk_cell B164.out 2).trans rfl
           have hcz84_3 : wc.cell? ⟨g164, 3, none⟩ = some (.int .i64 t162) := (blk_cell B164.out 3).trans rfl
           have hcz84_4 : wc.cell? ⟨g164, 4, none⟩ = some (.string t163) := (blk_cell B164.out 4).trans rfl
           have hfz84_0 := blk_frozen B164.out 0
           have hfz84_1 := blk_frozen B164.out 1
           have hfz84_2 := blk_frozen B164.out 2
           have hfz84_3 := blk_frozen B164.out 3
           have hfz84_4 := blk_frozen B164.out 4
           have hnb85 := NB149_150.out
           have hnc85 := NB150_149.out
           have hcz86_0 : wc.cell? ⟨g149, 0, none⟩ = some (.string a0_0) := (blk_cell B149.out 0).trans rfl
           have hcz86_1 : wc.cell? ⟨g149, 1, none⟩ = some (.int .i64 a0_1) := (blk_cell B149.out 1).trans rfl
           have hcz86_2 : wc.cell? ⟨g149, 2, none⟩ = some (.int .i64 a0_2) := (blk_cell B149.out 2).trans rfl
           have hcz86_3 : wc.cell? ⟨g149, 3, none⟩ = some (.string a0_3) := (blk_cell B149.out 3).trans rfl
           have hfz86_0 := blk_frozen B149.out 0
           have hfz86_1 := blk_frozen B149.out 1
           have hfz86_2 := blk_frozen B149.out 2
           have hfz86_3 := blk_frozen B149.out 3
           have hcz87_0 : wc.cell? ⟨g150, 0, none⟩ = some (.string a1_0) := (blk_cell B150.out 0).trans rfl
           have hcz87_1 : wc.cell? ⟨g150, 1, none⟩ = some (.int .i64 a1_1) := (blk_cell B150.out 1).trans rfl
           have hcz87_2 : wc.cell? ⟨g150, 2, none⟩ = some (.int .i64 a1_2) := (blk_cell B150.out 2).trans rfl
           have hcz87_3 : wc.cell? ⟨g150, 3, none⟩ = some (.string a1_3) := (blk_cell B150.out 3).trans rfl
           have hfz87_0 := blk_frozen B150.out 0
           have hfz87_1 := blk_frozen B150.out 1
           have hfz87_2 := blk_frozen B150.out 2
           have hfz87_3 := blk_frozen B150.out 3
           go_wp2
           go_ret
           exact ⟨by first | rfl | (simp [errW_none, errW_some] <;> rfl) | (simp [*, errW_none, errW_some] <;> rfl), by repeat (first | (with_reducible first | exact HB.out | apply below_alloc | apply pw_below_drewN | apply below_drew1 | refine below_set ?_ GE149.out | refine below_set ?_ GE150.out | refine below_set ?_ GE158.out | refine below_set ?_ GE164.out) | exact HB.out)⟩
          ·
           rw [if_neg c77] at H
           have c77b0 : (!(t153.toList == t159.toList) || (!(t154 == t160) || (!(t155 == t161) || (!(t156 == t162) || (!(t157.toList == t163.toList)))))) = false := by simpa using c77
           clear c77
           by_cases c88 : (a0_0.toList == a1_0.toList && (a0_1 == a1_1 && (a0_2 == a1_2 && (a0_3.toList == a1_3.toList)))) = true
           ·
            rw [if_pos c88] at H
            have c88b0 : (a0_0.toList == a1_0.toList && (a0_1 == a1_1 && (a0_2 == a1_2 && (a0_3.toList == a1_3.toList)))) = true := c88
            (try (have c88b1 : decide (a0_0.toList = a1_0.toList && (a0_1 == a1_1 && (a0_2 == a1_2 && (a0_3.toList == a1_3.toList)))) = true := by simpa using c88))
            (try (have c88b2 : (a0_0.toList == a1_0.toList && (a0_1 == a1_1 && (a0_2 == a1_2 && (a0_3.toList == a1_3.toList)))) = true := by simpa using c88))
            clear c88
            obtain rfl := Option.some.inj H
            have hnb89 := NB158_149.out
            have hnc89 := NB149_158.out
            have hnb90 := NB158_150.out
            have hnc90 := NB150_158.out
            have hnb91 := NB158_164.out
            have hnc91 := NB164_158.out
            have hcz92_0 : wc.cell? ⟨g158, 0, none⟩ = some (.string t153) := (blk_cell B158.out 0).trans rfl
            have hcz92_1 : wc.cell? ⟨g158, 1, none⟩ = some (.int .i64 t154) := (blk_cell B158.out 1).trans rfl
            have hcz92_2 : wc.cell? ⟨g158, 2, none⟩ = some (.int .i64 t155) := (blk_cell B158.out 2).trans rfl
            have hcz92_3 : wc.cell? ⟨g158, 3, none⟩ = some (.int .i64 t156) := (blk_cell B158.out 3).trans rfl
            have hcz92_4 : wc.cell? ⟨g158, 4, none⟩ = some (.string t157) := (blk_cell B158.out 4).trans rfl
            have hfz92_0 := blk_frozen B158.out 0
            have hfz92_1 := blk_frozen B158.out 1
            have hfz92_2 := blk_frozen B158.out 2
            have hfz92_3 := blk_frozen B158.out 3
            have hfz92_4 := blk_frozen B158.out 4
            have hnb93 := NB164_149.out
            have hnc93 := NB149_164.out
            have hnb94 := NB164_150.out
            have hnc94 := NB150_164.out
            have hcz95_0 : wc.cell? ⟨g164, 0, none⟩ = some (.string t159) := (blk_cell B164.out 0).trans rfl
            have hcz95_1 : wc.cell? ⟨g164, 1, none⟩ = some (.int .i64 t160) := (blk_cell B164.out 1).trans rfl
            have hcz95_2 : wc.cell? ⟨g164, 2, none⟩ = some (.int .i64 t161) := (blk_cell B164.out 2).trans rfl
            have hcz95_3 : wc.cell? ⟨g164, 3, none⟩ = some (.int .i64 t162) := (blk_cell B164.out 3).trans rfl
            have hcz95_4 : wc.cell? ⟨g164, 4, none⟩ = some (.string t163) := (blk_cell B164.out 4).trans rfl
            have hfz95_0 := blk_frozen B164.out 0
            have hfz95_1 := blk_frozen B164.out 1
            have hfz95_2 := blk_frozen B164.out 2
            have hfz95_3 := blk_frozen B164.out 3
            have hfz95_4 := blk_frozen B164.out 4
            try go_wp2
            have n0_ := am (blk_drew B149.out)
            have n1_ := am (blk_drew B150.out)
            have n2_ := am (blk_drew B158.out)
            have n3_ := am (blk_drew B164.out)
            have n4_ := am (below_drew1 HB.out)
            clear B149
            clear B150
            clear B158
            clear B164
            clear HB
            have B149 := n0_
            have B150 := n1_
            have B158 := n2_
            have B164 := n3_
            have HB := n4_
            clear n0_ n1_ n2_ n3_ n4_
            refine start_ (n := 29) (S := fun w' => w'.cell? ⟨g149, 0, none⟩ = some (.string a0_0) ∧ w'.cell? ⟨g149, 1, none⟩ = some (.int .i64 a0_1) ∧ w'.cell? ⟨g149, 2, none⟩ = some (.int .i64 a0_2) ∧ w'.cell? ⟨g149, 3, none⟩ = some (.string a0_3) ∧ w'.cell? ⟨g150, 0, none⟩ = some (.string a1_0) ∧ w'.cell? ⟨g150, 1, none⟩ = some (.int .i64 a1_1) ∧ w'.cell? ⟨g150, 2, none⟩ = some (.int .i64 a1_2) ∧ w'.cell? ⟨g150, 3, none⟩ = some (.string a1_3)) (ds := []) #[false, false, false, false, false, false, false, false, false, false, false, false, false, false, false, false, false, false, false, false, false, false, false, false, false, false, false, false, false] (by kernel_rfl) rfl rfl ⟨(blk_cell B149.out 0).trans rfl, (blk_cell B149.out 1).trans rfl, (blk_cell B149.out 2).trans rfl, (blk_cell B149.out 3).trans rfl, (blk_cell B150.out 0).trans rfl, (blk_cell B150.out 1).trans rfl, (blk_cell B150.out 2).trans rfl, (blk_cell B150.out 3).trans rfl⟩ (fun h_ => ?_); refine with_tabW hamperlaw19_MetaOf.tab11 hamperlaw19_MetaOf.bits11 (fun T_ W_ => ?_)
            generalize wc.drew = w96 at B149 B150 B158 B164 HB h_ ⊢
            refine take_ (i := 0) (N := some 93) (v := ?_) (a' := ?_) (lb 29 1) rfl rfl (take_ofW T_.out W_.out (by kernel_rfl)) (λ _ _ _ h => h) (.inl ⟨by rfl, ?_⟩) h_ ?_ ?_; rotate_left; (focus rintro w' ⟨s0, s1, s2, s3, s4, s5, s6, s7⟩; go_simp; with_reducible rfl); rotate_left; (focus simp only [Act.put, sa, sb, sc, i64_w, i32_w]; rfl)
            refine take_ (i := 1) (N := some 94) (v := ?_) (a' := ?_) (lb 29 3) rfl rfl (take_ofW T_.out W_.out (by kernel_rfl)) (λ _ _ _ h => h) (.inl ⟨by rfl, ?_⟩) h_ ?_ ?_; rotate_left; (focus rintro w' ⟨s0, s1, s2, s3, s4, s5, s6, s7⟩; go_simp; with_reducible rfl); rotate_left; (focus simp only [Act.put, sa, sb, sc, i64_w, i32_w]; rfl)
            refine pu (i := 2) (N := some 95) (v := ?_) (a' := ?_) (lb 29 7) rfl rfl (ao T_.out (by kernel_rfl)) (λ _ _ _ h => h) (.inl ⟨by rfl, ?_⟩) ?_ ?_; rotate_left; (focus intro w'; go_simp; with_reducible rfl); rotate_left; (focus simp only [Act.put, sa, sb, sc, i64_w, i32_w]; rfl)
            refine pu (i := 3) (N := some 96) (v := ?_) (a' := ?_) (lb 29 15) rfl rfl (ao T_.out (by kernel_rfl)) (λ _ _ _ h => h) (.inl ⟨by rfl, ?_⟩) ?_ ?_; rotate_left; (focus intro w'; go_simp; with_reducible rfl); rotate_left; (focus simp only [Act.put, sa, sb, sc, i64_w, i32_w]; rfl)
            refine pu (i := 4) (N := some 97) (v := undef) (a' := ?_) (lb 29 31) rfl rfl (ao T_.out (by kernel_rfl)) (λ _ _ _ h => h) (Or.inr ⟨by rfl, rfl⟩) ?_ ?_
            rotate_left
            ·
             simp only [Act.put, sa, sb, sc, i64_w, i32_w]
             rfl
            refine pu (i := 5) (N := some 98) (v := undef) (a' := ?_) (lb 29 63) rfl rfl (ao T_.out (by kernel_rfl)) (λ _ _ _ h => h) (Or.inr ⟨by rfl, rfl⟩) ?_ ?_
            rotate_left
            ·
             simp only [Act.put, sa, sb, sc, i64_w, i32_w]
             rfl
            refine pu (i := 6) (N := some 99) (v := undef) (a' := ?_) (lb 29 127) rfl rfl (ao T_.out (by kernel_rfl)) (λ _ _ _ h => h) (Or.inr ⟨by rfl, rfl⟩) ?_ ?_
            rotate_left
            ·
             simp only [Act.put, sa, sb, sc, i64_w, i32_w]
             rfl
            refine pu (i := 7) (N := some 100) (v := undef) (a' := ?_) (lb 29 255) rfl rfl (ao T_.out (by kernel_rfl)) (λ _ _ _ h => h) (Or.inr ⟨by rfl, rfl⟩) ?_ ?_
            rotate_left
            ·
             simp only [Act.put, sa, sb, sc, i64_w, i32_w]
             rfl
            refine pu (i := 8) (N := some 101) (v := undef) (a' := ?_) (lb 29 511) rfl rfl (ao T_.out (by kernel_rfl)) (λ _ _ _ h => h) (Or.inr ⟨by rfl, rfl⟩) ?_ ?_
            rotate_left
            ·
             simp only [Act.put, sa, sb, sc, i64_w, i32_w]
             rfl
            refine pu (i := 9) (N := some 102) (v := undef) (a' := ?_) (lb 29 1023) rfl rfl (ao T_.out (by kernel_rfl)) (λ _ _ _ h => h) (Or.inr ⟨by rfl, rfl⟩) ?_ ?_
            rotate_left
            ·
             simp only [Act.put, sa, sb, sc, i64_w, i32_w]
             rfl
            refine pu (i := 10) (N := some 103) (v := undef) (a' := ?_) (lb 29 2047) rfl rfl (ao T_.out (by kernel_rfl)) (λ _ _ _ h => h) (Or.inr ⟨by rfl, rfl⟩) ?_ ?_
            rotate_left
            ·
             simp only [Act.put, sa, sb, sc, i64_w, i32_w]
             rfl
            refine pu (i := 11) (N := some 104) (v := undef) (a' := ?_) (lb 29 4095) rfl rfl (ao T_.out (by kernel_rfl)) (λ _ _ _ h => h) (Or.inr ⟨by rfl, rfl⟩) ?_ ?_
            rotate_left
            ·
             simp only [Act.put, sa, sb, sc, i64_w, i32_w]
             rfl
            refine pu (i := 12) (N := some 105) (v := undef) (a' := ?_) (lb 29 8191) rfl rfl (ao T_.out (by kernel_rfl)) (λ _ _ _ h => h) (Or.inr ⟨by rfl, rfl⟩) ?_ ?_
            rotate_left
            ·
             simp only [Act.put, sa, sb, sc, i64_w, i32_w]
             rfl
            refine pu (i := 13) (N := some 106) (v := undef) (a' := ?_) (lb 29 16383) rfl rfl (ao T_.out (by kernel_rfl)) (λ _ _ _ h => h) (Or.inr ⟨by rfl, rfl⟩) ?_ ?_
            rotate_left
            ·
             simp only [Act.put, sa, sb, sc, i64_w, i32_w]
             rfl
            refine pu (i := 14) (N := some 107) (v := undef) (a' := ?_) (lb 29 32767) rfl rfl (ao T_.out (by kernel_rfl)) (λ _ _ _ h => h) (Or.inr ⟨by rfl, rfl⟩) ?_ ?_
            rotate_left
            ·
             simp only [Act.put, sa, sb, sc, i64_w, i32_w]
             rfl
            refine pu (i := 15) (N := some 108) (v := undef) (a' := ?_) (lb 29 65535) rfl rfl (ao T_.out (by kernel_rfl)) (λ _ _ _ h => h) (Or.inr ⟨by rfl, rfl⟩) ?_ ?_
            rotate_left
            ·
             simp only [Act.put, sa, sb, sc, i64_w, i32_w]
             rfl
            refine pu (i := 16) (N := some 109) (v := undef) (a' := ?_) (lb 29 131071) rfl rfl (ao T_.out (by kernel_rfl)) (λ _ _ _ h => h) (Or.inr ⟨by rfl, rfl⟩) ?_ ?_
            rotate_left
            ·
             simp only [Act.put, sa, sb, sc, i64_w, i32_w]
             rfl
            refine pu (i := 17) (N := some 110) (v := undef) (a' := ?_) (lb 29 262143) rfl rfl (ao T_.out (by kernel_rfl)) (λ _ _ _ h => h) (Or.inr ⟨by rfl, rfl⟩) ?_ ?_
            rotate_left
            ·
             simp only [Act.put, sa, sb, sc, i64_w, i32_w]
             rfl
            refine pu (i := 18) (N := some 111) (v := undef) (a' := ?_) (lb 29 524287) rfl rfl (ao T_.out (by kernel_rfl)) (λ _ _ _ h => h) (Or.inr ⟨by rfl, rfl⟩) ?_ ?_
            rotate_left
            ·
             simp only [Act.put, sa, sb, sc, i64_w, i32_w]
             rfl
            refine pu (i := 19) (N := some 112) (v := undef) (a' := ?_) (lb 29 1048575) rfl rfl (ao T_.out (by kernel_rfl)) (λ _ _ _ h => h) (Or.inr ⟨by rfl, rfl⟩) ?_ ?_
            rotate_left
            ·
             simp only [Act.put, sa, sb, sc, i64_w, i32_w]
             rfl
            refine pu (i := 20) (N := some 113) (v := undef) (a' := ?_) (lb 29 2097151) rfl rfl (ao T_.out (by kernel_rfl)) (λ _ _ _ h => h) (Or.inr ⟨by rfl, rfl⟩) ?_ ?_
            rotate_left
            ·
             simp only [Act.put, sa, sb, sc, i64_w, i32_w]
             rfl
            refine pu (i := 21) (N := some 114) (v := undef) (a' := ?_) (lb 29 4194303) rfl rfl (ao T_.out (by kernel_rfl)) (λ _ _ _ h => h) (Or.inr ⟨by rfl, rfl⟩) ?_ ?_
            rotate_left
            ·
             simp only [Act.put, sa, sb, sc, i64_w, i32_w]
             rfl
            refine pu (i := 22) (N := some 115) (v := undef) (a' := ?_) (lb 29 8388607) rfl rfl (ao T_.out (by kernel_rfl)) (λ _ _ _ h => h) (Or.inr ⟨by rfl, rfl⟩) ?_ ?_
            rotate_left
            ·
             simp only [Act.put, sa, sb, sc, i64_w, i32_w]
             rfl
            refine pu (i := 23) (N := some 116) (v := undef) (a' := ?_) (lb 29 16777215) rfl rfl (ao T_.out (by kernel_rfl)) (λ _ _ _ h => h) (Or.inr ⟨by rfl, rfl⟩) ?_ ?_
            rotate_left
            ·
             simp only [Act.put, sa, sb, sc, i64_w, i32_w]
             rfl
            refine pu (i := 24) (N := some 117) (v := undef) (a' := ?_) (lb 29 33554431) rfl rfl (ao T_.out (by kernel_rfl)) (λ _ _ _ h => h) (Or.inr ⟨by rfl, rfl⟩) ?_ ?_
            rotate_left
            ·
             simp only [Act.put, sa, sb, sc, i64_w, i32_w]
             rfl
            refine pu (i := 25) (N := some 118) (v := undef) (a' := ?_) (lb 29 67108863) rfl rfl (ao T_.out (by kernel_rfl)) (λ _ _ _ h => h) (Or.inr ⟨by rfl, rfl⟩) ?_ ?_
            rotate_left
            ·
             simp only [Act.put, sa, sb, sc, i64_w, i32_w]
             rfl
            refine pu (i := 26) (N := some 119) (v := undef) (a' := ?_) (lb 29 134217727) rfl rfl (ao T_.out (by kernel_rfl)) (λ _ _ _ h => h) (Or.inr ⟨by rfl, rfl⟩) ?_ ?_
            rotate_left
            ·
             simp only [Act.put, sa, sb, sc, i64_w, i32_w]
             rfl
            refine pu (i := 27) (N := some 120) (v := ?_) (a' := ?_) (lb 29 268435455) rfl rfl (ao T_.out (by kernel_rfl)) (λ _ _ _ h => h) (.inl ⟨by rfl, ?_⟩) ?_ ?_; rotate_left; (focus intro w'; go_simp; with_reducible rfl); rotate_left; (focus simp only [Act.put, sa, sb, sc, i64_w, i32_w]; rfl)
            refine pu (i := 28) (N := some 4) (v := ?_) (a' := ?_) (lb 29 536870911) rfl rfl (ao T_.out (by kernel_rfl)) (λ _ _ _ h => h) (.inl ⟨by rfl, ?_⟩) ?_ ?_; rotate_left; (focus intro w'; go_simp; with_reducible rfl); rotate_left; (focus simp only [Act.put, sa, sb, sc, i64_w, i32_w]; rfl)
            refine done_ (done_of T_.out (by kernel_rfl)) ?_
            try go_wp2
            go_ret
            exact ⟨by first | rfl | (simp [errW_none, errW_some] <;> rfl) | (simp [*, errW_none, errW_some] <;> rfl), by repeat (first | (with_reducible first | exact HB.out | apply below_alloc | apply pw_below_drewN | apply below_drew1 | refine below_set ?_ GE149.out | refine below_set ?_ GE150.out | refine below_set ?_ GE158.out | refine below_set ?_ GE164.out) | exact HB.out)⟩
           ·
            rw [if_neg c88] at H
            have c88b0 : (a0_0.toList == a1_0.toList && (a0_1 == a1_1 && (a0_2 == a1_2 && (a0_3.toList == a1_3.toList)))) = false := by simpa using c88
            (try (have c88b1 : decide (a0_0.toList = a1_0.toList && (a0_1 == a1_1 && (a0_2 == a1_2 && (a0_3.toList == a1_3.toList)))) = false := by simpa using c88))
            (try (have c88b2 : (a0_0.toList == a1_0.toList && (a0_1 == a1_1 && (a0_2 == a1_2 && (a0_3.toList == a1_3.toList)))) = false := by simpa using c88))
            (try (have c88b3 : ¬ (a0_0.toList = a1_0.toList && (a0_1 == a1_1 && (a0_2 == a1_2 && (a0_3.toList == a1_3.toList)))) := by simpa using c88))
            clear c88
            by_cases c97 : a0_3.toList = a1_3.toList
            ·
             rw [if_pos c97] at H
             have c97b0 : (a0_3.toList == a1_3.toList) = true := beq_iff_eq.mpr c97
             have c97b4 : (a0_0.toList == a1_0.toList && (a0_1 == a1_1 && (a0_2 == a1_2 && true))) = false := by have h_ := c88b0; rw [c97b0] at h_; exact h_
             have c97b5 : (a0_0.toList == a1_0.toList && (a0_1 == a1_1 && a0_2 == a1_2)) = false := by have h_ := c88b0; rw [c97b0, Bool.and_true] at h_; exact h_
             have c97b1 : (a0_3.toList != a1_3.toList) = false := bne_eq_false_iff_eq.mpr c97
             clear c97
             obtain rfl := Option.some.inj H
             have hnb98 := NB158_149.out
             have hnc98 := NB149_158.out
             have hnb99 := NB158_150.out
             have hnc99 := NB150_158.out
             have hnb100 := NB158_164.out
             have hnc100 := NB164_158.out
             have hcz101_0 : wc.cell? ⟨g158, 0, none⟩ = some (.string t153) := (blk_cell B158.out 0).trans rfl
             have hcz101_1 : wc.cell? ⟨g158, 1, none⟩ = some (.int .i64 t154) := (blk_cell B158.out 1).trans rfl
             have hcz101_2 : wc.cell? ⟨g158, 2, none⟩ = some (.int .i64 t155) := (blk_cell B158.out 2).trans rfl
             have hcz101_3 : wc.cell? ⟨g158, 3, none⟩ = some (.int .i64 t156) := (blk_cell B158.out 3).trans rfl
             have hcz101_4 : wc.cell? ⟨g158, 4, none⟩ = some (.string t157) := (blk_cell B158.out 4).trans rfl
             have hfz101_0 := blk_frozen B158.out 0
             have hfz101_1 := blk_frozen B158.out 1
             have hfz101_2 := blk_frozen B158.out 2
             have hfz101_3 := blk_frozen B158.out 3
             have hfz101_4 := blk_frozen B158.out 4
             have hnb102 := NB164_149.out
             have hnc102 := NB149_164.out
             have hnb103 := NB164_150.out
             have hnc103 := NB150_164.out
             have hcz104_0 : wc.cell? ⟨g164, 0, none⟩ = some (.string t159) := (blk_cell B164.out 0).trans rfl
             have hcz104_1 : wc.cell? ⟨g164, 1, none⟩ = some (.int .i64 t160) := (blk_cell B164.out 1).trans rfl
             have hcz104_2 : wc.cell? ⟨g164, 2, none⟩ = some (.int .i64 t161) := (blk_cell B164.out 2).trans rfl
             have hcz104_3 : wc.cell? ⟨g164, 3, none⟩ = some (.int .i64 t162) := (blk_cell B164.out 3).trans rfl
             have hcz104_4 : wc.cell? ⟨g164, 4, none⟩ = some (.string t163) := (blk_cell B164.out 4).trans rfl
             have hfz104_0 := blk_frozen B164.out 0
             have hfz104_1 := blk_frozen B164.out 1
             have hfz104_2 := blk_frozen B164.out 2
             have hfz104_3 := blk_frozen B164.out 3
             have hfz104_4 := blk_frozen B164.out 4
             try go_wp2
             have n0_ := am (blk_drew B149.out)
             have n1_ := am (blk_drew B150.out)
             have n2_ := am (blk_drew B158.out)
             have n3_ := am (blk_drew B164.out)
             have n4_ := am (below_drew1 HB.out)
             clear B149
             clear B150
             clear B158
             clear B164
             clear HB
             have B149 := n0_
             have B150 := n1_
             have B158 := n2_
             have B164 := n3_
             have HB := n4_
             clear n0_ n1_ n2_ n3_ n4_
             refine start_ (n := 29) (S := fun w' => w'.cell? ⟨g149, 0, none⟩ = some (.string a0_0) ∧ w'.cell? ⟨g149, 1, none⟩ = some (.int .i64 a0_1) ∧ w'.cell? ⟨g149, 2, none⟩ = some (.int .i64 a0_2) ∧ w'.cell? ⟨g149, 3, none⟩ = some (.string a0_3) ∧ w'.cell? ⟨g150, 0, none⟩ = some (.string a1_0) ∧ w'.cell? ⟨g150, 1, none⟩ = some (.int .i64 a1_1) ∧ w'.cell? ⟨g150, 2, none⟩ = some (.int .i64 a1_2) ∧ w'.cell? ⟨g150, 3, none⟩ = some (.string a1_3)) (ds := []) #[false, false, false, false, false, false, false, false, false, false, false, false, false, false, false, false, false, false, false, false, false, false, false, false, false, false, false, false, false] (by kernel_rfl) rfl rfl ⟨(blk_cell B149.out 0).trans rfl, (blk_cell B149.out 1).trans rfl, (blk_cell B149.out 2).trans rfl, (blk_cell B149.out 3).trans rfl, (blk_cell B150.out 0).trans rfl, (blk_cell B150.out 1).trans rfl, (blk_cell B150.out 2).trans rfl, (blk_cell B150.out 3).trans rfl⟩ (fun h_ => ?_); refine with_tabW hamperlaw19_MetaOf.tab11 hamperlaw19_MetaOf.bits11 (fun T_ W_ => ?_)
             generalize wc.drew = w105 at B149 B150 B158 B164 HB h_ ⊢
             refine take_ (i := 0) (N := some 93) (v := ?_) (a' := ?_) (lb 29 1) rfl rfl (take_ofW T_.out W_.out (by kernel_rfl)) (λ _ _ _ h => h) (.inl ⟨by rfl, ?_⟩) h_ ?_ ?_; rotate_left; (focus rintro w' ⟨s0, s1, s2, s3, s4, s5, s6, s7⟩; go_simp; with_reducible rfl); rotate_left; (focus simp only [Act.put, sa, sb, sc, i64_w, i32_w]; rfl)
             refine take_ (i := 1) (N := some 94) (v := ?_) (a' := ?_) (lb 29 3) rfl rfl (take_ofW T_.out W_.out (by kernel_rfl)) (λ _ _ _ h => h) (.inl ⟨by rfl, ?_⟩) h_ ?_ ?_; rotate_left; (focus rintro w' ⟨s0, s1, s2, s3, s4, s5, s6, s7⟩; go_simp; with_reducible rfl); rotate_left; (focus simp only [Act.put, sa, sb, sc, i64_w, i32_w]; rfl)
             refine pu (i := 2) (N := some 95) (v := ?_) (a' := ?_) (lb 29 7) rfl rfl (ao T_.out (by kernel_rfl)) (λ _ _ _ h => h) (.inl ⟨by rfl, ?_⟩) ?_ ?_; rotate_left; (focus intro w'; go_simp; with_reducible rfl); rotate_left; (focus simp only [Act.put, sa, sb, sc, i64_w, i32_w]; rfl)
             refine pu (i := 3) (N := some 96) (v := ?_) (a' := ?_) (lb 29 15) rfl rfl (ao T_.out (by kernel_rfl)) (λ _ _ _ h => h) (.inl ⟨by rfl, ?_⟩) ?_ ?_; rotate_left; (focus intro w'; go_simp; with_reducible rfl); rotate_left; (focus simp only [Act.put, sa, sb, sc, i64_w, i32_w]; rfl)
             refine pu (i := 4) (N := some 97) (v := ?_) (a' := ?_) (lb 29 31) rfl rfl (ao T_.out (by kernel_rfl)) (λ _ _ _ h => h) (.inl ⟨by rfl, ?_⟩) ?_ ?_; rotate_left; (focus intro w'; go_simp; with_reducible rfl); rotate_left; (focus simp only [Act.put, sa, sb, sc, i64_w, i32_w]; rfl)
             refine pu (i := 6) (N := some 99) (v := ?_) (a' := ?_) (lb 29 95) rfl rfl (ao T_.out (by kernel_rfl)) (λ _ _ _ h => h) (.inl ⟨by rfl, ?_⟩) ?_ ?_; rotate_left; (focus intro w'; go_simp; with_reducible rfl); rotate_left; (focus simp only [Act.put, sa, sb, sc, i64_w, i32_w]; rfl)
             refine take_ (i := 5) (N := some 98) (v := ?_) (a' := ?_) (lb 29 127) rfl rfl (take_ofW T_.out W_.out (by kernel_rfl)) (λ _ _ _ h => h) (.inl ⟨by rfl, ?_⟩) h_ ?_ ?_; rotate_left; (focus rintro w' ⟨s0, s1, s2, s3, s4, s5, s6, s7⟩; go_simp; with_reducible rfl); rotate_left; (focus simp only [Act.put, sa, sb, sc, i64_w, i32_w]; rfl)
             refine take_ (i := 7) (N := some 100) (v := ?_) (a' := ?_) (lb 29 255) rfl rfl (take_ofW T_.out W_.out (by kernel_rfl)) (λ _ _ _ h => h) (.inl ⟨by rfl, ?_⟩) h_ ?_ ?_; rotate_left; (focus rintro w' ⟨s0, s1, s2, s3, s4, s5, s6, s7⟩; go_simp; with_reducible rfl); rotate_left; (focus simp only [Act.put, sa, sb, sc, i64_w, i32_w]; rfl)
             refine pu (i := 8) (N := some 101) (v := ?_) (a' := ?_) (lb 29 511) rfl rfl (ao T_.out (by kernel_rfl)) (λ _ _ _ h => h) (.inl ⟨by rfl, ?_⟩) ?_ ?_; rotate_left; (focus intro w'; go_simp; with_reducible rfl); rotate_left; (focus simp only [Act.put, sa, sb, sc, i64_w, i32_w]; rfl)
             refine pu (i := 9) (N := some 102) (v := ?_) (a' := ?_) (lb 29 1023) rfl rfl (ao T_.out (by kernel_rfl)) (λ _ _ _ h => h) (.inl ⟨by rfl, ?_⟩) ?_ ?_; rotate_left; (focus intro w'; go_simp; with_reducible rfl); rotate_left; (focus simp only [Act.put, sa, sb, sc, i64_w, i32_w]; rfl)
             refine pu (i := 10) (N := some 103) (v := undef) (a' := ?_) (lb 29 2047) rfl rfl (ao T_.out (by kernel_rfl)) (λ _ _ _ h => h) (Or.inr ⟨by rfl, rfl⟩) ?_ ?_
             rotate_left
             ·
              simp only [Act.put, sa, sb, sc, i64_w, i32_w]
              rfl
             refine pu (i := 11) (N := some 104) (v := undef) (a' := ?_) (lb 29 4095) rfl rfl (ao T_.out (by kernel_rfl)) (λ _ _ _ h => h) (Or.inr ⟨by rfl, rfl⟩) ?_ ?_
             rotate_left
             ·
              simp only [Act.put, sa, sb, sc, i64_w, i32_w]
              rfl
             refine pu (i := 12) (N := some 105) (v := undef) (a' := ?_) (lb 29 8191) rfl rfl (ao T_.out (by kernel_rfl)) (λ _ _ _ h => h) (Or.inr ⟨by rfl, rfl⟩) ?_ ?_
             rotate_left
             ·
              simp only [Act.put, sa, sb, sc, i64_w, i32_w]
              rfl
             refine pu (i := 13) (N := some 106) (v := undef) (a' := ?_) (lb 29 16383) rfl rfl (ao T_.out (by kernel_rfl)) (λ _ _ _ h => h) (Or.inr ⟨by rfl, rfl⟩) ?_ ?_
             rotate_left
             ·
              simp only [Act.put, sa, sb, sc, i64_w, i32_w]
              rfl
             refine pu (i := 14) (N := some 107) (v := undef) (a' := ?_) (lb 29 32767) rfl rfl (ao T_.out (by kernel_rfl)) (λ _ _ _ h => h) (Or.inr ⟨by rfl, rfl⟩) ?_ ?_
             rotate_left
             ·
              simp only [Act.put, sa, sb, sc, i64_w, i32_w]
              rfl
             refine pu (i := 15) (N := some 108) (v := undef) (a' := ?_) (lb 29 65535) rfl rfl (ao T_.out (by kernel_rfl)) (λ _ _ _ h => h) (Or.inr ⟨by rfl, rfl⟩) ?_ ?_
             rotate_left
             ·
              simp only [Act.put, sa, sb, sc, i64_w, i32_w]
              rfl
             refine pu (i := 16) (N := some 109) (v := undef) (a' := ?_) (lb 29 131071) rfl rfl (ao T_.out (by kernel_rfl)) (λ _ _ _ h => h) (Or.inr ⟨by rfl, rfl⟩) ?_ ?_
             rotate_left
             ·
              simp only [Act.put, sa, sb, sc, i64_w, i32_w]
              rfl
             refine pu (i := 17) (N := some 110) (v := ?_) (a' := ?_) (lb 29 262143) rfl rfl (ao T_.out (by kernel_rfl)) (λ _ _ _ h => h) (.inl ⟨by rfl, ?_⟩) ?_ ?_; rotate_left; (focus intro w'; go_simp; with_reducible rfl); rotate_left; (focus simp only [Act.put, sa, sb, sc, i64_w, i32_w]; rfl)
             refine pu (i := 18) (N := some 111) (v := ?_) (a' := ?_) (lb 29 524287) rfl rfl (ao T_.out (by kernel_rfl)) (λ _ _ _ h => h) (.inl ⟨by rfl, ?_⟩) ?_ ?_; rotate_left; (focus intro w'; go_simp; with_reducible rfl); rotate_left; (focus simp only [Act.put, sa, sb, sc, i64_w, i32_w]; rfl)
             refine pu (i := 19) (N := some 112) (v := undef) (a' := ?_) (lb 29 1048575) rfl rfl (ao T_.out (by kernel_rfl)) (λ _ _ _ h => h) (Or.inr ⟨by rfl, rfl⟩) ?_ ?_
             rotate_left
             ·
              simp only [Act.put, sa, sb, sc, i64_w, i32_w]
              rfl
             refine pu (i := 20) (N := some 113) (v := undef) (a' := ?_) (lb 29 2097151) rfl rfl (ao T_.out (by kernel_rfl)) (λ _ _ _ h => h) (Or.inr ⟨by rfl, rfl⟩) ?_ ?_
             rotate_left
             ·
              simp only [Act.put, sa, sb, sc, i64_w, i32_w]
              rfl
             refine pu (i := 21) (N := some 114) (v := undef) (a' := ?_) (lb 29 4194303) rfl rfl (ao T_.out (by kernel_rfl)) (λ _ _ _ h => h) (Or.inr ⟨by rfl, rfl⟩) ?_ ?_
             rotate_left
             ·
              simp only [Act.put, sa, sb, sc, i64_w, i32_w]
              rfl
             refine pu (i := 22) (N := some 115) (v := undef) (a' := ?_) (lb 29 8388607) rfl rfl (ao T_.out (by kernel_rfl)) (λ _ _ _ h => h) (Or.inr ⟨by rfl, rfl⟩) ?_ ?_
             rotate_left
             ·
              simp only [Act.put, sa, sb, sc, i64_w, i32_w]
              rfl
             refine pu (i := 23) (N := some 116) (v := undef) (a' := ?_) (lb 29 16777215) rfl rfl (ao T_.out (by kernel_rfl)) (λ _ _ _ h => h) (Or.inr ⟨by rfl, rfl⟩) ?_ ?_
             rotate_left
             ·
              simp only [Act.put, sa, sb, sc, i64_w, i32_w]
              rfl
             refine pu (i := 24) (N := some 117) (v := undef) (a' := ?_) (lb 29 33554431) rfl rfl (ao T_.out (by kernel_rfl)) (λ _ _ _ h => h) (Or.inr ⟨by rfl, rfl⟩) ?_ ?_
             rotate_left
             ·
              simp only [Act.put, sa, sb, sc, i64_w, i32_w]
              rfl
             refine pu (i := 25) (N := some 118) (v := undef) (a' := ?_) (lb 29 67108863) rfl rfl (ao T_.out (by kernel_rfl)) (λ _ _ _ h => h) (Or.inr ⟨by rfl, rfl⟩) ?_ ?_
             rotate_left
             ·
              simp only [Act.put, sa, sb, sc, i64_w, i32_w]
              rfl
             refine pu (i := 26) (N := some 119) (v := ?_) (a' := ?_) (lb 29 134217727) rfl rfl (ao T_.out (by kernel_rfl)) (λ _ _ _ h => h) (.inl ⟨by rfl, ?_⟩) ?_ ?_; rotate_left; (focus intro w'; go_simp; with_reducible rfl); rotate_left; (focus simp only [Act.put, sa, sb, sc, i64_w, i32_w]; rfl)
             refine pu (i := 27) (N := some 120) (v := ?_) (a' := ?_) (lb 29 268435455) rfl rfl (ao T_.out (by kernel_rfl)) (λ _ _ _ h => h) (.inl ⟨by rfl, ?_⟩) ?_ ?_; rotate_left; (focus intro w'; go_simp; with_reducible rfl); rotate_left; (focus simp only [Act.put, sa, sb, sc, i64_w, i32_w]; rfl)
             refine pu (i := 28) (N := some 4) (v := ?_) (a' := ?_) (lb 29 536870911) rfl rfl (ao T_.out (by kernel_rfl)) (λ _ _ _ h => h) (.inl ⟨by rfl, ?_⟩) ?_ ?_; rotate_left; (focus intro w'; go_simp; with_reducible rfl); rotate_left; (focus simp only [Act.put, sa, sb, sc, i64_w, i32_w]; rfl)
             refine done_ (done_of T_.out (by kernel_rfl)) ?_
             try go_wp2
             go_ret
             exact ⟨by first | rfl | (simp [errW_none, errW_some] <;> rfl) | (simp [*, errW_none, errW_some] <;> rfl), by repeat (first | (with_reducible first | exact HB.out | apply below_alloc | apply pw_below_drewN | apply below_drew1 | refine below_set ?_ GE149.out | refine below_set ?_ GE150.out | refine below_set ?_ GE158.out | refine below_set ?_ GE164.out) | exact HB.out)⟩
            ·
             rw [if_neg c97] at H
             have c97b0 : (a0_3.toList == a1_3.toList) = false := beq_eq_false_iff_ne.mpr c97
             have c97b1 : (a0_3.toList != a1_3.toList) = true := bne_iff_ne.mpr c97
             by_cases c106 : (a0_3.size : Int) = (a1_3.size : Int)
             ·
              rw [if_pos c106] at H
              have c106b0 : ((a0_3.size : Int) == (a1_3.size : Int)) = true := beq_iff_eq.mpr c106
              have c106b1 : ((a0_3.size : Int) != (a1_3.size : Int)) = false := bne_eq_false_iff_eq.mpr c106
              have c106b2 : (a0_3.size == a1_3.size) = true := by first | simpa using c106 | (simp at c106 ⊢; omega)
              clear c106
              replace H := Option.bind_eq_some_iff.mp H
              obtain ⟨t168, A1070, H⟩ := H
              replace H : ((blake_Sum.f a1_3).bind fun t169 => (some (t168.toList == t169.toList))) = some r := H
              have A107 := am A1070
              clear A1070
              replace H := Option.bind_eq_some_iff.mp H
              obtain ⟨t169, A1080, H⟩ := H
              replace H : (some (t168.toList == t169.toList)) = some r := H
              have A108 := am A1080
              clear A1080
              obtain rfl := Option.some.inj H
              have hnb109 := NB158_149.out
              have hnc109 := NB149_158.out
              have hnb110 := NB158_150.out
              have hnc110 := NB150_158.out
              have hnb111 := NB158_164.out
              have hnc111 := NB164_158.out
              have hcz112_0 : wc.cell? ⟨g158, 0, none⟩ = some (.string t153) := (blk_cell B158.out 0).trans rfl
              have hcz112_1 : wc.cell? ⟨g158, 1, none⟩ = some (.int .i64 t154) := (blk_cell B158.out 1).trans rfl
              have hcz112_2 : wc.cell? ⟨g158, 2, none⟩ = some (.int .i64 t155) := (blk_cell B158.out 2).trans rfl
              have hcz112_3 : wc.cell? ⟨g158, 3, none⟩ = some (.int .i64 t156) := (blk_cell B158.out 3).trans rfl
              have hcz112_4 : wc.cell? ⟨g158, 4, none⟩ = some (.string t157) := (blk_cell B158.out 4).trans rfl
              have hfz112_0 := blk_frozen B158.out 0
              have hfz112_1 := blk_frozen B158.out 1
              have hfz112_2 := blk_frozen B158.out 2
              have hfz112_3 := blk_frozen B158.out 3
              have hfz112_4 := blk_frozen B158.out 4
              have hnb113 := NB164_149.out
              have hnc113 := NB149_164.out
              have hnb114 := NB164_150.out
              have hnc114 := NB150_164.out
              have hcz115_0 : wc.cell? ⟨g164, 0, none⟩ = some (.string t159) := (blk_cell B164.out 0).trans rfl
              have hcz115_1 : wc.cell? ⟨g164, 1, none⟩ = some (.int .i64 t160) := (blk_cell B164.out 1).trans rfl
              have hcz115_2 : wc.cell? ⟨g164, 2, none⟩ = some (.int .i64 t161) := (blk_cell B164.out 2).trans rfl
              have hcz115_3 : wc.cell? ⟨g164, 3, none⟩ = some (.int .i64 t162) := (blk_cell B164.out 3).trans rfl
              have hcz115_4 : wc.cell? ⟨g164, 4, none⟩ = some (.string t163) := (blk_cell B164.out 4).trans rfl
              have hfz115_0 := blk_frozen B164.out 0
              have hfz115_1 := blk_frozen B164.out 1
              have hfz115_2 := blk_frozen B164.out 2
              have hfz115_3 := blk_frozen B164.out 3
              have hfz115_4 := blk_frozen B164.out 4
              try go_wp2
              have n0_ := am (blk_drew B149.out)
              have n1_ := am (blk_drew B150.out)
              have n2_ := am (blk_drew B158.out)
              have n3_ := am (blk_drew B164.out)
              have n4_ := am (below_drew1 HB.out)
              clear B149
              clear B150
              clear B158
              clear B164
              clear HB
              have B149 := n0_
              have B150 := n1_
              have B158 := n2_
              have B164 := n3_
              have HB := n4_
              clear n0_ n1_ n2_ n3_ n4_
              refine start_ (n := 29) (S := fun w' => w'.cell? ⟨g149, 0, none⟩ = some (.string a0_0) ∧ w'.cell? ⟨g149, 1, none⟩ = some (.int .i64 a0_1) ∧ w'.cell? ⟨g149, 2, none⟩ = some (.int .i64 a0_2) ∧ w'.cell? ⟨g149, 3, none⟩ = some (.string a0_3) ∧ w'.cell? ⟨g150, 0, none⟩ = some (.string a1_0) ∧ w'.cell? ⟨g150, 1, none⟩ = some (.int .i64 a1_1) ∧ w'.cell? ⟨g150, 2, none⟩ = some (.int .i64 a1_2) ∧ w'.cell? ⟨g150, 3, none⟩ = some (.string a1_3)) (ds := []) #[false, false, false, false, false, false, false, false, false, false, false, false, false, false, false, false, false, false, false, false, false, false, false, false, false, false, false, false, false] (by kernel_rfl) rfl rfl ⟨(blk_cell B149.out 0).trans rfl, (blk_cell B149.out 1).trans rfl, (blk_cell B149.out 2).trans rfl, (blk_cell B149.out 3).trans rfl, (blk_cell B150.out 0).trans rfl, (blk_cell B150.out 1).trans rfl, (blk_cell B150.out 2).trans rfl, (blk_cell B150.out 3).trans rfl⟩ (fun h_ => ?_); refine with_tabW hamperlaw19_MetaOf.tab11 hamperlaw19_MetaOf.bits11 (fun T_ W_ => ?_)
              generalize wc.drew = w116 at B149 B150 B158 B164 HB h_ ⊢
              refine take_ (i := 0) (N := some 93) (v := ?_) (a' := ?_) (lb 29 1) rfl rfl (take_ofW T_.out W_.out (by kernel_rfl)) (λ _ _ _ h => h) (.inl ⟨by rfl, ?_⟩) h_ ?_ ?_; rotate_left; (focus rintro w' ⟨s0, s1, s2, s3, s4, s5, s6, s7⟩; go_simp; with_reducible rfl); rotate_left; (focus simp only [Act.put, sa, sb, sc, i64_w, i32_w]; rfl)
              refine take_ (i := 1) (N := some 94) (v := ?_) (a' := ?_) (lb 29 3) rfl rfl (take_ofW T_.out W_.out (by kernel_rfl)) (λ _ _ _ h => h) (.inl ⟨by rfl, ?_⟩) h_ ?_ ?_; rotate_left; (focus rintro w' ⟨s0, s1, s2, s3, s4, s5, s6, s7⟩; go_simp; with_reducible rfl); rotate_left; (focus simp only [Act.put, sa, sb, sc, i64_w, i32_w]; rfl)
              refine pu (i := 2) (N := some 95) (v := ?_) (a' := ?_) (lb 29 7) rfl rfl (ao T_.out (by kernel_rfl)) (λ _ _ _ h => h) (.inl ⟨by rfl, ?_⟩) ?_ ?_; rotate_left; (focus intro w'; go_simp; with_reducible rfl); rotate_left; (focus simp only [Act.put, sa, sb, sc, i64_w, i32_w]; rfl)
              refine pu (i := 3) (N := some 96) (v := ?_) (a' := ?_) (lb 29 15) rfl rfl (ao T_.out (by kernel_rfl)) (λ _ _ _ h => h) (.inl ⟨by rfl, ?_⟩) ?_ ?_; rotate_left; (focus intro w'; go_simp; with_reducible rfl); rotate_left; (focus simp only [Act.put, sa, sb, sc, i64_w, i32_w]; rfl)
              refine pu (i := 4) (N := some 97) (v := ?_) (a' := ?_) (lb 29 31) rfl rfl (ao T_.out (by kernel_rfl)) (λ _ _ _ h => h) (.inl ⟨by rfl, ?_⟩) ?_ ?_; rotate_left; (focus intro w'; go_simp; with_reducible rfl); rotate_left; (focus simp only [Act.put, sa, sb, sc, i64_w, i32_w]; rfl)
              refine pu (i := 6) (N := some 99) (v := ?_) (a' := ?_) (lb 29 95) rfl rfl (ao T_.out (by kernel_rfl)) (λ _ _ _ h => h) (.inl ⟨by rfl, ?_⟩) ?_ ?_; rotate_left; (focus intro w'; go_simp; with_reducible rfl); rotate_left; (focus simp only [Act.put, sa, sb, sc, i64_w, i32_w]; rfl)
              refine take_ (i := 5) (N := some 98) (v := ?_) (a' := ?_) (lb 29 127) rfl rfl (take_ofW T_.out W_.out (by kernel_rfl)) (λ _ _ _ h => h) (.inl ⟨by rfl, ?_⟩) h_ ?_ ?_; rotate_left; (focus rintro w' ⟨s0, s1, s2, s3, s4, s5, s6, s7⟩; go_simp; with_reducible rfl); rotate_left; (focus simp only [Act.put, sa, sb, sc, i64_w, i32_w]; rfl)
              refine take_ (i := 7) (N := some 100) (v := ?_) (a' := ?_) (lb 29 255) rfl rfl (take_ofW T_.out W_.out (by kernel_rfl)) (λ _ _ _ h => h) (.inl ⟨by rfl, ?_⟩) h_ ?_ ?_; rotate_left; (focus rintro w' ⟨s0, s1, s2, s3, s4, s5, s6, s7⟩; go_simp; with_reducible rfl); rotate_left; (focus simp only [Act.put, sa, sb, sc, i64_w, i32_w]; rfl)
              refine pu (i := 8) (N := some 101) (v := ?_) (a' := ?_) (lb 29 511) rfl rfl (ao T_.out (by kernel_rfl)) (λ _ _ _ h => h) (.inl ⟨by rfl, ?_⟩) ?_ ?_; rotate_left; (focus intro w'; go_simp; with_reducible rfl); rotate_left; (focus simp only [Act.put, sa, sb, sc, i64_w, i32_w]; rfl)
              refine pu (i := 9) (N := some 102) (v := ?_) (a' := ?_) (lb 29 1023) rfl rfl (ao T_.out (by kernel_rfl)) (λ _ _ _ h => h) (.inl ⟨by rfl, ?_⟩) ?_ ?_; rotate_left; (focus intro w'; go_simp; with_reducible rfl); rotate_left; (focus simp only [Act.put, sa, sb, sc, i64_w, i32_w]; rfl)
              refine pu (i := 10) (N := some 103) (v := ?_) (a' := ?_) (lb 29 2047) rfl rfl (ao T_.out (by kernel_rfl)) (λ _ _ _ h => h) (.inl ⟨by rfl, ?_⟩) ?_ ?_; rotate_left; (focus intro w'; go_simp; with_reducible rfl); rotate_left; (focus simp only [Act.put, sa, sb, sc, i64_w, i32_w]; rfl)
              refine pu (i := 13) (N := some 106) (v := ?_) (a' := ?_) (lb 29 10239) rfl rfl (ao T_.out (by kernel_rfl)) (λ _ _ _ h => h) (.inl ⟨by rfl, ?_⟩) ?_ ?_; rotate_left; (focus intro w'; go_simp; with_reducible rfl); rotate_left; (focus simp only [Act.put, sa, sb, sc, i64_w, i32_w]; rfl)
              refine take_ (i := 11) (N := some 104) (v := ?_) (a' := ?_) (lb 29 12287) rfl rfl (take_ofW T_.out W_.out (by kernel_rfl)) (λ _ _ _ h => h) (.inl ⟨by rfl, ?_⟩) h_ ?_ ?_; rotate_left; (focus rintro w' ⟨s0, s1, s2, s3, s4, s5, s6, s7⟩; go_simp; with_reducible rfl); rotate_left; (focus simp only [Act.put, sa, sb, sc, i64_w, i32_w]; rfl)
              refine pu (i := 12) (N := some 105) (v := ?_) (a' := ?_) (lb 29 16383) rfl rfl (ao T_.out (by kernel_rfl)) (λ _ _ _ h => h) (.inl ⟨by rfl, ?_⟩) ?_ ?_; rotate_left; (focus intro w'; go_simp; with_reducible rfl); rotate_left; (focus simp only [Act.put, sa, sb, sc, i64_w, i32_w]; rfl)
              refine take_ (i := 14) (N := some 107) (v := ?_) (a' := ?_) (lb 29 32767) rfl rfl (take_ofW T_.out W_.out (by kernel_rfl)) (λ _ _ _ h => h) (.inl ⟨by rfl, ?_⟩) h_ ?_ ?_; rotate_left; (focus rintro w' ⟨s0, s1, s2, s3, s4, s5, s6, s7⟩; go_simp; with_reducible rfl); rotate_left; (focus simp only [Act.put, sa, sb, sc, i64_w, i32_w]; rfl)
              refine pu (i := 15) (N := some 108) (v := ?_) (a' := ?_) (lb 29 65535) rfl rfl (ao T_.out (by kernel_rfl)) (λ _ _ _ h => h) (.inl ⟨by rfl, ?_⟩) ?_ ?_; rotate_left; (focus intro w'; go_simp; with_reducible rfl); rotate_left; (focus simp only [Act.put, sa, sb, sc, i64_w, i32_w]; rfl)
              refine pu (i := 16) (N := some 109) (v := ?_) (a' := ?_) (lb 29 131071) rfl rfl (ao T_.out (by kernel_rfl)) (λ _ _ _ h => h) (.inl ⟨by rfl, ?_⟩) ?_ ?_; rotate_left; (focus intro w'; go_simp; with_reducible rfl); rotate_left; (focus simp only [Act.put, sa, sb, sc, i64_w, i32_w]; rfl)
              refine pu (i := 17) (N := some 110) (v := ?_) (a' := ?_) (lb 29 262143) rfl rfl (ao T_.out (by kernel_rfl)) (λ _ _ _ h => h) (.inl ⟨by rfl, ?_⟩) ?_ ?_; rotate_left; (focus intro w'; go_simp; with_reducible rfl); rotate_left; (focus simp only [Act.put, sa, sb, sc, i64_w, i32_w]; rfl)
              refine pu (i := 18) (N := some 111) (v := ?_) (a' := ?_) (lb 29 524287) rfl rfl (ao T_.out (by kernel_rfl)) (λ _ _ _ h => h) (.inl ⟨by rfl, ?_⟩) ?_ ?_; rotate_left; (focus intro w'; go_simp; with_reducible rfl); rotate_left; (focus simp only [Act.put, sa, sb, sc, i64_w, i32_w]; rfl)
              refine pu (i := 19) (N := some 112) (v := ?_) (a' := ?_) (lb 29 1048575) rfl rfl (ao T_.out (by kernel_rfl)) (λ _ _ _ h => h) (.inl ⟨by rfl, ?_⟩) ?_ ?_; rotate_left; (focus intro w'; go_simp; with_reducible rfl); rotate_left; (focus simp only [Act.put, sa, sb, sc, i64_w, i32_w]; rfl)
              refine pu (i := 22) (N := some 115) (v := ?_) (a' := ?_) (lb 29 5242879) rfl rfl (ao T_.out (by kernel_rfl)) (λ _ _ _ h => h) (.inl ⟨by rfl, ?_⟩) ?_ ?_; rotate_left; (focus intro w'; go_simp; with_reducible rfl); rotate_left; (focus simp only [Act.put, sa, sb, sc, i64_w, i32_w]; rfl)
              refine take_ (i := 20) (N := some 113) (v := ?_) (a' := ?_) (lb 29 6291455) rfl rfl (take_ofW T_.out W_.out (by kernel_rfl)) (λ _ _ _ h => h) (.inl ⟨by rfl, ?_⟩) h_ ?_ ?_; rotate_left; (focus rintro w' ⟨s0, s1, s2, s3, s4, s5, s6, s7⟩; go_simp; with_reducible rfl); rotate_left; (focus simp only [Act.put, sa, sb, sc, i64_w, i32_w]; rfl)
              refine take_ (i := 23) (N := some 116) (v := ?_) (a' := ?_) (lb 29 14680063) rfl rfl (take_ofW T_.out W_.out (by kernel_rfl)) (λ _ _ _ h => h) (.inl ⟨by rfl, ?_⟩) h_ ?_ ?_; rotate_left; (focus rintro w' ⟨s0, s1, s2, s3, s4, s5, s6, s7⟩; go_simp; with_reducible rfl); rotate_left; (focus simp only [Act.put, sa, sb, sc, i64_w, i32_w]; rfl)
              refine one_ (i := 21) (N := some 114) (lb 29 16777215) rfl rfl (one_of T_.out (by kernel_rfl)) (by decide) (fun K hK => ?_)
              refine goes_ Tryd.func19 (by kernel_rfl) rfl #[.string a0_3] (by rfl) rfl rfl (by (try simp only [List.map_toArray, List.map_cons, List.map_nil]); first | done | rfl | (simp only [List.length_drop, List.length_take]; rfl)) ?_
              with_reducible refine (blake_Sum.calls a0_3 t168 _ A107.out).mono ?_
              rintro e w117 ⟨rfl, hb⟩
              refine ⟨_, rfl, ?_⟩
              have n0_ := am (blk_below (g := g149) (o := .cells #[.string a0_0, .int .i64 a0_1, .int .i64 a0_2, .string a0_3] 37 (0, 0)) (by (with_reducible repeat (first | refine blk_drewN ?_ _ | refine blk_drew ?_ | refine blk_alloc ?_ _)); exact B149.out) hb)
              have n1_ := am (blk_below (g := g150) (o := .cells #[.string a1_0, .int .i64 a1_1, .int .i64 a1_2, .string a1_3] 37 (0, 0)) (by (with_reducible repeat (first | refine blk_drewN ?_ _ | refine blk_drew ?_ | refine blk_alloc ?_ _)); exact B150.out) hb)
              have n2_ := am (blk_below (g := g158) (o := .cells #[.string t153, .int .i64 t154, .int .i64 t155, .int .i64 t156, .string t157] 25 (0, 0)) (by (with_reducible repeat (first | refine blk_drewN ?_ _ | refine blk_drew ?_ | refine blk_alloc ?_ _)); exact B158.out) hb)
              have n3_ := am (blk_below (g := g164) (o := .cells #[.string t159, .int .i64 t160, .int .i64 t161, .int .i64 t162, .string t163] 25 (0, 0)) (by (with_reducible repeat (first | refine blk_drewN ?_ _ | refine blk_drew ?_ | refine blk_alloc ?_ _)); exact B164.out) hb)
              have n4_ := am (below_step (by repeat (first | (with_reducible first | exact HB.out | apply below_alloc | apply pw_below_drewN | apply below_drew1 | refine below_set ?_ GE149.out | refine below_set ?_ GE150.out | refine below_set ?_ GE158.out | refine below_set ?_ GE164.out) | exact HB.out)) hb)
              clear B149
              clear B150
              clear B158
              clear B164
              clear HB
              have B149 := n0_
              have B150 := n1_
              have B158 := n2_
              have B164 := n3_
              have HB := n4_
              clear n0_ n1_ n2_ n3_ n4_
              (try clear hb)
              (try clear hb2)
              (try clear hk)
              (try clear hi)
              refine hK.out _ _ ⟨(blk_cell B149.out 0).trans rfl, (blk_cell B149.out 1).trans rfl, (blk_cell B149.out 2).trans rfl, (blk_cell B149.out 3).trans rfl, (blk_cell B150.out 0).trans rfl, (blk_cell B150.out 1).trans rfl, (blk_cell B150.out 2).trans rfl, (blk_cell B150.out 3).trans rfl⟩ (fun h_ => ?_)
              clear hK K
              refine norm_ (a' := ?_) ?_ ?_
              rotate_left
              ·
               show Act.put _ (some 114) _ = _
               simp only [Act.put, sa, sb, sc, i64_w, i32_w]
               rfl
              refine one_ (i := 24) (N := some 117) (lb 29 33554431) rfl rfl (one_of T_.out (by kernel_rfl)) (by decide) (fun K hK => ?_)
              refine goes_ Tryd.func19 (by kernel_rfl) rfl #[.string a1_3] (by rfl) rfl rfl (by (try simp only [List.map_toArray, List.map_cons, List.map_nil]); first | done | rfl | (simp only [List.length_drop, List.length_take]; rfl)) ?_
              with_reducible refine (blake_Sum.calls a1_3 t169 _ A108.out).mono ?_
              rintro e w118 ⟨rfl, hb⟩
              refine ⟨_, rfl, ?_⟩
              have n0_ := am (blk_below (g := g149) (o := .cells #[.string a0_0, .int .i64 a0_1, .int .i64 a0_2, .string a0_3] 37 (0, 0)) (by (with_reducible repeat (first | refine blk_drewN ?_ _ | refine blk_drew ?_ | refine blk_alloc ?_ _)); exact B149.out) hb)
              have n1_ := am (blk_below (g := g150) (o := .cells #[.string a1_0, .int .i64 a1_1, .int .i64 a1_2, .string a1_3] 37 (0, 0)) (by (with_reducible repeat (first | refine blk_drewN ?_ _ | refine blk_drew ?_ | refine blk_alloc ?_ _)); exact B150.out) hb)
              have n2_ := am (blk_below (g := g158) (o := .cells #[.string t153, .int .i64 t154, .int .i64 t155, .int .i64 t156, .string t157] 25 (0, 0)) (by (with_reducible repeat (first | refine blk_drewN ?_ _ | refine blk_drew ?_ | refine blk_alloc ?_ _)); exact B158.out) hb)
              have n3_ := am (blk_below (g := g164) (o := .cells #[.string t159, .int .i64 t160, .int .i64 t161, .int .i64 t162, .string t163] 25 (0, 0)) (by (with_reducible repeat (first | refine blk_drewN ?_ _ | refine blk_drew ?_ | refine blk_alloc ?_ _)); exact B164.out) hb)
              have n4_ := am (below_step (by repeat (first | (with_reducible first | exact HB.out | apply below_alloc | apply pw_below_drewN | apply below_drew1 | refine below_set ?_ GE149.out | refine below_set ?_ GE150.out | refine below_set ?_ GE158.out | refine below_set ?_ GE164.out) | exact HB.out)) hb)
              clear B149
              clear B150
              clear B158
              clear B164
              clear HB
              have B149 := n0_
              have B150 := n1_
              have B158 := n2_
              have B164 := n3_
              have HB := n4_
              clear n0_ n1_ n2_ n3_ n4_
              (try clear hb)
              (try clear hb2)
              (try clear hk)
              (try clear hi)
              refine hK.out _ _ ⟨(blk_cell B149.out 0).trans rfl, (blk_cell B149.out 1).trans rfl, (blk_cell B149.out 2).trans rfl, (blk_cell B149.out 3).trans rfl, (blk_cell B150.out 0).trans rfl, (blk_cell B150.out 1).trans rfl, (blk_cell B150.out 2).trans rfl, (blk_cell B150.out 3).trans rfl⟩ (fun h_ => ?_)
              clear hK K
              refine norm_ (a' := ?_) ?_ ?_
              rotate_left
              ·
               show Act.put _ (some 117) _ = _
               simp only [Act.put, sa, sb, sc, i64_w, i32_w]
               rfl
              refine pu (i := 25) (N := some 118) (v := ?_) (a' := ?_) (lb 29 67108863) rfl rfl (ao T_.out (by kernel_rfl)) (λ _ _ _ h => h) (.inl ⟨by rfl, ?_⟩) ?_ ?_; rotate_left; (focus intro w'; go_simp; with_reducible rfl); rotate_left; (focus simp only [Act.put, sa, sb, sc, i64_w, i32_w]; rfl)
              refine pu (i := 26) (N := some 119) (v := ?_) (a' := ?_) (lb 29 134217727) rfl rfl (ao T_.out (by kernel_rfl)) (λ _ _ _ h => h) (.inl ⟨by rfl, ?_⟩) ?_ ?_; rotate_left; (focus intro w'; go_simp; with_reducible rfl); rotate_left; (focus simp only [Act.put, sa, sb, sc, i64_w, i32_w]; rfl)
              refine pu (i := 27) (N := some 120) (v := ?_) (a' := ?_) (lb 29 268435455) rfl rfl (ao T_.out (by kernel_rfl)) (λ _ _ _ h => h) (.inl ⟨by rfl, ?_⟩) ?_ ?_; rotate_left; (focus intro w'; go_simp; with_reducible rfl); rotate_left; (focus simp only [Act.put, sa, sb, sc, i64_w, i32_w]; rfl)
              refine pu (i := 28) (N := some 4) (v := ?_) (a' := ?_) (lb 29 536870911) rfl rfl (ao T_.out (by kernel_rfl)) (λ _ _ _ h => h) (.inl ⟨by rfl, ?_⟩) ?_ ?_; rotate_left; (focus intro w'; go_simp; with_reducible rfl); rotate_left; (focus simp only [Act.put, sa, sb, sc, i64_w, i32_w]; rfl)
              refine done_ (done_of T_.out (by kernel_rfl)) ?_
              try go_wp2
              go_ret
              exact ⟨by first | rfl | (simp [errW_none, errW_some] <;> rfl) | (simp [*, errW_none, errW_some] <;> rfl), by repeat (first | (with_reducible first | exact HB.out | apply below_alloc | apply pw_below_drewN | apply below_drew1 | refine below_set ?_ GE149.out | refine below_set ?_ GE150.out | refine below_set ?_ GE158.out | refine below_set ?_ GE164.out) | exact HB.out)⟩
             ·
              rw [if_neg c106] at H
              have c106b0 : ((a0_3.size : Int) == (a1_3.size : Int)) = false := beq_eq_false_iff_ne.mpr c106
              have c106b1 : ((a0_3.size : Int) != (a1_3.size : Int)) = true := bne_iff_ne.mpr c106
              have c106b2 : (a0_3.size == a1_3.size) = false := by first | simpa using c106 | (simp at c106 ⊢; omega)
              obtain rfl := Option.some.inj H
              have hnb119 := NB158_149.out
              have hnc119 := NB149_158.out
              have hnb120 := NB158_150.out
              have hnc120 := NB150_158.out
              have hnb121 := NB158_164.out
              have hnc121 := NB164_158.out
              have hcz122_0 : wc.cell? ⟨g158, 0, none⟩ = some (.string t153) := (blk_cell B158.out 0).trans rfl
              have hcz122_1 : wc.cell? ⟨g158, 1, none⟩ = some (.int .i64 t154) := (blk_cell B158.out 1).trans rfl
              have hcz122_2 : wc.cell? ⟨g158, 2, none⟩ = some (.int .i64 t155) := (blk_cell B158.out 2).trans rfl
              have hcz122_3 : wc.cell? ⟨g158, 3, none⟩ = some (.int .i64 t156) := (blk_cell B158.out 3).trans rfl
              have hcz122_4 : wc.cell? ⟨g158, 4, none⟩ = some (.string t157) := (blk_cell B158.out 4).trans rfl
              have hfz122_0 := blk_frozen B158.out 0
              have hfz122_1 := blk_frozen B158.out 1
              have hfz122_2 := blk_frozen B158.out 2
              have hfz122_3 := blk_frozen B158.out 3
              have hfz122_4 := blk_frozen B158.out 4
              have hnb123 := NB164_149.out
              have hnc123 := NB149_164.out
              have hnb124 := NB164_150.out
              have hnc124 := NB150_164.out
              have hcz125_0 : wc.cell? ⟨g164, 0, none⟩ = some (.string t159) := (blk_cell B164.out 0).trans rfl
              have hcz125_1 : wc.cell? ⟨g164, 1, none⟩ = some (.int .i64 t160) := (blk_cell B164.out 1).trans rfl
              have hcz125_2 : wc.cell? ⟨g164, 2, none⟩ = some (.int .i64 t161) := (blk_cell B164.out 2).trans rfl
              have hcz125_3 : wc.cell? ⟨g164, 3, none⟩ = some (.int .i64 t162) := (blk_cell B164.out 3).trans rfl
              have hcz125_4 : wc.cell? ⟨g164, 4, none⟩ = some (.string t163) := (blk_cell B164.out 4).trans rfl
              have hfz125_0 := blk_frozen B164.out 0
              have hfz125_1 := blk_frozen B164.out 1
              have hfz125_2 := blk_frozen B164.out 2
              have hfz125_3 := blk_frozen B164.out 3
              have hfz125_4 := blk_frozen B164.out 4
              try go_wp2
              have n0_ := am (blk_drew B149.out)
              have n1_ := am (blk_drew B150.out)
              have n2_ := am (blk_drew B158.out)
              have n3_ := am (blk_drew B164.out)
              have n4_ := am (below_drew1 HB.out)
              clear B149
              clear B150
              clear B158
              clear B164
              clear HB
              have B149 := n0_
              have B150 := n1_
              have B158 := n2_
              have B164 := n3_
              have HB := n4_
              clear n0_ n1_ n2_ n3_ n4_
              refine start_ (n := 29) (S := fun w' => w'.cell? ⟨g149, 0, none⟩ = some (.string a0_0) ∧ w'.cell? ⟨g149, 1, none⟩ = some (.int .i64 a0_1) ∧ w'.cell? ⟨g149, 2, none⟩ = some (.int .i64 a0_2) ∧ w'.cell? ⟨g149, 3, none⟩ = some (.string a0_3) ∧ w'.cell? ⟨g150, 0, none⟩ = some (.string a1_0) ∧ w'.cell? ⟨g150, 1, none⟩ = some (.int .i64 a1_1) ∧ w'.cell? ⟨g150, 2, none⟩ = some (.int .i64 a1_2) ∧ w'.cell? ⟨g150, 3, none⟩ = some (.string a1_3)) (ds := []) #[false, false, false, false, false, false, false, false, false, false, false, false, false, false, false, false, false, false, false, false, false, false, false, false, false, false, false, false, false] (by kernel_rfl) rfl rfl ⟨(blk_cell B149.out 0).trans rfl, (blk_cell B149.out 1).trans rfl, (blk_cell B149.out 2).trans rfl, (blk_cell B149.out 3).trans rfl, (blk_cell B150.out 0).trans rfl, (blk_cell B150.out 1).trans rfl, (blk_cell B150.out 2).trans rfl, (blk_cell B150.out 3).trans rfl⟩ (fun h_ => ?_); refine with_tabW hamperlaw19_MetaOf.tab11 hamperlaw19_MetaOf.bits11 (fun T_ W_ => ?_)
              generalize wc.drew = w126 at B149 B150 B158 B164 HB h_ ⊢
              refine take_ (i := 0) (N := some 93) (v := ?_) (a' := ?_) (lb 29 1) rfl rfl (take_ofW T_.out W_.out (by kernel_rfl)) (λ _ _ _ h => h) (.inl ⟨by rfl, ?_⟩) h_ ?_ ?_; rotate_left; (focus rintro w' ⟨s0, s1, s2, s3, s4, s5, s6, s7⟩; go_simp; with_reducible rfl); rotate_left; (focus simp only [Act.put, sa, sb, sc, i64_w, i32_w]; rfl)
              refine take_ (i := 1) (N := some 94) (v := ?_) (a' := ?_) (lb 29 3) rfl rfl (take_ofW T_.out W_.out (by kernel_rfl)) (λ _ _ _ h => h) (.inl ⟨by rfl, ?_⟩) h_ ?_ ?_; rotate_left; (focus rintro w' ⟨s0, s1, s2, s3, s4, s5, s6, s7⟩; go_simp; with_reducible rfl); rotate_left; (focus simp only [Act.put, sa, sb, sc, i64_w, i32_w]; rfl)
              refine pu (i := 2) (N := some 95) (v := ?_) (a' := ?_) (lb 29 7) rfl rfl (ao T_.out (by kernel_rfl)) (λ _ _ _ h => h) (.inl ⟨by rfl, ?_⟩) ?_ ?_; rotate_left; (focus intro w'; go_simp; with_reducible rfl); rotate_left; (focus simp only [Act.put, sa, sb, sc, i64_w, i32_w]; rfl)
              refine pu (i := 3) (N := some 96) (v := ?_) (a' := ?_) (lb 29 15) rfl rfl (ao T_.out (by kernel_rfl)) (λ _ _ _ h => h) (.inl ⟨by rfl, ?_⟩) ?_ ?_; rotate_left; (focus intro w'; go_simp; with_reducible rfl); rotate_left; (focus simp only [Act.put, sa, sb, sc, i64_w, i32_w]; rfl)
              refine pu (i := 4) (N := some 97) (v := ?_) (a' := ?_) (lb 29 31) rfl rfl (ao T_.out (by kernel_rfl)) (λ _ _ _ h => h) (.inl ⟨by rfl, ?_⟩) ?_ ?_; rotate_left; (focus intro w'; go_simp; with_reducible rfl); rotate_left; (focus simp only [Act.put, sa, sb, sc, i64_w, i32_w]; rfl)
              refine pu (i := 6) (N := some 99) (v := ?_) (a' := ?_) (lb 29 95) rfl rfl (ao T_.out (by kernel_rfl)) (λ _ _ _ h => h) (.inl ⟨by rfl, ?_⟩) ?_ ?_; rotate_left; (focus intro w'; go_simp; with_reducible rfl); rotate_left; (focus simp only [Act.put, sa, sb, sc, i64_w, i32_w]; rfl)
              refine take_ (i := 5) (N := some 98) (v := ?_) (a' := ?_) (lb 29 127) rfl rfl (take_ofW T_.out W_.out (by kernel_rfl)) (λ _ _ _ h => h) (.inl ⟨by rfl, ?_⟩) h_ ?_ ?_; rotate_left; (focus rintro w' ⟨s0, s1, s2, s3, s4, s5, s6, s7⟩; go_simp; with_reducible rfl); rotate_left; (focus simp only [Act.put, sa, sb, sc, i64_w, i32_w]; rfl)
              refine take_ (i := 7) (N := some 100) (v := ?_) (a' := ?_) (lb 29 255) rfl rfl (take_ofW T_.out W_.out (by kernel_rfl)) (λ _ _ _ h => h) (.inl ⟨by rfl, ?_⟩) h_ ?_ ?_; rotate_left; (focus rintro w' ⟨s0, s1, s2, s3, s4, s5, s6, s7⟩; go_simp; with_reducible rfl); rotate_left; (focus simp only [Act.put, sa, sb, sc, i64_w, i32_w]; rfl)
              refine pu (i := 8) (N := some 101) (v := ?_) (a' := ?_) (lb 29 511) rfl rfl (ao T_.out (by kernel_rfl)) (λ _ _ _ h => h) (.inl ⟨by rfl, ?_⟩) ?_ ?_; rotate_left; (focus intro w'; go_simp; with_reducible rfl); rotate_left; (focus simp only [Act.put, sa, sb, sc, i64_w, i32_w]; rfl)
              refine pu (i := 9) (N := some 102) (v := ?_) (a' := ?_) (lb 29 1023) rfl rfl (ao T_.out (by kernel_rfl)) (λ _ _ _ h => h) (.inl ⟨by rfl, ?_⟩) ?_ ?_; rotate_left; (focus intro w'; go_simp; with_reducible rfl); rotate_left; (focus simp only [Act.put, sa, sb, sc, i64_w, i32_w]; rfl)
              refine pu (i := 10) (N := some 103) (v := ?_) (a' := ?_) (lb 29 2047) rfl rfl (ao T_.out (by kernel_rfl)) (λ _ _ _ h => h) (.inl ⟨by rfl, ?_⟩) ?_ ?_; rotate_left; (focus intro w'; go_simp; with_reducible rfl); rotate_left; (focus simp only [Act.put, sa, sb, sc, i64_w, i32_w]; rfl)
              refine pu (i := 13) (N := some 106) (v := ?_) (a' := ?_) (lb 29 10239) rfl rfl (ao T_.out (by kernel_rfl)) (λ _ _ _ h => h) (.inl ⟨by rfl, ?_⟩) ?_ ?_; rotate_left; (focus intro w'; go_simp; with_reducible rfl); rotate_left; (focus simp only [Act.put, sa, sb, sc, i64_w, i32_w]; rfl)
              refine take_ (i := 11) (N := some 104) (v := ?_) (a' := ?_) (lb 29 12287) rfl rfl (take_ofW T_.out W_.out (by kernel_rfl)) (λ _ _ _ h => h) (.inl ⟨by rfl, ?_⟩) h_ ?_ ?_; rotate_left; (focus rintro w' ⟨s0, s1, s2, s3, s4, s5, s6, s7⟩; go_simp; with_reducible rfl); rotate_left; (focus simp only [Act.put, sa, sb, sc, i64_w, i32_w]; rfl)
              refine pu (i := 12) (N := some 105) (v := ?_) (a' := ?_) (lb 29 16383) rfl rfl (ao T_.out (by kernel_rfl)) (λ _ _ _ h => h) (.inl ⟨by rfl, ?_⟩) ?_ ?_; rotate_left; (focus intro w'; go_simp; with_reducible rfl); rotate_left; (focus simp only [Act.put, sa, sb, sc, i64_w, i32_w]; rfl)
              refine take_ (i := 14) (N := some 107) (v := ?_) (a' := ?_) (lb 29 32767) rfl rfl (take_ofW T_.out W_.out (by kernel_rfl)) (λ _ _ _ h => h) (.inl ⟨by rfl, ?_⟩) h_ ?_ ?_; rotate_left; (focus rintro w' ⟨s0, s1, s2, s3, s4, s5, s6, s7⟩; go_simp; with_reducible rfl); rotate_left; (focus simp only [Act.put, sa, sb, sc, i64_w, i32_w]; rfl)
              refine pu (i := 15) (N := some 108) (v := ?_) (a' := ?_) (lb 29 65535) rfl rfl (ao T_.out (by kernel_rfl)) (λ _ _ _ h => h) (.inl ⟨by rfl, ?_⟩) ?_ ?_; rotate_left; (focus intro w'; go_simp; with_reducible rfl); rotate_left; (focus simp only [Act.put, sa, sb, sc, i64_w, i32_w]; rfl)
              refine pu (i := 16) (N := some 109) (v := ?_) (a' := ?_) (lb 29 131071) rfl rfl (ao T_.out (by kernel_rfl)) (λ _ _ _ h => h) (.inl ⟨by rfl, ?_⟩) ?_ ?_; rotate_left; (focus intro w'; go_simp; with_reducible rfl); rotate_left; (focus simp only [Act.put, sa, sb, sc, i64_w, i32_w]; rfl)
              refine pu (i := 17) (N := some 110) (v := ?_) (a' := ?_) (lb 29 262143) rfl rfl (ao T_.out (by kernel_rfl)) (λ _ _ _ h => h) (.inl ⟨by rfl, ?_⟩) ?_ ?_; rotate_left; (focus intro w'; go_simp; with_reducible rfl); rotate_left; (focus simp only [Act.put, sa, sb, sc, i64_w, i32_w]; rfl)
              refine pu (i := 18) (N := some 111) (v := ?_) (a' := ?_) (lb 29 524287) rfl rfl (ao T_.out (by kernel_rfl)) (λ _ _ _ h => h) (.inl ⟨by rfl, ?_⟩) ?_ ?_; rotate_left; (focus intro w'; go_simp; with_reducible rfl); rotate_left; (focus simp only [Act.put, sa, sb, sc, i64_w, i32_w]; rfl)
              refine pu (i := 19) (N := some 112) (v := undef) (a' := ?_) (lb 29 1048575) rfl rfl (ao T_.out (by kernel_rfl)) (λ _ _ _ h => h) (Or.inr ⟨by rfl, rfl⟩) ?_ ?_
              rotate_left
              ·
               simp only [Act.put, sa, sb, sc, i64_w, i32_w]
               rfl
              refine pu (i := 20) (N := some 113) (v := undef) (a' := ?_) (lb 29 2097151) rfl rfl (ao T_.out (by kernel_rfl)) (λ _ _ _ h => h) (Or.inr ⟨by rfl, rfl⟩) ?_ ?_
              rotate_left
              ·
               simp only [Act.put, sa, sb, sc, i64_w, i32_w]
               rfl
              refine pu (i := 21) (N := some 114) (v := undef) (a' := ?_) (lb 29 4194303) rfl rfl (ao T_.out (by kernel_rfl)) (λ _ _ _ h => h) (Or.inr ⟨by rfl, rfl⟩) ?_ ?_
              rotate_left
              ·
               simp only [Act.put, sa, sb, sc, i64_w, i32_w]
               rfl
              refine pu (i := 22) (N := some 115) (v := undef) (a' := ?_) (lb 29 8388607) rfl rfl (ao T_.out (by kernel_rfl)) (λ _ _ _ h => h) (Or.inr ⟨by rfl, rfl⟩) ?_ ?_
              rotate_left
              ·
               simp only [Act.put, sa, sb, sc, i64_w, i32_w]
               rfl
              refine pu (i := 23) (N := some 116) (v := undef) (a' := ?_) (lb 29 16777215) rfl rfl (ao T_.out (by kernel_rfl)) (λ _ _ _ h => h) (Or.inr ⟨by rfl, rfl⟩) ?_ ?_
              rotate_left
              ·
               simp only [Act.put, sa, sb, sc, i64_w, i32_w]
               rfl
              refine pu (i := 24) (N := some 117) (v := undef) (a' := ?_) (lb 29 33554431) rfl rfl (ao T_.out (by kernel_rfl)) (λ _ _ _ h => h) (Or.inr ⟨by rfl, rfl⟩) ?_ ?_
              rotate_left
              ·
               simp only [Act.put, sa, sb, sc, i64_w, i32_w]
               rfl
              refine pu (i := 25) (N := some 118) (v := undef) (a' := ?_) (lb 29 67108863) rfl rfl (ao T_.out (by kernel_rfl)) (λ _ _ _ h => h) (Or.inr ⟨by rfl, rfl⟩) ?_ ?_
              rotate_left
              ·
               simp only [Act.put, sa, sb, sc, i64_w, i32_w]
               rfl
              refine pu (i := 26) (N := some 119) (v := ?_) (a' := ?_) (lb 29 134217727) rfl rfl (ao T_.out (by kernel_rfl)) (λ _ _ _ h => h) (.inl ⟨by rfl, ?_⟩) ?_ ?_; rotate_left; (focus intro w'; go_simp; with_reducible rfl); rotate_left; (focus simp only [Act.put, sa, sb, sc, i64_w, i32_w]; rfl)
              refine pu (i := 27) (N := some 120) (v := ?_) (a' := ?_) (lb 29 268435455) rfl rfl (ao T_.out (by kernel_rfl)) (λ _ _ _ h => h) (.inl ⟨by rfl, ?_⟩) ?_ ?_; rotate_left; (focus intro w'; go_simp; with_reducible rfl); rotate_left; (focus simp only [Act.put, sa, sb, sc, i64_w, i32_w]; rfl)
              refine pu (i := 28) (N := some 4) (v := ?_) (a' := ?_) (lb 29 536870911) rfl rfl (ao T_.out (by kernel_rfl)) (λ _ _ _ h => h) (.inl ⟨by rfl, ?_⟩) ?_ ?_; rotate_left; (focus intro w'; go_simp; with_reducible rfl); rotate_left; (focus simp only [Act.put, sa, sb, sc, i64_w, i32_w]; rfl)
              refine done_ (done_of T_.out (by kernel_rfl)) ?_
              try go_wp2
              go_ret
              exact ⟨by first | rfl | (simp [errW_none, errW_some] <;> rfl) | (simp [*, errW_none, errW_some] <;> rfl), by repeat (first | (with_reducible first | exact HB.out | apply below_alloc | apply pw_below_drewN | apply below_drew1 | refine below_set ?_ GE149.out | refine below_set ?_ GE150.out | refine below_set ?_ GE158.out | refine below_set ?_ GE164.out) | exact HB.out)⟩


end Go.Proofs.YteplphpbpaojjaaDoor.PMa
