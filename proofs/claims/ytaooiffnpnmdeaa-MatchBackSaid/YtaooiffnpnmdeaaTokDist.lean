import Derived.Test.YtaooiffnpnmdeaaTokFront
import Derived.Test.YtaooiffnpnmdeaaPb
import Derived.Test.YtaooiffnpnmdeaaPIxx0
namespace Go.Proofs.Ytaooiffnpnmdeaa.PIx
open Go.RowKit Go.Proofs.YtaooiffnpnmdeaaW.PrintWords Go.Proofs.YtaooiffnpnmdeaaW.PrintLast Go.Proofs.YtaooiffnpnmdeaaW.PrintMore
attribute [local go_sem] max2_int min2_int max_two min_two max_three min_three max_four min_four
set_option linter.unusedVariables false
set_option linter.unusedSimpArgs false
theorem eqTok (d : Nat) (w : World) (x0 y0 : Int) (x1 y1 : Int) (x2 y2 : Int) (x3 y3 : Int) (x4 y4 : Int) :
    (Op.equalIn (d + 2) 27 (.agg #[.int .u8 x0, .int .u8 x1, .int .i64 x2, .int .i64 x3, .int .i64 x4]) (.agg #[.int .u8 y0, .int .u8 y1, .int .i64 y2, .int .i64 y3, .int .i64 y4])).run Try.prog w = .ok (x0 == y0 && (x1 == y1 && (x2 == y2 && (x3 == y3 && (x4 == y4))))) w := by
  refine eqA_of Try.underlying27 (by kernel_rfl) ?_
  refine eqf_cons (by rfl) (by go_simp; rfl) (by go_simp; rfl) (by go_simp) ?_
  refine eqf_cons (by rfl) (by go_simp; rfl) (by go_simp; rfl) (by go_simp) ?_
  refine eqf_cons (by rfl) (by go_simp; rfl) (by go_simp; rfl) (by go_simp) ?_
  refine eqf_cons (by rfl) (by go_simp; rfl) (by go_simp; rfl) (by go_simp) ?_
  exact eqf_last (by rfl) (by go_simp; rfl) (by go_simp; rfl) (by go_simp)
attribute [local go_sem high] eqTok
/-- A token. -/
def tokV (k b l d s : Int) : Value := .agg #[.int .u8 k, .int .u8 b, .int .i64 l, .int .i64 d, .int .i64 s]
/-- A maker in memory. -/
def IsMk (w : World) (g : Nat) (v : Value) (a b c d : Int) : Prop := w.heap[g]? = some (.cells #[v, .int .i64 a, .int .i64 b, .int .i64 c, .int .i64 d] 54 (0, 0))
def okD (x l : Int) (n : Nat) : Bool := decide (3 ≤ l ∧ l ≤ 258 ∧ 1 ≤ x ∧ x ≤ 32768 ∧ x ≤ (n : Int))
theorem mn_lt {x : Int} {n : Nat} : x ≤ mn 32768 (n : Int) ↔ x ≤ 32768 ∧ x ≤ (n : Int) := by unfold mn; split <;> omega

set_option maxHeartbeats 2000000 in
set_option maxRecDepth 1000000 in
theorem dist_m0 (A : Option Addr) (n cap : Nat) (a b c d l x : Int) (g : Nat) (w : World) (hm : IsMk w g (.slice A n cap) a b c d) (q1 : ¬ (3 ≤ l)) :
    Calls Try.prog 32 #[.pointer (some ⟨g, 0, none⟩), tokV 2 0 l x 0] w fun e w' => e = .returned (.tuple #[.int .i64 x, .bool false]) ∧ Below w.heap.size w w' := by
  have hlt : g < w.heap.size := blk_lt hm
  have hm' : (w.alloc (.cells #[.int .u8 2, .int .u8 0, .int .i64 l, .int .i64 x, .int .i64 0] 27)).heap[g]? = _ := (Below.heap_alloc w _ g hlt).trans hm
  have m0 : (w.alloc (.cells #[.int .u8 2, .int .u8 0, .int .i64 l, .int .i64 x, .int .i64 0] 27)).cell? ⟨g, 0, none⟩ = some (.slice A n cap) := (blk_cell hm' 0).trans rfl
  have m1 : (w.alloc (.cells #[.int .u8 2, .int .u8 0, .int .i64 l, .int .i64 x, .int .i64 0] 27)).cell? ⟨g, 1, none⟩ = some (.int .i64 a) := (blk_cell hm' 1).trans rfl
  have m2 : (w.alloc (.cells #[.int .u8 2, .int .u8 0, .int .i64 l, .int .i64 x, .int .i64 0] 27)).cell? ⟨g, 2, none⟩ = some (.int .i64 b) := (blk_cell hm' 2).trans rfl
  have m3 : (w.alloc (.cells #[.int .u8 2, .int .u8 0, .int .i64 l, .int .i64 x, .int .i64 0] 27)).cell? ⟨g, 3, none⟩ = some (.int .i64 c) := (blk_cell hm' 3).trans rfl
  have m4 : (w.alloc (.cells #[.int .u8 2, .int .u8 0, .int .i64 l, .int .i64 x, .int .i64 0] 27)).cell? ⟨g, 4, none⟩ = some (.int .i64 d) := (blk_cell hm' 4).trans rfl
  have HB := Aside0.mk (below_alloc (Below.refl w.heap.size w) (.cells #[.int .u8 2, .int .u8 0, .int .i64 l, .int .i64 x, .int .i64 0] 27))
  clear hm' hm hlt
  have q1e : decide (3 ≤ l) = false := decide_eq_false q1
  unfold tokV
  go_enter Try.func32, Try.ntmps32
  go_wp2_with fail
  go_quiet (fail)
  go_wp2_with fail
  all_goals (go_ret2; exact ⟨by first | rfl | (rw [decide_eq_false (show ¬ (x ≤ (n : Int)) by omega)]; rfl) | (rw [decide_eq_false (show ¬ (x ≤ 32768) by omega)]; rfl) | (rw [decide_eq_true (show x ≤ (n : Int) by omega)]; rfl) | (rw [decide_eq_true (show x ≤ 32768 by omega)]; rfl), by repeat (first | (with_reducible first | exact HB.out | apply pw_below_drewN | apply below_drew | apply below_drew1) | exact HB.out)⟩)

set_option maxHeartbeats 2000000 in
set_option maxRecDepth 1000000 in
theorem dist_m1 (A : Option Addr) (n cap : Nat) (a b c d l x : Int) (g : Nat) (w : World) (hm : IsMk w g (.slice A n cap) a b c d) (q1 : 3 ≤ l) (q2 : ¬ (l ≤ 258)) :
    Calls Try.prog 32 #[.pointer (some ⟨g, 0, none⟩), tokV 2 0 l x 0] w fun e w' => e = .returned (.tuple #[.int .i64 x, .bool false]) ∧ Below w.heap.size w w' := by
  have hlt : g < w.heap.size := blk_lt hm
  have hm' : (w.alloc (.cells #[.int .u8 2, .int .u8 0, .int .i64 l, .int .i64 x, .int .i64 0] 27)).heap[g]? = _ := (Below.heap_alloc w _ g hlt).trans hm
  have m0 : (w.alloc (.cells #[.int .u8 2, .int .u8 0, .int .i64 l, .int .i64 x, .int .i64 0] 27)).cell? ⟨g, 0, none⟩ = some (.slice A n cap) := (blk_cell hm' 0).trans rfl
  have m1 : (w.alloc (.cells #[.int .u8 2, .int .u8 0, .int .i64 l, .int .i64 x, .int .i64 0] 27)).cell? ⟨g, 1, none⟩ = some (.int .i64 a) := (blk_cell hm' 1).trans rfl
  have m2 : (w.alloc (.cells #[.int .u8 2, .int .u8 0, .int .i64 l, .int .i64 x, .int .i64 0] 27)).cell? ⟨g, 2, none⟩ = some (.int .i64 b) := (blk_cell hm' 2).trans rfl
  have m3 : (w.alloc (.cells #[.int .u8 2, .int .u8 0, .int .i64 l, .int .i64 x, .int .i64 0] 27)).cell? ⟨g, 3, none⟩ = some (.int .i64 c) := (blk_cell hm' 3).trans rfl
  have m4 : (w.alloc (.cells #[.int .u8 2, .int .u8 0, .int .i64 l, .int .i64 x, .int .i64 0] 27)).cell? ⟨g, 4, none⟩ = some (.int .i64 d) := (blk_cell hm' 4).trans rfl
  have HB := Aside0.mk (below_alloc (Below.refl w.heap.size w) (.cells #[.int .u8 2, .int .u8 0, .int .i64 l, .int .i64 x, .int .i64 0] 27))
  clear hm' hm hlt
  have q1e : decide (3 ≤ l) = true := decide_eq_true q1
  have q2e : decide (l ≤ 258) = false := decide_eq_false q2
  unfold tokV
  go_enter Try.func32, Try.ntmps32
  go_wp2_with fail
  go_quiet (fail)
  go_wp2_with fail
  all_goals (go_ret2; exact ⟨by first | rfl | (rw [decide_eq_false (show ¬ (x ≤ (n : Int)) by omega)]; rfl) | (rw [decide_eq_false (show ¬ (x ≤ 32768) by omega)]; rfl) | (rw [decide_eq_true (show x ≤ (n : Int) by omega)]; rfl) | (rw [decide_eq_true (show x ≤ 32768 by omega)]; rfl), by repeat (first | (with_reducible first | exact HB.out | apply pw_below_drewN | apply below_drew | apply below_drew1) | exact HB.out)⟩)

set_option maxHeartbeats 2000000 in
set_option maxRecDepth 1000000 in
theorem dist_m2 (A : Option Addr) (n cap : Nat) (a b c d l x : Int) (g : Nat) (w : World) (hm : IsMk w g (.slice A n cap) a b c d) (q1 : 3 ≤ l) (q2 : l ≤ 258) (q3 : ¬ (1 ≤ x)) :
    Calls Try.prog 32 #[.pointer (some ⟨g, 0, none⟩), tokV 2 0 l x 0] w fun e w' => e = .returned (.tuple #[.int .i64 x, .bool false]) ∧ Below w.heap.size w w' := by
  have hlt : g < w.heap.size := blk_lt hm
  have hm' : (w.alloc (.cells #[.int .u8 2, .int .u8 0, .int .i64 l, .int .i64 x, .int .i64 0] 27)).heap[g]? = _ := (Below.heap_alloc w _ g hlt).trans hm
  have m0 : (w.alloc (.cells #[.int .u8 2, .int .u8 0, .int .i64 l, .int .i64 x, .int .i64 0] 27)).cell? ⟨g, 0, none⟩ = some (.slice A n cap) := (blk_cell hm' 0).trans rfl
  have m1 : (w.alloc (.cells #[.int .u8 2, .int .u8 0, .int .i64 l, .int .i64 x, .int .i64 0] 27)).cell? ⟨g, 1, none⟩ = some (.int .i64 a) := (blk_cell hm' 1).trans rfl
  have m2 : (w.alloc (.cells #[.int .u8 2, .int .u8 0, .int .i64 l, .int .i64 x, .int .i64 0] 27)).cell? ⟨g, 2, none⟩ = some (.int .i64 b) := (blk_cell hm' 2).trans rfl
  have m3 : (w.alloc (.cells #[.int .u8 2, .int .u8 0, .int .i64 l, .int .i64 x, .int .i64 0] 27)).cell? ⟨g, 3, none⟩ = some (.int .i64 c) := (blk_cell hm' 3).trans rfl
  have m4 : (w.alloc (.cells #[.int .u8 2, .int .u8 0, .int .i64 l, .int .i64 x, .int .i64 0] 27)).cell? ⟨g, 4, none⟩ = some (.int .i64 d) := (blk_cell hm' 4).trans rfl
  have HB := Aside0.mk (below_alloc (Below.refl w.heap.size w) (.cells #[.int .u8 2, .int .u8 0, .int .i64 l, .int .i64 x, .int .i64 0] 27))
  clear hm' hm hlt
  have q1e : decide (3 ≤ l) = true := decide_eq_true q1
  have q2e : decide (l ≤ 258) = true := decide_eq_true q2
  have q3e : decide (1 ≤ x) = false := decide_eq_false q3
  unfold tokV
  go_enter Try.func32, Try.ntmps32
  go_wp2_with fail
  go_quiet (fail)
  go_wp2_with fail
  all_goals (go_ret2; exact ⟨by first | rfl | (rw [decide_eq_false (show ¬ (x ≤ (n : Int)) by omega)]; rfl) | (rw [decide_eq_false (show ¬ (x ≤ 32768) by omega)]; rfl) | (rw [decide_eq_true (show x ≤ (n : Int) by omega)]; rfl) | (rw [decide_eq_true (show x ≤ 32768 by omega)]; rfl), by repeat (first | (with_reducible first | exact HB.out | apply pw_below_drewN | apply below_drew | apply below_drew1) | exact HB.out)⟩)

set_option maxHeartbeats 2000000 in
set_option maxRecDepth 1000000 in
theorem dist_m3 (A : Option Addr) (n cap : Nat) (a b c d l x : Int) (g : Nat) (w : World) (hm : IsMk w g (.slice A n cap) a b c d) (q1 : 3 ≤ l) (q2 : l ≤ 258) (q3 : 1 ≤ x) (q4 : ¬ (x ≤ 32768 ∧ x ≤ (n : Int))) :
    Calls Try.prog 32 #[.pointer (some ⟨g, 0, none⟩), tokV 2 0 l x 0] w fun e w' => e = .returned (.tuple #[.int .i64 x, .bool false]) ∧ Below w.heap.size w w' := by
  have hlt : g < w.heap.size := blk_lt hm
  have hm' : (w.alloc (.cells #[.int .u8 2, .int .u8 0, .int .i64 l, .int .i64 x, .int .i64 0] 27)).heap[g]? = _ := (Below.heap_alloc w _ g hlt).trans hm
  have m0 : (w.alloc (.cells #[.int .u8 2, .int .u8 0, .int .i64 l, .int .i64 x, .int .i64 0] 27)).cell? ⟨g, 0, none⟩ = some (.slice A n cap) := (blk_cell hm' 0).trans rfl
  have m1 : (w.alloc (.cells #[.int .u8 2, .int .u8 0, .int .i64 l, .int .i64 x, .int .i64 0] 27)).cell? ⟨g, 1, none⟩ = some (.int .i64 a) := (blk_cell hm' 1).trans rfl
  have m2 : (w.alloc (.cells #[.int .u8 2, .int .u8 0, .int .i64 l, .int .i64 x, .int .i64 0] 27)).cell? ⟨g, 2, none⟩ = some (.int .i64 b) := (blk_cell hm' 2).trans rfl
  have m3 : (w.alloc (.cells #[.int .u8 2, .int .u8 0, .int .i64 l, .int .i64 x, .int .i64 0] 27)).cell? ⟨g, 3, none⟩ = some (.int .i64 c) := (blk_cell hm' 3).trans rfl
  have m4 : (w.alloc (.cells #[.int .u8 2, .int .u8 0, .int .i64 l, .int .i64 x, .int .i64 0] 27)).cell? ⟨g, 4, none⟩ = some (.int .i64 d) := (blk_cell hm' 4).trans rfl
  have HB := Aside0.mk (below_alloc (Below.refl w.heap.size w) (.cells #[.int .u8 2, .int .u8 0, .int .i64 l, .int .i64 x, .int .i64 0] 27))
  clear hm' hm hlt
  have q1e : decide (3 ≤ l) = true := decide_eq_true q1
  have q2e : decide (l ≤ 258) = true := decide_eq_true q2
  have q3e : decide (1 ≤ x) = true := decide_eq_true q3
  unfold tokV
  go_enter Try.func32, Try.ntmps32
  go_wp2_with fail
  go_quiet (fail)
  go_wp2_with fail
  all_goals (go_ret2; exact ⟨by first | rfl | (rw [decide_eq_false (show ¬ (x ≤ (n : Int)) by omega)]; rfl) | (rw [decide_eq_false (show ¬ (x ≤ 32768) by omega)]; rfl) | (rw [decide_eq_true (show x ≤ (n : Int) by omega)]; rfl) | (rw [decide_eq_true (show x ≤ 32768 by omega)]; rfl), by repeat (first | (with_reducible first | exact HB.out | apply pw_below_drewN | apply below_drew | apply below_drew1) | exact HB.out)⟩)

set_option maxHeartbeats 2000000 in
set_option maxRecDepth 1000000 in
theorem dist_m4 (A : Option Addr) (n cap : Nat) (a b c d l x : Int) (g : Nat) (w : World) (hm : IsMk w g (.slice A n cap) a b c d) (q1 : 3 ≤ l) (q2 : l ≤ 258) (q3 : 1 ≤ x) (q4 : x ≤ 32768) (q5 : x ≤ (n : Int)) :
    Calls Try.prog 32 #[.pointer (some ⟨g, 0, none⟩), tokV 2 0 l x 0] w fun e w' => e = .returned (.tuple #[.int .i64 x, .bool true]) ∧ Below w.heap.size w w' := by
  have hlt : g < w.heap.size := blk_lt hm
  have hm' : (w.alloc (.cells #[.int .u8 2, .int .u8 0, .int .i64 l, .int .i64 x, .int .i64 0] 27)).heap[g]? = _ := (Below.heap_alloc w _ g hlt).trans hm
  have m0 : (w.alloc (.cells #[.int .u8 2, .int .u8 0, .int .i64 l, .int .i64 x, .int .i64 0] 27)).cell? ⟨g, 0, none⟩ = some (.slice A n cap) := (blk_cell hm' 0).trans rfl
  have m1 : (w.alloc (.cells #[.int .u8 2, .int .u8 0, .int .i64 l, .int .i64 x, .int .i64 0] 27)).cell? ⟨g, 1, none⟩ = some (.int .i64 a) := (blk_cell hm' 1).trans rfl
  have m2 : (w.alloc (.cells #[.int .u8 2, .int .u8 0, .int .i64 l, .int .i64 x, .int .i64 0] 27)).cell? ⟨g, 2, none⟩ = some (.int .i64 b) := (blk_cell hm' 2).trans rfl
  have m3 : (w.alloc (.cells #[.int .u8 2, .int .u8 0, .int .i64 l, .int .i64 x, .int .i64 0] 27)).cell? ⟨g, 3, none⟩ = some (.int .i64 c) := (blk_cell hm' 3).trans rfl
  have m4 : (w.alloc (.cells #[.int .u8 2, .int .u8 0, .int .i64 l, .int .i64 x, .int .i64 0] 27)).cell? ⟨g, 4, none⟩ = some (.int .i64 d) := (blk_cell hm' 4).trans rfl
  have HB := Aside0.mk (below_alloc (Below.refl w.heap.size w) (.cells #[.int .u8 2, .int .u8 0, .int .i64 l, .int .i64 x, .int .i64 0] 27))
  clear hm' hm hlt
  have q1e : decide (3 ≤ l) = true := decide_eq_true q1
  have q2e : decide (l ≤ 258) = true := decide_eq_true q2
  have q3e : decide (1 ≤ x) = true := decide_eq_true q3
  have q4e : decide (x ≤ 32768) = true := decide_eq_true q4
  have q5e : decide (x ≤ (n : Int)) = true := decide_eq_true q5
  unfold tokV
  go_enter Try.func32, Try.ntmps32
  go_wp2_with fail
  go_quiet (fail)
  go_wp2_with fail
  all_goals (go_ret2; exact ⟨by first | rfl | (rw [decide_eq_false (show ¬ (x ≤ (n : Int)) by omega)]; rfl) | (rw [decide_eq_false (show ¬ (x ≤ 32768) by omega)]; rfl) | (rw [decide_eq_true (show x ≤ (n : Int) by omega)]; rfl) | (rw [decide_eq_true (show x ≤ 32768 by omega)]; rfl), by repeat (first | (with_reducible first | exact HB.out | apply pw_below_drewN | apply below_drew | apply below_drew1) | exact HB.out)⟩)

set_option maxHeartbeats 2000000 in
set_option maxRecDepth 1000000 in
theorem dist_m_byte (A : Option Addr) (n cap : Nat) (a b c d bb l x s : Int) (g : Nat) (w : World) (hm : IsMk w g (.slice A n cap) a b c d) (h : ¬ (bb = 0)) :
    Calls Try.prog 32 #[.pointer (some ⟨g, 0, none⟩), tokV 2 bb l x s] w fun e w' => e = .returned (.tuple #[.int .i64 0, .bool false]) ∧ Below w.heap.size w w' := by
  have hlt : g < w.heap.size := blk_lt hm
  have hm' : (w.alloc (.cells #[.int .u8 2, .int .u8 bb, .int .i64 l, .int .i64 x, .int .i64 s] 27)).heap[g]? = _ := (Below.heap_alloc w _ g hlt).trans hm
  have m0 : (w.alloc (.cells #[.int .u8 2, .int .u8 bb, .int .i64 l, .int .i64 x, .int .i64 s] 27)).cell? ⟨g, 0, none⟩ = some (.slice A n cap) := (blk_cell hm' 0).trans rfl
  have m1 : (w.alloc (.cells #[.int .u8 2, .int .u8 bb, .int .i64 l, .int .i64 x, .int .i64 s] 27)).cell? ⟨g, 1, none⟩ = some (.int .i64 a) := (blk_cell hm' 1).trans rfl
  have m2 : (w.alloc (.cells #[.int .u8 2, .int .u8 bb, .int .i64 l, .int .i64 x, .int .i64 s] 27)).cell? ⟨g, 2, none⟩ = some (.int .i64 b) := (blk_cell hm' 2).trans rfl
  have m3 : (w.alloc (.cells #[.int .u8 2, .int .u8 bb, .int .i64 l, .int .i64 x, .int .i64 s] 27)).cell? ⟨g, 3, none⟩ = some (.int .i64 c) := (blk_cell hm' 3).trans rfl
  have m4 : (w.alloc (.cells #[.int .u8 2, .int .u8 bb, .int .i64 l, .int .i64 x, .int .i64 s] 27)).cell? ⟨g, 4, none⟩ = some (.int .i64 d) := (blk_cell hm' 4).trans rfl
  have HB := Aside0.mk (below_alloc (Below.refl w.heap.size w) (.cells #[.int .u8 2, .int .u8 bb, .int .i64 l, .int .i64 x, .int .i64 s] 27))
  clear hm' hm hlt
  have he : (bb == 0) = false := beq_eq_false_iff_ne.mpr h
  have hf : (bb = 0) = False := eq_false h
  have hg : decide (bb = 0) = false := decide_eq_false h
  unfold tokV
  go_enter Try.func32, Try.ntmps32
  go_wp2_with fail
  all_goals (go_ret2; exact ⟨by first | rfl | (rw [decide_eq_false (show ¬ (0 ≤ (n : Int)) by omega)]; rfl) | (rw [decide_eq_false (show ¬ (0 ≤ 32768) by omega)]; rfl) | (rw [decide_eq_true (show 0 ≤ (n : Int) by omega)]; rfl) | (rw [decide_eq_true (show 0 ≤ 32768 by omega)]; rfl), by repeat (first | (with_reducible first | exact HB.out | apply pw_below_drewN | apply below_drew | apply below_drew1) | exact HB.out)⟩)

set_option maxHeartbeats 2000000 in
set_option maxRecDepth 1000000 in
theorem dist_m_slot (A : Option Addr) (n cap : Nat) (a b c d l x s : Int) (g : Nat) (w : World) (hm : IsMk w g (.slice A n cap) a b c d) (h : ¬ (s = 0)) :
    Calls Try.prog 32 #[.pointer (some ⟨g, 0, none⟩), tokV 2 0 l x s] w fun e w' => e = .returned (.tuple #[.int .i64 0, .bool false]) ∧ Below w.heap.size w w' := by
  have hlt : g < w.heap.size := blk_lt hm
  have hm' : (w.alloc (.cells #[.int .u8 2, .int .u8 0, .int .i64 l, .int .i64 x, .int .i64 s] 27)).heap[g]? = _ := (Below.heap_alloc w _ g hlt).trans hm
  have m0 : (w.alloc (.cells #[.int .u8 2, .int .u8 0, .int .i64 l, .int .i64 x, .int .i64 s] 27)).cell? ⟨g, 0, none⟩ = some (.slice A n cap) := (blk_cell hm' 0).trans rfl
  have m1 : (w.alloc (.cells #[.int .u8 2, .int .u8 0, .int .i64 l, .int .i64 x, .int .i64 s] 27)).cell? ⟨g, 1, none⟩ = some (.int .i64 a) := (blk_cell hm' 1).trans rfl
  have m2 : (w.alloc (.cells #[.int .u8 2, .int .u8 0, .int .i64 l, .int .i64 x, .int .i64 s] 27)).cell? ⟨g, 2, none⟩ = some (.int .i64 b) := (blk_cell hm' 2).trans rfl
  have m3 : (w.alloc (.cells #[.int .u8 2, .int .u8 0, .int .i64 l, .int .i64 x, .int .i64 s] 27)).cell? ⟨g, 3, none⟩ = some (.int .i64 c) := (blk_cell hm' 3).trans rfl
  have m4 : (w.alloc (.cells #[.int .u8 2, .int .u8 0, .int .i64 l, .int .i64 x, .int .i64 s] 27)).cell? ⟨g, 4, none⟩ = some (.int .i64 d) := (blk_cell hm' 4).trans rfl
  have HB := Aside0.mk (below_alloc (Below.refl w.heap.size w) (.cells #[.int .u8 2, .int .u8 0, .int .i64 l, .int .i64 x, .int .i64 s] 27))
  clear hm' hm hlt
  have he : (s == 0) = false := beq_eq_false_iff_ne.mpr h
  have hf : (s = 0) = False := eq_false h
  have hg : decide (s = 0) = false := decide_eq_false h
  unfold tokV
  go_enter Try.func32, Try.ntmps32
  go_wp2_with fail
  all_goals (go_ret2; exact ⟨by first | rfl | (rw [decide_eq_false (show ¬ (0 ≤ (n : Int)) by omega)]; rfl) | (rw [decide_eq_false (show ¬ (0 ≤ 32768) by omega)]; rfl) | (rw [decide_eq_true (show 0 ≤ (n : Int) by omega)]; rfl) | (rw [decide_eq_true (show 0 ≤ 32768 by omega)]; rfl), by repeat (first | (with_reducible first | exact HB.out | apply pw_below_drewN | apply below_drew | apply below_drew1) | exact HB.out)⟩)

set_option maxHeartbeats 2000000 in
set_option maxRecDepth 1000000 in
theorem dist_a_byte (A : Option Addr) (n cap : Nat) (a b c d bb l x s : Int) (g : Nat) (w : World) (hm : IsMk w g (.slice A n cap) a b c d) (h : ¬ (bb = 0)) :
    Calls Try.prog 32 #[.pointer (some ⟨g, 0, none⟩), tokV 3 bb l x s] w fun e w' => e = .returned (.tuple #[.int .i64 0, .bool false]) ∧ Below w.heap.size w w' := by
  have hlt : g < w.heap.size := blk_lt hm
  have hm' : (w.alloc (.cells #[.int .u8 3, .int .u8 bb, .int .i64 l, .int .i64 x, .int .i64 s] 27)).heap[g]? = _ := (Below.heap_alloc w _ g hlt).trans hm
  have m0 : (w.alloc (.cells #[.int .u8 3, .int .u8 bb, .int .i64 l, .int .i64 x, .int .i64 s] 27)).cell? ⟨g, 0, none⟩ = some (.slice A n cap) := (blk_cell hm' 0).trans rfl
  have m1 : (w.alloc (.cells #[.int .u8 3, .int .u8 bb, .int .i64 l, .int .i64 x, .int .i64 s] 27)).cell? ⟨g, 1, none⟩ = some (.int .i64 a) := (blk_cell hm' 1).trans rfl
  have m2 : (w.alloc (.cells #[.int .u8 3, .int .u8 bb, .int .i64 l, .int .i64 x, .int .i64 s] 27)).cell? ⟨g, 2, none⟩ = some (.int .i64 b) := (blk_cell hm' 2).trans rfl
  have m3 : (w.alloc (.cells #[.int .u8 3, .int .u8 bb, .int .i64 l, .int .i64 x, .int .i64 s] 27)).cell? ⟨g, 3, none⟩ = some (.int .i64 c) := (blk_cell hm' 3).trans rfl
  have m4 : (w.alloc (.cells #[.int .u8 3, .int .u8 bb, .int .i64 l, .int .i64 x, .int .i64 s] 27)).cell? ⟨g, 4, none⟩ = some (.int .i64 d) := (blk_cell hm' 4).trans rfl
  have HB := Aside0.mk (below_alloc (Below.refl w.heap.size w) (.cells #[.int .u8 3, .int .u8 bb, .int .i64 l, .int .i64 x, .int .i64 s] 27))
  clear hm' hm hlt
  have he : (bb == 0) = false := beq_eq_false_iff_ne.mpr h
  have hf : (bb = 0) = False := eq_false h
  have hg : decide (bb = 0) = false := decide_eq_false h
  unfold tokV
  go_enter Try.func32, Try.ntmps32
  go_wp2_with fail
  all_goals (go_ret2; exact ⟨by first | rfl | (rw [decide_eq_false (show ¬ (0 ≤ (n : Int)) by omega)]; rfl) | (rw [decide_eq_false (show ¬ (0 ≤ 32768) by omega)]; rfl) | (rw [decide_eq_true (show 0 ≤ (n : Int) by omega)]; rfl) | (rw [decide_eq_true (show 0 ≤ 32768 by omega)]; rfl), by repeat (first | (with_reducible first | exact HB.out | apply pw_below_drewN | apply below_drew | apply below_drew1) | exact HB.out)⟩)

set_option maxHeartbeats 2000000 in
set_option maxRecDepth 1000000 in
theorem dist_a_dist (A : Option Addr) (n cap : Nat) (a b c d l x s : Int) (g : Nat) (w : World) (hm : IsMk w g (.slice A n cap) a b c d) (h : ¬ (x = 0)) :
    Calls Try.prog 32 #[.pointer (some ⟨g, 0, none⟩), tokV 3 0 l x s] w fun e w' => e = .returned (.tuple #[.int .i64 0, .bool false]) ∧ Below w.heap.size w w' := by
  have hlt : g < w.heap.size := blk_lt hm
  have hm' : (w.alloc (.cells #[.int .u8 3, .int .u8 0, .int .i64 l, .int .i64 x, .int .i64 s] 27)).heap[g]? = _ := (Below.heap_alloc w _ g hlt).trans hm
  have m0 : (w.alloc (.cells #[.int .u8 3, .int .u8 0, .int .i64 l, .int .i64 x, .int .i64 s] 27)).cell? ⟨g, 0, none⟩ = some (.slice A n cap) := (blk_cell hm' 0).trans rfl
  have m1 : (w.alloc (.cells #[.int .u8 3, .int .u8 0, .int .i64 l, .int .i64 x, .int .i64 s] 27)).cell? ⟨g, 1, none⟩ = some (.int .i64 a) := (blk_cell hm' 1).trans rfl
  have m2 : (w.alloc (.cells #[.int .u8 3, .int .u8 0, .int .i64 l, .int .i64 x, .int .i64 s] 27)).cell? ⟨g, 2, none⟩ = some (.int .i64 b) := (blk_cell hm' 2).trans rfl
  have m3 : (w.alloc (.cells #[.int .u8 3, .int .u8 0, .int .i64 l, .int .i64 x, .int .i64 s] 27)).cell? ⟨g, 3, none⟩ = some (.int .i64 c) := (blk_cell hm' 3).trans rfl
  have m4 : (w.alloc (.cells #[.int .u8 3, .int .u8 0, .int .i64 l, .int .i64 x, .int .i64 s] 27)).cell? ⟨g, 4, none⟩ = some (.int .i64 d) := (blk_cell hm' 4).trans rfl
  have HB := Aside0.mk (below_alloc (Below.refl w.heap.size w) (.cells #[.int .u8 3, .int .u8 0, .int .i64 l, .int .i64 x, .int .i64 s] 27))
  clear hm' hm hlt
  have he : (x == 0) = false := beq_eq_false_iff_ne.mpr h
  have hf : (x = 0) = False := eq_false h
  have hg : decide (x = 0) = false := decide_eq_false h
  unfold tokV
  go_enter Try.func32, Try.ntmps32
  go_wp2_with fail
  all_goals (go_ret2; exact ⟨by first | rfl | (rw [decide_eq_false (show ¬ (0 ≤ (n : Int)) by omega)]; rfl) | (rw [decide_eq_false (show ¬ (0 ≤ 32768) by omega)]; rfl) | (rw [decide_eq_true (show 0 ≤ (n : Int) by omega)]; rfl) | (rw [decide_eq_true (show 0 ≤ 32768 by omega)]; rfl), by repeat (first | (with_reducible first | exact HB.out | apply pw_below_drewN | apply below_drew | apply below_drew1) | exact HB.out)⟩)

set_option maxHeartbeats 2000000 in
set_option maxRecDepth 1000000 in
theorem dist_a_low (A : Option Addr) (n cap : Nat) (a b c d l s : Int) (g : Nat) (w : World) (hm : IsMk w g (.slice A n cap) a b c d) (h : ¬ (0 ≤ s)) :
    Calls Try.prog 32 #[.pointer (some ⟨g, 0, none⟩), tokV 3 0 l 0 s] w fun e w' => e = .returned (.tuple #[.int .i64 0, .bool false]) ∧ Below w.heap.size w w' := by
  have hlt : g < w.heap.size := blk_lt hm
  have hm' : (w.alloc (.cells #[.int .u8 3, .int .u8 0, .int .i64 l, .int .i64 0, .int .i64 s] 27)).heap[g]? = _ := (Below.heap_alloc w _ g hlt).trans hm
  have m0 : (w.alloc (.cells #[.int .u8 3, .int .u8 0, .int .i64 l, .int .i64 0, .int .i64 s] 27)).cell? ⟨g, 0, none⟩ = some (.slice A n cap) := (blk_cell hm' 0).trans rfl
  have m1 : (w.alloc (.cells #[.int .u8 3, .int .u8 0, .int .i64 l, .int .i64 0, .int .i64 s] 27)).cell? ⟨g, 1, none⟩ = some (.int .i64 a) := (blk_cell hm' 1).trans rfl
  have m2 : (w.alloc (.cells #[.int .u8 3, .int .u8 0, .int .i64 l, .int .i64 0, .int .i64 s] 27)).cell? ⟨g, 2, none⟩ = some (.int .i64 b) := (blk_cell hm' 2).trans rfl
  have m3 : (w.alloc (.cells #[.int .u8 3, .int .u8 0, .int .i64 l, .int .i64 0, .int .i64 s] 27)).cell? ⟨g, 3, none⟩ = some (.int .i64 c) := (blk_cell hm' 3).trans rfl
  have m4 : (w.alloc (.cells #[.int .u8 3, .int .u8 0, .int .i64 l, .int .i64 0, .int .i64 s] 27)).cell? ⟨g, 4, none⟩ = some (.int .i64 d) := (blk_cell hm' 4).trans rfl
  have HB := Aside0.mk (below_alloc (Below.refl w.heap.size w) (.cells #[.int .u8 3, .int .u8 0, .int .i64 l, .int .i64 0, .int .i64 s] 27))
  clear hm' hm hlt
  have he : decide (0 ≤ s) = false := decide_eq_false h
  unfold tokV
  go_enter Try.func32, Try.ntmps32
  go_wp2_with fail
  all_goals (go_ret2; exact ⟨by first | rfl | (rw [decide_eq_false (show ¬ (0 ≤ (n : Int)) by omega)]; rfl) | (rw [decide_eq_false (show ¬ (0 ≤ 32768) by omega)]; rfl) | (rw [decide_eq_true (show 0 ≤ (n : Int) by omega)]; rfl) | (rw [decide_eq_true (show 0 ≤ 32768 by omega)]; rfl), by repeat (first | (with_reducible first | exact HB.out | apply pw_below_drewN | apply below_drew | apply below_drew1) | exact HB.out)⟩)

set_option maxHeartbeats 2000000 in
set_option maxRecDepth 1000000 in
theorem dist_a_high (A : Option Addr) (n cap : Nat) (a b c d l s : Int) (g : Nat) (w : World) (hm : IsMk w g (.slice A n cap) a b c d) (h1 : 0 ≤ s) (h : ¬ (s < 4)) :
    Calls Try.prog 32 #[.pointer (some ⟨g, 0, none⟩), tokV 3 0 l 0 s] w fun e w' => e = .returned (.tuple #[.int .i64 0, .bool false]) ∧ Below w.heap.size w w' := by
  have hlt : g < w.heap.size := blk_lt hm
  have hm' : (w.alloc (.cells #[.int .u8 3, .int .u8 0, .int .i64 l, .int .i64 0, .int .i64 s] 27)).heap[g]? = _ := (Below.heap_alloc w _ g hlt).trans hm
  have m0 : (w.alloc (.cells #[.int .u8 3, .int .u8 0, .int .i64 l, .int .i64 0, .int .i64 s] 27)).cell? ⟨g, 0, none⟩ = some (.slice A n cap) := (blk_cell hm' 0).trans rfl
  have m1 : (w.alloc (.cells #[.int .u8 3, .int .u8 0, .int .i64 l, .int .i64 0, .int .i64 s] 27)).cell? ⟨g, 1, none⟩ = some (.int .i64 a) := (blk_cell hm' 1).trans rfl
  have m2 : (w.alloc (.cells #[.int .u8 3, .int .u8 0, .int .i64 l, .int .i64 0, .int .i64 s] 27)).cell? ⟨g, 2, none⟩ = some (.int .i64 b) := (blk_cell hm' 2).trans rfl
  have m3 : (w.alloc (.cells #[.int .u8 3, .int .u8 0, .int .i64 l, .int .i64 0, .int .i64 s] 27)).cell? ⟨g, 3, none⟩ = some (.int .i64 c) := (blk_cell hm' 3).trans rfl
  have m4 : (w.alloc (.cells #[.int .u8 3, .int .u8 0, .int .i64 l, .int .i64 0, .int .i64 s] 27)).cell? ⟨g, 4, none⟩ = some (.int .i64 d) := (blk_cell hm' 4).trans rfl
  have HB := Aside0.mk (below_alloc (Below.refl w.heap.size w) (.cells #[.int .u8 3, .int .u8 0, .int .i64 l, .int .i64 0, .int .i64 s] 27))
  clear hm' hm hlt
  have h1e : decide (0 ≤ s) = true := decide_eq_true h1
  have he : decide (s < 4) = false := decide_eq_false h
  unfold tokV
  go_enter Try.func32, Try.ntmps32
  go_wp2_with fail
  all_goals (go_ret2; exact ⟨by first | rfl | (rw [decide_eq_false (show ¬ (0 ≤ (n : Int)) by omega)]; rfl) | (rw [decide_eq_false (show ¬ (0 ≤ 32768) by omega)]; rfl) | (rw [decide_eq_true (show 0 ≤ (n : Int) by omega)]; rfl) | (rw [decide_eq_true (show 0 ≤ 32768 by omega)]; rfl), by repeat (first | (with_reducible first | exact HB.out | apply pw_below_drewN | apply below_drew | apply below_drew1) | exact HB.out)⟩)

set_option maxHeartbeats 2000000 in
set_option maxRecDepth 1000000 in
theorem dist_none (A : Option Addr) (n cap : Nat) (a b c d k bb l x s : Int) (g : Nat) (w : World) (hm : IsMk w g (.slice A n cap) a b c d) (h1 : ¬ (k = 2)) (h2 : ¬ (k = 3)) :
    Calls Try.prog 32 #[.pointer (some ⟨g, 0, none⟩), tokV k bb l x s] w fun e w' => e = .returned (.tuple #[.int .i64 0, .bool false]) ∧ Below w.heap.size w w' := by
  have hlt : g < w.heap.size := blk_lt hm
  have hm' : (w.alloc (.cells #[.int .u8 k, .int .u8 bb, .int .i64 l, .int .i64 x, .int .i64 s] 27)).heap[g]? = _ := (Below.heap_alloc w _ g hlt).trans hm
  have m0 : (w.alloc (.cells #[.int .u8 k, .int .u8 bb, .int .i64 l, .int .i64 x, .int .i64 s] 27)).cell? ⟨g, 0, none⟩ = some (.slice A n cap) := (blk_cell hm' 0).trans rfl
  have m1 : (w.alloc (.cells #[.int .u8 k, .int .u8 bb, .int .i64 l, .int .i64 x, .int .i64 s] 27)).cell? ⟨g, 1, none⟩ = some (.int .i64 a) := (blk_cell hm' 1).trans rfl
  have m2 : (w.alloc (.cells #[.int .u8 k, .int .u8 bb, .int .i64 l, .int .i64 x, .int .i64 s] 27)).cell? ⟨g, 2, none⟩ = some (.int .i64 b) := (blk_cell hm' 2).trans rfl
  have m3 : (w.alloc (.cells #[.int .u8 k, .int .u8 bb, .int .i64 l, .int .i64 x, .int .i64 s] 27)).cell? ⟨g, 3, none⟩ = some (.int .i64 c) := (blk_cell hm' 3).trans rfl
  have m4 : (w.alloc (.cells #[.int .u8 k, .int .u8 bb, .int .i64 l, .int .i64 x, .int .i64 s] 27)).cell? ⟨g, 4, none⟩ = some (.int .i64 d) := (blk_cell hm' 4).trans rfl
  have HB := Aside0.mk (below_alloc (Below.refl w.heap.size w) (.cells #[.int .u8 k, .int .u8 bb, .int .i64 l, .int .i64 x, .int .i64 s] 27))
  clear hm' hm hlt
  have h1e : (k == 2) = false := beq_eq_false_iff_ne.mpr h1
  have h1f : (k = 2) = False := eq_false h1
  have h1g : decide (k = 2) = false := decide_eq_false h1
  have h2e : (k == 3) = false := beq_eq_false_iff_ne.mpr h2
  have h2f : (k = 3) = False := eq_false h2
  have h2g : decide (k = 3) = false := decide_eq_false h2
  unfold tokV
  go_enter Try.func32, Try.ntmps32
  go_wp2_with fail
  all_goals (go_ret2; exact ⟨by first | rfl | (rw [decide_eq_false (show ¬ (0 ≤ (n : Int)) by omega)]; rfl) | (rw [decide_eq_false (show ¬ (0 ≤ 32768) by omega)]; rfl) | (rw [decide_eq_true (show 0 ≤ (n : Int) by omega)]; rfl) | (rw [decide_eq_true (show 0 ≤ 32768 by omega)]; rfl), by repeat (first | (with_reducible first | exact HB.out | apply pw_below_drewN | apply below_drew | apply below_drew1) | exact HB.out)⟩)

end Go.Proofs.Ytaooiffnpnmdeaa.PIx
