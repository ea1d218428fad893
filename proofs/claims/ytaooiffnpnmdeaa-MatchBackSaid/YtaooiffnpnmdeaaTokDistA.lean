import Derived.Test.YtaooiffnpnmdeaaTokDist
namespace Go.Proofs.Ytaooiffnpnmdeaa.PIx
open Go.RowKit Go.Proofs.YtaooiffnpnmdeaaW.PrintWords Go.Proofs.YtaooiffnpnmdeaaW.PrintLast Go.Proofs.YtaooiffnpnmdeaaW.PrintMore
attribute [local go_sem] max2_int min2_int max_two min_two max_three min_three max_four min_four
attribute [local go_sem high] eqTok
set_option linter.unusedVariables false
set_option linter.unusedSimpArgs false

set_option maxHeartbeats 2000000 in
set_option maxRecDepth 1000000 in
theorem dist_a00 (A : Option Addr) (n cap : Nat) (a b c d l : Int) (g : Nat) (w : World) (hm : IsMk w g (.slice A n cap) a b c d) (q1 : ¬ (3 ≤ l)) :
    Calls Try.prog 32 #[.pointer (some ⟨g, 0, none⟩), tokV 3 0 l 0 0] w fun e w' => e = .returned (.tuple #[.int .i64 a, .bool false]) ∧ Below w.heap.size w w' := by
  have hlt : g < w.heap.size := blk_lt hm
  have hm' : (w.alloc (.cells #[.int .u8 3, .int .u8 0, .int .i64 l, .int .i64 0, .int .i64 0] 27)).heap[g]? = _ := (Below.heap_alloc w _ g hlt).trans hm
  have m0 : (w.alloc (.cells #[.int .u8 3, .int .u8 0, .int .i64 l, .int .i64 0, .int .i64 0] 27)).cell? ⟨g, 0, none⟩ = some (.slice A n cap) := (blk_cell hm' 0).trans rfl
  have m1 : (w.alloc (.cells #[.int .u8 3, .int .u8 0, .int .i64 l, .int .i64 0, .int .i64 0] 27)).cell? ⟨g, 1, none⟩ = some (.int .i64 a) := (blk_cell hm' 1).trans rfl
  have m2 : (w.alloc (.cells #[.int .u8 3, .int .u8 0, .int .i64 l, .int .i64 0, .int .i64 0] 27)).cell? ⟨g, 2, none⟩ = some (.int .i64 b) := (blk_cell hm' 2).trans rfl
  have m3 : (w.alloc (.cells #[.int .u8 3, .int .u8 0, .int .i64 l, .int .i64 0, .int .i64 0] 27)).cell? ⟨g, 3, none⟩ = some (.int .i64 c) := (blk_cell hm' 3).trans rfl
  have m4 : (w.alloc (.cells #[.int .u8 3, .int .u8 0, .int .i64 l, .int .i64 0, .int .i64 0] 27)).cell? ⟨g, 4, none⟩ = some (.int .i64 d) := (blk_cell hm' 4).trans rfl
  have HB := Aside0.mk (below_alloc (Below.refl w.heap.size w) (.cells #[.int .u8 3, .int .u8 0, .int .i64 l, .int .i64 0, .int .i64 0] 27))
  clear hm' hm hlt
  have q1e : decide (3 ≤ l) = false := decide_eq_false q1
  unfold tokV
  go_enter Try.func32, Try.ntmps32
  go_wp2_with fail
  go_quiet (fail)
  go_wp2_with fail
  go_quiet (fail)
  go_wp2_with fail
  all_goals (go_ret2; exact ⟨by first | rfl | (rw [decide_eq_false (show ¬ (a ≤ (n : Int)) by omega)]; rfl) | (rw [decide_eq_false (show ¬ (a ≤ 32768) by omega)]; rfl) | (rw [decide_eq_true (show a ≤ (n : Int) by omega)]; rfl) | (rw [decide_eq_true (show a ≤ 32768 by omega)]; rfl), by repeat (first | (with_reducible first | exact HB.out | apply pw_below_drewN | apply below_drew | apply below_drew1) | exact HB.out)⟩)

set_option maxHeartbeats 2000000 in
set_option maxRecDepth 1000000 in
theorem dist_a01 (A : Option Addr) (n cap : Nat) (a b c d l : Int) (g : Nat) (w : World) (hm : IsMk w g (.slice A n cap) a b c d) (q1 : 3 ≤ l) (q2 : ¬ (l ≤ 258)) :
    Calls Try.prog 32 #[.pointer (some ⟨g, 0, none⟩), tokV 3 0 l 0 0] w fun e w' => e = .returned (.tuple #[.int .i64 a, .bool false]) ∧ Below w.heap.size w w' := by
  have hlt : g < w.heap.size := blk_lt hm
  have hm' : (w.alloc (.cells #[.int .u8 3, .int .u8 0, .int .i64 l, .int .i64 0, .int .i64 0] 27)).heap[g]? = _ := (Below.heap_alloc w _ g hlt).trans hm
  have m0 : (w.alloc (.cells #[.int .u8 3, .int .u8 0, .int .i64 l, .int .i64 0, .int .i64 0] 27)).cell? ⟨g, 0, none⟩ = some (.slice A n cap) := (blk_cell hm' 0).trans rfl
  have m1 : (w.alloc (.cells #[.int .u8 3, .int .u8 0, .int .i64 l, .int .i64 0, .int .i64 0] 27)).cell? ⟨g, 1, none⟩ = some (.int .i64 a) := (blk_cell hm' 1).trans rfl
  have m2 : (w.alloc (.cells #[.int .u8 3, .int .u8 0, .int .i64 l, .int .i64 0, .int .i64 0] 27)).cell? ⟨g, 2, none⟩ = some (.int .i64 b) := (blk_cell hm' 2).trans rfl
  have m3 : (w.alloc (.cells #[.int .u8 3, .int .u8 0, .int .i64 l, .int .i64 0, .int .i64 0] 27)).cell? ⟨g, 3, none⟩ = some (.int .i64 c) := (blk_cell hm' 3).trans rfl
  have m4 : (w.alloc (.cells #[.int .u8 3, .int .u8 0, .int .i64 l, .int .i64 0, .int .i64 0] 27)).cell? ⟨g, 4, none⟩ = some (.int .i64 d) := (blk_cell hm' 4).trans rfl
  have HB := Aside0.mk (below_alloc (Below.refl w.heap.size w) (.cells #[.int .u8 3, .int .u8 0, .int .i64 l, .int .i64 0, .int .i64 0] 27))
  clear hm' hm hlt
  have q1e : decide (3 ≤ l) = true := decide_eq_true q1
  have q2e : decide (l ≤ 258) = false := decide_eq_false q2
  unfold tokV
  go_enter Try.func32, Try.ntmps32
  go_wp2_with fail
  go_quiet (fail)
  go_wp2_with fail
  go_quiet (fail)
  go_wp2_with fail
  all_goals (go_ret2; exact ⟨by first | rfl | (rw [decide_eq_false (show ¬ (a ≤ (n : Int)) by omega)]; rfl) | (rw [decide_eq_false (show ¬ (a ≤ 32768) by omega)]; rfl) | (rw [decide_eq_true (show a ≤ (n : Int) by omega)]; rfl) | (rw [decide_eq_true (show a ≤ 32768 by omega)]; rfl), by repeat (first | (with_reducible first | exact HB.out | apply pw_below_drewN | apply below_drew | apply below_drew1) | exact HB.out)⟩)

set_option maxHeartbeats 2000000 in
set_option maxRecDepth 1000000 in
theorem dist_a02 (A : Option Addr) (n cap : Nat) (a b c d l : Int) (g : Nat) (w : World) (hm : IsMk w g (.slice A n cap) a b c d) (q1 : 3 ≤ l) (q2 : l ≤ 258) (q3 : ¬ (1 ≤ a)) :
    Calls Try.prog 32 #[.pointer (some ⟨g, 0, none⟩), tokV 3 0 l 0 0] w fun e w' => e = .returned (.tuple #[.int .i64 a, .bool false]) ∧ Below w.heap.size w w' := by
  have hlt : g < w.heap.size := blk_lt hm
  have hm' : (w.alloc (.cells #[.int .u8 3, .int .u8 0, .int .i64 l, .int .i64 0, .int .i64 0] 27)).heap[g]? = _ := (Below.heap_alloc w _ g hlt).trans hm
  have m0 : (w.alloc (.cells #[.int .u8 3, .int .u8 0, .int .i64 l, .int .i64 0, .int .i64 0] 27)).cell? ⟨g, 0, none⟩ = some (.slice A n cap) := (blk_cell hm' 0).trans rfl
  have m1 : (w.alloc (.cells #[.int .u8 3, .int .u8 0, .int .i64 l, .int .i64 0, .int .i64 0] 27)).cell? ⟨g, 1, none⟩ = some (.int .i64 a) := (blk_cell hm' 1).trans rfl
  have m2 : (w.alloc (.cells #[.int .u8 3, .int .u8 0, .int .i64 l, .int .i64 0, .int .i64 0] 27)).cell? ⟨g, 2, none⟩ = some (.int .i64 b) := (blk_cell hm' 2).trans rfl
  have m3 : (w.alloc (.cells #[.int .u8 3, .int .u8 0, .int .i64 l, .int .i64 0, .int .i64 0] 27)).cell? ⟨g, 3, none⟩ = some (.int .i64 c) := (blk_cell hm' 3).trans rfl
  have m4 : (w.alloc (.cells #[.int .u8 3, .int .u8 0, .int .i64 l, .int .i64 0, .int .i64 0] 27)).cell? ⟨g, 4, none⟩ = some (.int .i64 d) := (blk_cell hm' 4).trans rfl
  have HB := Aside0.mk (below_alloc (Below.refl w.heap.size w) (.cells #[.int .u8 3, .int .u8 0, .int .i64 l, .int .i64 0, .int .i64 0] 27))
  clear hm' hm hlt
  have q1e : decide (3 ≤ l) = true := decide_eq_true q1
  have q2e : decide (l ≤ 258) = true := decide_eq_true q2
  have q3e : decide (1 ≤ a) = false := decide_eq_false q3
  unfold tokV
  go_enter Try.func32, Try.ntmps32
  go_wp2_with fail
  go_quiet (fail)
  go_wp2_with fail
  go_quiet (fail)
  go_wp2_with fail
  all_goals (go_ret2; exact ⟨by first | rfl | (rw [decide_eq_false (show ¬ (a ≤ (n : Int)) by omega)]; rfl) | (rw [decide_eq_false (show ¬ (a ≤ 32768) by omega)]; rfl) | (rw [decide_eq_true (show a ≤ (n : Int) by omega)]; rfl) | (rw [decide_eq_true (show a ≤ 32768 by omega)]; rfl), by repeat (first | (with_reducible first | exact HB.out | apply pw_below_drewN | apply below_drew | apply below_drew1) | exact HB.out)⟩)

set_option maxHeartbeats 2000000 in
set_option maxRecDepth 1000000 in
theorem dist_a03 (A : Option Addr) (n cap : Nat) (a b c d l : Int) (g : Nat) (w : World) (hm : IsMk w g (.slice A n cap) a b c d) (q1 : 3 ≤ l) (q2 : l ≤ 258) (q3 : 1 ≤ a) (q4 : ¬ (a ≤ 32768 ∧ a ≤ (n : Int))) :
    Calls Try.prog 32 #[.pointer (some ⟨g, 0, none⟩), tokV 3 0 l 0 0] w fun e w' => e = .returned (.tuple #[.int .i64 a, .bool false]) ∧ Below w.heap.size w w' := by
  have hlt : g < w.heap.size := blk_lt hm
  have hm' : (w.alloc (.cells #[.int .u8 3, .int .u8 0, .int .i64 l, .int .i64 0, .int .i64 0] 27)).heap[g]? = _ := (Below.heap_alloc w _ g hlt).trans hm
  have m0 : (w.alloc (.cells #[.int .u8 3, .int .u8 0, .int .i64 l, .int .i64 0, .int .i64 0] 27)).cell? ⟨g, 0, none⟩ = some (.slice A n cap) := (blk_cell hm' 0).trans rfl
  have m1 : (w.alloc (.cells #[.int .u8 3, .int .u8 0, .int .i64 l, .int .i64 0, .int .i64 0] 27)).cell? ⟨g, 1, none⟩ = some (.int .i64 a) := (blk_cell hm' 1).trans rfl
  have m2 : (w.alloc (.cells #[.int .u8 3, .int .u8 0, .int .i64 l, .int .i64 0, .int .i64 0] 27)).cell? ⟨g, 2, none⟩ = some (.int .i64 b) := (blk_cell hm' 2).trans rfl
  have m3 : (w.alloc (.cells #[.int .u8 3, .int .u8 0, .int .i64 l, .int .i64 0, .int .i64 0] 27)).cell? ⟨g, 3, none⟩ = some (.int .i64 c) := (blk_cell hm' 3).trans rfl
  have m4 : (w.alloc (.cells #[.int .u8 3, .int .u8 0, .int .i64 l, .int .i64 0, .int .i64 0] 27)).cell? ⟨g, 4, none⟩ = some (.int .i64 d) := (blk_cell hm' 4).trans rfl
  have HB := Aside0.mk (below_alloc (Below.refl w.heap.size w) (.cells #[.int .u8 3, .int .u8 0, .int .i64 l, .int .i64 0, .int .i64 0] 27))
  clear hm' hm hlt
  have q1e : decide (3 ≤ l) = true := decide_eq_true q1
  have q2e : decide (l ≤ 258) = true := decide_eq_true q2
  have q3e : decide (1 ≤ a) = true := decide_eq_true q3
  unfold tokV
  go_enter Try.func32, Try.ntmps32
  go_wp2_with fail
  go_quiet (fail)
  go_wp2_with fail
  go_quiet (fail)
  go_wp2_with fail
  all_goals (go_ret2; exact ⟨by first | rfl | (rw [decide_eq_false (show ¬ (a ≤ (n : Int)) by omega)]; rfl) | (rw [decide_eq_false (show ¬ (a ≤ 32768) by omega)]; rfl) | (rw [decide_eq_true (show a ≤ (n : Int) by omega)]; rfl) | (rw [decide_eq_true (show a ≤ 32768 by omega)]; rfl), by repeat (first | (with_reducible first | exact HB.out | apply pw_below_drewN | apply below_drew | apply below_drew1) | exact HB.out)⟩)

set_option maxHeartbeats 2000000 in
set_option maxRecDepth 1000000 in
theorem dist_a04 (A : Option Addr) (n cap : Nat) (a b c d l : Int) (g : Nat) (w : World) (hm : IsMk w g (.slice A n cap) a b c d) (q1 : 3 ≤ l) (q2 : l ≤ 258) (q3 : 1 ≤ a) (q4 : a ≤ 32768) (q5 : a ≤ (n : Int)) :
    Calls Try.prog 32 #[.pointer (some ⟨g, 0, none⟩), tokV 3 0 l 0 0] w fun e w' => e = .returned (.tuple #[.int .i64 a, .bool true]) ∧ Below w.heap.size w w' := by
  have hlt : g < w.heap.size := blk_lt hm
  have hm' : (w.alloc (.cells #[.int .u8 3, .int .u8 0, .int .i64 l, .int .i64 0, .int .i64 0] 27)).heap[g]? = _ := (Below.heap_alloc w _ g hlt).trans hm
  have m0 : (w.alloc (.cells #[.int .u8 3, .int .u8 0, .int .i64 l, .int .i64 0, .int .i64 0] 27)).cell? ⟨g, 0, none⟩ = some (.slice A n cap) := (blk_cell hm' 0).trans rfl
  have m1 : (w.alloc (.cells #[.int .u8 3, .int .u8 0, .int .i64 l, .int .i64 0, .int .i64 0] 27)).cell? ⟨g, 1, none⟩ = some (.int .i64 a) := (blk_cell hm' 1).trans rfl
  have m2 : (w.alloc (.cells #[.int .u8 3, .int .u8 0, .int .i64 l, .int .i64 0, .int .i64 0] 27)).cell? ⟨g, 2, none⟩ = some (.int .i64 b) := (blk_cell hm' 2).trans rfl
  have m3 : (w.alloc (.cells #[.int .u8 3, .int .u8 0, .int .i64 l, .int .i64 0, .int .i64 0] 27)).cell? ⟨g, 3, none⟩ = some (.int .i64 c) := (blk_cell hm' 3).trans rfl
  have m4 : (w.alloc (.cells #[.int .u8 3, .int .u8 0, .int .i64 l, .int .i64 0, .int .i64 0] 27)).cell? ⟨g, 4, none⟩ = some (.int .i64 d) := (blk_cell hm' 4).trans rfl
  have HB := Aside0.mk (below_alloc (Below.refl w.heap.size w) (.cells #[.int .u8 3, .int .u8 0, .int .i64 l, .int .i64 0, .int .i64 0] 27))
  clear hm' hm hlt
  have q1e : decide (3 ≤ l) = true := decide_eq_true q1
  have q2e : decide (l ≤ 258) = true := decide_eq_true q2
  have q3e : decide (1 ≤ a) = true := decide_eq_true q3
  have q4e : decide (a ≤ 32768) = true := decide_eq_true q4
  have q5e : decide (a ≤ (n : Int)) = true := decide_eq_true q5
  unfold tokV
  go_enter Try.func32, Try.ntmps32
  go_wp2_with fail
  go_quiet (fail)
  go_wp2_with fail
  go_quiet (fail)
  go_wp2_with fail
  all_goals (go_ret2; exact ⟨by first | rfl | (rw [decide_eq_false (show ¬ (a ≤ (n : Int)) by omega)]; rfl) | (rw [decide_eq_false (show ¬ (a ≤ 32768) by omega)]; rfl) | (rw [decide_eq_true (show a ≤ (n : Int) by omega)]; rfl) | (rw [decide_eq_true (show a ≤ 32768 by omega)]; rfl), by repeat (first | (with_reducible first | exact HB.out | apply pw_below_drewN | apply below_drew | apply below_drew1) | exact HB.out)⟩)

set_option maxHeartbeats 2000000 in
set_option maxRecDepth 1000000 in
theorem dist_a10 (A : Option Addr) (n cap : Nat) (a b c d l : Int) (g : Nat) (w : World) (hm : IsMk w g (.slice A n cap) a b c d) (q1 : ¬ (3 ≤ l)) :
    Calls Try.prog 32 #[.pointer (some ⟨g, 0, none⟩), tokV 3 0 l 0 1] w fun e w' => e = .returned (.tuple #[.int .i64 b, .bool false]) ∧ Below w.heap.size w w' := by
  have hlt : g < w.heap.size := blk_lt hm
  have hm' : (w.alloc (.cells #[.int .u8 3, .int .u8 0, .int .i64 l, .int .i64 0, .int .i64 1] 27)).heap[g]? = _ := (Below.heap_alloc w _ g hlt).trans hm
  have m0 : (w.alloc (.cells #[.int .u8 3, .int .u8 0, .int .i64 l, .int .i64 0, .int .i64 1] 27)).cell? ⟨g, 0, none⟩ = some (.slice A n cap) := (blk_cell hm' 0).trans rfl
  have m1 : (w.alloc (.cells #[.int .u8 3, .int .u8 0, .int .i64 l, .int .i64 0, .int .i64 1] 27)).cell? ⟨g, 1, none⟩ = some (.int .i64 a) := (blk_cell hm' 1).trans rfl
  have m2 : (w.alloc (.cells #[.int .u8 3, .int .u8 0, .int .i64 l, .int .i64 0, .int .i64 1] 27)).cell? ⟨g, 2, none⟩ = some (.int .i64 b) := (blk_cell hm' 2).trans rfl
  have m3 : (w.alloc (.cells #[.int .u8 3, .int .u8 0, .int .i64 l, .int .i64 0, .int .i64 1] 27)).cell? ⟨g, 3, none⟩ = some (.int .i64 c) := (blk_cell hm' 3).trans rfl
  have m4 : (w.alloc (.cells #[.int .u8 3, .int .u8 0, .int .i64 l, .int .i64 0, .int .i64 1] 27)).cell? ⟨g, 4, none⟩ = some (.int .i64 d) := (blk_cell hm' 4).trans rfl
  have HB := Aside0.mk (below_alloc (Below.refl w.heap.size w) (.cells #[.int .u8 3, .int .u8 0, .int .i64 l, .int .i64 0, .int .i64 1] 27))
  clear hm' hm hlt
  have q1e : decide (3 ≤ l) = false := decide_eq_false q1
  unfold tokV
  go_enter Try.func32, Try.ntmps32
  go_wp2_with fail
  go_quiet (fail)
  go_wp2_with fail
  go_quiet (fail)
  go_wp2_with fail
  all_goals (go_ret2; exact ⟨by first | rfl | (rw [decide_eq_false (show ¬ (b ≤ (n : Int)) by omega)]; rfl) | (rw [decide_eq_false (show ¬ (b ≤ 32768) by omega)]; rfl) | (rw [decide_eq_true (show b ≤ (n : Int) by omega)]; rfl) | (rw [decide_eq_true (show b ≤ 32768 by omega)]; rfl), by repeat (first | (with_reducible first | exact HB.out | apply pw_below_drewN | apply below_drew | apply below_drew1) | exact HB.out)⟩)

set_option maxHeartbeats 2000000 in
set_option maxRecDepth 1000000 in
theorem dist_a11 (A : Option Addr) (n cap : Nat) (a b c d l : Int) (g : Nat) (w : World) (hm : IsMk w g (.slice A n cap) a b c d) (q1 : 3 ≤ l) (q2 : ¬ (l ≤ 258)) :
    Calls Try.prog 32 #[.pointer (some ⟨g, 0, none⟩), tokV 3 0 l 0 1] w fun e w' => e = .returned (.tuple #[.int .i64 b, .bool false]) ∧ Below w.heap.size w w' := by
  have hlt : g < w.heap.size := blk_lt hm
  have hm' : (w.alloc (.cells #[.int .u8 3, .int .u8 0, .int .i64 l, .int .i64 0, .int .i64 1] 27)).heap[g]? = _ := (Below.heap_alloc w _ g hlt).trans hm
  have m0 : (w.alloc (.cells #[.int .u8 3, .int .u8 0, .int .i64 l, .int .i64 0, .int .i64 1] 27)).cell? ⟨g, 0, none⟩ = some (.slice A n cap) := (blk_cell hm' 0).trans rfl
  have m1 : (w.alloc (.cells #[.int .u8 3, .int .u8 0, .int .i64 l, .int .i64 0, .int .i64 1] 27)).cell? ⟨g, 1, none⟩ = some (.int .i64 a) := (blk_cell hm' 1).trans rfl
  have m2 : (w.alloc (.cells #[.int .u8 3, .int .u8 0, .int .i64 l, .int .i64 0, .int .i64 1] 27)).cell? ⟨g, 2, none⟩ = some (.int .i64 b) := (blk_cell hm' 2).trans rfl
  have m3 : (w.alloc (.cells #[.int .u8 3, .int .u8 0, .int .i64 l, .int .i64 0, .int .i64 1] 27)).cell? ⟨g, 3, none⟩ = some (.int .i64 c) := (blk_cell hm' 3).trans rfl
  have m4 : (w.alloc (.cells #[.int .u8 3, .int .u8 0, .int .i64 l, .int .i64 0, .int .i64 1] 27)).cell? ⟨g, 4, none⟩ = some (.int .i64 d) := (blk_cell hm' 4).trans rfl
  have HB := Aside0.mk (below_alloc (Below.refl w.heap.size w) (.cells #[.int .u8 3, .int .u8 0, .int .i64 l, .int .i64 0, .int .i64 1] 27))
  clear hm' hm hlt
  have q1e : decide (3 ≤ l) = true := decide_eq_true q1
  have q2e : decide (l ≤ 258) = false := decide_eq_false q2
  unfold tokV
  go_enter Try.func32, Try.ntmps32
  go_wp2_with fail
  go_quiet (fail)
  go_wp2_with fail
  go_quiet (fail)
  go_wp2_with fail
  all_goals (go_ret2; exact ⟨by first | rfl | (rw [decide_eq_false (show ¬ (b ≤ (n : Int)) by omega)]; rfl) | (rw [decide_eq_false (show ¬ (b ≤ 32768) by omega)]; rfl) | (rw [decide_eq_true (show b ≤ (n : Int) by omega)]; rfl) | (rw [decide_eq_true (show b ≤ 32768 by omega)]; rfl), by repeat (first | (with_reducible first | exact HB.out | apply pw_below_drewN | apply below_drew | apply below_drew1) | exact HB.out)⟩)

set_option maxHeartbeats 2000000 in
set_option maxRecDepth 1000000 in
theorem dist_a12 (A : Option Addr) (n cap : Nat) (a b c d l : Int) (g : Nat) (w : World) (hm : IsMk w g (.slice A n cap) a b c d) (q1 : 3 ≤ l) (q2 : l ≤ 258) (q3 : ¬ (1 ≤ b)) :
    Calls Try.prog 32 #[.pointer (some ⟨g, 0, none⟩), tokV 3 0 l 0 1] w fun e w' => e = .returned (.tuple #[.int .i64 b, .bool false]) ∧ Below w.heap.size w w' := by
  have hlt : g < w.heap.size := blk_lt hm
  have hm' : (w.alloc (.cells #[.int .u8 3, .int .u8 0, .int .i64 l, .int .i64 0, .int .i64 1] 27)).heap[g]? = _ := (Below.heap_alloc w _ g hlt).trans hm
  have m0 : (w.alloc (.cells #[.int .u8 3, .int .u8 0, .int .i64 l, .int .i64 0, .int .i64 1] 27)).cell? ⟨g, 0, none⟩ = some (.slice A n cap) := (blk_cell hm' 0).trans rfl
  have m1 : (w.alloc (.cells #[.int .u8 3, .int .u8 0, .int .i64 l, .int .i64 0, .int .i64 1] 27)).cell? ⟨g, 1, none⟩ = some (.int .i64 a) := (blk_cell hm' 1).trans rfl
  have m2 : (w.alloc (.cells #[.int .u8 3, .int .u8 0, .int .i64 l, .int .i64 0, .int .i64 1] 27)).cell? ⟨g, 2, none⟩ = some (.int .i64 b) := (blk_cell hm' 2).trans rfl
  have m3 : (w.alloc (.cells #[.int .u8 3, .int .u8 0, .int .i64 l, .int .i64 0, .int .i64 1] 27)).cell? ⟨g, 3, none⟩ = some (.int .i64 c) := (blk_cell hm' 3).trans rfl
  have m4 : (w.alloc (.cells #[.int .u8 3, .int .u8 0, .int .i64 l, .int .i64 0, .int .i64 1] 27)).cell? ⟨g, 4, none⟩ = some (.int .i64 d) := (blk_cell hm' 4).trans rfl
  have HB := Aside0.mk (below_alloc (Below.refl w.heap.size w) (.cells #[.int .u8 3, .int .u8 0, .int .i64 l, .int .i64 0, .int .i64 1] 27))
  clear hm' hm hlt
  have q1e : decide (3 ≤ l) = true := decide_eq_true q1
  have q2e : decide (l ≤ 258) = true := decide_eq_true q2
  have q3e : decide (1 ≤ b) = false := decide_eq_false q3
  unfold tokV
  go_enter Try.func32, Try.ntmps32
  go_wp2_with fail
  go_quiet (fail)
  go_wp2_with fail
  go_quiet (fail)
  go_wp2_with fail
  all_goals (go_ret2; exact ⟨by first | rfl | (rw [decide_eq_false (show ¬ (b ≤ (n : Int)) by omega)]; rfl) | (rw [decide_eq_false (show ¬ (b ≤ 32768) by omega)]; rfl) | (rw [decide_eq_true (show b ≤ (n : Int) by omega)]; rfl) | (rw [decide_eq_true (show b ≤ 32768 by omega)]; rfl), by repeat (first | (with_reducible first | exact HB.out | apply pw_below_drewN | apply below_drew | apply below_drew1) | exact HB.out)⟩)

set_option maxHeartbeats 2000000 in
set_option maxRecDepth 1000000 in
theorem dist_a13 (A : Option Addr) (n cap : Nat) (a b c d l : Int) (g : Nat) (w : World) (hm : IsMk w g (.slice A n cap) a b c d) (q1 : 3 ≤ l) (q2 : l ≤ 258) (q3 : 1 ≤ b) (q4 : ¬ (b ≤ 32768 ∧ b ≤ (n : Int))) :
    Calls Try.prog 32 #[.pointer (some ⟨g, 0, none⟩), tokV 3 0 l 0 1] w fun e w' => e = .returned (.tuple #[.int .i64 b, .bool false]) ∧ Below w.heap.size w w' := by
  have hlt : g < w.heap.size := blk_lt hm
  have hm' : (w.alloc (.cells #[.int .u8 3, .int .u8 0, .int .i64 l, .int .i64 0, .int .i64 1] 27)).heap[g]? = _ := (Below.heap_alloc w _ g hlt).trans hm
  have m0 : (w.alloc (.cells #[.int .u8 3, .int .u8 0, .int .i64 l, .int .i64 0, .int .i64 1] 27)).cell? ⟨g, 0, none⟩ = some (.slice A n cap) := (blk_cell hm' 0).trans rfl
  have m1 : (w.alloc (.cells #[.int .u8 3, .int .u8 0, .int .i64 l, .int .i64 0, .int .i64 1] 27)).cell? ⟨g, 1, none⟩ = some (.int .i64 a) := (blk_cell hm' 1).trans rfl
  have m2 : (w.alloc (.cells #[.int .u8 3, .int .u8 0, .int .i64 l, .int .i64 0, .int .i64 1] 27)).cell? ⟨g, 2, none⟩ = some (.int .i64 b) := (blk_cell hm' 2).trans rfl
  have m3 : (w.alloc (.cells #[.int .u8 3, .int .u8 0, .int .i64 l, .int .i64 0, .int .i64 1] 27)).cell? ⟨g, 3, none⟩ = some (.int .i64 c) := (blk_cell hm' 3).trans rfl
  have m4 : (w.alloc (.cells #[.int .u8 3, .int .u8 0, .int .i64 l, .int .i64 0, .int .i64 1] 27)).cell? ⟨g, 4, none⟩ = some (.int .i64 d) := (blk_cell hm' 4).trans rfl
  have HB := Aside0.mk (below_alloc (Below.refl w.heap.size w) (.cells #[.int .u8 3, .int .u8 0, .int .i64 l, .int .i64 0, .int .i64 1] 27))
  clear hm' hm hlt
  have q1e : decide (3 ≤ l) = true := decide_eq_true q1
  have q2e : decide (l ≤ 258) = true := decide_eq_true q2
  have q3e : decide (1 ≤ b) = true := decide_eq_true q3
  unfold tokV
  go_enter Try.func32, Try.ntmps32
  go_wp2_with fail
  go_quiet (fail)
  go_wp2_with fail
  go_quiet (fail)
  go_wp2_with fail
  all_goals (go_ret2; exact ⟨by first | rfl | (rw [decide_eq_false (show ¬ (b ≤ (n : Int)) by omega)]; rfl) | (rw [decide_eq_false (show ¬ (b ≤ 32768) by omega)]; rfl) | (rw [decide_eq_true (show b ≤ (n : Int) by omega)]; rfl) | (rw [decide_eq_true (show b ≤ 32768 by omega)]; rfl), by repeat (first | (with_reducible first | exact HB.out | apply pw_below_drewN | apply below_drew | apply below_drew1) | exact HB.out)⟩)

set_option maxHeartbeats 2000000 in
set_option maxRecDepth 1000000 in
theorem dist_a14 (A : Option Addr) (n cap : Nat) (a b c d l : Int) (g : Nat) (w : World) (hm : IsMk w g (.slice A n cap) a b c d) (q1 : 3 ≤ l) (q2 : l ≤ 258) (q3 : 1 ≤ b) (q4 : b ≤ 32768) (q5 : b ≤ (n : Int)) :
    Calls Try.prog 32 #[.pointer (some ⟨g, 0, none⟩), tokV 3 0 l 0 1] w fun e w' => e = .returned (.tuple #[.int .i64 b, .bool true]) ∧ Below w.heap.size w w' := by
  have hlt : g < w.heap.size := blk_lt hm
  have hm' : (w.alloc (.cells #[.int .u8 3, .int .u8 0, .int .i64 l, .int .i64 0, .int .i64 1] 27)).heap[g]? = _ := (Below.heap_alloc w _ g hlt).trans hm
  have m0 : (w.alloc (.cells #[.int .u8 3, .int .u8 0, .int .i64 l, .int .i64 0, .int .i64 1] 27)).cell? ⟨g, 0, none⟩ = some (.slice A n cap) := (blk_cell hm' 0).trans rfl
  have m1 : (w.alloc (.cells #[.int .u8 3, .int .u8 0, .int .i64 l, .int .i64 0, .int .i64 1] 27)).cell? ⟨g, 1, none⟩ = some (.int .i64 a) := (blk_cell hm' 1).trans rfl
  have m2 : (w.alloc (.cells #[.int .u8 3, .int .u8 0, .int .i64 l, .int .i64 0, .int .i64 1] 27)).cell? ⟨g, 2, none⟩ = some (.int .i64 b) := (blk_cell hm' 2).trans rfl
  have m3 : (w.alloc (.cells #[.int .u8 3, .int .u8 0, .int .i64 l, .int .i64 0, .int .i64 1] 27)).cell? ⟨g, 3, none⟩ = some (.int .i64 c) := (blk_cell hm' 3).trans rfl
  have m4 : (w.alloc (.cells #[.int .u8 3, .int .u8 0, .int .i64 l, .int .i64 0, .int .i64 1] 27)).cell? ⟨g, 4, none⟩ = some (.int .i64 d) := (blk_cell hm' 4).trans rfl
  have HB := Aside0.mk (below_alloc (Below.refl w.heap.size w) (.cells #[.int .u8 3, .int .u8 0, .int .i64 l, .int .i64 0, .int .i64 1] 27))
  clear hm' hm hlt
  have q1e : decide (3 ≤ l) = true := decide_eq_true q1
  have q2e : decide (l ≤ 258) = true := decide_eq_true q2
  have q3e : decide (1 ≤ b) = true := decide_eq_true q3
  have q4e : decide (b ≤ 32768) = true := decide_eq_true q4
  have q5e : decide (b ≤ (n : Int)) = true := decide_eq_true q5
  unfold tokV
  go_enter Try.func32, Try.ntmps32
  go_wp2_with fail
  go_quiet (fail)
  go_wp2_with fail
  go_quiet (fail)
  go_wp2_with fail
  all_goals (go_ret2; exact ⟨by first | rfl | (rw [decide_eq_false (show ¬ (b ≤ (n : Int)) by omega)]; rfl) | (rw [decide_eq_false (show ¬ (b ≤ 32768) by omega)]; rfl) | (rw [decide_eq_true (show b ≤ (n : Int) by omega)]; rfl) | (rw [decide_eq_true (show b ≤ 32768 by omega)]; rfl), by repeat (first | (with_reducible first | exact HB.out | apply pw_below_drewN | apply below_drew | apply below_drew1) | exact HB.out)⟩)

end Go.Proofs.Ytaooiffnpnmdeaa.PIx
