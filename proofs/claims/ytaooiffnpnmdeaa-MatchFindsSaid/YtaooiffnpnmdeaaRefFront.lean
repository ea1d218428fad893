/- hamperref14.Front: the document's row with a distance at its front. -/
import Derived.Test.YtaooiffnpnmdeaaTokFront
namespace Go.Proofs.Ytaooiffnpnmdeaa.PIx
open Go.RowKit Go.Proofs.YtaooiffnpnmdeaaW.PrintWords Go.Proofs.YtaooiffnpnmdeaaW.PrintLast Go.Proofs.YtaooiffnpnmdeaaW.PrintMore
attribute [local go_sem] max2_int min2_int max_two min_two max_three min_three max_four min_four
set_option linter.unusedVariables false
set_option linter.unusedSimpArgs false
set_option maxHeartbeats 1000000 in
set_option maxRecDepth 100000 in
theorem refFront_0 (a b c d x : Int) (w : World) (h0 : x = a) :
    Calls Try.prog 25 #[rowVal a b c d, .int .i64 x] w fun e w' => e = .returned (rowVal x b c d) ∧ Below w.heap.size w w' := by
  subst h0
  have e2 : (x != x) = false := by simp
  have HB0 := Aside0.mk (Below.refl w.heap.size w)
  unfold rowVal
  go_enter Try.func25, Try.ntmps25
  go_wp2_with fail
  refine wp_loop_rounds 1 ?_
  rw [rounds_succ]
  go_wp2
  refine wp_loop_rounds 5 ?_
  rw [rounds_succ]
  go_wp2
  rw [rounds_succ]
  go_wp2
  rw [rounds_succ]
  go_wp2
  rw [rounds_succ]
  go_wp2
  rw [rounds_succ]
  go_wp2
  refine bodyPost_ret (v := .agg #[.int .i64 x, .int .i64 b, .int .i64 c, .int .i64 d]) (by simp [results, Try.results25, go_sem]) rfl ⟨rfl, ?_⟩
  repeat' first
    | exact HB0.out
    | apply below_alloc
    | apply pw_below_drewN
    | apply below_drew1
    | refine below_set ?_ (by simp)
set_option maxHeartbeats 1000000 in
set_option maxRecDepth 100000 in
theorem refFront_1 (a b c d x : Int) (w : World) (h0 : x ≠ a) (h1 : x = b) :
    Calls Try.prog 25 #[rowVal a b c d, .int .i64 x] w fun e w' => e = .returned (rowVal x a c d) ∧ Below w.heap.size w w' := by
  subst h1
  have e2 : (x != x) = false := by simp
  have f0 : (a == x) = false := beq_eq_false_iff_ne.2 (Ne.symm h0)
  have g0 : (a != x) = true := bne_iff_ne.2 (Ne.symm h0)
  clear h0
  have HB0 := Aside0.mk (Below.refl w.heap.size w)
  unfold rowVal
  go_enter Try.func25, Try.ntmps25
  go_wp2_with fail
  refine wp_loop_rounds 2 ?_
  rw [rounds_succ]
  go_wp2
  rw [rounds_succ]
  go_wp2
  refine wp_loop_rounds 5 ?_
  rw [rounds_succ]
  go_wp2
  rw [rounds_succ]
  go_wp2
  rw [rounds_succ]
  go_wp2
  rw [rounds_succ]
  go_wp2
  rw [rounds_succ]
  go_wp2
  refine bodyPost_ret (v := .agg #[.int .i64 x, .int .i64 a, .int .i64 c, .int .i64 d]) (by simp [results, Try.results25, go_sem]) rfl ⟨rfl, ?_⟩
  repeat' first
    | exact HB0.out
    | apply below_alloc
    | apply pw_below_drewN
    | apply below_drew1
    | refine below_set ?_ (by simp)
set_option maxHeartbeats 1000000 in
set_option maxRecDepth 100000 in
theorem refFront_2 (a b c d x : Int) (w : World) (h0 : x ≠ a) (h1 : x ≠ b) (h2 : x = c) :
    Calls Try.prog 25 #[rowVal a b c d, .int .i64 x] w fun e w' => e = .returned (rowVal x a b d) ∧ Below w.heap.size w w' := by
  subst h2
  have e2 : (x != x) = false := by simp
  have f0 : (a == x) = false := beq_eq_false_iff_ne.2 (Ne.symm h0)
  have g0 : (a != x) = true := bne_iff_ne.2 (Ne.symm h0)
  clear h0
  have f1 : (b == x) = false := beq_eq_false_iff_ne.2 (Ne.symm h1)
  have g1 : (b != x) = true := bne_iff_ne.2 (Ne.symm h1)
  clear h1
  have HB0 := Aside0.mk (Below.refl w.heap.size w)
  unfold rowVal
  go_enter Try.func25, Try.ntmps25
  go_wp2_with fail
  refine wp_loop_rounds 3 ?_
  rw [rounds_succ]
  go_wp2
  rw [rounds_succ]
  go_wp2
  rw [rounds_succ]
  go_wp2
  refine wp_loop_rounds 5 ?_
  rw [rounds_succ]
  go_wp2
  rw [rounds_succ]
  go_wp2
  rw [rounds_succ]
  go_wp2
  rw [rounds_succ]
  go_wp2
  rw [rounds_succ]
  go_wp2
  refine bodyPost_ret (v := .agg #[.int .i64 x, .int .i64 a, .int .i64 b, .int .i64 d]) (by simp [results, Try.results25, go_sem]) rfl ⟨rfl, ?_⟩
  repeat' first
    | exact HB0.out
    | apply below_alloc
    | apply pw_below_drewN
    | apply below_drew1
    | refine below_set ?_ (by simp)
set_option maxHeartbeats 1000000 in
set_option maxRecDepth 100000 in
theorem refFront_3 (a b c d x : Int) (w : World) (h0 : x ≠ a) (h1 : x ≠ b) (h2 : x ≠ c) :
    Calls Try.prog 25 #[rowVal a b c d, .int .i64 x] w fun e w' => e = .returned (rowVal x a b c) ∧ Below w.heap.size w w' := by
  have f0 : (a == x) = false := beq_eq_false_iff_ne.2 (Ne.symm h0)
  have g0 : (a != x) = true := bne_iff_ne.2 (Ne.symm h0)
  clear h0
  have f1 : (b == x) = false := beq_eq_false_iff_ne.2 (Ne.symm h1)
  have g1 : (b != x) = true := bne_iff_ne.2 (Ne.symm h1)
  clear h1
  have f2 : (c == x) = false := beq_eq_false_iff_ne.2 (Ne.symm h2)
  have g2 : (c != x) = true := bne_iff_ne.2 (Ne.symm h2)
  clear h2
  have HB0 := Aside0.mk (Below.refl w.heap.size w)
  unfold rowVal
  go_enter Try.func25, Try.ntmps25
  go_wp2_with fail
  refine wp_loop_rounds 4 ?_
  rw [rounds_succ]
  go_wp2
  rw [rounds_succ]
  go_wp2
  rw [rounds_succ]
  go_wp2
  rw [rounds_succ]
  go_wp2
  refine wp_loop_rounds 5 ?_
  rw [rounds_succ]
  go_wp2
  rw [rounds_succ]
  go_wp2
  rw [rounds_succ]
  go_wp2
  rw [rounds_succ]
  go_wp2
  rw [rounds_succ]
  go_wp2
  refine bodyPost_ret (v := .agg #[.int .i64 x, .int .i64 a, .int .i64 b, .int .i64 c]) (by simp [results, Try.results25, go_sem]) rfl ⟨rfl, ?_⟩
  repeat' first
    | exact HB0.out
    | apply below_alloc
    | apply pw_below_drewN
    | apply below_drew1
    | refine below_set ?_ (by simp)
theorem refFront_calls (a b c d x : Int) (w : World) :
    Calls Try.prog 25 #[rowVal a b c d, .int .i64 x] w fun e w' => e = .returned (rowVal (front a b c d x).1 (front a b c d x).2.1 (front a b c d x).2.2.1 (front a b c d x).2.2.2) ∧ Below w.heap.size w w' := by
  by_cases h0 : x = a
  · have e : front a b c d x = (x, b, c, d) := by unfold front; rw [if_pos h0]
    rw [e]; exact refFront_0 a b c d x w h0
  · by_cases h1 : x = b
    · have e : front a b c d x = (x, a, c, d) := by unfold front; rw [if_neg h0, if_pos h1]
      rw [e]; exact refFront_1 a b c d x w h0 h1
    · by_cases h2 : x = c
      · have e : front a b c d x = (x, a, b, d) := by unfold front; rw [if_neg h0, if_neg h1, if_pos h2]
        rw [e]; exact refFront_2 a b c d x w h0 h1 h2
      · have e : front a b c d x = (x, a, b, c) := by unfold front; rw [if_neg h0, if_neg h1, if_neg h2]
        rw [e]; exact refFront_3 a b c d x w h0 h1 h2
end Go.Proofs.Ytaooiffnpnmdeaa.PIx
