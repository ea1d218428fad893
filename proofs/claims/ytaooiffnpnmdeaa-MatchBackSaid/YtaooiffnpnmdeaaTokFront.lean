import Derived.Test.YtaooiffnpnmdeaaPIxx1
import Derived.Outline
namespace Go.Proofs.Ytaooiffnpnmdeaa.PIx
open Go.RowKit Go.Proofs.YtaooiffnpnmdeaaW.PrintWords Go.Proofs.YtaooiffnpnmdeaaW.PrintLast Go.Proofs.YtaooiffnpnmdeaaW.PrintMore
attribute [local go_sem] max2_int min2_int max_two min_two max_three min_three max_four min_four
set_option linter.unusedVariables false
set_option linter.unusedSimpArgs false

/-- Where a distance stands in a row. -/
def rowAt (a b c d x : Int) : Int := if x = a then 0 else if x = b then 1 else if x = c then 2 else if x = d then 3 else -1
theorem index_step (L : List Int) (x : Int) (hL : L.length = 4) (k i : Nat) (hi : i < 4) :
    slices_Index_int_int.l0 (k + 1) L x (L.length : Int) (i : Int) = if x = L.getD i 0 then some (i : Int) else slices_Index_int_int.l0 k L x (L.length : Int) ((i + 1 : Nat) : Int) := by
  simp only [slices_Index_int_int.l0]
  rw [if_pos (by omega), if_pos (by omega), if_pos (by omega), rd, Int.toNat_natCast, show wrap64 ((i : Int) + 1) = ((i + 1 : Nat) : Int) by unfold wrap64; omega]
theorem index_end (L : List Int) (x : Int) (hL : L.length = 4) (k : Nat) : slices_Index_int_int.l0 (k + 1) L x (L.length : Int) ((4 : Nat) : Int) = some (-1) := by
  simp only [slices_Index_int_int.l0]
  rw [if_neg (by omega)]
theorem index4 (a b c d x : Int) : slices_Index_int_int.f 10 [a, b, c, d] x = some (rowAt a b c d x) := by
  have h : slices_Index_int_int.f 10 [a, b, c, d] x = slices_Index_int_int.l0 (9 + 1) [a, b, c, d] x (([a, b, c, d] : List Int).length : Int) ((0 : Nat) : Int) := rfl
  rw [h, index_step _ x rfl 9 0 (by decide), index_step _ x rfl 8 1 (by decide), index_step _ x rfl 7 2 (by decide), index_step _ x rfl 6 3 (by decide), index_end _ x rfl 5]
  unfold rowAt
  show (if x = a then some _ else if x = b then some _ else if x = c then some _ else if x = d then some _ else _) = _
  by_cases h0 : x = a
  · rw [if_pos h0, if_pos h0]; rfl
  · rw [if_neg h0, if_neg h0]
    by_cases h1 : x = b
    · rw [if_pos h1, if_pos h1]; rfl
    · rw [if_neg h1, if_neg h1]
      by_cases h2 : x = c
      · rw [if_pos h2, if_pos h2]; rfl
      · rw [if_neg h2, if_neg h2]
        by_cases h3 : x = d
        · rw [if_pos h3, if_pos h3]; rfl
        · rw [if_neg h3, if_neg h3]
def rowVal (a b c d : Int) : Value := .agg #[.int .i64 a, .int .i64 b, .int .i64 c, .int .i64 d]
theorem row_reads (w : World) (g : Nat) (a b c d : Int) (h : w.heap[g]? = some (.cells #[.int .i64 a, .int .i64 b, .int .i64 c, .int .i64 d] 42 (0, 0))) : Kd.C (Kd.int .i64) w (some ⟨g, 0, none⟩) 4 [a, b, c, d] := by
  refine Kd.C_of_reads (enc := Value.int .i64) (d := (0 : Int)) (h1 := fun _ => rfl) ⟨rfl, by decide, fun _ => ⟨_, rfl, fun j hj => ?_⟩⟩
  rw [add_plain, blk_cell h]
  match j, hj with
  | 0, _ => rfl
  | 1, _ => rfl
  | 2, _ => rfl
  | 3, _ => rfl
set_option maxHeartbeats 1000000 in
set_option maxRecDepth 100000 in
theorem token_Front_0 (a b c d x : Int) (w : World) (hx : rowAt a b c d x = 0) :
    Calls Try.prog 22 #[rowVal a b c d, .int .i64 x] w fun e w' => e = .returned (rowVal x b c d) ∧ Below w.heap.size w w' := by
  have hI := Aside0.mk (index4 a b c d x)
  rw [hx] at hI
  clear hx
  unfold rowVal
  go_enter Try.func22, Try.ntmps22
  go_wp2_with fail
  have hrd := row_reads ((w.alloc (.cells #[.int .i64 a, .int .i64 b, .int .i64 c, .int .i64 d] 42)).alloc (.cells #[.int .i64 0, .int .i64 0, .int .i64 0, .int .i64 0] 42)) w.heap.size a b c d (by have := heap_alloc_new w (.cells #[.int .i64 a, .int .i64 b, .int .i64 c, .int .i64 d] 42); rw [Below.heap_alloc _ _ _ (by simp)]; exact this)
  refine (slices_Index_int_int.calls 10 _ 4 [a, b, c, d] x _ _ hrd (by simp) hI.out).mono ?_
  clear hrd
  rintro e w1 ⟨rfl, ⟨q, rfl⟩⟩
  have HB0 := Aside0.mk (pw_below_drewN (below_alloc (below_alloc (Below.refl w.heap.size w) (.cells #[.int .i64 a, .int .i64 b, .int .i64 c, .int .i64 d] 42)) (.cells #[.int .i64 0, .int .i64 0, .int .i64 0, .int .i64 0] 42)) q)
  go_wp2
  refine wp_loop_rounds 1 ?_
  rw [rounds_succ]
  go_wp2
  refine bodyPost_ret (v := .agg #[.int .i64 x, .int .i64 b, .int .i64 c, .int .i64 d]) (by simp [results, Try.results11, go_sem]) rfl ⟨rfl, ?_⟩
  refine below_set ?_ (by simp)
  refine below_set ?_ (by simp)
  refine below_set ?_ (by simp)
  refine below_set ?_ (by simp)
  refine below_set ?_ (by simp)
  exact HB0.out
set_option maxHeartbeats 1000000 in
set_option maxRecDepth 100000 in
theorem token_Front_1 (a b c d x : Int) (w : World) (hx : rowAt a b c d x = 1) :
    Calls Try.prog 22 #[rowVal a b c d, .int .i64 x] w fun e w' => e = .returned (rowVal x a c d) ∧ Below w.heap.size w w' := by
  have hI := Aside0.mk (index4 a b c d x)
  rw [hx] at hI
  clear hx
  unfold rowVal
  go_enter Try.func22, Try.ntmps22
  go_wp2_with fail
  have hrd := row_reads ((w.alloc (.cells #[.int .i64 a, .int .i64 b, .int .i64 c, .int .i64 d] 42)).alloc (.cells #[.int .i64 0, .int .i64 0, .int .i64 0, .int .i64 0] 42)) w.heap.size a b c d (by have := heap_alloc_new w (.cells #[.int .i64 a, .int .i64 b, .int .i64 c, .int .i64 d] 42); rw [Below.heap_alloc _ _ _ (by simp)]; exact this)
  refine (slices_Index_int_int.calls 10 _ 4 [a, b, c, d] x _ _ hrd (by simp) hI.out).mono ?_
  clear hrd
  rintro e w1 ⟨rfl, ⟨q, rfl⟩⟩
  have HB0 := Aside0.mk (pw_below_drewN (below_alloc (below_alloc (Below.refl w.heap.size w) (.cells #[.int .i64 a, .int .i64 b, .int .i64 c, .int .i64 d] 42)) (.cells #[.int .i64 0, .int .i64 0, .int .i64 0, .int .i64 0] 42)) q)
  go_wp2
  refine wp_loop_rounds 2 ?_
  rw [rounds_succ]
  go_wp2
  rw [rounds_succ]
  go_wp2
  refine bodyPost_ret (v := .agg #[.int .i64 x, .int .i64 a, .int .i64 c, .int .i64 d]) (by simp [results, Try.results11, go_sem]) rfl ⟨rfl, ?_⟩
  refine below_set ?_ (by simp)
  refine below_set ?_ (by simp)
  refine below_set ?_ (by simp)
  refine below_set ?_ (by simp)
  refine below_set ?_ (by simp)
  refine below_set ?_ (by simp)
  exact HB0.out
set_option maxHeartbeats 1000000 in
set_option maxRecDepth 100000 in
theorem token_Front_2 (a b c d x : Int) (w : World) (hx : rowAt a b c d x = 2) :
    Calls Try.prog 22 #[rowVal a b c d, .int .i64 x] w fun e w' => e = .returned (rowVal x a b d) ∧ Below w.heap.size w w' := by
  have hI := Aside0.mk (index4 a b c d x)
  rw [hx] at hI
  clear hx
  unfold rowVal
  go_enter Try.func22, Try.ntmps22
  go_wp2_with fail
  have hrd := row_reads ((w.alloc (.cells #[.int .i64 a, .int .i64 b, .int .i64 c, .int .i64 d] 42)).alloc (.cells #[.int .i64 0, .int .i64 0, .int .i64 0, .int .i64 0] 42)) w.heap.size a b c d (by have := heap_alloc_new w (.cells #[.int .i64 a, .int .i64 b, .int .i64 c, .int .i64 d] 42); rw [Below.heap_alloc _ _ _ (by simp)]; exact this)
  refine (slices_Index_int_int.calls 10 _ 4 [a, b, c, d] x _ _ hrd (by simp) hI.out).mono ?_
  clear hrd
  rintro e w1 ⟨rfl, ⟨q, rfl⟩⟩
  have HB0 := Aside0.mk (pw_below_drewN (below_alloc (below_alloc (Below.refl w.heap.size w) (.cells #[.int .i64 a, .int .i64 b, .int .i64 c, .int .i64 d] 42)) (.cells #[.int .i64 0, .int .i64 0, .int .i64 0, .int .i64 0] 42)) q)
  go_wp2
  refine wp_loop_rounds 3 ?_
  rw [rounds_succ]
  go_wp2
  rw [rounds_succ]
  go_wp2
  rw [rounds_succ]
  go_wp2
  refine bodyPost_ret (v := .agg #[.int .i64 x, .int .i64 a, .int .i64 b, .int .i64 d]) (by simp [results, Try.results11, go_sem]) rfl ⟨rfl, ?_⟩
  refine below_set ?_ (by simp)
  refine below_set ?_ (by simp)
  refine below_set ?_ (by simp)
  refine below_set ?_ (by simp)
  refine below_set ?_ (by simp)
  refine below_set ?_ (by simp)
  refine below_set ?_ (by simp)
  exact HB0.out
set_option maxHeartbeats 1000000 in
set_option maxRecDepth 100000 in
theorem token_Front_3 (a b c d x : Int) (w : World) (hx : rowAt a b c d x = 3) :
    Calls Try.prog 22 #[rowVal a b c d, .int .i64 x] w fun e w' => e = .returned (rowVal x a b c) ∧ Below w.heap.size w w' := by
  have hI := Aside0.mk (index4 a b c d x)
  rw [hx] at hI
  clear hx
  unfold rowVal
  go_enter Try.func22, Try.ntmps22
  go_wp2_with fail
  have hrd := row_reads ((w.alloc (.cells #[.int .i64 a, .int .i64 b, .int .i64 c, .int .i64 d] 42)).alloc (.cells #[.int .i64 0, .int .i64 0, .int .i64 0, .int .i64 0] 42)) w.heap.size a b c d (by have := heap_alloc_new w (.cells #[.int .i64 a, .int .i64 b, .int .i64 c, .int .i64 d] 42); rw [Below.heap_alloc _ _ _ (by simp)]; exact this)
  refine (slices_Index_int_int.calls 10 _ 4 [a, b, c, d] x _ _ hrd (by simp) hI.out).mono ?_
  clear hrd
  rintro e w1 ⟨rfl, ⟨q, rfl⟩⟩
  have HB0 := Aside0.mk (pw_below_drewN (below_alloc (below_alloc (Below.refl w.heap.size w) (.cells #[.int .i64 a, .int .i64 b, .int .i64 c, .int .i64 d] 42)) (.cells #[.int .i64 0, .int .i64 0, .int .i64 0, .int .i64 0] 42)) q)
  go_wp2
  refine wp_loop_rounds 4 ?_
  rw [rounds_succ]
  go_wp2
  rw [rounds_succ]
  go_wp2
  rw [rounds_succ]
  go_wp2
  rw [rounds_succ]
  go_wp2
  refine bodyPost_ret (v := .agg #[.int .i64 x, .int .i64 a, .int .i64 b, .int .i64 c]) (by simp [results, Try.results11, go_sem]) rfl ⟨rfl, ?_⟩
  refine below_set ?_ (by simp)
  refine below_set ?_ (by simp)
  refine below_set ?_ (by simp)
  refine below_set ?_ (by simp)
  refine below_set ?_ (by simp)
  refine below_set ?_ (by simp)
  refine below_set ?_ (by simp)
  refine below_set ?_ (by simp)
  exact HB0.out
set_option maxHeartbeats 1000000 in
set_option maxRecDepth 100000 in
theorem token_Front_n (a b c d x : Int) (w : World) (hx : rowAt a b c d x = -1) :
    Calls Try.prog 22 #[rowVal a b c d, .int .i64 x] w fun e w' => e = .returned (rowVal x a b c) ∧ Below w.heap.size w w' := by
  have hI := Aside0.mk (index4 a b c d x)
  rw [hx] at hI
  clear hx
  unfold rowVal
  go_enter Try.func22, Try.ntmps22
  go_wp2_with fail
  have hrd := row_reads ((w.alloc (.cells #[.int .i64 a, .int .i64 b, .int .i64 c, .int .i64 d] 42)).alloc (.cells #[.int .i64 0, .int .i64 0, .int .i64 0, .int .i64 0] 42)) w.heap.size a b c d (by have := heap_alloc_new w (.cells #[.int .i64 a, .int .i64 b, .int .i64 c, .int .i64 d] 42); rw [Below.heap_alloc _ _ _ (by simp)]; exact this)
  refine (slices_Index_int_int.calls 10 _ 4 [a, b, c, d] x _ _ hrd (by simp) hI.out).mono ?_
  clear hrd
  rintro e w1 ⟨rfl, ⟨q, rfl⟩⟩
  have HB0 := Aside0.mk (pw_below_drewN (below_alloc (below_alloc (Below.refl w.heap.size w) (.cells #[.int .i64 a, .int .i64 b, .int .i64 c, .int .i64 d] 42)) (.cells #[.int .i64 0, .int .i64 0, .int .i64 0, .int .i64 0] 42)) q)
  go_wp2
  refine wp_loop_rounds 4 ?_
  rw [rounds_succ]
  go_wp2
  rw [rounds_succ]
  go_wp2
  rw [rounds_succ]
  go_wp2
  rw [rounds_succ]
  go_wp2
  refine bodyPost_ret (v := .agg #[.int .i64 x, .int .i64 a, .int .i64 b, .int .i64 c]) (by simp [results, Try.results11, go_sem]) rfl ⟨rfl, ?_⟩
  refine below_set ?_ (by simp)
  refine below_set ?_ (by simp)
  refine below_set ?_ (by simp)
  refine below_set ?_ (by simp)
  refine below_set ?_ (by simp)
  refine below_set ?_ (by simp)
  refine below_set ?_ (by simp)
  refine below_set ?_ (by simp)
  exact HB0.out
/-- A distance at the front of a row. -/
def front (a b c d x : Int) : Int × Int × Int × Int := if x = a then (x, b, c, d) else if x = b then (x, a, c, d) else if x = c then (x, a, b, d) else (x, a, b, c)
theorem token_Front_calls (a b c d x : Int) (w : World) :
    Calls Try.prog 22 #[rowVal a b c d, .int .i64 x] w fun e w' => e = .returned (rowVal (front a b c d x).1 (front a b c d x).2.1 (front a b c d x).2.2.1 (front a b c d x).2.2.2) ∧ Below w.heap.size w w' := by
  by_cases h0 : x = a
  · have e : front a b c d x = (x, b, c, d) := by unfold front; rw [if_pos h0]
    rw [e]; exact token_Front_0 a b c d x w (by unfold rowAt; rw [if_pos h0])
  · by_cases h1 : x = b
    · have e : front a b c d x = (x, a, c, d) := by unfold front; rw [if_neg h0, if_pos h1]
      rw [e]; exact token_Front_1 a b c d x w (by unfold rowAt; rw [if_neg h0, if_pos h1])
    · by_cases h2 : x = c
      · have e : front a b c d x = (x, a, b, d) := by unfold front; rw [if_neg h0, if_neg h1, if_pos h2]
        rw [e]; exact token_Front_2 a b c d x w (by unfold rowAt; rw [if_neg h0, if_neg h1, if_pos h2])
      · have e : front a b c d x = (x, a, b, c) := by unfold front; rw [if_neg h0, if_neg h1, if_neg h2]
        rw [e]
        by_cases h3 : x = d
        · exact token_Front_3 a b c d x w (by unfold rowAt; rw [if_neg h0, if_neg h1, if_neg h2, if_pos h3])
        · exact token_Front_n a b c d x w (by unfold rowAt; rw [if_neg h0, if_neg h1, if_neg h2, if_neg h3])
end Go.Proofs.Ytaooiffnpnmdeaa.PIx
