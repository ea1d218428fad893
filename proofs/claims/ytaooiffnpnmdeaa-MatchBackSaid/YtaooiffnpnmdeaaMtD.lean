/- The matcher's 'better' (the closure in longest): what it tells and leaves. -/
import Derived.Test.YtaooiffnpnmdeaaMtC
import Derived.RangeFuncBox
import Derived.RangeFuncNested
namespace Go.Proofs.Ytaooiffnpnmdeaa.Mt
open Go.RowKit Go.Proofs.YtaooiffnpnmdeaaW.PrintWords Go.Proofs.YtaooiffnpnmdeaaW.PrintLast Go.Proofs.YtaooiffnpnmdeaaW.PrintMore
set_option linter.unusedVariables false
set_option linter.unusedSimpArgs false
/-- What better looks at and what it turns: the place, the finder, the length and the distance so far, each in its box. -/
structure BX (W : World) (bA bF bL bD g : Nat) (s : ByteArray) (p L E : Nat) : Prop where
  a : Boxed W bA 3 (.int .i64 (p : Int))
  f : Boxed W bF 45 (.pointer (some ⟨g, 0, none⟩))
  l : Boxed W bL 3 (.int .i64 (L : Int))
  d : Boxed W bD 3 (.int .i64 (E : Int))
  c : W.cell? ⟨g, 0, none⟩ = some (.string s)
  ld : bL ≠ bD
  al : bA ≠ bL
/-- Whatever lies there and is not the length's box nor the distance's. -/
def Not2 (n bL bD : Nat) (k : Nat) : Prop := k < n ∧ k ≠ bL ∧ k ≠ bD
theorem bool_ret {b c : Bool} (h : b = c) : Ending.returned (.bool b) = .returned (.bool c) := by rw [h]
set_option maxHeartbeats 1000000 in
theorem better_skip (bA bF bL bD g : Nat) (s : ByteArray) (p L E q : Nat) (W : World) (h : BX W bA bF bL bD g s p L E) (hq : p ≤ q) (hb : q ≤ 100000) :
    Calls Try.prog 28 #[.int .i64 (q : Int), .pointer (some ⟨bA, 0, none⟩), .pointer (some ⟨bF, 0, none⟩), .pointer (some ⟨bL, 0, none⟩), .pointer (some ⟨bD, 0, none⟩)] W fun e W' => e = .returned (.bool true) ∧ W = W' := by
  have c1 := h.a.cell
  have d1 : decide (q < p) = false := decide_eq_false (by omega)
  have d2 : decide (p ≤ q) = true := decide_eq_true (by omega)
  clear h
  go_enter Try.func28, Try.ntmps28
  go_wp2_with fail
  go_ret
  exact ⟨rfl, rfl⟩
set_option maxHeartbeats 1000000 in
theorem better_far (bA bF bL bD g : Nat) (s : ByteArray) (p L E q : Nat) (W : World) (h : BX W bA bF bL bD g s p L E) (hq : q < p) (hf : 32768 < p - q) (hb : p ≤ 100000) :
    Calls Try.prog 28 #[.int .i64 (q : Int), .pointer (some ⟨bA, 0, none⟩), .pointer (some ⟨bF, 0, none⟩), .pointer (some ⟨bL, 0, none⟩), .pointer (some ⟨bD, 0, none⟩)] W fun e W' => e = .returned (.bool false) ∧ W = W' := by
  have c1 := h.a.cell
  have d1 : decide (q < p) = true := decide_eq_true (by omega)
  have d2 : decide (p ≤ q) = false := decide_eq_false (by omega)
  have d3 : decide ((32768 : Int) < (p : Int) - (q : Int)) = true := decide_eq_true (by omega)
  have d4 : (32768 : Int) < (p : Int) - (q : Int) := by omega
  clear h
  go_enter Try.func28, Try.ntmps28
  go_wp2_with fail
  go_ret
  exact ⟨rfl, rfl⟩
/-- One distance tried: the longer match, and how far back. -/
def stepB (s : ByteArray) (p q : Nat) (r : Nat × Nat) : Nat × Nat := if r.1 < ml s p (p - q) then (ml s p (p - q), p - q) else r
set_option maxHeartbeats 4000000 in
set_option maxRecDepth 100000 in
theorem better_try (bA bF bL bD g : Nat) (s : ByteArray) (p L E q : Nat) (W : World) (h : BX W bA bF bL bD g s p L E) (hq : q < p) (hf : p - q ≤ 32768) (hp : p ≤ s.size) (hs : s.size ≤ 90000) (hL : L ≤ 258) :
    Calls Try.prog 28 #[.int .i64 (q : Int), .pointer (some ⟨bA, 0, none⟩), .pointer (some ⟨bF, 0, none⟩), .pointer (some ⟨bL, 0, none⟩), .pointer (some ⟨bD, 0, none⟩)] W fun e W' =>
      e = .returned (.bool (decide ((stepB s p q (L, E)).1 < 258))) ∧ Boxed W' bL 3 (.int .i64 ((stepB s p q (L, E)).1 : Int)) ∧ Boxed W' bD 3 (.int .i64 ((stepB s p q (L, E)).2 : Int)) ∧ Keep (Not2 W.heap.size bL bD) W W' ∧ W.heap.size = W'.heap.size := by
  have c1 := h.a.cell
  have c2 := h.f.cell
  have c3 := h.l.cell
  have HH := Aside0.mk h
  have d1 : decide (q < p) = true := decide_eq_true (by omega)
  have d2 : decide (p ≤ q) = false := decide_eq_false (by omega)
  have d3 : decide ((32768 : Int) < (p : Int) - (q : Int)) = false := decide_eq_false (by omega)
  have d4 : ¬ (32768 : Int) < (p : Int) - (q : Int) := by omega
  clear h
  have hm := ml_le s p (p - q)
  have hal := alike_calls g p q s W hp hq (by omega) HH.out.c
  obtain ⟨m, hme⟩ : ∃ m, ml s p (p - q) = m := ⟨_, rfl⟩
  have hst : stepB s p q (L, E) = if L < m then (m, p - q) else (L, E) := by unfold stepB; rw [hme]
  rw [hst]
  rw [hme] at hm hal
  have HAL := Aside0.mk hal
  clear hst hme hal
  by_cases hlt : L < m
  · rw [if_pos hlt]
    have dm : decide (L < m) = true := decide_eq_true hlt
    go_enter Try.func28, Try.ntmps28
    go_wp2_with fail
    refine HAL.out.mono ?_
    rintro e w' ⟨rfl, n, rfl⟩
    clear d1 d2 d3 d4 c1 c2 c3
    have c3' : (W.drewN n).cell? ⟨bL, 0, none⟩ = some (.int .i64 (L : Int)) := HH.out.l.cell
    have c1' : (W.drewN n).cell? ⟨bA, 0, none⟩ = some (.int .i64 (p : Int)) := HH.out.a.cell
    have b0 : Boxed (W.drewN n).drew bA 3 (.int .i64 (p : Int)) := HH.out.a
    have hal := HH.out.al
    have b1 : Boxed (W.drewN n).drew bL 3 (.int .i64 (L : Int)) := HH.out.l
    have b2 : Boxed (W.drewN n).drew bD 3 (.int .i64 (E : Int)) := HH.out.d
    have hdl : bD ≠ bL := fun e => HH.out.ld e.symm
    have hk : Keep (Not2 W.heap.size bL bD) W (W.drewN n).drew := ⟨rfl, rfl, rfl, Nat.le_refl _, fun _ _ => rfl⟩
    have hsz : W.heap.size = (W.drewN n).drew.heap.size := rfl
    have hpq : ((p : Int) - (q : Int)) = ((p - q : Nat) : Int) := by omega
    have hw2 : IntKind.i64.wrap ((p - q : Nat) : Int) = ((p - q : Nat) : Int) := IntWalk.i64_in _ (by omega)
    go_wp2_with fail
--REG5
    refine start_ (n := 6) (S := fun w' => w'.cell? ⟨bA, 0, none⟩ = some (.int .i64 (p : Int))) (ds := [5]) #[false, false, false, false, false, false] (by kernel_rfl) rfl rfl c1' (fun hHeld => ?_)
    generalize hX : (W.drewN n).drew = X at hHeld b0 b1 b2 hk hsz ⊢
    clear hX
    have x3 := b1.cell
    have y3 := b1.frozen
    have e1 := b1.set (.int .i64 (m : Int))
    have e2 := b2.other hdl (.int .i64 (m : Int))
    have x4 := e2.cell
    have y4 := e2.frozen
    refine pure_ (i := 0) (N := some 27) (v := ?_) (a' := ?_) #[true, false, false, false, false, false] rfl rfl (by kernel_rfl) (fun _ _ _ h => h) (Or.inl ⟨by rfl, ?_⟩) ?_ ?_
    rotate_left
    · intro w'
      go_simp
      with_reducible rfl
    rotate_left
    · simp only [Act.put, List.setIfInBounds_toArray, List.set_cons_zero, List.set_cons_succ, i64_w, i32_w]
      rfl
    refine pure_ (i := 2) (N := some 29) (v := ?_) (a' := ?_) #[true, false, true, false, false, false] rfl rfl (by kernel_rfl) (fun _ _ _ h => h) (Or.inl ⟨by rfl, ?_⟩) ?_ ?_
    rotate_left
    · intro w'
      go_simp
      with_reducible rfl
    rotate_left
    · simp only [Act.put, List.setIfInBounds_toArray, List.set_cons_zero, List.set_cons_succ, i64_w, i32_w]
      rfl
    refine take_ (i := 1) (N := some 28) (v := ?_) (a' := ?_) #[true, true, true, false, false, false] rfl rfl (by kernel_rfl) (fun _ _ _ h => h) (Or.inl ⟨by rfl, ?_⟩) hHeld ?_ ?_
    rotate_left
    · intro w' s0
      go_simp
      with_reducible rfl
    rotate_left
    · simp only [Act.put, List.setIfInBounds_toArray, List.set_cons_zero, List.set_cons_succ, i64_w, i32_w]
      rfl
    refine pure_ (i := 3) (N := some 30) (v := ?_) (a' := ?_) #[true, true, true, true, false, false] rfl rfl (by kernel_rfl) (fun _ _ _ h => h) (Or.inl ⟨by rfl, ?_⟩) ?_ ?_
    rotate_left
    · intro w'
      go_simp
      with_reducible rfl
    rotate_left
    · simp only [Act.put, List.setIfInBounds_toArray, List.set_cons_zero, List.set_cons_succ, i64_w, i32_w]
      rfl
    refine one_ (i := 4) (N := none) #[true, true, true, true, true, false] rfl rfl (by kernel_rfl) (by decide) (fun K hK => ?_)
    refine skip_ (w1 := ?_) (by rfl) rfl ?_ ?_
    rotate_left
    · go_simp
      rfl
    refine hK.out _ _ ((b0.other hal (.int .i64 (m : Int))).cell) (fun hHeld => ?_)
    clear hK K
    refine last_ (i := 5) (N := none) #[true, true, true, true, true, true] rfl rfl (by kernel_rfl) (by decide) (fun K hK => ?_)
    refine skip_ (w1 := ?_) (by rfl) rfl ?_ ?_
    rotate_left
    · go_simp
      rfl
    refine hK.out _ _ ?_
    clear hK K
    refine done_ (by kernel_rfl) ?_
--REG5
    have e3 := e2.set (.int .i64 ((p - q : Nat) : Int))
    have e4 := e1.other hdl.symm (.int .i64 ((p - q : Nat) : Int))
    have x5 := e4.cell
    have hk2 := (hk.trans (Keep.grown (grownBy_setCell' X bL (.int .i64 (m : Int))) (fun k h => ⟨by have := h.1; omega, fun e => h.2.1 (Option.some.inj e)⟩))).trans (Keep.grown (grownBy_setCell' (X.setCell ⟨bL, 0, none⟩ (.int .i64 (m : Int))) bD (.int .i64 ((p - q : Nat) : Int))) (fun k h => ⟨by have := h.1; simp; omega, fun e => h.2.2 (Option.some.inj e)⟩))
    have FIN := Aside0.mk (And.intro e4 (And.intro e3 (And.intro hk2 hsz)))
    clear e1 e2 e3 e4 hk hk2 hsz b0 b1 b2 x3 y3 x4 y4
    go_wp2_with fail
    go_ret
    obtain ⟨f1, f2, f3, f4⟩ := FIN.out
    exact ⟨(show Ending.returned (Value.bool (decide ((m : Int) < 258))) = _ from bool_ret (decide_eq_decide.2 (by omega))), f1, f2, f3, f4.trans (by simp)⟩
  · rw [if_neg hlt]
    have dm : decide (L < m) = false := decide_eq_false hlt
    go_enter Try.func28, Try.ntmps28
    go_wp2_with fail
    refine HAL.out.mono ?_
    rintro e w' ⟨rfl, n, rfl⟩
    have c3' : (W.drewN n).cell? ⟨bL, 0, none⟩ = some (.int .i64 (L : Int)) := c3
    go_wp2_with fail
    go_ret
    exact ⟨(show Ending.returned (Value.bool (decide ((L : Int) < 258))) = _ from bool_ret (decide_eq_decide.2 (by omega))), HH.out.l, HH.out.d, (Keep.refl _ _).drewN n, rfl⟩
end Go.Proofs.Ytaooiffnpnmdeaa.Mt
