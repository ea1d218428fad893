-- Made by a program of this session (wip/tools/pp.py) out of the seat's translation; contracts of some functions are typed by hand.
import Derived.Test.YtaooiffnpnmdeaaPMtx0
import Derived.Test.YtaooiffnpnmdeaaPMtx13
import Derived.Test.YtaooiffnpnmdeaaPMtx14
namespace Go.Proofs.Ytaooiffnpnmdeaa.PMt
open Go.RowKit Go.Proofs.YtaooiffnpnmdeaaW.PrintWords Go.Proofs.YtaooiffnpnmdeaaW.PrintLast Go.Proofs.YtaooiffnpnmdeaaW.PrintMore
attribute [local go_sem] max2_int min2_int max_two min_two max_three min_three max_four min_four   -- for this text's walks alone
set_option linter.unusedVariables false
set_option linter.unusedSimpArgs false

/-! ### hamperlaw15_MatchLocal: function 8 -/
mutual
def hamperlaw15_MatchLocal.j0 : Nat → ByteArray → Int → Bool → Option (Bool)
  | 0, _, _, _ => none
  | k + 1, x0, x1, x25 => if x25 = true then ((hamperlaw15_works.f k).bind fun t169 => (some t169)) else ((match_Longest.f x0 x1).bind fun bt170 => (if ((bt170.1 == 0) != (bt170.2 == 0)) = true then (hamperlaw15_MatchLocal.j1 k x0 x1 bt170.1 bt170.2 true) else (if bt170.1 > 0 then (if bt170.1 < 3 then (hamperlaw15_MatchLocal.j1 k x0 x1 bt170.1 bt170.2 true) else (if bt170.1 > 258 then (hamperlaw15_MatchLocal.j1 k x0 x1 bt170.1 bt170.2 true) else (if bt170.2 < 1 then (hamperlaw15_MatchLocal.j1 k x0 x1 bt170.1 bt170.2 true) else (hamperlaw15_MatchLocal.j1 k x0 x1 bt170.1 bt170.2 (decide (bt170.2 > x1)))))) else (hamperlaw15_MatchLocal.j1 k x0 x1 bt170.1 bt170.2 false))))
def hamperlaw15_MatchLocal.j1 : Nat → ByteArray → Int → Int → Int → Bool → Option (Bool)
  | 0, _, _, _, _, _ => none
  | k + 1, x0, x1, x5, x6, x58 => if x58 = true then (some false) else (hamperlaw15_MatchLocal.l0 k x0 x1 x5 x6 1)
def hamperlaw15_MatchLocal.l0 : Nat → ByteArray → Int → Int → Int → Int → Option (Bool)
  | 0, _, _, _, _, _ => none
  | k + 1, x0, x1, x5, x6, x7 => if x7 ≤ x1 then (hamperlaw15_MatchLocal.l1 k x0 x1 x5 x6 x7 0) else (some true)
def hamperlaw15_MatchLocal.l1 : Nat → ByteArray → Int → Int → Int → Int → Int → Option (Bool)
  | 0, _, _, _, _, _, _ => none
  | k + 1, x0, x1, x5, x6, x7, x8 => if x8 < 258 then (if (wrap64 (x1 + x8)) < (x0.size : Int) then (if 0 ≤ (wrap64 (x1 + x8)) then (if 0 ≤ (wrap64 ((wrap64 (x1 + x8)) - x7)) then (if (wrap64 ((wrap64 (x1 + x8)) - x7)) < (x0.size : Int) then (if (bt x0 (wrap64 (x1 + x8))) = (bt x0 (wrap64 ((wrap64 (x1 + x8)) - x7))) then (hamperlaw15_MatchLocal.l1 k x0 x1 x5 x6 x7 (wrap64 (x8 + 1))) else (if x8 ≥ 3 then (if x8 > x5 then (some false) else (if x8 = x5 then (if x7 < x6 then (some false) else (if x7 = x6 then (hamperlaw15_MatchLocal.l0 k x0 x1 x5 x6 (wrap64 (x7 + 1))) else (hamperlaw15_MatchLocal.l0 k x0 x1 x5 x6 (wrap64 (x7 + 1))))) else (if x7 = x6 then (some false) else (hamperlaw15_MatchLocal.l0 k x0 x1 x5 x6 (wrap64 (x7 + 1)))))) else (if x7 = x6 then (if x8 = x5 then (hamperlaw15_MatchLocal.l0 k x0 x1 x5 x6 (wrap64 (x7 + 1))) else (some false)) else (hamperlaw15_MatchLocal.l0 k x0 x1 x5 x6 (wrap64 (x7 + 1)))))) else (none)) else (none)) else (none)) else (if x8 ≥ 3 then (if x8 > x5 then (some false) else (if x8 = x5 then (if x7 < x6 then (some false) else (if x7 = x6 then (hamperlaw15_MatchLocal.l0 k x0 x1 x5 x6 (wrap64 (x7 + 1))) else (hamperlaw15_MatchLocal.l0 k x0 x1 x5 x6 (wrap64 (x7 + 1))))) else (if x7 = x6 then (some false) else (hamperlaw15_MatchLocal.l0 k x0 x1 x5 x6 (wrap64 (x7 + 1)))))) else (if x7 = x6 then (if x8 = x5 then (hamperlaw15_MatchLocal.l0 k x0 x1 x5 x6 (wrap64 (x7 + 1))) else (some false)) else (hamperlaw15_MatchLocal.l0 k x0 x1 x5 x6 (wrap64 (x7 + 1)))))) else (if x8 ≥ 3 then (if x8 > x5 then (some false) else (if x8 = x5 then (if x7 < x6 then (some false) else (if x7 = x6 then (hamperlaw15_MatchLocal.l0 k x0 x1 x5 x6 (wrap64 (x7 + 1))) else (hamperlaw15_MatchLocal.l0 k x0 x1 x5 x6 (wrap64 (x7 + 1))))) else (if x7 = x6 then (some false) else (hamperlaw15_MatchLocal.l0 k x0 x1 x5 x6 (wrap64 (x7 + 1)))))) else (if x7 = x6 then (if x8 = x5 then (hamperlaw15_MatchLocal.l0 k x0 x1 x5 x6 (wrap64 (x7 + 1))) else (some false)) else (hamperlaw15_MatchLocal.l0 k x0 x1 x5 x6 (wrap64 (x7 + 1)))))
end
def hamperlaw15_MatchLocal.f (k : Nat) (a0 : ByteArray) (a1 : Int) : Option (Bool) := (hamperlaw15_works.f k).bind fun t168 => (if t168 = true then (if (a0.size : Int) > 1500 then (hamperlaw15_MatchLocal.j0 k a0 a1 true) else (if a1 < 0 then (hamperlaw15_MatchLocal.j0 k a0 a1 true) else (hamperlaw15_MatchLocal.j0 k a0 a1 (decide (a1 ≥ (a0.size : Int)))))) else (hamperlaw15_MatchLocal.j0 k a0 a1 true))
theorem hamperlaw15_MatchLocal.mono_l : ∀ k, (∀ y0 y1 y2, LeO (hamperlaw15_MatchLocal.j0 k y0 y1 y2) (hamperlaw15_MatchLocal.j0 (k + 1) y0 y1 y2)) ∧ (∀ y0 y1 y2 y3 y4, LeO (hamperlaw15_MatchLocal.j1 k y0 y1 y2 y3 y4) (hamperlaw15_MatchLocal.j1 (k + 1) y0 y1 y2 y3 y4)) ∧ (∀ y0 y1 y2 y3 y4, LeO (hamperlaw15_MatchLocal.l0 k y0 y1 y2 y3 y4) (hamperlaw15_MatchLocal.l0 (k + 1) y0 y1 y2 y3 y4)) ∧ (∀ y0 y1 y2 y3 y4 y5, LeO (hamperlaw15_MatchLocal.l1 k y0 y1 y2 y3 y4 y5) (hamperlaw15_MatchLocal.l1 (k + 1) y0 y1 y2 y3 y4 y5))
  | 0 => ⟨fun _ _ _ r h => by simp [hamperlaw15_MatchLocal.j0] at h, fun _ _ _ _ _ r h => by simp [hamperlaw15_MatchLocal.j1] at h, fun _ _ _ _ _ r h => by simp [hamperlaw15_MatchLocal.l0] at h, fun _ _ _ _ _ _ r h => by simp [hamperlaw15_MatchLocal.l1] at h⟩
  | k + 1 => by
    obtain ⟨ih0, ih1, ih2, ih3⟩ := hamperlaw15_MatchLocal.mono_l k
    refine ⟨?_, ?_, ?_, ?_⟩
    · intro y0 y1 y2
      unfold hamperlaw15_MatchLocal.j0
      repeat' first
      | (with_reducible exact ih0 _ _ _)
      | (with_reducible exact ih1 _ _ _ _ _)
      | (with_reducible exact ih2 _ _ _ _ _)
      | (with_reducible exact ih3 _ _ _ _ _ _)
      | (with_reducible exact hamperlaw15_works.mono _)
      | (with_reducible exact LeO.refl _)
      | (with_reducible exact LeO.none _)
      | (with_reducible refine LeO.ite ?_ ?_)
      | (with_reducible refine LeO.bind ?_ (fun _ => ?_))
      | exact ih0 _ _ _
      | exact ih1 _ _ _ _ _
      | exact ih2 _ _ _ _ _
      | exact ih3 _ _ _ _ _ _
      | exact hamperlaw15_works.mono _
      | exact LeO.none _
      | refine LeO.ite ?_ ?_
      | refine LeO.bind ?_ (fun _ => ?_)
    · intro y0 y1 y2 y3 y4
      unfold hamperlaw15_MatchLocal.j1
      repeat' first
      | (with_reducible exact ih0 _ _ _)
      | (with_reducible exact ih1 _ _ _ _ _)
      | (with_reducible exact ih2 _ _ _ _ _)
      | (with_reducible exact ih3 _ _ _ _ _ _)
      | (with_reducible exact hamperlaw15_works.mono _)
      | (with_reducible exact LeO.refl _)
      | (with_reducible exact LeO.none _)
      | (with_reducible refine LeO.ite ?_ ?_)
      | (with_reducible refine LeO.bind ?_ (fun _ => ?_))
      | exact ih0 _ _ _
      | exact ih1 _ _ _ _ _
      | exact ih2 _ _ _ _ _
      | exact ih3 _ _ _ _ _ _
      | exact hamperlaw15_works.mono _
      | exact LeO.none _
      | refine LeO.ite ?_ ?_
      | refine LeO.bind ?_ (fun _ => ?_)
    · intro y0 y1 y2 y3 y4
      unfold hamperlaw15_MatchLocal.l0
      repeat' first
      | (with_reducible exact ih0 _ _ _)
      | (with_reducible exact ih1 _ _ _ _ _)
      | (with_reducible exact ih2 _ _ _ _ _)
      | (with_reducible exact ih3 _ _ _ _ _ _)
      | (with_reducible exact hamperlaw15_works.mono _)
      | (with_reducible exact LeO.refl _)
      | (with_reducible exact LeO.none _)
      | (with_reducible refine LeO.ite ?_ ?_)
      | (with_reducible refine LeO.bind ?_ (fun _ => ?_))
      | exact ih0 _ _ _
      | exact ih1 _ _ _ _ _
      | exact ih2 _ _ _ _ _
      | exact ih3 _ _ _ _ _ _
      | exact hamperlaw15_works.mono _
      | exact LeO.none _
      | refine LeO.ite ?_ ?_
      | refine LeO.bind ?_ (fun _ => ?_)
    · intro y0 y1 y2 y3 y4 y5
      unfold hamperlaw15_MatchLocal.l1
      repeat' first
      | (with_reducible exact ih0 _ _ _)
      | (with_reducible exact ih1 _ _ _ _ _)
      | (with_reducible exact ih2 _ _ _ _ _)
      | (with_reducible exact ih3 _ _ _ _ _ _)
      | (with_reducible exact hamperlaw15_works.mono _)
      | (with_reducible exact LeO.refl _)
      | (with_reducible exact LeO.none _)
      | (with_reducible refine LeO.ite ?_ ?_)
      | (with_reducible refine LeO.bind ?_ (fun _ => ?_))
      | exact ih0 _ _ _
      | exact ih1 _ _ _ _ _
      | exact ih2 _ _ _ _ _
      | exact ih3 _ _ _ _ _ _
      | exact hamperlaw15_works.mono _
      | exact LeO.none _
      | refine LeO.ite ?_ ?_
      | refine LeO.bind ?_ (fun _ => ?_)
theorem hamperlaw15_MatchLocal.mono : ∀ a0 a1 k, LeO (hamperlaw15_MatchLocal.f k a0 a1) (hamperlaw15_MatchLocal.f (k + 1) a0 a1) := by
  intro a0 a1 k
  obtain ⟨ih0, ih1, ih2, ih3⟩ := hamperlaw15_MatchLocal.mono_l k
  unfold hamperlaw15_MatchLocal.f
  repeat' first
      | (with_reducible exact ih0 _ _ _)
      | (with_reducible exact ih1 _ _ _ _ _)
      | (with_reducible exact ih2 _ _ _ _ _)
      | (with_reducible exact ih3 _ _ _ _ _ _)
      | (with_reducible exact hamperlaw15_works.mono _)
      | (with_reducible exact LeO.refl _)
      | (with_reducible exact LeO.none _)
      | (with_reducible refine LeO.ite ?_ ?_)
      | (with_reducible refine LeO.bind ?_ (fun _ => ?_))
      | exact ih0 _ _ _
      | exact ih1 _ _ _ _ _
      | exact ih2 _ _ _ _ _
      | exact ih3 _ _ _ _ _ _
      | exact hamperlaw15_works.mono _
      | exact LeO.none _
      | refine LeO.ite ?_ ?_
      | refine LeO.bind ?_ (fun _ => ?_)
set_option maxHeartbeats 8000000 in
set_option maxRecDepth 100000 in
theorem hamperlaw15_MatchLocal.calls (k : Nat) (a0 : ByteArray) (a1 : Int) (r : Bool) (w : World) (h : hamperlaw15_MatchLocal.f k a0 a1 = some r) :
    Calls Try.prog 8 #[.string a0, .int .i64 a1] w fun e w' => e = .returned (.bool r) ∧ Below w.heap.size w w' := by
  have HB := Aside0.mk (Below.refl w.heap.size w)
  have H : ((hamperlaw15_works.f k).bind fun t168 => (if t168 = true then (if (a0.size : Int) > 1500 then (hamperlaw15_MatchLocal.j0 k a0 a1 true) else (if a1 < 0 then (hamperlaw15_MatchLocal.j0 k a0 a1 true) else (hamperlaw15_MatchLocal.j0 k a0 a1 (decide (a1 ≥ (a0.size : Int)))))) else (hamperlaw15_MatchLocal.j0 k a0 a1 true))) = some r := h
  clear h
  have HC3 := Aside0.mk H
  clear H
  go_enter Try.func8, Try.ntmps8
  go_upto_region 1 with (fail)
  repeat (go_quiet (fail); go_upto_region 1 with (fail))
  go_cut [25] (fun v25 wc => ∃ (kq : Nat) (x25_2 : Bool), v25 = .bool x25_2 ∧ Aside0 (hamperlaw15_MatchLocal.j0 kq a0 a1 x25_2 = some r) ∧ Aside0 (kq ≤ k) ∧ Aside0 (Below w.heap.size w wc))
  case first =>
    have H := HC3.out
    clear HC3
    replace H := Option.bind_eq_some_iff.mp H
    obtain ⟨t168, A40, H⟩ := H
    replace H : (if t168 = true then (if (a0.size : Int) > 1500 then (hamperlaw15_MatchLocal.j0 k a0 a1 true) else (if a1 < 0 then (hamperlaw15_MatchLocal.j0 k a0 a1 true) else (hamperlaw15_MatchLocal.j0 k a0 a1 (decide (a1 ≥ (a0.size : Int)))))) else (hamperlaw15_MatchLocal.j0 k a0 a1 true)) = some r := H
    have A4 := Aside0.mk A40
    clear A40
    by_cases c5 : t168 = true
    · subst c5
      have H1 : (if (a0.size : Int) > 1500 then (hamperlaw15_MatchLocal.j0 k a0 a1 true) else (if a1 < 0 then (hamperlaw15_MatchLocal.j0 k a0 a1 true) else (hamperlaw15_MatchLocal.j0 k a0 a1 (decide (a1 ≥ (a0.size : Int)))))) = some r := by rw [if_pos rfl] at H; exact H
      clear H
      have H := H1
      clear H1
      by_cases c6 : (a0.size : Int) > 1500
      · rw [if_pos c6] at H
        have c6b0 : decide (1500 < (a0.size : Int)) = true := decide_eq_true c6
        have c6b1 : decide (1500 < a0.size) = true := decide_eq_true (by omega)
        clear c6
        (first | rw [c6b0] | (simp only [i64_w, i32_w]; rw [c6b0]) | skip)
        have H' := Aside0.mk H
        clear H
        go_wp2_with (first | (go_at_call 10; (with_reducible refine (hamperlaw15_works.calls k  true _ A4.out).mono ?_); rintro e w7 ⟨rfl, hb⟩; have n0_ := Aside0.mk (below_step (by repeat (first | (with_reducible first | exact HB.out | apply below_alloc | apply pw_below_drewN | apply below_drew1) | exact HB.out)) hb); clear HB; have HB := n0_; clear n0_; (try clear hb); (try clear hb2); (try clear hk); (try clear hi)))
        repeat (go_quiet (first | (go_at_call 10; (with_reducible refine (hamperlaw15_works.calls k  true _ A4.out).mono ?_); rintro e w7 ⟨rfl, hb⟩; have n0_ := Aside0.mk (below_step (by repeat (first | (with_reducible first | exact HB.out | apply below_alloc | apply pw_below_drewN | apply below_drew1) | exact HB.out)) hb); clear HB; have HB := n0_; clear n0_; (try clear hb); (try clear hb2); (try clear hk); (try clear hi))); try go_wp2_with (first | (go_at_call 10; (with_reducible refine (hamperlaw15_works.calls k  true _ A4.out).mono ?_); rintro e w7 ⟨rfl, hb⟩; have n0_ := Aside0.mk (below_step (by repeat (first | (with_reducible first | exact HB.out | apply below_alloc | apply pw_below_drewN | apply below_drew1) | exact HB.out)) hb); clear HB; have HB := n0_; clear n0_; (try clear hb); (try clear hb2); (try clear hk); (try clear hi))))
        go_meet
        case rel => exact ⟨_, (true), (by first | rfl | (simp; done) | (simp [*]; done)), H', ⟨by first | omega | exact Nat.le_refl _⟩, ⟨by repeat (first | (with_reducible first | exact HB.out | apply below_alloc | apply pw_below_drewN | apply below_drew1) | exact HB.out)⟩⟩
      · rw [if_neg c6] at H
        have c6b0 : decide (1500 < (a0.size : Int)) = false := decide_eq_false c6
        have c6b1 : decide (1500 < a0.size) = false := decide_eq_false (by omega)
        clear c6
        (first | rw [c6b0] | (simp only [i64_w, i32_w]; rw [c6b0]) | skip)
        by_cases c8 : a1 < 0
        · rw [if_pos c8] at H
          have c8b0 : decide (a1 < 0) = true := decide_eq_true c8
          clear c8
          have H' := Aside0.mk H
          clear H
          go_wp2_with (first | (go_at_call 10; (with_reducible refine (hamperlaw15_works.calls k  true _ A4.out).mono ?_); rintro e w9 ⟨rfl, hb⟩; have n0_ := Aside0.mk (below_step (by repeat (first | (with_reducible first | exact HB.out | apply below_alloc | apply pw_below_drewN | apply below_drew1) | exact HB.out)) hb); clear HB; have HB := n0_; clear n0_; (try clear hb); (try clear hb2); (try clear hk); (try clear hi)))
          repeat (go_quiet (first | (go_at_call 10; (with_reducible refine (hamperlaw15_works.calls k  true _ A4.out).mono ?_); rintro e w9 ⟨rfl, hb⟩; have n0_ := Aside0.mk (below_step (by repeat (first | (with_reducible first | exact HB.out | apply below_alloc | apply pw_below_drewN | apply below_drew1) | exact HB.out)) hb); clear HB; have HB := n0_; clear n0_; (try clear hb); (try clear hb2); (try clear hk); (try clear hi))); try go_wp2_with (first | (go_at_call 10; (with_reducible refine (hamperlaw15_works.calls k  true _ A4.out).mono ?_); rintro e w9 ⟨rfl, hb⟩; have n0_ := Aside0.mk (below_step (by repeat (first | (with_reducible first | exact HB.out | apply below_alloc | apply pw_below_drewN | apply below_drew1) | exact HB.out)) hb); clear HB; have HB := n0_; clear n0_; (try clear hb); (try clear hb2); (try clear hk); (try clear hi))))
          go_meet
          case rel => exact ⟨_, (true), (by first | rfl | (simp; done) | (simp [*]; done)), H', ⟨by first | omega | exact Nat.le_refl _⟩, ⟨by repeat (first | (with_reducible first | exact HB.out | apply below_alloc | apply pw_below_drewN | apply below_drew1) | exact HB.out)⟩⟩
        · rw [if_neg c8] at H
          have c8b0 : decide (a1 < 0) = false := decide_eq_false c8
          clear c8
          have H' := Aside0.mk H
          clear H
          go_wp2_with (first | (go_at_call 10; (with_reducible refine (hamperlaw15_works.calls k  true _ A4.out).mono ?_); rintro e w10 ⟨rfl, hb⟩; have n0_ := Aside0.mk (below_step (by repeat (first | (with_reducible first | exact HB.out | apply below_alloc | apply pw_below_drewN | apply below_drew1) | exact HB.out)) hb); clear HB; have HB := n0_; clear n0_; (try clear hb); (try clear hb2); (try clear hk); (try clear hi)))
          repeat (go_quiet (first | (go_at_call 10; (with_reducible refine (hamperlaw15_works.calls k  true _ A4.out).mono ?_); rintro e w10 ⟨rfl, hb⟩; have n0_ := Aside0.mk (below_step (by repeat (first | (with_reducible first | exact HB.out | apply below_alloc | apply pw_below_drewN | apply below_drew1) | exact HB.out)) hb); clear HB; have HB := n0_; clear n0_; (try clear hb); (try clear hb2); (try clear hk); (try clear hi))); try go_wp2_with (first | (go_at_call 10; (with_reducible refine (hamperlaw15_works.calls k  true _ A4.out).mono ?_); rintro e w10 ⟨rfl, hb⟩; have n0_ := Aside0.mk (below_step (by repeat (first | (with_reducible first | exact HB.out | apply below_alloc | apply pw_below_drewN | apply below_drew1) | exact HB.out)) hb); clear HB; have HB := n0_; clear n0_; (try clear hb); (try clear hb2); (try clear hk); (try clear hi))))
          go_meet
          case rel => exact ⟨_, (decide (a1 ≥ (a0.size : Int))), (by first | rfl | (simp; done) | (simp [*]; done)), H', ⟨by first | omega | exact Nat.le_refl _⟩, ⟨by repeat (first | (with_reducible first | exact HB.out | apply below_alloc | apply pw_below_drewN | apply below_drew1) | exact HB.out)⟩⟩
    · replace c5 := Bool.eq_false_iff.mpr c5
      subst c5
      have H1 : (hamperlaw15_MatchLocal.j0 k a0 a1 true) = some r := by rw [if_neg (show ¬ (false = true) by decide)] at H; exact H
      clear H
      have H := H1
      clear H1
      have H' := Aside0.mk H
      clear H
      go_wp2_with (first | (go_at_call 10; (with_reducible refine (hamperlaw15_works.calls k  false _ A4.out).mono ?_); rintro e w11 ⟨rfl, hb⟩; have n0_ := Aside0.mk (below_step (by repeat (first | (with_reducible first | exact HB.out | apply below_alloc | apply pw_below_drewN | apply below_drew1) | exact HB.out)) hb); clear HB; have HB := n0_; clear n0_; (try clear hb); (try clear hb2); (try clear hk); (try clear hi)))
      repeat (go_quiet (first | (go_at_call 10; (with_reducible refine (hamperlaw15_works.calls k  false _ A4.out).mono ?_); rintro e w11 ⟨rfl, hb⟩; have n0_ := Aside0.mk (below_step (by repeat (first | (with_reducible first | exact HB.out | apply below_alloc | apply pw_below_drewN | apply below_drew1) | exact HB.out)) hb); clear HB; have HB := n0_; clear n0_; (try clear hb); (try clear hb2); (try clear hk); (try clear hi))); try go_wp2_with (first | (go_at_call 10; (with_reducible refine (hamperlaw15_works.calls k  false _ A4.out).mono ?_); rintro e w11 ⟨rfl, hb⟩; have n0_ := Aside0.mk (below_step (by repeat (first | (with_reducible first | exact HB.out | apply below_alloc | apply pw_below_drewN | apply below_drew1) | exact HB.out)) hb); clear HB; have HB := n0_; clear n0_; (try clear hb); (try clear hb2); (try clear hk); (try clear hi))))
      go_meet
      case rel => exact ⟨_, (true), (by first | rfl | (simp; done) | (simp [*]; done)), H', ⟨by first | omega | exact Nat.le_refl _⟩, ⟨by repeat (first | (with_reducible first | exact HB.out | apply below_alloc | apply pw_below_drewN | apply below_drew1) | exact HB.out)⟩⟩
  case rest =>
    clear HC3
    try clear p2
    try clear c5
    try clear c6
    try clear c6b0
    try clear c6b1
    try clear c8
    try clear c8b0
    obtain ⟨kq, x25_2, rfl, HA, HJ2, HB⟩ := hcut
    cases kq with
    | zero => exact absurd HA.out (by simp [hamperlaw15_MatchLocal.j0])
    | succ kj2 =>
      have H := HA.out
      clear HA
      simp only [hamperlaw15_MatchLocal.j0] at H
      by_cases c12 : x25_2 = true
      · subst c12
        have H1 : ((hamperlaw15_works.f kj2).bind fun t169 => (some t169)) = some r := by rw [if_pos rfl] at H; exact H
        clear H
        have H := H1
        clear H1
        replace H := Option.bind_eq_some_iff.mp H
        obtain ⟨t169, A130, H⟩ := H
        replace H : (some t169) = some r := H
        have A13 := Aside0.mk A130
        clear A130
        obtain rfl := Option.some.inj H
        go_wp2_with (first | (go_at_call 10; (with_reducible refine (hamperlaw15_works.calls kj2  t169 _ A13.out).mono ?_); rintro e w14 ⟨rfl, hb⟩; have n0_ := Aside0.mk (below_step (by repeat (first | (with_reducible first | exact HB.out | apply below_alloc | apply pw_below_drewN | apply below_drew1) | exact HB.out)) hb); clear HB; have HB := n0_; clear n0_; (try clear hb); (try clear hb2); (try clear hk); (try clear hi)))
        repeat (go_quiet (first | (go_at_call 10; (with_reducible refine (hamperlaw15_works.calls kj2  t169 _ A13.out).mono ?_); rintro e w14 ⟨rfl, hb⟩; have n0_ := Aside0.mk (below_step (by repeat (first | (with_reducible first | exact HB.out | apply below_alloc | apply pw_below_drewN | apply below_drew1) | exact HB.out)) hb); clear HB; have HB := n0_; clear n0_; (try clear hb); (try clear hb2); (try clear hk); (try clear hi))); try go_wp2_with (first | (go_at_call 10; (with_reducible refine (hamperlaw15_works.calls kj2  t169 _ A13.out).mono ?_); rintro e w14 ⟨rfl, hb⟩; have n0_ := Aside0.mk (below_step (by repeat (first | (with_reducible first | exact HB.out | apply below_alloc | apply pw_below_drewN | apply below_drew1) | exact HB.out)) hb); clear HB; have HB := n0_; clear n0_; (try clear hb); (try clear hb2); (try clear hk); (try clear hi))))
        go_ret
        exact ⟨by first | rfl | (simp [errW_none, errW_some] <;> rfl) | (simp [*, errW_none, errW_some] <;> rfl), by repeat (first | (with_reducible first | exact HB.out | apply below_alloc | apply pw_below_drewN | apply below_drew1) | exact HB.out)⟩
      · replace c12 := Bool.eq_false_iff.mpr c12
        subst c12
        have H1 : ((match_Longest.f a0 a1).bind fun bt170 => (if ((bt170.1 == 0) != (bt170.2 == 0)) = true then (hamperlaw15_MatchLocal.j1 kj2 a0 a1 bt170.1 bt170.2 true) else (if bt170.1 > 0 then (if bt170.1 < 3 then (hamperlaw15_MatchLocal.j1 kj2 a0 a1 bt170.1 bt170.2 true) else (if bt170.1 > 258 then (hamperlaw15_MatchLocal.j1 kj2 a0 a1 bt170.1 bt170.2 true) else (if bt170.2 < 1 then (hamperlaw15_MatchLocal.j1 kj2 a0 a1 bt170.1 bt170.2 true) else (hamperlaw15_MatchLocal.j1 kj2 a0 a1 bt170.1 bt170.2 (decide (bt170.2 > a1)))))) else (hamperlaw15_MatchLocal.j1 kj2 a0 a1 bt170.1 bt170.2 false)))) = some r := by rw [if_neg (show ¬ (false = true) by decide)] at H; exact H
        clear H
        have H := H1
        clear H1
        replace H := Option.bind_eq_some_iff.mp H
        obtain ⟨⟨t170, t171⟩, A150, H⟩ := H
        replace H : (if ((t170 == 0) != (t171 == 0)) = true then (hamperlaw15_MatchLocal.j1 kj2 a0 a1 t170 t171 true) else (if t170 > 0 then (if t170 < 3 then (hamperlaw15_MatchLocal.j1 kj2 a0 a1 t170 t171 true) else (if t170 > 258 then (hamperlaw15_MatchLocal.j1 kj2 a0 a1 t170 t171 true) else (if t171 < 1 then (hamperlaw15_MatchLocal.j1 kj2 a0 a1 t170 t171 true) else (hamperlaw15_MatchLocal.j1 kj2 a0 a1 t170 t171 (decide (t171 > a1)))))) else (hamperlaw15_MatchLocal.j1 kj2 a0 a1 t170 t171 false))) = some r := H
        have A15 := Aside0.mk A150
        clear A150
        have HC16 := Aside0.mk H
        clear H
        go_upto_region 4 with (first | (go_at_call 16; (with_reducible refine (match_Longest.calls a0 a1 t170 t171 _ A15.out).mono ?_); rintro e w17 ⟨rfl, hb⟩; have n0_ := Aside0.mk (below_step (by repeat (first | (with_reducible first | exact HB.out | apply below_alloc | apply pw_below_drewN | apply below_drew1) | exact HB.out)) hb); clear HB; have HB := n0_; clear n0_; (try clear hb); (try clear hb2); (try clear hk); (try clear hi)))
        repeat (go_quiet (first | (go_at_call 16; (with_reducible refine (match_Longest.calls a0 a1 t170 t171 _ A15.out).mono ?_); rintro e w17 ⟨rfl, hb⟩; have n0_ := Aside0.mk (below_step (by repeat (first | (with_reducible first | exact HB.out | apply below_alloc | apply pw_below_drewN | apply below_drew1) | exact HB.out)) hb); clear HB; have HB := n0_; clear n0_; (try clear hb); (try clear hb2); (try clear hk); (try clear hi))); go_upto_region 4 with (first | (go_at_call 16; (with_reducible refine (match_Longest.calls a0 a1 t170 t171 _ A15.out).mono ?_); rintro e w17 ⟨rfl, hb⟩; have n0_ := Aside0.mk (below_step (by repeat (first | (with_reducible first | exact HB.out | apply below_alloc | apply pw_below_drewN | apply below_drew1) | exact HB.out)) hb); clear HB; have HB := n0_; clear n0_; (try clear hb); (try clear hb2); (try clear hk); (try clear hi))))
        (try simp only [Act.put, List.setIfInBounds_toArray, List.set_cons_zero, List.set_cons_succ])
        go_cut [58] (fun v58 wc => ∃ (kq : Nat) (x58_15 : Bool), v58 = .bool x58_15 ∧ Aside0 (hamperlaw15_MatchLocal.j1 kq a0 a1 t170 t171 x58_15 = some r) ∧ Aside0 (kq ≤ kj2) ∧ Aside0 (Below w.heap.size w wc))
        case first =>
          have H := HC16.out
          clear HC16
          by_cases c18 : ((t170 == 0) != (t171 == 0)) = true
          · rw [if_pos c18] at H
            have c18b0 : ((t170 == 0) != (t171 == 0)) = true := c18
            (try (have c18b1 : decide ((t170 == 0) = (t171 == 0)) = false := by simpa using c18))
            (try (have c18b2 : ((t170 == 0) == (t171 == 0)) = false := by simpa using c18))
            (try (have c18b3 : ¬ ((t170 == 0) = (t171 == 0)) := by simpa using c18))
            clear c18
            (first | rw [c18b0] | (simp only [i64_w, i32_w]; rw [c18b0]) | skip)
            have H' := Aside0.mk H
            clear H
            go_wp2
            repeat (go_quiet (fail); try go_wp2)
            go_meet
            case rel => exact ⟨_, (true), (by first | rfl | (simp; done) | (simp [*]; done)), H', ⟨by have := HJ2.out; first | omega | exact Nat.le_refl _⟩, ⟨by repeat (first | (with_reducible first | exact HB.out | apply below_alloc | apply pw_below_drewN | apply below_drew1) | exact HB.out)⟩⟩
          · rw [if_neg c18] at H
            have c18b0 : ((t170 == 0) != (t171 == 0)) = false := by simpa using c18
            (try (have c18b1 : decide ((t170 == 0) = (t171 == 0)) = true := by simpa using c18))
            (try (have c18b2 : ((t170 == 0) == (t171 == 0)) = true := by simpa using c18))
            clear c18
            (first | rw [c18b0] | (simp only [i64_w, i32_w]; rw [c18b0]) | skip)
            by_cases c19 : t170 > 0
            · rw [if_pos c19] at H
              have c19b0 : decide (0 < t170) = true := decide_eq_true c19
              clear c19
              by_cases c20 : t170 < 3
              · rw [if_pos c20] at H
                have c20b0 : decide (t170 < 3) = true := decide_eq_true c20
                clear c20
                have H' := Aside0.mk H
                clear H
                go_wp2
                repeat (go_quiet (fail); try go_wp2)
                go_meet
                case rel => exact ⟨_, (true), (by first | rfl | (simp; done) | (simp [*]; done)), H', ⟨by have := HJ2.out; first | omega | exact Nat.le_refl _⟩, ⟨by repeat (first | (with_reducible first | exact HB.out | apply below_alloc | apply pw_below_drewN | apply below_drew1) | exact HB.out)⟩⟩
              · rw [if_neg c20] at H
                have c20b0 : decide (t170 < 3) = false := decide_eq_false c20
                clear c20
                by_cases c21 : t170 > 258
                · rw [if_pos c21] at H
                  have c21b0 : decide (258 < t170) = true := decide_eq_true c21
                  clear c21
                  have H' := Aside0.mk H
                  clear H
                  go_wp2
                  repeat (go_quiet (fail); try go_wp2)
                  go_meet
                  case rel => exact ⟨_, (true), (by first | rfl | (simp; done) | (simp [*]; done)), H', ⟨by have := HJ2.out; first | omega | exact Nat.le_refl _⟩, ⟨by repeat (first | (with_reducible first | exact HB.out | apply below_alloc | apply pw_below_drewN | apply below_drew1) | exact HB.out)⟩⟩
                · rw [if_neg c21] at H
                  have c21b0 : decide (258 < t170) = false := decide_eq_false c21
                  clear c21
                  by_cases c22 : t171 < 1
                  · rw [if_pos c22] at H
                    have c22b0 : decide (t171 < 1) = true := decide_eq_true c22
                    clear c22
                    have H' := Aside0.mk H
                    clear H
                    go_wp2
                    repeat (go_quiet (fail); try go_wp2)
                    go_meet
                    case rel => exact ⟨_, (true), (by first | rfl | (simp; done) | (simp [*]; done)), H', ⟨by have := HJ2.out; first | omega | exact Nat.le_refl _⟩, ⟨by repeat (first | (with_reducible first | exact HB.out | apply below_alloc | apply pw_below_drewN | apply below_drew1) | exact HB.out)⟩⟩
                  · rw [if_neg c22] at H
                    have c22b0 : decide (t171 < 1) = false := decide_eq_false c22
                    clear c22
                    have H' := Aside0.mk H
                    clear H
                    go_wp2
                    repeat (go_quiet (fail); try go_wp2)
                    go_meet
                    case rel => exact ⟨_, (decide (t171 > a1)), (by first | rfl | (simp; done) | (simp [*]; done)), H', ⟨by have := HJ2.out; first | omega | exact Nat.le_refl _⟩, ⟨by repeat (first | (with_reducible first | exact HB.out | apply below_alloc | apply pw_below_drewN | apply below_drew1) | exact HB.out)⟩⟩
            · rw [if_neg c19] at H
              have c19b0 : decide (0 < t170) = false := decide_eq_false c19
              clear c19
              have H' := Aside0.mk H
              clear H
              go_wp2
              repeat (go_quiet (fail); try go_wp2)
              go_meet
              case rel => exact ⟨_, (false), (by first | rfl | (simp; done) | (simp [*]; done)), H', ⟨by have := HJ2.out; first | omega | exact Nat.le_refl _⟩, ⟨by repeat (first | (with_reducible first | exact HB.out | apply below_alloc | apply pw_below_drewN | apply below_drew1) | exact HB.out)⟩⟩
        case rest =>
          clear HC16
          try clear c1
          try clear c2
          try clear p2
          try clear c5
          try clear c6
          try clear c6b0
          try clear c6b1
          try clear c8
          try clear c8b0
          try clear c12
          try clear c18
          try clear c18b0
          try clear c18b1
          try clear c18b2
          try clear c19
          try clear c19b0
          try clear c20
          try clear c20b0
          try clear c21
          try clear c21b0
          try clear c22
          try clear c22b0
          try clear p2
          obtain ⟨kq, x58_15, rfl, HA, HJ15, HB⟩ := hcut
          cases kq with
          | zero => exact absurd HA.out (by simp [hamperlaw15_MatchLocal.j1])
          | succ kj15 =>
            have H := HA.out
            clear HA
            simp only [hamperlaw15_MatchLocal.j1] at H
            by_cases c23 : x58_15 = true
            · subst c23
              have H1 : (some false) = some r := by rw [if_pos rfl] at H; exact H
              clear H
              have H := H1
              clear H1
              obtain rfl := Option.some.inj H
              go_wp2
              repeat (go_quiet (fail); try go_wp2)
              go_ret
              exact ⟨by first | rfl | (simp [errW_none, errW_some] <;> rfl) | (simp [*, errW_none, errW_some] <;> rfl), by repeat (first | (with_reducible first | exact HB.out | apply below_alloc | apply pw_below_drewN | apply below_drew1) | exact HB.out)⟩
            · replace c23 := Bool.eq_false_iff.mpr c23
              subst c23
              have H1 : (hamperlaw15_MatchLocal.l0 kj15 a0 a1 t170 t171 1) = some r := by rw [if_neg (show ¬ (false = true) by decide)] at H; exact H
              clear H
              have H := H1
              clear H1
              have H' := Aside0.mk H
              clear H
              go_wp2
              repeat (go_quiet (fail); try go_wp2)
              go_loopg [7] kj15 (fun kq v7 w' => ∃ (x7_3 : Int), v7 = .int .i64 x7_3 ∧ Aside0 (hamperlaw15_MatchLocal.l0 kq a0 a1 t170 t171 x7_3 = some r) ∧ Aside0 (kq ≤ kj15) ∧ Aside0 (Below w.heap.size w w'))
              case atStart => exact ⟨(1), (by first | rfl | (simp; done) | (simp [*]; done)), H', ⟨Nat.le_refl _⟩, ⟨by repeat (first | (with_reducible first | exact HB.out | apply below_alloc | apply pw_below_drewN | apply below_drew1) | exact HB.out)⟩⟩
              case round =>
                clear H'
                try clear c1
                try clear c2
                try clear p2
                try clear c5
                try clear c6
                try clear c6b0
                try clear c6b1
                try clear c8
                try clear c8b0
                try clear c12
                try clear c18
                try clear c18b0
                try clear c18b1
                try clear c18b2
                try clear c19
                try clear c19b0
                try clear c20
                try clear c20b0
                try clear c21
                try clear c21b0
                try clear c22
                try clear c22b0
                try clear c23
                try clear p2
                obtain ⟨x7_3, rfl, HA, HK3, HB⟩ := hrel
                cases gk with
                | zero => exact absurd HA.out (by simp [hamperlaw15_MatchLocal.l0])
                | succ k3 =>
                  have H := HA.out
                  clear HA
                  simp only [hamperlaw15_MatchLocal.l0] at H
                  by_cases c24 : x7_3 ≤ a1
                  · rw [if_pos c24] at H
                    have c24b0 : decide (x7_3 ≤ a1) = true := decide_eq_true c24
                    clear c24
                    have H' := Aside0.mk H
                    clear H
                    go_wp2
                    repeat (go_quiet (fail); try go_wp2)
                    go_loopg [8] k3 (fun kq v8 w' => ∃ (x8_4 : Int), v8 = .int .i64 x8_4 ∧ Aside0 (hamperlaw15_MatchLocal.l1 kq a0 a1 t170 t171 x7_3 x8_4 = some r) ∧ Aside0 (kq ≤ k3) ∧ Aside0 (Below w.heap.size w w'))
                    case atStart => exact ⟨(0), (by first | rfl | (simp; done) | (simp [*]; done)), H', ⟨Nat.le_refl _⟩, ⟨by repeat (first | (with_reducible first | exact HB.out | apply below_alloc | apply pw_below_drewN | apply below_drew1) | exact HB.out)⟩⟩
                    case round =>
                      clear H'
                      try clear c1
                      try clear c2
                      try clear p2
                      try clear c5
                      try clear c6
                      try clear c6b0
                      try clear c6b1
                      try clear c8
                      try clear c8b0
                      try clear c12
                      try clear c18
                      try clear c18b0
                      try clear c18b1
                      try clear c18b2
                      try clear c19
                      try clear c19b0
                      try clear c20
                      try clear c20b0
                      try clear c21
                      try clear c21b0
                      try clear c22
                      try clear c22b0
                      try clear c23
                      try clear c24
                      try clear c24b0
                      try clear p2
                      obtain ⟨x8_4, rfl, HA, HK4, HB⟩ := hrel
                      cases gk with
                      | zero => exact absurd HA.out (by simp [hamperlaw15_MatchLocal.l1])
                      | succ k4 =>
                        have H := HA.out
                        clear HA
                        simp only [hamperlaw15_MatchLocal.l1] at H
                        by_cases c25 : x8_4 < 258
                        · rw [if_pos c25] at H
                          have c25b0 : decide (x8_4 < 258) = true := decide_eq_true c25
                          clear c25
                          by_cases c26 : (wrap64 (a1 + x8_4)) < (a0.size : Int)
                          · rw [if_pos c26] at H
                            have c26b0 : decide ((wrap64 (a1 + x8_4)) < (a0.size : Int)) = true := decide_eq_true c26
                            clear c26
                            obtain ⟨ji27, hji27⟩ : ∃ j_ : Int, (wrap64 (a1 + x8_4)) = j_ := ⟨_, rfl⟩
                            replace H : (if 0 ≤ (ji27) then (if 0 ≤ (wrap64 ((ji27) - x7_3)) then (if (wrap64 ((ji27) - x7_3)) < (a0.size : Int) then (if (bt a0 (ji27)) = (bt a0 (wrap64 ((ji27) - x7_3))) then (hamperlaw15_MatchLocal.l1 k4 a0 a1 t170 t171 x7_3 (wrap64 (x8_4 + 1))) else (if x8_4 ≥ 3 then (if x8_4 > t170 then (some false) else (if x8_4 = t170 then (if x7_3 < t171 then (some false) else (if x7_3 = t171 then (hamperlaw15_MatchLocal.l0 k4 a0 a1 t170 t171 (wrap64 (x7_3 + 1))) else (hamperlaw15_MatchLocal.l0 k4 a0 a1 t170 t171 (wrap64 (x7_3 + 1))))) else (if x7_3 = t171 then (some false) else (hamperlaw15_MatchLocal.l0 k4 a0 a1 t170 t171 (wrap64 (x7_3 + 1)))))) else (if x7_3 = t171 then (if x8_4 = t170 then (hamperlaw15_MatchLocal.l0 k4 a0 a1 t170 t171 (wrap64 (x7_3 + 1))) else (some false)) else (hamperlaw15_MatchLocal.l0 k4 a0 a1 t170 t171 (wrap64 (x7_3 + 1)))))) else (none)) else (none)) else (none)) = some r := by first | (rw [hji27] at H; exact H) | (simp only [hji27] at H ⊢; exact H)
                            (try rw [hji27] at c26b0)
                            have hji27w : (IntKind.i64.wrap (a1 + x8_4)) = ji27 := (i64_w _).trans hji27
                            (try rw [hji27] at c24b0)
                            (try rw [hji27] at c25b0)
                            by_cases c28 : 0 ≤ (ji27)
                            · rw [if_pos c28] at H
                              have c28b0 : decide (0 ≤ (ji27)) = true := decide_eq_true c28
                              clear c28
                              obtain ⟨ji30, hji30⟩ : ∃ j_ : Int, (wrap64 ((ji27) - x7_3)) = j_ := ⟨_, rfl⟩
                              replace H : (if 0 ≤ (ji30) then (if (ji30) < (a0.size : Int) then (if (bt a0 (ji27)) = (bt a0 (ji30)) then (hamperlaw15_MatchLocal.l1 k4 a0 a1 t170 t171 x7_3 (wrap64 (x8_4 + 1))) else (if x8_4 ≥ 3 then (if x8_4 > t170 then (some false) else (if x8_4 = t170 then (if x7_3 < t171 then (some false) else (if x7_3 = t171 then (hamperlaw15_MatchLocal.l0 k4 a0 a1 t170 t171 (wrap64 (x7_3 + 1))) else (hamperlaw15_MatchLocal.l0 k4 a0 a1 t170 t171 (wrap64 (x7_3 + 1))))) else (if x7_3 = t171 then (some false) else (hamperlaw15_MatchLocal.l0 k4 a0 a1 t170 t171 (wrap64 (x7_3 + 1)))))) else (if x7_3 = t171 then (if x8_4 = t170 then (hamperlaw15_MatchLocal.l0 k4 a0 a1 t170 t171 (wrap64 (x7_3 + 1))) else (some false)) else (hamperlaw15_MatchLocal.l0 k4 a0 a1 t170 t171 (wrap64 (x7_3 + 1)))))) else (none)) else (none)) = some r := by first | (rw [hji30] at H; exact H) | (simp only [hji30] at H ⊢; exact H)
                              have hji30w : (IntKind.i64.wrap ((ji27) - x7_3)) = ji30 := (i64_w _).trans hji30
                              (try rw [hji30] at c24b0)
                              (try rw [hji30] at c25b0)
                              (try rw [hji30] at c26b0)
                              (try rw [hji30] at c28b0)
                              by_cases c31 : 0 ≤ (ji30)
                              · rw [if_pos c31] at H
                                have c31b0 : decide (0 ≤ (ji30)) = true := decide_eq_true c31
                                clear c31
                                by_cases c32 : (ji30) < (a0.size : Int)
                                · rw [if_pos c32] at H
                                  have c32b0 : decide ((ji30) < (a0.size : Int)) = true := decide_eq_true c32
                                  clear c32
                                  by_cases c34 : (bt a0 (ji27)) = (bt a0 (ji30))
                                  · rw [if_pos c34] at H
                                    have c34b0 : ((bt a0 (ji27)) == (bt a0 (ji30))) = true := beq_iff_eq.mpr c34
                                    have c34b1 : ((bt a0 (ji27)) != (bt a0 (ji30))) = false := bne_eq_false_iff_eq.mpr c34
                                    clear c34
                                    have H' := Aside0.mk H
                                    clear H
                                    have p29 : 0 ≤ ((ji27) : Int) := of_decide_eq_true (by first | (with_reducible assumption) | assumption)
                                    have q29 : (ji27) < (a0.size : Int) := of_decide_eq_true (by first | (with_reducible assumption) | assumption)
                                    have hx29 := bt_at a0 (ji27)
                                    replace p29 := eq_true p29
                                    replace q29 := eq_true q29
                                    have p33 : 0 ≤ ((ji30) : Int) := of_decide_eq_true (by first | (with_reducible assumption) | assumption)
                                    have q33 : (ji30) < (a0.size : Int) := of_decide_eq_true (by first | (with_reducible assumption) | assumption)
                                    have hx33 := bt_at a0 (ji30)
                                    replace p33 := eq_true p33
                                    replace q33 := eq_true q33
                                    go_wp2
                                    repeat (go_quiet (fail); try go_wp2)
                                    go_roundg k4
                                    case measure => have := HJ2.out; have := HJ15.out; have := HK3.out; have := HK4.out; omega
                                    case rel => exact ⟨(wrap64 (x8_4 + 1)), (by first | rfl | (simp; done) | (simp [*]; done)), (by first | exact H' | (rw [hji27]; exact H') | (rw [hji30]; exact H') | (simp only [hji27, hji30]; exact H')), ⟨by have := HJ2.out; have := HJ15.out; have := HK3.out; have := HK4.out; omega⟩, ⟨by repeat (first | (with_reducible first | exact HB.out | apply below_alloc | apply pw_below_drewN | apply below_drew1) | exact HB.out)⟩⟩
                                  · rw [if_neg c34] at H
                                    have c34b0 : ((bt a0 (ji27)) == (bt a0 (ji30))) = false := beq_eq_false_iff_ne.mpr c34
                                    have c34b1 : ((bt a0 (ji27)) != (bt a0 (ji30))) = true := bne_iff_ne.mpr c34
                                    by_cases c35 : x8_4 ≥ 3
                                    · rw [if_pos c35] at H
                                      have c35b0 : decide (3 ≤ x8_4) = true := decide_eq_true c35
                                      clear c35
                                      by_cases c36 : x8_4 > t170
                                      · rw [if_pos c36] at H
                                        have c36b0 : decide (t170 < x8_4) = true := decide_eq_true c36
                                        clear c36
                                        obtain rfl := Option.some.inj H
                                        have p29 : 0 ≤ ((ji27) : Int) := of_decide_eq_true (by first | (with_reducible assumption) | assumption)
                                        have q29 : (ji27) < (a0.size : Int) := of_decide_eq_true (by first | (with_reducible assumption) | assumption)
                                        have hx29 := bt_at a0 (ji27)
                                        replace p29 := eq_true p29
                                        replace q29 := eq_true q29
                                        have p33 : 0 ≤ ((ji30) : Int) := of_decide_eq_true (by first | (with_reducible assumption) | assumption)
                                        have q33 : (ji30) < (a0.size : Int) := of_decide_eq_true (by first | (with_reducible assumption) | assumption)
                                        have hx33 := bt_at a0 (ji30)
                                        replace p33 := eq_true p33
                                        replace q33 := eq_true q33
                                        go_wp2
                                        repeat (go_quiet (fail); try go_wp2)
                                        go_ret
                                        exact ⟨by first | rfl | (simp [errW_none, errW_some] <;> rfl) | (simp only [← hji27, ← hji30]; first | rfl | (simp [errW_none, errW_some] <;> rfl)) | (simp [*, errW_none, errW_some] <;> rfl), by repeat (first | (with_reducible first | exact HB.out | apply below_alloc | apply pw_below_drewN | apply below_drew1) | exact HB.out)⟩
                                      · rw [if_neg c36] at H
                                        have c36b0 : decide (t170 < x8_4) = false := decide_eq_false c36
                                        clear c36
                                        by_cases c37 : x8_4 = t170
                                        · rw [if_pos c37] at H
                                          have c37b0 : (x8_4 == t170) = true := beq_iff_eq.mpr c37
                                          have c37b1 : (x8_4 != t170) = false := bne_eq_false_iff_eq.mpr c37
                                          clear c37
                                          by_cases c38 : x7_3 < t171
                                          · rw [if_pos c38] at H
                                            have c38b0 : decide (x7_3 < t171) = true := decide_eq_true c38
                                            clear c38
                                            obtain rfl := Option.some.inj H
                                            have p29 : 0 ≤ ((ji27) : Int) := of_decide_eq_true (by first | (with_reducible assumption) | assumption)
                                            have q29 : (ji27) < (a0.size : Int) := of_decide_eq_true (by first | (with_reducible assumption) | assumption)
                                            have hx29 := bt_at a0 (ji27)
                                            replace p29 := eq_true p29
                                            replace q29 := eq_true q29
                                            have p33 : 0 ≤ ((ji30) : Int) := of_decide_eq_true (by first | (with_reducible assumption) | assumption)
                                            have q33 : (ji30) < (a0.size : Int) := of_decide_eq_true (by first | (with_reducible assumption) | assumption)
                                            have hx33 := bt_at a0 (ji30)
                                            replace p33 := eq_true p33
                                            replace q33 := eq_true q33
                                            go_wp2
                                            repeat (go_quiet (fail); try go_wp2)
                                            go_ret
                                            exact ⟨by first | rfl | (simp [errW_none, errW_some] <;> rfl) | (simp only [← hji27, ← hji30]; first | rfl | (simp [errW_none, errW_some] <;> rfl)) | (simp [*, errW_none, errW_some] <;> rfl), by repeat (first | (with_reducible first | exact HB.out | apply below_alloc | apply pw_below_drewN | apply below_drew1) | exact HB.out)⟩
                                          · rw [if_neg c38] at H
                                            have c38b0 : decide (x7_3 < t171) = false := decide_eq_false c38
                                            clear c38
                                            by_cases c39 : x7_3 = t171
                                            · rw [if_pos c39] at H
                                              have c39b0 : (x7_3 == t171) = true := beq_iff_eq.mpr c39
                                              have c39b1 : (x7_3 != t171) = false := bne_eq_false_iff_eq.mpr c39
                                              clear c39
                                              have H' := Aside0.mk H
                                              clear H
                                              have p29 : 0 ≤ ((ji27) : Int) := of_decide_eq_true (by first | (with_reducible assumption) | assumption)
                                              have q29 : (ji27) < (a0.size : Int) := of_decide_eq_true (by first | (with_reducible assumption) | assumption)
                                              have hx29 := bt_at a0 (ji27)
                                              replace p29 := eq_true p29
                                              replace q29 := eq_true q29
                                              have p33 : 0 ≤ ((ji30) : Int) := of_decide_eq_true (by first | (with_reducible assumption) | assumption)
                                              have q33 : (ji30) < (a0.size : Int) := of_decide_eq_true (by first | (with_reducible assumption) | assumption)
                                              have hx33 := bt_at a0 (ji30)
                                              replace p33 := eq_true p33
                                              replace q33 := eq_true q33
                                              go_wp2
                                              repeat (go_quiet (fail); try go_wp2)
                                              go_roundg k4
                                              case measure => have := HJ2.out; have := HJ15.out; have := HK3.out; have := HK4.out; omega
                                              case rel => exact ⟨(wrap64 (x7_3 + 1)), (by first | rfl | (simp; done) | (simp [*]; done)), (by first | exact H' | (rw [hji27]; exact H') | (rw [hji30]; exact H') | (simp only [hji27, hji30]; exact H')), ⟨by have := HJ2.out; have := HJ15.out; have := HK3.out; have := HK4.out; omega⟩, ⟨by repeat (first | (with_reducible first | exact HB.out | apply below_alloc | apply pw_below_drewN | apply below_drew1) | exact HB.out)⟩⟩
                                            · rw [if_neg c39] at H
                                              have c39b0 : (x7_3 == t171) = false := beq_eq_false_iff_ne.mpr c39
                                              have c39b1 : (x7_3 != t171) = true := bne_iff_ne.mpr c39
                                              have H' := Aside0.mk H
                                              clear H
                                              have p29 : 0 ≤ ((ji27) : Int) := of_decide_eq_true (by first | (with_reducible assumption) | assumption)
                                              have q29 : (ji27) < (a0.size : Int) := of_decide_eq_true (by first | (with_reducible assumption) | assumption)
                                              have hx29 := bt_at a0 (ji27)
                                              replace p29 := eq_true p29
                                              replace q29 := eq_true q29
                                              have p33 : 0 ≤ ((ji30) : Int) := of_decide_eq_true (by first | (with_reducible assumption) | assumption)
                                              have q33 : (ji30) < (a0.size : Int) := of_decide_eq_true (by first | (with_reducible assumption) | assumption)
                                              have hx33 := bt_at a0 (ji30)
                                              replace p33 := eq_true p33
                                              replace q33 := eq_true q33
                                              go_wp2
                                              repeat (go_quiet (fail); try go_wp2)
                                              go_roundg k4
                                              case measure => have := HJ2.out; have := HJ15.out; have := HK3.out; have := HK4.out; omega
                                              case rel => exact ⟨(wrap64 (x7_3 + 1)), (by first | rfl | (simp; done) | (simp [*]; done)), (by first | exact H' | (rw [hji27]; exact H') | (rw [hji30]; exact H') | (simp only [hji27, hji30]; exact H')), ⟨by have := HJ2.out; have := HJ15.out; have := HK3.out; have := HK4.out; omega⟩, ⟨by repeat (first | (with_reducible first | exact HB.out | apply below_alloc | apply pw_below_drewN | apply below_drew1) | exact HB.out)⟩⟩
                                        · rw [if_neg c37] at H
                                          have c37b0 : (x8_4 == t170) = false := beq_eq_false_iff_ne.mpr c37
                                          have c37b1 : (x8_4 != t170) = true := bne_iff_ne.mpr c37
                                          by_cases c40 : x7_3 = t171
                                          · rw [if_pos c40] at H
                                            have c40b0 : (x7_3 == t171) = true := beq_iff_eq.mpr c40
                                            have c40b1 : (x7_3 != t171) = false := bne_eq_false_iff_eq.mpr c40
                                            clear c40
                                            obtain rfl := Option.some.inj H
                                            have p29 : 0 ≤ ((ji27) : Int) := of_decide_eq_true (by first | (with_reducible assumption) | assumption)
                                            have q29 : (ji27) < (a0.size : Int) := of_decide_eq_true (by first | (with_reducible assumption) | assumption)
                                            have hx29 := bt_at a0 (ji27)
                                            replace p29 := eq_true p29
                                            replace q29 := eq_true q29
                                            have p33 : 0 ≤ ((ji30) : Int) := of_decide_eq_true (by first | (with_reducible assumption) | assumption)
                                            have q33 : (ji30) < (a0.size : Int) := of_decide_eq_true (by first | (with_reducible assumption) | assumption)
                                            have hx33 := bt_at a0 (ji30)
                                            replace p33 := eq_true p33
                                            replace q33 := eq_true q33
                                            go_wp2
                                            repeat (go_quiet (fail); try go_wp2)
                                            go_ret
                                            exact ⟨by first | rfl | (simp [errW_none, errW_some] <;> rfl) | (simp only [← hji27, ← hji30]; first | rfl | (simp [errW_none, errW_some] <;> rfl)) | (simp [*, errW_none, errW_some] <;> rfl), by repeat (first | (with_reducible first | exact HB.out | apply below_alloc | apply pw_below_drewN | apply below_drew1) | exact HB.out)⟩
                                          · rw [if_neg c40] at H
                                            have c40b0 : (x7_3 == t171) = false := beq_eq_false_iff_ne.mpr c40
                                            have c40b1 : (x7_3 != t171) = true := bne_iff_ne.mpr c40
                                            have H' := Aside0.mk H
                                            clear H
                                            have p29 : 0 ≤ ((ji27) : Int) := of_decide_eq_true (by first | (with_reducible assumption) | assumption)
                                            have q29 : (ji27) < (a0.size : Int) := of_decide_eq_true (by first | (with_reducible assumption) | assumption)
                                            have hx29 := bt_at a0 (ji27)
                                            replace p29 := eq_true p29
                                            replace q29 := eq_true q29
                                            have p33 : 0 ≤ ((ji30) : Int) := of_decide_eq_true (by first | (with_reducible assumption) | assumption)
                                            have q33 : (ji30) < (a0.size : Int) := of_decide_eq_true (by first | (with_reducible assumption) | assumption)
                                            have hx33 := bt_at a0 (ji30)
                                            replace p33 := eq_true p33
                                            replace q33 := eq_true q33
                                            go_wp2
                                            repeat (go_quiet (fail); try go_wp2)
                                            go_roundg k4
                                            case measure => have := HJ2.out; have := HJ15.out; have := HK3.out; have := HK4.out; omega
                                            case rel => exact ⟨(wrap64 (x7_3 + 1)), (by first | rfl | (simp; done) | (simp [*]; done)), (by first | exact H' | (rw [hji27]; exact H') | (rw [hji30]; exact H') | (simp only [hji27, hji30]; exact H')), ⟨by have := HJ2.out; have := HJ15.out; have := HK3.out; have := HK4.out; omega⟩, ⟨by repeat (first | (with_reducible first | exact HB.out | apply below_alloc | apply pw_below_drewN | apply below_drew1) | exact HB.out)⟩⟩
                                    · rw [if_neg c35] at H
                                      have c35b0 : decide (3 ≤ x8_4) = false := decide_eq_false c35
                                      clear c35
                                      by_cases c41 : x7_3 = t171
                                      · rw [if_pos c41] at H
                                        have c41b0 : (x7_3 == t171) = true := beq_iff_eq.mpr c41
                                        have c41b1 : (x7_3 != t171) = false := bne_eq_false_iff_eq.mpr c41
                                        clear c41
                                        by_cases c42 : x8_4 = t170
                                        · rw [if_pos c42] at H
                                          have c42b0 : (x8_4 == t170) = true := beq_iff_eq.mpr c42
                                          have c42b1 : (x8_4 != t170) = false := bne_eq_false_iff_eq.mpr c42
                                          clear c42
                                          have H' := Aside0.mk H
                                          clear H
                                          have p29 : 0 ≤ ((ji27) : Int) := of_decide_eq_true (by first | (with_reducible assumption) | assumption)
                                          have q29 : (ji27) < (a0.size : Int) := of_decide_eq_true (by first | (with_reducible assumption) | assumption)
                                          have hx29 := bt_at a0 (ji27)
                                          replace p29 := eq_true p29
                                          replace q29 := eq_true q29
                                          have p33 : 0 ≤ ((ji30) : Int) := of_decide_eq_true (by first | (with_reducible assumption) | assumption)
                                          have q33 : (ji30) < (a0.size : Int) := of_decide_eq_true (by first | (with_reducible assumption) | assumption)
                                          have hx33 := bt_at a0 (ji30)
                                          replace p33 := eq_true p33
                                          replace q33 := eq_true q33
                                          go_wp2
                                          repeat (go_quiet (fail); try go_wp2)
                                          go_roundg k4
                                          case measure => have := HJ2.out; have := HJ15.out; have := HK3.out; have := HK4.out; omega
                                          case rel => exact ⟨(wrap64 (x7_3 + 1)), (by first | rfl | (simp; done) | (simp [*]; done)), (by first | exact H' | (rw [hji27]; exact H') | (rw [hji30]; exact H') | (simp only [hji27, hji30]; exact H')), ⟨by have := HJ2.out; have := HJ15.out; have := HK3.out; have := HK4.out; omega⟩, ⟨by repeat (first | (with_reducible first | exact HB.out | apply below_alloc | apply pw_below_drewN | apply below_drew1) | exact HB.out)⟩⟩
                                        · rw [if_neg c42] at H
                                          have c42b0 : (x8_4 == t170) = false := beq_eq_false_iff_ne.mpr c42
                                          have c42b1 : (x8_4 != t170) = true := bne_iff_ne.mpr c42
                                          obtain rfl := Option.some.inj H
                                          have p29 : 0 ≤ ((ji27) : Int) := of_decide_eq_true (by first | (with_reducible assumption) | assumption)
                                          have q29 : (ji27) < (a0.size : Int) := of_decide_eq_true (by first | (with_reducible assumption) | assumption)
                                          have hx29 := bt_at a0 (ji27)
                                          replace p29 := eq_true p29
                                          replace q29 := eq_true q29
                                          have p33 : 0 ≤ ((ji30) : Int) := of_decide_eq_true (by first | (with_reducible assumption) | assumption)
                                          have q33 : (ji30) < (a0.size : Int) := of_decide_eq_true (by first | (with_reducible assumption) | assumption)
                                          have hx33 := bt_at a0 (ji30)
                                          replace p33 := eq_true p33
                                          replace q33 := eq_true q33
                                          go_wp2
                                          repeat (go_quiet (fail); try go_wp2)
                                          go_ret
                                          exact ⟨by first | rfl | (simp [errW_none, errW_some] <;> rfl) | (simp only [← hji27, ← hji30]; first | rfl | (simp [errW_none, errW_some] <;> rfl)) | (simp [*, errW_none, errW_some] <;> rfl), by repeat (first | (with_reducible first | exact HB.out | apply below_alloc | apply pw_below_drewN | apply below_drew1) | exact HB.out)⟩
                                      · rw [if_neg c41] at H
                                        have c41b0 : (x7_3 == t171) = false := beq_eq_false_iff_ne.mpr c41
                                        have c41b1 : (x7_3 != t171) = true := bne_iff_ne.mpr c41
                                        have H' := Aside0.mk H
                                        clear H
                                        have p29 : 0 ≤ ((ji27) : Int) := of_decide_eq_true (by first | (with_reducible assumption) | assumption)
                                        have q29 : (ji27) < (a0.size : Int) := of_decide_eq_true (by first | (with_reducible assumption) | assumption)
                                        have hx29 := bt_at a0 (ji27)
                                        replace p29 := eq_true p29
                                        replace q29 := eq_true q29
                                        have p33 : 0 ≤ ((ji30) : Int) := of_decide_eq_true (by first | (with_reducible assumption) | assumption)
                                        have q33 : (ji30) < (a0.size : Int) := of_decide_eq_true (by first | (with_reducible assumption) | assumption)
                                        have hx33 := bt_at a0 (ji30)
                                        replace p33 := eq_true p33
                                        replace q33 := eq_true q33
                                        go_wp2
                                        repeat (go_quiet (fail); try go_wp2)
                                        go_roundg k4
                                        case measure => have := HJ2.out; have := HJ15.out; have := HK3.out; have := HK4.out; omega
                                        case rel => exact ⟨(wrap64 (x7_3 + 1)), (by first | rfl | (simp; done) | (simp [*]; done)), (by first | exact H' | (rw [hji27]; exact H') | (rw [hji30]; exact H') | (simp only [hji27, hji30]; exact H')), ⟨by have := HJ2.out; have := HJ15.out; have := HK3.out; have := HK4.out; omega⟩, ⟨by repeat (first | (with_reducible first | exact HB.out | apply below_alloc | apply pw_below_drewN | apply below_drew1) | exact HB.out)⟩⟩
                                · rw [if_neg c32] at H
                                  exact absurd H (by simp)
                              · rw [if_neg c31] at H
                                exact absurd H (by simp)
                            · rw [if_neg c28] at H
                              exact absurd H (by simp)
                          · rw [if_neg c26] at H
                            have c26b0 : decide ((wrap64 (a1 + x8_4)) < (a0.size : Int)) = false := decide_eq_false c26
                            clear c26
                            by_cases c43 : x8_4 ≥ 3
                            · rw [if_pos c43] at H
                              have c43b0 : decide (3 ≤ x8_4) = true := decide_eq_true c43
                              clear c43
                              by_cases c44 : x8_4 > t170
                              · rw [if_pos c44] at H
                                have c44b0 : decide (t170 < x8_4) = true := decide_eq_true c44
                                clear c44
                                obtain rfl := Option.some.inj H
                                go_wp2
                                repeat (go_quiet (fail); try go_wp2)
                                go_ret
                                exact ⟨by first | rfl | (simp [errW_none, errW_some] <;> rfl) | (simp [*, errW_none, errW_some] <;> rfl), by repeat (first | (with_reducible first | exact HB.out | apply below_alloc | apply pw_below_drewN | apply below_drew1) | exact HB.out)⟩
                              · rw [if_neg c44] at H
                                have c44b0 : decide (t170 < x8_4) = false := decide_eq_false c44
                                clear c44
                                by_cases c45 : x8_4 = t170
                                · rw [if_pos c45] at H
                                  have c45b0 : (x8_4 == t170) = true := beq_iff_eq.mpr c45
                                  have c45b1 : (x8_4 != t170) = false := bne_eq_false_iff_eq.mpr c45
                                  clear c45
                                  by_cases c46 : x7_3 < t171
                                  · rw [if_pos c46] at H
                                    have c46b0 : decide (x7_3 < t171) = true := decide_eq_true c46
                                    clear c46
                                    obtain rfl := Option.some.inj H
                                    go_wp2
                                    repeat (go_quiet (fail); try go_wp2)
                                    go_ret
                                    exact ⟨by first | rfl | (simp [errW_none, errW_some] <;> rfl) | (simp [*, errW_none, errW_some] <;> rfl), by repeat (first | (with_reducible first | exact HB.out | apply below_alloc | apply pw_below_drewN | apply below_drew1) | exact HB.out)⟩
                                  · rw [if_neg c46] at H
                                    have c46b0 : decide (x7_3 < t171) = false := decide_eq_false c46
                                    clear c46
                                    by_cases c47 : x7_3 = t171
                                    · rw [if_pos c47] at H
                                      have c47b0 : (x7_3 == t171) = true := beq_iff_eq.mpr c47
                                      have c47b1 : (x7_3 != t171) = false := bne_eq_false_iff_eq.mpr c47
                                      clear c47
                                      have H' := Aside0.mk H
                                      clear H
                                      go_wp2
                                      repeat (go_quiet (fail); try go_wp2)
                                      go_roundg k4
                                      case measure => have := HJ2.out; have := HJ15.out; have := HK3.out; have := HK4.out; omega
                                      case rel => exact ⟨(wrap64 (x7_3 + 1)), (by first | rfl | (simp; done) | (simp [*]; done)), (by first | exact H' | (rw [hji27]; exact H') | (rw [hji30]; exact H') | (simp only [hji27, hji30]; exact H')), ⟨by have := HJ2.out; have := HJ15.out; have := HK3.out; have := HK4.out; omega⟩, ⟨by repeat (first | (with_reducible first | exact HB.out | apply below_alloc | apply pw_below_drewN | apply below_drew1) | exact HB.out)⟩⟩
                                    · rw [if_neg c47] at H
                                      have c47b0 : (x7_3 == t171) = false := beq_eq_false_iff_ne.mpr c47
                                      have c47b1 : (x7_3 != t171) = true := bne_iff_ne.mpr c47
                                      have H' := Aside0.mk H
                                      clear H
                                      go_wp2
                                      repeat (go_quiet (fail); try go_wp2)
                                      go_roundg k4
                                      case measure => have := HJ2.out; have := HJ15.out; have := HK3.out; have := HK4.out; omega
                                      case rel => exact ⟨(wrap64 (x7_3 + 1)), (by first | rfl | (simp; done) | (simp [*]; done)), (by first | exact H' | (rw [hji27]; exact H') | (rw [hji30]; exact H') | (simp only [hji27, hji30]; exact H')), ⟨by have := HJ2.out; have := HJ15.out; have := HK3.out; have := HK4.out; omega⟩, ⟨by repeat (first | (with_reducible first | exact HB.out | apply below_alloc | apply pw_below_drewN | apply below_drew1) | exact HB.out)⟩⟩
                                · rw [if_neg c45] at H
                                  have c45b0 : (x8_4 == t170) = false := beq_eq_false_iff_ne.mpr c45
                                  have c45b1 : (x8_4 != t170) = true := bne_iff_ne.mpr c45
                                  by_cases c48 : x7_3 = t171
                                  · rw [if_pos c48] at H
                                    have c48b0 : (x7_3 == t171) = true := beq_iff_eq.mpr c48
                                    have c48b1 : (x7_3 != t171) = false := bne_eq_false_iff_eq.mpr c48
                                    clear c48
                                    obtain rfl := Option.some.inj H
                                    go_wp2
                                    repeat (go_quiet (fail); try go_wp2)
                                    go_ret
                                    exact ⟨by first | rfl | (simp [errW_none, errW_some] <;> rfl) | (simp [*, errW_none, errW_some] <;> rfl), by repeat (first | (with_reducible first | exact HB.out | apply below_alloc | apply pw_below_drewN | apply below_drew1) | exact HB.out)⟩
                                  · rw [if_neg c48] at H
                                    have c48b0 : (x7_3 == t171) = false := beq_eq_false_iff_ne.mpr c48
                                    have c48b1 : (x7_3 != t171) = true := bne_iff_ne.mpr c48
                                    have H' := Aside0.mk H
                                    clear H
                                    go_wp2
                                    repeat (go_quiet (fail); try go_wp2)
                                    go_roundg k4
                                    case measure => have := HJ2.out; have := HJ15.out; have := HK3.out; have := HK4.out; omega
                                    case rel => exact ⟨(wrap64 (x7_3 + 1)), (by first | rfl | (simp; done) | (simp [*]; done)), (by first | exact H' | (rw [hji27]; exact H') | (rw [hji30]; exact H') | (simp only [hji27, hji30]; exact H')), ⟨by have := HJ2.out; have := HJ15.out; have := HK3.out; have := HK4.out; omega⟩, ⟨by repeat (first | (with_reducible first | exact HB.out | apply below_alloc | apply pw_below_drewN | apply below_drew1) | exact HB.out)⟩⟩
                            · rw [if_neg c43] at H
                              have c43b0 : decide (3 ≤ x8_4) = false := decide_eq_false c43
                              clear c43
                              by_cases c49 : x7_3 = t171
                              · rw [if_pos c49] at H
                                have c49b0 : (x7_3 == t171) = true := beq_iff_eq.mpr c49
                                have c49b1 : (x7_3 != t171) = false := bne_eq_false_iff_eq.mpr c49
                                clear c49
                                by_cases c50 : x8_4 = t170
                                · rw [if_pos c50] at H
                                  have c50b0 : (x8_4 == t170) = true := beq_iff_eq.mpr c50
                                  have c50b1 : (x8_4 != t170) = false := bne_eq_false_iff_eq.mpr c50
                                  clear c50
                                  have H' := Aside0.mk H
                                  clear H
                                  go_wp2
                                  repeat (go_quiet (fail); try go_wp2)
                                  go_roundg k4
                                  case measure => have := HJ2.out; have := HJ15.out; have := HK3.out; have := HK4.out; omega
                                  case rel => exact ⟨(wrap64 (x7_3 + 1)), (by first | rfl | (simp; done) | (simp [*]; done)), (by first | exact H' | (rw [hji27]; exact H') | (rw [hji30]; exact H') | (simp only [hji27, hji30]; exact H')), ⟨by have := HJ2.out; have := HJ15.out; have := HK3.out; have := HK4.out; omega⟩, ⟨by repeat (first | (with_reducible first | exact HB.out | apply below_alloc | apply pw_below_drewN | apply below_drew1) | exact HB.out)⟩⟩
                                · rw [if_neg c50] at H
                                  have c50b0 : (x8_4 == t170) = false := beq_eq_false_iff_ne.mpr c50
                                  have c50b1 : (x8_4 != t170) = true := bne_iff_ne.mpr c50
                                  obtain rfl := Option.some.inj H
                                  go_wp2
                                  repeat (go_quiet (fail); try go_wp2)
                                  go_ret
                                  exact ⟨by first | rfl | (simp [errW_none, errW_some] <;> rfl) | (simp [*, errW_none, errW_some] <;> rfl), by repeat (first | (with_reducible first | exact HB.out | apply below_alloc | apply pw_below_drewN | apply below_drew1) | exact HB.out)⟩
                              · rw [if_neg c49] at H
                                have c49b0 : (x7_3 == t171) = false := beq_eq_false_iff_ne.mpr c49
                                have c49b1 : (x7_3 != t171) = true := bne_iff_ne.mpr c49
                                have H' := Aside0.mk H
                                clear H
                                go_wp2
                                repeat (go_quiet (fail); try go_wp2)
                                go_roundg k4
                                case measure => have := HJ2.out; have := HJ15.out; have := HK3.out; have := HK4.out; omega
                                case rel => exact ⟨(wrap64 (x7_3 + 1)), (by first | rfl | (simp; done) | (simp [*]; done)), (by first | exact H' | (rw [hji27]; exact H') | (rw [hji30]; exact H') | (simp only [hji27, hji30]; exact H')), ⟨by have := HJ2.out; have := HJ15.out; have := HK3.out; have := HK4.out; omega⟩, ⟨by repeat (first | (with_reducible first | exact HB.out | apply below_alloc | apply pw_below_drewN | apply below_drew1) | exact HB.out)⟩⟩
                        · rw [if_neg c25] at H
                          have c25b0 : decide (x8_4 < 258) = false := decide_eq_false c25
                          clear c25
                          by_cases c51 : x8_4 ≥ 3
                          · rw [if_pos c51] at H
                            have c51b0 : decide (3 ≤ x8_4) = true := decide_eq_true c51
                            clear c51
                            by_cases c52 : x8_4 > t170
                            · rw [if_pos c52] at H
                              have c52b0 : decide (t170 < x8_4) = true := decide_eq_true c52
                              clear c52
                              obtain rfl := Option.some.inj H
                              go_wp2
                              repeat (go_quiet (fail); try go_wp2)
                              go_ret
                              exact ⟨by first | rfl | (simp [errW_none, errW_some] <;> rfl) | (simp [*, errW_none, errW_some] <;> rfl), by repeat (first | (with_reducible first | exact HB.out | apply below_alloc | apply pw_below_drewN | apply below_drew1) | exact HB.out)⟩
                            · rw [if_neg c52] at H
                              have c52b0 : decide (t170 < x8_4) = false := decide_eq_false c52
                              clear c52
                              by_cases c53 : x8_4 = t170
                              · rw [if_pos c53] at H
                                have c53b0 : (x8_4 == t170) = true := beq_iff_eq.mpr c53
                                have c53b1 : (x8_4 != t170) = false := bne_eq_false_iff_eq.mpr c53
                                clear c53
                                by_cases c54 : x7_3 < t171
                                · rw [if_pos c54] at H
                                  have c54b0 : decide (x7_3 < t171) = true := decide_eq_true c54
                                  clear c54
                                  obtain rfl := Option.some.inj H
                                  go_wp2
                                  repeat (go_quiet (fail); try go_wp2)
                                  go_ret
                                  exact ⟨by first | rfl | (simp [errW_none, errW_some] <;> rfl) | (simp [*, errW_none, errW_some] <;> rfl), by repeat (first | (with_reducible first | exact HB.out | apply below_alloc | apply pw_below_drewN | apply below_drew1) | exact HB.out)⟩
                                · rw [if_neg c54] at H
                                  have c54b0 : decide (x7_3 < t171) = false := decide_eq_false c54
                                  clear c54
                                  by_cases c55 : x7_3 = t171
                                  · rw [if_pos c55] at H
                                    have c55b0 : (x7_3 == t171) = true := beq_iff_eq.mpr c55
                                    have c55b1 : (x7_3 != t171) = false := bne_eq_false_iff_eq.mpr c55
                                    clear c55
                                    have H' := Aside0.mk H
                                    clear H
                                    go_wp2
                                    repeat (go_quiet (fail); try go_wp2)
                                    go_roundg k4
                                    case measure => have := HJ2.out; have := HJ15.out; have := HK3.out; have := HK4.out; omega
                                    case rel => exact ⟨(wrap64 (x7_3 + 1)), (by first | rfl | (simp; done) | (simp [*]; done)), (by first | exact H' | (rw [hji27]; exact H') | (rw [hji30]; exact H') | (simp only [hji27, hji30]; exact H')), ⟨by have := HJ2.out; have := HJ15.out; have := HK3.out; have := HK4.out; omega⟩, ⟨by repeat (first | (with_reducible first | exact HB.out | apply below_alloc | apply pw_below_drewN | apply below_drew1) | exact HB.out)⟩⟩
                                  · rw [if_neg c55] at H
                                    have c55b0 : (x7_3 == t171) = false := beq_eq_false_iff_ne.mpr c55
                                    have c55b1 : (x7_3 != t171) = true := bne_iff_ne.mpr c55
                                    have H' := Aside0.mk H
                                    clear H
                                    go_wp2
                                    repeat (go_quiet (fail); try go_wp2)
                                    go_roundg k4
                                    case measure => have := HJ2.out; have := HJ15.out; have := HK3.out; have := HK4.out; omega
                                    case rel => exact ⟨(wrap64 (x7_3 + 1)), (by first | rfl | (simp; done) | (simp [*]; done)), (by first | exact H' | (rw [hji27]; exact H') | (rw [hji30]; exact H') | (simp only [hji27, hji30]; exact H')), ⟨by have := HJ2.out; have := HJ15.out; have := HK3.out; have := HK4.out; omega⟩, ⟨by repeat (first | (with_reducible first | exact HB.out | apply below_alloc | apply pw_below_drewN | apply below_drew1) | exact HB.out)⟩⟩
                              · rw [if_neg c53] at H
                                have c53b0 : (x8_4 == t170) = false := beq_eq_false_iff_ne.mpr c53
                                have c53b1 : (x8_4 != t170) = true := bne_iff_ne.mpr c53
                                by_cases c56 : x7_3 = t171
                                · rw [if_pos c56] at H
                                  have c56b0 : (x7_3 == t171) = true := beq_iff_eq.mpr c56
                                  have c56b1 : (x7_3 != t171) = false := bne_eq_false_iff_eq.mpr c56
                                  clear c56
                                  obtain rfl := Option.some.inj H
                                  go_wp2
                                  repeat (go_quiet (fail); try go_wp2)
                                  go_ret
                                  exact ⟨by first | rfl | (simp [errW_none, errW_some] <;> rfl) | (simp [*, errW_none, errW_some] <;> rfl), by repeat (first | (with_reducible first | exact HB.out | apply below_alloc | apply pw_below_drewN | apply below_drew1) | exact HB.out)⟩
                                · rw [if_neg c56] at H
                                  have c56b0 : (x7_3 == t171) = false := beq_eq_false_iff_ne.mpr c56
                                  have c56b1 : (x7_3 != t171) = true := bne_iff_ne.mpr c56
                                  have H' := Aside0.mk H
                                  clear H
                                  go_wp2
                                  repeat (go_quiet (fail); try go_wp2)
                                  go_roundg k4
                                  case measure => have := HJ2.out; have := HJ15.out; have := HK3.out; have := HK4.out; omega
                                  case rel => exact ⟨(wrap64 (x7_3 + 1)), (by first | rfl | (simp; done) | (simp [*]; done)), (by first | exact H' | (rw [hji27]; exact H') | (rw [hji30]; exact H') | (simp only [hji27, hji30]; exact H')), ⟨by have := HJ2.out; have := HJ15.out; have := HK3.out; have := HK4.out; omega⟩, ⟨by repeat (first | (with_reducible first | exact HB.out | apply below_alloc | apply pw_below_drewN | apply below_drew1) | exact HB.out)⟩⟩
                          · rw [if_neg c51] at H
                            have c51b0 : decide (3 ≤ x8_4) = false := decide_eq_false c51
                            clear c51
                            by_cases c57 : x7_3 = t171
                            · rw [if_pos c57] at H
                              have c57b0 : (x7_3 == t171) = true := beq_iff_eq.mpr c57
                              have c57b1 : (x7_3 != t171) = false := bne_eq_false_iff_eq.mpr c57
                              clear c57
                              by_cases c58 : x8_4 = t170
                              · rw [if_pos c58] at H
                                have c58b0 : (x8_4 == t170) = true := beq_iff_eq.mpr c58
                                have c58b1 : (x8_4 != t170) = false := bne_eq_false_iff_eq.mpr c58
                                clear c58
                                have H' := Aside0.mk H
                                clear H
                                go_wp2
                                repeat (go_quiet (fail); try go_wp2)
                                go_roundg k4
                                case measure => have := HJ2.out; have := HJ15.out; have := HK3.out; have := HK4.out; omega
                                case rel => exact ⟨(wrap64 (x7_3 + 1)), (by first | rfl | (simp; done) | (simp [*]; done)), (by first | exact H' | (rw [hji27]; exact H') | (rw [hji30]; exact H') | (simp only [hji27, hji30]; exact H')), ⟨by have := HJ2.out; have := HJ15.out; have := HK3.out; have := HK4.out; omega⟩, ⟨by repeat (first | (with_reducible first | exact HB.out | apply below_alloc | apply pw_below_drewN | apply below_drew1) | exact HB.out)⟩⟩
                              · rw [if_neg c58] at H
                                have c58b0 : (x8_4 == t170) = false := beq_eq_false_iff_ne.mpr c58
                                have c58b1 : (x8_4 != t170) = true := bne_iff_ne.mpr c58
                                obtain rfl := Option.some.inj H
                                go_wp2
                                repeat (go_quiet (fail); try go_wp2)
                                go_ret
                                exact ⟨by first | rfl | (simp [errW_none, errW_some] <;> rfl) | (simp [*, errW_none, errW_some] <;> rfl), by repeat (first | (with_reducible first | exact HB.out | apply below_alloc | apply pw_below_drewN | apply below_drew1) | exact HB.out)⟩
                            · rw [if_neg c57] at H
                              have c57b0 : (x7_3 == t171) = false := beq_eq_false_iff_ne.mpr c57
                              have c57b1 : (x7_3 != t171) = true := bne_iff_ne.mpr c57
                              have H' := Aside0.mk H
                              clear H
                              go_wp2
                              repeat (go_quiet (fail); try go_wp2)
                              go_roundg k4
                              case measure => have := HJ2.out; have := HJ15.out; have := HK3.out; have := HK4.out; omega
                              case rel => exact ⟨(wrap64 (x7_3 + 1)), (by first | rfl | (simp; done) | (simp [*]; done)), (by first | exact H' | (rw [hji27]; exact H') | (rw [hji30]; exact H') | (simp only [hji27, hji30]; exact H')), ⟨by have := HJ2.out; have := HJ15.out; have := HK3.out; have := HK4.out; omega⟩, ⟨by repeat (first | (with_reducible first | exact HB.out | apply below_alloc | apply pw_below_drewN | apply below_drew1) | exact HB.out)⟩⟩
                  · rw [if_neg c24] at H
                    have c24b0 : decide (x7_3 ≤ a1) = false := decide_eq_false c24
                    clear c24
                    obtain rfl := Option.some.inj H
                    go_wp2
                    repeat (go_quiet (fail); try go_wp2)
                    go_ret
                    exact ⟨by first | rfl | (simp [errW_none, errW_some] <;> rfl) | (simp [*, errW_none, errW_some] <;> rfl), by repeat (first | (with_reducible first | exact HB.out | apply below_alloc | apply pw_below_drewN | apply below_drew1) | exact HB.out)⟩

/-- THE ONE PURE STATEMENT of hamperlaw15_MatchLocal: yours. -/
def hamperlaw15_MatchLocal.Pure : Prop := ∀ (a0 : ByteArray) (a1 : Int), a0.size ≤ 140737488351232 → (Lit.int .i64 a1).wf = true → ∃ k, hamperlaw15_MatchLocal.f k a0 a1 = some true
theorem hamperlaw15_MatchLocal.walk (P : hamperlaw15_MatchLocal.Pure) (a0 : ByteArray) (a1 : Int) (w : World) (w0 : a0.size ≤ 140737488351232) (w1 : (Lit.int .i64 a1).wf = true) :
    Calls Try.prog 8 #[.string a0, .int .i64 a1] w fun e w' => e = .returned (.bool true) ∧ Below w.heap.size w w' := by
  obtain ⟨k, h⟩ := P a0 a1 w0 w1
  refine (hamperlaw15_MatchLocal.calls k a0 a1 true w h).mono ?_
  rintro e w' ⟨rfl, hd⟩
  exact ⟨rfl, hd⟩

end Go.Proofs.Ytaooiffnpnmdeaa.PMt
