-- Made by a program of this session (wip/tools/pp.py) out of the seat's translation; contracts of some functions are typed by hand.
import Derived.Test.YtaclccafbdcpoaaPVintx0
import Derived.Test.YtaclccafbdcpoaaPVintx1
import Derived.Test.YtaclccafbdcpoaaPVintx2
import Derived.Test.YtaclccafbdcpoaaPVintx11
namespace Go.Proofs.Ytaclccafbdcpoaa.PVint
open Go.RowKit Go.Proofs.YtaclccafbdcpoaaW.PrintWords Go.Proofs.YtaclccafbdcpoaaW.PrintLast Go.Proofs.YtaclccafbdcpoaaW.PrintMore
attribute [local go_sem] max2_int min2_int max_two min_two max_three min_three max_four min_four   -- for this text's walks alone
set_option linter.unusedVariables false
set_option linter.unusedSimpArgs false

/-! ### hamperlaw18_VintBack: function 4 -/
mutual
def hamperlaw18_VintBack.j0 : Nat → Int → Int → ByteArray → Bool → Option (Bool)
  | 0, _, _, _, _ => none
  | k + 1, x0, x1, x2, x20 => if x20 = true then ((hamperlaw18_awake.f k).bind fun t167 => (some t167)) else ((vint_Put.f k x0).bind fun bt168 => (if bt168.2 = 0 then (if bt168.1.size + x2.size ≤ 9223372036854775807 then ((vint_Get.f k (bt168.1 ++ x2)).bind fun bt170 => (if bt170.2.2 = 0 then (if bt170.1 = x0 then (hamperlaw18_VintBack.j1 k x0 x1 x2 bt168.1 (bt170.2.1 != (bt168.1.size : Int))) else (hamperlaw18_VintBack.j1 k x0 x1 x2 bt168.1 true)) else (hamperlaw18_VintBack.j1 k x0 x1 x2 bt168.1 true))) else (none)) else (if bt168.1.toList = ([] : List UInt8) then (if x0 < 0 then (some true) else (some (decide (x0 > 4611686018427387903)))) else (some false))))
def hamperlaw18_VintBack.j1 : Nat → Int → Int → ByteArray → ByteArray → Bool → Option (Bool)
  | 0, _, _, _, _, _ => none
  | k + 1, x0, x1, x2, x7, x59 => if x59 = true then (some false) else ((vint_Put.f k x1).bind fun bt173 => (if bt173.2 = 0 then (if x1 > x0 then (if (bt173.1.size : Int) < (x7.size : Int) then (hamperlaw18_VintBack.j2 k x2 true) else (if x1 = x0 then (hamperlaw18_VintBack.j2 k x2 false) else (if (bt173.1.size : Int) ≥ (x7.size : Int) then (if 0 ≤ (x7.size : Int) then (if (x7.size : Int) ≤ (bt173.1.size : Int) then (hamperlaw18_VintBack.j2 k x2 ((bt173.1.extract 0 ((x7.size : Int) : Int).toNat).toList == x7.toList)) else (none)) else (none)) else (hamperlaw18_VintBack.j2 k x2 false)))) else (if x1 = x0 then (hamperlaw18_VintBack.j2 k x2 false) else (if (bt173.1.size : Int) ≥ (x7.size : Int) then (if 0 ≤ (x7.size : Int) then (if (x7.size : Int) ≤ (bt173.1.size : Int) then (hamperlaw18_VintBack.j2 k x2 ((bt173.1.extract 0 ((x7.size : Int) : Int).toNat).toList == x7.toList)) else (none)) else (none)) else (hamperlaw18_VintBack.j2 k x2 false)))) else (hamperlaw18_VintBack.j2 k x2 false)))
def hamperlaw18_VintBack.j2 : Nat → ByteArray → Bool → Option (Bool)
  | 0, _, _ => none
  | k + 1, x2, x98 => if x98 = true then (some false) else ((vint_Get.f k x2).bind fun bt175 => (if bt175.2.2 = 0 then ((vint_Put.f k bt175.1).bind fun bt178 => (if bt178.2 = 0 then (if bt175.2.1 ≤ (x2.size : Int) then (if 0 ≤ bt175.2.1 then (some (bt178.1.toList == (x2.extract 0 (bt175.2.1 : Int).toNat).toList)) else (none)) else (some false)) else (some false))) else (if bt175.1 = 0 then (some (bt175.2.1 == 0)) else (some false))))
end
def hamperlaw18_VintBack.f (k : Nat) (a0 : Int) (a1 : Int) (a2 : ByteArray) : Option (Bool) := if (a2.size : Int) > 3000 then (hamperlaw18_VintBack.j0 k a0 a1 a2 true) else ((hamperlaw18_awake.f k).bind fun t166 => (hamperlaw18_VintBack.j0 k a0 a1 a2 (!t166)))
theorem hamperlaw18_VintBack.mono_l : ∀ k, (∀ y0 y1 y2 y3, LeO (hamperlaw18_VintBack.j0 k y0 y1 y2 y3) (hamperlaw18_VintBack.j0 (k + 1) y0 y1 y2 y3)) ∧ (∀ y0 y1 y2 y3 y4, LeO (hamperlaw18_VintBack.j1 k y0 y1 y2 y3 y4) (hamperlaw18_VintBack.j1 (k + 1) y0 y1 y2 y3 y4)) ∧ (∀ y0 y1, LeO (hamperlaw18_VintBack.j2 k y0 y1) (hamperlaw18_VintBack.j2 (k + 1) y0 y1))
  | 0 => ⟨fun _ _ _ _ r h => by simp [hamperlaw18_VintBack.j0] at h, fun _ _ _ _ _ r h => by simp [hamperlaw18_VintBack.j1] at h, fun _ _ r h => by simp [hamperlaw18_VintBack.j2] at h⟩
  | k + 1 => by
    obtain ⟨ih0, ih1, ih2⟩ := hamperlaw18_VintBack.mono_l k
    refine ⟨?_, ?_, ?_⟩
    · intro y0 y1 y2 y3
      unfold hamperlaw18_VintBack.j0
      repeat' first
      | (with_reducible exact ih0 _ _ _ _)
      | (with_reducible exact ih1 _ _ _ _ _)
      | (with_reducible exact ih2 _ _)
      | (with_reducible exact hamperlaw18_awake.mono _)
      | (with_reducible exact vint_Get.mono _ _)
      | (with_reducible exact vint_Put.mono _ _)
      | (with_reducible exact LeO.refl _)
      | (with_reducible exact LeO.none _)
      | (with_reducible refine LeO.ite ?_ ?_)
      | (with_reducible refine LeO.bind ?_ (fun _ => ?_))
      | exact ih0 _ _ _ _
      | exact ih1 _ _ _ _ _
      | exact ih2 _ _
      | exact hamperlaw18_awake.mono _
      | exact vint_Get.mono _ _
      | exact vint_Put.mono _ _
      | exact LeO.none _
      | refine LeO.ite ?_ ?_
      | refine LeO.bind ?_ (fun _ => ?_)
    · intro y0 y1 y2 y3 y4
      unfold hamperlaw18_VintBack.j1
      repeat' first
      | (with_reducible exact ih0 _ _ _ _)
      | (with_reducible exact ih1 _ _ _ _ _)
      | (with_reducible exact ih2 _ _)
      | (with_reducible exact hamperlaw18_awake.mono _)
      | (with_reducible exact vint_Get.mono _ _)
      | (with_reducible exact vint_Put.mono _ _)
      | (with_reducible exact LeO.refl _)
      | (with_reducible exact LeO.none _)
      | (with_reducible refine LeO.ite ?_ ?_)
      | (with_reducible refine LeO.bind ?_ (fun _ => ?_))
      | exact ih0 _ _ _ _
      | exact ih1 _ _ _ _ _
      | exact ih2 _ _
      | exact hamperlaw18_awake.mono _
      | exact vint_Get.mono _ _
      | exact vint_Put.mono _ _
      | exact LeO.none _
      | refine LeO.ite ?_ ?_
      | refine LeO.bind ?_ (fun _ => ?_)
    · intro y0 y1
      unfold hamperlaw18_VintBack.j2
      repeat' first
      | (with_reducible exact ih0 _ _ _ _)
      | (with_reducible exact ih1 _ _ _ _ _)
      | (with_reducible exact ih2 _ _)
      | (with_reducible exact hamperlaw18_awake.mono _)
      | (with_reducible exact vint_Get.mono _ _)
      | (with_reducible exact vint_Put.mono _ _)
      | (with_reducible exact LeO.refl _)
      | (with_reducible exact LeO.none _)
      | (with_reducible refine LeO.ite ?_ ?_)
      | (with_reducible refine LeO.bind ?_ (fun _ => ?_))
      | exact ih0 _ _ _ _
      | exact ih1 _ _ _ _ _
      | exact ih2 _ _
      | exact hamperlaw18_awake.mono _
      | exact vint_Get.mono _ _
      | exact vint_Put.mono _ _
      | exact LeO.none _
      | refine LeO.ite ?_ ?_
      | refine LeO.bind ?_ (fun _ => ?_)
theorem hamperlaw18_VintBack.mono : ∀ a0 a1 a2 k, LeO (hamperlaw18_VintBack.f k a0 a1 a2) (hamperlaw18_VintBack.f (k + 1) a0 a1 a2) := by
  intro a0 a1 a2 k
  obtain ⟨ih0, ih1, ih2⟩ := hamperlaw18_VintBack.mono_l k
  unfold hamperlaw18_VintBack.f
  repeat' first
      | (with_reducible exact ih0 _ _ _ _)
      | (with_reducible exact ih1 _ _ _ _ _)
      | (with_reducible exact ih2 _ _)
      | (with_reducible exact hamperlaw18_awake.mono _)
      | (with_reducible exact vint_Get.mono _ _)
      | (with_reducible exact vint_Put.mono _ _)
      | (with_reducible exact LeO.refl _)
      | (with_reducible exact LeO.none _)
      | (with_reducible refine LeO.ite ?_ ?_)
      | (with_reducible refine LeO.bind ?_ (fun _ => ?_))
      | exact ih0 _ _ _ _
      | exact ih1 _ _ _ _ _
      | exact ih2 _ _
      | exact hamperlaw18_awake.mono _
      | exact vint_Get.mono _ _
      | exact vint_Put.mono _ _
      | exact LeO.none _
      | refine LeO.ite ?_ ?_
      | refine LeO.bind ?_ (fun _ => ?_)
set_option maxHeartbeats 8000000 in
set_option maxRecDepth 100000 in
theorem hamperlaw18_VintBack.calls (k : Nat) (a0 : Int) (a1 : Int) (a2 : ByteArray) (r : Bool) (w : World) (h : hamperlaw18_VintBack.f k a0 a1 a2 = some r) :
    Calls Try.prog 4 #[.int .i64 a0, .int .i64 a1, .string a2] w fun e w' => e = .returned (.bool r) ∧ Below w.heap.size w w' := by
  have HB := Aside0.mk (Below.refl w.heap.size w)
  have H : (if (a2.size : Int) > 3000 then (hamperlaw18_VintBack.j0 k a0 a1 a2 true) else ((hamperlaw18_awake.f k).bind fun t166 => (hamperlaw18_VintBack.j0 k a0 a1 a2 (!t166)))) = some r := h
  clear h
  have HC4 := Aside0.mk H
  clear H
  go_enter Try.func4, Try.ntmps4
  go_upto_region 1 with (fail)
  go_cut [20] (fun v20 wc => ∃ (kq : Nat) (x20_3 : Bool), v20 = .bool x20_3 ∧ Aside0 (hamperlaw18_VintBack.j0 kq a0 a1 a2 x20_3 = some r) ∧ Aside0 (kq ≤ k) ∧ Aside0 (Below w.heap.size w wc))
  case first =>
    have H := HC4.out
    clear HC4
    by_cases c5 : (a2.size : Int) > 3000
    · rw [if_pos c5] at H
      have c5b0 : decide (3000 < (a2.size : Int)) = true := decide_eq_true c5
      have c5b1 : decide (3000 < a2.size) = true := decide_eq_true (by omega)
      clear c5
      (first | rw [c5b0] | (simp only [i64_w, i32_w]; rw [c5b0]) | skip)
      have H' := Aside0.mk H
      clear H
      go_wp2
      go_meet
      case rel => exact ⟨_, (true), (by first | rfl | (simp; done) | (simp [*]; done)), H', ⟨by first | omega | exact Nat.le_refl _⟩, ⟨by repeat (first | (with_reducible first | exact HB.out | apply below_alloc | apply pw_below_drewN | apply below_drew1) | exact HB.out)⟩⟩
    · rw [if_neg c5] at H
      have c5b0 : decide (3000 < (a2.size : Int)) = false := decide_eq_false c5
      have c5b1 : decide (3000 < a2.size) = false := decide_eq_false (by omega)
      clear c5
      (first | rw [c5b0] | (simp only [i64_w, i32_w]; rw [c5b0]) | skip)
      replace H := Option.bind_eq_some_iff.mp H
      obtain ⟨t166, A60, H⟩ := H
      replace H : (hamperlaw18_VintBack.j0 k a0 a1 a2 (!t166)) = some r := H
      have A6 := Aside0.mk A60
      clear A60
      have H' := Aside0.mk H
      clear H
      go_wp2_with (first | (go_at_call 10; (with_reducible refine (hamperlaw18_awake.calls k  t166 _ A6.out).mono ?_); rintro e w7 ⟨rfl, hb⟩; have n0_ := Aside0.mk (below_step (by repeat (first | (with_reducible first | exact HB.out | apply below_alloc | apply pw_below_drewN | apply below_drew1) | exact HB.out)) hb); clear HB; have HB := n0_; clear n0_; (try clear hb); (try clear hb2); (try clear hk); (try clear hi)))
      go_meet
      case rel => exact ⟨_, (!t166), (by first | rfl | (simp; done) | (simp [*]; done)), H', ⟨by first | omega | exact Nat.le_refl _⟩, ⟨by repeat (first | (with_reducible first | exact HB.out | apply below_alloc | apply pw_below_drewN | apply below_drew1) | exact HB.out)⟩⟩
  case rest =>
    clear HC4
    try clear p2
    try clear c4
    try clear c5
    try clear c5b0
    try clear c5b1
    obtain ⟨kq, x20_3, rfl, HA, HJ3, HB⟩ := hcut
    cases kq with
    | zero => exact absurd HA.out (by simp [hamperlaw18_VintBack.j0])
    | succ kj3 =>
      have H := HA.out
      clear HA
      simp only [hamperlaw18_VintBack.j0] at H
      by_cases c8 : x20_3 = true
      · subst c8
        have H1 : ((hamperlaw18_awake.f kj3).bind fun t167 => (some t167)) = some r := by rw [if_pos rfl] at H; exact H
        clear H
        have H := H1
        clear H1
        replace H := Option.bind_eq_some_iff.mp H
        obtain ⟨t167, A90, H⟩ := H
        replace H : (some t167) = some r := H
        have A9 := Aside0.mk A90
        clear A90
        obtain rfl := Option.some.inj H
        go_wp2_with (first | ((with_reducible refine gate_callee (f := 10) rfl ?_); refine goesL_ (some 21) rfl rfl Try.func10 (by kernel_rfl) rfl #[] rfl (by (try simp only [List.map_toArray, List.map_cons, List.map_nil]); first | done | rfl | (simp only [List.length_drop, List.length_take]; rfl)) ?_; (with_reducible refine (hamperlaw18_awake.calls kj3  t167 _ A9.out).mono ?_); rintro e w10 ⟨rfl, hb⟩; refine ⟨_, rfl, ?_⟩; have n0_ := Aside0.mk (below_step (by repeat (first | (with_reducible first | exact HB.out | apply below_alloc | apply pw_below_drewN | apply below_drew1) | exact HB.out)) hb); clear HB; have HB := n0_; clear n0_; (try clear hb); (try clear hb2); (try clear hk); (try clear hi)))
        go_ret
        exact ⟨by first | rfl | (simp [errW_none, errW_some] <;> rfl) | (simp [*, errW_none, errW_some] <;> rfl), by repeat (first | (with_reducible first | exact HB.out | apply below_alloc | apply pw_below_drewN | apply below_drew1) | exact HB.out)⟩
      · replace c8 := Bool.eq_false_iff.mpr c8
        subst c8
        have H1 : ((vint_Put.f kj3 a0).bind fun bt168 => (if bt168.2 = 0 then (if bt168.1.size + a2.size ≤ 9223372036854775807 then ((vint_Get.f kj3 (bt168.1 ++ a2)).bind fun bt170 => (if bt170.2.2 = 0 then (if bt170.1 = a0 then (hamperlaw18_VintBack.j1 kj3 a0 a1 a2 bt168.1 (bt170.2.1 != (bt168.1.size : Int))) else (hamperlaw18_VintBack.j1 kj3 a0 a1 a2 bt168.1 true)) else (hamperlaw18_VintBack.j1 kj3 a0 a1 a2 bt168.1 true))) else (none)) else (if bt168.1.toList = ([] : List UInt8) then (if a0 < 0 then (some true) else (some (decide (a0 > 4611686018427387903)))) else (some false)))) = some r := by rw [if_neg (show ¬ (false = true) by decide)] at H; exact H
        clear H
        have H := H1
        clear H1
        replace H := Option.bind_eq_some_iff.mp H
        obtain ⟨⟨t168, t169⟩, A110, H⟩ := H
        replace H : (if t169 = 0 then (if t168.size + a2.size ≤ 9223372036854775807 then ((vint_Get.f kj3 (t168 ++ a2)).bind fun bt170 => (if bt170.2.2 = 0 then (if bt170.1 = a0 then (hamperlaw18_VintBack.j1 kj3 a0 a1 a2 t168 (bt170.2.1 != (t168.size : Int))) else (hamperlaw18_VintBack.j1 kj3 a0 a1 a2 t168 true)) else (hamperlaw18_VintBack.j1 kj3 a0 a1 a2 t168 true))) else (none)) else (if t168.toList = ([] : List UInt8) then (if a0 < 0 then (some true) else (some (decide (a0 > 4611686018427387903)))) else (some false))) = some r := H
        have A11 := Aside0.mk A110
        clear A110
        by_cases c12 : t169 = 0
        · rw [if_pos c12] at H
          have c12b0 : (t169 == 0) = true := beq_iff_eq.mpr c12
          have c12b1 : (t169 != 0) = false := bne_eq_false_iff_eq.mpr c12
          clear c12
          by_cases c13 : t168.size + a2.size ≤ 9223372036854775807
          · rw [if_pos c13] at H
            have c13b0 := eq_true c13
            have c13b1 : decide (t168.size + a2.size ≤ 9223372036854775807) = true := decide_eq_true c13
            try have c13b2 : (9223372036854775807 < t168.size + a2.size) = False := eq_false (Nat.not_lt.2 c13)
            replace H := Option.bind_eq_some_iff.mp H
            obtain ⟨⟨t170, t171, t172⟩, A140, H⟩ := H
            replace H : (if t172 = 0 then (if t170 = a0 then (hamperlaw18_VintBack.j1 kj3 a0 a1 a2 t168 (t171 != (t168.size : Int))) else (hamperlaw18_VintBack.j1 kj3 a0 a1 a2 t168 true)) else (hamperlaw18_VintBack.j1 kj3 a0 a1 a2 t168 true)) = some r := H
            have A14 := Aside0.mk A140
            clear A140
            have HC15 := Aside0.mk H
            clear H
            go_upto_region 7 with (first | ((with_reducible refine gate_callee (f := 11) rfl ?_); refine goesL_ (some 24) rfl rfl Try.func11 (by kernel_rfl) rfl #[.int .i64 a0] rfl (by (try simp only [List.map_toArray, List.map_cons, List.map_nil]); first | done | rfl | (simp only [List.length_drop, List.length_take]; rfl)) ?_; (with_reducible refine (vint_Put.calls kj3 a0 t168 t169 _ A11.out).mono ?_); rintro e w16 ⟨rfl, hb⟩; refine ⟨_, rfl, ?_⟩; have n0_ := Aside0.mk (below_step (by repeat (first | (with_reducible first | exact HB.out | apply below_alloc | apply pw_below_drewN | apply below_drew1) | exact HB.out)) hb); clear HB; have HB := n0_; clear n0_; (try clear hb); (try clear hb2); (try clear hk); (try clear hi)) | ((with_reducible refine gate_callee (f := 13) rfl ?_); refine goesL_ (some 43) rfl rfl Try.func13 (by kernel_rfl) rfl #[.string (t168 ++ a2)] rfl (by (try simp only [List.map_toArray, List.map_cons, List.map_nil]); first | done | rfl | (simp only [List.length_drop, List.length_take]; rfl)) ?_; (with_reducible refine (vint_Get.calls kj3 (t168 ++ a2) t170 t171 t172 _ A14.out).mono ?_); rintro e w17 ⟨rfl, hb⟩; refine ⟨_, rfl, ?_⟩; have n0_ := Aside0.mk (below_step (by repeat (first | (with_reducible first | exact HB.out | apply below_alloc | apply pw_below_drewN | apply below_drew1) | exact HB.out)) hb); clear HB; have HB := n0_; clear n0_; (try clear hb); (try clear hb2); (try clear hk); (try clear hi)))
            (try simp only [Act.put, List.setIfInBounds_toArray, List.set_cons_zero, List.set_cons_succ])
            go_cut [59] (fun v59 wc => ∃ (kq : Nat) (x59_14 : Bool), v59 = .bool x59_14 ∧ Aside0 (hamperlaw18_VintBack.j1 kq a0 a1 a2 t168 x59_14 = some r) ∧ Aside0 (kq ≤ kj3) ∧ Aside0 (Below w.heap.size w wc))
            case first =>
              have H := HC15.out
              clear HC15
              by_cases c18 : t172 = 0
              · rw [if_pos c18] at H
                have c18b0 : (t172 == 0) = true := beq_iff_eq.mpr c18
                have c18b1 : (t172 != 0) = false := bne_eq_false_iff_eq.mpr c18
                clear c18
                (first | rw [c18b0] | (simp only [i64_w, i32_w]; rw [c18b0]) | skip)
                by_cases c19 : t170 = a0
                · rw [if_pos c19] at H
                  have c19b0 : (t170 == a0) = true := beq_iff_eq.mpr c19
                  have c19b1 : (t170 != a0) = false := bne_eq_false_iff_eq.mpr c19
                  clear c19
                  have H' := Aside0.mk H
                  clear H
                  go_wp2
                  go_meet
                  case rel => exact ⟨_, ((t171 != (t168.size : Int))), (by first | rfl | (simp; done) | (simp [*]; done)), H', ⟨by have := HJ3.out; first | omega | exact Nat.le_refl _⟩, ⟨by repeat (first | (with_reducible first | exact HB.out | apply below_alloc | apply pw_below_drewN | apply below_drew1) | exact HB.out)⟩⟩
                · rw [if_neg c19] at H
                  have c19b0 : (t170 == a0) = false := beq_eq_false_iff_ne.mpr c19
                  have c19b1 : (t170 != a0) = true := bne_iff_ne.mpr c19
                  have H' := Aside0.mk H
                  clear H
                  go_wp2
                  go_meet
                  case rel => exact ⟨_, (true), (by first | rfl | (simp; done) | (simp [*]; done)), H', ⟨by have := HJ3.out; first | omega | exact Nat.le_refl _⟩, ⟨by repeat (first | (with_reducible first | exact HB.out | apply below_alloc | apply pw_below_drewN | apply below_drew1) | exact HB.out)⟩⟩
              · rw [if_neg c18] at H
                have c18b0 : (t172 == 0) = false := beq_eq_false_iff_ne.mpr c18
                have c18b1 : (t172 != 0) = true := bne_iff_ne.mpr c18
                (first | rw [c18b0] | (simp only [i64_w, i32_w]; rw [c18b0]) | skip)
                have H' := Aside0.mk H
                clear H
                go_wp2
                go_meet
                case rel => exact ⟨_, (true), (by first | rfl | (simp; done) | (simp [*]; done)), H', ⟨by have := HJ3.out; first | omega | exact Nat.le_refl _⟩, ⟨by repeat (first | (with_reducible first | exact HB.out | apply below_alloc | apply pw_below_drewN | apply below_drew1) | exact HB.out)⟩⟩
            case rest =>
              clear HC15
              try clear c1
              try clear p2
              try clear c4
              try clear c5
              try clear c5b0
              try clear c5b1
              try clear c8
              try clear c10
              try clear c11
              try clear c12
              try clear c12b0
              try clear c12b1
              try clear c13
              try clear c13b0
              try clear c13b1
              try clear c13b2
              try clear c18
              try clear c18b0
              try clear c18b1
              try clear c19
              try clear c19b0
              try clear c19b1
              try clear p2
              obtain ⟨kq, x59_14, rfl, HA, HJ14, HB⟩ := hcut
              cases kq with
              | zero => exact absurd HA.out (by simp [hamperlaw18_VintBack.j1])
              | succ kj14 =>
                have H := HA.out
                clear HA
                simp only [hamperlaw18_VintBack.j1] at H
                by_cases c20 : x59_14 = true
                · subst c20
                  have H1 : (some false) = some r := by rw [if_pos rfl] at H; exact H
                  clear H
                  have H := H1
                  clear H1
                  obtain rfl := Option.some.inj H
                  go_wp2
                  go_ret
                  exact ⟨by first | rfl | (simp [errW_none, errW_some] <;> rfl) | (simp [*, errW_none, errW_some] <;> rfl), by repeat (first | (with_reducible first | exact HB.out | apply below_alloc | apply pw_below_drewN | apply below_drew1) | exact HB.out)⟩
                · replace c20 := Bool.eq_false_iff.mpr c20
                  subst c20
                  have H1 : ((vint_Put.f kj14 a1).bind fun bt173 => (if bt173.2 = 0 then (if a1 > a0 then (if (bt173.1.size : Int) < (t168.size : Int) then (hamperlaw18_VintBack.j2 kj14 a2 true) else (if a1 = a0 then (hamperlaw18_VintBack.j2 kj14 a2 false) else (if (bt173.1.size : Int) ≥ (t168.size : Int) then (if 0 ≤ (t168.size : Int) then (if (t168.size : Int) ≤ (bt173.1.size : Int) then (hamperlaw18_VintBack.j2 kj14 a2 ((bt173.1.extract 0 ((t168.size : Int) : Int).toNat).toList == t168.toList)) else (none)) else (none)) else (hamperlaw18_VintBack.j2 kj14 a2 false)))) else (if a1 = a0 then (hamperlaw18_VintBack.j2 kj14 a2 false) else (if (bt173.1.size : Int) ≥ (t168.size : Int) then (if 0 ≤ (t168.size : Int) then (if (t168.size : Int) ≤ (bt173.1.size : Int) then (hamperlaw18_VintBack.j2 kj14 a2 ((bt173.1.extract 0 ((t168.size : Int) : Int).toNat).toList == t168.toList)) else (none)) else (none)) else (hamperlaw18_VintBack.j2 kj14 a2 false)))) else (hamperlaw18_VintBack.j2 kj14 a2 false))) = some r := by rw [if_neg (show ¬ (false = true) by decide)] at H; exact H
                  clear H
                  have H := H1
                  clear H1
                  replace H := Option.bind_eq_some_iff.mp H
                  obtain ⟨⟨t173, t174⟩, A210, H⟩ := H
                  replace H : (if t174 = 0 then (if a1 > a0 then (if (t173.size : Int) < (t168.size : Int) then (hamperlaw18_VintBack.j2 kj14 a2 true) else (if a1 = a0 then (hamperlaw18_VintBack.j2 kj14 a2 false) else (if (t173.size : Int) ≥ (t168.size : Int) then (if 0 ≤ (t168.size : Int) then (if (t168.size : Int) ≤ (t173.size : Int) then (hamperlaw18_VintBack.j2 kj14 a2 ((t173.extract 0 ((t168.size : Int) : Int).toNat).toList == t168.toList)) else (none)) else (none)) else (hamperlaw18_VintBack.j2 kj14 a2 false)))) else (if a1 = a0 then (hamperlaw18_VintBack.j2 kj14 a2 false) else (if (t173.size : Int) ≥ (t168.size : Int) then (if 0 ≤ (t168.size : Int) then (if (t168.size : Int) ≤ (t173.size : Int) then (hamperlaw18_VintBack.j2 kj14 a2 ((t173.extract 0 ((t168.size : Int) : Int).toNat).toList == t168.toList)) else (none)) else (none)) else (hamperlaw18_VintBack.j2 kj14 a2 false)))) else (hamperlaw18_VintBack.j2 kj14 a2 false)) = some r := H
                  have A21 := Aside0.mk A210
                  clear A210
                  have HC22 := Aside0.mk H
                  clear H
                  go_upto_region 10 with (first | ((with_reducible refine gate_callee (f := 11) rfl ?_); refine goesL_ (some 62) rfl rfl Try.func11 (by kernel_rfl) rfl #[.int .i64 a1] rfl (by (try simp only [List.map_toArray, List.map_cons, List.map_nil]); first | done | rfl | (simp only [List.length_drop, List.length_take]; rfl)) ?_; (with_reducible refine (vint_Put.calls kj14 a1 t173 t174 _ A21.out).mono ?_); rintro e w23 ⟨rfl, hb⟩; refine ⟨_, rfl, ?_⟩; have n0_ := Aside0.mk (below_step (by repeat (first | (with_reducible first | exact HB.out | apply below_alloc | apply pw_below_drewN | apply below_drew1) | exact HB.out)) hb); clear HB; have HB := n0_; clear n0_; (try clear hb); (try clear hb2); (try clear hk); (try clear hi)))
                  (try simp only [Act.put, List.setIfInBounds_toArray, List.set_cons_zero, List.set_cons_succ])
                  go_cut [98] (fun v98 wc => ∃ (kq : Nat) (x98_21 : Bool), v98 = .bool x98_21 ∧ Aside0 (hamperlaw18_VintBack.j2 kq a2 x98_21 = some r) ∧ Aside0 (kq ≤ kj14) ∧ Aside0 (Below w.heap.size w wc))
                  case first =>
                    have H := HC22.out
                    clear HC22
                    by_cases c24 : t174 = 0
                    · rw [if_pos c24] at H
                      have c24b0 : (t174 == 0) = true := beq_iff_eq.mpr c24
                      have c24b1 : (t174 != 0) = false := bne_eq_false_iff_eq.mpr c24
                      clear c24
                      (first | rw [c24b0] | (simp only [i64_w, i32_w]; rw [c24b0]) | skip)
                      by_cases c25 : a1 > a0
                      · rw [if_pos c25] at H
                        have c25b0 : decide (a0 < a1) = true := decide_eq_true c25
                        clear c25
                        by_cases c26 : (t173.size : Int) < (t168.size : Int)
                        · rw [if_pos c26] at H
                          have c26b0 : decide ((t173.size : Int) < (t168.size : Int)) = true := decide_eq_true c26
                          have c26b1 : decide (t173.size < t168.size) = true := decide_eq_true (Int.ofNat_lt.mp c26)
                          clear c26
                          have H' := Aside0.mk H
                          clear H
                          go_wp2
                          go_meet
                          case rel => exact ⟨_, (true), (by first | rfl | (simp; done) | (simp [*]; done)), H', ⟨by have := HJ3.out; have := HJ14.out; first | omega | exact Nat.le_refl _⟩, ⟨by repeat (first | (with_reducible first | exact HB.out | apply below_alloc | apply pw_below_drewN | apply below_drew1) | exact HB.out)⟩⟩
                        · rw [if_neg c26] at H
                          have c26b0 : decide ((t173.size : Int) < (t168.size : Int)) = false := decide_eq_false c26
                          have c26b1 : decide (t173.size < t168.size) = false := decide_eq_false (fun h => c26 (Int.ofNat_lt.mpr h))
                          clear c26
                          by_cases c27 : a1 = a0
                          · rw [if_pos c27] at H
                            have c27b0 : (a1 == a0) = true := beq_iff_eq.mpr c27
                            have c27b1 : (a1 != a0) = false := bne_eq_false_iff_eq.mpr c27
                            clear c27
                            have H' := Aside0.mk H
                            clear H
                            go_wp2
                            go_meet
                            case rel => exact ⟨_, (false), (by first | rfl | (simp; done) | (simp [*]; done)), H', ⟨by have := HJ3.out; have := HJ14.out; first | omega | exact Nat.le_refl _⟩, ⟨by repeat (first | (with_reducible first | exact HB.out | apply below_alloc | apply pw_below_drewN | apply below_drew1) | exact HB.out)⟩⟩
                          · rw [if_neg c27] at H
                            have c27b0 : (a1 == a0) = false := beq_eq_false_iff_ne.mpr c27
                            have c27b1 : (a1 != a0) = true := bne_iff_ne.mpr c27
                            by_cases c28 : (t173.size : Int) ≥ (t168.size : Int)
                            · rw [if_pos c28] at H
                              have c28b0 : decide ((t168.size : Int) ≤ (t173.size : Int)) = true := decide_eq_true c28
                              have c28b1 : decide (t168.size ≤ t173.size) = true := decide_eq_true (Int.ofNat_le.mp c28)
                              clear c28
                              by_cases c29 : 0 ≤ (t168.size : Int)
                              · rw [if_pos c29] at H
                                have c29b0 := eq_true c29
                                have c29b1 : decide (0 ≤ (t168.size : Int)) = true := decide_eq_true c29
                                clear c29
                                by_cases c30 : (t168.size : Int) ≤ (t173.size : Int)
                                · rw [if_pos c30] at H
                                  have c30b0 := eq_true c30
                                  have c30b1 : decide ((t168.size : Int) ≤ (t173.size : Int)) = true := decide_eq_true c30
                                  clear c30
                                  have H' := Aside0.mk H
                                  clear H
                                  go_wp2
                                  go_meet
                                  case rel => exact ⟨_, (((t173.extract 0 ((t168.size : Int) : Int).toNat).toList == t168.toList)), (by first | rfl | (simp; done) | (simp [*]; done)), H', ⟨by have := HJ3.out; have := HJ14.out; first | omega | exact Nat.le_refl _⟩, ⟨by repeat (first | (with_reducible first | exact HB.out | apply below_alloc | apply pw_below_drewN | apply below_drew1) | exact HB.out)⟩⟩
                                · rw [if_neg c30] at H
                                  exact absurd H (by simp)
                              · rw [if_neg c29] at H
                                exact absurd H (by simp)
                            · rw [if_neg c28] at H
                              have c28b0 : decide ((t168.size : Int) ≤ (t173.size : Int)) = false := decide_eq_false c28
                              have c28b1 : decide (t168.size ≤ t173.size) = false := decide_eq_false (fun h => c28 (Int.ofNat_le.mpr h))
                              clear c28
                              have H' := Aside0.mk H
                              clear H
                              go_wp2
                              go_meet
                              case rel => exact ⟨_, (false), (by first | rfl | (simp; done) | (simp [*]; done)), H', ⟨by have := HJ3.out; have := HJ14.out; first | omega | exact Nat.le_refl _⟩, ⟨by repeat (first | (with_reducible first | exact HB.out | apply below_alloc | apply pw_below_drewN | apply below_drew1) | exact HB.out)⟩⟩
                      · rw [if_neg c25] at H
                        have c25b0 : decide (a0 < a1) = false := decide_eq_false c25
                        clear c25
                        by_cases c31 : a1 = a0
                        · rw [if_pos c31] at H
                          have c31b0 : (a1 == a0) = true := beq_iff_eq.mpr c31
                          have c31b1 : (a1 != a0) = false := bne_eq_false_iff_eq.mpr c31
                          clear c31
                          have H' := Aside0.mk H
                          clear H
                          go_wp2
                          go_meet
                          case rel => exact ⟨_, (false), (by first | rfl | (simp; done) | (simp [*]; done)), H', ⟨by have := HJ3.out; have := HJ14.out; first | omega | exact Nat.le_refl _⟩, ⟨by repeat (first | (with_reducible first | exact HB.out | apply below_alloc | apply pw_below_drewN | apply below_drew1) | exact HB.out)⟩⟩
                        · rw [if_neg c31] at H
                          have c31b0 : (a1 == a0) = false := beq_eq_false_iff_ne.mpr c31
                          have c31b1 : (a1 != a0) = true := bne_iff_ne.mpr c31
                          by_cases c32 : (t173.size : Int) ≥ (t168.size : Int)
                          · rw [if_pos c32] at H
                            have c32b0 : decide ((t168.size : Int) ≤ (t173.size : Int)) = true := decide_eq_true c32
                            have c32b1 : decide (t168.size ≤ t173.size) = true := decide_eq_true (Int.ofNat_le.mp c32)
                            clear c32
                            by_cases c33 : 0 ≤ (t168.size : Int)
                            · rw [if_pos c33] at H
                              have c33b0 := eq_true c33
                              have c33b1 : decide (0 ≤ (t168.size : Int)) = true := decide_eq_true c33
                              clear c33
                              by_cases c34 : (t168.size : Int) ≤ (t173.size : Int)
                              · rw [if_pos c34] at H
                                have c34b0 := eq_true c34
                                have c34b1 : decide ((t168.size : Int) ≤ (t173.size : Int)) = true := decide_eq_true c34
                                clear c34
                                have H' := Aside0.mk H
                                clear H
                                go_wp2
                                go_meet
                                case rel => exact ⟨_, (((t173.extract 0 ((t168.size : Int) : Int).toNat).toList == t168.toList)), (by first | rfl | (simp; done) | (simp [*]; done)), H', ⟨by have := HJ3.out; have := HJ14.out; first | omega | exact Nat.le_refl _⟩, ⟨by repeat (first | (with_reducible first | exact HB.out | apply below_alloc | apply pw_below_drewN | apply below_drew1) | exact HB.out)⟩⟩
                              · rw [if_neg c34] at H
                                exact absurd H (by simp)
                            · rw [if_neg c33] at H
                              exact absurd H (by simp)
                          · rw [if_neg c32] at H
                            have c32b0 : decide ((t168.size : Int) ≤ (t173.size : Int)) = false := decide_eq_false c32
                            have c32b1 : decide (t168.size ≤ t173.size) = false := decide_eq_false (fun h => c32 (Int.ofNat_le.mpr h))
                            clear c32
                            have H' := Aside0.mk H
                            clear H
                            go_wp2
                            go_meet
                            case rel => exact ⟨_, (false), (by first | rfl | (simp; done) | (simp [*]; done)), H', ⟨by have := HJ3.out; have := HJ14.out; first | omega | exact Nat.le_refl _⟩, ⟨by repeat (first | (with_reducible first | exact HB.out | apply below_alloc | apply pw_below_drewN | apply below_drew1) | exact HB.out)⟩⟩
                    · rw [if_neg c24] at H
                      have c24b0 : (t174 == 0) = false := beq_eq_false_iff_ne.mpr c24
                      have c24b1 : (t174 != 0) = true := bne_iff_ne.mpr c24
                      (first | rw [c24b0] | (simp only [i64_w, i32_w]; rw [c24b0]) | skip)
                      have H' := Aside0.mk H
                      clear H
                      go_wp2
                      go_meet
                      case rel => exact ⟨_, (false), (by first | rfl | (simp; done) | (simp [*]; done)), H', ⟨by have := HJ3.out; have := HJ14.out; first | omega | exact Nat.le_refl _⟩, ⟨by repeat (first | (with_reducible first | exact HB.out | apply below_alloc | apply pw_below_drewN | apply below_drew1) | exact HB.out)⟩⟩
                  case rest =>
                    clear HC22
                    try clear c1
                    try clear c2
                    try clear p2
                    try clear c3
                    try clear c4
                    try clear c5
                    try clear c5b0
                    try clear c5b1
                    try clear c8
                    try clear c10
                    try clear c11
                    try clear c12
                    try clear c12b0
                    try clear c12b1
                    try clear c13
                    try clear c13b0
                    try clear c13b1
                    try clear c13b2
                    try clear c18
                    try clear c18b0
                    try clear c18b1
                    try clear c19
                    try clear c19b0
                    try clear c19b1
                    try clear c20
                    try clear c24
                    try clear c24b0
                    try clear c24b1
                    try clear c25
                    try clear c25b0
                    try clear c26
                    try clear c26b0
                    try clear c26b1
                    try clear c27
                    try clear c27b0
                    try clear c27b1
                    try clear c28
                    try clear c28b0
                    try clear c28b1
                    try clear c29
                    try clear c29b0
                    try clear c29b1
                    try clear c30
                    try clear c30b0
                    try clear c30b1
                    try clear c31
                    try clear c31b0
                    try clear c31b1
                    try clear c32
                    try clear c32b0
                    try clear c32b1
                    try clear c33
                    try clear c33b0
                    try clear c33b1
                    try clear c34
                    try clear c34b0
                    try clear c34b1
                    try clear p2
                    obtain ⟨kq, x98_21, rfl, HA, HJ21, HB⟩ := hcut
                    cases kq with
                    | zero => exact absurd HA.out (by simp [hamperlaw18_VintBack.j2])
                    | succ kj21 =>
                      have H := HA.out
                      clear HA
                      simp only [hamperlaw18_VintBack.j2] at H
                      by_cases c35 : x98_21 = true
                      · subst c35
                        have H1 : (some false) = some r := by rw [if_pos rfl] at H; exact H
                        clear H
                        have H := H1
                        clear H1
                        obtain rfl := Option.some.inj H
                        go_wp2
                        go_ret
                        exact ⟨by first | rfl | (simp [errW_none, errW_some] <;> rfl) | (simp [*, errW_none, errW_some] <;> rfl), by repeat (first | (with_reducible first | exact HB.out | apply below_alloc | apply pw_below_drewN | apply below_drew1) | exact HB.out)⟩
                      · replace c35 := Bool.eq_false_iff.mpr c35
                        subst c35
                        have H1 : ((vint_Get.f kj21 a2).bind fun bt175 => (if bt175.2.2 = 0 then ((vint_Put.f kj21 bt175.1).bind fun bt178 => (if bt178.2 = 0 then (if bt175.2.1 ≤ (a2.size : Int) then (if 0 ≤ bt175.2.1 then (some (bt178.1.toList == (a2.extract 0 (bt175.2.1 : Int).toNat).toList)) else (none)) else (some false)) else (some false))) else (if bt175.1 = 0 then (some (bt175.2.1 == 0)) else (some false)))) = some r := by rw [if_neg (show ¬ (false = true) by decide)] at H; exact H
                        clear H
                        have H := H1
                        clear H1
                        replace H := Option.bind_eq_some_iff.mp H
                        obtain ⟨⟨t175, t176, t177⟩, A360, H⟩ := H
                        replace H : (if t177 = 0 then ((vint_Put.f kj21 t175).bind fun bt178 => (if bt178.2 = 0 then (if t176 ≤ (a2.size : Int) then (if 0 ≤ t176 then (some (bt178.1.toList == (a2.extract 0 (t176 : Int).toNat).toList)) else (none)) else (some false)) else (some false))) else (if t175 = 0 then (some (t176 == 0)) else (some false))) = some r := H
                        have A36 := Aside0.mk A360
                        clear A360
                        by_cases c37 : t177 = 0
                        · rw [if_pos c37] at H
                          have c37b0 : (t177 == 0) = true := beq_iff_eq.mpr c37
                          have c37b1 : (t177 != 0) = false := bne_eq_false_iff_eq.mpr c37
                          clear c37
                          replace H := Option.bind_eq_some_iff.mp H
                          obtain ⟨⟨t178, t179⟩, A380, H⟩ := H
                          replace H : (if t179 = 0 then (if t176 ≤ (a2.size : Int) then (if 0 ≤ t176 then (some (t178.toList == (a2.extract 0 (t176 : Int).toNat).toList)) else (none)) else (some false)) else (some false)) = some r := H
                          have A38 := Aside0.mk A380
                          clear A380
                          by_cases c39 : t179 = 0
                          · rw [if_pos c39] at H
                            have c39b0 : (t179 == 0) = true := beq_iff_eq.mpr c39
                            have c39b1 : (t179 != 0) = false := bne_eq_false_iff_eq.mpr c39
                            clear c39
                            by_cases c40 : t176 ≤ (a2.size : Int)
                            · rw [if_pos c40] at H
                              have c40b0 : decide (t176 ≤ (a2.size : Int)) = true := decide_eq_true c40
                              clear c40
                              by_cases c41 : 0 ≤ t176
                              · rw [if_pos c41] at H
                                have c41b0 := eq_true c41
                                have c41b1 : decide (0 ≤ t176) = true := decide_eq_true c41
                                clear c41
                                have c42b0 := eq_true (of_decide_eq_true (by first | (with_reducible assumption) | assumption) : t176 ≤ (a2.size : Int))
                                obtain rfl := Option.some.inj H
                                go_wp2_with (first | ((with_reducible refine gate_callee (f := 13) rfl ?_); refine goesL_ (some 101) rfl rfl Try.func13 (by kernel_rfl) rfl #[.string a2] rfl (by (try simp only [List.map_toArray, List.map_cons, List.map_nil]); first | done | rfl | (simp only [List.length_drop, List.length_take]; rfl)) ?_; (with_reducible refine (vint_Get.calls kj21 a2 t175 t176 t177 _ A36.out).mono ?_); rintro e w43 ⟨rfl, hb⟩; refine ⟨_, rfl, ?_⟩; have n0_ := Aside0.mk (below_step (by repeat (first | (with_reducible first | exact HB.out | apply below_alloc | apply pw_below_drewN | apply below_drew1) | exact HB.out)) hb); clear HB; have HB := n0_; clear n0_; (try clear hb); (try clear hb2); (try clear hk); (try clear hi)) | ((with_reducible refine gate_callee (f := 11) rfl ?_); refine goesL_ (some 115) rfl rfl Try.func11 (by kernel_rfl) rfl #[.int .i64 t175] rfl (by (try simp only [List.map_toArray, List.map_cons, List.map_nil]); first | done | rfl | (simp only [List.length_drop, List.length_take]; rfl)) ?_; (with_reducible refine (vint_Put.calls kj21 t175 t178 t179 _ A38.out).mono ?_); rintro e w44 ⟨rfl, hb⟩; refine ⟨_, rfl, ?_⟩; have n0_ := Aside0.mk (below_step (by repeat (first | (with_reducible first | exact HB.out | apply below_alloc | apply pw_below_drewN | apply below_drew1) | exact HB.out)) hb); clear HB; have HB := n0_; clear n0_; (try clear hb); (try clear hb2); (try clear hk); (try clear hi)))
                                go_ret
                                exact ⟨by first | rfl | (simp [errW_none, errW_some] <;> rfl) | (simp [*, errW_none, errW_some] <;> rfl), by repeat (first | (with_reducible first | exact HB.out | apply below_alloc | apply pw_below_drewN | apply below_drew1) | exact HB.out)⟩
                              · rw [if_neg c41] at H
                                exact absurd H (by simp)
                            · rw [if_neg c40] at H
                              have c40b0 : decide (t176 ≤ (a2.size : Int)) = false := decide_eq_false c40
                              clear c40
                              obtain rfl := Option.some.inj H
                              go_wp2_with (first | ((with_reducible refine gate_callee (f := 13) rfl ?_); refine goesL_ (some 101) rfl rfl Try.func13 (by kernel_rfl) rfl #[.string a2] rfl (by (try simp only [List.map_toArray, List.map_cons, List.map_nil]); first | done | rfl | (simp only [List.length_drop, List.length_take]; rfl)) ?_; (with_reducible refine (vint_Get.calls kj21 a2 t175 t176 t177 _ A36.out).mono ?_); rintro e w45 ⟨rfl, hb⟩; refine ⟨_, rfl, ?_⟩; have n0_ := Aside0.mk (below_step (by repeat (first | (with_reducible first | exact HB.out | apply below_alloc | apply pw_below_drewN | apply below_drew1) | exact HB.out)) hb); clear HB; have HB := n0_; clear n0_; (try clear hb); (try clear hb2); (try clear hk); (try clear hi)) | ((with_reducible refine gate_callee (f := 11) rfl ?_); refine goesL_ (some 115) rfl rfl Try.func11 (by kernel_rfl) rfl #[.int .i64 t175] rfl (by (try simp only [List.map_toArray, List.map_cons, List.map_nil]); first | done | rfl | (simp only [List.length_drop, List.length_take]; rfl)) ?_; (with_reducible refine (vint_Put.calls kj21 t175 t178 t179 _ A38.out).mono ?_); rintro e w46 ⟨rfl, hb⟩; refine ⟨_, rfl, ?_⟩; have n0_ := Aside0.mk (below_step (by repeat (first | (with_reducible first | exact HB.out | apply below_alloc | apply pw_below_drewN | apply below_drew1) | exact HB.out)) hb); clear HB; have HB := n0_; clear n0_; (try clear hb); (try clear hb2); (try clear hk); (try clear hi)))
                              go_ret
                              exact ⟨by first | rfl | (simp [errW_none, errW_some] <;> rfl) | (simp [*, errW_none, errW_some] <;> rfl), by repeat (first | (with_reducible first | exact HB.out | apply below_alloc | apply pw_below_drewN | apply below_drew1) | exact HB.out)⟩
                          · rw [if_neg c39] at H
                            have c39b0 : (t179 == 0) = false := beq_eq_false_iff_ne.mpr c39
                            have c39b1 : (t179 != 0) = true := bne_iff_ne.mpr c39
                            obtain rfl := Option.some.inj H
                            go_wp2_with (first | ((with_reducible refine gate_callee (f := 13) rfl ?_); refine goesL_ (some 101) rfl rfl Try.func13 (by kernel_rfl) rfl #[.string a2] rfl (by (try simp only [List.map_toArray, List.map_cons, List.map_nil]); first | done | rfl | (simp only [List.length_drop, List.length_take]; rfl)) ?_; (with_reducible refine (vint_Get.calls kj21 a2 t175 t176 t177 _ A36.out).mono ?_); rintro e w47 ⟨rfl, hb⟩; refine ⟨_, rfl, ?_⟩; have n0_ := Aside0.mk (below_step (by repeat (first | (with_reducible first | exact HB.out | apply below_alloc | apply pw_below_drewN | apply below_drew1) | exact HB.out)) hb); clear HB; have HB := n0_; clear n0_; (try clear hb); (try clear hb2); (try clear hk); (try clear hi)) | ((with_reducible refine gate_callee (f := 11) rfl ?_); refine goesL_ (some 115) rfl rfl Try.func11 (by kernel_rfl) rfl #[.int .i64 t175] rfl (by (try simp only [List.map_toArray, List.map_cons, List.map_nil]); first | done | rfl | (simp only [List.length_drop, List.length_take]; rfl)) ?_; (with_reducible refine (vint_Put.calls kj21 t175 t178 t179 _ A38.out).mono ?_); rintro e w48 ⟨rfl, hb⟩; refine ⟨_, rfl, ?_⟩; have n0_ := Aside0.mk (below_step (by repeat (first | (with_reducible first | exact HB.out | apply below_alloc | apply pw_below_drewN | apply below_drew1) | exact HB.out)) hb); clear HB; have HB := n0_; clear n0_; (try clear hb); (try clear hb2); (try clear hk); (try clear hi)))
                            go_ret
                            exact ⟨by first | rfl | (simp [errW_none, errW_some] <;> rfl) | (simp [*, errW_none, errW_some] <;> rfl), by repeat (first | (with_reducible first | exact HB.out | apply below_alloc | apply pw_below_drewN | apply below_drew1) | exact HB.out)⟩
                        · rw [if_neg c37] at H
                          have c37b0 : (t177 == 0) = false := beq_eq_false_iff_ne.mpr c37
                          have c37b1 : (t177 != 0) = true := bne_iff_ne.mpr c37
                          by_cases c49 : t175 = 0
                          · rw [if_pos c49] at H
                            have c49b0 : (t175 == 0) = true := beq_iff_eq.mpr c49
                            have c49b1 : (t175 != 0) = false := bne_eq_false_iff_eq.mpr c49
                            clear c49
                            obtain rfl := Option.some.inj H
                            go_wp2_with (first | ((with_reducible refine gate_callee (f := 13) rfl ?_); refine goesL_ (some 101) rfl rfl Try.func13 (by kernel_rfl) rfl #[.string a2] rfl (by (try simp only [List.map_toArray, List.map_cons, List.map_nil]); first | done | rfl | (simp only [List.length_drop, List.length_take]; rfl)) ?_; (with_reducible refine (vint_Get.calls kj21 a2 t175 t176 t177 _ A36.out).mono ?_); rintro e w50 ⟨rfl, hb⟩; refine ⟨_, rfl, ?_⟩; have n0_ := Aside0.mk (below_step (by repeat (first | (with_reducible first | exact HB.out | apply below_alloc | apply pw_below_drewN | apply below_drew1) | exact HB.out)) hb); clear HB; have HB := n0_; clear n0_; (try clear hb); (try clear hb2); (try clear hk); (try clear hi)))
                            go_ret
                            exact ⟨by first | rfl | (simp [errW_none, errW_some] <;> rfl) | (simp [*, errW_none, errW_some] <;> rfl), by repeat (first | (with_reducible first | exact HB.out | apply below_alloc | apply pw_below_drewN | apply below_drew1) | exact HB.out)⟩
                          · rw [if_neg c49] at H
                            have c49b0 : (t175 == 0) = false := beq_eq_false_iff_ne.mpr c49
                            have c49b1 : (t175 != 0) = true := bne_iff_ne.mpr c49
                            obtain rfl := Option.some.inj H
                            go_wp2_with (first | ((with_reducible refine gate_callee (f := 13) rfl ?_); refine goesL_ (some 101) rfl rfl Try.func13 (by kernel_rfl) rfl #[.string a2] rfl (by (try simp only [List.map_toArray, List.map_cons, List.map_nil]); first | done | rfl | (simp only [List.length_drop, List.length_take]; rfl)) ?_; (with_reducible refine (vint_Get.calls kj21 a2 t175 t176 t177 _ A36.out).mono ?_); rintro e w51 ⟨rfl, hb⟩; refine ⟨_, rfl, ?_⟩; have n0_ := Aside0.mk (below_step (by repeat (first | (with_reducible first | exact HB.out | apply below_alloc | apply pw_below_drewN | apply below_drew1) | exact HB.out)) hb); clear HB; have HB := n0_; clear n0_; (try clear hb); (try clear hb2); (try clear hk); (try clear hi)))
                            go_ret
                            exact ⟨by first | rfl | (simp [errW_none, errW_some] <;> rfl) | (simp [*, errW_none, errW_some] <;> rfl), by repeat (first | (with_reducible first | exact HB.out | apply below_alloc | apply pw_below_drewN | apply below_drew1) | exact HB.out)⟩
          · rw [if_neg c13] at H
            exact absurd H (by simp)
        · rw [if_neg c12] at H
          have c12b0 : (t169 == 0) = false := beq_eq_false_iff_ne.mpr c12
          have c12b1 : (t169 != 0) = true := bne_iff_ne.mpr c12
          by_cases c52 : t168.toList = ([] : List UInt8)
          · rw [if_pos c52] at H
            have c52b0 : (t168.toList == ([] : List UInt8)) = true := beq_iff_eq.mpr c52
            have c52b1 : (t168.toList != ([] : List UInt8)) = false := bne_eq_false_iff_eq.mpr c52
            clear c52
            by_cases c53 : a0 < 0
            · rw [if_pos c53] at H
              have c53b0 : decide (a0 < 0) = true := decide_eq_true c53
              clear c53
              obtain rfl := Option.some.inj H
              go_wp2_with (first | ((with_reducible refine gate_callee (f := 11) rfl ?_); refine goesL_ (some 24) rfl rfl Try.func11 (by kernel_rfl) rfl #[.int .i64 a0] rfl (by (try simp only [List.map_toArray, List.map_cons, List.map_nil]); first | done | rfl | (simp only [List.length_drop, List.length_take]; rfl)) ?_; (with_reducible refine (vint_Put.calls kj3 a0 t168 t169 _ A11.out).mono ?_); rintro e w54 ⟨rfl, hb⟩; refine ⟨_, rfl, ?_⟩; have n0_ := Aside0.mk (below_step (by repeat (first | (with_reducible first | exact HB.out | apply below_alloc | apply pw_below_drewN | apply below_drew1) | exact HB.out)) hb); clear HB; have HB := n0_; clear n0_; (try clear hb); (try clear hb2); (try clear hk); (try clear hi)))
              go_ret
              exact ⟨by first | rfl | (simp [errW_none, errW_some] <;> rfl) | (simp [*, errW_none, errW_some] <;> rfl), by repeat (first | (with_reducible first | exact HB.out | apply below_alloc | apply pw_below_drewN | apply below_drew1) | exact HB.out)⟩
            · rw [if_neg c53] at H
              have c53b0 : decide (a0 < 0) = false := decide_eq_false c53
              clear c53
              obtain rfl := Option.some.inj H
              go_wp2_with (first | ((with_reducible refine gate_callee (f := 11) rfl ?_); refine goesL_ (some 24) rfl rfl Try.func11 (by kernel_rfl) rfl #[.int .i64 a0] rfl (by (try simp only [List.map_toArray, List.map_cons, List.map_nil]); first | done | rfl | (simp only [List.length_drop, List.length_take]; rfl)) ?_; (with_reducible refine (vint_Put.calls kj3 a0 t168 t169 _ A11.out).mono ?_); rintro e w55 ⟨rfl, hb⟩; refine ⟨_, rfl, ?_⟩; have n0_ := Aside0.mk (below_step (by repeat (first | (with_reducible first | exact HB.out | apply below_alloc | apply pw_below_drewN | apply below_drew1) | exact HB.out)) hb); clear HB; have HB := n0_; clear n0_; (try clear hb); (try clear hb2); (try clear hk); (try clear hi)))
              go_ret
              exact ⟨by first | rfl | (simp [errW_none, errW_some] <;> rfl) | (simp [*, errW_none, errW_some] <;> rfl), by repeat (first | (with_reducible first | exact HB.out | apply below_alloc | apply pw_below_drewN | apply below_drew1) | exact HB.out)⟩
          · rw [if_neg c52] at H
            have c52b0 : (t168.toList == ([] : List UInt8)) = false := beq_eq_false_iff_ne.mpr c52
            have c52b1 : (t168.toList != ([] : List UInt8)) = true := bne_iff_ne.mpr c52
            obtain rfl := Option.some.inj H
            go_wp2_with (first | ((with_reducible refine gate_callee (f := 11) rfl ?_); refine goesL_ (some 24) rfl rfl Try.func11 (by kernel_rfl) rfl #[.int .i64 a0] rfl (by (try simp only [List.map_toArray, List.map_cons, List.map_nil]); first | done | rfl | (simp only [List.length_drop, List.length_take]; rfl)) ?_; (with_reducible refine (vint_Put.calls kj3 a0 t168 t169 _ A11.out).mono ?_); rintro e w56 ⟨rfl, hb⟩; refine ⟨_, rfl, ?_⟩; have n0_ := Aside0.mk (below_step (by repeat (first | (with_reducible first | exact HB.out | apply below_alloc | apply pw_below_drewN | apply below_drew1) | exact HB.out)) hb); clear HB; have HB := n0_; clear n0_; (try clear hb); (try clear hb2); (try clear hk); (try clear hi)))
            go_ret
            exact ⟨by first | rfl | (simp [errW_none, errW_some] <;> rfl) | (simp [*, errW_none, errW_some] <;> rfl), by repeat (first | (with_reducible first | exact HB.out | apply below_alloc | apply pw_below_drewN | apply below_drew1) | exact HB.out)⟩

/-- THE ONE PURE STATEMENT of hamperlaw18_VintBack: yours. -/
def hamperlaw18_VintBack.Pure : Prop := ∀ (a0 : Int) (a1 : Int) (a2 : ByteArray), (Lit.int .i64 a0).wf = true → (Lit.int .i64 a1).wf = true → a2.size ≤ 140737488351232 → ∃ k, hamperlaw18_VintBack.f k a0 a1 a2 = some true
theorem hamperlaw18_VintBack.walk (P : hamperlaw18_VintBack.Pure) (a0 : Int) (a1 : Int) (a2 : ByteArray) (w : World) (w0 : (Lit.int .i64 a0).wf = true) (w1 : (Lit.int .i64 a1).wf = true) (w2 : a2.size ≤ 140737488351232) :
    Calls Try.prog 4 #[.int .i64 a0, .int .i64 a1, .string a2] w fun e w' => e = .returned (.bool true) ∧ Below w.heap.size w w' := by
  obtain ⟨k, h⟩ := P a0 a1 a2 w0 w1 w2
  refine (hamperlaw18_VintBack.calls k a0 a1 a2 true w h).mono ?_
  rintro e w' ⟨rfl, hd⟩
  exact ⟨rfl, hd⟩

end Go.Proofs.Ytaclccafbdcpoaa.PVint
