-- Made by a program of this session (wip/tools/pp.py) out of the seat's translation; contracts of some functions are typed by hand.
import Derived.Test.YtbeibmdccjgcmaaDoorQTog
import Derived.Test.YtbeibmdccjgcmaaDoorPQux9
import Derived.Test.YtbeibmdccjgcmaaDoorPQux69
import Derived.Test.YtbeibmdccjgcmaaDoorQPure
namespace Go.Proofs.YtbeibmdccjgcmaaDoor.PQu
open Go.RowKit Go.Proofs.YtbeibmdccjgcmaaDoorW.PrintWords Go.Proofs.YtbeibmdccjgcmaaDoorW.PrintLast Go.Proofs.YtbeibmdccjgcmaaDoorW.PrintMore
attribute [local go_sem] max2_int min2_int max_two min_two max_three min_three max_four min_four   -- for this text's walks alone
set_option linter.unusedVariables false
set_option linter.unusedSimpArgs false

/-! ### hamperlaw21_QuickReads: function 4 -/
mutual
def hamperlaw21_QuickReads.l0 : Nat → List ByteArray → Int → Int → Option (Bool)
  | 0, _, _, _ => none
  | k + 1, x19, x20, x21 => if x21 < x20 then (if 0 ≤ x21 then (if x21 < (x19.length : Int) then ((hamperref21_Read.f k (rdOf ByteArray.empty x19 x21)).bind fun bt261 => (hamperlaw21_QuickReads.l1 k (rdOf ByteArray.empty x19 x21) bt261.1 bt261.2 0 x19 x20 x21)) else (none)) else (none)) else (some true)
def hamperlaw21_QuickReads.l1 : Nat → ByteArray → List (S33) → Int → Int → List ByteArray → Int → Int → Option (Bool)
  | 0, _, _, _, _, _, _, _ => none
  | k + 1, x4, x5, x6, x7, x19, x20, x21 => if x7 < 2 then ((quick_Read.f k x4).bind fun bt265 => ((hamperref21_Same.f k bt265.1 x5).bind fun t269 => (if t269 = true then (hamperlaw21_QuickReads.j2 k x4 x5 x6 x7 bt265.1 x19 x20 x21 (x6 != bt265.2)) else (hamperlaw21_QuickReads.j2 k x4 x5 x6 x7 bt265.1 x19 x20 x21 true)))) else (hamperlaw21_QuickReads.l0 k x19 x20 (wrap64 (x21 + 1)))
def hamperlaw21_QuickReads.j2 : Nat → ByteArray → List (S33) → Int → Int → List (S33) → List ByteArray → Int → Int → Bool → Option (Bool)
  | 0, _, _, _, _, _, _, _, _, _ => none
  | k + 1, x4, x5, x6, x7, x8, x19, x20, x21, x47 => if x47 = true then (some false) else (hamperlaw21_QuickReads.l2 k x4 x5 x6 x7 x8 0 x19 x20 x21)
def hamperlaw21_QuickReads.l2 : Nat → ByteArray → List (S33) → Int → Int → List (S33) → Int → List ByteArray → Int → Int → Option (Bool)
  | 0, _, _, _, _, _, _, _, _, _ => none
  | k + 1, x4, x5, x6, x7, x8, x10, x19, x20, x21 => if x10 < (x8.length : Int) then (if 0 ≤ x10 then (hamperlaw21_QuickReads.l2 k x4 x5 x6 x7 (x8.set (x10 : Int).toNat (⟨(⟨#[63]⟩ : ByteArray), (rd_T33 x8 x10).f1, (rd_T33 x8 x10).f2, (rd_T33 x8 x10).f3, (rd_T33 x8 x10).f4⟩ : S33)) (wrap64 (x10 + 1)) x19 x20 x21) else (none)) else (hamperlaw21_QuickReads.l1 k x4 x5 x6 (wrap64 (x7 + 1)) x19 x20 x21)
end
def hamperlaw21_QuickReads.f (k : Nat) (a0 : ByteArray) : Option (Bool) := if (a0.size : Int) > 20000 then (some true) else ((hamperref05_Sum.f a0).bind fun t256 => (if a0.size + t256.size ≤ 9223372036854775807 then ((some (([a0, a0 ++ t256] : List ByteArray) : List ByteArray)).bind fun y257 => (hamperlaw21_QuickReads.l0 k y257 (y257.length : Int) 0)) else (none)))
set_option maxHeartbeats 8000000 in
set_option maxRecDepth 100000 in
theorem hamperlaw21_QuickReads.calls (k : Nat) (a0 : ByteArray) (r : Bool) (w : World) (hTabs : Me.Tabs w) (h : hamperlaw21_QuickReads.f k a0 = some r) :
    Calls Tryd.prog 4 #[.string a0] w fun e w' => e = .returned (.bool r) ∧ Below w.heap.size w w' := by
  have HB := Aside0.mk (Below.refl w.heap.size w)
  have HTB := Aside0.mk hTabs
  clear hTabs
  have H : (if (a0.size : Int) > 20000 then (some true) else ((hamperref05_Sum.f a0).bind fun t256 => (if a0.size + t256.size ≤ 9223372036854775807 then ((some (([a0, a0 ++ t256] : List ByteArray) : List ByteArray)).bind fun y257 => (hamperlaw21_QuickReads.l0 k y257 (y257.length : Int) 0)) else (none)))) = some r := h
  clear h
  by_cases c2 : (a0.size : Int) > 20000
  · rw [if_pos c2] at H
    have c2b0 : decide (20000 < (a0.size : Int)) = true := decide_eq_true c2
    have c2b1 : decide (20000 < a0.size) = true := decide_eq_true (by omega)
    clear c2
    obtain rfl := Option.some.inj H
    go_enter Tryd.func4, Tryd.ntmps4
    go_wp2
    go_ret
    exact ⟨by first | rfl | (simp [errW_none, errW_some] <;> rfl) | (simp [*, errW_none, errW_some] <;> rfl), by repeat (first | (with_reducible first | exact HB.out | apply below_alloc | apply pw_below_drewN | apply below_drew1) | exact HB.out)⟩
  · rw [if_neg c2] at H
    have c2b0 : decide (20000 < (a0.size : Int)) = false := decide_eq_false c2
    have c2b1 : decide (20000 < a0.size) = false := decide_eq_false (by omega)
    clear c2
    replace H := Option.bind_eq_some_iff.mp H
    obtain ⟨t256, A30, H⟩ := H
    replace H : (if a0.size + t256.size ≤ 9223372036854775807 then ((some (([a0, a0 ++ t256] : List ByteArray) : List ByteArray)).bind fun y257 => (hamperlaw21_QuickReads.l0 k y257 (y257.length : Int) 0)) else (none)) = some r := H
    have A3 := Aside0.mk A30
    clear A30
    by_cases c4 : a0.size + t256.size ≤ 9223372036854775807
    · rw [if_pos c4] at H
      have c4b0 := eq_true c4
      have c4b1 : decide (a0.size + t256.size ≤ 9223372036854775807) = true := decide_eq_true c4
      try have c4b2 : (9223372036854775807 < a0.size + t256.size) = False := eq_false (Nat.not_lt.2 c4)
      obtain ⟨y257, hy257⟩ : ∃ y_ : List ByteArray, y_ = (([a0, a0 ++ t256] : List ByteArray)) := ⟨_, rfl⟩
      replace H : (hamperlaw21_QuickReads.l0 k y257 (y257.length : Int) 0) = some r := by first | (rw [hy257]; with_reducible exact H) | (have H2_ := (Option.bind_some _ _).symm.trans H; rw [hy257]; with_reducible exact H2_) | (have H2_ := (Option.bind_some _ _).symm.trans H; with_reducible exact H2_) | with_reducible exact H | (rw [hy257]; exact H) | exact H
      have Ny257 := Aside0.mk hy257
      clear hy257
      have H' := Aside0.mk H
      clear H
      go_enter Tryd.func4, Tryd.ntmps4
      go_wp2_with (first | ((with_reducible refine gate_callee (f := 16) rfl ?_); refine goesL_ (some 17) rfl rfl Tryd.func16 (by kernel_rfl) rfl #[.string a0] rfl (by (try simp only [List.map_toArray, List.map_cons, List.map_nil]); first | done | rfl | (simp only [List.length_drop, List.length_take]; rfl)) ?_; (with_reducible refine (hamperref05_Sum.calls a0 t256 _ A3.out).mono ?_); rintro e w5 ⟨rfl, hb⟩; refine ⟨_, rfl, ?_⟩; have n0_ := Aside0.mk (below_step (by repeat (first | (with_reducible first | exact HB.out | apply below_alloc | apply pw_below_drewN | apply below_drew1) | exact HB.out)) hb); clear HB; have HB := n0_; clear n0_; (try clear hb); (try clear hb2); (try clear hk); (try clear hi)) | ((with_reducible refine gate_dst (N := 19) rfl ?_); refine Kd.R_lit Kd.string _ 9 ?hg (N := 19) ?hd (xs := ([a0, a0 ++ t256] : List ByteArray)) (inner := [.string a0, .string (a0 ++ t256)]) (ok := fun _ => True) (okp := fun _ => True) ?hr ?hp (fun _ hk => hk) trivial (Below.refl _ _) (Nat.le_refl _) (by simp) ?_; (case hd => rfl); (case hg => rfl); (case hr => first | (go_simp; done) | (go_simp; rfl)); (case hp => exact (Reps.one (show Kd.M Kd.string _ _ _ a0 [.string a0] from rfl) (Reps.one (show Kd.M Kd.string _ _ _ (a0 ++ t256) [.string (a0 ++ t256)] from rfl) (Reps.none _ _)))); intro v258 w6 ho7 hb hg_ hnew_; clear hg_ hnew_; (first | rw [← Ny257.out] at ho7 | (simp only [Int.reduceToNat] at ho7; rw [← Ny257.out] at ho7)); have n0_ := Aside0.mk (Kd.R_lower ho7 (below_size (by repeat (first | (with_reducible first | exact HB.out | apply below_alloc | apply pw_below_drewN | apply below_drew1) | exact HB.out)))); have n1_ := Aside0.mk (below_step (by repeat (first | (with_reducible first | exact HB.out | apply below_alloc | apply pw_below_drewN | apply below_drew1) | exact HB.out)) hb); clear HB; have HO259 := n0_; have HB := n1_; clear n0_ n1_; clear hb ho7; obtain ⟨Ao8, co8, eo8⟩ := Kd.R_slice HO259.out; subst eo8))
      go_loopg [21] k (fun kq v21 w' => ∃ (x21_1 : Int), v21 = .int .i64 x21_1 ∧ Aside0 (hamperlaw21_QuickReads.l0 kq y257 (y257.length : Int) x21_1 = some r) ∧ Aside0 (kq ≤ k) ∧ Aside0 (Kd.R Kd.string 9 w' w.heap.size (fun _ => True) (.slice Ao8 y257.length co8) y257) ∧ Aside0 (Below w.heap.size w w'))
      case atStart => exact ⟨(0), (by first | rfl | (simp; done) | (simp [*]; done)), H', ⟨Nat.le_refl _⟩, ⟨by (with_reducible repeat (first | apply Kd.R_alloc | apply Kd.R_drewN | apply Kd.R_drew)); exact HO259.out⟩, ⟨by repeat (first | (with_reducible first | exact HB.out | apply below_alloc | apply pw_below_drewN | apply below_drew1) | exact HB.out)⟩⟩
      case round =>
        clear H'
        try clear c1
        try clear c2
        try clear c2b0
        try clear c2b1
        try clear p2
        try clear c4
        try clear c4b0
        try clear c4b1
        try clear c4b2
        obtain ⟨x21_1, rfl, HA, HK1, HO_19, HB⟩ := hrel
        cases gk with
        | zero => exact absurd HA.out (by simp [hamperlaw21_QuickReads.l0])
        | succ k1 =>
          have H := HA.out
          clear HA
          simp only [hamperlaw21_QuickReads.l0] at H
          by_cases c9 : x21_1 < (y257.length : Int)
          · rw [if_pos c9] at H
            have c9b0 : decide (x21_1 < (y257.length : Int)) = true := decide_eq_true c9
            clear c9
            by_cases c10 : 0 ≤ x21_1
            · rw [if_pos c10] at H
              have c10b0 : decide (0 ≤ x21_1) = true := decide_eq_true c10
              clear c10
              by_cases c11 : x21_1 < (y257.length : Int)
              · rw [if_pos c11] at H
                have c11b0 : decide (x21_1 < (y257.length : Int)) = true := decide_eq_true c11
                clear c11
                replace H := Option.bind_eq_some_iff.mp H
                obtain ⟨⟨t261, t262⟩, A120, H⟩ := H
                replace H : (hamperlaw21_QuickReads.l1 k1 (rdOf ByteArray.empty y257 x21_1) t261 t262 0 y257 (y257.length : Int) x21_1) = some r := H
                have A12 := Aside0.mk A120
                clear A120
                have H' := Aside0.mk H
                clear H
                have p260 : 0 ≤ (x21_1 : Int) := of_decide_eq_true (by first | (with_reducible assumption) | assumption)
                have q260 : x21_1 < (y257.length : Int) := of_decide_eq_true (by first | (with_reducible assumption) | assumption)
                obtain ⟨ad260, e260, hx260_0⟩ := Kd.at_string (Kd.R_reads' HO_19.out).2.2 x21_1 p260 q260
                cases e260
                replace p260 := eq_true p260
                replace q260 := eq_true q260
                go_wp2_with (first | ((with_reducible refine gate_callee (f := 17) rfl ?_); refine goesL_ (some 27) rfl rfl Tryd.func17 (by kernel_rfl) rfl #[.string (rdOf ByteArray.empty y257 x21_1)] rfl (by (try simp only [List.map_toArray, List.map_cons, List.map_nil]); first | done | rfl | (simp only [List.length_drop, List.length_take]; rfl)) ?_; (with_reducible refine (hamperref21_Read.calls (hTabs := HTB.out.below (by repeat (first | (with_reducible first | exact HB.out | apply below_alloc | apply pw_below_drewN | apply below_drew1) | exact HB.out))) k1 (rdOf ByteArray.empty y257 x21_1) t261 t262 _ A12.out).mono ?_); rintro e w13 ⟨v263, rfl, ho0, hb⟩; refine ⟨_, rfl, ?_⟩; have n0_ := Aside0.mk (Kd.R_below (by (with_reducible repeat (first | apply Kd.R_alloc | apply Kd.R_drewN | apply Kd.R_drew)); exact HO_19.out) hb); have n1_ := Aside0.mk (Kd.R_lower ho0 (below_size (by repeat (first | (with_reducible first | exact HB.out | apply below_alloc | apply pw_below_drewN | apply below_drew1) | exact HB.out)))); have n2_ := Aside0.mk (below_step (by repeat (first | (with_reducible first | exact HB.out | apply below_alloc | apply pw_below_drewN | apply below_drew1) | exact HB.out)) hb); clear HO_19; clear HB; have HO_19 := n0_; have HO264 := n1_; have HB := n2_; clear n0_ n1_ n2_; (try clear hb); (try clear hb2); (try clear hk); (try clear hi); (try clear ho0)))
                go_loopg [7] k1 (fun kq v7 w' => ∃ (x5_2 : List (S33)) (x7_2 : Int), v7 = .int .i64 x7_2 ∧ Aside0 (hamperlaw21_QuickReads.l1 kq (rdOf ByteArray.empty y257 x21_1) x5_2 t262 x7_2 y257 (y257.length : Int) x21_1 = some r) ∧ Aside0 (kq ≤ k1) ∧ Aside0 (Kd.R k33 33 w' w.heap.size (fun _ => True) v263 x5_2) ∧ Aside0 (Kd.R Kd.string 9 w' w.heap.size (fun _ => True) (.slice (some ad260) y257.length co8) y257) ∧ Aside0 (Below w.heap.size w w'))
                case atStart => exact ⟨(t261), (0), (by first | rfl | (simp; done) | (simp [*]; done)), H', ⟨Nat.le_refl _⟩, ⟨by (with_reducible repeat (first | apply Kd.R_alloc | apply Kd.R_drewN | apply Kd.R_drew)); exact HO264.out⟩, ⟨by (with_reducible repeat (first | apply Kd.R_alloc | apply Kd.R_drewN | apply Kd.R_drew)); exact HO_19.out⟩, ⟨by repeat (first | (with_reducible first | exact HB.out | apply below_alloc | apply pw_below_drewN | apply below_drew1) | exact HB.out)⟩⟩
                case round =>
                  clear H'
                  try clear c1
                  try clear c2
                  try clear c2b0
                  try clear c2b1
                  try clear p2
                  try clear q2
                  try clear hx2
                  try clear c4
                  try clear c4b0
                  try clear c4b1
                  try clear c4b2
                  try clear c9
                  try clear c9b0
                  try clear c10
                  try clear c10b0
                  try clear c11
                  try clear c11b0
                  try clear hx260_0
                  try clear p2
                  try clear p260
                  try clear q260
                  obtain ⟨x5_2, x7_2, rfl, HA, HK2, HO_5, HO_19, HB⟩ := hrel
                  cases gk with
                  | zero => exact absurd HA.out (by simp [hamperlaw21_QuickReads.l1])
                  | succ k2 =>
                    have H := HA.out
                    clear HA
                    simp only [hamperlaw21_QuickReads.l1] at H
                    by_cases c14 : x7_2 < 2
                    · rw [if_pos c14] at H
                      have c14b0 : decide (x7_2 < 2) = true := decide_eq_true c14
                      clear c14
                      replace H := Option.bind_eq_some_iff.mp H
                      obtain ⟨⟨t265, t266⟩, A150, H⟩ := H
                      replace H : ((hamperref21_Same.f k2 t265 x5_2).bind fun t269 => (if t269 = true then (hamperlaw21_QuickReads.j2 k2 (rdOf ByteArray.empty y257 x21_1) x5_2 t262 x7_2 t265 y257 (y257.length : Int) x21_1 (t262 != t266)) else (hamperlaw21_QuickReads.j2 k2 (rdOf ByteArray.empty y257 x21_1) x5_2 t262 x7_2 t265 y257 (y257.length : Int) x21_1 true))) = some r := H
                      have A15 := Aside0.mk A150
                      clear A150
                      have HC16 := Aside0.mk H
                      clear H
                      go_upto_region 11 with (first | ((with_reducible refine gate_callee (f := 18) rfl ?_); refine goesL_ (some 36) rfl rfl Tryd.func18 (by kernel_rfl) rfl #[.string (rdOf ByteArray.empty y257 x21_1)] rfl (by (try simp only [List.map_toArray, List.map_cons, List.map_nil]); first | done | rfl | (simp only [List.length_drop, List.length_take]; rfl)) ?_; (with_reducible refine (quick_Read.calls (hTabs := HTB.out.below (by repeat (first | (with_reducible first | exact HB.out | apply below_alloc | apply pw_below_drewN | apply below_drew1) | exact HB.out))) k2 (rdOf ByteArray.empty y257 x21_1) t265 t266 _ A15.out).mono ?_); rintro e w17 ⟨v267, rfl, ho0, hb⟩; refine ⟨_, rfl, ?_⟩; have n0_ := Aside0.mk (Kd.R_elder' (by (with_reducible repeat (first | apply Kd.R_alloc | apply Kd.R_drewN | apply Kd.R_drew)); exact HO_5.out) (Kd.R_base ho0) hb); have n1_ := Aside0.mk (Kd.R_below (by (with_reducible repeat (first | apply Kd.R_alloc | apply Kd.R_drewN | apply Kd.R_drew)); exact HO_19.out) hb); have n2_ := Aside0.mk (Kd.R_lower (Kd.R_new' ho0 (Kd.R_lt (by (with_reducible repeat (first | apply Kd.R_alloc | apply Kd.R_drewN | apply Kd.R_drew)); exact HO_5.out))) (below_size (by repeat (first | (with_reducible first | exact HB.out | apply below_alloc | apply pw_below_drewN | apply below_drew1) | exact HB.out)))); have n3_ := Aside0.mk (below_step (by repeat (first | (with_reducible first | exact HB.out | apply below_alloc | apply pw_below_drewN | apply below_drew1) | exact HB.out)) hb); clear HO_5; clear HO_19; clear HB; have HO_5 := n0_; have HO_19 := n1_; have HO268 := n2_; have HB := n3_; clear n0_ n1_ n2_ n3_; (try clear hb); (try clear hb2); (try clear hk); (try clear hi); (try clear ho0)))
                      (try simp only [Act.put, List.setIfInBounds_toArray, List.set_cons_zero, List.set_cons_succ])
                      go_cut [47] (fun v47 wc => ∃ (kq : Nat) (x47_15 : Bool), v47 = .bool x47_15 ∧ Aside0 (hamperlaw21_QuickReads.j2 kq (rdOf ByteArray.empty y257 x21_1) x5_2 t262 x7_2 t265 y257 (y257.length : Int) x21_1 x47_15 = some r) ∧ Aside0 (kq ≤ k2) ∧ Aside0 (Kd.R k33 33 wc w.heap.size (fun k_ => some k_ ≠ (v267 : Value).ownBlock) v263 x5_2) ∧ Aside0 (Kd.R k33 33 wc w.heap.size (fun k_ => some k_ ≠ (v263 : Value).ownBlock) v267 t265) ∧ Aside0 (Kd.R Kd.string 9 wc w.heap.size (fun _ => True) (.slice (some ad260) y257.length co8) y257) ∧ Aside0 (Below w.heap.size w wc))
                      case first =>
                        have H := HC16.out
                        clear HC16
                        replace H := Option.bind_eq_some_iff.mp H
                        obtain ⟨t269, A180, H⟩ := H
                        replace H : (if t269 = true then (hamperlaw21_QuickReads.j2 k2 (rdOf ByteArray.empty y257 x21_1) x5_2 t262 x7_2 t265 y257 (y257.length : Int) x21_1 (t262 != t266)) else (hamperlaw21_QuickReads.j2 k2 (rdOf ByteArray.empty y257 x21_1) x5_2 t262 x7_2 t265 y257 (y257.length : Int) x21_1 true)) = some r := H
                        have A18 := Aside0.mk A180
                        clear A180
                        by_cases c19 : t269 = true
                        · subst c19
                          have H1 : (hamperlaw21_QuickReads.j2 k2 (rdOf ByteArray.empty y257 x21_1) x5_2 t262 x7_2 t265 y257 (y257.length : Int) x21_1 (t262 != t266)) = some r := by rw [if_pos rfl] at H; exact H
                          clear H
                          have H := H1
                          clear H1
                          have H' := Aside0.mk H
                          clear H
                          obtain ⟨Ao20, co20, eo20⟩ := Kd.R_slice HO268.out
                          subst eo20
                          obtain ⟨Ao21, co21, eo21⟩ := Kd.R_slice HO_5.out
                          subst eo21
                          go_wp2_with (first | ((with_reducible refine gate_callee (f := 15) rfl ?_); refine goesL_ (some 41) rfl rfl Tryd.func15 (by kernel_rfl) rfl #[.slice Ao20 t265.length co20, .slice Ao21 x5_2.length co21] rfl (by (try simp only [List.map_toArray, List.map_cons, List.map_nil]); first | done | rfl | (simp only [List.length_drop, List.length_take]; rfl)) ?_; (with_reducible refine (hamperref21_Same.calls k2 _ _ t265 _ _ x5_2 true _ ?side1 ?side2 ?side3 ?side4 A18.out).mono ?_); (case side1 => repeat (first | exact (Kd.R_reads' HO268.out).2.2 | (with_reducible refine Kd.C_alloc ?_ _) | (with_reducible refine Kd.C_drewN ?_ _) | (with_reducible refine Kd.C_drew ?_))); (case side2 => exact (Kd.R_reads' HO268.out).2.1); (case side3 => repeat (first | exact (Kd.R_reads' HO_5.out).2.2 | (with_reducible refine Kd.C_alloc ?_ _) | (with_reducible refine Kd.C_drewN ?_ _) | (with_reducible refine Kd.C_drew ?_))); (case side4 => exact (Kd.R_reads' HO_5.out).2.1); rintro e w' ⟨rfl, ⟨nd, rfl⟩⟩; refine ⟨_, rfl, ?_⟩))
                          go_meet
                          case rel => exact ⟨_, ((t262 != t266)), (by first | rfl | (simp; done) | (simp [*]; done)), H', ⟨by have := HK1.out; have := HK2.out; first | omega | exact Nat.le_refl _⟩, ⟨by (with_reducible repeat (first | apply Kd.R_alloc | apply Kd.R_drewN | apply Kd.R_drew)); exact Kd.R_mono HO_5.out (fun _ hk => hk.2)⟩, ⟨by (with_reducible repeat (first | apply Kd.R_alloc | apply Kd.R_drewN | apply Kd.R_drew)); exact Kd.R_mono HO268.out (fun _ hk => hk.2)⟩, ⟨by (with_reducible repeat (first | apply Kd.R_alloc | apply Kd.R_drewN | apply Kd.R_drew)); exact HO_19.out⟩, ⟨by repeat (first | (with_reducible first | exact HB.out | apply below_alloc | apply pw_below_drewN | apply below_drew1) | exact HB.out)⟩⟩
                        · replace c19 := Bool.eq_false_iff.mpr c19
                          subst c19
                          have H1 : (hamperlaw21_QuickReads.j2 k2 (rdOf ByteArray.empty y257 x21_1) x5_2 t262 x7_2 t265 y257 (y257.length : Int) x21_1 true) = some r := by rw [if_neg (show ¬ (false = true) by decide)] at H; exact H
                          clear H
                          have H := H1
                          clear H1
                          have H' := Aside0.mk H
                          clear H
                          obtain ⟨Ao22, co22, eo22⟩ := Kd.R_slice HO268.out
                          subst eo22
                          obtain ⟨Ao23, co23, eo23⟩ := Kd.R_slice HO_5.out
                          subst eo23
                          go_wp2_with (first | ((with_reducible refine gate_callee (f := 15) rfl ?_); refine goesL_ (some 41) rfl rfl Tryd.func15 (by kernel_rfl) rfl #[.slice Ao22 t265.length co22, .slice Ao23 x5_2.length co23] rfl (by (try simp only [List.map_toArray, List.map_cons, List.map_nil]); first | done | rfl | (simp only [List.length_drop, List.length_take]; rfl)) ?_; (with_reducible refine (hamperref21_Same.calls k2 _ _ t265 _ _ x5_2 false _ ?side1 ?side2 ?side3 ?side4 A18.out).mono ?_); (case side1 => repeat (first | exact (Kd.R_reads' HO268.out).2.2 | (with_reducible refine Kd.C_alloc ?_ _) | (with_reducible refine Kd.C_drewN ?_ _) | (with_reducible refine Kd.C_drew ?_))); (case side2 => exact (Kd.R_reads' HO268.out).2.1); (case side3 => repeat (first | exact (Kd.R_reads' HO_5.out).2.2 | (with_reducible refine Kd.C_alloc ?_ _) | (with_reducible refine Kd.C_drewN ?_ _) | (with_reducible refine Kd.C_drew ?_))); (case side4 => exact (Kd.R_reads' HO_5.out).2.1); rintro e w' ⟨rfl, ⟨nd, rfl⟩⟩; refine ⟨_, rfl, ?_⟩))
                          go_meet
                          case rel => exact ⟨_, (true), (by first | rfl | (simp; done) | (simp [*]; done)), H', ⟨by have := HK1.out; have := HK2.out; first | omega | exact Nat.le_refl _⟩, ⟨by (with_reducible repeat (first | apply Kd.R_alloc | apply Kd.R_drewN | apply Kd.R_drew)); exact Kd.R_mono HO_5.out (fun _ hk => hk.2)⟩, ⟨by (with_reducible repeat (first | apply Kd.R_alloc | apply Kd.R_drewN | apply Kd.R_drew)); exact Kd.R_mono HO268.out (fun _ hk => hk.2)⟩, ⟨by (with_reducible repeat (first | apply Kd.R_alloc | apply Kd.R_drewN | apply Kd.R_drew)); exact HO_19.out⟩, ⟨by repeat (first | (with_reducible first | exact HB.out | apply below_alloc | apply pw_below_drewN | apply below_drew1) | exact HB.out)⟩⟩
                      case rest =>
                        clear HC16
                        try clear c1
                        try clear c2
                        try clear c2b0
                        try clear c2b1
                        try clear p2
                        try clear q2
                        try clear hx2
                        try clear c4
                        try clear c4b0
                        try clear c4b1
                        try clear c4b2
                        try clear c9
                        try clear c9b0
                        try clear c10
                        try clear c10b0
                        try clear c11
                        try clear c11b0
                        try clear c14
                        try clear c14b0
                        try clear c15
                        try clear c16
                        try clear c17
                        try clear c18
                        try clear c19
                        try clear hx260_0
                        try clear p2
                        try clear p260
                        try clear q2
                        try clear q260
                        obtain ⟨kq, x47_15, rfl, HA, HJ15, HO_5, HO_8, HO_19, HB⟩ := hcut
                        cases kq with
                        | zero => exact absurd HA.out (by simp [hamperlaw21_QuickReads.j2])
                        | succ kj15 =>
                          have H := HA.out
                          clear HA
                          simp only [hamperlaw21_QuickReads.j2] at H
                          by_cases c24 : x47_15 = true
                          · subst c24
                            have H1 : (some false) = some r := by rw [if_pos rfl] at H; exact H
                            clear H
                            have H := H1
                            clear H1
                            obtain rfl := Option.some.inj H
                            go_wp2
                            go_ret
                            exact ⟨by first | rfl | (simp [errW_none, errW_some] <;> rfl) | (simp [*, errW_none, errW_some] <;> rfl), by repeat (first | (with_reducible first | exact HB.out | apply below_alloc | apply pw_below_drewN | apply below_drew1) | exact HB.out)⟩
                          · replace c24 := Bool.eq_false_iff.mpr c24
                            subst c24
                            have H1 : (hamperlaw21_QuickReads.l2 kj15 (rdOf ByteArray.empty y257 x21_1) x5_2 t262 x7_2 t265 0 y257 (y257.length : Int) x21_1) = some r := by rw [if_neg (show ¬ (false = true) by decide)] at H; exact H
                            clear H
                            have H := H1
                            clear H1
                            have H' := Aside0.mk H
                            clear H
                            go_wp2
                            go_loopg [10] kj15 (fun kq v10 w' => ∃ (x8_4 : List (S33)) (x10_4 : Int), v10 = .int .i64 x10_4 ∧ Aside0 (hamperlaw21_QuickReads.l2 kq (rdOf ByteArray.empty y257 x21_1) x5_2 t262 x7_2 x8_4 x10_4 y257 (y257.length : Int) x21_1 = some r) ∧ Aside0 (kq ≤ kj15) ∧ Aside0 (Kd.R k33 33 w' w.heap.size (fun k_ => some k_ ≠ (v267 : Value).ownBlock) v263 x5_2) ∧ Aside0 (Kd.R k33 33 w' w.heap.size (fun k_ => some k_ ≠ (v263 : Value).ownBlock) v267 x8_4) ∧ Aside0 (Kd.R Kd.string 9 w' w.heap.size (fun _ => True) (.slice (some ad260) y257.length co8) y257) ∧ Aside0 (Below w.heap.size w w'))
                            case atStart => exact ⟨(t265), (0), (by first | rfl | (simp; done) | (simp [*]; done)), H', ⟨Nat.le_refl _⟩, ⟨by (with_reducible repeat (first | apply Kd.R_alloc | apply Kd.R_drewN | apply Kd.R_drew)); exact HO_5.out⟩, ⟨by (with_reducible repeat (first | apply Kd.R_alloc | apply Kd.R_drewN | apply Kd.R_drew)); exact HO_8.out⟩, ⟨by (with_reducible repeat (first | apply Kd.R_alloc | apply Kd.R_drewN | apply Kd.R_drew)); exact HO_19.out⟩, ⟨by repeat (first | (with_reducible first | exact HB.out | apply below_alloc | apply pw_below_drewN | apply below_drew1) | exact HB.out)⟩⟩
                            case round =>
                              clear H'
                              try clear c1
                              try clear c2
                              try clear c2b0
                              try clear c2b1
                              try clear p2
                              try clear q2
                              try clear hx2
                              try clear c4
                              try clear c4b0
                              try clear c4b1
                              try clear c4b2
                              try clear c9
                              try clear c9b0
                              try clear c10
                              try clear c10b0
                              try clear c11
                              try clear c11b0
                              try clear c14
                              try clear c14b0
                              try clear c15
                              try clear c16
                              try clear c17
                              try clear c18
                              try clear c19
                              try clear c24
                              try clear hx260_0
                              try clear p2
                              try clear p260
                              try clear q2
                              try clear q260
                              obtain ⟨x8_4, x10_4, rfl, HA, HK4, HO_5, HO_8, HO_19, HB⟩ := hrel
                              cases gk with
                              | zero => exact absurd HA.out (by simp [hamperlaw21_QuickReads.l2])
                              | succ k4 =>
                                have H := HA.out
                                clear HA
                                simp only [hamperlaw21_QuickReads.l2] at H
                                by_cases c25 : x10_4 < (x8_4.length : Int)
                                · rw [if_pos c25] at H
                                  have c25b0 : decide (x10_4 < (x8_4.length : Int)) = true := decide_eq_true c25
                                  clear c25
                                  by_cases c26 : 0 ≤ x10_4
                                  · rw [if_pos c26] at H
                                    have c26b0 : decide (0 ≤ x10_4) = true := decide_eq_true c26
                                    clear c26
                                    obtain ⟨y270, hy270⟩ : ∃ y_ : List (S33), y_ = (x8_4.set (x10_4 : Int).toNat (⟨(⟨#[63]⟩ : ByteArray), (rd_T33 x8_4 x10_4).f1, (rd_T33 x8_4 x10_4).f2, (rd_T33 x8_4 x10_4).f3, (rd_T33 x8_4 x10_4).f4⟩ : S33)) := ⟨_, rfl⟩
                                    replace H : (hamperlaw21_QuickReads.l2 k4 (rdOf ByteArray.empty y257 x21_1) x5_2 t262 x7_2 y270 (wrap64 (x10_4 + 1)) y257 (y257.length : Int) x21_1) = some r := by first | (rw [hy270]; with_reducible exact H) | (have H2_ := (Option.bind_some _ _).symm.trans H; rw [hy270]; with_reducible exact H2_) | (have H2_ := (Option.bind_some _ _).symm.trans H; with_reducible exact H2_) | with_reducible exact H | (rw [hy270]; exact H) | exact H
                                    have Ny270 := Aside0.mk hy270
                                    clear hy270
                                    have H' := Aside0.mk H
                                    clear H
                                    obtain ⟨Ao28, co28, eo28⟩ := Kd.R_slice HO_8.out
                                    subst eo28
                                    have p27 : 0 ≤ (x10_4 : Int) := of_decide_eq_true (by first | (with_reducible assumption) | assumption)
                                    have q27 : (x10_4 : Int) < ((x8_4.length : Int) : Int) := of_decide_eq_true (by first | (with_reducible assumption) | assumption)
                                    obtain ⟨go27, co27, eo27, gb27, gl27, cl27, HG27⟩ := Kd.R_form HO_8.out (by omega)
                                    (first | cases eo27 | (injection eo27 with ea_ en_ ec_; (first | subst ea_ | (injection ea_ with ea_; subst ea_)); subst ec_; clear en_))
                                    have GB27 := Aside0.mk gb27
                                    have GG27 := Aside0.mk HG27
                                    clear gb27 gl27 HG27
                                    obtain ⟨ce27, hcl27, hM27, hcc27, hfr27⟩ := Kd.R_elem HO_8.out z33 (x10_4 : Int) p27 q27
                                    obtain rfl := k33_openM hM27
                                    have hx27_0 : wr.cell? ⟨go27, (x10_4 : Int).toNat * 5, none⟩ = some (.string ((rd_T33 x8_4 x10_4).f0)) := hcc27 0 _ rfl
                                    have hx27_1 : wr.cell? ⟨go27, (x10_4 : Int).toNat * 5 + 1, none⟩ = some (.int .i64 ((rd_T33 x8_4 x10_4).f1)) := hcc27 1 _ rfl
                                    have hx27_2 : wr.cell? ⟨go27, (x10_4 : Int).toNat * 5 + 2, none⟩ = some (.int .i64 ((rd_T33 x8_4 x10_4).f2)) := hcc27 2 _ rfl
                                    have hx27_3 : wr.cell? ⟨go27, (x10_4 : Int).toNat * 5 + 3, none⟩ = some (.int .i64 ((rd_T33 x8_4 x10_4).f3)) := hcc27 3 _ rfl
                                    have hx27_4 : wr.cell? ⟨go27, (x10_4 : Int).toNat * 5 + 4, none⟩ = some (.string ((rd_T33 x8_4 x10_4).f4)) := hcc27 4 _ rfl
                                    have hf27_0 : wr.frozen? ⟨go27, (x10_4 : Int).toNat * 5, none⟩ = false := hfr27 0
                                    have hf27_1 : wr.frozen? ⟨go27, (x10_4 : Int).toNat * 5 + 1, none⟩ = false := hfr27 1
                                    have hf27_2 : wr.frozen? ⟨go27, (x10_4 : Int).toNat * 5 + 2, none⟩ = false := hfr27 2
                                    have hf27_3 : wr.frozen? ⟨go27, (x10_4 : Int).toNat * 5 + 3, none⟩ = false := hfr27 3
                                    have hf27_4 : wr.frozen? ⟨go27, (x10_4 : Int).toNat * 5 + 4, none⟩ = false := hfr27 4
                                    clear hcl27 hcc27 hfr27 hM27
                                    replace p27 := eq_true p27
                                    replace q27 := eq_true q27
                                    have HX29 := Aside0.mk (show Kd.R k33 33 wr w.heap.size (fun k_ => some k_ ≠ (v263 : Value).ownBlock) (.slice (some ⟨go27, 0, none⟩) x8_4.length co28) x8_4 from (by (with_reducible repeat (first | apply Kd.R_alloc | apply Kd.R_drewN | apply Kd.R_drew)); exact HO_8.out))
                                    obtain ⟨ce29, hcl29, hM29, hcc29, hfr29⟩ := Kd.R_elem HX29.out z33 (x10_4 : Int) (of_decide_eq_true (by first | (with_reducible assumption) | assumption)) (by have h_ : (x10_4 : Int) < ((x8_4.length : Int) : Int) := of_decide_eq_true (by first | (with_reducible assumption) | assumption); first | exact h_ | (have e_ := (Kd.R_reads' HO_8.out).1; omega) | simpa using h_)
                                    obtain rfl := k33_openM hM29
                                    have HP29 := Kd.R_seg HX29.out (x10_4 : Int) (of_decide_eq_true (by first | (with_reducible assumption) | assumption)) (by have h_ : (x10_4 : Int) < ((x8_4.length : Int) : Int) := of_decide_eq_true (by first | (with_reducible assumption) | assumption); first | exact h_ | (have e_ := (Kd.R_reads' HO_8.out).1; omega) | simpa using h_) (seg := [.string (⟨#[63]⟩ : ByteArray)]) (j := 0) hcl29 hcc29 (show 1 ≤ 5 from by decide) (x' := (⟨(⟨#[63]⟩ : ByteArray), (rd_T33 x8_4 x10_4).f1, (rd_T33 x8_4 x10_4).f2, (rd_T33 x8_4 x10_4).f3, (rd_T33 x8_4 x10_4).f4⟩ : S33)) (k33_mkM _ _ _ (⟨(⟨#[63]⟩ : ByteArray), (rd_T33 x8_4 x10_4).f1, (rd_T33 x8_4 x10_4).f2, (rd_T33 x8_4 x10_4).f3, (rd_T33 x8_4 x10_4).f4⟩ : S33) ) (fun _ hk => hk)
                                    have hx29_0 := hcc29 0 _ rfl
                                    (try simp only [show (k33).sz = 5 from rfl, Nat.mul_one, Nat.add_zero] at hx29_0)
                                    have hf29_0 := hfr29 0
                                    (try simp only [show (k33).sz = 5 from rfl, Nat.mul_one, Nat.add_zero] at hf29_0)
                                    clear hcl29 hcc29 hfr29 hM29
                                    go_wp2_with (first | ((with_reducible refine gate_store (t := 9) (p := 57) rfl ?_); refine store_event (t := 9) (p := 57) (v := ?vo_w30) (w1 := (wr.setCell ⟨go27, (x10_4 : Int).toNat * 5, none⟩ (.string (⟨#[63]⟩ : ByteArray)))) ?hg ?ho ?hn ?hr ?_; (case ho => rfl); (case hg => rfl); (case hn => rfl); (case hr => first | (go_simp; done) | (go_simp; rfl)); intro w30 hw; have hg : wr.grownBy w30 (some go27) := (by rw [hw]; exact HP29.2); have hp_ : Kd.R k33 33 w30 w.heap.size (fun k_ => some k_ ≠ (v263 : Value).ownBlock) (.slice (some ⟨go27, 0, none⟩) x8_4.length co28) y270 := (by rw [hw, Ny270.out]; exact HP29.1); clear HP29; have n0_ := Aside0.mk (Kd.R_after (v := (.slice (some ⟨go27, 0, none⟩) x8_4.length co28)) (v1 := (.slice (some ⟨go27, 0, none⟩) x8_4.length co28)) (ok := (fun _ => True)) (by (with_reducible repeat (first | apply Kd.R_alloc | apply Kd.R_drewN | apply Kd.R_drew)); exact Kd.R_mono HO_5.out (fun _ hk => ⟨trivial, hk⟩)) hg (.inl rfl)); have n1_ := Aside0.mk (hp_); have n2_ := Aside0.mk (Kd.R_over' (v := (.slice (some ⟨go27, 0, none⟩) x8_4.length co28)) (by (with_reducible repeat (first | apply Kd.R_alloc | apply Kd.R_drewN | apply Kd.R_drew)); exact HO_19.out) (Kd.R_typed HO_8.out) (by decide) hg); have n3_ := Aside0.mk ((by rw [hw]; exact below_set (HB.out) GB27.out : Below w.heap.size w w30)); clear HO_5; clear HO_8; clear HO_19; clear HB; have HO_5 := n0_; have HO_8 := n1_; have HO_19 := n2_; have HB := n3_; clear n0_ n1_ n2_ n3_; clear hg hw hp_))
                                    go_roundg k4
                                    case measure => have := HK1.out; have := HK2.out; have := HJ15.out; have := HK4.out; omega
                                    case rel => exact ⟨(y270), (wrap64 (x10_4 + 1)), (by first | rfl | (simp; done) | (simp [*]; done)), H', ⟨by have := HK1.out; have := HK2.out; have := HJ15.out; have := HK4.out; omega⟩, ⟨by (with_reducible repeat (first | apply Kd.R_alloc | apply Kd.R_drewN | apply Kd.R_drew)); exact Kd.R_mono HO_5.out (fun _ hk => hk.2)⟩, ⟨by (with_reducible repeat (first | apply Kd.R_alloc | apply Kd.R_drewN | apply Kd.R_drew)); exact HO_8.out⟩, ⟨by (with_reducible repeat (first | apply Kd.R_alloc | apply Kd.R_drewN | apply Kd.R_drew)); exact HO_19.out⟩, ⟨by repeat (first | (with_reducible first | exact HB.out | apply below_alloc | apply pw_below_drewN | apply below_drew1) | exact HB.out)⟩⟩
                                  · rw [if_neg c26] at H
                                    exact absurd H (by simp)
                                · rw [if_neg c25] at H
                                  have c25b0 : decide (x10_4 < (x8_4.length : Int)) = false := decide_eq_false c25
                                  clear c25
                                  have H' := Aside0.mk H
                                  clear H
                                  obtain ⟨Ao31, co31, eo31⟩ := Kd.R_slice HO_8.out
                                  subst eo31
                                  go_wp2
                                  go_roundg k4
                                  case measure => have := HK1.out; have := HK2.out; have := HJ15.out; have := HK4.out; omega
                                  case rel => exact ⟨(x5_2), (wrap64 (x7_2 + 1)), (by first | rfl | (simp; done) | (simp [*]; done)), H', ⟨by have := HK1.out; have := HK2.out; have := HJ15.out; have := HK4.out; omega⟩, ⟨by (with_reducible repeat (first | apply Kd.R_alloc | apply Kd.R_drewN | apply Kd.R_drew)); exact Kd.R_mono HO_5.out (fun _ hk => trivial)⟩, ⟨by (with_reducible repeat (first | apply Kd.R_alloc | apply Kd.R_drewN | apply Kd.R_drew)); exact HO_19.out⟩, ⟨by repeat (first | (with_reducible first | exact HB.out | apply below_alloc | apply pw_below_drewN | apply below_drew1) | exact HB.out)⟩⟩
                    · rw [if_neg c14] at H
                      have c14b0 : decide (x7_2 < 2) = false := decide_eq_false c14
                      clear c14
                      have H' := Aside0.mk H
                      clear H
                      go_wp2
                      go_roundg k2
                      case measure => have := HK1.out; have := HK2.out; omega
                      case rel => exact ⟨(wrap64 (x21_1 + 1)), (by first | rfl | (simp; done) | (simp [*]; done)), H', ⟨by have := HK1.out; have := HK2.out; omega⟩, ⟨by (with_reducible repeat (first | apply Kd.R_alloc | apply Kd.R_drewN | apply Kd.R_drew)); exact HO_19.out⟩, ⟨by repeat (first | (with_reducible first | exact HB.out | apply below_alloc | apply pw_below_drewN | apply below_drew1) | exact HB.out)⟩⟩
              · rw [if_neg c11] at H
                exact absurd H (by simp)
            · rw [if_neg c10] at H
              exact absurd H (by simp)
          · rw [if_neg c9] at H
            have c9b0 : decide (x21_1 < (y257.length : Int)) = false := decide_eq_false c9
            clear c9
            obtain rfl := Option.some.inj H
            go_wp2
            go_ret
            exact ⟨by first | rfl | (simp [errW_none, errW_some] <;> rfl) | (simp [*, errW_none, errW_some] <;> rfl), by repeat (first | (with_reducible first | exact HB.out | apply below_alloc | apply pw_below_drewN | apply below_drew1) | exact HB.out)⟩
    · rw [if_neg c4] at H
      exact absurd H (by simp)

end Go.Proofs.YtbeibmdccjgcmaaDoor.PQu
