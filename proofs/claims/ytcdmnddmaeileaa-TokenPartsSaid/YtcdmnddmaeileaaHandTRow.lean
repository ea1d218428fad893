/- TokenRow: at the front of a row stands the distance that came there; the others keep their row; only the last one may fall off. -/
import Derived.Test.YtcdmnddmaeileaaTokAwake
import Derived.LoopTactic
import Derived.LoopN
namespace Go.Proofs.Ytcdmnddmaeileaa.PToken
open Go.RowKit Go.Proofs.YtcdmnddmaeileaaW.PrintWords Go.Proofs.YtcdmnddmaeileaaW.PrintLast Go.Proofs.YtcdmnddmaeileaaW.PrintMore
set_option linter.unusedVariables false
set_option linter.unusedSimpArgs false
/-- A row in memory. -/
structure EnvR (w W : World) (Z : Nat) (a b c d : Int) : Prop where
  blk : W.heap[Z]? = some (.cells #[.int .i64 a, .int .i64 b, .int .i64 c, .int .i64 d] 29 (0, 0))
  bel : Below w.heap.size w W
theorem EnvR.below {w W W1 : World} {Z : Nat} {a b c d : Int} (h : EnvR w W Z a b c d) (hb : Below W.heap.size W W1) : EnvR w W1 Z a b c d := ⟨(hb.block Z (blk_lt h.blk)).trans h.blk, h.bel.trans (hb.mono h.bel.size)⟩
theorem EnvR.alloc {w W : World} {Z : Nat} {a b c d : Int} (h : EnvR w W Z a b c d) (o : Obj) : EnvR w (W.alloc o) Z a b c d := h.below (below_alloc (Below.refl _ _) o)
theorem EnvR.drew {w W : World} {Z : Nat} {a b c d : Int} (h : EnvR w W Z a b c d) : EnvR w W.drew Z a b c d := ⟨h.blk, below_drew h.bel⟩
theorem EnvR.drewN {w W : World} {Z : Nat} {a b c d : Int} (n : Nat) (h : EnvR w W Z a b c d) : EnvR w (W.drewN n) Z a b c d := ⟨h.blk, pw_below_drewN h.bel n⟩
def rw4 (a b c d : Int) (i : Nat) : Int := if i = 0 then a else if i = 1 then b else if i = 2 then c else d
theorem EnvR.at_ {w W : World} {Z : Nat} {a b c d : Int} (h : EnvR w W Z a b c d) (i : Nat) (hi : i < 4) : W.cell? ⟨Z, i, none⟩ = some (.int .i64 (rw4 a b c d i)) := by
  rw [blk_cell h.blk i]
  match i, hi with
  | 0, _ => rfl
  | 1, _ => rfl
  | 2, _ => rfl
  | 3, _ => rfl
/-- No twins but 0, so far. -/
def NoTwin (a b c d : Int) (i k : Nat) : Prop := ∀ p q, q < p → (p < i ∨ (p = i ∧ q < k)) → ¬ (rw4 a b c d p = rw4 a b c d q ∧ rw4 a b c d p ≠ 0)
theorem noTwin_next {a b c d : Int} {i k : Nat} (h : NoTwin a b c d i k) (hk : ¬ (rw4 a b c d i = rw4 a b c d k ∧ rw4 a b c d i ≠ 0)) : NoTwin a b c d i (k + 1) := by
  intro p q hq hp
  rcases hp with hp | ⟨rfl, hp⟩
  · exact h p q hq (.inl hp)
  · rcases Nat.lt_or_ge q k with h1 | h1
    · exact h p q hq (.inr ⟨rfl, h1⟩)
    · obtain rfl : q = k := by omega
      exact hk
theorem noTwin_row {a b c d : Int} {i : Nat} (h : NoTwin a b c d i i) : NoTwin a b c d (i + 1) 0 := by
  intro p q hq hp
  rcases hp with hp | ⟨_, hp⟩
  · rcases Nat.lt_or_ge p i with h1 | h1
    · exact h p q hq (.inl h1)
    · obtain rfl : p = i := by omega
      exact h p q hq (.inr ⟨rfl, hq⟩)
  · omega
theorem noTwin_all {a b c d x : Int} (h : NoTwin a b c d 4 0) (hx : x ≠ 0) : ¬ (a = x ∧ b = x) ∧ ¬ (a = x ∧ c = x) ∧ ¬ (a = x ∧ d = x) ∧ ¬ (b = x ∧ c = x) ∧ ¬ (b = x ∧ d = x) ∧ ¬ (c = x ∧ d = x) := by
  have h10 : ¬ (b = a ∧ b ≠ 0) := h 1 0 (by decide) (.inl (by decide))
  have h20 : ¬ (c = a ∧ c ≠ 0) := h 2 0 (by decide) (.inl (by decide))
  have h30 : ¬ (d = a ∧ d ≠ 0) := h 3 0 (by decide) (.inl (by decide))
  have h21 : ¬ (c = b ∧ c ≠ 0) := h 2 1 (by decide) (.inl (by decide))
  have h31 : ¬ (d = b ∧ d ≠ 0) := h 3 1 (by decide) (.inl (by decide))
  have h32 : ¬ (d = c ∧ d ≠ 0) := h 3 2 (by decide) (.inl (by decide))
  omega
set_option maxHeartbeats 4000000 in
set_option maxRecDepth 100000 in
theorem row_walk (a b c d x : Int) (w : World) (_ : (Lit.int .i64 x).wf = true) : Calls Try.prog 4 #[rowVal a b c d, .int .i64 x] w fun e w' => e = .returned (.bool true) ∧ Below w.heap.size w w' := by
  have E0 := Aside0.mk (show EnvR w (w.alloc (.cells #[.int .i64 a, .int .i64 b, .int .i64 c, .int .i64 d] 29)) w.heap.size a b c d from ⟨blk_new w _, below_alloc (Below.refl _ w) _⟩)
  unfold rowVal
  go_enter Try.func4, Try.ntmps4
  go_wp2_with fail
  obtain ⟨Z, hZ⟩ : ∃ Z, Z = w.heap.size := ⟨_, rfl⟩
  rw [← hZ] at E0 ⊢
  clear hZ
  refine (awake_walk _).mono ?_
  rintro e w1 ⟨rfl, hb⟩
  have E1 := Aside0.mk (E0.out.below hb)
  clear hb E0
  go_wp2_with fail
  go_loopw [5] (fun i wr => ∃ j : Nat, j ≤ 4 ∧ i = .int .i64 j ∧ Aside0 (NoTwin a b c d j 0) ∧ Aside0 (EnvR w wr Z a b c d)) (fun i _ => 4 - (intOf i).toNat)
  case atStart => exact ⟨0, by omega, rfl, Aside0.mk (fun p q h1 h2 => by omega), E1⟩
  case round =>
    obtain ⟨j, hj, rfl, HN, E2⟩ := hrel
    by_cases hlt : j < 4
    · go_wp2_with fail
      go_loopw [6] (fun i wr => ∃ k : Nat, k ≤ j ∧ i = .int .i64 k ∧ Aside0 (NoTwin a b c d j k) ∧ Aside0 (EnvR w wr Z a b c d)) (fun i _ => j - (intOf i).toNat)
      case atStart => exact ⟨0, by omega, rfl, HN, E2⟩
      case round =>
        obtain ⟨k, hk, rfl, HN2, E3⟩ := hrel
        by_cases hkj : k < j
        · have c1 := E3.out.at_ j hlt
          have c2 := E3.out.at_ k (by omega)
          have nx := fun h => Aside0.mk (noTwin_next HN2.out h)
          have NX := Aside0.mk nx
          clear nx
          obtain ⟨u, hu⟩ : ∃ u, rw4 a b c d j = u := ⟨_, rfl⟩
          obtain ⟨v, hv⟩ : ∃ v, rw4 a b c d k = v := ⟨_, rfl⟩
          rw [hu] at c1
          rw [hv] at c2
          have HU := Aside0.mk hu
          have HV := Aside0.mk hv
          clear hu hv
          by_cases e : u = v
          · subst e
            by_cases z : u = 0
            · subst z
              have N5 := NX.out (by rw [HU.out]; exact fun h => h.2 rfl)
              clear NX HU HV
              go_wp2_with fail
              go_quiet (fail)
              go_wp2_with fail
              go_roundw
              case rel => exact ⟨k + 1, by omega, by go_num, N5, Aside0.mk (EnvR.drewN _ E3.out)⟩
              case measure => simp [intOf]; omega
            · have z1 : (u == 0) = false := beq_eq_false_iff_ne.mpr z
              have z2 : (u = 0) = False := eq_false z
              clear z NX HU HV
              go_wp2_with fail
              go_quiet (fail)
              go_wp2_with fail
              go_ret
              exact ⟨rfl, (EnvR.drewN _ E3.out).bel⟩
          · have e1 : (u == v) = false := beq_eq_false_iff_ne.mpr e
            have e2 : (u = v) = False := eq_false e
            have N5 := NX.out (by rw [HU.out, HV.out]; exact fun h => e h.1)
            clear e NX HU HV
            go_wp2_with fail
            go_quiet (fail)
            go_wp2_with fail
            go_roundw
            case rel => exact ⟨k + 1, by omega, by go_num, N5, Aside0.mk (EnvR.drewN _ E3.out)⟩
            case measure => simp [intOf]; omega
        · obtain rfl : k = j := by omega
          have N5 := Aside0.mk (noTwin_row HN2.out)
          go_wp2_with fail
          go_roundw
          case rel => exact ⟨k + 1, by omega, by go_num, N5, E3⟩
          case measure => simp [intOf]; omega
    · obtain rfl : j = 4 := by omega
      by_cases hx : x = 0
      · subst hx
        go_wp2_with fail
        go_ret
        exact ⟨rfl, E2.out.bel⟩
      have hx1 : (x == 0) = false := beq_eq_false_iff_ne.mpr hx
      have hx2 : (x = 0) = False := eq_false hx
      obtain ⟨t1, t2, t3, t4, t5, t6⟩ := noTwin_all HN.out hx
      have c0 : wr.cell? ⟨Z, 0, none⟩ = some (.int .i64 a) := E2.out.at_ 0 (by decide)
      have c1 : wr.cell? ⟨Z, 1, none⟩ = some (.int .i64 b) := E2.out.at_ 1 (by decide)
      have c2 : wr.cell? ⟨Z, 2, none⟩ = some (.int .i64 c) := E2.out.at_ 2 (by decide)
      have c3 : wr.cell? ⟨Z, 3, none⟩ = some (.int .i64 d) := E2.out.at_ 3 (by decide)
      have ne := fun (y : Int) (h : y ≠ x) => (⟨beq_eq_false_iff_ne.mpr h, eq_false h⟩ : (y == x) = false ∧ (y = x) = False)
      have NE := Aside0.mk ne
      clear ne
      go_wp2_with fail
      refine (token_Front_calls a b c d x _).mono ?_
      rintro e w4 ⟨rfl, hb⟩
      have E4 := Aside0.mk (E2.out.below hb)
      clear hb E2 HN c0 c1 c2 c3
      by_cases ha : a = x
      · obtain rfl := ha
        obtain ⟨nb1, nb2⟩ := NE.out b (by omega)
        obtain ⟨nc1, nc2⟩ := NE.out c (by omega)
        obtain ⟨nd1, nd2⟩ := NE.out d (by omega)
        have hf : front a b c d a = (a, b, c, d) := by unfold front; rw [if_pos rfl]
        rw [hf]
        clear hf
        unfold rowVal
        clear t1 t2 t3 t4 t5 t6 hx
        go_upto_region 14 with fail
        have E5 := Aside0.mk (E4.out.alloc (.cells #[.int .i64 a, .int .i64 b, .int .i64 c, .int .i64 d] 29))
        have G5 := Aside0.mk (show EnvR w (w4.alloc (.cells #[.int .i64 a, .int .i64 b, .int .i64 c, .int .i64 d] 29)) w4.heap.size a b c d from ⟨blk_new _ _, (E4.out.alloc _).bel⟩)
        obtain ⟨Y, hY⟩ : ∃ Y, Y = w4.heap.size := ⟨_, rfl⟩
        rw [← hY] at G5 ⊢
        clear hY E4
        change Code.wp _ _ _ _ (w4.alloc (.cells #[.int .i64 a, .int .i64 b, .int .i64 c, .int .i64 d] 29))
        generalize w4.alloc (.cells #[.int .i64 a, .int .i64 b, .int .i64 c, .int .i64 d] 29) = W5 at *
        have c0 : W5.cell? ⟨Z, 0, none⟩ = some (.int .i64 a) := E5.out.at_ 0 (by decide)
        have f0 : W5.cell? ⟨Y, 0, none⟩ = some (.int .i64 a) := G5.out.at_ 0 (by decide)
        have c1 : W5.cell? ⟨Z, 1, none⟩ = some (.int .i64 b) := E5.out.at_ 1 (by decide)
        have f1 : W5.cell? ⟨Y, 1, none⟩ = some (.int .i64 b) := G5.out.at_ 1 (by decide)
        have c2 : W5.cell? ⟨Z, 2, none⟩ = some (.int .i64 c) := E5.out.at_ 2 (by decide)
        have f2 : W5.cell? ⟨Y, 2, none⟩ = some (.int .i64 c) := G5.out.at_ 2 (by decide)
        have c3 : W5.cell? ⟨Z, 3, none⟩ = some (.int .i64 d) := E5.out.at_ 3 (by decide)
        have f3 : W5.cell? ⟨Y, 3, none⟩ = some (.int .i64 d) := G5.out.at_ 3 (by decide)
        go_wp2_with fail
        refine wp_loop_rounds 5 ?_
        rw [rounds_succ]
        go_wp2_with fail
        rw [rounds_succ]
        go_wp2_with fail
        go_quiet (fail)
        go_wp2_with fail
        rw [rounds_succ]
        go_wp2_with fail
        go_quiet (fail)
        go_wp2_with fail
        rw [rounds_succ]
        go_wp2_with fail
        go_quiet (fail)
        go_wp2_with fail
        rw [rounds_succ]
        go_wp2_with fail
        go_ret
        exact ⟨rfl, by repeat (first | (with_reducible first | exact E5.out.bel | apply pw_below_drewN | apply below_drew) | exact E5.out.bel)⟩
      by_cases hb : b = x
      · obtain rfl := hb
        obtain ⟨na1, na2⟩ := NE.out a (by omega)
        obtain ⟨nc1, nc2⟩ := NE.out c (by omega)
        obtain ⟨nd1, nd2⟩ := NE.out d (by omega)
        have hf : front a b c d b = (b, a, c, d) := by unfold front; rw [if_neg (by omega), if_pos rfl]
        rw [hf]
        clear hf
        unfold rowVal
        clear t1 t2 t3 t4 t5 t6 hx
        go_upto_region 14 with fail
        have E5 := Aside0.mk (E4.out.alloc (.cells #[.int .i64 b, .int .i64 a, .int .i64 c, .int .i64 d] 29))
        have G5 := Aside0.mk (show EnvR w (w4.alloc (.cells #[.int .i64 b, .int .i64 a, .int .i64 c, .int .i64 d] 29)) w4.heap.size b a c d from ⟨blk_new _ _, (E4.out.alloc _).bel⟩)
        obtain ⟨Y, hY⟩ : ∃ Y, Y = w4.heap.size := ⟨_, rfl⟩
        rw [← hY] at G5 ⊢
        clear hY E4
        change Code.wp _ _ _ _ (w4.alloc (.cells #[.int .i64 b, .int .i64 a, .int .i64 c, .int .i64 d] 29))
        generalize w4.alloc (.cells #[.int .i64 b, .int .i64 a, .int .i64 c, .int .i64 d] 29) = W5 at *
        have c0 : W5.cell? ⟨Z, 0, none⟩ = some (.int .i64 a) := E5.out.at_ 0 (by decide)
        have f0 : W5.cell? ⟨Y, 0, none⟩ = some (.int .i64 b) := G5.out.at_ 0 (by decide)
        have c1 : W5.cell? ⟨Z, 1, none⟩ = some (.int .i64 b) := E5.out.at_ 1 (by decide)
        have f1 : W5.cell? ⟨Y, 1, none⟩ = some (.int .i64 a) := G5.out.at_ 1 (by decide)
        have c2 : W5.cell? ⟨Z, 2, none⟩ = some (.int .i64 c) := E5.out.at_ 2 (by decide)
        have f2 : W5.cell? ⟨Y, 2, none⟩ = some (.int .i64 c) := G5.out.at_ 2 (by decide)
        have c3 : W5.cell? ⟨Z, 3, none⟩ = some (.int .i64 d) := E5.out.at_ 3 (by decide)
        have f3 : W5.cell? ⟨Y, 3, none⟩ = some (.int .i64 d) := G5.out.at_ 3 (by decide)
        go_wp2_with fail
        refine wp_loop_rounds 5 ?_
        rw [rounds_succ]
        go_wp2_with fail
        go_quiet (fail)
        go_wp2_with fail
        rw [rounds_succ]
        go_wp2_with fail
        rw [rounds_succ]
        go_wp2_with fail
        go_quiet (fail)
        go_wp2_with fail
        rw [rounds_succ]
        go_wp2_with fail
        go_quiet (fail)
        go_wp2_with fail
        rw [rounds_succ]
        go_wp2_with fail
        go_ret
        exact ⟨rfl, by repeat (first | (with_reducible first | exact E5.out.bel | apply pw_below_drewN | apply below_drew) | exact E5.out.bel)⟩
      by_cases hc : c = x
      · obtain rfl := hc
        obtain ⟨na1, na2⟩ := NE.out a (by omega)
        obtain ⟨nb1, nb2⟩ := NE.out b (by omega)
        obtain ⟨nd1, nd2⟩ := NE.out d (by omega)
        have hf : front a b c d c = (c, a, b, d) := by unfold front; rw [if_neg (by omega), if_neg (by omega), if_pos rfl]
        rw [hf]
        clear hf
        unfold rowVal
        clear t1 t2 t3 t4 t5 t6 hx
        go_upto_region 14 with fail
        have E5 := Aside0.mk (E4.out.alloc (.cells #[.int .i64 c, .int .i64 a, .int .i64 b, .int .i64 d] 29))
        have G5 := Aside0.mk (show EnvR w (w4.alloc (.cells #[.int .i64 c, .int .i64 a, .int .i64 b, .int .i64 d] 29)) w4.heap.size c a b d from ⟨blk_new _ _, (E4.out.alloc _).bel⟩)
        obtain ⟨Y, hY⟩ : ∃ Y, Y = w4.heap.size := ⟨_, rfl⟩
        rw [← hY] at G5 ⊢
        clear hY E4
        change Code.wp _ _ _ _ (w4.alloc (.cells #[.int .i64 c, .int .i64 a, .int .i64 b, .int .i64 d] 29))
        generalize w4.alloc (.cells #[.int .i64 c, .int .i64 a, .int .i64 b, .int .i64 d] 29) = W5 at *
        have c0 : W5.cell? ⟨Z, 0, none⟩ = some (.int .i64 a) := E5.out.at_ 0 (by decide)
        have f0 : W5.cell? ⟨Y, 0, none⟩ = some (.int .i64 c) := G5.out.at_ 0 (by decide)
        have c1 : W5.cell? ⟨Z, 1, none⟩ = some (.int .i64 b) := E5.out.at_ 1 (by decide)
        have f1 : W5.cell? ⟨Y, 1, none⟩ = some (.int .i64 a) := G5.out.at_ 1 (by decide)
        have c2 : W5.cell? ⟨Z, 2, none⟩ = some (.int .i64 c) := E5.out.at_ 2 (by decide)
        have f2 : W5.cell? ⟨Y, 2, none⟩ = some (.int .i64 b) := G5.out.at_ 2 (by decide)
        have c3 : W5.cell? ⟨Z, 3, none⟩ = some (.int .i64 d) := E5.out.at_ 3 (by decide)
        have f3 : W5.cell? ⟨Y, 3, none⟩ = some (.int .i64 d) := G5.out.at_ 3 (by decide)
        go_wp2_with fail
        refine wp_loop_rounds 5 ?_
        rw [rounds_succ]
        go_wp2_with fail
        go_quiet (fail)
        go_wp2_with fail
        rw [rounds_succ]
        go_wp2_with fail
        go_quiet (fail)
        go_wp2_with fail
        rw [rounds_succ]
        go_wp2_with fail
        rw [rounds_succ]
        go_wp2_with fail
        go_quiet (fail)
        go_wp2_with fail
        rw [rounds_succ]
        go_wp2_with fail
        go_ret
        exact ⟨rfl, by repeat (first | (with_reducible first | exact E5.out.bel | apply pw_below_drewN | apply below_drew) | exact E5.out.bel)⟩
      by_cases hd : d = x
      · obtain rfl := hd
        obtain ⟨na1, na2⟩ := NE.out a (by omega)
        obtain ⟨nb1, nb2⟩ := NE.out b (by omega)
        obtain ⟨nc1, nc2⟩ := NE.out c (by omega)
        have hf : front a b c d d = (d, a, b, c) := by unfold front; rw [if_neg (by omega), if_neg (by omega), if_neg (by omega)]
        rw [hf]
        clear hf
        unfold rowVal
        clear t1 t2 t3 t4 t5 t6 hx
        go_upto_region 14 with fail
        have E5 := Aside0.mk (E4.out.alloc (.cells #[.int .i64 d, .int .i64 a, .int .i64 b, .int .i64 c] 29))
        have G5 := Aside0.mk (show EnvR w (w4.alloc (.cells #[.int .i64 d, .int .i64 a, .int .i64 b, .int .i64 c] 29)) w4.heap.size d a b c from ⟨blk_new _ _, (E4.out.alloc _).bel⟩)
        obtain ⟨Y, hY⟩ : ∃ Y, Y = w4.heap.size := ⟨_, rfl⟩
        rw [← hY] at G5 ⊢
        clear hY E4
        change Code.wp _ _ _ _ (w4.alloc (.cells #[.int .i64 d, .int .i64 a, .int .i64 b, .int .i64 c] 29))
        generalize w4.alloc (.cells #[.int .i64 d, .int .i64 a, .int .i64 b, .int .i64 c] 29) = W5 at *
        have c0 : W5.cell? ⟨Z, 0, none⟩ = some (.int .i64 a) := E5.out.at_ 0 (by decide)
        have f0 : W5.cell? ⟨Y, 0, none⟩ = some (.int .i64 d) := G5.out.at_ 0 (by decide)
        have c1 : W5.cell? ⟨Z, 1, none⟩ = some (.int .i64 b) := E5.out.at_ 1 (by decide)
        have f1 : W5.cell? ⟨Y, 1, none⟩ = some (.int .i64 a) := G5.out.at_ 1 (by decide)
        have c2 : W5.cell? ⟨Z, 2, none⟩ = some (.int .i64 c) := E5.out.at_ 2 (by decide)
        have f2 : W5.cell? ⟨Y, 2, none⟩ = some (.int .i64 b) := G5.out.at_ 2 (by decide)
        have c3 : W5.cell? ⟨Z, 3, none⟩ = some (.int .i64 d) := E5.out.at_ 3 (by decide)
        have f3 : W5.cell? ⟨Y, 3, none⟩ = some (.int .i64 c) := G5.out.at_ 3 (by decide)
        go_wp2_with fail
        refine wp_loop_rounds 5 ?_
        rw [rounds_succ]
        go_wp2_with fail
        go_quiet (fail)
        go_wp2_with fail
        rw [rounds_succ]
        go_wp2_with fail
        go_quiet (fail)
        go_wp2_with fail
        rw [rounds_succ]
        go_wp2_with fail
        go_quiet (fail)
        go_wp2_with fail
        rw [rounds_succ]
        go_wp2_with fail
        go_ret
        exact ⟨rfl, by repeat (first | (with_reducible first | exact E5.out.bel | apply pw_below_drewN | apply below_drew) | exact E5.out.bel)⟩
      obtain ⟨na1, na2⟩ := NE.out a (by omega)
      obtain ⟨nb1, nb2⟩ := NE.out b (by omega)
      obtain ⟨nc1, nc2⟩ := NE.out c (by omega)
      obtain ⟨nd1, nd2⟩ := NE.out d (by omega)
      have hf : front a b c d x = (x, a, b, c) := by unfold front; rw [if_neg (by omega), if_neg (by omega), if_neg (by omega)]
      rw [hf]
      clear hf
      unfold rowVal
      clear t1 t2 t3 t4 t5 t6 hx
      go_upto_region 14 with fail
      have E5 := Aside0.mk (E4.out.alloc (.cells #[.int .i64 x, .int .i64 a, .int .i64 b, .int .i64 c] 29))
      have G5 := Aside0.mk (show EnvR w (w4.alloc (.cells #[.int .i64 x, .int .i64 a, .int .i64 b, .int .i64 c] 29)) w4.heap.size x a b c from ⟨blk_new _ _, (E4.out.alloc _).bel⟩)
      obtain ⟨Y, hY⟩ : ∃ Y, Y = w4.heap.size := ⟨_, rfl⟩
      rw [← hY] at G5 ⊢
      clear hY E4
      change Code.wp _ _ _ _ (w4.alloc (.cells #[.int .i64 x, .int .i64 a, .int .i64 b, .int .i64 c] 29))
      generalize w4.alloc (.cells #[.int .i64 x, .int .i64 a, .int .i64 b, .int .i64 c] 29) = W5 at *
      have c0 : W5.cell? ⟨Z, 0, none⟩ = some (.int .i64 a) := E5.out.at_ 0 (by decide)
      have f0 : W5.cell? ⟨Y, 0, none⟩ = some (.int .i64 x) := G5.out.at_ 0 (by decide)
      have c1 : W5.cell? ⟨Z, 1, none⟩ = some (.int .i64 b) := E5.out.at_ 1 (by decide)
      have f1 : W5.cell? ⟨Y, 1, none⟩ = some (.int .i64 a) := G5.out.at_ 1 (by decide)
      have c2 : W5.cell? ⟨Z, 2, none⟩ = some (.int .i64 c) := E5.out.at_ 2 (by decide)
      have f2 : W5.cell? ⟨Y, 2, none⟩ = some (.int .i64 b) := G5.out.at_ 2 (by decide)
      have c3 : W5.cell? ⟨Z, 3, none⟩ = some (.int .i64 d) := E5.out.at_ 3 (by decide)
      have f3 : W5.cell? ⟨Y, 3, none⟩ = some (.int .i64 c) := G5.out.at_ 3 (by decide)
      go_wp2_with fail
      refine wp_loop_rounds 5 ?_
      rw [rounds_succ]
      go_wp2_with fail
      go_quiet (fail)
      go_wp2_with fail
      rw [rounds_succ]
      go_wp2_with fail
      go_quiet (fail)
      go_wp2_with fail
      rw [rounds_succ]
      go_wp2_with fail
      go_quiet (fail)
      go_wp2_with fail
      rw [rounds_succ]
      go_wp2_with fail
      go_ret
      exact ⟨rfl, by repeat (first | (with_reducible first | exact E5.out.bel | apply pw_below_drewN | apply below_drew) | exact E5.out.bel)⟩
end Go.Proofs.Ytcdmnddmaeileaa.PToken
