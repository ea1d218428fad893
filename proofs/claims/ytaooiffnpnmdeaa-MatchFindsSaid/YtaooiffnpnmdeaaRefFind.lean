/- hamperref15.Find: the walk. -/
import Derived.Test.YtaooiffnpnmdeaaMtI
import Derived.Test.YtaooiffnpnmdeaaRefFront
import Derived.Test.YtaooiffnpnmdeaaRefLong
namespace Go.Proofs.Ytaooiffnpnmdeaa.Mt
open Go.RowKit Go.Proofs.YtaooiffnpnmdeaaW.PrintWords Go.Proofs.YtaooiffnpnmdeaaW.PrintLast Go.Proofs.YtaooiffnpnmdeaaW.PrintMore Go.Proofs.Ytaooiffnpnmdeaa.PIx
open Go.Maps Go.MapKept Go.ChangeShapes
set_option linter.unusedVariables false
set_option linter.unusedSimpArgs false
/-- What the document's Find holds at each round's head: its row, the tokens told so far. -/
structure FJ (w W : World) (B : Nat) (r : Int × Int × Int × Int) (v : Value) (l : List Tok) : Prop where
  row : W.heap[B]? = some (.cells #[.int .i64 r.1, .int .i64 r.2.1, .int .i64 r.2.2.1, .int .i64 r.2.2.2] 42 (0, 0))
  own : W.ownsRow B 27 5 v l.length (toks5 l)
  bel : Keep (fun k => k < B) w W
theorem FJ.ne {w W : World} {B : Nat} {r : Int × Int × Int × Int} {v : Value} {l : List Tok} (h : FJ w W B r v l) : v.ownBlock ≠ some B := fun e => by
  obtain ⟨c, hc⟩ := own_typed h.own B e
  rw [h.row] at hc
  cases hc
theorem FJ.grow {w W W' : World} {B : Nat} {r : Int × Int × Int × Int} {v : Value} {l : List Tok} (h : FJ w W B r v l) {o : Option Nat} (hg : W.grownBy W' o) (h1 : ∀ q, o = some q → B < q) (h2 : o = none ∨ v.ownBlock ≠ o) : FJ w W' B r v l := by
  have hB := blk_lt h.row
  exact ⟨(hg.block B hB (fun e => by have := h1 B e.symm; omega)).trans h.row, h.own.kept hg (by
    rcases h2 with e | e
    · cases ho : v.ownBlock with
      | none => exact .inl rfl
      | some q => exact .inr (by rw [e]; simp)
    · exact .inr e), h.bel.trans (Keep.grown hg fun k hk => ⟨by omega, fun e => by have := h1 k e.symm; omega⟩)⟩
theorem FJ.app {w W W' : World} {B : Nat} {r : Int × Int × Int × Int} {v v' : Value} {l : List Tok} {t : Tok} (h : FJ w W B r v l) (hown : W'.ownsRow B 27 5 v' (l.length + 1) (toks5 l ++ t.cells)) (hgr : W.grownBy W' v.ownBlock) : FJ w W' B r v' (l ++ [t]) := by
  have hB := blk_lt h.row
  exact ⟨(hgr.block B hB (fun e => h.ne e.symm)).trans h.row, by rw [toks5_snoc, List.length_append]; exact hown, h.bel.trans (Keep.grown hgr fun k hk => ⟨by omega, fun e => by have := (h.own.lt k e.symm).1; omega⟩)⟩
theorem FJ.front {w W W' : World} {B : Nat} {r r' : Int × Int × Int × Int} {v : Value} {l : List Tok} (h : FJ w W B r v l) (hg : W.grownBy W' (some B)) (hr : W'.heap[B]? = some (.cells #[.int .i64 r'.1, .int .i64 r'.2.1, .int .i64 r'.2.2.1, .int .i64 r'.2.2.2] 42 (0, 0))) : FJ w W' B r' v l := by
  have hB := blk_lt h.row
  exact ⟨hr, h.own.kept hg (.inr h.ne), h.bel.trans (Keep.grown hg fun k hk => ⟨by omega, fun e => by cases e; omega⟩)⟩
theorem FJ.made (w : World) : FJ w (w.alloc (.cells #[.int .i64 0, .int .i64 0, .int .i64 0, .int .i64 0] 42)) w.heap.size (0, 0, 0, 0) (.slice none 0 0) [] :=
  ⟨blk_new w _, World.ownsRow_nil _ _ _ _, Keep.below (below_alloc (Below.refl _ _) _) (fun k hk => hk)⟩
/-- The token, once the places from i on have been looked at. -/
def tokI (n d : Nat) (a b c e : Int) : Nat → Tok
  | 0 => if a = (d : Int) then ⟨3, 0, (n : Int), 0, 0⟩ else if b = (d : Int) then ⟨3, 0, (n : Int), 0, 1⟩ else if c = (d : Int) then ⟨3, 0, (n : Int), 0, 2⟩ else if e = (d : Int) then ⟨3, 0, (n : Int), 0, 3⟩ else ⟨2, 0, (n : Int), (d : Int), 0⟩
  | 1 => if b = (d : Int) then ⟨3, 0, (n : Int), 0, 1⟩ else if c = (d : Int) then ⟨3, 0, (n : Int), 0, 2⟩ else if e = (d : Int) then ⟨3, 0, (n : Int), 0, 3⟩ else ⟨2, 0, (n : Int), (d : Int), 0⟩
  | 2 => if c = (d : Int) then ⟨3, 0, (n : Int), 0, 2⟩ else if e = (d : Int) then ⟨3, 0, (n : Int), 0, 3⟩ else ⟨2, 0, (n : Int), (d : Int), 0⟩
  | 3 => if e = (d : Int) then ⟨3, 0, (n : Int), 0, 3⟩ else ⟨2, 0, (n : Int), (d : Int), 0⟩
  | _ + 4 => ⟨2, 0, (n : Int), (d : Int), 0⟩
theorem tokI_0 (n d : Nat) (a b c e : Int) : tokI n d a b c e 0 = matT n d (a, b, c, e) := by
  unfold tokI matT PIx.rowAt
  by_cases h0 : (d : Int) = a
  · rw [if_pos h0.symm]
    simp only [if_pos h0]
    rfl
  · rw [if_neg (fun e => h0 e.symm)]
    by_cases h1 : (d : Int) = b
    · rw [if_pos h1.symm]
      simp only [if_neg h0, if_pos h1]
      rfl
    · rw [if_neg (fun e => h1 e.symm)]
      by_cases h2 : (d : Int) = c
      · rw [if_pos h2.symm]
        simp only [if_neg h0, if_neg h1, if_pos h2]
        rfl
      · rw [if_neg (fun e => h2 e.symm)]
        by_cases h3 : (d : Int) = e
        · rw [if_pos h3.symm]
          simp only [if_neg h0, if_neg h1, if_neg h2, if_pos h3]
          rfl
        · rw [if_neg (fun e => h3 e.symm)]
          simp only [if_neg h0, if_neg h1, if_neg h2, if_neg h3]
          rfl
theorem own_ne2 {W : World} {B q : Nat} {v : Value} {n : Nat} {cs : List Value} (h : W.ownsRow B 27 5 v n cs) (hq : W.heap.size ≤ q) : v.ownBlock ≠ some q := fun e => by have := (h.lt q e).2; omega
theorem RefLongest_walk (s : ByteArray) (x : Int) (w : World) (hs : s.size ≤ 80000) :
    Calls Try.prog 17 #[.string s, .int .i64 x] w fun e w' => e = .returned (.tuple #[.int .i64 ((longZ s x).1 : Int), .int .i64 ((longZ s x).2 : Int)]) ∧ Below w.heap.size w w' := by
  have h : hamperref15_Longest.f 9000000 s x = some (((longZ s x).1 : Int), ((longZ s x).2 : Int)) := by
    unfold longZ
    by_cases hx : 0 ≤ x
    · obtain ⟨p, rfl⟩ := Int.eq_ofNat_of_zero_le hx
      rw [if_pos hx, Int.toNat_natCast]
      exact Mx.ref_long s p 9000000 hs (Nat.le_refl _)
    · rw [if_neg hx]
      exact Mx.ref_neg s x 9000000 hx (by decide)
  refine (hamperref15_Longest.calls 9000000 s x _ _ w h).mono ?_
  rintro e w' ⟨rfl, n, rfl⟩
  exact ⟨rfl, pw_below_drewN (Below.refl _ _) n⟩
--WALK
def idx : Nat → Int
  | 0 => -1
  | 1 => 0
  | 2 => 1
  | 3 => 2
  | _ => 3
set_option maxHeartbeats 8000000 in
set_option maxRecDepth 100000 in
theorem RefFind_walk (s : ByteArray) (w : World) (hs : s.size ≤ 80000) :
    Calls Try.prog 19 #[.string s] w fun e w' => ∃ v, e = .returned v ∧ w'.ownsRow w.heap.size 27 5 v (findS s).length (toks5 (findS s)) ∧ Below w.heap.size w w' := by
  obtain ⟨i0, hi, hz0, hz1, hz2⟩ := info_parts info27
  have F0 := Aside0.mk (FJ.made w)
  have hfs := Aside0.mk (show findS s = [] ++ findL s s.size 0 (0, 0, 0, 0) from rfl)
  generalize findS s = R at hfs ⊢
  go_enter Try.func19, Try.ntmps19
  go_wp2_with fail
  obtain ⟨B, hB⟩ : ∃ B, w.heap.size = B := ⟨_, rfl⟩
  have BW := Aside0.mk (show B ≤ w.heap.size by omega)
  rw [hB] at F0 ⊢
  generalize w.alloc (.cells #[.int .i64 0, .int .i64 0, .int .i64 0, .int .i64 0] 42) = W0 at F0 ⊢
  go_loopg [3, 5] s.size (fun kq v3 v5 X => ∃ (p : Nat) (a b c d : Int) (l : List Tok), v5 = .int .i64 (p : Int) ∧ p ≤ s.size ∧ s.size ≤ kq + p ∧ l.length ≤ p ∧ Aside0 (FJ w X B (a, b, c, d) v3 l) ∧ Aside0 (R = l ++ findL s kq p (a, b, c, d)))
  case atStart => exact ⟨0, 0, 0, 0, 0, [], rfl, Nat.zero_le _, by omega, Nat.le_refl _, F0, hfs⟩
  case round =>
    obtain ⟨p, a, b, c, d, l, rfl, hp, hk, hl, HF, HR⟩ := hrel
    clear F0 hfs
    by_cases hlt : p < s.size
    · have d1 : decide (p < s.size) = true := decide_eq_true hlt
      obtain ⟨k1, rfl⟩ : ∃ k1, gk = k1 + 1 := ⟨gk - 1, by omega⟩
      go_wp2_with fail
      refine (hamperref15_Longest.calls 9000000 s (p : Int) _ _ _ (Mx.ref_long s p 9000000 hs (Nat.le_refl _))).mono ?_
      rintro e W1 ⟨rfl, nd1, rfl⟩
      have F1 := Aside0.mk (HF.out.grow (grown_drewN _ nd1) (fun q e => by cases e) (.inl rfl))
      clear HF
      go_wp2_with fail
      have hcall := fun X => hamperref15_Longest.calls 9000000 s ((p + 1 : Nat) : Int) _ _ X (Mx.ref_long s (p + 1) 9000000 hs (Nat.le_refl _))
      rw [show ((p + 1 : Nat) : Int) = (p : Int) + 1 by omega] at hcall
      refine (hcall _).mono ?_
      clear hcall
      rintro e W2 ⟨rfl, nd2, rfl⟩
      have F2 := Aside0.mk (F1.out.grow (grown_drewN _ nd2) (fun q e => by cases e) (.inl rfl))
      clear F1
      obtain ⟨W2, hW2⟩ : ∃ z, (wr.drewN nd1).drewN nd2 = z := ⟨_, rfl⟩
      rw [hW2] at F2 ⊢
      obtain ⟨g1, g2, g3⟩ := long_facts s p
      obtain ⟨g4, _, _⟩ := long_facts s (p + 1)
      have HR2 := Aside0.mk (show R = l ++ (if (longS s p).1 = 0 ∨ (longS s p).1 < (longS s (p + 1)).1 then litT s p :: findL s k1 (p + 1) (a, b, c, d) else matT (longS s p).1 (longS s p).2 (a, b, c, d) :: findL s k1 (p + (longS s p).1) (front a b c d ((longS s p).2 : Int))) by
        have := HR.out
        rw [findL, if_pos hlt] at this
        exact this)
      clear HR
      generalize longS s p = r1 at g1 g2 g3 HR2 ⊢
      generalize longS s (p + 1) = r2 at g4 HR2 ⊢
      obtain ⟨n, dd⟩ := r1
      obtain ⟨m, d2⟩ := r2
      dsimp only at g1 g2 g3 g4 HR2 ⊢
      by_cases hc : n = 0 ∨ n < m
      · have HR3 := Aside0.mk (show R = l ++ litT s p :: findL s k1 (p + 1) (a, b, c, d) by have := HR2.out; rw [if_pos hc] at this; exact this)
        have hlitT : litT s p = ⟨1, ((s[p]).toNat : Int), 0, 0, 0⟩ := by
          unfold litT
          congr 2
          rw [Array.getD_eq_getD_getElem?, Array.getElem?_eq_getElem (show p < s.data.size from hlt)]
          rfl
        rw [hlitT] at HR3
        clear HR2 hlitT
        have LEN := Aside0.mk (show l.length + 1 ≤ maxLen ∧ (l.length + 1) * 32 ≤ 140737488355328 from by unfold maxLen; omega)
        have i1 : (0 : Int) ≤ (p : Int) := by omega
        have i2 : (p : Int) < (s.size : Int) := by omega
        by_cases hn0 : n = 0
        · have e1 : ((n : Int) == 0) = true := beq_iff_eq.mpr (by omega)
          clear hc
          go_wp2_with (at_builtin; refine wpList_append_own_at _ rfl _ _ 23 rfl B 27 i0 _ 5 32 Try.underlying23 hi hz0 hz1 hz2 rfl (by decide) u3 l.length _ rfl (F2.out.own.alloc _) ⟨W2.heap.size, 0, none⟩ 1 1 (Tok.cells ⟨1, ((s[p]).toNat : Int), 0, 0, 0⟩) rfl rfl (news_at W2 _) (one_tok _) LEN.out.1 LEN.out.2 (SZX F2.out.bel.size BW.out) ?_; intro v' w8 hown hgrow hnil hat; have F6 := Aside0.mk (F2.out.app (t := ⟨1, ((s[p]).toNat : Int), 0, 0, 0⟩) hown ((World.grownBy_alloc W2 _ _).trans hgrow)); clear hown hgrow hnil hat)
          go_roundg k1
          case measure => omega
          case rel => exact ⟨p + 1, a, b, c, d, l ++ [⟨1, ((s[p]).toNat : Int), 0, 0, 0⟩], by go_num, by omega, by omega, by rw [List.length_append]; simp; omega, F6, ⟨by rw [List.append_assoc]; exact HR3.out⟩⟩
        · have e1 : ((n : Int) == 0) = false := beq_eq_false_iff_ne.mpr (by omega)
          have e2 : decide (n < m) = true := decide_eq_true (hc.resolve_left hn0)
          clear hc
          go_wp2_with (at_builtin; refine wpList_append_own_at _ rfl _ _ 23 rfl B 27 i0 _ 5 32 Try.underlying23 hi hz0 hz1 hz2 rfl (by decide) u3 l.length _ rfl (F2.out.own.alloc _) ⟨W2.heap.size, 0, none⟩ 1 1 (Tok.cells ⟨1, ((s[p]).toNat : Int), 0, 0, 0⟩) rfl rfl (news_at W2 _) (one_tok _) LEN.out.1 LEN.out.2 (SZX F2.out.bel.size BW.out) ?_; intro v' w8 hown hgrow hnil hat; have F6 := Aside0.mk (F2.out.app (t := ⟨1, ((s[p]).toNat : Int), 0, 0, 0⟩) hown ((World.grownBy_alloc W2 _ _).trans hgrow)); clear hown hgrow hnil hat)
          go_roundg k1
          case measure => omega
          case rel => exact ⟨p + 1, a, b, c, d, l ++ [⟨1, ((s[p]).toNat : Int), 0, 0, 0⟩], by go_num, by omega, by omega, by rw [List.length_append]; simp; omega, F6, ⟨by rw [List.append_assoc]; exact HR3.out⟩⟩
      · have hn0 : n ≠ 0 := fun e => hc (.inl e)
        have e1 : ((n : Int) == 0) = false := beq_eq_false_iff_ne.mpr (by omega)
        have e2 : decide (n < m) = false := decide_eq_false fun e => hc (.inr e)
        go_wp2_with fail
        have F3 := Aside0.mk (F2.out.grow (World.grownBy_alloc W2 (.cells #[.int .u8 2, .int .u8 0, .int .i64 (n : Int), .int .i64 (dd : Int), .int .i64 0] 27) none) (fun q e => by cases e) (.inl rfl))
        have T3 := Aside0.mk (blk_new W2 (.cells #[.int .u8 2, .int .u8 0, .int .i64 (n : Int), .int .i64 (dd : Int), .int .i64 0] 27))
        have LEN := Aside0.mk (show l.length + 1 ≤ maxLen ∧ (l.length + 1) * 32 ≤ 140737488355328 from by unfold maxLen; omega)
        have NE := Aside0.mk (own_ne2 F2.out.own (Nat.le_refl _))
        have NB := Aside0.mk (blk_lt F2.out.row)
        obtain ⟨b10, hb10⟩ : ∃ q, W2.heap.size = q := ⟨_, rfl⟩
        rw [hb10] at T3 NE NB ⊢
        generalize W2.alloc (.cells #[.int .u8 2, .int .u8 0, .int .i64 (n : Int), .int .i64 (dd : Int), .int .i64 0] 27) = W3 at F3 T3 ⊢
        clear F2 hb10
        have HR3 := Aside0.mk (show R = l ++ matT n dd (a, b, c, d) :: findL s k1 (p + n) (front a b c d (dd : Int)) by have := HR2.out; rw [if_neg hc] at this; exact this)
        clear HR2
        have T4 := Aside0.mk (show W3.heap[b10]? = some (.cells (tokI n dd a b c d 4).cells.toArray 27 (0, 0)) from T3.out)
        clear T3
        go_loopg [11] 4 (fun iq v11 X => v11 = .int .i64 (idx iq) ∧ iq ≤ 4 ∧ Aside0 (FJ w X B (a, b, c, d) u3 l) ∧ Aside0 (X.heap[b10]? = some (.cells (tokI n dd a b c d iq).cells.toArray 27 (0, 0))))
        case atStart => exact ⟨rfl, Nat.le_refl _, F3, T4⟩
        case round =>
          obtain ⟨hv, hi4, HF, HT⟩ := hrel
          clear F3 T4
          rcases (show gk = 0 ∨ gk = 1 ∨ gk = 2 ∨ gk = 3 ∨ gk = 4 by omega) with rfl | rfl | rfl | rfl | rfl
          · rw [show idx 0 = -1 from rfl] at hv
            subst hv
            have T5 := Aside0.mk (show wr.heap[b10]? = some (.cells (matT n dd (a, b, c, d)).cells.toArray 27 (0, 0)) from by have := HT.out; rw [tokI_0] at this; exact this)
            clear HT
            generalize matT n dd (a, b, c, d) = tk at HR3 T5
            obtain ⟨x0, x1, x2, x3, x4⟩ := tk
            have t0 := (blk_cell T5.out 0).trans (rfl : _ = some (Value.int .u8 x0))
            have t1 := (blk_cell T5.out 1).trans (rfl : _ = some (Value.int .u8 x1))
            have t2 := (blk_cell T5.out 2).trans (rfl : _ = some (Value.int .i64 x2))
            have t3 := (blk_cell T5.out 3).trans (rfl : _ = some (Value.int .i64 x3))
            have t4 := (blk_cell T5.out 4).trans (rfl : _ = some (Value.int .i64 x4))
            go_wp2_with (at_builtin; refine wpList_append_own_at _ rfl _ _ 23 rfl B 27 i0 _ 5 32 Try.underlying23 hi hz0 hz1 hz2 rfl (by decide) u3 l.length _ rfl (HF.out.own.alloc _) ⟨wr.heap.size, 0, none⟩ 1 1 (Tok.cells ⟨x0, x1, x2, x3, x4⟩) rfl rfl (news_at wr _) (one_tok _) LEN.out.1 LEN.out.2 (SZX HF.out.bel.size BW.out) ?_; intro v' w8 hown hgrow hnil hat; have F6 := Aside0.mk (HF.out.app (t := ⟨x0, x1, x2, x3, x4⟩) hown ((World.grownBy_alloc wr _ _).trans hgrow)); clear hown hgrow hnil hat; have q0 := (blk_cell F6.out.row 0).trans (rfl : _ = some (Value.int .i64 a)); have q1 := (blk_cell F6.out.row 1).trans (rfl : _ = some (Value.int .i64 b)); have q2 := (blk_cell F6.out.row 2).trans (rfl : _ = some (Value.int .i64 c)); have q3 := (blk_cell F6.out.row 3).trans (rfl : _ = some (Value.int .i64 d)))
            refine (refFront_calls a b c d (dd : Int) _).mono ?_
            obtain ⟨⟨a', b', c', d'⟩, hfr⟩ : ∃ z, front a b c d (dd : Int) = z := ⟨_, rfl⟩
            rw [hfr] at HR3 ⊢
            dsimp only
            rintro e w9 ⟨rfl, hb9⟩
            have F7 := Aside0.mk (F6.out.grow (grown_belowM hb9) (fun q e => by cases e) (.inl rfl))
            clear hb9 F6 q0 q1 q2 q3 t0 t1 t2 t3 t4 HF T5
            unfold rowVal
            have q0 := (blk_cell F7.out.row 0).trans (rfl : _ = some (Value.int .i64 a))
            have q1 := (blk_cell F7.out.row 1).trans (rfl : _ = some (Value.int .i64 b))
            have q2 := (blk_cell F7.out.row 2).trans (rfl : _ = some (Value.int .i64 c))
            have q3 := (blk_cell F7.out.row 3).trans (rfl : _ = some (Value.int .i64 d))
            have y0 := blk_frozen F7.out.row 0
            have y1 := blk_frozen F7.out.row 1
            have y2 := blk_frozen F7.out.row 2
            have y3 := blk_frozen F7.out.row 3
            have F8 := Aside0.mk (F7.out.front (r' := (a', b', c', d')) ((((grownBy_setCell2 w9 B 0 (.int .i64 a')).trans (grownBy_setCell2 _ B 1 (.int .i64 b'))).trans (grownBy_setCell2 _ B 2 (.int .i64 c'))).trans (grownBy_setCell2 _ B 3 (.int .i64 d'))) ((blk_put (blk_put (blk_put (blk_put F7.out.row 0 (.int .i64 a')) 1 (.int .i64 b')) 2 (.int .i64 c')) 3 (.int .i64 d')).trans rfl))
            clear F7
            go_wp2_with fail
            go_roundg k1
            case measure => omega
            case rel => exact ⟨p + n, a', b', c', d', l ++ [⟨x0, x1, x2, x3, x4⟩], by go_num, by omega, by omega, by rw [List.length_append]; simp; omega, F8, ⟨by rw [List.append_assoc]; exact HR3.out⟩⟩
          · rw [show idx 1 = 0 from rfl] at hv
            subst hv
            have q0 := (blk_cell HF.out.row 0).trans (rfl : _ = some (Value.int .i64 a))
            by_cases h : a = (dd : Int)
            · have e3 : (a == (dd : Int)) = true := beq_iff_eq.mpr h
              have ht : tokI n dd a b c d 0 = ⟨3, 0, (n : Int), 0, 0⟩ := if_pos h
              have t0 := (blk_cell HT.out 0).trans (rfl : _ = some (Value.int .u8 (tokI n dd a b c d 1).kind))
              have t1 := (blk_cell HT.out 1).trans (rfl : _ = some (Value.int .u8 (tokI n dd a b c d 1).byte))
              have t2 := (blk_cell HT.out 2).trans (rfl : _ = some (Value.int .i64 (tokI n dd a b c d 1).len))
              have t3 := (blk_cell HT.out 3).trans (rfl : _ = some (Value.int .i64 (tokI n dd a b c d 1).dist))
              have t4 := (blk_cell HT.out 4).trans (rfl : _ = some (Value.int .i64 (tokI n dd a b c d 1).slot))
              have z0 := blk_frozen HT.out 0
              have z1 := blk_frozen HT.out 1
              have z2 := blk_frozen HT.out 2
              have z3 := blk_frozen HT.out 3
              have z4 := blk_frozen HT.out 4
              have hg5 := ((((grownBy_setCell2 wr b10 0 (.int .u8 3)).trans (grownBy_setCell2 _ b10 1 (.int .u8 0))).trans (grownBy_setCell2 _ b10 2 (.int .i64 (n : Int)))).trans (grownBy_setCell2 _ b10 3 (.int .i64 0))).trans (grownBy_setCell2 _ b10 4 (.int .i64 0))
              have F5 := Aside0.mk (HF.out.grow hg5 (fun q e => by cases e; exact NB.out) (.inr NE.out))
              have T5 := Aside0.mk ((blk_put (blk_put (blk_put (blk_put (blk_put HT.out 0 (.int .u8 3)) 1 (.int .u8 0)) 2 (.int .i64 (n : Int))) 3 (.int .i64 0)) 4 (.int .i64 0)).trans (show _ = some (Obj.cells (tokI n dd a b c d 0).cells.toArray 27 (0, 0)) by rw [ht]; rfl))
              clear hg5 HF HT
              go_wp2_with fail
              go_roundg 0
              case measure => omega
              case rel => exact ⟨by first | rfl | go_num, by omega, F5, T5⟩
            · have e3 : (a == (dd : Int)) = false := beq_eq_false_iff_ne.mpr h
              have ht : tokI n dd a b c d 0 = tokI n dd a b c d 1 := if_neg h
              rw [← ht] at HT
              go_wp2_with fail
              go_roundg 0
              case measure => omega
              case rel => exact ⟨by first | rfl | go_num, by omega, HF, HT⟩
          · rw [show idx 2 = 1 from rfl] at hv
            subst hv
            have q1 := (blk_cell HF.out.row 1).trans (rfl : _ = some (Value.int .i64 b))
            by_cases h : b = (dd : Int)
            · have e3 : (b == (dd : Int)) = true := beq_iff_eq.mpr h
              have ht : tokI n dd a b c d 1 = ⟨3, 0, (n : Int), 0, 1⟩ := if_pos h
              have t0 := (blk_cell HT.out 0).trans (rfl : _ = some (Value.int .u8 (tokI n dd a b c d 2).kind))
              have t1 := (blk_cell HT.out 1).trans (rfl : _ = some (Value.int .u8 (tokI n dd a b c d 2).byte))
              have t2 := (blk_cell HT.out 2).trans (rfl : _ = some (Value.int .i64 (tokI n dd a b c d 2).len))
              have t3 := (blk_cell HT.out 3).trans (rfl : _ = some (Value.int .i64 (tokI n dd a b c d 2).dist))
              have t4 := (blk_cell HT.out 4).trans (rfl : _ = some (Value.int .i64 (tokI n dd a b c d 2).slot))
              have z0 := blk_frozen HT.out 0
              have z1 := blk_frozen HT.out 1
              have z2 := blk_frozen HT.out 2
              have z3 := blk_frozen HT.out 3
              have z4 := blk_frozen HT.out 4
              have hg5 := ((((grownBy_setCell2 wr b10 0 (.int .u8 3)).trans (grownBy_setCell2 _ b10 1 (.int .u8 0))).trans (grownBy_setCell2 _ b10 2 (.int .i64 (n : Int)))).trans (grownBy_setCell2 _ b10 3 (.int .i64 0))).trans (grownBy_setCell2 _ b10 4 (.int .i64 1))
              have F5 := Aside0.mk (HF.out.grow hg5 (fun q e => by cases e; exact NB.out) (.inr NE.out))
              have T5 := Aside0.mk ((blk_put (blk_put (blk_put (blk_put (blk_put HT.out 0 (.int .u8 3)) 1 (.int .u8 0)) 2 (.int .i64 (n : Int))) 3 (.int .i64 0)) 4 (.int .i64 1)).trans (show _ = some (Obj.cells (tokI n dd a b c d 1).cells.toArray 27 (0, 0)) by rw [ht]; rfl))
              clear hg5 HF HT
              go_wp2_with fail
              go_roundg 1
              case measure => omega
              case rel => exact ⟨by first | rfl | go_num, by omega, F5, T5⟩
            · have e3 : (b == (dd : Int)) = false := beq_eq_false_iff_ne.mpr h
              have ht : tokI n dd a b c d 1 = tokI n dd a b c d 2 := if_neg h
              rw [← ht] at HT
              go_wp2_with fail
              go_roundg 1
              case measure => omega
              case rel => exact ⟨by first | rfl | go_num, by omega, HF, HT⟩
          · rw [show idx 3 = 2 from rfl] at hv
            subst hv
            have q2 := (blk_cell HF.out.row 2).trans (rfl : _ = some (Value.int .i64 c))
            by_cases h : c = (dd : Int)
            · have e3 : (c == (dd : Int)) = true := beq_iff_eq.mpr h
              have ht : tokI n dd a b c d 2 = ⟨3, 0, (n : Int), 0, 2⟩ := if_pos h
              have t0 := (blk_cell HT.out 0).trans (rfl : _ = some (Value.int .u8 (tokI n dd a b c d 3).kind))
              have t1 := (blk_cell HT.out 1).trans (rfl : _ = some (Value.int .u8 (tokI n dd a b c d 3).byte))
              have t2 := (blk_cell HT.out 2).trans (rfl : _ = some (Value.int .i64 (tokI n dd a b c d 3).len))
              have t3 := (blk_cell HT.out 3).trans (rfl : _ = some (Value.int .i64 (tokI n dd a b c d 3).dist))
              have t4 := (blk_cell HT.out 4).trans (rfl : _ = some (Value.int .i64 (tokI n dd a b c d 3).slot))
              have z0 := blk_frozen HT.out 0
              have z1 := blk_frozen HT.out 1
              have z2 := blk_frozen HT.out 2
              have z3 := blk_frozen HT.out 3
              have z4 := blk_frozen HT.out 4
              have hg5 := ((((grownBy_setCell2 wr b10 0 (.int .u8 3)).trans (grownBy_setCell2 _ b10 1 (.int .u8 0))).trans (grownBy_setCell2 _ b10 2 (.int .i64 (n : Int)))).trans (grownBy_setCell2 _ b10 3 (.int .i64 0))).trans (grownBy_setCell2 _ b10 4 (.int .i64 2))
              have F5 := Aside0.mk (HF.out.grow hg5 (fun q e => by cases e; exact NB.out) (.inr NE.out))
              have T5 := Aside0.mk ((blk_put (blk_put (blk_put (blk_put (blk_put HT.out 0 (.int .u8 3)) 1 (.int .u8 0)) 2 (.int .i64 (n : Int))) 3 (.int .i64 0)) 4 (.int .i64 2)).trans (show _ = some (Obj.cells (tokI n dd a b c d 2).cells.toArray 27 (0, 0)) by rw [ht]; rfl))
              clear hg5 HF HT
              go_wp2_with fail
              go_roundg 2
              case measure => omega
              case rel => exact ⟨by first | rfl | go_num, by omega, F5, T5⟩
            · have e3 : (c == (dd : Int)) = false := beq_eq_false_iff_ne.mpr h
              have ht : tokI n dd a b c d 2 = tokI n dd a b c d 3 := if_neg h
              rw [← ht] at HT
              go_wp2_with fail
              go_roundg 2
              case measure => omega
              case rel => exact ⟨by first | rfl | go_num, by omega, HF, HT⟩
          · rw [show idx 4 = 3 from rfl] at hv
            subst hv
            have q3 := (blk_cell HF.out.row 3).trans (rfl : _ = some (Value.int .i64 d))
            by_cases h : d = (dd : Int)
            · have e3 : (d == (dd : Int)) = true := beq_iff_eq.mpr h
              have ht : tokI n dd a b c d 3 = ⟨3, 0, (n : Int), 0, 3⟩ := if_pos h
              have t0 := (blk_cell HT.out 0).trans (rfl : _ = some (Value.int .u8 (tokI n dd a b c d 4).kind))
              have t1 := (blk_cell HT.out 1).trans (rfl : _ = some (Value.int .u8 (tokI n dd a b c d 4).byte))
              have t2 := (blk_cell HT.out 2).trans (rfl : _ = some (Value.int .i64 (tokI n dd a b c d 4).len))
              have t3 := (blk_cell HT.out 3).trans (rfl : _ = some (Value.int .i64 (tokI n dd a b c d 4).dist))
              have t4 := (blk_cell HT.out 4).trans (rfl : _ = some (Value.int .i64 (tokI n dd a b c d 4).slot))
              have z0 := blk_frozen HT.out 0
              have z1 := blk_frozen HT.out 1
              have z2 := blk_frozen HT.out 2
              have z3 := blk_frozen HT.out 3
              have z4 := blk_frozen HT.out 4
              have hg5 := ((((grownBy_setCell2 wr b10 0 (.int .u8 3)).trans (grownBy_setCell2 _ b10 1 (.int .u8 0))).trans (grownBy_setCell2 _ b10 2 (.int .i64 (n : Int)))).trans (grownBy_setCell2 _ b10 3 (.int .i64 0))).trans (grownBy_setCell2 _ b10 4 (.int .i64 3))
              have F5 := Aside0.mk (HF.out.grow hg5 (fun q e => by cases e; exact NB.out) (.inr NE.out))
              have T5 := Aside0.mk ((blk_put (blk_put (blk_put (blk_put (blk_put HT.out 0 (.int .u8 3)) 1 (.int .u8 0)) 2 (.int .i64 (n : Int))) 3 (.int .i64 0)) 4 (.int .i64 3)).trans (show _ = some (Obj.cells (tokI n dd a b c d 3).cells.toArray 27 (0, 0)) by rw [ht]; rfl))
              clear hg5 HF HT
              go_wp2_with fail
              go_roundg 3
              case measure => omega
              case rel => exact ⟨by first | rfl | go_num, by omega, F5, T5⟩
            · have e3 : (d == (dd : Int)) = false := beq_eq_false_iff_ne.mpr h
              have ht : tokI n dd a b c d 3 = tokI n dd a b c d 4 := if_neg h
              rw [← ht] at HT
              go_wp2_with fail
              go_roundg 3
              case measure => omega
              case rel => exact ⟨by first | rfl | go_num, by omega, HF, HT⟩
    · obtain rfl : p = s.size := by omega
      go_wp2_with fail
      go_ret
      have e := HR.out
      rw [findL_end (Nat.le_refl _), List.append_nil] at e
      refine ⟨_, rfl, ?_, by rw [hB]; exact HF.out.bel.toBelow⟩
      rw [hB, e]
      exact HF.out.own
end Go.Proofs.Ytaooiffnpnmdeaa.Mt
