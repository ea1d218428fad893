/- match.Find: the walk. -/
import Derived.Test.YtaooiffnpnmdeaaMtH
import Derived.Deep.Cut
import Derived.Deep.CutRange
import Derived.Deep.CutBlock
namespace Go.Proofs.Ytaooiffnpnmdeaa.Mt
open Go.RowKit Go.Proofs.YtaooiffnpnmdeaaW.PrintWords Go.Proofs.YtaooiffnpnmdeaaW.PrintLast Go.Proofs.YtaooiffnpnmdeaaW.PrintMore Go.Proofs.Ytaooiffnpnmdeaa.PIx
open Go.Maps Go.MapKept Go.ChangeShapes
set_option linter.unusedVariables false
set_option linter.unusedSimpArgs false
theorem info27 : (Try.prog.info? 27).map (fun i => (i.zero, i.size, i.bytes)) = some (some (.agg #[.int .u8 0, .int .u8 0, .int .i64 0, .int .i64 0, .int .i64 0]), 5, 32) := by kernel_rfl
theorem best_fits (s : ByteArray) (p : Nat) : ∀ D, (bestS s p D).1 = 0 ∨ p + (bestS s p D).1 ≤ s.size
  | 0 => .inl rfl
  | D + 1 => by
    rw [bestS]
    by_cases h : 3 ≤ ml s p (D + 1) ∧ (bestS s p D).1 < ml s p (D + 1)
    · rw [if_pos h]
      have := ((ml_ge.1 (Nat.le_refl (ml s p (D + 1)))).2 (ml s p (D + 1) - 1) (by omega)).1
      exact .inr (by show p + ml s p (D + 1) ≤ _; omega)
    · rw [if_neg h]
      exact best_fits s p D
theorem best_far (s : ByteArray) (p : Nat) : ∀ D, (bestS s p D).2 ≤ D
  | 0 => Nat.le_refl _
  | D + 1 => by
    rw [bestS]
    split
    · exact Nat.le_refl _
    · exact Nat.le_succ_of_le (best_far s p D)
theorem long_facts (s : ByteArray) (p : Nat) : (longS s p).1 ≤ 258 ∧ (longS s p).2 ≤ 32768 ∧ ((longS s p).1 = 0 ∨ p + (longS s p).1 ≤ s.size) := by
  unfold longS
  split
  · exact ⟨best_le _ _ _, Nat.le_trans (best_far _ _ _) (Nat.min_le_right _ _), best_fits _ _ _⟩
  · exact ⟨by decide, by decide, .inl rfl⟩
theorem FI.made (w : World) (s : ByteArray) : FI w (((w.alloc (.map #[] 0)).alloc (.cells #[.string s, .map (some w.heap.size), .int .i64 0] 48)).alloc (.cells #[.int .i64 0, .int .i64 0, .int .i64 0, .int .i64 0] 42)) w.heap.size (w.heap.size + 1) w.heap.size (w.heap.size + 1 + 1) s 0 (0, 0, 0, 0) (.slice none 0 0) [] := by
  have f := (FS.made w s).fresh (.cells #[.int .i64 0, .int .i64 0, .int .i64 0, .int .i64 0] 42)
  have hb := blk_new ((w.alloc (.map #[] 0)).alloc (.cells #[.string s, .map (some w.heap.size), .int .i64 0] 48)) (.cells #[.int .i64 0, .int .i64 0, .int .i64 0, .int .i64 0] 42)
  simp only [World.size_alloc] at f hb
  exact ⟨f.weak fun k hk => by rcases hk with hk | hk; exact hk; simp [Value.ownBlock] at hk, hb, World.ownsRow_nil _ _ _ _, Keep.below (below_alloc (below_alloc (below_alloc (Below.refl _ _) _) _) _) (fun k hk => hk), by omega⟩
theorem FI.other {w W W' : World} {B g mb b5 : Nat} {s : ByteArray} {kn : Nat} {r : Int × Int × Int × Int} {v : Value} {l : List Tok} (h : FI w W B g mb b5 s kn r v l) {q : Nat} {cs : Array Value} (hT : W.heap[q]? = some (.cells cs 27 (0, 0))) (hq : ∀ k, ((k < B ∨ k = b5) ∨ v.ownBlock = some k) → k ≠ q) (hg : W.grownBy W' (some q)) : FI w W' B g mb b5 s kn r v l := by
  have ne : ∀ (k : Nat) (o : Obj), W.heap[k]? = some o → (∀ c, o ≠ .cells c 27 (0, 0)) → some k ≠ some q := fun k o hk ho e => by
    cases e
    rw [hT] at hk
    exact ho cs (Option.some.inj hk).symm
  obtain ⟨n, D, _, ⟨es, clock, hb, _⟩, _⟩ := h.fs.grp
  exact h.keep (Keep.grown hg fun k hk => ⟨(h.fs.no k hk).1, fun e => hq k hk (Option.some.inj e)⟩) (h.fs.heap hg.size (hg.block g (blk_lt h.fs.blk) (ne _ _ h.fs.blk (by intro c e; cases e))) (hg.block mb h.fs.mb_lt (ne _ _ hb (by intro c e; cases e))) (fun k c hc _ => hg.block k (Array.getElem?_eq_some_iff.1 hc).1 (ne _ _ hc (by intro c e; cases e))))
theorem blk_put {W : World} {g : Nat} {cs : Array Value} {t : TypeId} {fr : Nat × Nat} (h : W.heap[g]? = some (.cells cs t fr)) (k : Nat) (v : Value) : (W.setCell ⟨g, k, none⟩ v).heap[g]? = some (.cells (cs.setIfInBounds k v) t fr) := by
  obtain ⟨hlt, hk⟩ := Array.getElem?_eq_some_iff.1 h
  show (W.heap.modify g _)[g]? = _
  rw [Array.getElem?_eq_getElem (by rw [Array.size_modify]; exact hlt), Array.getElem_modify_self, hk]
  rfl
theorem grown_belowM {W W' : World} (h : Below W.heap.size W W') : W.grownBy W' none := ⟨h.os, h.tape, h.output, h.size, fun k hk _ => h.block k hk⟩
theorem news_at (W : World) (t : Tok) : ∀ j u, t.cells[j]? = some u → (W.alloc (.cells t.cells.toArray 27)).cell? ((⟨W.heap.size, 0, none⟩ : Addr).add j) = some u := by
  intro j u hj
  rw [add_plain, blk_cell (blk_new W _), ← hj, List.getElem?_toArray]
theorem one_tok (t : Tok) : ∀ u ∈ t.cells, u.oneCell' = true := by
  intro u hu
  simp only [Tok.cells, List.mem_cons, List.not_mem_nil, or_false] at hu
  rcases hu with rfl | rfl | rfl | rfl | rfl <;> rfl
theorem SZX {X Y : World} {o : Obj} {B : Nat} (h : X.heap.size ≤ Y.heap.size) (hB : B ≤ X.heap.size) : B ≤ (Y.alloc o).heap.size := by rw [World.size_alloc]; omega
set_option maxHeartbeats 8000000 in
set_option maxRecDepth 100000 in
theorem Find_walk (s : ByteArray) (w : World) (hs : s.size ≤ 80000) :
    Calls Try.prog 11 #[.string s] w fun e w' => ∃ v, e = .returned v ∧ w'.ownsRow w.heap.size 27 5 v (findS s).length (toks5 (findS s)) ∧ Below w.heap.size w w' := by
  have hmm := @run_makeMap Try.prog
  obtain ⟨i0, hi, hz0, hz1, hz2⟩ := info_parts info27
  have F0 := Aside0.mk (FI.made w s)
  have hfs := Aside0.mk (show findS s = [] ++ findL s s.size 0 (0, 0, 0, 0) from rfl)
  generalize findS s = R at hfs ⊢
  go_enter Try.func11, Try.ntmps11
  go_wp2_with fail
  obtain ⟨B, hB⟩ : ∃ B, w.heap.size = B := ⟨_, rfl⟩
  have BW := Aside0.mk (show B ≤ w.heap.size by omega)
  rw [hB] at F0 ⊢
  generalize ((w.alloc (.map #[] 0)).alloc (.cells #[.string s, .map (some B), .int .i64 0] 48)).alloc (.cells #[.int .i64 0, .int .i64 0, .int .i64 0, .int .i64 0] 42) = W0 at F0 ⊢
  go_loopg [4, 6] s.size (fun kq v4 v6 X => ∃ (p kn : Nat) (a b c d : Int) (l : List Tok), v6 = .int .i64 (p : Int) ∧ p ≤ s.size ∧ s.size ≤ kq + p ∧ kn ≤ 90000 ∧ l.length ≤ p ∧ Aside0 (FI w X B (B + 1) B (B + 1 + 1) s kn (a, b, c, d) v4 l) ∧ Aside0 (R = l ++ findL s kq p (a, b, c, d)))
  case atStart => exact ⟨0, 0, 0, 0, 0, 0, [], rfl, Nat.zero_le _, by omega, by decide, Nat.le_refl _, F0, hfs⟩
  case round =>
    obtain ⟨p, kn, a, b, c, d, l, rfl, hp, hk, hkn, hl, HF, HR⟩ := hrel
    clear F0 hfs
    by_cases hlt : p < s.size
    · have d1 : decide (p < s.size) = true := decide_eq_true hlt
      obtain ⟨k1, rfl⟩ : ∃ k1, gk = k1 + 1 := ⟨gk - 1, by omega⟩
      go_wp2_with fail
      refine (longest_long (B + 1) B p kn s _ _ HF.out.fs (by omega) (by omega) hkn).mono ?_
      rintro e W1 ⟨rfl, kn1, h1, h2, h3⟩
      have F1 := Aside0.mk (HF.out.keep h3 h2)
      have N1 := Aside0.mk h1
      clear h1 h2 h3 HF
      go_wp2_with fail
      have hcall := longest_long (B + 1) B (p + 1) kn1 s _ _ F1.out.fs (by omega) (by omega) N1.out
      rw [show ((p + 1 : Nat) : Int) = (p : Int) + 1 by omega] at hcall
      refine hcall.mono ?_
      clear hcall
      rintro e W2 ⟨rfl, kn2, h1, h2, h3⟩
      have F2 := Aside0.mk (F1.out.keep h3 h2)
      have N2 := Aside0.mk h1
      clear h1 h2 h3 F1 N1
      obtain ⟨g1, g2, g3⟩ := long_facts s p
      obtain ⟨g4, _, _⟩ := long_facts s (p + 1)
      have HR2 := Aside0.mk (show R = l ++ (if (longS s p).1 = 0 ∨ (longS s p).1 < (longS s (p + 1)).1 then litT s p :: findL s k1 (p + 1) (a, b, c, d) else matT (longS s p).1 (longS s p).2 (a, b, c, d) :: findL s k1 (p + (longS s p).1) (front a b c d ((longS s p).2 : Int))) by
        have := HR.out
        rw [findL, if_pos hlt] at this
        exact this)
      clear HR
      generalize longS s p = r1 at g1 g2 g3 HR2 ⊢
      generalize longS s (p + 1) = r2 at g4 HR2 ⊢
      obtain ⟨n, dd⟩ := r1
      obtain ⟨m, d2⟩ := r2
      dsimp only at g1 g2 g3 g4 HR2 ⊢
      by_cases hc : n = 0 ∨ n < m
      · have HR3 := Aside0.mk (show R = l ++ litT s p :: findL s k1 (p + 1) (a, b, c, d) by have := HR2.out; rw [if_pos hc] at this; exact this)
        have hlitT : litT s p = ⟨1, ((s[p]).toNat : Int), 0, 0, 0⟩ := by
          unfold litT
          congr 2
          rw [Array.getD_eq_getD_getElem?, Array.getElem?_eq_getElem (show p < s.data.size from hlt)]
          rfl
        rw [hlitT] at HR3
        clear HR2 hlitT
        have LEN := Aside0.mk (show l.length + 1 ≤ maxLen ∧ (l.length + 1) * 32 ≤ 140737488355328 from by unfold maxLen; omega)
        have i1 : (0 : Int) ≤ (p : Int) := by omega
        have i2 : (p : Int) < (s.size : Int) := by omega
        by_cases hn0 : n = 0
        · have e1 : ((n : Int) == 0) = true := beq_iff_eq.mpr (by omega)
          clear hc
          go_wp2_with (at_builtin; refine wpList_append_own_at _ rfl _ _ 23 rfl B 27 i0 _ 5 32 Try.underlying23 hi hz0 hz1 hz2 rfl (by decide) u4 l.length _ rfl (F2.out.own.alloc _) ⟨W2.heap.size, 0, none⟩ 1 1 (Tok.cells ⟨1, ((s[p]).toNat : Int), 0, 0, 0⟩) rfl rfl (news_at W2 _) (one_tok _) LEN.out.1 LEN.out.2 (SZX F2.out.bel.size BW.out) ?_; intro v' w8 hown hgrow hnil hat; have F6 := Aside0.mk (F2.out.app (t := ⟨1, ((s[p]).toNat : Int), 0, 0, 0⟩) hown ((World.grownBy_alloc W2 _ _).trans hgrow) (hat.imp id fun e => .inr ⟨_, e, by rw [World.size_alloc]; exact Nat.le_succ _⟩)); clear hown hgrow hnil hat)
          go_roundg k1
          case measure => omega
          case rel => exact ⟨p + 1, kn2, a, b, c, d, l ++ [⟨1, ((s[p]).toNat : Int), 0, 0, 0⟩], by go_num, by omega, by omega, N2.out, by rw [List.length_append]; simp; omega, F6, ⟨by rw [List.append_assoc]; exact HR3.out⟩⟩
        · have e1 : ((n : Int) == 0) = false := beq_eq_false_iff_ne.mpr (by omega)
          have e2 : decide (n < m) = true := decide_eq_true (hc.resolve_left hn0)
          clear hc
          go_wp2_with (at_builtin; refine wpList_append_own_at _ rfl _ _ 23 rfl B 27 i0 _ 5 32 Try.underlying23 hi hz0 hz1 hz2 rfl (by decide) u4 l.length _ rfl (F2.out.own.alloc _) ⟨W2.heap.size, 0, none⟩ 1 1 (Tok.cells ⟨1, ((s[p]).toNat : Int), 0, 0, 0⟩) rfl rfl (news_at W2 _) (one_tok _) LEN.out.1 LEN.out.2 (SZX F2.out.bel.size BW.out) ?_; intro v' w8 hown hgrow hnil hat; have F6 := Aside0.mk (F2.out.app (t := ⟨1, ((s[p]).toNat : Int), 0, 0, 0⟩) hown ((World.grownBy_alloc W2 _ _).trans hgrow) (hat.imp id fun e => .inr ⟨_, e, by rw [World.size_alloc]; exact Nat.le_succ _⟩)); clear hown hgrow hnil hat)
          go_roundg k1
          case measure => omega
          case rel => exact ⟨p + 1, kn2, a, b, c, d, l ++ [⟨1, ((s[p]).toNat : Int), 0, 0, 0⟩], by go_num, by omega, by omega, N2.out, by rw [List.length_append]; simp; omega, F6, ⟨by rw [List.append_assoc]; exact HR3.out⟩⟩
      · have hn0 : n ≠ 0 := fun e => hc (.inl e)
        have e1 : ((n : Int) == 0) = false := beq_eq_false_iff_ne.mpr (by omega)
        have e2 : decide (n < m) = false := decide_eq_false fun e => hc (.inr e)
        go_wp2_with fail
        have F3 := Aside0.mk (F2.out.turn (World.grownBy_alloc W2 (.cells #[.int .u8 2, .int .u8 0, .int .i64 (n : Int), .int .i64 (dd : Int), .int .i64 0] 27) none))
        have T3 := Aside0.mk (blk_new W2 (.cells #[.int .u8 2, .int .u8 0, .int .i64 (n : Int), .int .i64 (dd : Int), .int .i64 0] 27))
        have NB := Aside0.mk F2.out.fs.no
        have LEN := Aside0.mk (show l.length + 1 ≤ maxLen ∧ (l.length + 1) * 32 ≤ 140737488355328 from by unfold maxLen; omega)
        obtain ⟨b11, hb11⟩ : ∃ q, W2.heap.size = q := ⟨_, rfl⟩
        have NB := Aside0.mk (show ∀ k, ((k < B ∨ k = B + 1 + 1) ∨ u4.ownBlock = some k) → k < b11 from fun k hk => by have := (NB.out k hk).1; omega)
        rw [hb11] at T3 ⊢
        generalize W2.alloc (.cells #[.int .u8 2, .int .u8 0, .int .i64 (n : Int), .int .i64 (dd : Int), .int .i64 0] 27) = W3 at F3 T3 ⊢
        clear F2 hb11
        refine (slices_Index_int_int.calls 10 _ 4 [a, b, c, d] (dd : Int) _ _ (row_reads W3 (B + 1 + 1) a b c d F3.out.row) (by simp) (index4 a b c d (dd : Int))).mono ?_
        rintro e w' ⟨rfl, q, rfl⟩
        have F4 := Aside0.mk (F3.out.turn (grown_drewN W3 q))
        have T4 := Aside0.mk (show (W3.drewN q).heap[b11]? = _ from T3.out)
        generalize W3.drewN q = X4 at F4 T4 ⊢
        clear F3 T3
        obtain ⟨sl, hsl⟩ : ∃ z, PIx.rowAt a b c d (dd : Int) = z := ⟨_, rfl⟩
        have hmt : matT n dd (a, b, c, d) = if 0 ≤ sl then ⟨3, 0, (n : Int), 0, sl⟩ else ⟨2, 0, (n : Int), (dd : Int), 0⟩ := by unfold matT; rw [hsl]
        have HR3 := Aside0.mk (show R = l ++ matT n dd (a, b, c, d) :: findL s k1 (p + n) (front a b c d (dd : Int)) by have := HR2.out; rw [if_neg hc] at this; exact this)
        rw [hmt] at HR3
        rw [hsl]
        clear HR2 hmt hsl
        by_cases hs0 : 0 ≤ sl
--TWO
        · have d3 : decide (0 ≤ sl) = true := decide_eq_true hs0
          rw [if_pos hs0] at HR3
          have t0 := (blk_cell T4.out 0).trans (rfl : _ = some (Value.int .u8 2))
          have t1 := (blk_cell T4.out 1).trans (rfl : _ = some (Value.int .u8 0))
          have t2 := (blk_cell T4.out 2).trans (rfl : _ = some (Value.int .i64 (n : Int)))
          have t3 := (blk_cell T4.out 3).trans (rfl : _ = some (Value.int .i64 (dd : Int)))
          have t4 := (blk_cell T4.out 4).trans (rfl : _ = some (Value.int .i64 0))
          have z0 := blk_frozen T4.out 0
          have z1 := blk_frozen T4.out 1
          have z2 := blk_frozen T4.out 2
          have z3 := blk_frozen T4.out 3
          have z4 := blk_frozen T4.out 4
          go_upto_region 15 with fail
          have hg5 := ((((grownBy_setCell2 X4 b11 0 (.int .u8 3)).trans (grownBy_setCell2 _ b11 1 (.int .u8 0))).trans (grownBy_setCell2 _ b11 2 (.int .i64 (n : Int)))).trans (grownBy_setCell2 _ b11 3 (.int .i64 0))).trans (grownBy_setCell2 _ b11 4 (.int .i64 sl))
          have F5 := Aside0.mk (F4.out.other T4.out (fun k hk => Nat.ne_of_lt (NB.out k hk)) hg5)
          have T5 := Aside0.mk ((blk_put (blk_put (blk_put (blk_put (blk_put T4.out 0 (.int .u8 3)) 1 (.int .u8 0)) 2 (.int .i64 (n : Int))) 3 (.int .i64 0)) 4 (.int .i64 sl)).trans (rfl : _ = some (Obj.cells #[.int .u8 3, .int .u8 0, .int .i64 (n : Int), .int .i64 0, .int .i64 sl] 27 (0, 0))))
          clear hg5 t0 t1 t2 t3 t4 z0 z1 z2 z3 z4 F4 T4
          generalize ((((X4.setCell ⟨b11, 0, none⟩ (.int .u8 3)).setCell ⟨b11, 1, none⟩ (.int .u8 0)).setCell ⟨b11, 2, none⟩ (.int .i64 (n : Int))).setCell ⟨b11, 3, none⟩ (.int .i64 0)).setCell ⟨b11, 4, none⟩ (.int .i64 sl) = X5 at F5 T5 ⊢

          have t0 := (blk_cell T5.out 0).trans (rfl : _ = some (Value.int .u8 3))
          have t1 := (blk_cell T5.out 1).trans (rfl : _ = some (Value.int .u8 0))
          have t2 := (blk_cell T5.out 2).trans (rfl : _ = some (Value.int .i64 (n : Int)))
          have t3 := (blk_cell T5.out 3).trans (rfl : _ = some (Value.int .i64 0))
          have t4 := (blk_cell T5.out 4).trans (rfl : _ = some (Value.int .i64 sl))

          go_wp2_with (at_builtin; refine wpList_append_own_at _ rfl _ _ 23 rfl B 27 i0 _ 5 32 Try.underlying23 hi hz0 hz1 hz2 rfl (by decide) u4 l.length _ rfl (F5.out.own.alloc _) ⟨X5.heap.size, 0, none⟩ 1 1 (Tok.cells ⟨3, 0, (n : Int), 0, sl⟩) rfl rfl (news_at X5 _) (one_tok _) LEN.out.1 LEN.out.2 (SZX F5.out.bel.size BW.out) ?_; intro v' w8 hown hgrow hnil hat; have F6 := Aside0.mk (F5.out.app (t := ⟨3, 0, (n : Int), 0, sl⟩) hown ((World.grownBy_alloc X5 _ _).trans hgrow) (hat.imp id fun e => .inr ⟨_, e, by rw [World.size_alloc]; exact Nat.le_succ _⟩)); clear hown hgrow hnil hat; have q0 := (blk_cell F6.out.row 0).trans (rfl : _ = some (Value.int .i64 a)); have q1 := (blk_cell F6.out.row 1).trans (rfl : _ = some (Value.int .i64 b)); have q2 := (blk_cell F6.out.row 2).trans (rfl : _ = some (Value.int .i64 c)); have q3 := (blk_cell F6.out.row 3).trans (rfl : _ = some (Value.int .i64 d)))
          refine (token_Front_calls a b c d (dd : Int) _).mono ?_
          obtain ⟨⟨a', b', c', d'⟩, hfr⟩ : ∃ z, front a b c d (dd : Int) = z := ⟨_, rfl⟩
          rw [hfr] at HR3 ⊢
          dsimp only
          rintro e w9 ⟨rfl, hb9⟩
          have F7 := Aside0.mk (F6.out.turn (grown_belowM hb9))
          clear hb9 F6 q0 q1 q2 q3 t0 t1 t2 t3 t4 F5 T5
          unfold rowVal
          have q0 := (blk_cell F7.out.row 0).trans (rfl : _ = some (Value.int .i64 a))
          have q1 := (blk_cell F7.out.row 1).trans (rfl : _ = some (Value.int .i64 b))
          have q2 := (blk_cell F7.out.row 2).trans (rfl : _ = some (Value.int .i64 c))
          have q3 := (blk_cell F7.out.row 3).trans (rfl : _ = some (Value.int .i64 d))
          have y0 := blk_frozen F7.out.row 0
          have y1 := blk_frozen F7.out.row 1
          have y2 := blk_frozen F7.out.row 2
          have y3 := blk_frozen F7.out.row 3
          have F8 := Aside0.mk (F7.out.front (r' := (a', b', c', d')) ((((grownBy_setCell2 w9 (B + 1 + 1) 0 (.int .i64 a')).trans (grownBy_setCell2 _ (B + 1 + 1) 1 (.int .i64 b'))).trans (grownBy_setCell2 _ (B + 1 + 1) 2 (.int .i64 c'))).trans (grownBy_setCell2 _ (B + 1 + 1) 3 (.int .i64 d'))) ((blk_put (blk_put (blk_put (blk_put F7.out.row 0 (.int .i64 a')) 1 (.int .i64 b')) 2 (.int .i64 c')) 3 (.int .i64 d')).trans rfl))
          clear F7
          go_wp2_with fail
          go_roundg k1
          case measure => omega
          case rel => exact ⟨p + n, kn2, a', b', c', d', l ++ [⟨3, 0, (n : Int), 0, sl⟩], by go_num, by omega, by omega, N2.out, by rw [List.length_append]; simp; omega, F8, ⟨by rw [List.append_assoc]; exact HR3.out⟩⟩
        · have d3 : decide (0 ≤ sl) = false := decide_eq_false hs0
          rw [if_neg hs0] at HR3
          go_upto_region 15 with fail
          have F5 := F4
          have T5 := T4
          generalize X4 = X5 at F5 T5 ⊢
          clear F4 T4

          have t0 := (blk_cell T5.out 0).trans (rfl : _ = some (Value.int .u8 2))
          have t1 := (blk_cell T5.out 1).trans (rfl : _ = some (Value.int .u8 0))
          have t2 := (blk_cell T5.out 2).trans (rfl : _ = some (Value.int .i64 (n : Int)))
          have t3 := (blk_cell T5.out 3).trans (rfl : _ = some (Value.int .i64 (dd : Int)))
          have t4 := (blk_cell T5.out 4).trans (rfl : _ = some (Value.int .i64 0))

          go_wp2_with (at_builtin; refine wpList_append_own_at _ rfl _ _ 23 rfl B 27 i0 _ 5 32 Try.underlying23 hi hz0 hz1 hz2 rfl (by decide) u4 l.length _ rfl (F5.out.own.alloc _) ⟨X5.heap.size, 0, none⟩ 1 1 (Tok.cells ⟨2, 0, (n : Int), (dd : Int), 0⟩) rfl rfl (news_at X5 _) (one_tok _) LEN.out.1 LEN.out.2 (SZX F5.out.bel.size BW.out) ?_; intro v' w8 hown hgrow hnil hat; have F6 := Aside0.mk (F5.out.app (t := ⟨2, 0, (n : Int), (dd : Int), 0⟩) hown ((World.grownBy_alloc X5 _ _).trans hgrow) (hat.imp id fun e => .inr ⟨_, e, by rw [World.size_alloc]; exact Nat.le_succ _⟩)); clear hown hgrow hnil hat; have q0 := (blk_cell F6.out.row 0).trans (rfl : _ = some (Value.int .i64 a)); have q1 := (blk_cell F6.out.row 1).trans (rfl : _ = some (Value.int .i64 b)); have q2 := (blk_cell F6.out.row 2).trans (rfl : _ = some (Value.int .i64 c)); have q3 := (blk_cell F6.out.row 3).trans (rfl : _ = some (Value.int .i64 d)))
          refine (token_Front_calls a b c d (dd : Int) _).mono ?_
          obtain ⟨⟨a', b', c', d'⟩, hfr⟩ : ∃ z, front a b c d (dd : Int) = z := ⟨_, rfl⟩
          rw [hfr] at HR3 ⊢
          dsimp only
          rintro e w9 ⟨rfl, hb9⟩
          have F7 := Aside0.mk (F6.out.turn (grown_belowM hb9))
          clear hb9 F6 q0 q1 q2 q3 t0 t1 t2 t3 t4 F5 T5
          unfold rowVal
          have q0 := (blk_cell F7.out.row 0).trans (rfl : _ = some (Value.int .i64 a))
          have q1 := (blk_cell F7.out.row 1).trans (rfl : _ = some (Value.int .i64 b))
          have q2 := (blk_cell F7.out.row 2).trans (rfl : _ = some (Value.int .i64 c))
          have q3 := (blk_cell F7.out.row 3).trans (rfl : _ = some (Value.int .i64 d))
          have y0 := blk_frozen F7.out.row 0
          have y1 := blk_frozen F7.out.row 1
          have y2 := blk_frozen F7.out.row 2
          have y3 := blk_frozen F7.out.row 3
          have F8 := Aside0.mk (F7.out.front (r' := (a', b', c', d')) ((((grownBy_setCell2 w9 (B + 1 + 1) 0 (.int .i64 a')).trans (grownBy_setCell2 _ (B + 1 + 1) 1 (.int .i64 b'))).trans (grownBy_setCell2 _ (B + 1 + 1) 2 (.int .i64 c'))).trans (grownBy_setCell2 _ (B + 1 + 1) 3 (.int .i64 d'))) ((blk_put (blk_put (blk_put (blk_put F7.out.row 0 (.int .i64 a')) 1 (.int .i64 b')) 2 (.int .i64 c')) 3 (.int .i64 d')).trans rfl))
          clear F7
          go_wp2_with fail
          go_roundg k1
          case measure => omega
          case rel => exact ⟨p + n, kn2, a', b', c', d', l ++ [⟨2, 0, (n : Int), (dd : Int), 0⟩], by go_num, by omega, by omega, N2.out, by rw [List.length_append]; simp; omega, F8, ⟨by rw [List.append_assoc]; exact HR3.out⟩⟩
    · obtain rfl : p = s.size := by omega
      go_wp2_with fail
      go_ret
      have e := HR.out
      rw [findL_end (Nat.le_refl _), List.append_nil] at e
      refine ⟨_, rfl, ?_, by rw [hB]; exact HF.out.bel.toBelow⟩
      rw [hB, e]
      exact HF.out.own
end Go.Proofs.Ytaooiffnpnmdeaa.Mt
