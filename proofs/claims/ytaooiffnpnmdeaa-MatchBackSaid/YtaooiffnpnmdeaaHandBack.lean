/- MatchBack: token.Text of the tokens is the text; there are no more than it has bytes; no Match or Again that is found could be longer by its own distance, nor is there a nearer distance by which as many bytes are the same. -/
import Derived.Test.YtaooiffnpnmdeaaMtBack
import Derived.Test.YtaooiffnpnmdeaaMtQ
import Derived.Deep.CutRange
import Derived.Deep.CutBlock
import Derived.Deep.QuietTactic
import Derived.BigQuiet
import Derived.LoopTactic
import Derived.LoopN
namespace Go.Proofs.Ytaooiffnpnmdeaa.Mt
open Go.RowKit Go.Proofs.YtaooiffnpnmdeaaW.PrintWords Go.Proofs.YtaooiffnpnmdeaaW.PrintLast Go.Proofs.YtaooiffnpnmdeaaW.PrintMore Go.Proofs.Ytaooiffnpnmdeaa.PIx
attribute [local go_sem] max2_int min2_int max_two min_two max_three min_three max_four min_four
set_option linter.unusedVariables false
set_option linter.unusedSimpArgs false
set_option maxHeartbeats 1000000 in
theorem may_calls (A : Option Addr) (c : Nat) (l : List PIx.S27) (b : Bool) (w : World) (hr : Kd.C PIx.k27 w A l.length l) (hc : l.length ≤ c) (hlen : l.length ≤ 1000000) (hb : ((textR l 9223372036854775807 st0).2 == 0) = b) :
    Calls Try.prog 21 #[.slice A l.length c] w fun e w' => e = .returned (.bool b) ∧ Below w.heap.size w w' := by
  have hT := text_calls A c l 9223372036854775807 w hr hc hlen
  obtain ⟨x, hx⟩ : ∃ x, x = (textR l 9223372036854775807 st0).2 := ⟨_, rfl⟩
  rw [← hx] at hb hT
  have HT := Aside0.mk hT
  clear hT hx hr hc hlen
  go_enter Try.func21, Try.ntmps21
  go_wp2_with fail
  refine HT.out.mono ?_
  rintro e w1 ⟨rfl, hB⟩
  have HB := Aside0.mk hB
  clear hB
  go_wp2_with fail
  go_ret
  exact ⟨rfl, HB.out⟩
/-- A row in memory. -/
structure EnvR (w W : World) (Z : Nat) (a b c d : Int) : Prop where
  blk : W.heap[Z]? = some (.cells #[.int .i64 a, .int .i64 b, .int .i64 c, .int .i64 d] 42 (0, 0))
  bel : Below w.heap.size w W
theorem EnvR.below {w W W1 : World} {Z : Nat} {a b c d : Int} (h : EnvR w W Z a b c d) (hb : Below W.heap.size W W1) : EnvR w W1 Z a b c d := ⟨(hb.block Z (blk_lt h.blk)).trans h.blk, h.bel.trans (hb.mono h.bel.size)⟩
theorem EnvR.drewN {w W : World} {Z : Nat} {a b c d : Int} (n : Nat) (h : EnvR w W Z a b c d) : EnvR w (W.drewN n) Z a b c d := ⟨h.blk, pw_below_drewN h.bel n⟩
def rw4 (a b c d : Int) (i : Nat) : Int := if i = 0 then a else if i = 1 then b else if i = 2 then c else d
theorem EnvR.at_ {w W : World} {Z : Nat} {a b c d : Int} (h : EnvR w W Z a b c d) (i : Nat) (hi : i < 4) : W.cell? ⟨Z, i, none⟩ = some (.int .i64 (rw4 a b c d i)) := by
  rw [blk_cell h.blk i]
  match i, hi with
  | 0, _ => rfl
  | 1, _ => rfl
  | 2, _ => rfl
  | 3, _ => rfl
theorem EnvR.row {w W : World} {Z : Nat} {a b c d : Int} (h : EnvR w W Z a b c d) (hz : w.heap.size ≤ Z) (a' b' c' d' : Int) :
    EnvR w ((((W.setCell ⟨Z, 0, none⟩ (.int .i64 a')).setCell ⟨Z, 1, none⟩ (.int .i64 b')).setCell ⟨Z, 2, none⟩ (.int .i64 c')).setCell ⟨Z, 3, none⟩ (.int .i64 d')) Z a' b' c' d' :=
  ⟨(blk_put (blk_put (blk_put (blk_put h.blk 0 _) 1 _) 2 _) 3 _).trans rfl, (((h.bel.setCell (p := ⟨Z, 0, none⟩) hz _).setCell (p := ⟨Z, 1, none⟩) hz _).setCell (p := ⟨Z, 2, none⟩) hz _).setCell (p := ⟨Z, 3, none⟩) hz _⟩
theorem tokX_reps (W : World) (base : Nat) (ok : Nat → Prop) : ∀ (ys acc : List Tok), Reps (PIx.k27.M W base ok) 5 (acc.map tokX) (toks5 acc) → Reps (PIx.k27.M W base ok) 5 ((acc ++ ys).map tokX) (toks5 (acc ++ ys))
  | [], acc, h => by rw [List.append_nil]; exact h
  | y :: ys, acc, h => by
    have h2 := tokX_reps W base ok ys (acc ++ [y]) (by rw [toks5_snoc, List.map_append]; exact h.snoc (PIx.k27_mkM W base ok (tokX y)) rfl)
    rwa [List.append_assoc, List.singleton_append] at h2
theorem find_R (s : ByteArray) (w : World) (hs : s.size ≤ 80000) :
    Calls Try.prog 11 #[.string s] w fun e w' => ∃ A c, e = .returned (.slice A ((findS s).map tokX).length c) ∧ ((findS s).map tokX).length ≤ c ∧ Kd.C PIx.k27 w' A ((findS s).map tokX).length ((findS s).map tokX) ∧ Below w.heap.size w w' := by
  refine (Find_walk s w hs).mono ?_
  rintro e w' ⟨v, rfl, hown, hb⟩
  have HO : Kd.R PIx.k27 27 w' w.heap.size (fun _ => True) v ((findS s).map tokX) := ⟨fun _ _ => trivial, toks5 (findS s), by rw [List.length_map]; exact hown, tokX_reps _ _ _ (findS s) [] (Reps.none _ _)⟩
  obtain ⟨A, c, rfl⟩ := Kd.R_slice HO
  exact ⟨A, c, rfl, (Kd.R_reads' HO).2.1, (Kd.R_reads' HO).2.2, hb⟩
/-- One token more: a byte, or a match that ends where it must, and of which no nearer one is as long. -/
def Far (s : ByteArray) (p : Nat) (a b c d : Int) (f : Nat) (t : Tok) (rest : List Tok) (n dd : Nat) : Prop :=
  3 ≤ n ∧ n ≤ 258 ∧ 1 ≤ dd ∧ dd ≤ p ∧ dd ≤ 32768 ∧ p + n ≤ s.size ∧ (n < 258 → p + n < s.size → same s (p + n) (p + n - dd) = false) ∧ (∀ near, 1 ≤ near → near < dd → ml s p near < n) ∧
  rest = findL s f (p + n) (front a b c d (dd : Int)) ∧ s.size ≤ p + n + f ∧ (t = ⟨2, 0, (n : Int), (dd : Int), 0⟩ ∨ ∃ sl : Nat, sl < 4 ∧ t = ⟨3, 0, (n : Int), 0, (sl : Int)⟩ ∧ rw4 a b c d sl = (dd : Int))
theorem find_case (s : ByteArray) (f p : Nat) (a b c d : Int) (hp : p < s.size) (hf : s.size ≤ p + f) :
    ∃ t rest f', findL s f p (a, b, c, d) = t :: rest ∧ ((t = litT s p ∧ rest = findL s f' (p + 1) (a, b, c, d) ∧ s.size ≤ p + 1 + f') ∨ ∃ n dd, Far s p a b c d f' t rest n dd) := by
  obtain ⟨f', rfl⟩ : ∃ f', f = f' + 1 := ⟨f - 1, by omega⟩
  rw [findL, if_pos hp]
  by_cases hc : (longS s p).1 = 0 ∨ (longS s p).1 < (longS s (p + 1)).1
  · rw [if_pos hc]
    exact ⟨_, _, f', rfl, .inl ⟨rfl, rfl, by omega⟩⟩
  · rw [if_neg hc]
    have h0 : (longS s p).1 ≠ 0 := fun e => hc (.inl e)
    obtain ⟨g1, g2, g3⟩ := long_facts s p
    obtain ⟨e1, e2, e3, e4, e5⟩ := (long_is s p).resolve_left h0
    refine ⟨_, _, f', rfl, .inr ⟨(longS s p).1, (longS s p).2, e1, g1, e2, e3, e4, g3.resolve_left h0, fun h1 h2 => long_ends h0 h1 h2, fun near h1 h2 => long_near h0 h1 h2, rfl, by omega, ?_⟩⟩
    unfold matT
    by_cases hr : 0 ≤ PIx.rowAt a b c d ((longS s p).2 : Int)
    · obtain ⟨r1, r2⟩ := rowN_at hr
      rw [if_pos hr]
      refine .inr ⟨(PIx.rowAt a b c d ((longS s p).2 : Int)).toNat, by omega, by rw [Int.toNat_of_nonneg hr], Eq.trans ?_ r2⟩
      clear r2
      unfold rw4 rowN
      generalize PIx.rowAt a b c d ((longS s p).2 : Int) = z at hr r1 ⊢
      rcases (show z = 0 ∨ z = 1 ∨ z = 2 ∨ z = 3 by omega) with h | h | h | h <;> subst h <;> rfl
    · rw [if_neg hr]
      exact .inl rfl
theorem find_len (s : ByteArray) : ∀ f p a b c d, p ≤ s.size → s.size ≤ p + f → (findL s f p (a, b, c, d)).length + p ≤ s.size := by
  intro f
  induction f with
  | zero => intro p a b c d h1 h2; show 0 + p ≤ _; omega
  | succ f ih =>
    intro p a b c d h1 h2
    by_cases hp : p < s.size
    · rw [findL, if_pos hp]
      by_cases hc : (longS s p).1 = 0 ∨ (longS s p).1 < (longS s (p + 1)).1
      · rw [if_pos hc, List.length_cons]
        have := ih (p + 1) a b c d (by omega) (by omega)
        omega
      · rw [if_neg hc, List.length_cons]
        have h0 : (longS s p).1 ≠ 0 := fun e => hc (.inl e)
        obtain ⟨g1, g2, g3⟩ := long_facts s p
        have g4 := (long_is s p).resolve_left h0
        have : (findL s f (p + (longS s p).1) (front a b c d ((longS s p).2 : Int))).length + (p + (longS s p).1) ≤ s.size := ih (p + (longS s p).1) (front a b c d ((longS s p).2 : Int)).1 (front a b c d ((longS s p).2 : Int)).2.1 (front a b c d ((longS s p).2 : Int)).2.2.1 (front a b c d ((longS s p).2 : Int)).2.2.2 (by omega) (by omega)
        have h2 : (findL s f (p + (longS s p).1) (front (a, b, c, d).1 (a, b, c, d).2.1 (a, b, c, d).2.2.1 (a, b, c, d).2.2.2 ((longS s p).2 : Int))).length + (p + (longS s p).1) ≤ s.size := this
        omega
    · rw [findL, if_neg hp]
      show 0 + p ≤ _
      omega
theorem bt_ne {s : ByteArray} {i j : Nat} (hi : i < s.size) (hj : j < s.size) (h : same s i j = false) : (bt s (i : Int) == bt s (j : Int)) = false :=
  beq_eq_false_iff_ne.mpr fun e => by rw [(bt_same hi hj).1 e] at h; cases h
theorem byte_at (s : ByteArray) (i : Nat) : ∀ h : i < s.size, (((s[i]'h).toNat : Nat) : Int) = bt s (i : Int) := fun h => (bt_nat h).symm
theorem and3 (sl : Nat) (h : sl < 4) : bits .and .i64 (sl : Int) 3 = (sl : Int) := by
  rcases (show sl = 0 ∨ sl = 1 ∨ sl = 2 ∨ sl = 3 by omega) with h | h | h | h <;> subst h <;> decide
/-- So many bytes are the same. -/
def Sames (s : ByteArray) (p near x : Nat) : Prop := ∀ i, i < x → same s (p + i) (p + i - near) = true
theorem sames_all {s : ByteArray} {p near n : Nat} (h : Sames s p near n) (h1 : n ≤ 258) (h2 : p + n ≤ s.size) (h3 : ml s p near < n) : False := by
  have := (ml_ge (s := s) (p := p) (d := near) (m := n)).2 ⟨h1, fun i hi => ⟨by omega, h i hi⟩⟩
  omega

theorem w64_nat (n : Nat) (h : n ≤ 1000000) : wrap64 (n : Int) = (n : Int) ∧ IntKind.i64.wrap (n : Int) = (n : Int) :=
  ⟨wrap_id (by omega) (by omega), by rw [IntKind.wrap_i64]; omega⟩
/-- What each round leaves. -/
def Left (s : ByteArray) (L : List PIx.S27) (i p f : Nat) (a b c d : Int) : Prop := L.drop i = (findL s f p (a, b, c, d)).map tokX ∧ s.size ≤ p + f
set_option maxHeartbeats 40000000 in
set_option maxRecDepth 100000 in
theorem back_walk (s : ByteArray) (w : World) (hs : s.size ≤ 140737488351232) :
    Calls Try.prog 9 #[.string s] w fun e w' => e = .returned (.bool true) ∧ Below w.heap.size w w' := by
  have hW : ∀ W : World, Calls Try.prog 10 #[] W fun e w' => e = .returned (.bool true) ∧ Below W.heap.size W w' := fun W => PMt.hamperlaw15_works.calls 60 true W works_at
  by_cases hbig : s.size ≤ 4000
  · have d0 : decide ((4000 : Int) < (s.size : Int)) = false := decide_eq_false (by omega)
    have HWK := Aside0.mk hW
    clear hW
    go_enter Try.func9, Try.ntmps9
    go_wp2_with fail
    refine (HWK.out _).mono ?_
    rintro e w1 ⟨rfl, hB⟩
    have HB1 := Aside0.mk hB
    clear hB
    go_wp2_with fail
    refine (find_R s _ (by omega)).mono ?_
    rintro e w2 ⟨A, c, rfl, hc, hr, hB⟩
    have HB2 := Aside0.mk (HB1.out.trans (hB.mono HB1.out.size))
    have hL0 := find_len s s.size 0 0 0 0 0 (Nat.zero_le _) (by omega)
    have hT0 := text_back s (s.size : Int) (Int.le_refl _)
    have hM0 := text_back s 9223372036854775807 (by omega)
    have hF0 : Left s ((findS s).map tokX) 0 0 s.size 0 0 0 0 := ⟨rfl, by omega⟩
    have hlen : ((findS s).map tokX).length ≤ s.size := by rw [List.length_map]; exact hL0
    generalize (findS s).map tokX = L at hc hr hT0 hM0 hF0 hlen ⊢
    have HR := Aside0.mk hr
    have HT := Aside0.mk hT0
    have HM := Aside0.mk hM0
    have HF := Aside0.mk hF0
    have HC := Aside0.mk hc
    clear hB hr hT0 hM0 hF0 hL0 hc HB1
    go_wp2_with fail
    have hT := text_calls A c L (s.size : Int) w2 HR.out HC.out (by omega)
    rw [HT.out] at hT
    refine hT.mono ?_
    rintro e w3 ⟨rfl, hB⟩
    have HB3 := Aside0.mk (HB2.out.trans (hB.mono HB2.out.size))
    have HR3 := Aside0.mk (Kd.C_below HR.out hB)
    clear hB hT HB2 HR
    have d1 : decide (s.size < L.length) = false := decide_eq_false (by omega)
    have p1 : (!s.toList == s.toList) = false := by simp
    go_wp2_with fail
    refine (may_calls A c L true _ HR3.out HC.out (by omega) (by rw [HM.out]; rfl)).mono ?_
    rintro e w4 ⟨rfl, hB⟩
    have HB4 := Aside0.mk (HB3.out.trans (hB.mono HB3.out.size))
    have HR4 := Aside0.mk (Kd.C_below HR3.out hB)
    clear hB HB3 HR3 p1 d1
    go_wp2_with fail
    obtain ⟨Z, hZ⟩ : ∃ Z, Z = w4.heap.size := ⟨_, rfl⟩
    have E0 := Aside0.mk (show EnvR w (w4.alloc (.cells #[.int .i64 0, .int .i64 0, .int .i64 0, .int .i64 0] 42)) Z 0 0 0 0 from ⟨by rw [hZ]; exact blk_new w4 _, below_alloc HB4.out _⟩)
    have K0 := Aside0.mk (below_alloc (Below.refl w4.heap.size w4) (.cells #[.int .i64 0, .int .i64 0, .int .i64 0, .int .i64 0] 42))
    have HZ := Aside0.mk hZ
    rw [← hZ]
    clear hZ
    generalize w4.alloc (.cells #[.int .i64 0, .int .i64 0, .int .i64 0, .int .i64 0] 42) = W0 at E0 K0 ⊢
    go_loopw [6, 8] (fun n i wr => ∃ (j p f : Nat) (a b c d : Int), j ≤ L.length ∧ p ≤ s.size ∧ n = .int .i64 (p : Int) ∧ i = .int .i64 (j : Int) ∧ Aside0 (Left s L j p f a b c d) ∧ Aside0 (EnvR w wr Z a b c d) ∧ Aside0 (Below w4.heap.size w4 wr)) (fun _ i _ => L.length - (intOf i).toNat)
    case atStart => exact ⟨0, 0, s.size, 0, 0, 0, 0, Nat.zero_le _, Nat.zero_le _, rfl, rfl, HF, E0, K0⟩
    case round =>
      obtain ⟨j, p, f, a, b, c1, d, hj, hp, rfl, rfl, HL, E1, K1⟩ := hrel
      clear E0 K0
      by_cases hlt : j < L.length
      · obtain ⟨ad, eA, h0, h1, h2, h3, h4⟩ := at_T27 HR4.out (j : Int) (by omega) (by omega)
        cases eA
        obtain ⟨t, ht⟩ : ∃ t, t = rd_T27 L (j : Int) := ⟨_, rfl⟩
        rw [← ht, Int.toNat_natCast] at h0 h1 h2 h3 h4
        replace h0 := (K1.out.cell (World.block_lt_of_cell? w4 _ h0)).trans h0
        replace h1 := (K1.out.cell (World.block_lt_of_cell? w4 _ h1)).trans h1
        replace h2 := (K1.out.cell (World.block_lt_of_cell? w4 _ h2)).trans h2
        replace h3 := (K1.out.cell (World.block_lt_of_cell? w4 _ h3)).trans h3
        replace h4 := (K1.out.cell (World.block_lt_of_cell? w4 _ h4)).trans h4
        obtain ⟨hd, hf⟩ := HL.out
        rw [rd_drop L j hlt, ← ht] at hd
        have hps : p < s.size := by
          rcases Nat.lt_or_ge p s.size with h | h
          · exact h
          · rw [findL_end h] at hd; cases hd
        obtain ⟨t', rest, f', he, hcase⟩ := find_case s f p a b c1 d hps hf
        rw [he, List.map_cons] at hd
        have htt : t = tokX t' := (List.cons.inj hd).1
        have hdr : L.drop (j + 1) = rest.map tokX := (List.cons.inj hd).2
        clear hd he hf ht HL
        rcases hcase with ⟨rfl, rfl, hf'⟩ | ⟨n, dd, g1, g2, g3, g4, g5, g6, g7, g8, g9, g10, g11⟩
        · have k0 : t.f0 = 1 := by rw [htt]; rfl
          rw [k0] at h0
          have HL2 := Aside0.mk (show Left s L (j + 1) (p + 1) f' a b c1 d from ⟨hdr, hf'⟩)
          clear htt hdr hf' h1 h2 h3 h4 k0
          go_wp2_with fail
          go_roundw
          case rel => exact ⟨j + 1, p + 1, f', a, b, c1, d, by omega, by omega, by go_num, by go_num, HL2, E1, K1⟩
          case measure => simp [intOf]; omega
        · have HL2 := Aside0.mk (show Left s L (j + 1) (p + n) f' (front a b c1 d (dd : Int)).1 (front a b c1 d (dd : Int)).2.1 (front a b c1 d (dd : Int)).2.2.1 (front a b c1 d (dd : Int)).2.2.2 from ⟨by rw [hdr, g9], g10⟩)
          have HE7 := Aside0.mk g7
          have HN8 := Aside0.mk g8
          have k2 : t.f2 = (n : Int) := by rw [htt]; rcases g11 with e | ⟨sl, _, e, _⟩ <;> rw [e] <;> rfl
          rw [k2] at h2
          have hcs : (t.f0 = 2 ∧ t.f3 = (dd : Int)) ∨ (t.f0 = 3 ∧ ∃ sl : Nat, t.f4 = (sl : Int) ∧ sl < 4 ∧ rw4 a b c1 d sl = (dd : Int)) := by
            rw [htt]
            rcases g11 with e | ⟨sl, l1, e, l2⟩
            · rw [e]; exact .inl ⟨rfl, rfl⟩
            · rw [e]; exact .inr ⟨rfl, sl, rfl, l1, l2⟩
          have hZl : Z < wr.heap.size := blk_lt E1.out.blk
          clear g7 g8 g9 g10 g11 htt hdr k2
          have c0 : wr.cell? ⟨Z, 0, none⟩ = some (.int .i64 a) := E1.out.at_ 0 (by decide)
          have e1 : wr.cell? ⟨Z, 1, none⟩ = some (.int .i64 b) := E1.out.at_ 1 (by decide)
          have e2 : wr.cell? ⟨Z, 2, none⟩ = some (.int .i64 c1) := E1.out.at_ 2 (by decide)
          have e3 : wr.cell? ⟨Z, 3, none⟩ = some (.int .i64 d) := E1.out.at_ 3 (by decide)
          have k7 : t.f0 = 2 ∨ t.f0 = 3 := by rcases hcs with h | h; exact .inl h.1; exact .inr h.1
          have k1b : (t.f0 == 1) = false := beq_eq_false_iff_ne.mpr (by omega)
          have HCS := Aside0.mk hcs
          clear hcs k7
          go_upto_if 73 with fail
          go_cut [9] from 74 to 81 (fun v9 wc => ∃ z9 : Int, v9 = .int .i64 z9 ∧ Aside0 (z9 = (dd : Int)) ∧ wc = wr)
          case first =>
            rcases HCS.out with ⟨k3, k4⟩ | ⟨k3, sl, k4, k5, k6⟩
            · have k3b : (t.f0 == 3) = false := beq_eq_false_iff_ne.mpr (by omega)
              have K4 := Aside0.mk k4
              clear k3 k4
              go_wp2_with fail
              go_meet
              case rel => exact ⟨_, rfl, K4, rfl⟩
            · have c4 := E1.out.at_ sl k5
              have k3b : (t.f0 == 3) = true := by rw [k3]; rfl
              rw [k6] at c4
              rw [k4] at h4
              have hand := and3 sl k5
              clear k3 k4 k6
              go_wp2_with fail
              go_meet
              case rel => exact ⟨_, rfl, Aside0.mk rfl, rfl⟩
          case rest =>
            obtain ⟨z9, rfl, hz9, rfl⟩ := hcut
            obtain rfl : z9 = (dd : Int) := hz9.out
            clear hz9
            go_upto_region 18 with fail
            clear h0 h1 h2 h3 h4 c0 e1 e2 e3 k1b HCS
            go_cut [111] from 87 to 111 (fun v wc => v = .bool false ∧ Aside0 (EnvR w wc Z a b c1 d) ∧ Aside0 (Below w4.heap.size w4 wc))
            case first =>
              have E2 := Aside0.mk (show EnvR w wc.drew Z a b c1 d from ⟨E1.out.blk, below_drew E1.out.bel⟩)
              have K2 := Aside0.mk (below_drew K1.out)
              obtain ⟨z, hz⟩ : ∃ z, z = p + n := ⟨_, rfl⟩
              have hs2 : (p : Int) + (n : Int) = (z : Int) := by omega
              have hz6 : z ≤ 1000000 := by omega
              have HZ3 := Aside0.mk hz
              by_cases hn : n < 258
              · have d2 : decide ((n : Int) < 258) = true := decide_eq_true (by omega)
                by_cases hzs : z < s.size
                · have d3 : decide (z < s.size) = true := decide_eq_true hzs
                  have hsame := HE7.out hn (by omega)
                  obtain ⟨y, hy⟩ : ∃ y, z = y + dd := ⟨z - dd, by omega⟩
                  have hsub2 : (z : Int) - (dd : Int) = (y : Int) := by omega
                  have hly : y < s.size := by omega
                  have hy6 : y ≤ 1000000 := by omega
                  rw [← hz, show z - dd = y by omega] at hsame
                  have hbn := bt_ne hzs hly hsame
                  have hat1 := byte_at s z
                  have hat2 := byte_at s y
                  generalize bt s (z : Int) = x1 at hat1 hbn
                  generalize bt s (y : Int) = x2 at hat2 hbn
                  clear hz hy hsame
                  obtain ⟨wz1, wz2⟩ := w64_nat z hz6
                  obtain ⟨wy1, wy2⟩ := w64_nat y hy6
                  refine start_ (n := 25) (S := fun w' => True) (ds := []) #[false, false, false, false, false, false, false, false, false, false, false, false, false, false, false, false, false, false, false, false, false, false, false, false, false] (by kernel_rfl) rfl rfl trivial (fun hHeld => ?_)
                  refine pure_ (i := 0) (N := some 87) (v := ?_) (a' := ?_) #[true, false, false, false, false, false, false, false, false, false, false, false, false, false, false, false, false, false, false, false, false, false, false, false, false] rfl rfl (by kernel_rfl) (fun _ _ _ h => h) (Or.inl ⟨by rfl, ?_⟩) ?_ ?_
                  rotate_left
                  · intro w'
                    go_simp
                    with_reducible rfl
                  rotate_left
                  · simp only [Act.put, List.setIfInBounds_toArray, List.set_cons_zero, List.set_cons_succ, i64_w, i32_w]
                    rfl
                  refine pure_ (i := 1) (N := some 88) (v := ?_) (a' := ?_) #[true, true, false, false, false, false, false, false, false, false, false, false, false, false, false, false, false, false, false, false, false, false, false, false, false] rfl rfl (by kernel_rfl) (fun _ _ _ h => h) (Or.inl ⟨by rfl, ?_⟩) ?_ ?_
                  rotate_left
                  · intro w'
                    go_simp
                    with_reducible rfl
                  rotate_left
                  · simp only [Act.put, List.setIfInBounds_toArray, List.set_cons_zero, List.set_cons_succ, i64_w, i32_w]
                    rfl
                  refine pure_ (i := 2) (N := some 89) (v := ?_) (a' := ?_) #[true, true, true, false, false, false, false, false, false, false, false, false, false, false, false, false, false, false, false, false, false, false, false, false, false] rfl rfl (by kernel_rfl) (fun _ _ _ h => h) (Or.inl ⟨by rfl, ?_⟩) ?_ ?_
                  rotate_left
                  · intro w'
                    go_simp
                    with_reducible rfl
                  rotate_left
                  · simp only [Act.put, List.setIfInBounds_toArray, List.set_cons_zero, List.set_cons_succ, i64_w, i32_w]
                    rfl
                  refine pure_ (i := 3) (N := some 90) (v := ?_) (a' := ?_) #[true, true, true, true, false, false, false, false, false, false, false, false, false, false, false, false, false, false, false, false, false, false, false, false, false] rfl rfl (by kernel_rfl) (fun _ _ _ h => h) (Or.inl ⟨by rfl, ?_⟩) ?_ ?_
                  rotate_left
                  · intro w'
                    go_simp
                    with_reducible rfl
                  rotate_left
                  · simp only [Act.put, List.setIfInBounds_toArray, List.set_cons_zero, List.set_cons_succ, i64_w, i32_w]
                    rfl
                  refine pure_ (i := 4) (N := some 91) (v := ?_) (a' := ?_) #[true, true, true, true, true, false, false, false, false, false, false, false, false, false, false, false, false, false, false, false, false, false, false, false, false] rfl rfl (by kernel_rfl) (fun _ _ _ h => h) (Or.inl ⟨by rfl, ?_⟩) ?_ ?_
                  rotate_left
                  · intro w'
                    go_simp
                    with_reducible rfl
                  rotate_left
                  · simp only [Act.put, List.setIfInBounds_toArray, List.set_cons_zero, List.set_cons_succ, i64_w, i32_w]
                    rfl
                  refine pure_ (i := 5) (N := some 92) (v := ?_) (a' := ?_) #[true, true, true, true, true, true, false, false, false, false, false, false, false, false, false, false, false, false, false, false, false, false, false, false, false] rfl rfl (by kernel_rfl) (fun _ _ _ h => h) (Or.inl ⟨by rfl, ?_⟩) ?_ ?_
                  rotate_left
                  · intro w'
                    go_simp
                    with_reducible rfl
                  rotate_left
                  · simp only [Act.put, List.setIfInBounds_toArray, List.set_cons_zero, List.set_cons_succ, i64_w, i32_w]
                    rfl
                  refine pure_ (i := 6) (N := some 93) (v := ?_) (a' := ?_) #[true, true, true, true, true, true, true, false, false, false, false, false, false, false, false, false, false, false, false, false, false, false, false, false, false] rfl rfl (by kernel_rfl) (fun _ _ _ h => h) (Or.inl ⟨by rfl, ?_⟩) ?_ ?_
                  rotate_left
                  · intro w'
                    go_simp
                    with_reducible rfl
                  rotate_left
                  · simp only [Act.put, List.setIfInBounds_toArray, List.set_cons_zero, List.set_cons_succ, i64_w, i32_w]
                    rfl
                  refine pure_ (i := 7) (N := some 94) (v := ?_) (a' := ?_) #[true, true, true, true, true, true, true, true, false, false, false, false, false, false, false, false, false, false, false, false, false, false, false, false, false] rfl rfl (by kernel_rfl) (fun _ _ _ h => h) (Or.inl ⟨by rfl, ?_⟩) ?_ ?_
                  rotate_left
                  · intro w'
                    go_simp
                    with_reducible rfl
                  rotate_left
                  · simp only [Act.put, List.setIfInBounds_toArray, List.set_cons_zero, List.set_cons_succ, i64_w, i32_w]
                    rfl
                  refine pure_ (i := 8) (N := some 95) (v := ?_) (a' := ?_) #[true, true, true, true, true, true, true, true, true, false, false, false, false, false, false, false, false, false, false, false, false, false, false, false, false] rfl rfl (by kernel_rfl) (fun _ _ _ h => h) (Or.inl ⟨by rfl, ?_⟩) ?_ ?_
                  rotate_left
                  · intro w'
                    go_simp
                    with_reducible rfl
                  rotate_left
                  · simp only [Act.put, List.setIfInBounds_toArray, List.set_cons_zero, List.set_cons_succ, i64_w, i32_w]
                    rfl
                  refine pure_ (i := 9) (N := some 96) (v := ?_) (a' := ?_) #[true, true, true, true, true, true, true, true, true, true, false, false, false, false, false, false, false, false, false, false, false, false, false, false, false] rfl rfl (by kernel_rfl) (fun _ _ _ h => h) (Or.inl ⟨by rfl, ?_⟩) ?_ ?_
                  rotate_left
                  · intro w'
                    go_simp
                    with_reducible rfl
                  rotate_left
                  · simp only [Act.put, List.setIfInBounds_toArray, List.set_cons_zero, List.set_cons_succ, i64_w, i32_w]
                    rfl
                  refine pure_ (i := 10) (N := some 97) (v := ?_) (a' := ?_) #[true, true, true, true, true, true, true, true, true, true, true, false, false, false, false, false, false, false, false, false, false, false, false, false, false] rfl rfl (by kernel_rfl) (fun _ _ _ h => h) (Or.inl ⟨by rfl, ?_⟩) ?_ ?_
                  rotate_left
                  · intro w'
                    go_simp
                    with_reducible rfl
                  rotate_left
                  · simp only [Act.put, List.setIfInBounds_toArray, List.set_cons_zero, List.set_cons_succ, i64_w, i32_w]
                    rfl
                  refine pure_ (i := 11) (N := some 98) (v := ?_) (a' := ?_) #[true, true, true, true, true, true, true, true, true, true, true, true, false, false, false, false, false, false, false, false, false, false, false, false, false] rfl rfl (by kernel_rfl) (fun _ _ _ h => h) (Or.inl ⟨by rfl, ?_⟩) ?_ ?_
                  rotate_left
                  · intro w'
                    go_simp
                    with_reducible rfl
                  rotate_left
                  · simp only [Act.put, List.setIfInBounds_toArray, List.set_cons_zero, List.set_cons_succ, i64_w, i32_w]
                    rfl
                  refine pure_ (i := 12) (N := some 99) (v := ?_) (a' := ?_) #[true, true, true, true, true, true, true, true, true, true, true, true, true, false, false, false, false, false, false, false, false, false, false, false, false] rfl rfl (by kernel_rfl) (fun _ _ _ h => h) (Or.inl ⟨by rfl, ?_⟩) ?_ ?_
                  rotate_left
                  · intro w'
                    go_simp
                    with_reducible rfl
                  rotate_left
                  · simp only [Act.put, List.setIfInBounds_toArray, List.set_cons_zero, List.set_cons_succ, i64_w, i32_w]
                    rfl
                  refine pure_ (i := 13) (N := some 100) (v := ?_) (a' := ?_) #[true, true, true, true, true, true, true, true, true, true, true, true, true, true, false, false, false, false, false, false, false, false, false, false, false] rfl rfl (by kernel_rfl) (fun _ _ _ h => h) (Or.inl ⟨by rfl, ?_⟩) ?_ ?_
                  rotate_left
                  · intro w'
                    go_simp
                    with_reducible rfl
                  rotate_left
                  · simp only [Act.put, List.setIfInBounds_toArray, List.set_cons_zero, List.set_cons_succ, i64_w, i32_w]
                    rfl
                  refine pure_ (i := 14) (N := some 101) (v := ?_) (a' := ?_) #[true, true, true, true, true, true, true, true, true, true, true, true, true, true, true, false, false, false, false, false, false, false, false, false, false] rfl rfl (by kernel_rfl) (fun _ _ _ h => h) (Or.inl ⟨by rfl, ?_⟩) ?_ ?_
                  rotate_left
                  · intro w'
                    go_simp
                    with_reducible rfl
                  rotate_left
                  · simp only [Act.put, List.setIfInBounds_toArray, List.set_cons_zero, List.set_cons_succ, i64_w, i32_w]
                    rfl
                  refine pure_ (i := 16) (N := some 103) (v := ?_) (a' := ?_) #[true, true, true, true, true, true, true, true, true, true, true, true, true, true, true, false, true, false, false, false, false, false, false, false, false] rfl rfl (by kernel_rfl) (fun _ _ _ h => h) (Or.inl ⟨by rfl, ?_⟩) ?_ ?_
                  rotate_left
                  · intro w'
                    go_simp
                    with_reducible rfl
                  rotate_left
                  · simp only [Act.put, List.setIfInBounds_toArray, List.set_cons_zero, List.set_cons_succ, i64_w, i32_w]
                    rfl
                  refine pure_ (i := 17) (N := some 104) (v := ?_) (a' := ?_) #[true, true, true, true, true, true, true, true, true, true, true, true, true, true, true, false, true, true, false, false, false, false, false, false, false] rfl rfl (by kernel_rfl) (fun _ _ _ h => h) (Or.inl ⟨by rfl, ?_⟩) ?_ ?_
                  rotate_left
                  · intro w'
                    go_simp
                    with_reducible rfl
                  rotate_left
                  · simp only [Act.put, List.setIfInBounds_toArray, List.set_cons_zero, List.set_cons_succ, i64_w, i32_w]
                    rfl
                  refine pure_ (i := 18) (N := some 105) (v := ?_) (a' := ?_) #[true, true, true, true, true, true, true, true, true, true, true, true, true, true, true, false, true, true, true, false, false, false, false, false, false] rfl rfl (by kernel_rfl) (fun _ _ _ h => h) (Or.inl ⟨by rfl, ?_⟩) ?_ ?_
                  rotate_left
                  · intro w'
                    go_simp
                    with_reducible rfl
                  rotate_left
                  · simp only [Act.put, List.setIfInBounds_toArray, List.set_cons_zero, List.set_cons_succ, i64_w, i32_w]
                    rfl
                  refine pure_ (i := 19) (N := some 106) (v := ?_) (a' := ?_) #[true, true, true, true, true, true, true, true, true, true, true, true, true, true, true, false, true, true, true, true, false, false, false, false, false] rfl rfl (by kernel_rfl) (fun _ _ _ h => h) (Or.inl ⟨by rfl, ?_⟩) ?_ ?_
                  rotate_left
                  · intro w'
                    go_simp
                    with_reducible rfl
                  rotate_left
                  · simp only [Act.put, List.setIfInBounds_toArray, List.set_cons_zero, List.set_cons_succ, i64_w, i32_w]
                    rfl
                  refine pure_ (i := 20) (N := some 107) (v := ?_) (a' := ?_) #[true, true, true, true, true, true, true, true, true, true, true, true, true, true, true, false, true, true, true, true, true, false, false, false, false] rfl rfl (by kernel_rfl) (fun _ _ _ h => h) (Or.inl ⟨by rfl, ?_⟩) ?_ ?_
                  rotate_left
                  · intro w'
                    go_simp
                    with_reducible rfl
                  rotate_left
                  · simp only [Act.put, List.setIfInBounds_toArray, List.set_cons_zero, List.set_cons_succ, i64_w, i32_w]
                    rfl
                  refine pure_ (i := 21) (N := some 108) (v := ?_) (a' := ?_) #[true, true, true, true, true, true, true, true, true, true, true, true, true, true, true, false, true, true, true, true, true, true, false, false, false] rfl rfl (by kernel_rfl) (fun _ _ _ h => h) (Or.inl ⟨by rfl, ?_⟩) ?_ ?_
                  rotate_left
                  · intro w'
                    go_simp
                    with_reducible rfl
                  rotate_left
                  · simp only [Act.put, List.setIfInBounds_toArray, List.set_cons_zero, List.set_cons_succ, i64_w, i32_w]
                    rfl
                  refine take_ (i := 15) (N := some 102) (v := ?_) (a' := ?_) #[true, true, true, true, true, true, true, true, true, true, true, true, true, true, true, true, true, true, true, true, true, true, false, false, false] rfl rfl (by kernel_rfl) (fun _ _ _ h => h) (Or.inl ⟨by rfl, ?_⟩) hHeld ?_ ?_
                  rotate_left
                  · intro w' _
                    go_simp
                    with_reducible rfl
                  rotate_left
                  · simp only [Act.put, List.setIfInBounds_toArray, List.set_cons_zero, List.set_cons_succ, i64_w, i32_w]
                    rfl
                  refine take_ (i := 22) (N := some 109) (v := ?_) (a' := ?_) #[true, true, true, true, true, true, true, true, true, true, true, true, true, true, true, true, true, true, true, true, true, true, true, false, false] rfl rfl (by kernel_rfl) (fun _ _ _ h => h) (Or.inl ⟨by rfl, ?_⟩) hHeld ?_ ?_
                  rotate_left
                  · intro w' _
                    go_simp
                    with_reducible rfl
                  rotate_left
                  · simp only [Act.put, List.setIfInBounds_toArray, List.set_cons_zero, List.set_cons_succ, i64_w, i32_w]
                    rfl
                  refine pure_ (i := 23) (N := some 110) (v := ?_) (a' := ?_) #[true, true, true, true, true, true, true, true, true, true, true, true, true, true, true, true, true, true, true, true, true, true, true, true, false] rfl rfl (by kernel_rfl) (fun _ _ _ h => h) (Or.inl ⟨by rfl, ?_⟩) ?_ ?_
                  rotate_left
                  · intro w'
                    go_simp
                    with_reducible rfl
                  rotate_left
                  · simp only [Act.put, List.setIfInBounds_toArray, List.set_cons_zero, List.set_cons_succ, i64_w, i32_w]
                    rfl
                  refine pure_ (i := 24) (N := some 111) (v := ?_) (a' := ?_) #[true, true, true, true, true, true, true, true, true, true, true, true, true, true, true, true, true, true, true, true, true, true, true, true, true] rfl rfl (by kernel_rfl) (fun _ _ _ h => h) (Or.inl ⟨by rfl, ?_⟩) ?_ ?_
                  rotate_left
                  · intro w'
                    go_simp
                    with_reducible rfl
                  rotate_left
                  · simp only [Act.put, List.setIfInBounds_toArray, List.set_cons_zero, List.set_cons_succ, i64_w, i32_w]
                    rfl
                  refine done_ (by kernel_rfl) ?_
                  go_wp2_with fail
                  go_meet
                  case rel => exact ⟨rfl, E2, K2⟩
                · have d3 : decide (z < s.size) = false := decide_eq_false hzs
                  clear hz
                  obtain ⟨wz1, wz2⟩ := w64_nat z hz6
                  refine start_ (n := 25) (S := fun w' => True) (ds := []) #[false, false, false, false, false, false, false, false, false, false, false, false, false, false, false, false, false, false, false, false, false, false, false, false, false] (by kernel_rfl) rfl rfl trivial (fun hHeld => ?_)
                  refine pure_ (i := 0) (N := some 87) (v := ?_) (a' := ?_) #[true, false, false, false, false, false, false, false, false, false, false, false, false, false, false, false, false, false, false, false, false, false, false, false, false] rfl rfl (by kernel_rfl) (fun _ _ _ h => h) (Or.inl ⟨by rfl, ?_⟩) ?_ ?_
                  rotate_left
                  · intro w'
                    go_simp
                    with_reducible rfl
                  rotate_left
                  · simp only [Act.put, List.setIfInBounds_toArray, List.set_cons_zero, List.set_cons_succ, i64_w, i32_w]
                    rfl
                  refine pure_ (i := 1) (N := some 88) (v := ?_) (a' := ?_) #[true, true, false, false, false, false, false, false, false, false, false, false, false, false, false, false, false, false, false, false, false, false, false, false, false] rfl rfl (by kernel_rfl) (fun _ _ _ h => h) (Or.inl ⟨by rfl, ?_⟩) ?_ ?_
                  rotate_left
                  · intro w'
                    go_simp
                    with_reducible rfl
                  rotate_left
                  · simp only [Act.put, List.setIfInBounds_toArray, List.set_cons_zero, List.set_cons_succ, i64_w, i32_w]
                    rfl
                  refine pure_ (i := 2) (N := some 89) (v := ?_) (a' := ?_) #[true, true, true, false, false, false, false, false, false, false, false, false, false, false, false, false, false, false, false, false, false, false, false, false, false] rfl rfl (by kernel_rfl) (fun _ _ _ h => h) (Or.inl ⟨by rfl, ?_⟩) ?_ ?_
                  rotate_left
                  · intro w'
                    go_simp
                    with_reducible rfl
                  rotate_left
                  · simp only [Act.put, List.setIfInBounds_toArray, List.set_cons_zero, List.set_cons_succ, i64_w, i32_w]
                    rfl
                  refine pure_ (i := 3) (N := some 90) (v := ?_) (a' := ?_) #[true, true, true, true, false, false, false, false, false, false, false, false, false, false, false, false, false, false, false, false, false, false, false, false, false] rfl rfl (by kernel_rfl) (fun _ _ _ h => h) (Or.inl ⟨by rfl, ?_⟩) ?_ ?_
                  rotate_left
                  · intro w'
                    go_simp
                    with_reducible rfl
                  rotate_left
                  · simp only [Act.put, List.setIfInBounds_toArray, List.set_cons_zero, List.set_cons_succ, i64_w, i32_w]
                    rfl
                  refine pure_ (i := 4) (N := some 91) (v := ?_) (a' := ?_) #[true, true, true, true, true, false, false, false, false, false, false, false, false, false, false, false, false, false, false, false, false, false, false, false, false] rfl rfl (by kernel_rfl) (fun _ _ _ h => h) (Or.inl ⟨by rfl, ?_⟩) ?_ ?_
                  rotate_left
                  · intro w'
                    go_simp
                    with_reducible rfl
                  rotate_left
                  · simp only [Act.put, List.setIfInBounds_toArray, List.set_cons_zero, List.set_cons_succ, i64_w, i32_w]
                    rfl
                  refine pure_ (i := 5) (N := some 92) (v := ?_) (a' := ?_) #[true, true, true, true, true, true, false, false, false, false, false, false, false, false, false, false, false, false, false, false, false, false, false, false, false] rfl rfl (by kernel_rfl) (fun _ _ _ h => h) (Or.inl ⟨by rfl, ?_⟩) ?_ ?_
                  rotate_left
                  · intro w'
                    go_simp
                    with_reducible rfl
                  rotate_left
                  · simp only [Act.put, List.setIfInBounds_toArray, List.set_cons_zero, List.set_cons_succ, i64_w, i32_w]
                    rfl
                  refine pure_ (i := 6) (N := some 93) (v := ?_) (a' := ?_) #[true, true, true, true, true, true, true, false, false, false, false, false, false, false, false, false, false, false, false, false, false, false, false, false, false] rfl rfl (by kernel_rfl) (fun _ _ _ h => h) (Or.inl ⟨by rfl, ?_⟩) ?_ ?_
                  rotate_left
                  · intro w'
                    go_simp
                    with_reducible rfl
                  rotate_left
                  · simp only [Act.put, List.setIfInBounds_toArray, List.set_cons_zero, List.set_cons_succ, i64_w, i32_w]
                    rfl
                  refine pure_ (i := 7) (N := some 94) (v := ?_) (a' := ?_) #[true, true, true, true, true, true, true, true, false, false, false, false, false, false, false, false, false, false, false, false, false, false, false, false, false] rfl rfl (by kernel_rfl) (fun _ _ _ h => h) (Or.inl ⟨by rfl, ?_⟩) ?_ ?_
                  rotate_left
                  · intro w'
                    go_simp
                    with_reducible rfl
                  rotate_left
                  · simp only [Act.put, List.setIfInBounds_toArray, List.set_cons_zero, List.set_cons_succ, i64_w, i32_w]
                    rfl
                  refine pure_ (i := 8) (N := some 95) (v := ?_) (a' := ?_) #[true, true, true, true, true, true, true, true, true, false, false, false, false, false, false, false, false, false, false, false, false, false, false, false, false] rfl rfl (by kernel_rfl) (fun _ _ _ h => h) (Or.inl ⟨by rfl, ?_⟩) ?_ ?_
                  rotate_left
                  · intro w'
                    go_simp
                    with_reducible rfl
                  rotate_left
                  · simp only [Act.put, List.setIfInBounds_toArray, List.set_cons_zero, List.set_cons_succ, i64_w, i32_w]
                    rfl
                  refine pure_ (i := 9) (N := some 96) (v := ?_) (a' := ?_) #[true, true, true, true, true, true, true, true, true, true, false, false, false, false, false, false, false, false, false, false, false, false, false, false, false] rfl rfl (by kernel_rfl) (fun _ _ _ h => h) (Or.inl ⟨by rfl, ?_⟩) ?_ ?_
                  rotate_left
                  · intro w'
                    go_simp
                    with_reducible rfl
                  rotate_left
                  · simp only [Act.put, List.setIfInBounds_toArray, List.set_cons_zero, List.set_cons_succ, i64_w, i32_w]
                    rfl
                  refine pure_ (i := 10) (N := some 97) (v := ?_) (a' := ?_) #[true, true, true, true, true, true, true, true, true, true, true, false, false, false, false, false, false, false, false, false, false, false, false, false, false] rfl rfl (by kernel_rfl) (fun _ _ _ h => h) (Or.inl ⟨by rfl, ?_⟩) ?_ ?_
                  rotate_left
                  · intro w'
                    go_simp
                    with_reducible rfl
                  rotate_left
                  · simp only [Act.put, List.setIfInBounds_toArray, List.set_cons_zero, List.set_cons_succ, i64_w, i32_w]
                    rfl
                  refine pure_ (i := 11) (N := some 98) (v := undef) (a' := ?_) #[true, true, true, true, true, true, true, true, true, true, true, true, false, false, false, false, false, false, false, false, false, false, false, false, false] rfl rfl (by kernel_rfl) (fun _ _ _ h => h) (Or.inr ⟨by rfl, rfl⟩) ?_ ?_
                  rotate_left
                  · simp only [Act.put, List.setIfInBounds_toArray, List.set_cons_zero, List.set_cons_succ, i64_w, i32_w]
                    rfl
                  refine pure_ (i := 12) (N := some 99) (v := undef) (a' := ?_) #[true, true, true, true, true, true, true, true, true, true, true, true, true, false, false, false, false, false, false, false, false, false, false, false, false] rfl rfl (by kernel_rfl) (fun _ _ _ h => h) (Or.inr ⟨by rfl, rfl⟩) ?_ ?_
                  rotate_left
                  · simp only [Act.put, List.setIfInBounds_toArray, List.set_cons_zero, List.set_cons_succ, i64_w, i32_w]
                    rfl
                  refine pure_ (i := 13) (N := some 100) (v := undef) (a' := ?_) #[true, true, true, true, true, true, true, true, true, true, true, true, true, true, false, false, false, false, false, false, false, false, false, false, false] rfl rfl (by kernel_rfl) (fun _ _ _ h => h) (Or.inr ⟨by rfl, rfl⟩) ?_ ?_
                  rotate_left
                  · simp only [Act.put, List.setIfInBounds_toArray, List.set_cons_zero, List.set_cons_succ, i64_w, i32_w]
                    rfl
                  refine pure_ (i := 14) (N := some 101) (v := undef) (a' := ?_) #[true, true, true, true, true, true, true, true, true, true, true, true, true, true, true, false, false, false, false, false, false, false, false, false, false] rfl rfl (by kernel_rfl) (fun _ _ _ h => h) (Or.inr ⟨by rfl, rfl⟩) ?_ ?_
                  rotate_left
                  · simp only [Act.put, List.setIfInBounds_toArray, List.set_cons_zero, List.set_cons_succ, i64_w, i32_w]
                    rfl
                  refine pure_ (i := 15) (N := some 102) (v := undef) (a' := ?_) #[true, true, true, true, true, true, true, true, true, true, true, true, true, true, true, true, false, false, false, false, false, false, false, false, false] rfl rfl (by kernel_rfl) (fun _ _ _ h => h) (Or.inr ⟨by rfl, rfl⟩) ?_ ?_
                  rotate_left
                  · simp only [Act.put, List.setIfInBounds_toArray, List.set_cons_zero, List.set_cons_succ, i64_w, i32_w]
                    rfl
                  refine pure_ (i := 16) (N := some 103) (v := undef) (a' := ?_) #[true, true, true, true, true, true, true, true, true, true, true, true, true, true, true, true, true, false, false, false, false, false, false, false, false] rfl rfl (by kernel_rfl) (fun _ _ _ h => h) (Or.inr ⟨by rfl, rfl⟩) ?_ ?_
                  rotate_left
                  · simp only [Act.put, List.setIfInBounds_toArray, List.set_cons_zero, List.set_cons_succ, i64_w, i32_w]
                    rfl
                  refine pure_ (i := 17) (N := some 104) (v := undef) (a' := ?_) #[true, true, true, true, true, true, true, true, true, true, true, true, true, true, true, true, true, true, false, false, false, false, false, false, false] rfl rfl (by kernel_rfl) (fun _ _ _ h => h) (Or.inr ⟨by rfl, rfl⟩) ?_ ?_
                  rotate_left
                  · simp only [Act.put, List.setIfInBounds_toArray, List.set_cons_zero, List.set_cons_succ, i64_w, i32_w]
                    rfl
                  refine pure_ (i := 18) (N := some 105) (v := undef) (a' := ?_) #[true, true, true, true, true, true, true, true, true, true, true, true, true, true, true, true, true, true, true, false, false, false, false, false, false] rfl rfl (by kernel_rfl) (fun _ _ _ h => h) (Or.inr ⟨by rfl, rfl⟩) ?_ ?_
                  rotate_left
                  · simp only [Act.put, List.setIfInBounds_toArray, List.set_cons_zero, List.set_cons_succ, i64_w, i32_w]
                    rfl
                  refine pure_ (i := 19) (N := some 106) (v := undef) (a' := ?_) #[true, true, true, true, true, true, true, true, true, true, true, true, true, true, true, true, true, true, true, true, false, false, false, false, false] rfl rfl (by kernel_rfl) (fun _ _ _ h => h) (Or.inr ⟨by rfl, rfl⟩) ?_ ?_
                  rotate_left
                  · simp only [Act.put, List.setIfInBounds_toArray, List.set_cons_zero, List.set_cons_succ, i64_w, i32_w]
                    rfl
                  refine pure_ (i := 20) (N := some 107) (v := undef) (a' := ?_) #[true, true, true, true, true, true, true, true, true, true, true, true, true, true, true, true, true, true, true, true, true, false, false, false, false] rfl rfl (by kernel_rfl) (fun _ _ _ h => h) (Or.inr ⟨by rfl, rfl⟩) ?_ ?_
                  rotate_left
                  · simp only [Act.put, List.setIfInBounds_toArray, List.set_cons_zero, List.set_cons_succ, i64_w, i32_w]
                    rfl
                  refine pure_ (i := 21) (N := some 108) (v := undef) (a' := ?_) #[true, true, true, true, true, true, true, true, true, true, true, true, true, true, true, true, true, true, true, true, true, true, false, false, false] rfl rfl (by kernel_rfl) (fun _ _ _ h => h) (Or.inr ⟨by rfl, rfl⟩) ?_ ?_
                  rotate_left
                  · simp only [Act.put, List.setIfInBounds_toArray, List.set_cons_zero, List.set_cons_succ, i64_w, i32_w]
                    rfl
                  refine pure_ (i := 22) (N := some 109) (v := undef) (a' := ?_) #[true, true, true, true, true, true, true, true, true, true, true, true, true, true, true, true, true, true, true, true, true, true, true, false, false] rfl rfl (by kernel_rfl) (fun _ _ _ h => h) (Or.inr ⟨by rfl, rfl⟩) ?_ ?_
                  rotate_left
                  · simp only [Act.put, List.setIfInBounds_toArray, List.set_cons_zero, List.set_cons_succ, i64_w, i32_w]
                    rfl
                  refine pure_ (i := 23) (N := some 110) (v := undef) (a' := ?_) #[true, true, true, true, true, true, true, true, true, true, true, true, true, true, true, true, true, true, true, true, true, true, true, true, false] rfl rfl (by kernel_rfl) (fun _ _ _ h => h) (Or.inr ⟨by rfl, rfl⟩) ?_ ?_
                  rotate_left
                  · simp only [Act.put, List.setIfInBounds_toArray, List.set_cons_zero, List.set_cons_succ, i64_w, i32_w]
                    rfl
                  refine pure_ (i := 24) (N := some 111) (v := ?_) (a' := ?_) #[true, true, true, true, true, true, true, true, true, true, true, true, true, true, true, true, true, true, true, true, true, true, true, true, true] rfl rfl (by kernel_rfl) (fun _ _ _ h => h) (Or.inl ⟨by rfl, ?_⟩) ?_ ?_
                  rotate_left
                  · intro w'
                    go_simp
                    with_reducible rfl
                  rotate_left
                  · simp only [Act.put, List.setIfInBounds_toArray, List.set_cons_zero, List.set_cons_succ, i64_w, i32_w]
                    rfl
                  refine done_ (by kernel_rfl) ?_
                  go_wp2_with fail
                  go_meet
                  case rel => exact ⟨rfl, E2, K2⟩
              · have d2 : decide ((n : Int) < 258) = false := decide_eq_false (by omega)
                clear hz
                refine start_ (n := 25) (S := fun w' => True) (ds := []) #[false, false, false, false, false, false, false, false, false, false, false, false, false, false, false, false, false, false, false, false, false, false, false, false, false] (by kernel_rfl) rfl rfl trivial (fun hHeld => ?_)
                refine pure_ (i := 0) (N := some 87) (v := ?_) (a' := ?_) #[true, false, false, false, false, false, false, false, false, false, false, false, false, false, false, false, false, false, false, false, false, false, false, false, false] rfl rfl (by kernel_rfl) (fun _ _ _ h => h) (Or.inl ⟨by rfl, ?_⟩) ?_ ?_
                rotate_left
                · intro w'
                  go_simp
                  with_reducible rfl
                rotate_left
                · simp only [Act.put, List.setIfInBounds_toArray, List.set_cons_zero, List.set_cons_succ, i64_w, i32_w]
                  rfl
                refine pure_ (i := 1) (N := some 88) (v := ?_) (a' := ?_) #[true, true, false, false, false, false, false, false, false, false, false, false, false, false, false, false, false, false, false, false, false, false, false, false, false] rfl rfl (by kernel_rfl) (fun _ _ _ h => h) (Or.inl ⟨by rfl, ?_⟩) ?_ ?_
                rotate_left
                · intro w'
                  go_simp
                  with_reducible rfl
                rotate_left
                · simp only [Act.put, List.setIfInBounds_toArray, List.set_cons_zero, List.set_cons_succ, i64_w, i32_w]
                  rfl
                refine pure_ (i := 2) (N := some 89) (v := ?_) (a' := ?_) #[true, true, true, false, false, false, false, false, false, false, false, false, false, false, false, false, false, false, false, false, false, false, false, false, false] rfl rfl (by kernel_rfl) (fun _ _ _ h => h) (Or.inl ⟨by rfl, ?_⟩) ?_ ?_
                rotate_left
                · intro w'
                  go_simp
                  with_reducible rfl
                rotate_left
                · simp only [Act.put, List.setIfInBounds_toArray, List.set_cons_zero, List.set_cons_succ, i64_w, i32_w]
                  rfl
                refine pure_ (i := 3) (N := some 90) (v := undef) (a' := ?_) #[true, true, true, true, false, false, false, false, false, false, false, false, false, false, false, false, false, false, false, false, false, false, false, false, false] rfl rfl (by kernel_rfl) (fun _ _ _ h => h) (Or.inr ⟨by rfl, rfl⟩) ?_ ?_
                rotate_left
                · simp only [Act.put, List.setIfInBounds_toArray, List.set_cons_zero, List.set_cons_succ, i64_w, i32_w]
                  rfl
                refine pure_ (i := 4) (N := some 91) (v := undef) (a' := ?_) #[true, true, true, true, true, false, false, false, false, false, false, false, false, false, false, false, false, false, false, false, false, false, false, false, false] rfl rfl (by kernel_rfl) (fun _ _ _ h => h) (Or.inr ⟨by rfl, rfl⟩) ?_ ?_
                rotate_left
                · simp only [Act.put, List.setIfInBounds_toArray, List.set_cons_zero, List.set_cons_succ, i64_w, i32_w]
                  rfl
                refine pure_ (i := 5) (N := some 92) (v := undef) (a' := ?_) #[true, true, true, true, true, true, false, false, false, false, false, false, false, false, false, false, false, false, false, false, false, false, false, false, false] rfl rfl (by kernel_rfl) (fun _ _ _ h => h) (Or.inr ⟨by rfl, rfl⟩) ?_ ?_
                rotate_left
                · simp only [Act.put, List.setIfInBounds_toArray, List.set_cons_zero, List.set_cons_succ, i64_w, i32_w]
                  rfl
                refine pure_ (i := 6) (N := some 93) (v := undef) (a' := ?_) #[true, true, true, true, true, true, true, false, false, false, false, false, false, false, false, false, false, false, false, false, false, false, false, false, false] rfl rfl (by kernel_rfl) (fun _ _ _ h => h) (Or.inr ⟨by rfl, rfl⟩) ?_ ?_
                rotate_left
                · simp only [Act.put, List.setIfInBounds_toArray, List.set_cons_zero, List.set_cons_succ, i64_w, i32_w]
                  rfl
                refine pure_ (i := 7) (N := some 94) (v := undef) (a' := ?_) #[true, true, true, true, true, true, true, true, false, false, false, false, false, false, false, false, false, false, false, false, false, false, false, false, false] rfl rfl (by kernel_rfl) (fun _ _ _ h => h) (Or.inr ⟨by rfl, rfl⟩) ?_ ?_
                rotate_left
                · simp only [Act.put, List.setIfInBounds_toArray, List.set_cons_zero, List.set_cons_succ, i64_w, i32_w]
                  rfl
                refine pure_ (i := 8) (N := some 95) (v := undef) (a' := ?_) #[true, true, true, true, true, true, true, true, true, false, false, false, false, false, false, false, false, false, false, false, false, false, false, false, false] rfl rfl (by kernel_rfl) (fun _ _ _ h => h) (Or.inr ⟨by rfl, rfl⟩) ?_ ?_
                rotate_left
                · simp only [Act.put, List.setIfInBounds_toArray, List.set_cons_zero, List.set_cons_succ, i64_w, i32_w]
                  rfl
                refine pure_ (i := 9) (N := some 96) (v := ?_) (a' := ?_) #[true, true, true, true, true, true, true, true, true, true, false, false, false, false, false, false, false, false, false, false, false, false, false, false, false] rfl rfl (by kernel_rfl) (fun _ _ _ h => h) (Or.inl ⟨by rfl, ?_⟩) ?_ ?_
                rotate_left
                · intro w'
                  go_simp
                  with_reducible rfl
                rotate_left
                · simp only [Act.put, List.setIfInBounds_toArray, List.set_cons_zero, List.set_cons_succ, i64_w, i32_w]
                  rfl
                refine pure_ (i := 10) (N := some 97) (v := ?_) (a' := ?_) #[true, true, true, true, true, true, true, true, true, true, true, false, false, false, false, false, false, false, false, false, false, false, false, false, false] rfl rfl (by kernel_rfl) (fun _ _ _ h => h) (Or.inl ⟨by rfl, ?_⟩) ?_ ?_
                rotate_left
                · intro w'
                  go_simp
                  with_reducible rfl
                rotate_left
                · simp only [Act.put, List.setIfInBounds_toArray, List.set_cons_zero, List.set_cons_succ, i64_w, i32_w]
                  rfl
                refine pure_ (i := 11) (N := some 98) (v := undef) (a' := ?_) #[true, true, true, true, true, true, true, true, true, true, true, true, false, false, false, false, false, false, false, false, false, false, false, false, false] rfl rfl (by kernel_rfl) (fun _ _ _ h => h) (Or.inr ⟨by rfl, rfl⟩) ?_ ?_
                rotate_left
                · simp only [Act.put, List.setIfInBounds_toArray, List.set_cons_zero, List.set_cons_succ, i64_w, i32_w]
                  rfl
                refine pure_ (i := 12) (N := some 99) (v := undef) (a' := ?_) #[true, true, true, true, true, true, true, true, true, true, true, true, true, false, false, false, false, false, false, false, false, false, false, false, false] rfl rfl (by kernel_rfl) (fun _ _ _ h => h) (Or.inr ⟨by rfl, rfl⟩) ?_ ?_
                rotate_left
                · simp only [Act.put, List.setIfInBounds_toArray, List.set_cons_zero, List.set_cons_succ, i64_w, i32_w]
                  rfl
                refine pure_ (i := 13) (N := some 100) (v := undef) (a' := ?_) #[true, true, true, true, true, true, true, true, true, true, true, true, true, true, false, false, false, false, false, false, false, false, false, false, false] rfl rfl (by kernel_rfl) (fun _ _ _ h => h) (Or.inr ⟨by rfl, rfl⟩) ?_ ?_
                rotate_left
                · simp only [Act.put, List.setIfInBounds_toArray, List.set_cons_zero, List.set_cons_succ, i64_w, i32_w]
                  rfl
                refine pure_ (i := 14) (N := some 101) (v := undef) (a' := ?_) #[true, true, true, true, true, true, true, true, true, true, true, true, true, true, true, false, false, false, false, false, false, false, false, false, false] rfl rfl (by kernel_rfl) (fun _ _ _ h => h) (Or.inr ⟨by rfl, rfl⟩) ?_ ?_
                rotate_left
                · simp only [Act.put, List.setIfInBounds_toArray, List.set_cons_zero, List.set_cons_succ, i64_w, i32_w]
                  rfl
                refine pure_ (i := 15) (N := some 102) (v := undef) (a' := ?_) #[true, true, true, true, true, true, true, true, true, true, true, true, true, true, true, true, false, false, false, false, false, false, false, false, false] rfl rfl (by kernel_rfl) (fun _ _ _ h => h) (Or.inr ⟨by rfl, rfl⟩) ?_ ?_
                rotate_left
                · simp only [Act.put, List.setIfInBounds_toArray, List.set_cons_zero, List.set_cons_succ, i64_w, i32_w]
                  rfl
                refine pure_ (i := 16) (N := some 103) (v := undef) (a' := ?_) #[true, true, true, true, true, true, true, true, true, true, true, true, true, true, true, true, true, false, false, false, false, false, false, false, false] rfl rfl (by kernel_rfl) (fun _ _ _ h => h) (Or.inr ⟨by rfl, rfl⟩) ?_ ?_
                rotate_left
                · simp only [Act.put, List.setIfInBounds_toArray, List.set_cons_zero, List.set_cons_succ, i64_w, i32_w]
                  rfl
                refine pure_ (i := 17) (N := some 104) (v := undef) (a' := ?_) #[true, true, true, true, true, true, true, true, true, true, true, true, true, true, true, true, true, true, false, false, false, false, false, false, false] rfl rfl (by kernel_rfl) (fun _ _ _ h => h) (Or.inr ⟨by rfl, rfl⟩) ?_ ?_
                rotate_left
                · simp only [Act.put, List.setIfInBounds_toArray, List.set_cons_zero, List.set_cons_succ, i64_w, i32_w]
                  rfl
                refine pure_ (i := 18) (N := some 105) (v := undef) (a' := ?_) #[true, true, true, true, true, true, true, true, true, true, true, true, true, true, true, true, true, true, true, false, false, false, false, false, false] rfl rfl (by kernel_rfl) (fun _ _ _ h => h) (Or.inr ⟨by rfl, rfl⟩) ?_ ?_
                rotate_left
                · simp only [Act.put, List.setIfInBounds_toArray, List.set_cons_zero, List.set_cons_succ, i64_w, i32_w]
                  rfl
                refine pure_ (i := 19) (N := some 106) (v := undef) (a' := ?_) #[true, true, true, true, true, true, true, true, true, true, true, true, true, true, true, true, true, true, true, true, false, false, false, false, false] rfl rfl (by kernel_rfl) (fun _ _ _ h => h) (Or.inr ⟨by rfl, rfl⟩) ?_ ?_
                rotate_left
                · simp only [Act.put, List.setIfInBounds_toArray, List.set_cons_zero, List.set_cons_succ, i64_w, i32_w]
                  rfl
                refine pure_ (i := 20) (N := some 107) (v := undef) (a' := ?_) #[true, true, true, true, true, true, true, true, true, true, true, true, true, true, true, true, true, true, true, true, true, false, false, false, false] rfl rfl (by kernel_rfl) (fun _ _ _ h => h) (Or.inr ⟨by rfl, rfl⟩) ?_ ?_
                rotate_left
                · simp only [Act.put, List.setIfInBounds_toArray, List.set_cons_zero, List.set_cons_succ, i64_w, i32_w]
                  rfl
                refine pure_ (i := 21) (N := some 108) (v := undef) (a' := ?_) #[true, true, true, true, true, true, true, true, true, true, true, true, true, true, true, true, true, true, true, true, true, true, false, false, false] rfl rfl (by kernel_rfl) (fun _ _ _ h => h) (Or.inr ⟨by rfl, rfl⟩) ?_ ?_
                rotate_left
                · simp only [Act.put, List.setIfInBounds_toArray, List.set_cons_zero, List.set_cons_succ, i64_w, i32_w]
                  rfl
                refine pure_ (i := 22) (N := some 109) (v := undef) (a' := ?_) #[true, true, true, true, true, true, true, true, true, true, true, true, true, true, true, true, true, true, true, true, true, true, true, false, false] rfl rfl (by kernel_rfl) (fun _ _ _ h => h) (Or.inr ⟨by rfl, rfl⟩) ?_ ?_
                rotate_left
                · simp only [Act.put, List.setIfInBounds_toArray, List.set_cons_zero, List.set_cons_succ, i64_w, i32_w]
                  rfl
                refine pure_ (i := 23) (N := some 110) (v := undef) (a' := ?_) #[true, true, true, true, true, true, true, true, true, true, true, true, true, true, true, true, true, true, true, true, true, true, true, true, false] rfl rfl (by kernel_rfl) (fun _ _ _ h => h) (Or.inr ⟨by rfl, rfl⟩) ?_ ?_
                rotate_left
                · simp only [Act.put, List.setIfInBounds_toArray, List.set_cons_zero, List.set_cons_succ, i64_w, i32_w]
                  rfl
                refine pure_ (i := 24) (N := some 111) (v := ?_) (a' := ?_) #[true, true, true, true, true, true, true, true, true, true, true, true, true, true, true, true, true, true, true, true, true, true, true, true, true] rfl rfl (by kernel_rfl) (fun _ _ _ h => h) (Or.inl ⟨by rfl, ?_⟩) ?_ ?_
                rotate_left
                · intro w'
                  go_simp
                  with_reducible rfl
                rotate_left
                · simp only [Act.put, List.setIfInBounds_toArray, List.set_cons_zero, List.set_cons_succ, i64_w, i32_w]
                  rfl
                refine done_ (by kernel_rfl) ?_
                go_wp2_with fail
                go_meet
                case rel => exact ⟨rfl, E2, K2⟩
            case rest =>
              obtain ⟨rfl, E2, K2⟩ := hcut
              clear E1 K1 HE7
              go_wp2_with fail
              go_loopw [11] (fun v wz => ∃ near : Nat, 1 ≤ near ∧ near ≤ dd ∧ v = .int .i64 (near : Int) ∧ Aside0 (EnvR w wz Z a b c1 d) ∧ Aside0 (Below w4.heap.size w4 wz)) (fun v _ => dd - (intOf v).toNat)
              case atStart => exact ⟨1, Nat.le_refl _, g3, rfl, E2, K2⟩
              case round =>
                obtain ⟨near, n1, n2, rfl, E3, K3⟩ := hrel
                clear E2 K2
                by_cases hnd : near < dd
                · have HN := Aside0.mk (HN8.out near n1 hnd)
                  go_wp2_with fail
                  go_loopw [12] (fun v wy => ∃ x : Nat, x ≤ n ∧ v = .int .i64 (x : Int) ∧ Aside0 (Sames s p near x) ∧ Aside0 (EnvR w wy Z a b c1 d) ∧ Aside0 (Below w4.heap.size w4 wy)) (fun v _ => n - (intOf v).toNat)
                  case atStart => exact ⟨0, Nat.zero_le _, rfl, Aside0.mk (fun i hi => absurd hi (Nat.not_lt_zero _)), E3, K3⟩
                  case round =>
                    obtain ⟨x, hx, rfl, HS, E4, K4⟩ := hrel
                    have hxn : x < n := by
                      rcases Nat.lt_or_ge x n with h | h
                      · exact h
                      · obtain rfl : x = n := by omega
                        exact absurd (sames_all HS.out g2 g6 HN.out) id
                    clear E3 K3
                    have E5 := Aside0.mk (show EnvR w wr.drew Z a b c1 d from ⟨E4.out.blk, below_drew E4.out.bel⟩)
                    have K5 := Aside0.mk (below_drew K4.out)
                    obtain ⟨z, hz⟩ : ∃ z, z = p + x := ⟨_, rfl⟩
                    have hs2 : (p : Int) + (x : Int) = (z : Int) := by omega
                    have hz6 : z ≤ 1000000 := by omega
                    have hzs : z < s.size := by omega
                    obtain ⟨y, hy⟩ : ∃ y, z = y + near := ⟨z - near, by omega⟩
                    have hsub2 : (z : Int) - (near : Int) = (y : Int) := by omega
                    have hly : y < s.size := by omega
                    have hy6 : y ≤ 1000000 := by omega
                    have hyz : z - near = y := by omega
                    have d4 : decide (x < n) = true := decide_eq_true hxn
                    have hat1 := byte_at s z
                    have hat2 := byte_at s y
                    cases hb : same s z y with
                    | true =>
                      have hbn : (bt s (z : Int) == bt s (y : Int)) = true := by rw [(bt_same hzs hly).2 hb]; exact beq_self_eq_true _
                      have HS2 := Aside0.mk (show Sames s p near (x + 1) from fun i hi => by
                        by_cases e : i = x
                        · rw [e, ← hz, hyz]; exact hb
                        · exact HS.out i (by omega))
                      generalize bt s (z : Int) = x1 at hat1 hbn
                      generalize bt s (y : Int) = x2 at hat2 hbn
                      clear hz hy hb hyz HS
                      obtain ⟨wz1, wz2⟩ := w64_nat z hz6
                      obtain ⟨wy1, wy2⟩ := w64_nat y hy6
                      go_upto_region 24 with fail
                      refine start_ (n := 18) (S := fun w' => True) (ds := []) #[false, false, false, false, false, false, false, false, false, false, false, false, false, false, false, false, false, false] (by kernel_rfl) rfl rfl trivial (fun hHeld => ?_)
                      refine pure_ (i := 0) (N := some 117) (v := ?_) (a' := ?_) #[true, false, false, false, false, false, false, false, false, false, false, false, false, false, false, false, false, false] rfl rfl (by kernel_rfl) (fun _ _ _ h => h) (Or.inl ⟨by rfl, ?_⟩) ?_ ?_
                      rotate_left
                      · intro w'
                        go_simp
                        with_reducible rfl
                      rotate_left
                      · simp only [Act.put, List.setIfInBounds_toArray, List.set_cons_zero, List.set_cons_succ, i64_w, i32_w]
                        rfl
                      refine pure_ (i := 1) (N := some 118) (v := ?_) (a' := ?_) #[true, true, false, false, false, false, false, false, false, false, false, false, false, false, false, false, false, false] rfl rfl (by kernel_rfl) (fun _ _ _ h => h) (Or.inl ⟨by rfl, ?_⟩) ?_ ?_
                      rotate_left
                      · intro w'
                        go_simp
                        with_reducible rfl
                      rotate_left
                      · simp only [Act.put, List.setIfInBounds_toArray, List.set_cons_zero, List.set_cons_succ, i64_w, i32_w]
                        rfl
                      refine pure_ (i := 2) (N := some 119) (v := ?_) (a' := ?_) #[true, true, true, false, false, false, false, false, false, false, false, false, false, false, false, false, false, false] rfl rfl (by kernel_rfl) (fun _ _ _ h => h) (Or.inl ⟨by rfl, ?_⟩) ?_ ?_
                      rotate_left
                      · intro w'
                        go_simp
                        with_reducible rfl
                      rotate_left
                      · simp only [Act.put, List.setIfInBounds_toArray, List.set_cons_zero, List.set_cons_succ, i64_w, i32_w]
                        rfl
                      refine pure_ (i := 3) (N := some 120) (v := ?_) (a' := ?_) #[true, true, true, true, false, false, false, false, false, false, false, false, false, false, false, false, false, false] rfl rfl (by kernel_rfl) (fun _ _ _ h => h) (Or.inl ⟨by rfl, ?_⟩) ?_ ?_
                      rotate_left
                      · intro w'
                        go_simp
                        with_reducible rfl
                      rotate_left
                      · simp only [Act.put, List.setIfInBounds_toArray, List.set_cons_zero, List.set_cons_succ, i64_w, i32_w]
                        rfl
                      refine pure_ (i := 4) (N := some 121) (v := ?_) (a' := ?_) #[true, true, true, true, true, false, false, false, false, false, false, false, false, false, false, false, false, false] rfl rfl (by kernel_rfl) (fun _ _ _ h => h) (Or.inl ⟨by rfl, ?_⟩) ?_ ?_
                      rotate_left
                      · intro w'
                        go_simp
                        with_reducible rfl
                      rotate_left
                      · simp only [Act.put, List.setIfInBounds_toArray, List.set_cons_zero, List.set_cons_succ, i64_w, i32_w]
                        rfl
                      refine pure_ (i := 5) (N := some 122) (v := ?_) (a' := ?_) #[true, true, true, true, true, true, false, false, false, false, false, false, false, false, false, false, false, false] rfl rfl (by kernel_rfl) (fun _ _ _ h => h) (Or.inl ⟨by rfl, ?_⟩) ?_ ?_
                      rotate_left
                      · intro w'
                        go_simp
                        with_reducible rfl
                      rotate_left
                      · simp only [Act.put, List.setIfInBounds_toArray, List.set_cons_zero, List.set_cons_succ, i64_w, i32_w]
                        rfl
                      refine pure_ (i := 6) (N := some 123) (v := ?_) (a' := ?_) #[true, true, true, true, true, true, true, false, false, false, false, false, false, false, false, false, false, false] rfl rfl (by kernel_rfl) (fun _ _ _ h => h) (Or.inl ⟨by rfl, ?_⟩) ?_ ?_
                      rotate_left
                      · intro w'
                        go_simp
                        with_reducible rfl
                      rotate_left
                      · simp only [Act.put, List.setIfInBounds_toArray, List.set_cons_zero, List.set_cons_succ, i64_w, i32_w]
                        rfl
                      refine pure_ (i := 7) (N := some 124) (v := ?_) (a' := ?_) #[true, true, true, true, true, true, true, true, false, false, false, false, false, false, false, false, false, false] rfl rfl (by kernel_rfl) (fun _ _ _ h => h) (Or.inl ⟨by rfl, ?_⟩) ?_ ?_
                      rotate_left
                      · intro w'
                        go_simp
                        with_reducible rfl
                      rotate_left
                      · simp only [Act.put, List.setIfInBounds_toArray, List.set_cons_zero, List.set_cons_succ, i64_w, i32_w]
                        rfl
                      refine pure_ (i := 9) (N := some 126) (v := ?_) (a' := ?_) #[true, true, true, true, true, true, true, true, false, true, false, false, false, false, false, false, false, false] rfl rfl (by kernel_rfl) (fun _ _ _ h => h) (Or.inl ⟨by rfl, ?_⟩) ?_ ?_
                      rotate_left
                      · intro w'
                        go_simp
                        with_reducible rfl
                      rotate_left
                      · simp only [Act.put, List.setIfInBounds_toArray, List.set_cons_zero, List.set_cons_succ, i64_w, i32_w]
                        rfl
                      refine pure_ (i := 10) (N := some 127) (v := ?_) (a' := ?_) #[true, true, true, true, true, true, true, true, false, true, true, false, false, false, false, false, false, false] rfl rfl (by kernel_rfl) (fun _ _ _ h => h) (Or.inl ⟨by rfl, ?_⟩) ?_ ?_
                      rotate_left
                      · intro w'
                        go_simp
                        with_reducible rfl
                      rotate_left
                      · simp only [Act.put, List.setIfInBounds_toArray, List.set_cons_zero, List.set_cons_succ, i64_w, i32_w]
                        rfl
                      refine pure_ (i := 11) (N := some 128) (v := ?_) (a' := ?_) #[true, true, true, true, true, true, true, true, false, true, true, true, false, false, false, false, false, false] rfl rfl (by kernel_rfl) (fun _ _ _ h => h) (Or.inl ⟨by rfl, ?_⟩) ?_ ?_
                      rotate_left
                      · intro w'
                        go_simp
                        with_reducible rfl
                      rotate_left
                      · simp only [Act.put, List.setIfInBounds_toArray, List.set_cons_zero, List.set_cons_succ, i64_w, i32_w]
                        rfl
                      refine pure_ (i := 12) (N := some 129) (v := ?_) (a' := ?_) #[true, true, true, true, true, true, true, true, false, true, true, true, true, false, false, false, false, false] rfl rfl (by kernel_rfl) (fun _ _ _ h => h) (Or.inl ⟨by rfl, ?_⟩) ?_ ?_
                      rotate_left
                      · intro w'
                        go_simp
                        with_reducible rfl
                      rotate_left
                      · simp only [Act.put, List.setIfInBounds_toArray, List.set_cons_zero, List.set_cons_succ, i64_w, i32_w]
                        rfl
                      refine pure_ (i := 13) (N := some 130) (v := ?_) (a' := ?_) #[true, true, true, true, true, true, true, true, false, true, true, true, true, true, false, false, false, false] rfl rfl (by kernel_rfl) (fun _ _ _ h => h) (Or.inl ⟨by rfl, ?_⟩) ?_ ?_
                      rotate_left
                      · intro w'
                        go_simp
                        with_reducible rfl
                      rotate_left
                      · simp only [Act.put, List.setIfInBounds_toArray, List.set_cons_zero, List.set_cons_succ, i64_w, i32_w]
                        rfl
                      refine pure_ (i := 14) (N := some 131) (v := ?_) (a' := ?_) #[true, true, true, true, true, true, true, true, false, true, true, true, true, true, true, false, false, false] rfl rfl (by kernel_rfl) (fun _ _ _ h => h) (Or.inl ⟨by rfl, ?_⟩) ?_ ?_
                      rotate_left
                      · intro w'
                        go_simp
                        with_reducible rfl
                      rotate_left
                      · simp only [Act.put, List.setIfInBounds_toArray, List.set_cons_zero, List.set_cons_succ, i64_w, i32_w]
                        rfl
                      refine take_ (i := 8) (N := some 125) (v := ?_) (a' := ?_) #[true, true, true, true, true, true, true, true, true, true, true, true, true, true, true, false, false, false] rfl rfl (by kernel_rfl) (fun _ _ _ h => h) (Or.inl ⟨by rfl, ?_⟩) hHeld ?_ ?_
                      rotate_left
                      · intro w' _
                        go_simp
                        with_reducible rfl
                      rotate_left
                      · simp only [Act.put, List.setIfInBounds_toArray, List.set_cons_zero, List.set_cons_succ, i64_w, i32_w]
                        rfl
                      refine take_ (i := 15) (N := some 132) (v := ?_) (a' := ?_) #[true, true, true, true, true, true, true, true, true, true, true, true, true, true, true, true, false, false] rfl rfl (by kernel_rfl) (fun _ _ _ h => h) (Or.inl ⟨by rfl, ?_⟩) hHeld ?_ ?_
                      rotate_left
                      · intro w' _
                        go_simp
                        with_reducible rfl
                      rotate_left
                      · simp only [Act.put, List.setIfInBounds_toArray, List.set_cons_zero, List.set_cons_succ, i64_w, i32_w]
                        rfl
                      refine pure_ (i := 16) (N := some 133) (v := ?_) (a' := ?_) #[true, true, true, true, true, true, true, true, true, true, true, true, true, true, true, true, true, false] rfl rfl (by kernel_rfl) (fun _ _ _ h => h) (Or.inl ⟨by rfl, ?_⟩) ?_ ?_
                      rotate_left
                      · intro w'
                        go_simp
                        with_reducible rfl
                      rotate_left
                      · simp only [Act.put, List.setIfInBounds_toArray, List.set_cons_zero, List.set_cons_succ, i64_w, i32_w]
                        rfl
                      refine pure_ (i := 17) (N := some 134) (v := ?_) (a' := ?_) #[true, true, true, true, true, true, true, true, true, true, true, true, true, true, true, true, true, true] rfl rfl (by kernel_rfl) (fun _ _ _ h => h) (Or.inl ⟨by rfl, ?_⟩) ?_ ?_
                      rotate_left
                      · intro w'
                        go_simp
                        with_reducible rfl
                      rotate_left
                      · simp only [Act.put, List.setIfInBounds_toArray, List.set_cons_zero, List.set_cons_succ, i64_w, i32_w]
                        rfl
                      refine done_ (by kernel_rfl) ?_
                      clear hat1 hat2 hbn hsub2 wz1 wz2 wy1 wy2 hs2
                      go_wp2_with fail
                      go_roundw
                      case rel => exact ⟨x + 1, by omega, by go_num, HS2, E5, K5⟩
                      case measure => simp [intOf]; omega
                    | false =>
                      have hbn := bt_ne hzs hly hb
                      generalize bt s (z : Int) = x1 at hat1 hbn
                      generalize bt s (y : Int) = x2 at hat2 hbn
                      clear hz hy hb hyz HS
                      obtain ⟨wz1, wz2⟩ := w64_nat z hz6
                      obtain ⟨wy1, wy2⟩ := w64_nat y hy6
                      go_upto_region 24 with fail
                      refine start_ (n := 18) (S := fun w' => True) (ds := []) #[false, false, false, false, false, false, false, false, false, false, false, false, false, false, false, false, false, false] (by kernel_rfl) rfl rfl trivial (fun hHeld => ?_)
                      refine pure_ (i := 0) (N := some 117) (v := ?_) (a' := ?_) #[true, false, false, false, false, false, false, false, false, false, false, false, false, false, false, false, false, false] rfl rfl (by kernel_rfl) (fun _ _ _ h => h) (Or.inl ⟨by rfl, ?_⟩) ?_ ?_
                      rotate_left
                      · intro w'
                        go_simp
                        with_reducible rfl
                      rotate_left
                      · simp only [Act.put, List.setIfInBounds_toArray, List.set_cons_zero, List.set_cons_succ, i64_w, i32_w]
                        rfl
                      refine pure_ (i := 1) (N := some 118) (v := ?_) (a' := ?_) #[true, true, false, false, false, false, false, false, false, false, false, false, false, false, false, false, false, false] rfl rfl (by kernel_rfl) (fun _ _ _ h => h) (Or.inl ⟨by rfl, ?_⟩) ?_ ?_
                      rotate_left
                      · intro w'
                        go_simp
                        with_reducible rfl
                      rotate_left
                      · simp only [Act.put, List.setIfInBounds_toArray, List.set_cons_zero, List.set_cons_succ, i64_w, i32_w]
                        rfl
                      refine pure_ (i := 2) (N := some 119) (v := ?_) (a' := ?_) #[true, true, true, false, false, false, false, false, false, false, false, false, false, false, false, false, false, false] rfl rfl (by kernel_rfl) (fun _ _ _ h => h) (Or.inl ⟨by rfl, ?_⟩) ?_ ?_
                      rotate_left
                      · intro w'
                        go_simp
                        with_reducible rfl
                      rotate_left
                      · simp only [Act.put, List.setIfInBounds_toArray, List.set_cons_zero, List.set_cons_succ, i64_w, i32_w]
                        rfl
                      refine pure_ (i := 3) (N := some 120) (v := ?_) (a' := ?_) #[true, true, true, true, false, false, false, false, false, false, false, false, false, false, false, false, false, false] rfl rfl (by kernel_rfl) (fun _ _ _ h => h) (Or.inl ⟨by rfl, ?_⟩) ?_ ?_
                      rotate_left
                      · intro w'
                        go_simp
                        with_reducible rfl
                      rotate_left
                      · simp only [Act.put, List.setIfInBounds_toArray, List.set_cons_zero, List.set_cons_succ, i64_w, i32_w]
                        rfl
                      refine pure_ (i := 4) (N := some 121) (v := ?_) (a' := ?_) #[true, true, true, true, true, false, false, false, false, false, false, false, false, false, false, false, false, false] rfl rfl (by kernel_rfl) (fun _ _ _ h => h) (Or.inl ⟨by rfl, ?_⟩) ?_ ?_
                      rotate_left
                      · intro w'
                        go_simp
                        with_reducible rfl
                      rotate_left
                      · simp only [Act.put, List.setIfInBounds_toArray, List.set_cons_zero, List.set_cons_succ, i64_w, i32_w]
                        rfl
                      refine pure_ (i := 5) (N := some 122) (v := ?_) (a' := ?_) #[true, true, true, true, true, true, false, false, false, false, false, false, false, false, false, false, false, false] rfl rfl (by kernel_rfl) (fun _ _ _ h => h) (Or.inl ⟨by rfl, ?_⟩) ?_ ?_
                      rotate_left
                      · intro w'
                        go_simp
                        with_reducible rfl
                      rotate_left
                      · simp only [Act.put, List.setIfInBounds_toArray, List.set_cons_zero, List.set_cons_succ, i64_w, i32_w]
                        rfl
                      refine pure_ (i := 6) (N := some 123) (v := ?_) (a' := ?_) #[true, true, true, true, true, true, true, false, false, false, false, false, false, false, false, false, false, false] rfl rfl (by kernel_rfl) (fun _ _ _ h => h) (Or.inl ⟨by rfl, ?_⟩) ?_ ?_
                      rotate_left
                      · intro w'
                        go_simp
                        with_reducible rfl
                      rotate_left
                      · simp only [Act.put, List.setIfInBounds_toArray, List.set_cons_zero, List.set_cons_succ, i64_w, i32_w]
                        rfl
                      refine pure_ (i := 7) (N := some 124) (v := ?_) (a' := ?_) #[true, true, true, true, true, true, true, true, false, false, false, false, false, false, false, false, false, false] rfl rfl (by kernel_rfl) (fun _ _ _ h => h) (Or.inl ⟨by rfl, ?_⟩) ?_ ?_
                      rotate_left
                      · intro w'
                        go_simp
                        with_reducible rfl
                      rotate_left
                      · simp only [Act.put, List.setIfInBounds_toArray, List.set_cons_zero, List.set_cons_succ, i64_w, i32_w]
                        rfl
                      refine pure_ (i := 9) (N := some 126) (v := ?_) (a' := ?_) #[true, true, true, true, true, true, true, true, false, true, false, false, false, false, false, false, false, false] rfl rfl (by kernel_rfl) (fun _ _ _ h => h) (Or.inl ⟨by rfl, ?_⟩) ?_ ?_
                      rotate_left
                      · intro w'
                        go_simp
                        with_reducible rfl
                      rotate_left
                      · simp only [Act.put, List.setIfInBounds_toArray, List.set_cons_zero, List.set_cons_succ, i64_w, i32_w]
                        rfl
                      refine pure_ (i := 10) (N := some 127) (v := ?_) (a' := ?_) #[true, true, true, true, true, true, true, true, false, true, true, false, false, false, false, false, false, false] rfl rfl (by kernel_rfl) (fun _ _ _ h => h) (Or.inl ⟨by rfl, ?_⟩) ?_ ?_
                      rotate_left
                      · intro w'
                        go_simp
                        with_reducible rfl
                      rotate_left
                      · simp only [Act.put, List.setIfInBounds_toArray, List.set_cons_zero, List.set_cons_succ, i64_w, i32_w]
                        rfl
                      refine pure_ (i := 11) (N := some 128) (v := ?_) (a' := ?_) #[true, true, true, true, true, true, true, true, false, true, true, true, false, false, false, false, false, false] rfl rfl (by kernel_rfl) (fun _ _ _ h => h) (Or.inl ⟨by rfl, ?_⟩) ?_ ?_
                      rotate_left
                      · intro w'
                        go_simp
                        with_reducible rfl
                      rotate_left
                      · simp only [Act.put, List.setIfInBounds_toArray, List.set_cons_zero, List.set_cons_succ, i64_w, i32_w]
                        rfl
                      refine pure_ (i := 12) (N := some 129) (v := ?_) (a' := ?_) #[true, true, true, true, true, true, true, true, false, true, true, true, true, false, false, false, false, false] rfl rfl (by kernel_rfl) (fun _ _ _ h => h) (Or.inl ⟨by rfl, ?_⟩) ?_ ?_
                      rotate_left
                      · intro w'
                        go_simp
                        with_reducible rfl
                      rotate_left
                      · simp only [Act.put, List.setIfInBounds_toArray, List.set_cons_zero, List.set_cons_succ, i64_w, i32_w]
                        rfl
                      refine pure_ (i := 13) (N := some 130) (v := ?_) (a' := ?_) #[true, true, true, true, true, true, true, true, false, true, true, true, true, true, false, false, false, false] rfl rfl (by kernel_rfl) (fun _ _ _ h => h) (Or.inl ⟨by rfl, ?_⟩) ?_ ?_
                      rotate_left
                      · intro w'
                        go_simp
                        with_reducible rfl
                      rotate_left
                      · simp only [Act.put, List.setIfInBounds_toArray, List.set_cons_zero, List.set_cons_succ, i64_w, i32_w]
                        rfl
                      refine pure_ (i := 14) (N := some 131) (v := ?_) (a' := ?_) #[true, true, true, true, true, true, true, true, false, true, true, true, true, true, true, false, false, false] rfl rfl (by kernel_rfl) (fun _ _ _ h => h) (Or.inl ⟨by rfl, ?_⟩) ?_ ?_
                      rotate_left
                      · intro w'
                        go_simp
                        with_reducible rfl
                      rotate_left
                      · simp only [Act.put, List.setIfInBounds_toArray, List.set_cons_zero, List.set_cons_succ, i64_w, i32_w]
                        rfl
                      refine take_ (i := 8) (N := some 125) (v := ?_) (a' := ?_) #[true, true, true, true, true, true, true, true, true, true, true, true, true, true, true, false, false, false] rfl rfl (by kernel_rfl) (fun _ _ _ h => h) (Or.inl ⟨by rfl, ?_⟩) hHeld ?_ ?_
                      rotate_left
                      · intro w' _
                        go_simp
                        with_reducible rfl
                      rotate_left
                      · simp only [Act.put, List.setIfInBounds_toArray, List.set_cons_zero, List.set_cons_succ, i64_w, i32_w]
                        rfl
                      refine take_ (i := 15) (N := some 132) (v := ?_) (a' := ?_) #[true, true, true, true, true, true, true, true, true, true, true, true, true, true, true, true, false, false] rfl rfl (by kernel_rfl) (fun _ _ _ h => h) (Or.inl ⟨by rfl, ?_⟩) hHeld ?_ ?_
                      rotate_left
                      · intro w' _
                        go_simp
                        with_reducible rfl
                      rotate_left
                      · simp only [Act.put, List.setIfInBounds_toArray, List.set_cons_zero, List.set_cons_succ, i64_w, i32_w]
                        rfl
                      refine pure_ (i := 16) (N := some 133) (v := ?_) (a' := ?_) #[true, true, true, true, true, true, true, true, true, true, true, true, true, true, true, true, true, false] rfl rfl (by kernel_rfl) (fun _ _ _ h => h) (Or.inl ⟨by rfl, ?_⟩) ?_ ?_
                      rotate_left
                      · intro w'
                        go_simp
                        with_reducible rfl
                      rotate_left
                      · simp only [Act.put, List.setIfInBounds_toArray, List.set_cons_zero, List.set_cons_succ, i64_w, i32_w]
                        rfl
                      refine pure_ (i := 17) (N := some 134) (v := ?_) (a' := ?_) #[true, true, true, true, true, true, true, true, true, true, true, true, true, true, true, true, true, true] rfl rfl (by kernel_rfl) (fun _ _ _ h => h) (Or.inl ⟨by rfl, ?_⟩) ?_ ?_
                      rotate_left
                      · intro w'
                        go_simp
                        with_reducible rfl
                      rotate_left
                      · simp only [Act.put, List.setIfInBounds_toArray, List.set_cons_zero, List.set_cons_succ, i64_w, i32_w]
                        rfl
                      refine done_ (by kernel_rfl) ?_
                      clear hat1 hat2 hbn hsub2 wz1 wz2 wy1 wy2 hs2
                      have hxe : (x == n) = false := beq_eq_false_iff_ne.mpr (by omega)
                      have hxe2 : ((x : Int) == (n : Int)) = false := beq_eq_false_iff_ne.mpr (by omega)
                      go_wp2_with fail
                      go_roundw
                      case rel => exact ⟨near + 1, by omega, by omega, by go_num, E5, K5⟩
                      case measure => simp [intOf]; omega
                · obtain rfl : near = dd := by omega
                  have c0 : wr.cell? ⟨Z, 0, none⟩ = some (.int .i64 a) := E3.out.at_ 0 (by decide)
                  have e1 : wr.cell? ⟨Z, 1, none⟩ = some (.int .i64 b) := E3.out.at_ 1 (by decide)
                  have e2 : wr.cell? ⟨Z, 2, none⟩ = some (.int .i64 c1) := E3.out.at_ 2 (by decide)
                  have e3 : wr.cell? ⟨Z, 3, none⟩ = some (.int .i64 d) := E3.out.at_ 3 (by decide)
                  go_wp2_with fail
                  clear c0 e1 e2 e3
                  refine (token_Front_calls a b c1 d near _).mono ?_
                  rintro e w6 ⟨rfl, hb6⟩
                  have E4 := Aside0.mk (EnvR.below E3.out hb6)
                  have K4 := Aside0.mk (K3.out.trans (hb6.mono K3.out.size))
                  clear hb6 E3 K3
                  obtain ⟨⟨fa, fb, fc, fd⟩, hfr⟩ : ∃ z, front a b c1 d (near : Int) = z := ⟨_, rfl⟩
                  rw [hfr] at HL2 ⊢
                  clear hfr
                  dsimp only at HL2 ⊢
                  have f0 : w6.frozen? ⟨Z, 0, none⟩ = false := blk_frozen E4.out.blk 0
                  have f1 : w6.frozen? ⟨Z, 1, none⟩ = false := blk_frozen E4.out.blk 1
                  have f2 : w6.frozen? ⟨Z, 2, none⟩ = false := blk_frozen E4.out.blk 2
                  have f3 : w6.frozen? ⟨Z, 3, none⟩ = false := blk_frozen E4.out.blk 3
                  have q0 : w6.cell? ⟨Z, 0, none⟩ = some (.int .i64 a) := E4.out.at_ 0 (by decide)
                  have q1 : w6.cell? ⟨Z, 1, none⟩ = some (.int .i64 b) := E4.out.at_ 1 (by decide)
                  have q2 : w6.cell? ⟨Z, 2, none⟩ = some (.int .i64 c1) := E4.out.at_ 2 (by decide)
                  have q3 : w6.cell? ⟨Z, 3, none⟩ = some (.int .i64 d) := E4.out.at_ 3 (by decide)
                  have E5 := Aside0.mk (E4.out.row (by rw [HZ.out]; exact HB4.out.size) fa fb fc fd)
                  have hzw : w4.heap.size ≤ Z := by rw [HZ.out]; exact Nat.le_refl _
                  have K5 := Aside0.mk ((((K4.out.setCell (p := ⟨Z, 0, none⟩) hzw (.int .i64 fa)).setCell (p := ⟨Z, 1, none⟩) hzw (.int .i64 fb)).setCell (p := ⟨Z, 2, none⟩) hzw (.int .i64 fc)).setCell (p := ⟨Z, 3, none⟩) hzw (.int .i64 fd))
                  clear E4 K4 hzw
                  unfold rowVal
                  go_wp2_with fail
                  go_roundw
                  case rel => exact ⟨j + 1, p + n, f', fa, fb, fc, fd, by omega, by omega, by go_num, by go_num, HL2, E5, K5⟩
                  case measure => simp [intOf]; omega
      · obtain rfl : j = L.length := by omega
        obtain ⟨hd, hf⟩ := HL.out
        rw [List.drop_length] at hd
        have hps : p = s.size := by
          rcases Nat.lt_or_ge p s.size with h | h
          · obtain ⟨t', rest, f', he, _⟩ := find_case s f p a b c1 d h hf
            rw [he] at hd
            cases hd
          · omega
        subst hps
        clear hd hf HL
        go_wp2_with fail
        go_ret
        exact ⟨rfl, E1.out.bel⟩
  · have d0 : decide ((4000 : Int) < (s.size : Int)) = true := decide_eq_true (by omega)
    have HWK := Aside0.mk hW
    clear hW hbig
    go_enter Try.func9, Try.ntmps9
    go_wp2_with fail
    refine (HWK.out _).mono ?_
    rintro e w1 ⟨rfl, hB⟩
    have HB1 := Aside0.mk hB
    clear hB
    go_wp2_with fail
    refine (HWK.out _).mono ?_
    rintro e w2 ⟨rfl, hB⟩
    have HB2 := Aside0.mk (HB1.out.trans (hB.mono HB1.out.size))
    clear hB
    go_wp2_with fail
    go_ret
    exact ⟨rfl, HB2.out⟩
end Go.Proofs.Ytaooiffnpnmdeaa.Mt
