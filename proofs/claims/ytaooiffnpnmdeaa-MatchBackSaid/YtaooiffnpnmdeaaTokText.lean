import Derived.Test.YtaooiffnpnmdeaaTokAdd
import Derived.Test.YtaooiffnpnmdeaaPIxx0
namespace Go.Proofs.Ytaooiffnpnmdeaa.PIx
open Go.RowKit Go.Proofs.YtaooiffnpnmdeaaW.PrintWords Go.Proofs.YtaooiffnpnmdeaaW.PrintLast Go.Proofs.YtaooiffnpnmdeaaW.PrintMore
attribute [local go_sem] max2_int min2_int max_two min_two max_three min_three max_four min_four
attribute [local go_sem high] eqTok
set_option linter.unusedVariables false
set_option linter.unusedSimpArgs false
/-- What has been made, and the row. -/
structure St where
  out : List Int
  a : Int
  b : Int
  c : Int
  d : Int
def st0 : St := ⟨[], 0, 0, 0, 0⟩
/-- A token more. -/
def stepT (q : St) (t : S27) : Option St :=
  if t.f0 = 1 then (if t.f2 = 0 ∧ t.f3 = 0 ∧ t.f4 = 0 then some ⟨q.out ++ [t.f1], q.a, q.b, q.c, q.d⟩ else none)
  else if dOk q.a q.b q.c q.d q.out.length t.f0 t.f1 t.f2 t.f3 t.f4 = true then
    some ⟨grow (dX q.a q.b q.c q.d t.f0 t.f3 t.f4).toNat t.f2.toNat q.out, (front q.a q.b q.c q.d (dX q.a q.b q.c q.d t.f0 t.f3 t.f4)).1, (front q.a q.b q.c q.d (dX q.a q.b q.c q.d t.f0 t.f3 t.f4)).2.1, (front q.a q.b q.c q.d (dX q.a q.b q.c q.d t.f0 t.f3 t.f4)).2.2.1, (front q.a q.b q.c q.d (dX q.a q.b q.c q.d t.f0 t.f3 t.f4)).2.2.2⟩
  else none
def textR : List S27 → Int → St → ByteArray × Int
  | [], _, q => (strOfNums q.out, 0)
  | t :: l, lim, q => match stepT q t with
    | none => (⟨#[]⟩, 4)
    | some q' => if (q'.out.length : Int) > lim then (⟨#[]⟩, 62) else textR l lim q'
/-- The maker in a state. -/
def MkSt (w0 w : World) (g : Nat) (q : St) : Prop := MkAt w0 w g q.out q.a q.b q.c q.d
theorem okD_elim {x l : Int} {n : Nat} (h : okD x l n = true) : 3 ≤ l ∧ l ≤ 258 ∧ 1 ≤ x ∧ x ≤ 32768 ∧ x ≤ (n : Int) := of_decide_eq_true h
theorem dOk_elim {a b c d : Int} {n : Nat} {k bb l x s : Int} (h : dOk a b c d n k bb l x s = true) : 3 ≤ l ∧ l ≤ 258 ∧ 1 ≤ dX a b c d k x s ∧ dX a b c d k x s ≤ 32768 ∧ dX a b c d k x s ≤ (n : Int) := by
  unfold dOk at h
  unfold dX
  by_cases h2 : k = 2
  · rw [if_pos h2] at h ⊢
    rw [Bool.and_eq_true] at h
    exact okD_elim h.2
  · rw [if_neg h2] at h ⊢
    by_cases h3 : k = 3
    · rw [if_pos h3, Bool.and_eq_true] at h
      exact okD_elim h.2
    · rw [if_neg h3] at h
      cases h
/-- What add leaves. -/
def Added (w0 : World) (g : Nat) (q : St) (t : S27) (e : Ending) (w' : World) : Prop :=
  (stepT q t = none ∧ e = .returned (.bool false) ∧ Below w0.heap.size w0 w') ∨ (∃ q', stepT q t = some q' ∧ e = .returned (.bool true) ∧ MkSt w0 w' g q' ∧ q'.out.length ≤ q.out.length + 258)
theorem add_calls (w0 w : World) (g : Nat) (q : St) (hM : MkSt w0 w g q) (t : S27) (hlen : q.out.length + 300 ≤ 140737488355328) :
    Calls Try.prog 26 #[.pointer (some ⟨g, 0, none⟩), tokV t.f0 t.f1 t.f2 t.f3 t.f4] w (Added w0 g q t) := by
  by_cases h1 : t.f0 = 1
  · rw [h1]
    refine (add_lit w0 w g q.out q.a q.b q.c q.d hM t.f1 t.f2 t.f3 t.f4 (by omega)).mono ?_
    rintro e w' ⟨he, hm⟩
    by_cases hz : t.f2 = 0 ∧ t.f3 = 0 ∧ t.f4 = 0
    · refine .inr ⟨⟨q.out ++ [t.f1], q.a, q.b, q.c, q.d⟩, ?_, ?_, hm, ?_⟩
      · unfold stepT; rw [if_pos h1, if_pos hz]
      · rw [he, decide_eq_true hz]
      · show (q.out ++ [t.f1]).length ≤ _
        rw [List.length_append, List.length_singleton]; omega
    · refine .inl ⟨?_, ?_, hm.bel⟩
      · unfold stepT; rw [if_pos h1, if_neg hz]
      · rw [he, decide_eq_false hz]
  · cases hd : dOk q.a q.b q.c q.d q.out.length t.f0 t.f1 t.f2 t.f3 t.f4 with
    | false =>
      refine (add_no w0 w g q.out q.a q.b q.c q.d hM t.f0 t.f1 t.f2 t.f3 t.f4 h1 hd).mono ?_
      rintro e w' ⟨he, hb⟩
      refine .inl ⟨?_, he, hb⟩
      unfold stepT; rw [if_neg h1, if_neg (by rw [hd]; decide)]
    | true =>
      obtain ⟨d1, d2, d3, d4, d5⟩ := dOk_elim hd
      obtain ⟨L, hL⟩ : ∃ L : Nat, t.f2 = (L : Int) := ⟨t.f2.toNat, by omega⟩
      obtain ⟨D, hD⟩ : ∃ D : Nat, dX q.a q.b q.c q.d t.f0 t.f3 t.f4 = (D : Int) := ⟨(dX q.a q.b q.c q.d t.f0 t.f3 t.f4).toNat, by omega⟩
      have hs : stepT q t = some ⟨grow D L q.out, (front q.a q.b q.c q.d D).1, (front q.a q.b q.c q.d D).2.1, (front q.a q.b q.c q.d D).2.2.1, (front q.a q.b q.c q.d D).2.2.2⟩ := by
        unfold stepT
        rw [if_neg h1, if_pos hd, hD, hL, Int.toNat_natCast, Int.toNat_natCast]
      rw [hL] at hd ⊢
      refine (add_yes w0 w g q.out q.a q.b q.c q.d hM t.f0 t.f1 t.f3 t.f4 L D h1 hd hD (by omega) (by omega) (by omega) hlen).mono ?_
      rintro e w' ⟨he, hm⟩
      refine .inr ⟨_, hs, he, hm, ?_⟩
      show (grow D L q.out).length ≤ _
      rw [grow_length]; omega
theorem rd_drop (l : List S27) (j : Nat) (h : j < l.length) : l.drop j = rd_T27 l (j : Int) :: l.drop (j + 1) := by
  rw [List.drop_eq_getElem_cons h]
  congr 1
  unfold rd_T27
  rw [Int.toNat_natCast, List.getD_eq_getElem?_getD, List.getElem?_eq_getElem h, Option.getD_some]
set_option maxHeartbeats 4000000 in
set_option maxRecDepth 100000 in
theorem text_calls (A : Option Addr) (cp : Nat) (l : List S27) (lim : Int) (w : World) (hr : Kd.C k27 w A l.length l) (hc : l.length ≤ cp) (hlen : l.length ≤ 1000000) :
    Calls Try.prog 20 #[.slice A l.length cp, .int .i64 lim] w fun e w' => e = .returned (.tuple #[.string (textR l lim st0).1, .int .i64 (textR l lim st0).2]) ∧ Below w.heap.size w w' := by
  have HR := Aside0.mk hr
  clear hr hc
  go_enter Try.func20, Try.ntmps20
  go_wp2_with fail
  obtain ⟨g, hge⟩ : ∃ g, g = w.heap.size := ⟨_, rfl⟩
  rw [← hge]
  have HGE := Aside0.mk hge
  have M0 := Aside0.mk (show MkSt w (w.alloc (.cells #[.slice none 0 0, .int .i64 0, .int .i64 0, .int .i64 0, .int .i64 0] 54)) g st0 from
    ⟨⟨none, 0, by rw [hge]; exact blk_new w _, Kd.R_nil _ _ _ _ _⟩, by omega, below_alloc (Below.refl _ w) _⟩)
  clear hge
  go_loopw [13] (fun i wr => ∃ (j : Nat) (q : St), j ≤ l.length ∧ i = .int .i64 j ∧ q.out.length ≤ 258 * j ∧ Aside0 (textR (l.drop j) lim q = textR l lim st0) ∧ Aside0 (MkSt w wr g q)) (fun i _ => l.length - (intOf i).toNat)
  case atStart => exact ⟨0, st0, Nat.zero_le _, rfl, Nat.le_refl _, Aside0.mk rfl, M0⟩
  case round =>
    obtain ⟨j, q, hj, rfl, hq, HE, M1⟩ := hrel
    by_cases hlt : j < l.length
    · obtain ⟨ad, eA, h0, h1, h2, h3, h4⟩ := at_T27 HR.out (j : Int) (by omega) (by omega)
      cases eA
      obtain ⟨t, ht⟩ : ∃ t, t = rd_T27 l (j : Int) := ⟨_, rfl⟩
      have HT := Aside0.mk ht
      have hb := M1.out.bel
      rw [← ht, Int.toNat_natCast] at h0 h1 h2 h3 h4
      replace h0 := (hb.cell (World.block_lt_of_cell? w _ h0)).trans h0
      replace h1 := (hb.cell (World.block_lt_of_cell? w _ h1)).trans h1
      replace h2 := (hb.cell (World.block_lt_of_cell? w _ h2)).trans h2
      replace h3 := (hb.cell (World.block_lt_of_cell? w _ h3)).trans h3
      replace h4 := (hb.cell (World.block_lt_of_cell? w _ h4)).trans h4
      clear ht hb
      have hstep := Aside0.mk (rd_drop l j hlt)
      go_wp2_with fail
      refine (add_calls w _ g q (MkAt.below M1.out (below_alloc (Below.refl _ wr) _)) t (by omega)).mono ?_
      rintro e w2 hadd
      rcases hadd with ⟨hn, rfl, hb⟩ | ⟨q', hs, rfl, hm, hq'⟩
      · have HB := Aside0.mk hb
        have HV := Aside0.mk (show textR l lim st0 = (⟨#[]⟩, 4) by rw [← HE.out, hstep.out, ← HT.out, textR, hn])
        clear hb hn h0 h1 h2 h3 h4
        go_wp2_with fail
        rw [HV.out]
        go_ret2
        exact ⟨rfl, HB.out⟩
      · have HE2 := Aside0.mk (show (if (q'.out.length : Int) > lim then ((⟨#[]⟩ : ByteArray), (62 : Int)) else textR (l.drop (j + 1)) lim q') = textR l lim st0 by rw [← HE.out, hstep.out, ← HT.out, textR, hs])
        have M2 := Aside0.mk hm
        obtain ⟨A2, cap2, hI2, hR2⟩ := hm.ex
        have m0 : w2.cell? ⟨g, 0, none⟩ = some (.slice A2 q'.out.length cap2) := (blk_cell hI2 0).trans rfl
        clear hm hs hI2 hR2 h0 h1 h2 h3 h4
        by_cases hlim : lim < (q'.out.length : Int)
        · have d0 : decide (lim < (q'.out.length : Int)) = true := decide_eq_true hlim
          have HV := Aside0.mk (show textR l lim st0 = (⟨#[]⟩, 62) by rw [← HE2.out, if_pos hlim])
          clear hlim
          go_wp2_with fail
          rw [HV.out]
          go_ret2
          exact ⟨rfl, M2.out.bel⟩
        · have d0 : decide (lim < (q'.out.length : Int)) = false := decide_eq_false hlim
          have HE3 := Aside0.mk (show textR (l.drop (j + 1)) lim q' = textR l lim st0 by rw [← HE2.out, if_neg hlim])
          clear hlim
          go_wp2_with fail
          go_roundw
          case rel => exact ⟨j + 1, q', by omega, by go_num, by omega, HE3, M2⟩
          case measure => simp [intOf]; omega
    · obtain rfl : j = l.length := by omega
      obtain ⟨A2, cap2, hI2, hR2⟩ := M1.out.ex
      have m0 : wr.cell? ⟨g, 0, none⟩ = some (.slice A2 q.out.length cap2) := (blk_cell hI2 0).trans rfl
      have kc := fun c => string_of_reads (P := Try.prog) (c := c) Try.underlying35 Try.underlying5 Try.underlying9 (Kd.reads_of_C (enc := Value.int .u8) (d := (0 : Int)) (h1 := fun _ => rfl) (Kd.R_reads' hR2).2.2)
      have HV := Aside0.mk (show textR l lim st0 = (strOfNums q.out, 0) by rw [← HE.out, List.drop_length, textR])
      clear hI2 hR2
      go_wp2_with fail
      rw [HV.out]
      go_ret2
      exact ⟨rfl, M1.out.bel⟩
end Go.Proofs.Ytaooiffnpnmdeaa.PIx
