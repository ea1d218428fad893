/- TokenParts: the text of some of the first tokens is the beginning of the text of all; each byte that a Match or an Again makes is the one so far ahead of it; the text has as many bytes as the Lits, and the Lens, are; of a Lit for each byte it is these bytes. -/
import Derived.Test.YtcdmnddmaeileaaTokAdd
import Derived.Test.YtcdmnddmaeileaaHandTRow
import Derived.Test.YtcdmnddmaeileaaPartsPure
import Derived.Deep.CutRange
import Derived.Deep.CutBlock
import Derived.Deep.QuietTactic
import Derived.BigQuiet
namespace Go.Proofs.Ytcdmnddmaeileaa.PToken
open Go.RowKit Go.Proofs.YtcdmnddmaeileaaW.PrintWords Go.Proofs.YtcdmnddmaeileaaW.PrintLast Go.Proofs.YtcdmnddmaeileaaW.PrintMore
open Go.Proofs.Ytcdmnddmaeileaa.Pb
attribute [local go_sem] max2_int min2_int max_two min_two max_three min_three max_four min_four
set_option linter.unusedVariables false
set_option linter.unusedSimpArgs false
theorem cut_at (x : Int) (n : Nat) (hb : n ≤ 1000000) : IntKind.u64.wrap ((n : Int) + 1) = (n : Int) + 1 ∧ ∃ q : Nat, q ≤ n ∧ wrap64 (Int.tmod (IntKind.u64.wrap x) ((n : Int) + 1)) = (q : Int) := by
  have h1 : IntKind.u64.wrap ((n : Int) + 1) = (n : Int) + 1 := by
    show ((n : Int) + 1) % 18446744073709551616 = _
    omega
  refine ⟨h1, ?_⟩
  have h2 : IntKind.u64.wrap x = x % 18446744073709551616 := rfl
  rw [h2]
  have h3 : (0 : Int) ≤ x % 18446744073709551616 := Int.emod_nonneg _ (by decide)
  generalize x % 18446744073709551616 = y at h3
  rw [Int.tmod_eq_emod_of_nonneg h3]
  have h4 := Int.emod_nonneg y (show (n : Int) + 1 ≠ 0 by omega)
  have h5 := Int.emod_lt_of_pos y (show (0 : Int) < (n : Int) + 1 by omega)
  exact ⟨(y % ((n : Int) + 1)).toNat, by omega, by rw [wrap_id (by omega) (by omega)]; omega⟩
set_option maxHeartbeats 1000000 in
theorem may_calls (A : Option Addr) (c : Nat) (l : List S23) (b : Bool) (w : World) (hr : Kd.C k23 w A l.length l) (hc : l.length ≤ c) (hlen : l.length ≤ 1000000) (hb : ((textR l 9223372036854775807 st0).2 == 0) = b) :
    Calls Try.prog 12 #[.slice A l.length c] w fun e w' => e = .returned (.bool b) ∧ Below w.heap.size w w' := by
  have hT := text_calls A c l 9223372036854775807 w hr hc hlen
  obtain ⟨x, hx⟩ : ∃ x, x = (textR l 9223372036854775807 st0).2 := ⟨_, rfl⟩
  rw [← hx] at hb hT
  have HT := Aside0.mk hT
  clear hT hx hr hc hlen
  go_enter Try.func12, Try.ntmps12
  go_wp2_with fail
  refine HT.out.mono ?_
  rintro e w1 ⟨rfl, hB⟩
  have HB := Aside0.mk hB
  clear hB
  go_wp2_with fail
  go_ret
  exact ⟨rfl, HB.out⟩
theorem byte_of {b : Int} (h : (Lit.int .u8 b).wf = true) : 0 ≤ b ∧ b ≤ 255 := by
  simp [Lit.wf] at h
  exact h
theorem row_at (a b c d : Int) (s : Int) (h0 : 0 ≤ s) (h4 : s < 4) : rw4 a b c d s.toNat = rowN a b c d s := by
  unfold rw4 rowN
  rcases (show s = 0 ∨ s = 1 ∨ s = 2 ∨ s = 3 by omega) with h | h | h | h <;> subst h <;> rfl
theorem EnvR.row {w W : World} {Z : Nat} {a b c d : Int} (h : EnvR w W Z a b c d) (hz : w.heap.size ≤ Z) (a' b' c' d' : Int) :
    EnvR w ((((W.setCell ⟨Z, 0, none⟩ (.int .i64 a')).setCell ⟨Z, 1, none⟩ (.int .i64 b')).setCell ⟨Z, 2, none⟩ (.int .i64 c')).setCell ⟨Z, 3, none⟩ (.int .i64 d')) Z a' b' c' d' :=
  ⟨(blk_set (blk_set (blk_set (blk_set h.blk 0 _) 1 _) 2 _) 3 _).trans rfl, (((h.bel.setCell (p := ⟨Z, 0, none⟩) hz _).setCell (p := ⟨Z, 1, none⟩) hz _).setCell (p := ⟨Z, 2, none⟩) hz _).setCell (p := ⟨Z, 3, none⟩) hz _⟩
theorem lits_snoc (L : List Int) (x : Nat) (h : x < L.length) : lits (L.take (x + 1)) = lits (L.take x) ++ [⟨1, L.getD x 0, 0, 0, 0⟩] := by
  unfold lits
  rw [List.take_succ_eq_append_getElem h, List.map_append]
  simp [List.getD_eq_getElem?_getD, h]
theorem bytes_getD (s : ByteArray) (x : Nat) (h : x < s.size) : (bytesOf s).getD x 0 = bt s (x : Int) := by
  have hl : x < (bytesOf s).length := by rw [bytesOf_length]; exact h
  rw [List.getD_eq_getElem?_getD, List.getElem?_eq_getElem hl, bt_bytesOf s x hl]
  rfl
set_option maxHeartbeats 40000000 in
set_option maxRecDepth 100000 in
theorem parts_walk (A : Option Addr) (c : Nat) (l : List S23) (at_ : Int) (s : ByteArray) (w : World) (hr : Kd.C k23 w A l.length l) (hc : l.length ≤ c)
    (hw : ∀ p ∈ l, (Lit.int .u8 p.f0).wf = true ∧ (Lit.int .u8 p.f1).wf = true ∧ (Lit.int .i64 p.f2).wf = true ∧ (Lit.int .i64 p.f3).wf = true ∧ (Lit.int .i64 p.f4).wf = true) (_ : (Lit.int .i64 at_).wf = true) (hs : s.size ≤ 140737488351232) :
    Calls Try.prog 8 #[.slice A l.length c, .int .i64 at_, .string s] w fun e w' => e = .returned (.bool true) ∧ Below w.heap.size w w' := by
  have hlm : l.length ≤ 9223372036854775807 := hr.2.1
  have HR := Aside0.mk hr
  have HW := Aside0.mk hw
  have HCc := Aside0.mk hc
  clear hr hw
  by_cases hbig : l.length ≤ 300 ∧ s.size ≤ 3000
  · obtain ⟨b1, b2⟩ := hbig
    have d1 : decide ((300 : Int) < (l.length : Int)) = false := decide_eq_false (by omega)
    have d2 : decide ((3000 : Int) < (s.size : Int)) = false := decide_eq_false (by omega)
    go_enter Try.func8, Try.ntmps8
    go_wp2_with fail
    refine (awake_walk _).mono ?_
    rintro e w1 ⟨rfl, hB⟩
    have HB := Aside0.mk hB
    clear hB
    go_wp2_with fail
    go_loopw [7, 8] (fun v i wr => ∃ x : Nat, x ≤ s.size ∧ i = .int .i64 (x : Int) ∧ Aside0 (Kd.R k23 23 wr w.heap.size (fun _ => True) v (lits ((bytesOf s).take x))) ∧ Aside0 (Below w.heap.size w wr)) (fun _ i _ => s.size - (intOf i).toNat)
    case atStart => exact ⟨0, Nat.zero_le _, rfl, Aside0.mk (by rw [List.take_zero]; exact Kd.R_nil _ _ _ _ _), HB⟩
    case round =>
      obtain ⟨x, hx, rfl, HO, HBr⟩ := hrel
      by_cases hlt : x < s.size
      · have hbt : ∀ h : x < s.size, (((s[x]'h).toNat : Nat) : Int) = bt s (x : Int) := fun h => by have := bt_at s (x : Int); rw [Int.toNat_natCast] at this; exact this h
        have HN := Aside0.mk (show lits ((bytesOf s).take (x + 1)) = lits ((bytesOf s).take x) ++ [⟨1, bt s (x : Int), 0, 0, 0⟩] by rw [lits_snoc _ _ (by rw [bytesOf_length]; exact hlt), bytes_getD s x hlt])
        have HL := Aside0.mk (show (lits ((bytesOf s).take x)).length = x by unfold lits; rw [List.length_map, List.length_take, bytesOf_length]; omega)
        generalize bt s (x : Int) = bx at hbt HN
        generalize lits ((bytesOf s).take x) = LT at *
        go_wp2_with (first | ((with_reducible refine gate_builtin (b := .append) (xs := #[.tmp 40, .tmp 45]) rfl ?_); (try (refine gate_guard (by rfl) ?_; dsimp only)); at_builtin; refine Kd.R_append k23 (w0 := w) w.heap.size rfl (.tmp 40) (.tmp 45) 24 23 (.agg #[(.int .u8 0), (.int .u8 0), (.int .i64 0), (.int .i64 0), (.int .i64 0)]) 32 rfl Try.underlying24 info23 rfl (by decide) (by omega) u7 LT (⟨1, bx, 0, 0, 0⟩ : S23) [.int .u8 1, .int .u8 bx, .int .i64 0, .int .i64 0, .int .i64 0] (fun _ => True) (fun _ => False) rfl rfl ?aP (fun _ hk => hk.elim) ?aF ?aO ?aB ?aS ?aL ?_; (case aP => exact k23_mkM _ _ _ (⟨1, bx, 0, 0, 0⟩ : S23)); (case aB => exact HBr.out); (case aF => exact (fun _ _ => trivial)); (case aO => exact HO.out); (case aS => exact below_size HBr.out); (case aL => have := HL.out; omega); intro v148 w21 ho hb hg hat; rw [← HN.out] at ho; have HO2 := Aside0.mk ho; have HB2 := Aside0.mk hb; clear ho hb hg hat HO HBr))
        go_roundw
        case rel => exact ⟨x + 1, by omega, by go_num, HO2, HB2⟩
        case measure => simp [intOf]; omega
      · obtain rfl : x = s.size := by omega
        rw [List.take_of_length_le (by rw [bytesOf_length]; exact Nat.le_refl _)] at HO
        obtain ⟨A2, c2, rfl⟩ := Kd.R_slice HO.out
        have hl2 : (lits (bytesOf s)).length = s.size := by unfold lits; rw [List.length_map, bytesOf_length]
        have hT := text_calls A2 c2 (lits (bytesOf s)) (s.size : Int) wr (Kd.R_reads' HO.out).2.2 (Kd.R_reads' HO.out).2.1 (by rw [hl2]; omega)
        rw [lits_run (bytesOf s) (s.size : Int) st0 (by show ((0 + (bytesOf s).length : Nat) : Int) ≤ _; rw [bytesOf_length]; omega), show strOfNums (st0.out ++ bytesOf s) = s from str_bytesOf s] at hT
        have HT := Aside0.mk hT
        clear hT hl2 hlt
        go_wp2_with fail
        refine HT.out.mono ?_
        rintro e w2 ⟨rfl, hB⟩
        have HB2 := Aside0.mk (HBr.out.trans (hB.mono HBr.out.size))
        clear hB HT HO HBr
        have hT := text_calls A c l 1073741824 w2 (Kd.C_below HR.out (HB2.out)) hc (by omega)
        rw [runS_text l 1073741824 st0 (by show ((0 + 258 * l.length : Nat) : Int) ≤ _; omega)] at hT
        have hM : (textR l 9223372036854775807 st0).2 = (textR l 1073741824 st0).2 := by rw [runS_text l 1073741824 st0 (by show ((0 + 258 * l.length : Nat) : Int) ≤ _; omega), runS_text l 9223372036854775807 st0 (by show ((0 + 258 * l.length : Nat) : Int) ≤ _; omega)]
        rw [runS_text l 1073741824 st0 (by show ((0 + 258 * l.length : Nat) : Int) ≤ _; omega)] at hM
        cases hrun : runS l st0 with
        | none =>
          rw [hrun] at hT hM
          rw [show resS none = (⟨#[]⟩, 4) from rfl] at hT
          have HT := Aside0.mk hT
          have HM := Aside0.mk (show ((textR l 9223372036854775807 st0).2 == 0) = false by rw [hM]; rfl)
          clear hT hM hrun
          go_wp2_with fail
          refine HT.out.mono ?_
          rintro e w3 ⟨rfl, hB⟩
          have HB3 := Aside0.mk (HB2.out.trans (hB.mono HB2.out.size))
          clear hB HB2 HT
          go_wp2_with fail
          refine (may_calls A c l false _ (Kd.C_below HR.out HB3.out) hc (by omega) HM.out).mono ?_
          rintro e w4 ⟨rfl, hB⟩
          have HB4 := Aside0.mk (HB3.out.trans (hB.mono HB3.out.size))
          clear hB HB3
          go_wp2_with fail
          go_ret
          exact ⟨rfl, HB4.out⟩
        | some Q =>
          rw [hrun] at hT hM
          have HT := Aside0.mk hT
          have HM := Aside0.mk (show ((textR l 9223372036854775807 st0).2 == 0) = true by rw [hM]; rfl)
          have HRUN := Aside0.mk hrun
          clear hT hM hrun
          have hQl := runS_len l st0 Q HRUN.out
          have hQl : Q.out.length ≤ 77400 := by have h0 : st0.out.length = 0 := rfl; omega
          obtain ⟨AL, hAL⟩ : ∃ AL, AL = strOfNums Q.out := ⟨_, rfl⟩
          have hALs : AL.size = Q.out.length := by rw [hAL, size_nums]
          rw [show resS (some Q) = (AL, 0) from by rw [resS, hAL]] at HT
          have HAL := Aside0.mk hAL
          have HALs := Aside0.mk hALs
          have hAb : AL.size ≤ 77400 := by omega
          clear hAL hALs
          go_wp2_with fail
          refine HT.out.mono ?_
          rintro e w3 ⟨rfl, hB⟩
          have HB3 := Aside0.mk (HB2.out.trans (hB.mono HB2.out.size))
          clear hB HB2 HT
          obtain ⟨e1, q, hq, hqe⟩ := cut_at at_ l.length (by omega)
          obtain ⟨Q1, hQ1, _⟩ := runS_take HRUN.out q
          have hQ1l := runS_len _ st0 Q1 hQ1
          have hlq : (l.take q).length = q := by rw [List.length_take]; omega
          have hQ1l : Q1.out.length ≤ 77400 := by have h0 : st0.out.length = 0 := rfl; omega
          have hT := text_calls A c (l.take q) 1073741824 w3 (Kd.C_take (Kd.C_below HR.out HB3.out) (by omega)) (by omega) (by omega)
          rw [runS_text (l.take q) 1073741824 st0 (by show ((0 + 258 * (l.take q).length : Nat) : Int) ≤ _; omega), hQ1, hlq] at hT
          have hbeg : Begins Q1.out Q.out := by
            obtain ⟨q1, h1, h2⟩ := runS_take HRUN.out q
            rw [hQ1] at h1
            obtain rfl := Option.some.inj h1
            exact runS_begins _ _ _ h2
          obtain ⟨PL, hPL⟩ : ∃ PL, PL = strOfNums Q1.out := ⟨_, rfl⟩
          have hPs : PL.size ≤ AL.size := by rw [hPL, size_nums, HALs.out]; exact hbeg.le
          have hPe : AL.extract 0 PL.size = PL := by rw [HAL.out, hPL]; exact begin_cut hbeg
          rw [show resS (some Q1) = (PL, 0) from by rw [resS, hPL]] at hT
          have HT := Aside0.mk hT
          have HPE := Aside0.mk hPe
          have HPS := Aside0.mk hPs
          clear hT hQ1 hQ1l hlq hbeg hPL hPe
          go_wp2_with fail
          refine HT.out.mono ?_
          rintro e w4 ⟨rfl, hB⟩
          have HB4 := Aside0.mk (HB3.out.trans (hB.mono HB3.out.size))
          clear hB HB3 HT
          have d3 : decide (AL.size < PL.size) = false := decide_eq_false (by omega)
          have p1 : (!(AL.extract 0 PL.size).toList == PL.toList) = false := by rw [HPE.out]; simp
          go_wp2_with fail
          obtain ⟨Z, hZ⟩ : ∃ Z, Z = w4.heap.size := ⟨_, rfl⟩
          have E0 := Aside0.mk (show EnvR w (w4.alloc (.cells #[.int .i64 0, .int .i64 0, .int .i64 0, .int .i64 0] 29)) Z 0 0 0 0 from ⟨by rw [hZ]; exact blk_new w4 _, below_alloc HB4.out _⟩)
          rw [← hZ]
          have HZ := Aside0.mk hZ
          clear hZ p1 d3 hPs HPE HPS
          go_loopw [16, 17] (fun n i wr => ∃ (j : Nat) (q : St), j ≤ l.length ∧ n = .int .i64 (q.out.length : Int) ∧ i = .int .i64 (j : Int) ∧ Aside0 (runS (l.drop j) q = some Q) ∧ Aside0 (EnvR w wr Z q.a q.b q.c q.d)) (fun _ i _ => l.length - (intOf i).toNat)
          case atStart => exact ⟨0, st0, Nat.zero_le _, rfl, rfl, HRUN, E0⟩
          case round =>
            obtain ⟨j, q, hj, rfl, rfl, HR2, E1⟩ := hrel
            by_cases hlt : j < l.length
            · obtain ⟨ad, eA, h0, h1, h2, h3, h4⟩ := at_T23 HR.out (j : Int) (by omega) (by omega)
              cases eA
              obtain ⟨t, ht⟩ : ∃ t, t = rd_T23 l (j : Int) := ⟨_, rfl⟩
              have hb := E1.out.bel
              have HB1 := Aside0.mk (HW.out t (by rw [ht]; unfold rd_T23; rw [Int.toNat_natCast, List.getD_eq_getElem?_getD, List.getElem?_eq_getElem hlt, Option.getD_some]; exact List.getElem_mem hlt)).2.1
              rw [← ht, Int.toNat_natCast] at h0 h1 h2 h3 h4
              replace h0 := (hb.cell (World.block_lt_of_cell? w _ h0)).trans h0
              replace h1 := (hb.cell (World.block_lt_of_cell? w _ h1)).trans h1
              replace h2 := (hb.cell (World.block_lt_of_cell? w _ h2)).trans h2
              replace h3 := (hb.cell (World.block_lt_of_cell? w _ h3)).trans h3
              replace h4 := (hb.cell (World.block_lt_of_cell? w _ h4)).trans h4
              obtain ⟨q1, hs, hr1⟩ : ∃ q1, stepT q t = some q1 ∧ runS (l.drop (j + 1)) q1 = some Q := by
                have e := HR2.out
                rw [rd_drop l j hlt, ← ht, runS] at e
                cases hs : stepT q t with
                | none => rw [hs] at e; cases e
                | some q1 => rw [hs] at e; exact ⟨q1, rfl, e⟩
              have hmk := makes_of hs
              have hbe := runS_begins _ _ _ hr1
              have hble := hbe.le
              have HBE := Aside0.mk hbe
              have HR3 := Aside0.mk hr1
              have HS := Aside0.mk hs
              clear ht hb hs hr1 hbe HR2
              by_cases k1 : t.f0 = 1
              · obtain ⟨m1, m2, m3, m4, m5⟩ := hmk.lit k1
                have hwf : by8 t.f1 = t.f1 := by8_id (byte_of HB1.out)
                have hbt : bt AL (q.out.length : Int) = t.f1 := by
                  rw [HAL.out, bt_str _ _ (by rw [m1, List.length_append, List.length_singleton] at hble; omega), HBE.out.at_ (by rw [m1, List.length_append, List.length_singleton]; omega), m1, getD_last, hwf]
                have hat : ∀ h : q.out.length < AL.size, (((AL[q.out.length]'h).toNat : Nat) : Int) = t.f1 := fun h => by
                  have := bt_at AL (q.out.length : Int)
                  rw [Int.toNat_natCast] at this
                  rw [← hbt]
                  exact this h
                have hlA : q.out.length < AL.size := by rw [HALs.out]; rw [m1, List.length_append, List.length_singleton] at hble; omega
                have E2 := Aside0.mk (show EnvR w wr Z q1.a q1.b q1.c q1.d by rw [m2, m3, m4, m5]; exact E1.out)
                have hN := Aside0.mk (show q1.out.length = q.out.length + 1 by rw [m1, List.length_append, List.length_singleton])
                have d4 : decide (AL.size ≤ q.out.length) = false := decide_eq_false (by omega)
                clear m1 m2 m3 m4 m5 hmk hwf hbt
                go_wp2_with fail
                go_quiet (fail)
                go_wp2_with fail
                go_roundw
                case rel => exact ⟨j + 1, q1, by omega, by rw [hN.out]; go_num, by go_num, HR3, Aside0.mk (EnvR.drewN _ (EnvR.alloc E2.out _))⟩
                case measure => simp [intOf]; omega
              · obtain ⟨D, L, hD, hL, hD1, hD2, hL1, hL2, hg, m2, m3, m4, m5, hk⟩ := hmk.far k1
                have k1b : (t.f0 == 1) = false := beq_eq_false_iff_ne.mpr k1
                have hcase : (t.f0 = 2 ∧ t.f3 = (D : Int)) ∨ (t.f0 = 3 ∧ ∃ sl : Nat, t.f4 = (sl : Int) ∧ sl < 4 ∧ rw4 q.a q.b q.c q.d sl = (D : Int)) := by
                  rcases hk with k2 | ⟨k3, k4, k5⟩
                  · refine .inl ⟨k2, ?_⟩
                    rw [← hD]
                    unfold dX
                    simp [k2]
                  · refine .inr ⟨k3, t.f4.toNat, by omega, by omega, ?_⟩
                    rw [← hD, row_at _ _ _ _ _ k4 k5]
                    unfold dX
                    rw [if_neg (by omega)]
                rw [hL] at h2
                have hgl : q1.out.length = q.out.length + L := by rw [hg, grow_length]
                have d5 : decide ((AL.size : Int) < (q.out.length : Int) + (L : Int)) = false := decide_eq_false (by rw [HALs.out]; omega)
                have d6 : decide ((D : Int) < 1) = false := decide_eq_false (by omega)
                have d7 : decide (q.out.length < D) = false := decide_eq_false (by omega)
                have c0 : wr.cell? ⟨Z, 0, none⟩ = some (.int .i64 q.a) := E1.out.at_ 0 (by decide)
                have c1 : wr.cell? ⟨Z, 1, none⟩ = some (.int .i64 q.b) := E1.out.at_ 1 (by decide)
                have c2 : wr.cell? ⟨Z, 2, none⟩ = some (.int .i64 q.c) := E1.out.at_ 2 (by decide)
                have c3 : wr.cell? ⟨Z, 3, none⟩ = some (.int .i64 q.d) := E1.out.at_ 3 (by decide)
                have HG := Aside0.mk hg
                have hZl : Z < wr.heap.size := blk_lt E1.out.blk
                have hne : wr.heap.size ≠ Z := by omega
                have hne2 : ¬ Z = wr.heap.size := by omega
                have HMM := Aside0.mk (And.intro m2 (And.intro m3 (And.intro m4 m5)))
                clear m2 m3 m4 m5 hmk hg hD hk
                have hz : w.heap.size ≤ Z := by rw [HZ.out]; exact HB4.out.size
                rcases hcase with ⟨k2, kd⟩ | ⟨k3, sl, k4, k5, k6⟩
                focus
                  have k3b : (t.f0 == 3) = false := beq_eq_false_iff_ne.mpr (by rw [k2]; decide)
                  rw [kd] at h3
                  clear k2 kd
                  go_wp2_with fail
                  have hbk := blk_new wr (.cells #[.int .u8 t.f0, .int .u8 t.f1, .int .i64 (L : Int), .int .i64 (D : Int), .int .i64 t.f4] 23)
                  have E3 := Aside0.mk (EnvR.alloc E1.out (.cells #[.int .u8 t.f0, .int .u8 t.f1, .int .i64 (L : Int), .int .i64 (D : Int), .int .i64 t.f4] 23))
                  have t2 := (blk_cell hbk 2).trans (rfl : _ = some (Value.int .i64 (L : Int)))
                  have TL := blk_lt hbk
                  generalize wr.alloc (.cells #[.int .u8 t.f0, .int .u8 t.f1, .int .i64 (L : Int), .int .i64 (D : Int), .int .i64 t.f4] 23) = w5 at hbk E3 t2 TL ⊢
                  clear hbk
                rotate_left
                focus
                  have k3b : (t.f0 == 3) = true := by rw [k3]; rfl
                  have c4 := E1.out.at_ sl k5
                  rw [k6] at c4
                  rw [k4] at h4
                  clear k3 k4 k6
                  go_wp2_with fail
                  have hbk := blk_new wr (.cells #[.int .u8 t.f0, .int .u8 t.f1, .int .i64 (L : Int), .int .i64 t.f3, .int .i64 (sl : Int)] 23)
                  have E3 := Aside0.mk (EnvR.alloc E1.out (.cells #[.int .u8 t.f0, .int .u8 t.f1, .int .i64 (L : Int), .int .i64 t.f3, .int .i64 (sl : Int)] 23))
                  have t2 := (blk_cell hbk 2).trans (rfl : _ = some (Value.int .i64 (L : Int)))
                  have TL := blk_lt hbk
                  generalize wr.alloc (.cells #[.int .u8 t.f0, .int .u8 t.f1, .int .i64 (L : Int), .int .i64 t.f3, .int .i64 (sl : Int)] 23) = w5 at hbk E3 t2 TL ⊢
                  clear hbk c4 k5
                all_goals
                  clear c0 c1 c2 c3 h0 h1 h2 h3 h4 k3b k1b E1 hne2
                  obtain ⟨T, hT⟩ : ∃ T, wr.heap.size = T := ⟨_, rfl⟩
                  rw [hT] at hZl hne t2 TL ⊢
                  clear hT
                  refine (token_Front_calls q.a q.b q.c q.d D _).mono ?_
                  rintro e w6 ⟨rfl, hb6⟩
                  have E4 := Aside0.mk (EnvR.below E3.out hb6)
                  have t2' := (hb6.cell (p := ⟨T, 2, none⟩) TL).trans t2
                  have TL2 := Nat.lt_of_lt_of_le TL hb6.size
                  clear t2 hb6 E3 TL
                  obtain ⟨m2, m3, m4, m5⟩ := HMM.out
                  obtain ⟨fa, hfa⟩ : ∃ z, (front q.a q.b q.c q.d D).1 = z := ⟨_, rfl⟩
                  obtain ⟨fb, hfb⟩ : ∃ z, (front q.a q.b q.c q.d D).2.1 = z := ⟨_, rfl⟩
                  obtain ⟨fc, hfc⟩ : ∃ z, (front q.a q.b q.c q.d D).2.2.1 = z := ⟨_, rfl⟩
                  obtain ⟨fd, hfd⟩ : ∃ z, (front q.a q.b q.c q.d D).2.2.2 = z := ⟨_, rfl⟩
                  rw [hfa] at m2 ⊢
                  rw [hfb] at m3 ⊢
                  rw [hfc] at m4 ⊢
                  rw [hfd] at m5 ⊢
                  have HFE := Aside0.mk (And.intro m2 (And.intro m3 (And.intro m4 m5)))
                  clear hfa hfb hfc hfd HMM m2 m3 m4 m5
                  have f0 : w6.frozen? ⟨Z, 0, none⟩ = false := blk_frozen E4.out.blk 0
                  have f1 : w6.frozen? ⟨Z, 1, none⟩ = false := blk_frozen E4.out.blk 1
                  have f2 : w6.frozen? ⟨Z, 2, none⟩ = false := blk_frozen E4.out.blk 2
                  have f3 : w6.frozen? ⟨Z, 3, none⟩ = false := blk_frozen E4.out.blk 3
                  have n0 : w6.cell? ⟨Z, 0, none⟩ = some (.int .i64 q.a) := E4.out.at_ 0 (by decide)
                  have n1 : w6.cell? ⟨Z, 1, none⟩ = some (.int .i64 q.b) := E4.out.at_ 1 (by decide)
                  have n2 : w6.cell? ⟨Z, 2, none⟩ = some (.int .i64 q.c) := E4.out.at_ 2 (by decide)
                  have n3 : w6.cell? ⟨Z, 3, none⟩ = some (.int .i64 q.d) := E4.out.at_ 3 (by decide)
                  have E5 := Aside0.mk (E4.out.row hz fa fb fc fd)
                  clear E4
                  unfold rowVal
                  go_wp2_with fail
                  have t2 : ((((w6.setCell ⟨Z, 0, none⟩ (.int .i64 fa)).setCell ⟨Z, 1, none⟩ (.int .i64 fb)).setCell ⟨Z, 2, none⟩ (.int .i64 fc)).setCell ⟨Z, 3, none⟩ (.int .i64 fd)).cell? ⟨T, 2, none⟩ = some (.int .i64 (L : Int)) := by
                    rw [World.cell?_setCell_other (h := fun z => hne (by injection z with z; exact z.symm)), World.cell?_setCell_other (h := fun z => hne (by injection z with z; exact z.symm)), World.cell?_setCell_other (h := fun z => hne (by injection z with z; exact z.symm)), World.cell?_setCell_other (h := fun z => hne (by injection z with z; exact z.symm))]
                    exact t2'
                  generalize ((((w6.setCell ⟨Z, 0, none⟩ (.int .i64 fa)).setCell ⟨Z, 1, none⟩ (.int .i64 fb)).setCell ⟨Z, 2, none⟩ (.int .i64 fc)).setCell ⟨Z, 3, none⟩ (.int .i64 fd)) = w7 at E5 t2 ⊢
                  clear t2' f0 f1 f2 f3 n0 n1 n2 n3 d5 d6 d7 TL2
                  have T2 := Aside0.mk t2
                  clear t2
                  go_loopw [16, 20] (fun n i wz => ∃ x z : Nat, x ≤ L ∧ Aside0 (z = q.out.length + x) ∧ n = .int .i64 (z : Int) ∧ i = .int .i64 (x : Int) ∧ Aside0 (EnvR w wz Z fa fb fc fd) ∧ Aside0 (wz.cell? ⟨T, 2, none⟩ = some (.int .i64 (L : Int)))) (fun _ i _ => L - (intOf i).toNat)
                  case atStart => exact ⟨0, q.out.length, Nat.zero_le _, Aside0.mk rfl, rfl, rfl, E5, T2⟩
                  case round =>
                    obtain ⟨x, z, hx, HZX, rfl, rfl, E6, T3⟩ := hrel
                    have t3 := T3.out
                    by_cases hxl : x < L
                    · have hzx := HZX.out
                      obtain ⟨y, hy⟩ : ∃ y, z = y + D := ⟨q.out.length + x - D, by omega⟩
                      have hb1 : bt AL (z : Int) = bt AL (y : Int) := by
                        have hv : (Q.out.getD (q.out.length + x) 0) = Q.out.getD (q.out.length + x - D) 0 := by
                          rw [HBE.out.at_ (by omega), HBE.out.at_ (by omega), HG.out]
                          exact grow_at D hD1 L q.out x hD2 hxl
                        rw [HAL.out, bt_str _ _ (by omega), bt_str _ _ (by omega), hzx, hv, ← hzx, hy, Nat.add_sub_cancel]
                      have hat1 : ∀ h : z < AL.size, (((AL[z]'h).toNat : Nat) : Int) = bt AL (y : Int) := fun h => by
                        have := bt_at AL (z : Int)
                        rw [Int.toNat_natCast] at this
                        rw [← hb1]
                        exact this h
                      have hat2 : ∀ h : y < AL.size, (((AL[y]'h).toNat : Nat) : Int) = bt AL (y : Int) := fun h => by
                        have := bt_at AL (y : Int)
                        rw [Int.toNat_natCast] at this
                        exact this h
                      have hlA : z < AL.size := by rw [HALs.out]; omega
                      have hlB : y < AL.size := by omega
                      have hsub : wrap64 ((z : Int) - (D : Int)) = (y : Int) := by rw [wrap_id (by omega) (by omega)]; omega
                      have hsub2 : (z : Int) - (D : Int) = (y : Int) := by omega
                      have hzb : z ≤ 77400 := by omega
                      generalize bt AL (y : Int) = by0 at hat1 hat2
                      clear hb1 hy hzx
                      go_wp2_with fail
                      go_quiet (fail)
                      go_wp2_with fail
                      go_roundw
                      case rel => exact ⟨x + 1, z + 1, by omega, Aside0.mk (by have := HZX.out; omega), by go_num, by go_num, Aside0.mk (EnvR.drewN _ E6.out), Aside0.mk T3.out⟩
                      case measure => simp [intOf]; omega
                    · obtain rfl : x = L := by omega
                      have hzx := HZX.out
                      rw [← hgl] at hzx
                      subst hzx
                      obtain ⟨m2, m3, m4, m5⟩ := HFE.out
                      have E7 := Aside0.mk (show EnvR w _ Z q1.a q1.b q1.c q1.d by rw [m2, m3, m4, m5]; exact E6.out)
                      clear m2 m3 m4 m5
                      go_wp2_with fail
                      go_roundw
                      case rel => exact ⟨j + 1, q1, by omega, rfl, by go_num, HR3, E7⟩
                      case measure => simp [intOf]; omega
            · obtain rfl : j = l.length := by omega
              have hqQ : q = Q := by
                have e := HR2.out
                rw [List.drop_length, runS] at e
                exact Option.some.inj e
              subst hqQ
              have hqa : q.out.length = AL.size := HALs.out.symm
              have dq : ((q.out.length : Int) == (AL.size : Int)) = true := by rw [hqa]; simp
              go_wp2_with fail
              refine (may_calls A c l true _ (Kd.C_below HR.out E1.out.bel) hc (by omega) HM.out).mono ?_
              rintro e w9 ⟨rfl, hB⟩
              have HB9 := Aside0.mk (E1.out.bel.trans (hB.mono E1.out.bel.size))
              clear hB
              go_wp2_with fail
              go_ret
              exact ⟨rfl, HB9.out⟩
  · have hb2 : 300 < l.length ∨ 3000 < s.size := by omega
    go_enter Try.func8, Try.ntmps8
    rcases hb2 with hb2 | hb2
    · have d1 : decide ((300 : Int) < (l.length : Int)) = true := decide_eq_true (by omega)
      clear hbig hb2
      go_wp2_with fail
      refine (awake_walk _).mono ?_
      rintro e w1 ⟨rfl, hB⟩
      have HB := Aside0.mk hB
      clear hB
      go_wp2_with fail
      go_ret
      exact ⟨rfl, HB.out⟩
    · have d2 : decide ((3000 : Int) < (s.size : Int)) = true := decide_eq_true (by omega)
      clear hbig hb2
      by_cases h300 : 300 < l.length
      · have d1 : decide ((300 : Int) < (l.length : Int)) = true := decide_eq_true (by omega)
        clear h300
        go_wp2_with fail
        refine (awake_walk _).mono ?_
        rintro e w1 ⟨rfl, hB⟩
        have HB := Aside0.mk hB
        clear hB
        go_wp2_with fail
        go_ret
        exact ⟨rfl, HB.out⟩
      · have d1 : decide ((300 : Int) < (l.length : Int)) = false := decide_eq_false (by omega)
        clear h300
        go_wp2_with fail
        refine (awake_walk _).mono ?_
        rintro e w1 ⟨rfl, hB⟩
        have HB := Aside0.mk hB
        clear hB
        go_wp2_with fail
        go_ret
        exact ⟨rfl, HB.out⟩
end Go.Proofs.Ytcdmnddmaeileaa.PToken
