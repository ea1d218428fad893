/- Cut of Join are the rows, none torn, whatever stands behind; with other bytes in the place of one sector, or without the last ones, only those rows are others that stand there; each of them is torn, or its tag is right. -/
import Derived.Test.YtpgijmnlkfhheaaSecApart
import Derived.Deep.CutRange
import Derived.Deep.CutBlock
import Derived.Deep.QuietTactic
import Derived.BigQuiet
import Derived.LoopTactic
import Derived.LoopN
namespace Go.Proofs.Ytpgijmnlkfhheaa.Tw
open Go.RowKit Go.Proofs.YtpgijmnlkfhheaaW.PrintWords Go.Proofs.YtpgijmnlkfhheaaW.PrintLast Go.Proofs.YtpgijmnlkfhheaaW.PrintMore Go.Proofs.Ytpgijmnlkfhheaa.PSecP Go.Proofs.Ytpgijmnlkfhheaa.Pb
set_option linter.unusedVariables false
set_option linter.unusedSimpArgs false
theorem is_calls (A : Option Addr) (c : Nat) (l : List Int) (n : Int) (b : Bool) (w : World) (hr : Kd.C (Kd.int .i64) w A l.length l) (hc : l.length ≤ c) (hb : l.contains n = b) :
    Calls Try.prog 12 #[.slice A l.length c, .int .i64 n] w fun e w' => e = .returned (.bool b) ∧ w = w' := by
  have hlm : l.length ≤ 9223372036854775807 := hr.2.1
  have HR := Aside0.mk hr
  have HB := Aside0.mk hb
  clear hr hb hc
  go_enter Try.func12, Try.ntmps12
  go_wp2_with fail
  go_loop [5] (fun i => ∃ j : Nat, j ≤ l.length ∧ i = .int .i64 (j : Int) ∧ Aside0 ((l.drop j).contains n = b)) (fun i => l.length - (intOf i).toNat)
  case atStart => exact ⟨0, Nat.zero_le _, rfl, HB⟩
  case round =>
    obtain ⟨j, hj, rfl, HD⟩ := hrel
    by_cases hlt : j < l.length
    · obtain ⟨ad, eA, hx⟩ := Kd.at_int HR.out (j : Int) (by omega) (by omega)
      cases eA
      rw [Int.toNat_natCast] at hx
      have hd := HD.out
      rw [List.drop_eq_getElem_cons hlt, List.contains_cons] at hd
      have hrd : rd l (j : Int) = l[j] := by unfold rd; simp [hlt]
      rw [hrd] at hx
      generalize l[j] = y at hx hd
      by_cases hy : y = n
      · have hyb : (y == n) = true := beq_iff_eq.mpr hy
        have hbt : b = true := by rw [← hd, hy, beq_self_eq_true, Bool.true_or]
        have HBT := Aside0.mk hbt
        clear hd hbt hy HD HB
        go_wp2_with fail
        rw [HBT.out]
        go_ret
        exact ⟨rfl, rfl⟩
      · have hyb : (y == n) = false := beq_eq_false_iff_ne.mpr hy
        have HD2 := Aside0.mk (show (l.drop (j + 1)).contains n = b by rw [← hd, beq_eq_false_iff_ne.mpr (fun e => hy e.symm), Bool.false_or])
        clear hd hy HD HB
        go_wp2_with fail
        go_round
        case rel => exact ⟨j + 1, by omega, by go_num, HD2⟩
        case measure => simp [intOf]; omega
    · obtain rfl : j = l.length := by omega
      have hbt : b = false := by have := HD.out; rw [List.drop_length] at this; exact this.symm
      have HBT := Aside0.mk hbt
      clear hbt HD HB
      go_wp2_with fail
      rw [HBT.out]
      go_ret
      exact ⟨rfl, rfl⟩
/-- What lies in memory all the while: the volume's box. -/
structure Al (w W : World) (X : Nat) (id : ByteArray) (n z R : Int) : Prop where
  box : W.heap[X]? = some (.cells #[.string id, .int .i64 n, .int .i64 z, .int .i64 R] 23 (0, 0))
  bel : Below w.heap.size w W
  lo : w.heap.size ≤ X
theorem Al.below {w W W' : World} {X : Nat} {id : ByteArray} {n z R : Int} (h : Al w W X id n z R) (hb : Below W.heap.size W W') : Al w W' X id n z R :=
  ⟨(hb.block X (blk_lt h.box)).trans h.box, h.bel.trans (hb.mono h.bel.size), h.lo⟩
theorem Al.drewN {w W : World} {X : Nat} {id : ByteArray} {n z R : Int} (h : Al w W X id n z R) (k : Nat) : Al w (W.drewN k) X id n z R := h.below (pw_below_drewN (Below.refl _ _) k)
theorem Al.drew {w W : World} {X : Nat} {id : ByteArray} {n z R : Int} (h : Al w W X id n z R) : Al w W.drew X id n z R := h.below (below_drew (Below.refl _ _))
theorem Al.set {w W : World} {X : Nat} {id : ByteArray} {n z R : Int} (h : Al w W X id n z R) {b k : Nat} (hb : X < b) (v : Value) : Al w (W.setCell ⟨b, k, none⟩ v) X id n z R :=
  ⟨(Below.heap_setCell W ⟨b, k, none⟩ v X (by show X ≠ b; omega)).trans h.box, below_set h.bel (by have := h.lo; omega), h.lo⟩
theorem Al.at_ {w W : World} {X : Nat} {id : ByteArray} {n z R : Int} (h : Al w W X id n z R) :
    W.cell? ⟨X, 0, none⟩ = some (.string id) ∧ W.cell? ⟨X, 1, none⟩ = some (.int .i64 n) ∧ W.cell? ⟨X, 2, none⟩ = some (.int .i64 z) ∧ W.cell? ⟨X, 3, none⟩ = some (.int .i64 R) :=
  ⟨(blk_cell h.box 0).trans rfl, (blk_cell h.box 1).trans rfl, (blk_cell h.box 2).trans rfl, (blk_cell h.box 3).trans rfl⟩
theorem Al.rows {w W : World} {X : Nat} {id : ByteArray} {n z R : Int} (h : Al w W X id n z R) {A : Option Addr} {rows : List ByteArray} (hr : Kd.C Kd.string w A rows.length rows) : Kd.C Kd.string W A rows.length rows := Kd.C_below hr h.bel
/-- Bytes of the call's own, that may be written. -/
structure By (w W : World) (b : Nat) (l : List Int) : Prop where
  lo : w.heap.size ≤ b
  lt : b < W.heap.size
  cell : ∀ j, j < l.length → W.cell? ⟨b, j, none⟩ = some (.int .u8 (l.getD j 0)) ∧ W.frozen? ⟨b, j, none⟩ = false
theorem By.below {w W W' : World} {b : Nat} {l : List Int} (h : By w W b l) (hb : Below W.heap.size W W') : By w W' b l :=
  ⟨h.lo, Nat.lt_of_lt_of_le h.lt hb.size, fun j hj => ⟨(hb.cell (p := ⟨b, j, none⟩) h.lt).trans (h.cell j hj).1, (hb.frozen (p := ⟨b, j, none⟩) h.lt).trans (h.cell j hj).2⟩⟩
theorem By.reads {w W : World} {b : Nat} {l : List Int} (h : By w W b l) (hl : l.length ≤ 9223372036854775807) (p q : Nat) (hp : p + q ≤ l.length) : ReadsInt W .u8 (some ⟨b, p, none⟩) q ((l.drop p).take q) := by
  refine ⟨by rw [List.length_take, List.length_drop]; omega, by omega, fun _ => ⟨_, rfl, fun j hj => ?_⟩⟩
  have e : (⟨b, p, none⟩ : Addr).add j = ⟨b, p + j, none⟩ := by unfold Addr.add; split <;> simp_all
  rw [e, (h.cell (p + j) (by omega)).1]
  congr 2
  simp only [List.getD_eq_getElem?_getD, List.getElem?_take, List.getElem?_drop]
  rw [if_pos hj]
theorem By.set {w W : World} {b : Nat} {l : List Int} (h : By w W b l) (K : Nat) (hK : K < l.length) (y : Int) : By w (W.setCell ⟨b, K, none⟩ (.int .u8 y)) b (l.set K y) := by
  refine ⟨h.lo, ?_, fun j hj => ?_⟩
  · have := (Below.setCell (Below.refl 0 W) (p := ⟨b, K, none⟩) (Nat.zero_le _) (.int .u8 y)).size
    exact Nat.lt_of_lt_of_le h.lt this
  · rw [List.length_set] at hj
    obtain ⟨h1, h2⟩ := h.cell j hj
    refine ⟨?_, (World.frozen?_setCell _ _ _ _).trans h2⟩
    by_cases e : K = j
    · subst e
      rw [World.cell?_setCell_same' _ _ _ (by rw [h1]; rfl)]
      simp [List.getD_eq_getElem?_getD, hK]
    · rw [World.cell?_setCell_other (h := fun z => e (by injection z)), h1]
      simp [List.getD_eq_getElem?_getD, List.getElem?_set, e]
theorem bytes_by (w W : World) (hw : w.heap.size ≤ W.heap.size) (e : TypeId) (t : ByteArray) : By w (Lib.bytesWorld W e t) W.heap.size (bytesOf t) := by
  refine ⟨hw, by rw [Lib.bytesWorld_size]; omega, fun j hj => ?_⟩
  rw [bytesOf_length] at hj
  constructor
  · rw [Lib.bytesWorld_cell W e t j hj]
    have h' : j < t.data.toList.length := by rw [data_length]; exact hj
    simp [bytesOf, List.getD_eq_getElem?_getD, List.getElem?_eq_getElem h']
  · have hz : (Lib.bytesCells W e t).size ≥ t.size := by
      simp [Lib.bytesCells]
    simp [World.frozen?, Lib.bytesWorld_at_new]
    omega
theorem bytes_bel (W : World) (e : TypeId) (t : ByteArray) : Below W.heap.size W (Lib.bytesWorld W e t) := bytes_below (Below.refl _ W) (Nat.le_refl _) e t
theorem cut_calls (id : ByteArray) (n z R : Int) (a : ByteArray) (r1 : List ByteArray) (r2 : List Int) (r3 : Int) (l1 l2 : Nat) (w : World) (h : cutT a id n z R = (r1, r2, r3)) (h1 : r1.length = l1) (h2 : r2.length = l2) :
    Calls Try.prog 11 #[.agg #[.string id, .int .i64 n, .int .i64 z, .int .i64 R], .string a] w fun e w' => ∃ (A1 : Option Addr) (c1 : Nat) (A2 : Option Addr) (c2 : Nat), e = .returned (.tuple #[.slice A1 l1 c1, .slice A2 l2 c2, .int .i64 r3]) ∧ l1 ≤ c1 ∧ l2 ≤ c2 ∧
      Kd.C Kd.string w' A1 l1 r1 ∧ Kd.C (Kd.int .i64) w' A2 l2 r2 ∧ Below w.heap.size w w' := by
  subst h1
  subst h2
  refine (sector_Cut.calls 110 id n z R a r1 r2 r3 w (by rw [cut_f 110 (Nat.le_refl _), h])).mono ?_
  rintro e w' ⟨v0, v1, rfl, h0, h1, hb⟩
  obtain ⟨A1, c1, rfl⟩ := Kd.R_slice h0
  obtain ⟨A2, c2, rfl⟩ := Kd.R_slice h1
  exact ⟨A1, c1, A2, c2, rfl, (Kd.R_reads' h0).2.1, (Kd.R_reads' h1).2.1, (Kd.R_reads' h0).2.2, (Kd.R_reads' h1).2.2, hb⟩
theorem join_no (id : ByteArray) (n z R : Int) (A : Option Addr) (c : Nat) (rows : List ByteArray) (w : World) (hr : Kd.C Kd.string w A rows.length rows) (hc : rows.length ≤ c) (hJ : ¬ (mayB id n z R = true ∧ (rows.length : Int) = R ∧ sized z rows = true)) :
    Calls Try.prog 10 #[.agg #[.string id, .int .i64 n, .int .i64 z, .int .i64 R], .slice A rows.length c] w fun e w' => e = .returned (.tuple #[.string ⟨#[]⟩, .int .i64 1]) ∧ Below w.heap.size w w' :=
  sector_Join.calls 110 id n z R A c rows ⟨#[]⟩ 1 w hr hc (by rw [join_f 110 (Nat.le_refl _), joinR_no hJ])
theorem join_yes (id : ByteArray) (n z R : Int) (A : Option Addr) (c : Nat) (rows : List ByteArray) (w : World) (hr : Kd.C Kd.string w A rows.length rows) (hc : rows.length ≤ c) (hJ : mayB id n z R = true ∧ (rows.length : Int) = R ∧ sized z rows = true) :
    Calls Try.prog 10 #[.agg #[.string id, .int .i64 n, .int .i64 z, .int .i64 R], .slice A rows.length c] w fun e w' => e = .returned (.tuple #[.string (joinB id n 0 rows), .int .i64 0]) ∧ Below w.heap.size w w' :=
  sector_Join.calls 110 id n z R A c rows (joinB id n 0 rows) 0 w hr hc (by rw [join_f 110 (Nat.le_refl _), joinR_yes hJ])
theorem awake_calls (w : World) : Calls Try.prog 9 #[] w fun e w' => e = .returned (.bool true) ∧ Below w.heap.size w w' := hamperlaw24_awake.calls true w awake_yes
theorem mod_at (x : Int) (m : Nat) (h0 : 0 < m) (h : m ≤ 1000000) : ∃ q : Nat, q < m ∧ wrap64 (Int.tmod (IntKind.u64.wrap x) (m : Int)) = (q : Int) := by
  have h1 : 0 ≤ Int.tmod (IntKind.u64.wrap x) (m : Int) := Int.tmod_nonneg _ (u64_rng _)
  have h2 : Int.tmod (IntKind.u64.wrap x) (m : Int) < (m : Int) := Int.tmod_lt_of_pos _ (by omega)
  generalize Int.tmod (IntKind.u64.wrap x) (m : Int) = t at h1 h2
  exact ⟨t.toNat, by omega, by rw [wrap_id (by omega) (by omega)]; omega⟩
def Lim (b : Bool) (id more y : ByteArray) : Prop := b = false → id.size ≤ 100 ∧ more.size ≤ 3000 ∧ y.size ≤ 600
set_option maxHeartbeats 40000000 in
set_option maxRecDepth 100000 in
theorem SectorApart_walk (id : ByteArray) (n z R : Int) (A : Option Addr) (cap : Nat) (rows : List ByteArray) (more : ByteArray) (at_ : Int) (y : ByteArray) (cut : Int) (w : World) (hid : id.size ≤ maxLen) (_ : (Lit.int .i64 n).wf = true) (_ : (Lit.int .i64 z).wf = true) (_ : (Lit.int .i64 R).wf = true)
    (hr : Kd.C Kd.string w A rows.length rows) (hc : rows.length ≤ cap) (_ : ∀ x ∈ rows, x.size ≤ 140737488351232) (hm : more.size ≤ 140737488351232) (_ : (Lit.int .i64 at_).wf = true) (hy : y.size ≤ 140737488351232) (_ : (Lit.int .i64 cut).wf = true) :
    Calls Try.prog 3 #[.agg #[.string id, .int .i64 n, .int .i64 z, .int .i64 R], .slice A rows.length cap, .string more, .int .i64 at_, .string y, .int .i64 cut] w fun e w' => e = .returned (.bool true) ∧ Below w.heap.size w w' := by
  have hlm : rows.length ≤ 9223372036854775807 := hr.2.1
  unfold maxLen at hid
  obtain ⟨bl, hbl⟩ := long_f rows hlm (rows.length + 1) (Nat.le_refl _)
  have HL := Aside0.mk hbl
  have HR := Aside0.mk hr
  have HCc := Aside0.mk hc
  clear hbl hr hc
  go_enter Try.func3, Try.ntmps3
  go_upto_region 1 with fail
  obtain ⟨X, hX⟩ : ∃ X, X = w.heap.size := ⟨_, rfl⟩
  have A0 := Aside0.mk (show Al w (w.alloc (.cells #[.string id, .int .i64 n, .int .i64 z, .int .i64 R] 23)) X id n z R from ⟨by rw [hX]; exact blk_new w _, below_alloc (Below.refl _ w) _, by omega⟩)
  have HX := Aside0.mk hX
  rw [← hX]
  clear hX
  generalize w.alloc (.cells #[.string id, .int .i64 n, .int .i64 z, .int .i64 R] 23) = W0 at A0 ⊢
  go_cut [47] from 26 to 47 (fun v wc => ∃ b : Bool, v = .bool b ∧ Aside0 (Lim b id more y) ∧ Aside0 (Al w wc X id n z R))
  case first =>
    go_wp2_with fail
    refine (hamperlaw24_long.calls (rows.length + 1) A cap rows bl _ (A0.out.rows HR.out) HCc.out HL.out).mono ?_
    rintro e w1 ⟨rfl, ⟨q, rfl⟩⟩
    have A1 := Aside0.mk (A0.out.drewN q)
    clear A0
    obtain ⟨c0, c1, c2, c3⟩ := A1.out.at_
    cases bl with
    | true =>
      go_wp2_with fail
      go_meet
      case rel => exact ⟨true, rfl, Aside0.mk (fun h => by cases h), A1⟩
    | false =>
      by_cases h1 : 3000 < more.size
      · have d1 : decide ((3000 : Int) < (more.size : Int)) = true := decide_eq_true (by omega)
        go_wp2_with fail
        go_meet
        case rel => exact ⟨true, rfl, Aside0.mk (fun h => by cases h), A1⟩
      · have d1 : decide ((3000 : Int) < (more.size : Int)) = false := decide_eq_false (by omega)
        by_cases h2 : 600 < y.size
        · have d2 : decide ((600 : Int) < (y.size : Int)) = true := decide_eq_true (by omega)
          go_wp2_with fail
          go_meet
          case rel => exact ⟨true, rfl, Aside0.mk (fun h => by cases h), A1⟩
        · have d2 : decide ((600 : Int) < (y.size : Int)) = false := decide_eq_false (by omega)
          by_cases h3 : 100 < id.size
          · have d3 : decide ((100 : Int) < (id.size : Int)) = true := decide_eq_true (by omega)
            go_wp2_with fail
            go_meet
            case rel => exact ⟨true, rfl, Aside0.mk (fun h => by cases h), A1⟩
          · have d3 : decide ((100 : Int) < (id.size : Int)) = false := decide_eq_false (by omega)
            go_wp2_with fail
            refine (awake_calls _).mono ?_
            rintro e w2 ⟨rfl, hB⟩
            have A2 := Aside0.mk (A1.out.below hB)
            clear hB A1 c0 c1 c2 c3
            go_wp2_with fail
            go_meet
            case rel => exact ⟨false, rfl, Aside0.mk (fun _ => ⟨by omega, by omega, by omega⟩), A2⟩
  case rest =>
    obtain ⟨b, rfl, HLim, A2⟩ := hcut
    clear A0 HL
    cases b with
    | true =>
      go_wp2_with fail
      refine (awake_calls _).mono ?_
      rintro e w2 ⟨rfl, hB⟩
      have A3 := Aside0.mk (A2.out.below hB)
      clear hB A2
      go_wp2_with fail
      go_ret
      exact ⟨rfl, A3.out.bel⟩
    | false =>
      obtain ⟨b1, b2, b3⟩ := HLim.out rfl
      clear HLim hid hm hy
      obtain ⟨c0, c1, c2, c3⟩ := A2.out.at_
      by_cases hJ : mayB id n z R = true ∧ (rows.length : Int) = R ∧ sized z rows = true
      · obtain ⟨hM, hl, hs⟩ := hJ
        obtain ⟨zz, rfl⟩ : ∃ zz : Nat, z = (zz : Int) := ⟨z.toNat, by have := may_iff hM; omega⟩
        subst hl
        have hmi := may_iff hM
        obtain ⟨g1, g2, g3, g4, g5, g6, g7, g8⟩ := hmi
        have hz5 : zz ≤ 512 := by omega
        have hz2 : 2 ≤ zz := by omega
        have hR1 : 0 < rows.length := by omega
        have hR9 : rows.length ≤ 96 := by omega
        have HM := Aside0.mk hM
        have HS := Aside0.mk hs
        have hJs := join_size id n zz rows 0 hs
        have hCJ := cut_joined id n zz rows hM hs more
        have HJ := Aside0.mk (join_yes id n (zz : Int) (rows.length : Int) A cap rows _ (A2.out.rows HR.out) HCc.out ⟨hM, rfl, hs⟩)
        have HAT := Aside0.mk (fun i hi => joined_at id n zz rows hs ⟨#[]⟩ i hi)
        rw [app_nil] at HAT
        obtain ⟨J, hJJ⟩ : ∃ J, J = joinB id n 0 rows := ⟨_, rfl⟩
        rw [← hJJ] at hJs hCJ HJ HAT
        clear hJJ g1 g2 g3 g4 g5 g6 g7 g8 hM hs
        obtain ⟨one, hone⟩ : ∃ one, one = zz + 8 := ⟨_, rfl⟩
        have hJb : J.size ≤ 49920 := by rw [hJs]; exact Nat.le_trans (Nat.mul_le_mul hR9 (show zz + 8 ≤ 520 by omega)) (by decide)
        have ho5 : one ≤ 520 := by omega
        have HONE := Aside0.mk hone
        have HJS := Aside0.mk hJs
        have HCJ := Aside0.mk hCJ
        clear hJs hCJ hone
        go_wp2_with fail
        refine HJ.out.mono ?_
        rintro e w3 ⟨rfl, hB⟩
        have A3 := Aside0.mk (A2.out.below hB)
        clear hB A2 c0 c1 c2 c3 HJ
        obtain ⟨c0, c1, c2, c3⟩ := A3.out.at_
        go_wp2_with fail
        refine (cut_calls id n (zz : Int) (rows.length : Int) (J ++ more) rows [] 0 rows.length 0 _ HCJ.out rfl rfl).mono ?_
        rintro e w4 ⟨A1, k1, A5, k5, rfl, h1, h2, h3, h4, hB⟩
        have A4 := Aside0.mk (A3.out.below hB)
        have R1 := Aside0.mk h3
        clear hB A3 c0 c1 c2 c3 h3 h4
        go_wp2_with fail
        go_loopw [17] (fun v wr => ∃ j : Nat, j ≤ rows.length ∧ v = .int .i64 (j : Int) ∧ Aside0 (Kd.C Kd.string wr A1 rows.length rows) ∧ Aside0 (Al w wr X id n (zz : Int) (rows.length : Int))) (fun v _ => rows.length - (intOf v).toNat)
        case atStart => exact ⟨0, Nat.zero_le _, rfl, R1, A4⟩
        case round =>
          obtain ⟨j, hj, rfl, R2, A5'⟩ := hrel
          clear R1 A4
          by_cases hlt : j < rows.length
          · obtain ⟨ad1, e1, hx1⟩ := Kd.at_string R2.out (j : Int) (by omega) (by omega)
            obtain ⟨ad2, e2, hx2⟩ := Kd.at_string (A5'.out.rows HR.out) (j : Int) (by omega) (by omega)
            cases e1
            cases e2
            rw [Int.toNat_natCast] at hx1 hx2
            generalize rdOf ByteArray.empty rows (j : Int) = x at hx1 hx2
            have R3 := Aside0.mk (Kd.C_below R2.out (below_drew (Below.refl _ _)))
            have A6 := Aside0.mk A5'.out.drew
            clear R2 A5'
            go_upto_region 12 with fail
            refine start_ (n := 9) (S := fun w' => w'.cell? (ad1.add j) = some (.string x) ∧ w'.cell? (ad2.add j) = some (.string x)) (ds := []) #[false, false, false, false, false, false, false, false, false] (by kernel_rfl) rfl rfl ⟨hx1, hx2⟩ (fun hHeld => ?_)
            refine pure_ (i := 0) (N := some 88) (v := ?_) (a' := ?_) #[true, false, false, false, false, false, false, false, false] rfl rfl (by kernel_rfl) (fun _ _ _ h => h) (Or.inl ⟨by rfl, ?_⟩) ?_ ?_
            rotate_left
            · intro w'
              go_simp
              with_reducible rfl
            rotate_left
            · simp only [Act.put, List.setIfInBounds_toArray, List.set_cons_zero, List.set_cons_succ, i64_w, i32_w]
              rfl
            refine pure_ (i := 1) (N := some 89) (v := ?_) (a' := ?_) #[true, true, false, false, false, false, false, false, false] rfl rfl (by kernel_rfl) (fun _ _ _ h => h) (Or.inl ⟨by rfl, ?_⟩) ?_ ?_
            rotate_left
            · intro w'
              go_simp
              with_reducible rfl
            rotate_left
            · simp only [Act.put, List.setIfInBounds_toArray, List.set_cons_zero, List.set_cons_succ, i64_w, i32_w]
              rfl
            refine pure_ (i := 2) (N := some 90) (v := ?_) (a' := ?_) #[true, true, true, false, false, false, false, false, false] rfl rfl (by kernel_rfl) (fun _ _ _ h => h) (Or.inl ⟨by rfl, ?_⟩) ?_ ?_
            rotate_left
            · intro w'
              go_simp
              with_reducible rfl
            rotate_left
            · simp only [Act.put, List.setIfInBounds_toArray, List.set_cons_zero, List.set_cons_succ, i64_w, i32_w]
              rfl
            refine pure_ (i := 4) (N := some 92) (v := ?_) (a' := ?_) #[true, true, true, false, true, false, false, false, false] rfl rfl (by kernel_rfl) (fun _ _ _ h => h) (Or.inl ⟨by rfl, ?_⟩) ?_ ?_
            rotate_left
            · intro w'
              go_simp
              with_reducible rfl
            rotate_left
            · simp only [Act.put, List.setIfInBounds_toArray, List.set_cons_zero, List.set_cons_succ, i64_w, i32_w]
              rfl
            refine pure_ (i := 5) (N := some 93) (v := ?_) (a' := ?_) #[true, true, true, false, true, true, false, false, false] rfl rfl (by kernel_rfl) (fun _ _ _ h => h) (Or.inl ⟨by rfl, ?_⟩) ?_ ?_
            rotate_left
            · intro w'
              go_simp
              with_reducible rfl
            rotate_left
            · simp only [Act.put, List.setIfInBounds_toArray, List.set_cons_zero, List.set_cons_succ, i64_w, i32_w]
              rfl
            refine pure_ (i := 6) (N := some 94) (v := ?_) (a' := ?_) #[true, true, true, false, true, true, true, false, false] rfl rfl (by kernel_rfl) (fun _ _ _ h => h) (Or.inl ⟨by rfl, ?_⟩) ?_ ?_
            rotate_left
            · intro w'
              go_simp
              with_reducible rfl
            rotate_left
            · simp only [Act.put, List.setIfInBounds_toArray, List.set_cons_zero, List.set_cons_succ, i64_w, i32_w]
              rfl
            refine take_ (i := 3) (N := some 91) (v := ?_) (a' := ?_) #[true, true, true, true, true, true, true, false, false] rfl rfl (by kernel_rfl) (fun _ _ _ h => h) (Or.inl ⟨by rfl, ?_⟩) hHeld ?_ ?_
            rotate_left
            · rintro w' ⟨s0, s1⟩
              go_simp
              with_reducible rfl
            rotate_left
            · simp only [Act.put, List.setIfInBounds_toArray, List.set_cons_zero, List.set_cons_succ, i64_w, i32_w]
              rfl
            refine take_ (i := 7) (N := some 95) (v := ?_) (a' := ?_) #[true, true, true, true, true, true, true, true, false] rfl rfl (by kernel_rfl) (fun _ _ _ h => h) (Or.inl ⟨by rfl, ?_⟩) hHeld ?_ ?_
            rotate_left
            · rintro w' ⟨s0, s1⟩
              go_simp
              with_reducible rfl
            rotate_left
            · simp only [Act.put, List.setIfInBounds_toArray, List.set_cons_zero, List.set_cons_succ, i64_w, i32_w]
              rfl
            refine pure_ (i := 8) (N := some 96) (v := ?_) (a' := ?_) #[true, true, true, true, true, true, true, true, true] rfl rfl (by kernel_rfl) (fun _ _ _ h => h) (Or.inl ⟨by rfl, ?_⟩) ?_ ?_
            rotate_left
            · intro w'
              go_simp
              with_reducible rfl
            rotate_left
            · simp only [Act.put, List.setIfInBounds_toArray, List.set_cons_zero, List.set_cons_succ, i64_w, i32_w]
              rfl
            refine done_ (by kernel_rfl) ?_
            clear hx1 hx2
            go_wp2_with fail
            go_roundw
            case rel => exact ⟨j + 1, by omega, by go_num, R3, A6⟩
            case measure => simp [intOf]; omega
          · obtain rfl : j = rows.length := by omega
            clear R2
            obtain ⟨c0, c1, c2, c3⟩ := A5'.out.at_
            have honeI : (zz : Int) + 8 = (one : Int) := by have := HONE.out; omega
            obtain ⟨q, hq, hqm⟩ := mod_at at_ rows.length hR1 (by omega)
            have hul : IntKind.u64.wrap (rows.length : Int) = (rows.length : Int) := u64_id (by omega) (by omega)
            have hl0 : ((rows.length : Int) = 0) = False := eq_false (by omega)
            have hl1 : (rows.length = 0) = False := eq_false (by omega)
            have kb := fun W => print_bytes (P := Try.prog) 9 34 5 Try.underlying9 Try.underlying34 Try.underlying5 J W
            go_upto_block 2 with fail
            simp only [hqm]
            clear hqm hul hl0 hl1 kb c0 c1 c2 c3
            obtain ⟨B, hB⟩ : ∃ B, B = wr.heap.size := ⟨_, rfl⟩
            obtain ⟨C, hC⟩ : ∃ C, C = grownCap wr J.size 0 5 := ⟨_, rfl⟩
            have hJC : J.size ≤ C := by rw [hC]; exact grownCap_ge _ _ _ _
            have A6 := Aside0.mk (A5'.out.below (bytes_bel wr 5 J))
            have T0 := Aside0.mk (bytes_by w wr A5'.out.bel.size 5 J)
            have hXB : X < B := by rw [hB]; exact blk_lt A5'.out.box
            rw [← hB] at T0
            rw [← hB, ← hC]
            clear hB hC A5'
            generalize Lib.bytesWorld wr 5 J = W5 at A6 T0 ⊢
            obtain ⟨F, hF⟩ : ∃ F, F = q * one := ⟨_, rfl⟩
            have hFI : (q : Int) * (one : Int) = (F : Int) := by rw [hF]; exact (Int.natCast_mul q one).symm
            have hFJ : F + one ≤ J.size := by
              have h1 : (q + 1) * (zz + 8) ≤ rows.length * (zz + 8) := Nat.mul_le_mul_right _ hq
              rw [Nat.succ_mul] at h1
              have h2 := HJS.out
              rw [hF, HONE.out]
              omega
            have HF := Aside0.mk hF
            clear hF
            go_cut [21] from 109 to 129 (fun _ wc => ∃ x : Nat, x ≤ one ∧ Aside0 (Al w wc X id n (zz : Int) (rows.length : Int)) ∧ Aside0 (By w wc B (lay (bytesOf J) y F x)))
            case first =>
              go_wp2_with fail
              go_loopw [21] (fun v wr => ∃ x : Nat, x ≤ one ∧ x ≤ y.size ∧ v = .int .i64 (x : Int) ∧ Aside0 (Al w wr X id n (zz : Int) (rows.length : Int)) ∧ Aside0 (By w wr B (lay (bytesOf J) y F x))) (fun v _ => one - (intOf v).toNat)
              case atStart => exact ⟨0, Nat.zero_le _, Nat.zero_le _, rfl, A6, T0⟩
              case round =>
                obtain ⟨x, hx1, hx2, rfl, A7, T1⟩ := hrel
                clear A6 T0
                by_cases hgo : x < one ∧ x < y.size
                · obtain ⟨hx3, hx4⟩ := hgo
                  have hby : ∀ h : x < y.size, (((y[x]'h).toNat : Nat) : Int) = bt y (x : Int) := fun h => by have := bt_at y (x : Int); rw [Int.toNat_natCast] at this; exact this h
                  obtain ⟨K, hK⟩ : ∃ K, K = F + x := ⟨_, rfl⟩
                  have hKI : (F : Int) + (x : Int) = (K : Int) := by omega
                  have hKJ : K < J.size := by omega
                  have hll : (lay (bytesOf J) y F x).length = J.size := by rw [lay_len, bytesOf_length]
                  obtain ⟨k1', k2'⟩ := T1.out.cell K (by omega)
                  have A8 := Aside0.mk (A7.out.set (k := K) hXB (.int .u8 (bt y (x : Int))))
                  have T2 := Aside0.mk (show By w (wr.setCell ⟨B, K, none⟩ (.int .u8 (bt y (x : Int)))) B (lay (bytesOf J) y F (x + 1)) by rw [lay, ← hK]; exact T1.out.set K (by omega) _)
                  generalize bt y (x : Int) = v at hby A8 T2
                  clear A7 T1 hll hK
                  go_wp2_with fail
                  go_roundw
                  case rel => exact ⟨x + 1, by omega, by omega, by go_num, A8, T2⟩
                  case measure => simp [intOf]; omega
                · have HGO := Aside0.mk hgo
                  clear hgo
                  by_cases hx3 : x < one
                  · have hx4 : ¬ x < y.size := fun h => HGO.out ⟨hx3, h⟩
                    go_wp2_with fail
                    go_meet
                    case rel => exact ⟨x, hx1, A7, T1⟩
                  · go_wp2_with fail
                    go_meet
                    case rel => exact ⟨x, hx1, A7, T1⟩
            case rest =>
              obtain ⟨x, hx1, A7, T1⟩ := hcut
              clear A6 T0
              obtain ⟨T, hT⟩ : ∃ T, T = lay (bytesOf J) y F x := ⟨_, rfl⟩
              obtain ⟨ee, hee, heem⟩ := mod_at cut (J.size + 1) (by omega) (by omega)
              have hTl : T.length = J.size := by rw [hT, lay_len, bytesOf_length]
              rw [← hT] at T1
              have HTD := Aside0.mk hT
              have HTL := Aside0.mk hTl
              obtain ⟨m1, hm1⟩ : ∃ m1, m1 = J.size + 1 := ⟨_, rfl⟩
              have hm1I : (J.size : Int) + 1 = (m1 : Int) := by omega
              rw [← hm1] at heem
              have hul : IntKind.u64.wrap (m1 : Int) = (m1 : Int) := u64_id (by omega) (by omega)
              have hl0 : ((m1 : Int) = 0) = False := eq_false (by omega)
              have hl1 : (m1 = 0) = False := eq_false (by omega)
              clear hm1 hT hTl
              go_upto_region 22 with fail
              simp only [heem]
              clear heem hul hl0 hl1 hm1I
              obtain ⟨U, hU⟩ : ∃ U, U = strOfNums (T.take ee) := ⟨_, rfl⟩
              have hes : ee ≤ J.size := by omega
              have heC : ee ≤ C := by omega
              have hUs : U.size = ee := by rw [hU, HTD.out]; exact lay_size J y F x ee hes
              have HUS := Aside0.mk hUs
              have HUD := Aside0.mk hU
              have A8 := Aside0.mk A7.out.drew
              have T2 := Aside0.mk (T1.out.below (below_drew (Below.refl _ _)))
              have hkc : ∀ c : Nat, (convert 34 9 (.slice (some ⟨B, 0, none⟩) ee c)).run Try.prog wc.drew = .ok (.string U) wc.drew := by
                intro c
                have h2 := T2.out.reads (by rw [HTL.out]; omega) 0 ee (by rw [HTL.out]; omega)
                rw [List.drop_zero] at h2
                rw [hU]
                exact string_of_reads (P := Try.prog) (c := c) Try.underlying34 Try.underlying5 Try.underlying9 h2
              have hcany := cut_any U id n zz rows.length HM.out
              have hrow := fun i hi => row_at U id n zz rows.length i hi
              have htorn := fun i hi => torn_iff U id n zz rows.length i hi
              obtain ⟨aas, has⟩ : ∃ aas, aas = (List.range' 0 rows.length).map (rowA U id n zz) := ⟨_, rfl⟩
              obtain ⟨bs, hbs⟩ : ∃ bs, bs = tornA U id n zz (List.range' 0 rows.length) := ⟨_, rfl⟩
              have hal : aas.length = rows.length := by rw [has]; simp
              have hbl : bs.length ≤ 96 := by rw [hbs]; unfold tornA; rw [List.length_map]; refine Nat.le_trans (List.length_filter_le _ _) ?_; rw [List.length_range']; omega
              rw [← has] at hrow
              rw [← hbs] at htorn
              rw [← has, ← hbs] at hcany
              have HCA := Aside0.mk hcany
              have HROW := Aside0.mk hrow
              have HTORN := Aside0.mk htorn
              have HAL := Aside0.mk hal
              obtain ⟨lb, hlb⟩ : ∃ lb, bs.length = lb := ⟨_, rfl⟩
              have HLB := Aside0.mk hlb
              rw [hlb] at hbl
              clear hU hUs hcany hrow htorn has hbs hal hlb
              obtain ⟨c0, c1, c2, c3⟩ := A8.out.at_
              refine start_ (n := 13) (S := fun w' => w'.cell? ⟨X, 0, none⟩ = some (.string id) ∧ w'.cell? ⟨X, 1, none⟩ = some (.int .i64 n) ∧ w'.cell? ⟨X, 2, none⟩ = some (.int .i64 (zz : Int)) ∧ w'.cell? ⟨X, 3, none⟩ = some (.int .i64 (rows.length : Int)) ∧ ∀ c : Nat, (convert 34 9 (.slice (some ⟨B, 0, none⟩) ee c)).run Try.prog w' = .ok (.string U) w') (ds := [5]) #[false, false, false, false, false, false, false, false, false, false, false, false, false] (by kernel_rfl) rfl rfl ⟨c0, c1, c2, c3, hkc⟩ (fun hHeld => ?_)
              refine pure_ (i := 1) (N := some 140) (v := ?_) (a' := ?_) #[false, true, false, false, false, false, false, false, false, false, false, false, false] rfl rfl (by kernel_rfl) (fun _ _ _ h => h) (Or.inl ⟨by rfl, ?_⟩) ?_ ?_
              rotate_left
              · intro w'
                go_simp
                with_reducible rfl
              rotate_left
              · simp only [Act.put, List.setIfInBounds_toArray, List.set_cons_zero, List.set_cons_succ, i64_w, i32_w]
                rfl
              refine pure_ (i := 2) (N := some 141) (v := ?_) (a' := ?_) #[false, true, true, false, false, false, false, false, false, false, false, false, false] rfl rfl (by kernel_rfl) (fun _ _ _ h => h) (Or.inl ⟨by rfl, ?_⟩) ?_ ?_
              rotate_left
              · intro w'
                go_simp
                with_reducible rfl
              rotate_left
              · simp only [Act.put, List.setIfInBounds_toArray, List.set_cons_zero, List.set_cons_succ, i64_w, i32_w]
                rfl
              refine pure_ (i := 3) (N := some 142) (v := ?_) (a' := ?_) #[false, true, true, true, false, false, false, false, false, false, false, false, false] rfl rfl (by kernel_rfl) (fun _ _ _ h => h) (Or.inl ⟨by rfl, ?_⟩) ?_ ?_
              rotate_left
              · intro w'
                go_simp
                with_reducible rfl
              rotate_left
              · simp only [Act.put, List.setIfInBounds_toArray, List.set_cons_zero, List.set_cons_succ, i64_w, i32_w]
                rfl
              refine take_ (i := 0) (N := some 139) (v := ?_) (a' := ?_) #[true, true, true, true, false, false, false, false, false, false, false, false, false] rfl rfl (by kernel_rfl) (fun _ _ _ h => h) (Or.inl ⟨by rfl, ?_⟩) hHeld ?_ ?_
              rotate_left
              · rintro w' ⟨s0, s1, s2, s3, s4⟩
                go_simp
                with_reducible rfl
              rotate_left
              · simp only [Act.put, List.setIfInBounds_toArray, List.set_cons_zero, List.set_cons_succ, i64_w, i32_w]
                rfl
              refine take_ (i := 4) (N := some 143) (v := ?_) (a' := ?_) #[true, true, true, true, true, false, false, false, false, false, false, false, false] rfl rfl (by kernel_rfl) (fun _ _ _ h => h) (Or.inl ⟨by rfl, ?_⟩) hHeld ?_ ?_
              rotate_left
              · rintro w' ⟨s0, s1, s2, s3, s4⟩
                go_simp
                with_reducible rfl
              rotate_left
              · simp only [Act.put, List.setIfInBounds_toArray, List.set_cons_zero, List.set_cons_succ, i64_w, i32_w]
                rfl
              refine last_ (i := 5) (N := some 144) #[true, true, true, true, true, true, false, false, false, false, false, false, false] rfl rfl (by kernel_rfl) (by decide) (fun K hK => ?_)
              refine goes_ Try.func11 (by kernel_rfl) rfl #[.agg #[.string id, .int .i64 n, .int .i64 (zz : Int), .int .i64 (rows.length : Int)], .string U] (by rfl) rfl rfl (by simp only [List.map_toArray, List.map_cons, List.map_nil]; rfl) ?_
              with_reducible refine (cut_calls id n (zz : Int) (rows.length : Int) U aas bs 0 rows.length lb _ HCA.out HAL.out HLB.out).mono ?_
              rintro e w6 ⟨A3, k3, A4, k4, rfl, h1, h2, h3, h4, hB⟩
              refine ⟨_, rfl, ?_⟩
              refine hK.out _ _ ?_
              clear hK K
              refine norm_ (a' := ?_) ?_ ?_
              rotate_left
              · show Act.put _ (some 144) _ = _
                simp only [Act.put, List.setIfInBounds_toArray, List.set_cons_zero, List.set_cons_succ, i64_w, i32_w]
                rfl
              refine pure_ (i := 6) (N := some 138) (v := ?_) (a' := ?_) #[true, true, true, true, true, true, true, false, false, false, false, false, false] rfl rfl (by kernel_rfl) (fun _ _ _ h => h) (Or.inl ⟨by rfl, ?_⟩) ?_ ?_
              rotate_left
              · intro w'
                go_simp
                with_reducible rfl
              rotate_left
              · simp only [Act.put, List.setIfInBounds_toArray, List.set_cons_zero, List.set_cons_succ, i64_w, i32_w]
                rfl
              refine pure_ (i := 7) (N := some 145) (v := ?_) (a' := ?_) #[true, true, true, true, true, true, true, true, false, false, false, false, false] rfl rfl (by kernel_rfl) (fun _ _ _ h => h) (Or.inl ⟨by rfl, ?_⟩) ?_ ?_
              rotate_left
              · intro w'
                go_simp
                with_reducible rfl
              rotate_left
              · simp only [Act.put, List.setIfInBounds_toArray, List.set_cons_zero, List.set_cons_succ, i64_w, i32_w]
                rfl
              refine pure_ (i := 8) (N := some 146) (v := ?_) (a' := ?_) #[true, true, true, true, true, true, true, true, true, false, false, false, false] rfl rfl (by kernel_rfl) (fun _ _ _ h => h) (Or.inl ⟨by rfl, ?_⟩) ?_ ?_
              rotate_left
              · intro w'
                go_simp
                with_reducible rfl
              rotate_left
              · simp only [Act.put, List.setIfInBounds_toArray, List.set_cons_zero, List.set_cons_succ, i64_w, i32_w]
                rfl
              refine pure_ (i := 9) (N := some 147) (v := ?_) (a' := ?_) #[true, true, true, true, true, true, true, true, true, true, false, false, false] rfl rfl (by kernel_rfl) (fun _ _ _ h => h) (Or.inl ⟨by rfl, ?_⟩) ?_ ?_
              rotate_left
              · intro w'
                go_simp
                with_reducible rfl
              rotate_left
              · simp only [Act.put, List.setIfInBounds_toArray, List.set_cons_zero, List.set_cons_succ, i64_w, i32_w]
                rfl
              refine pure_ (i := 10) (N := some 15) (v := ?_) (a' := ?_) #[true, true, true, true, true, true, true, true, true, true, true, false, false] rfl rfl (by kernel_rfl) (fun _ _ _ h => h) (Or.inl ⟨by rfl, ?_⟩) ?_ ?_
              rotate_left
              · intro w'
                go_simp
                with_reducible rfl
              rotate_left
              · simp only [Act.put, List.setIfInBounds_toArray, List.set_cons_zero, List.set_cons_succ, i64_w, i32_w]
                rfl
              refine pure_ (i := 11) (N := some 16) (v := ?_) (a' := ?_) #[true, true, true, true, true, true, true, true, true, true, true, true, false] rfl rfl (by kernel_rfl) (fun _ _ _ h => h) (Or.inl ⟨by rfl, ?_⟩) ?_ ?_
              rotate_left
              · intro w'
                go_simp
                with_reducible rfl
              rotate_left
              · simp only [Act.put, List.setIfInBounds_toArray, List.set_cons_zero, List.set_cons_succ, i64_w, i32_w]
                rfl
              refine pure_ (i := 12) (N := some 14) (v := ?_) (a' := ?_) #[true, true, true, true, true, true, true, true, true, true, true, true, true] rfl rfl (by kernel_rfl) (fun _ _ _ h => h) (Or.inl ⟨by rfl, ?_⟩) ?_ ?_
              rotate_left
              · intro w'
                go_simp
                with_reducible rfl
              rotate_left
              · simp only [Act.put, List.setIfInBounds_toArray, List.set_cons_zero, List.set_cons_succ, i64_w, i32_w]
                rfl
              refine done_ (by kernel_rfl) ?_
              have A9 := Aside0.mk (A8.out.below hB)
              have T3 := Aside0.mk (T2.out.below hB)
              have R3 := Aside0.mk h3
              have R4 := Aside0.mk h4
              have HK4 := Aside0.mk h2
              clear hB A7 A8 T1 T2 h1 h2 h3 h4 HCA
              go_wp2_with fail
              go_loopw [23] (fun v wr => ∃ j : Nat, j ≤ rows.length ∧ v = .int .i64 (j : Int) ∧ Aside0 (Al w wr X id n (zz : Int) (rows.length : Int)) ∧ Aside0 (By w wr B T) ∧ Aside0 (Kd.C Kd.string wr A3 rows.length aas) ∧ Aside0 (Kd.C (Kd.int .i64) wr A4 lb bs)) (fun v _ => rows.length - (intOf v).toNat)
              case atStart => exact ⟨0, Nat.zero_le _, rfl, A9, T3, R3, R4⟩
              case round =>
                obtain ⟨j, hj, rfl, A10, T4, R5, R6⟩ := hrel
                clear A9 T3 R3 R4
                by_cases hlt : j < rows.length
                · obtain ⟨E, hE⟩ : ∃ E, E = (j + 1) * one := ⟨_, rfl⟩
                  have hEI : ((j : Int) + 1) * (one : Int) = (E : Int) := by rw [hE]; exact (Int.natCast_mul (j + 1) one).symm
                  have hEJ : E ≤ J.size := by
                    have h1 : (j + 1) * (zz + 8) ≤ rows.length * (zz + 8) := Nat.mul_le_mul_right _ hlt
                    rw [hE, HONE.out, HJS.out]
                    exact h1
                  have HE := Aside0.mk hE
                  have htj := HTORN.out j hlt
                  have hrj := HROW.out j hlt
                  clear hE
                  by_cases hge : ee < E
                  · have hno : okA U id n zz j = false := by
                      unfold okA
                      rw [← HONE.out, ← HE.out, decide_eq_false (by rw [HUS.out]; omega), Bool.false_and]
                    have hti : bs.contains (j : Int) = true := by rw [htj, hno]; rfl
                    have HI := Aside0.mk (is_calls A4 k4 bs (j : Int) true wr (by rw [HLB.out]; exact R6.out) (by rw [HLB.out]; exact HK4.out) hti)
                    rw [HLB.out] at HI
                    clear htj hrj hti hno
                    go_wp2_with fail
                    refine HI.out.mono ?_
                    rintro e w7 ⟨rfl, rfl⟩
                    clear HI
                    go_wp2_with fail
                    go_roundw
                    case rel => exact ⟨j + 1, by omega, by go_num, A10, T4, R5, R6⟩
                    case measure => simp [intOf]; omega
                  · obtain ⟨c0, c1, c2, c3⟩ := A10.out.drew.at_
                    have R7 := Aside0.mk (Kd.C_below R6.out (below_drew (Below.refl _ _)))
                    have R8 := Aside0.mk (Kd.C_below R5.out (below_drew (Below.refl _ _)))
                    have A11 := Aside0.mk A10.out.drew
                    have T5 := Aside0.mk (T4.out.below (below_drew (Below.refl _ _)))
                    obtain ⟨ad1, e1, hx1⟩ := Kd.at_string R8.out (j : Int) (by omega) (by omega)
                    cases e1
                    rw [Int.toNat_natCast] at hx1
                    have hrd : rdOf ByteArray.empty aas (j : Int) = aas.getD j ByteArray.empty := by unfold rdOf; rw [Int.toNat_natCast]
                    rw [hrd, hrj] at hx1
                    clear hrd hrj
                    by_cases hjq : j = q
                    · obtain ⟨hNs, hNt, hNr⟩ := apart_now J y id n zz q x ee hes (by rw [← HONE.out, ← hjq, ← HE.out]; omega)
                      rw [← HONE.out, ← HF.out, ← HTD.out] at hNs hNt hNr
                      rw [← HUD.out] at hNt hNr
                      have hEF : E = F + one := by rw [HE.out, HF.out, hjq, Nat.succ_mul]
                      have hkn0 := T4.out.reads (by rw [HTL.out]; omega) F one (by rw [HTL.out]; omega)
                      obtain ⟨NW, hNW⟩ : ∃ NW, NW = strOfNums ((T.drop F).take one) := ⟨_, rfl⟩
                      rw [← hNW] at hNs hNt hNr
                      have hkn : ∀ c : Nat, (convert 34 9 (.slice (some ⟨B, F, none⟩) one c)).run Try.prog wr = .ok (.string NW) wr := by
                        intro c
                        rw [hNW]
                        exact string_of_reads (P := Try.prog) (c := c) Try.underlying34 Try.underlying5 Try.underlying9 hkn0
                      have hq1 : ((q : Int) + 1) * (one : Int) = (E : Int) := by rw [← hEI, hjq]
                      have hEFs : E - F = one := by omega
                      have hFE : F ≤ E := by omega
                      have hEC : E ≤ C := by omega
                      rw [← hjq] at hNt hNr
                      obtain ⟨rt, hrt⟩ : ∃ rt, okA U id n zz j = rt := ⟨_, rfl⟩
                      rw [hrt] at hNt hNr htj
                      have hti : bs.contains (j : Int) = !rt := htj
                      have HNT := Aside0.mk hNt
                      have HNR := Aside0.mk hNr
                      have HTI := Aside0.mk hti
                      have hjq1 : (j == q) = true := beq_iff_eq.mpr hjq
                      have hjq2 : (j != q) = false := by rw [hjq]; simp
                      have hjq3 : ((j : Int) == (q : Int)) = true := beq_iff_eq.mpr (by omega)
                      have hjq4 : ((j : Int) != (q : Int)) = false := by rw [hjq]; simp
                      have HJQ := Aside0.mk hjq
                      clear hNt hNr hti htj hrt hkn0 hNW hjq hEF c0 c1 c2 c3
                      go_upto_region 35 with fail
                      have hFit : Fit id n (j : Int) := fit_of HM.out (by omega) (by omega)
                      have hzo : zz ≤ one := by have := HONE.out; omega
                      have HIS := Aside0.mk (show tag_Is.f 3 id n (j : Int) (NW.extract 0 zz) (NW.extract zz one) = some rt by rw [isM_ok 0 id n (j : Int) (NW.extract 0 zz) (NW.extract zz one) hFit (by rw [size_ext _ _ _ (by omega)]; omega), ← HNT.out, HONE.out])
                      have HNS := Aside0.mk hNs
                      obtain ⟨c0, c1, c2, c3⟩ := A11.out.at_
                      clear hFit hkn
                      refine start_ (n := 16) (S := fun w' => w'.cell? ⟨X, 0, none⟩ = some (.string id) ∧ w'.cell? ⟨X, 1, none⟩ = some (.int .i64 n) ∧ w'.cell? ⟨X, 2, none⟩ = some (.int .i64 (zz : Int))) (ds := [14]) #[false, false, false, false, false, false, false, false, false, false, false, false, false, false, false, false] (by kernel_rfl) rfl rfl ⟨c0, c1, c2⟩ (fun hHeld => ?_)
                      refine pure_ (i := 0) (N := some 200) (v := ?_) (a' := ?_) #[true, false, false, false, false, false, false, false, false, false, false, false, false, false, false, false] rfl rfl (by kernel_rfl) (fun _ _ _ h => h) (Or.inl ⟨by rfl, ?_⟩) ?_ ?_
                      rotate_left
                      · intro w'
                        go_simp
                        with_reducible rfl
                      rotate_left
                      · simp only [Act.put, List.setIfInBounds_toArray, List.set_cons_zero, List.set_cons_succ, i64_w, i32_w]
                        rfl
                      refine pure_ (i := 2) (N := some 202) (v := ?_) (a' := ?_) #[true, false, true, false, false, false, false, false, false, false, false, false, false, false, false, false] rfl rfl (by kernel_rfl) (fun _ _ _ h => h) (Or.inl ⟨by rfl, ?_⟩) ?_ ?_
                      rotate_left
                      · intro w'
                        go_simp
                        with_reducible rfl
                      rotate_left
                      · simp only [Act.put, List.setIfInBounds_toArray, List.set_cons_zero, List.set_cons_succ, i64_w, i32_w]
                        rfl
                      refine pure_ (i := 4) (N := some 204) (v := ?_) (a' := ?_) #[true, false, true, false, true, false, false, false, false, false, false, false, false, false, false, false] rfl rfl (by kernel_rfl) (fun _ _ _ h => h) (Or.inl ⟨by rfl, ?_⟩) ?_ ?_
                      rotate_left
                      · intro w'
                        go_simp
                        with_reducible rfl
                      rotate_left
                      · simp only [Act.put, List.setIfInBounds_toArray, List.set_cons_zero, List.set_cons_succ, i64_w, i32_w]
                        rfl
                      refine pure_ (i := 5) (N := some 205) (v := ?_) (a' := ?_) #[true, false, true, false, true, true, false, false, false, false, false, false, false, false, false, false] rfl rfl (by kernel_rfl) (fun _ _ _ h => h) (Or.inl ⟨by rfl, ?_⟩) ?_ ?_
                      rotate_left
                      · intro w'
                        go_simp
                        with_reducible rfl
                      rotate_left
                      · simp only [Act.put, List.setIfInBounds_toArray, List.set_cons_zero, List.set_cons_succ, i64_w, i32_w]
                        rfl
                      refine pure_ (i := 6) (N := some 206) (v := ?_) (a' := ?_) #[true, false, true, false, true, true, true, false, false, false, false, false, false, false, false, false] rfl rfl (by kernel_rfl) (fun _ _ _ h => h) (Or.inl ⟨by rfl, ?_⟩) ?_ ?_
                      rotate_left
                      · intro w'
                        go_simp
                        with_reducible rfl
                      rotate_left
                      · simp only [Act.put, List.setIfInBounds_toArray, List.set_cons_zero, List.set_cons_succ, i64_w, i32_w]
                        rfl
                      refine pure_ (i := 10) (N := some 210) (v := ?_) (a' := ?_) #[true, false, true, false, true, true, true, false, false, false, true, false, false, false, false, false] rfl rfl (by kernel_rfl) (fun _ _ _ h => h) (Or.inl ⟨by rfl, ?_⟩) ?_ ?_
                      rotate_left
                      · intro w'
                        go_simp
                        with_reducible rfl
                      rotate_left
                      · simp only [Act.put, List.setIfInBounds_toArray, List.set_cons_zero, List.set_cons_succ, i64_w, i32_w]
                        rfl
                      refine pure_ (i := 11) (N := some 211) (v := ?_) (a' := ?_) #[true, false, true, false, true, true, true, false, false, false, true, true, false, false, false, false] rfl rfl (by kernel_rfl) (fun _ _ _ h => h) (Or.inl ⟨by rfl, ?_⟩) ?_ ?_
                      rotate_left
                      · intro w'
                        go_simp
                        with_reducible rfl
                      rotate_left
                      · simp only [Act.put, List.setIfInBounds_toArray, List.set_cons_zero, List.set_cons_succ, i64_w, i32_w]
                        rfl
                      refine take_ (i := 1) (N := some 201) (v := ?_) (a' := ?_) #[true, true, true, false, true, true, true, false, false, false, true, true, false, false, false, false] rfl rfl (by kernel_rfl) (fun _ _ _ h => h) (Or.inl ⟨by rfl, ?_⟩) hHeld ?_ ?_
                      rotate_left
                      · rintro w' ⟨s0, s1, s2⟩
                        go_simp
                        with_reducible rfl
                      rotate_left
                      · simp only [Act.put, List.setIfInBounds_toArray, List.set_cons_zero, List.set_cons_succ, i64_w, i32_w]
                        rfl
                      refine take_ (i := 3) (N := some 203) (v := ?_) (a' := ?_) #[true, true, true, true, true, true, true, false, false, false, true, true, false, false, false, false] rfl rfl (by kernel_rfl) (fun _ _ _ h => h) (Or.inl ⟨by rfl, ?_⟩) hHeld ?_ ?_
                      rotate_left
                      · rintro w' ⟨s0, s1, s2⟩
                        go_simp
                        with_reducible rfl
                      rotate_left
                      · simp only [Act.put, List.setIfInBounds_toArray, List.set_cons_zero, List.set_cons_succ, i64_w, i32_w]
                        rfl
                      refine take_ (i := 7) (N := some 207) (v := ?_) (a' := ?_) #[true, true, true, true, true, true, true, true, false, false, true, true, false, false, false, false] rfl rfl (by kernel_rfl) (fun _ _ _ h => h) (Or.inl ⟨by rfl, ?_⟩) hHeld ?_ ?_
                      rotate_left
                      · rintro w' ⟨s0, s1, s2⟩
                        go_simp
                        with_reducible rfl
                      rotate_left
                      · simp only [Act.put, List.setIfInBounds_toArray, List.set_cons_zero, List.set_cons_succ, i64_w, i32_w]
                        rfl
                      refine pure_ (i := 8) (N := some 208) (v := ?_) (a' := ?_) #[true, true, true, true, true, true, true, true, true, false, true, true, false, false, false, false] rfl rfl (by kernel_rfl) (fun _ _ _ h => h) (Or.inl ⟨by rfl, ?_⟩) ?_ ?_
                      rotate_left
                      · intro w'
                        go_simp
                        with_reducible rfl
                      rotate_left
                      · simp only [Act.put, List.setIfInBounds_toArray, List.set_cons_zero, List.set_cons_succ, i64_w, i32_w]
                        rfl
                      refine pure_ (i := 9) (N := some 209) (v := ?_) (a' := ?_) #[true, true, true, true, true, true, true, true, true, true, true, true, false, false, false, false] rfl rfl (by kernel_rfl) (fun _ _ _ h => h) (Or.inl ⟨by rfl, ?_⟩) ?_ ?_
                      rotate_left
                      · intro w'
                        go_simp
                        with_reducible rfl
                      rotate_left
                      · simp only [Act.put, List.setIfInBounds_toArray, List.set_cons_zero, List.set_cons_succ, i64_w, i32_w]
                        rfl
                      refine take_ (i := 12) (N := some 212) (v := ?_) (a' := ?_) #[true, true, true, true, true, true, true, true, true, true, true, true, true, false, false, false] rfl rfl (by kernel_rfl) (fun _ _ _ h => h) (Or.inl ⟨by rfl, ?_⟩) hHeld ?_ ?_
                      rotate_left
                      · rintro w' ⟨s0, s1, s2⟩
                        go_simp
                        with_reducible rfl
                      rotate_left
                      · simp only [Act.put, List.setIfInBounds_toArray, List.set_cons_zero, List.set_cons_succ, i64_w, i32_w]
                        rfl
                      refine pure_ (i := 13) (N := some 213) (v := ?_) (a' := ?_) #[true, true, true, true, true, true, true, true, true, true, true, true, true, true, false, false] rfl rfl (by kernel_rfl) (fun _ _ _ h => h) (Or.inl ⟨by rfl, ?_⟩) ?_ ?_
                      rotate_left
                      · intro w'
                        go_simp
                        with_reducible rfl
                      rotate_left
                      · simp only [Act.put, List.setIfInBounds_toArray, List.set_cons_zero, List.set_cons_succ, i64_w, i32_w]
                        rfl
                      refine last_ (i := 14) (N := some 214) #[true, true, true, true, true, true, true, true, true, true, true, true, true, true, true, false] rfl rfl (by kernel_rfl) (by decide) (fun K hK => ?_)
                      refine goes_ Try.func13 (by kernel_rfl) rfl #[.agg #[.string id, .int .i64 n, .int .i64 (j : Int), .string (NW.extract 0 zz)], .string (NW.extract zz one)] (by rfl) rfl rfl (by simp only [List.map_toArray, List.map_cons, List.map_nil]; rfl) ?_
                      with_reducible refine (tag_Is.calls 3 id n (j : Int) (NW.extract 0 zz) (NW.extract zz one) rt _ HIS.out).mono ?_
                      rintro e w7 ⟨rfl, hB⟩
                      refine ⟨_, rfl, ?_⟩
                      refine hK.out _ _ ?_
                      clear hK K
                      refine norm_ (a' := ?_) ?_ ?_
                      rotate_left
                      · show Act.put _ (some 214) _ = _
                        simp only [Act.put, List.setIfInBounds_toArray, List.set_cons_zero, List.set_cons_succ, i64_w, i32_w]
                        rfl
                      refine pure_ (i := 15) (N := some 25) (v := ?_) (a' := ?_) #[true, true, true, true, true, true, true, true, true, true, true, true, true, true, true, true] rfl rfl (by kernel_rfl) (fun _ _ _ h => h) (Or.inl ⟨by rfl, ?_⟩) ?_ ?_
                      rotate_left
                      · intro w'
                        go_simp
                        with_reducible rfl
                      rotate_left
                      · simp only [Act.put, List.setIfInBounds_toArray, List.set_cons_zero, List.set_cons_succ, i64_w, i32_w]
                        rfl
                      refine done_ (by kernel_rfl) ?_
                      have A12 := Aside0.mk (A11.out.below hB)
                      have A13 := Aside0.mk A12.out.drew
                      have T6 := Aside0.mk (T5.out.below (below_drew hB))
                      have R9 := Aside0.mk (Kd.C_below R8.out (below_drew hB))
                      have R10 := Aside0.mk (Kd.C_below R7.out (below_drew hB))
                      clear hB A10 A11 T4 T5 R5 R6 R7 R8 HIS hEFs hq1 hEI
                      obtain ⟨ad3, e3, hx3⟩ := Kd.at_string R9.out (j : Int) (by omega) (by omega)
                      cases e3
                      have hrd : rdOf ByteArray.empty aas (j : Int) = aas.getD j ByteArray.empty := by unfold rdOf; rw [Int.toNat_natCast]
                      have HI := Aside0.mk (is_calls A4 k4 bs (j : Int) (!rt) w7.drew (by rw [HLB.out]; exact R10.out) (by rw [HLB.out]; exact HK4.out) HTI.out)
                      rw [HLB.out] at HI
                      rw [Int.toNat_natCast, hrd, HROW.out j hlt] at hx3
                      clear hx1 hrd
                      obtain ⟨y0, y1, y2, y3⟩ := A13.out.at_
                      cases rt with
                      | true =>
                        rw [HNR.out rfl] at hx3
                        have p2 : (!(NW.extract 0 zz).toList == (NW.extract 0 zz).toList) = false := by simp
                        clear y0 y1 y3
                        go_upto_region 36 with fail
                        refine start_ (n := 19) (S := fun w' => w'.cell? (ad1.add j) = some (.string (NW.extract 0 zz)) ∧ w'.cell? ⟨X, 2, none⟩ = some (.int .i64 (zz : Int))) (ds := []) #[false, false, false, false, false, false, false, false, false, false, false, false, false, false, false, false, false, false, false] (by kernel_rfl) rfl rfl ⟨hx3, y2⟩ (fun hHeld => ?_)
                        refine pure_ (i := 0) (N := some 215) (v := ?_) (a' := ?_) #[true, false, false, false, false, false, false, false, false, false, false, false, false, false, false, false, false, false, false] rfl rfl (by kernel_rfl) (fun _ _ _ h => h) (Or.inl ⟨by rfl, ?_⟩) ?_ ?_
                        rotate_left
                        · intro w'
                          go_simp
                          with_reducible rfl
                        rotate_left
                        · simp only [Act.put, List.setIfInBounds_toArray, List.set_cons_zero, List.set_cons_succ, i64_w, i32_w]
                          rfl
                        refine pure_ (i := 1) (N := some 216) (v := ?_) (a' := ?_) #[true, true, false, false, false, false, false, false, false, false, false, false, false, false, false, false, false, false, false] rfl rfl (by kernel_rfl) (fun _ _ _ h => h) (Or.inl ⟨by rfl, ?_⟩) ?_ ?_
                        rotate_left
                        · intro w'
                          go_simp
                          with_reducible rfl
                        rotate_left
                        · simp only [Act.put, List.setIfInBounds_toArray, List.set_cons_zero, List.set_cons_succ, i64_w, i32_w]
                          rfl
                        refine pure_ (i := 3) (N := some 218) (v := ?_) (a' := ?_) #[true, true, false, true, false, false, false, false, false, false, false, false, false, false, false, false, false, false, false] rfl rfl (by kernel_rfl) (fun _ _ _ h => h) (Or.inl ⟨by rfl, ?_⟩) ?_ ?_
                        rotate_left
                        · intro w'
                          go_simp
                          with_reducible rfl
                        rotate_left
                        · simp only [Act.put, List.setIfInBounds_toArray, List.set_cons_zero, List.set_cons_succ, i64_w, i32_w]
                          rfl
                        refine one_ (i := 2) (N := some 217) #[true, true, true, true, false, false, false, false, false, false, false, false, false, false, false, false, false, false, false] rfl rfl (by kernel_rfl) (by decide) (fun K hK => ?_)
                        refine goes_ Try.func12 (by kernel_rfl) rfl #[.slice A4 lb k4, .int .i64 (j : Int)] (by rfl) rfl rfl (by simp only [List.map_toArray, List.map_cons, List.map_nil]; rfl) ?_
                        with_reducible refine (HI.out).mono ?_
                        rintro e w8 ⟨rfl, rfl⟩
                        refine ⟨_, rfl, ?_⟩
                        refine hK.out _ _ hHeld (fun hHeld => ?_)
                        clear hK K
                        refine norm_ (a' := ?_) ?_ ?_
                        rotate_left
                        · show Act.put _ (some 217) _ = _
                          simp only [Act.put, List.setIfInBounds_toArray, List.set_cons_zero, List.set_cons_succ, i64_w, i32_w]
                          rfl
                        refine pure_ (i := 4) (N := some 219) (v := ?_) (a' := ?_) #[true, true, true, true, true, false, false, false, false, false, false, false, false, false, false, false, false, false, false] rfl rfl (by kernel_rfl) (fun _ _ _ h => h) (Or.inl ⟨by rfl, ?_⟩) ?_ ?_
                        rotate_left
                        · intro w'
                          go_simp
                          with_reducible rfl
                        rotate_left
                        · simp only [Act.put, List.setIfInBounds_toArray, List.set_cons_zero, List.set_cons_succ, i64_w, i32_w]
                          rfl
                        refine pure_ (i := 5) (N := some 220) (v := ?_) (a' := ?_) #[true, true, true, true, true, true, false, false, false, false, false, false, false, false, false, false, false, false, false] rfl rfl (by kernel_rfl) (fun _ _ _ h => h) (Or.inl ⟨by rfl, ?_⟩) ?_ ?_
                        rotate_left
                        · intro w'
                          go_simp
                          with_reducible rfl
                        rotate_left
                        · simp only [Act.put, List.setIfInBounds_toArray, List.set_cons_zero, List.set_cons_succ, i64_w, i32_w]
                          rfl
                        refine pure_ (i := 6) (N := some 221) (v := ?_) (a' := ?_) #[true, true, true, true, true, true, true, false, false, false, false, false, false, false, false, false, false, false, false] rfl rfl (by kernel_rfl) (fun _ _ _ h => h) (Or.inl ⟨by rfl, ?_⟩) ?_ ?_
                        rotate_left
                        · intro w'
                          go_simp
                          with_reducible rfl
                        rotate_left
                        · simp only [Act.put, List.setIfInBounds_toArray, List.set_cons_zero, List.set_cons_succ, i64_w, i32_w]
                          rfl
                        refine pure_ (i := 7) (N := some 222) (v := ?_) (a' := ?_) #[true, true, true, true, true, true, true, true, false, false, false, false, false, false, false, false, false, false, false] rfl rfl (by kernel_rfl) (fun _ _ _ h => h) (Or.inl ⟨by rfl, ?_⟩) ?_ ?_
                        rotate_left
                        · intro w'
                          go_simp
                          with_reducible rfl
                        rotate_left
                        · simp only [Act.put, List.setIfInBounds_toArray, List.set_cons_zero, List.set_cons_succ, i64_w, i32_w]
                          rfl
                        refine pure_ (i := 8) (N := some 223) (v := ?_) (a' := ?_) #[true, true, true, true, true, true, true, true, true, false, false, false, false, false, false, false, false, false, false] rfl rfl (by kernel_rfl) (fun _ _ _ h => h) (Or.inl ⟨by rfl, ?_⟩) ?_ ?_
                        rotate_left
                        · intro w'
                          go_simp
                          with_reducible rfl
                        rotate_left
                        · simp only [Act.put, List.setIfInBounds_toArray, List.set_cons_zero, List.set_cons_succ, i64_w, i32_w]
                          rfl
                        refine pure_ (i := 9) (N := some 224) (v := ?_) (a' := ?_) #[true, true, true, true, true, true, true, true, true, true, false, false, false, false, false, false, false, false, false] rfl rfl (by kernel_rfl) (fun _ _ _ h => h) (Or.inl ⟨by rfl, ?_⟩) ?_ ?_
                        rotate_left
                        · intro w'
                          go_simp
                          with_reducible rfl
                        rotate_left
                        · simp only [Act.put, List.setIfInBounds_toArray, List.set_cons_zero, List.set_cons_succ, i64_w, i32_w]
                          rfl
                        refine pure_ (i := 10) (N := some 225) (v := ?_) (a' := ?_) #[true, true, true, true, true, true, true, true, true, true, true, false, false, false, false, false, false, false, false] rfl rfl (by kernel_rfl) (fun _ _ _ h => h) (Or.inl ⟨by rfl, ?_⟩) ?_ ?_
                        rotate_left
                        · intro w'
                          go_simp
                          with_reducible rfl
                        rotate_left
                        · simp only [Act.put, List.setIfInBounds_toArray, List.set_cons_zero, List.set_cons_succ, i64_w, i32_w]
                          rfl
                        refine pure_ (i := 12) (N := some 227) (v := ?_) (a' := ?_) #[true, true, true, true, true, true, true, true, true, true, true, false, true, false, false, false, false, false, false] rfl rfl (by kernel_rfl) (fun _ _ _ h => h) (Or.inl ⟨by rfl, ?_⟩) ?_ ?_
                        rotate_left
                        · intro w'
                          go_simp
                          with_reducible rfl
                        rotate_left
                        · simp only [Act.put, List.setIfInBounds_toArray, List.set_cons_zero, List.set_cons_succ, i64_w, i32_w]
                          rfl
                        refine pure_ (i := 13) (N := some 228) (v := ?_) (a' := ?_) #[true, true, true, true, true, true, true, true, true, true, true, false, true, true, false, false, false, false, false] rfl rfl (by kernel_rfl) (fun _ _ _ h => h) (Or.inl ⟨by rfl, ?_⟩) ?_ ?_
                        rotate_left
                        · intro w'
                          go_simp
                          with_reducible rfl
                        rotate_left
                        · simp only [Act.put, List.setIfInBounds_toArray, List.set_cons_zero, List.set_cons_succ, i64_w, i32_w]
                          rfl
                        refine take_ (i := 11) (N := some 226) (v := ?_) (a' := ?_) #[true, true, true, true, true, true, true, true, true, true, true, true, true, true, false, false, false, false, false] rfl rfl (by kernel_rfl) (fun _ _ _ h => h) (Or.inl ⟨by rfl, ?_⟩) hHeld ?_ ?_
                        rotate_left
                        · rintro w' ⟨s0, s1⟩
                          go_simp
                          with_reducible rfl
                        rotate_left
                        · simp only [Act.put, List.setIfInBounds_toArray, List.set_cons_zero, List.set_cons_succ, i64_w, i32_w]
                          rfl
                        refine take_ (i := 14) (N := some 229) (v := ?_) (a' := ?_) #[true, true, true, true, true, true, true, true, true, true, true, true, true, true, true, false, false, false, false] rfl rfl (by kernel_rfl) (fun _ _ _ h => h) (Or.inl ⟨by rfl, ?_⟩) hHeld ?_ ?_
                        rotate_left
                        · rintro w' ⟨s0, s1⟩
                          go_simp
                          with_reducible rfl
                        rotate_left
                        · simp only [Act.put, List.setIfInBounds_toArray, List.set_cons_zero, List.set_cons_succ, i64_w, i32_w]
                          rfl
                        refine pure_ (i := 15) (N := some 230) (v := ?_) (a' := ?_) #[true, true, true, true, true, true, true, true, true, true, true, true, true, true, true, true, false, false, false] rfl rfl (by kernel_rfl) (fun _ _ _ h => h) (Or.inl ⟨by rfl, ?_⟩) ?_ ?_
                        rotate_left
                        · intro w'
                          go_simp
                          with_reducible rfl
                        rotate_left
                        · simp only [Act.put, List.setIfInBounds_toArray, List.set_cons_zero, List.set_cons_succ, i64_w, i32_w]
                          rfl
                        refine pure_ (i := 16) (N := some 231) (v := ?_) (a' := ?_) #[true, true, true, true, true, true, true, true, true, true, true, true, true, true, true, true, true, false, false] rfl rfl (by kernel_rfl) (fun _ _ _ h => h) (Or.inl ⟨by rfl, ?_⟩) ?_ ?_
                        rotate_left
                        · intro w'
                          go_simp
                          with_reducible rfl
                        rotate_left
                        · simp only [Act.put, List.setIfInBounds_toArray, List.set_cons_zero, List.set_cons_succ, i64_w, i32_w]
                          rfl
                        refine pure_ (i := 17) (N := some 232) (v := ?_) (a' := ?_) #[true, true, true, true, true, true, true, true, true, true, true, true, true, true, true, true, true, true, false] rfl rfl (by kernel_rfl) (fun _ _ _ h => h) (Or.inl ⟨by rfl, ?_⟩) ?_ ?_
                        rotate_left
                        · intro w'
                          go_simp
                          with_reducible rfl
                        rotate_left
                        · simp only [Act.put, List.setIfInBounds_toArray, List.set_cons_zero, List.set_cons_succ, i64_w, i32_w]
                          rfl
                        refine pure_ (i := 18) (N := some 233) (v := ?_) (a' := ?_) #[true, true, true, true, true, true, true, true, true, true, true, true, true, true, true, true, true, true, true] rfl rfl (by kernel_rfl) (fun _ _ _ h => h) (Or.inl ⟨by rfl, ?_⟩) ?_ ?_
                        rotate_left
                        · intro w'
                          go_simp
                          with_reducible rfl
                        rotate_left
                        · simp only [Act.put, List.setIfInBounds_toArray, List.set_cons_zero, List.set_cons_succ, i64_w, i32_w]
                          rfl
                        refine done_ (by kernel_rfl) ?_
                        clear hx3 HI p2 y2 c0 c1 c2 c3 hNs hjq1 hjq2 hjq3 hjq4
                        go_wp2_with fail
                        go_roundw
                        case rel => exact ⟨j + 1, by omega, by go_num, A13, T6, R9, R10⟩
                        case measure => simp [intOf]; omega
                      | false =>
                        clear y0 y1 y2 y3 hx3
                        go_upto_region 36 with fail
                        refine start_ (n := 19) (S := fun w' => True) (ds := []) #[false, false, false, false, false, false, false, false, false, false, false, false, false, false, false, false, false, false, false] (by kernel_rfl) rfl rfl trivial (fun hHeld => ?_)
                        refine pure_ (i := 0) (N := some 215) (v := ?_) (a' := ?_) #[true, false, false, false, false, false, false, false, false, false, false, false, false, false, false, false, false, false, false] rfl rfl (by kernel_rfl) (fun _ _ _ h => h) (Or.inl ⟨by rfl, ?_⟩) ?_ ?_
                        rotate_left
                        · intro w'
                          go_simp
                          with_reducible rfl
                        rotate_left
                        · simp only [Act.put, List.setIfInBounds_toArray, List.set_cons_zero, List.set_cons_succ, i64_w, i32_w]
                          rfl
                        refine pure_ (i := 1) (N := some 216) (v := ?_) (a' := ?_) #[true, true, false, false, false, false, false, false, false, false, false, false, false, false, false, false, false, false, false] rfl rfl (by kernel_rfl) (fun _ _ _ h => h) (Or.inl ⟨by rfl, ?_⟩) ?_ ?_
                        rotate_left
                        · intro w'
                          go_simp
                          with_reducible rfl
                        rotate_left
                        · simp only [Act.put, List.setIfInBounds_toArray, List.set_cons_zero, List.set_cons_succ, i64_w, i32_w]
                          rfl
                        refine pure_ (i := 3) (N := some 218) (v := ?_) (a' := ?_) #[true, true, false, true, false, false, false, false, false, false, false, false, false, false, false, false, false, false, false] rfl rfl (by kernel_rfl) (fun _ _ _ h => h) (Or.inl ⟨by rfl, ?_⟩) ?_ ?_
                        rotate_left
                        · intro w'
                          go_simp
                          with_reducible rfl
                        rotate_left
                        · simp only [Act.put, List.setIfInBounds_toArray, List.set_cons_zero, List.set_cons_succ, i64_w, i32_w]
                          rfl
                        refine one_ (i := 2) (N := some 217) #[true, true, true, true, false, false, false, false, false, false, false, false, false, false, false, false, false, false, false] rfl rfl (by kernel_rfl) (by decide) (fun K hK => ?_)
                        refine goes_ Try.func12 (by kernel_rfl) rfl #[.slice A4 lb k4, .int .i64 (j : Int)] (by rfl) rfl rfl (by simp only [List.map_toArray, List.map_cons, List.map_nil]; rfl) ?_
                        with_reducible refine (HI.out).mono ?_
                        rintro e w8 ⟨rfl, rfl⟩
                        refine ⟨_, rfl, ?_⟩
                        refine hK.out _ _ hHeld (fun hHeld => ?_)
                        clear hK K
                        refine norm_ (a' := ?_) ?_ ?_
                        rotate_left
                        · show Act.put _ (some 217) _ = _
                          simp only [Act.put, List.setIfInBounds_toArray, List.set_cons_zero, List.set_cons_succ, i64_w, i32_w]
                          rfl
                        refine pure_ (i := 4) (N := some 219) (v := ?_) (a' := ?_) #[true, true, true, true, true, false, false, false, false, false, false, false, false, false, false, false, false, false, false] rfl rfl (by kernel_rfl) (fun _ _ _ h => h) (Or.inl ⟨by rfl, ?_⟩) ?_ ?_
                        rotate_left
                        · intro w'
                          go_simp
                          with_reducible rfl
                        rotate_left
                        · simp only [Act.put, List.setIfInBounds_toArray, List.set_cons_zero, List.set_cons_succ, i64_w, i32_w]
                          rfl
                        refine pure_ (i := 5) (N := some 220) (v := ?_) (a' := ?_) #[true, true, true, true, true, true, false, false, false, false, false, false, false, false, false, false, false, false, false] rfl rfl (by kernel_rfl) (fun _ _ _ h => h) (Or.inl ⟨by rfl, ?_⟩) ?_ ?_
                        rotate_left
                        · intro w'
                          go_simp
                          with_reducible rfl
                        rotate_left
                        · simp only [Act.put, List.setIfInBounds_toArray, List.set_cons_zero, List.set_cons_succ, i64_w, i32_w]
                          rfl
                        refine pure_ (i := 6) (N := some 221) (v := ?_) (a' := ?_) #[true, true, true, true, true, true, true, false, false, false, false, false, false, false, false, false, false, false, false] rfl rfl (by kernel_rfl) (fun _ _ _ h => h) (Or.inl ⟨by rfl, ?_⟩) ?_ ?_
                        rotate_left
                        · intro w'
                          go_simp
                          with_reducible rfl
                        rotate_left
                        · simp only [Act.put, List.setIfInBounds_toArray, List.set_cons_zero, List.set_cons_succ, i64_w, i32_w]
                          rfl
                        refine pure_ (i := 7) (N := some 222) (v := ?_) (a' := ?_) #[true, true, true, true, true, true, true, true, false, false, false, false, false, false, false, false, false, false, false] rfl rfl (by kernel_rfl) (fun _ _ _ h => h) (Or.inl ⟨by rfl, ?_⟩) ?_ ?_
                        rotate_left
                        · intro w'
                          go_simp
                          with_reducible rfl
                        rotate_left
                        · simp only [Act.put, List.setIfInBounds_toArray, List.set_cons_zero, List.set_cons_succ, i64_w, i32_w]
                          rfl
                        refine pure_ (i := 8) (N := some 223) (v := undef) (a' := ?_) #[true, true, true, true, true, true, true, true, true, false, false, false, false, false, false, false, false, false, false] rfl rfl (by kernel_rfl) (fun _ _ _ h => h) (Or.inr ⟨by rfl, rfl⟩) ?_ ?_
                        rotate_left
                        · simp only [Act.put, List.setIfInBounds_toArray, List.set_cons_zero, List.set_cons_succ, i64_w, i32_w]
                          rfl
                        refine pure_ (i := 9) (N := some 224) (v := undef) (a' := ?_) #[true, true, true, true, true, true, true, true, true, true, false, false, false, false, false, false, false, false, false] rfl rfl (by kernel_rfl) (fun _ _ _ h => h) (Or.inr ⟨by rfl, rfl⟩) ?_ ?_
                        rotate_left
                        · simp only [Act.put, List.setIfInBounds_toArray, List.set_cons_zero, List.set_cons_succ, i64_w, i32_w]
                          rfl
                        refine pure_ (i := 10) (N := some 225) (v := undef) (a' := ?_) #[true, true, true, true, true, true, true, true, true, true, true, false, false, false, false, false, false, false, false] rfl rfl (by kernel_rfl) (fun _ _ _ h => h) (Or.inr ⟨by rfl, rfl⟩) ?_ ?_
                        rotate_left
                        · simp only [Act.put, List.setIfInBounds_toArray, List.set_cons_zero, List.set_cons_succ, i64_w, i32_w]
                          rfl
                        refine pure_ (i := 11) (N := some 226) (v := undef) (a' := ?_) #[true, true, true, true, true, true, true, true, true, true, true, true, false, false, false, false, false, false, false] rfl rfl (by kernel_rfl) (fun _ _ _ h => h) (Or.inr ⟨by rfl, rfl⟩) ?_ ?_
                        rotate_left
                        · simp only [Act.put, List.setIfInBounds_toArray, List.set_cons_zero, List.set_cons_succ, i64_w, i32_w]
                          rfl
                        refine pure_ (i := 12) (N := some 227) (v := undef) (a' := ?_) #[true, true, true, true, true, true, true, true, true, true, true, true, true, false, false, false, false, false, false] rfl rfl (by kernel_rfl) (fun _ _ _ h => h) (Or.inr ⟨by rfl, rfl⟩) ?_ ?_
                        rotate_left
                        · simp only [Act.put, List.setIfInBounds_toArray, List.set_cons_zero, List.set_cons_succ, i64_w, i32_w]
                          rfl
                        refine pure_ (i := 13) (N := some 228) (v := undef) (a' := ?_) #[true, true, true, true, true, true, true, true, true, true, true, true, true, true, false, false, false, false, false] rfl rfl (by kernel_rfl) (fun _ _ _ h => h) (Or.inr ⟨by rfl, rfl⟩) ?_ ?_
                        rotate_left
                        · simp only [Act.put, List.setIfInBounds_toArray, List.set_cons_zero, List.set_cons_succ, i64_w, i32_w]
                          rfl
                        refine pure_ (i := 14) (N := some 229) (v := undef) (a' := ?_) #[true, true, true, true, true, true, true, true, true, true, true, true, true, true, true, false, false, false, false] rfl rfl (by kernel_rfl) (fun _ _ _ h => h) (Or.inr ⟨by rfl, rfl⟩) ?_ ?_
                        rotate_left
                        · simp only [Act.put, List.setIfInBounds_toArray, List.set_cons_zero, List.set_cons_succ, i64_w, i32_w]
                          rfl
                        refine pure_ (i := 15) (N := some 230) (v := undef) (a' := ?_) #[true, true, true, true, true, true, true, true, true, true, true, true, true, true, true, true, false, false, false] rfl rfl (by kernel_rfl) (fun _ _ _ h => h) (Or.inr ⟨by rfl, rfl⟩) ?_ ?_
                        rotate_left
                        · simp only [Act.put, List.setIfInBounds_toArray, List.set_cons_zero, List.set_cons_succ, i64_w, i32_w]
                          rfl
                        refine pure_ (i := 16) (N := some 231) (v := undef) (a' := ?_) #[true, true, true, true, true, true, true, true, true, true, true, true, true, true, true, true, true, false, false] rfl rfl (by kernel_rfl) (fun _ _ _ h => h) (Or.inr ⟨by rfl, rfl⟩) ?_ ?_
                        rotate_left
                        · simp only [Act.put, List.setIfInBounds_toArray, List.set_cons_zero, List.set_cons_succ, i64_w, i32_w]
                          rfl
                        refine pure_ (i := 17) (N := some 232) (v := ?_) (a' := ?_) #[true, true, true, true, true, true, true, true, true, true, true, true, true, true, true, true, true, true, false] rfl rfl (by kernel_rfl) (fun _ _ _ h => h) (Or.inl ⟨by rfl, ?_⟩) ?_ ?_
                        rotate_left
                        · intro w'
                          go_simp
                          with_reducible rfl
                        rotate_left
                        · simp only [Act.put, List.setIfInBounds_toArray, List.set_cons_zero, List.set_cons_succ, i64_w, i32_w]
                          rfl
                        refine pure_ (i := 18) (N := some 233) (v := ?_) (a' := ?_) #[true, true, true, true, true, true, true, true, true, true, true, true, true, true, true, true, true, true, true] rfl rfl (by kernel_rfl) (fun _ _ _ h => h) (Or.inl ⟨by rfl, ?_⟩) ?_ ?_
                        rotate_left
                        · intro w'
                          go_simp
                          with_reducible rfl
                        rotate_left
                        · simp only [Act.put, List.setIfInBounds_toArray, List.set_cons_zero, List.set_cons_succ, i64_w, i32_w]
                          rfl
                        refine done_ (by kernel_rfl) ?_
                        clear HI c0 c1 c2 c3 hNs hjq1 hjq2 hjq3 hjq4
                        go_wp2_with fail
                        go_roundw
                        case rel => exact ⟨j + 1, by omega, by go_num, A13, T6, R9, R10⟩
                        case measure => simp [intOf]; omega
                    · have hot := apart_other J y id n zz q x ee j (by have := HONE.out; omega) hes (by rw [← HONE.out, ← HE.out]; omega) hjq
                      rw [← HONE.out, ← HF.out, ← HTD.out, ← HUD.out, (HAT.out j hlt).1, (HAT.out j hlt).2] at hot
                      rw [hot.1] at htj
                      rw [hot.2] at hx1
                      have HI := Aside0.mk (is_calls A4 k4 bs (j : Int) false wr.drew (by rw [HLB.out]; exact R7.out) (by rw [HLB.out]; exact HK4.out) htj)
                      rw [HLB.out] at HI
                      obtain ⟨ad2, e2, hx2⟩ := Kd.at_string (A11.out.rows HR.out) (j : Int) (by omega) (by omega)
                      cases e2
                      rw [Int.toNat_natCast, rd_at rows j hlt] at hx2
                      generalize rows[j] = xr at hx1 hx2
                      have hjq1 : (j == q) = false := beq_eq_false_iff_ne.mpr hjq
                      have hjq2 : (j != q) = true := bne_iff_ne.mpr hjq
                      have hjq3 : ((j : Int) == (q : Int)) = false := beq_eq_false_iff_ne.mpr (by omega)
                      have hjq4 : ((j : Int) != (q : Int)) = true := bne_iff_ne.mpr (by omega)
                      clear htj hot hjq c0 c1 c2 c3
                      go_upto_region 32 with fail
                      refine start_ (n := 14) (S := fun w' => w'.cell? (ad1.add j) = some (.string xr) ∧ w'.cell? (ad2.add j) = some (.string xr)) (ds := []) #[false, false, false, false, false, false, false, false, false, false, false, false, false, false] (by kernel_rfl) rfl rfl ⟨hx1, hx2⟩ (fun hHeld => ?_)
                      refine pure_ (i := 0) (N := some 176) (v := ?_) (a' := ?_) #[true, false, false, false, false, false, false, false, false, false, false, false, false, false] rfl rfl (by kernel_rfl) (fun _ _ _ h => h) (Or.inl ⟨by rfl, ?_⟩) ?_ ?_
                      rotate_left
                      · intro w'
                        go_simp
                        with_reducible rfl
                      rotate_left
                      · simp only [Act.put, List.setIfInBounds_toArray, List.set_cons_zero, List.set_cons_succ, i64_w, i32_w]
                        rfl
                      refine pure_ (i := 1) (N := some 177) (v := ?_) (a' := ?_) #[true, true, false, false, false, false, false, false, false, false, false, false, false, false] rfl rfl (by kernel_rfl) (fun _ _ _ h => h) (Or.inl ⟨by rfl, ?_⟩) ?_ ?_
                      rotate_left
                      · intro w'
                        go_simp
                        with_reducible rfl
                      rotate_left
                      · simp only [Act.put, List.setIfInBounds_toArray, List.set_cons_zero, List.set_cons_succ, i64_w, i32_w]
                        rfl
                      refine one_ (i := 2) (N := some 178) #[true, true, true, false, false, false, false, false, false, false, false, false, false, false] rfl rfl (by kernel_rfl) (by decide) (fun K hK => ?_)
                      refine goes_ Try.func12 (by kernel_rfl) rfl #[.slice A4 lb k4, .int .i64 (j : Int)] (by rfl) rfl rfl (by simp only [List.map_toArray, List.map_cons, List.map_nil]; rfl) ?_
                      with_reducible refine (HI.out).mono ?_
                      rintro e w7 ⟨rfl, rfl⟩
                      refine ⟨_, rfl, ?_⟩
                      refine hK.out _ _ hHeld (fun hHeld => ?_)
                      clear hK K
                      refine norm_ (a' := ?_) ?_ ?_
                      rotate_left
                      · show Act.put _ (some 178) _ = _
                        simp only [Act.put, List.setIfInBounds_toArray, List.set_cons_zero, List.set_cons_succ, i64_w, i32_w]
                        rfl
                      refine pure_ (i := 3) (N := some 179) (v := ?_) (a' := ?_) #[true, true, true, true, false, false, false, false, false, false, false, false, false, false] rfl rfl (by kernel_rfl) (fun _ _ _ h => h) (Or.inl ⟨by rfl, ?_⟩) ?_ ?_
                      rotate_left
                      · intro w'
                        go_simp
                        with_reducible rfl
                      rotate_left
                      · simp only [Act.put, List.setIfInBounds_toArray, List.set_cons_zero, List.set_cons_succ, i64_w, i32_w]
                        rfl
                      refine pure_ (i := 4) (N := some 180) (v := ?_) (a' := ?_) #[true, true, true, true, true, false, false, false, false, false, false, false, false, false] rfl rfl (by kernel_rfl) (fun _ _ _ h => h) (Or.inl ⟨by rfl, ?_⟩) ?_ ?_
                      rotate_left
                      · intro w'
                        go_simp
                        with_reducible rfl
                      rotate_left
                      · simp only [Act.put, List.setIfInBounds_toArray, List.set_cons_zero, List.set_cons_succ, i64_w, i32_w]
                        rfl
                      refine pure_ (i := 5) (N := some 181) (v := ?_) (a' := ?_) #[true, true, true, true, true, true, false, false, false, false, false, false, false, false] rfl rfl (by kernel_rfl) (fun _ _ _ h => h) (Or.inl ⟨by rfl, ?_⟩) ?_ ?_
                      rotate_left
                      · intro w'
                        go_simp
                        with_reducible rfl
                      rotate_left
                      · simp only [Act.put, List.setIfInBounds_toArray, List.set_cons_zero, List.set_cons_succ, i64_w, i32_w]
                        rfl
                      refine pure_ (i := 6) (N := some 182) (v := ?_) (a' := ?_) #[true, true, true, true, true, true, true, false, false, false, false, false, false, false] rfl rfl (by kernel_rfl) (fun _ _ _ h => h) (Or.inl ⟨by rfl, ?_⟩) ?_ ?_
                      rotate_left
                      · intro w'
                        go_simp
                        with_reducible rfl
                      rotate_left
                      · simp only [Act.put, List.setIfInBounds_toArray, List.set_cons_zero, List.set_cons_succ, i64_w, i32_w]
                        rfl
                      refine pure_ (i := 8) (N := some 184) (v := ?_) (a' := ?_) #[true, true, true, true, true, true, true, false, true, false, false, false, false, false] rfl rfl (by kernel_rfl) (fun _ _ _ h => h) (Or.inl ⟨by rfl, ?_⟩) ?_ ?_
                      rotate_left
                      · intro w'
                        go_simp
                        with_reducible rfl
                      rotate_left
                      · simp only [Act.put, List.setIfInBounds_toArray, List.set_cons_zero, List.set_cons_succ, i64_w, i32_w]
                        rfl
                      refine pure_ (i := 9) (N := some 185) (v := ?_) (a' := ?_) #[true, true, true, true, true, true, true, false, true, true, false, false, false, false] rfl rfl (by kernel_rfl) (fun _ _ _ h => h) (Or.inl ⟨by rfl, ?_⟩) ?_ ?_
                      rotate_left
                      · intro w'
                        go_simp
                        with_reducible rfl
                      rotate_left
                      · simp only [Act.put, List.setIfInBounds_toArray, List.set_cons_zero, List.set_cons_succ, i64_w, i32_w]
                        rfl
                      refine pure_ (i := 10) (N := some 186) (v := ?_) (a' := ?_) #[true, true, true, true, true, true, true, false, true, true, true, false, false, false] rfl rfl (by kernel_rfl) (fun _ _ _ h => h) (Or.inl ⟨by rfl, ?_⟩) ?_ ?_
                      rotate_left
                      · intro w'
                        go_simp
                        with_reducible rfl
                      rotate_left
                      · simp only [Act.put, List.setIfInBounds_toArray, List.set_cons_zero, List.set_cons_succ, i64_w, i32_w]
                        rfl
                      refine take_ (i := 7) (N := some 183) (v := ?_) (a' := ?_) #[true, true, true, true, true, true, true, true, true, true, true, false, false, false] rfl rfl (by kernel_rfl) (fun _ _ _ h => h) (Or.inl ⟨by rfl, ?_⟩) hHeld ?_ ?_
                      rotate_left
                      · rintro w' ⟨s0, s1⟩
                        go_simp
                        with_reducible rfl
                      rotate_left
                      · simp only [Act.put, List.setIfInBounds_toArray, List.set_cons_zero, List.set_cons_succ, i64_w, i32_w]
                        rfl
                      refine take_ (i := 11) (N := some 187) (v := ?_) (a' := ?_) #[true, true, true, true, true, true, true, true, true, true, true, true, false, false] rfl rfl (by kernel_rfl) (fun _ _ _ h => h) (Or.inl ⟨by rfl, ?_⟩) hHeld ?_ ?_
                      rotate_left
                      · rintro w' ⟨s0, s1⟩
                        go_simp
                        with_reducible rfl
                      rotate_left
                      · simp only [Act.put, List.setIfInBounds_toArray, List.set_cons_zero, List.set_cons_succ, i64_w, i32_w]
                        rfl
                      refine pure_ (i := 12) (N := some 188) (v := ?_) (a' := ?_) #[true, true, true, true, true, true, true, true, true, true, true, true, true, false] rfl rfl (by kernel_rfl) (fun _ _ _ h => h) (Or.inl ⟨by rfl, ?_⟩) ?_ ?_
                      rotate_left
                      · intro w'
                        go_simp
                        with_reducible rfl
                      rotate_left
                      · simp only [Act.put, List.setIfInBounds_toArray, List.set_cons_zero, List.set_cons_succ, i64_w, i32_w]
                        rfl
                      refine pure_ (i := 13) (N := some 189) (v := ?_) (a' := ?_) #[true, true, true, true, true, true, true, true, true, true, true, true, true, true] rfl rfl (by kernel_rfl) (fun _ _ _ h => h) (Or.inl ⟨by rfl, ?_⟩) ?_ ?_
                      rotate_left
                      · intro w'
                        go_simp
                        with_reducible rfl
                      rotate_left
                      · simp only [Act.put, List.setIfInBounds_toArray, List.set_cons_zero, List.set_cons_succ, i64_w, i32_w]
                        rfl
                      refine done_ (by kernel_rfl) ?_
                      clear hx1 hx2 HI hjq1 hjq2 hjq3 hjq4
                      go_wp2_with fail
                      go_roundw
                      case rel => exact ⟨j + 1, by omega, by go_num, A11, T5, R8, R7⟩
                      case measure => simp [intOf]; omega
                · go_wp2_with fail
                  go_ret
                  exact ⟨rfl, A10.out.bel⟩
      · have HJ := Aside0.mk hJ
        clear hJ
        go_wp2_with fail
        refine (join_no id n z R A cap rows _ (A2.out.rows HR.out) HCc.out HJ.out).mono ?_
        rintro e w3 ⟨rfl, hB⟩
        have A3 := Aside0.mk (A2.out.below hB)
        clear hB A2 c0 c1 c2 c3
        go_wp2_with fail
        go_ret
        exact ⟨rfl, A3.out.bel⟩
end Go.Proofs.Ytpgijmnlkfhheaa.Tw
