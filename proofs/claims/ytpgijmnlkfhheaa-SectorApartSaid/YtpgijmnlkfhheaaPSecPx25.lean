-- Made by a program of this session (wip/tools/pp.py) out of the seat's translation; contracts of some functions are typed by hand.
import Derived.Test.YtpgijmnlkfhheaaPSecPx0
import Derived.Test.YtpgijmnlkfhheaaPSecPx20
import Derived.Test.YtpgijmnlkfhheaaSecBuild
namespace Go.Proofs.Ytpgijmnlkfhheaa.PSecP
open Go.RowKit Go.Proofs.YtpgijmnlkfhheaaW.PrintWords Go.Proofs.YtpgijmnlkfhheaaW.PrintLast Go.Proofs.YtpgijmnlkfhheaaW.PrintMore
attribute [local go_sem] max2_int min2_int max_two min_two max_three min_three max_four min_four   -- for this text's walks alone
set_option linter.unusedVariables false
set_option linter.unusedSimpArgs false

/-! ### sector_Join: function 10 -/
mutual
def sector_Join.j0 : Nat → List ByteArray → Bool → ByteArray → Int → Int → Int → Option (ByteArray × Int)
  | 0, _, _, _, _, _, _ => none
  | k + 1, x1, x17, x126000, x126001, x126002, x126003 => if x17 = true then (some ((⟨#[]⟩ : ByteArray), 1)) else (sector_Join.l0 k x1 (⟨#[]⟩ : ByteArray) 0 x126000 x126001 x126002 x126003)
def sector_Join.l0 : Nat → List ByteArray → ByteArray → Int → ByteArray → Int → Int → Int → Option (ByteArray × Int)
  | 0, _, _, _, _, _, _, _ => none
  | k + 1, x1, x6, x7, x126000, x126001, x126002, x126003 => if x7 < (x1.length : Int) then (if 0 ≤ x7 then (if ((rdOf ByteArray.empty x1 x7).size : Int) = x126002 then ((sector_Volume_of.f x126000 x126001 x126002 x126003 x7 (rdOf ByteArray.empty x1 x7)).bind fun bt129 => ((tag_Make.f k bt129.1 bt129.2.1 bt129.2.2.1 bt129.2.2.2).bind fun bt133 => (if bt133.2 = 0 then (if (rdOf ByteArray.empty x1 x7).size + bt133.1.size ≤ 9223372036854775807 then (if x6.size + ((rdOf ByteArray.empty x1 x7) ++ bt133.1).size ≤ 9223372036854775807 then (sector_Join.l0 k x1 (x6 ++ ((rdOf ByteArray.empty x1 x7) ++ bt133.1)) (wrap64 (x7 + 1)) x126000 x126001 x126002 x126003) else (none)) else (none)) else (some ((⟨#[]⟩ : ByteArray), bt133.2))))) else (some ((⟨#[]⟩ : ByteArray), 1))) else (none)) else (some (x6, 0))
end
def sector_Join.f (k : Nat) (a0_0 : ByteArray) (a0_1 : Int) (a0_2 : Int) (a0_3 : Int) (l1 : List ByteArray) : Option (ByteArray × Int) := (sector_May.f a0_0 a0_1 a0_2 a0_3).bind fun t126 => (if t126 = true then (sector_Join.j0 k l1 ((l1.length : Int) != a0_3) a0_0 a0_1 a0_2 a0_3) else (sector_Join.j0 k l1 true a0_0 a0_1 a0_2 a0_3))
theorem sector_Join.mono_l : ∀ k, (∀ y0 y1 y2 y3 y4 y5, LeO (sector_Join.j0 k y0 y1 y2 y3 y4 y5) (sector_Join.j0 (k + 1) y0 y1 y2 y3 y4 y5)) ∧ (∀ y0 y1 y2 y3 y4 y5 y6, LeO (sector_Join.l0 k y0 y1 y2 y3 y4 y5 y6) (sector_Join.l0 (k + 1) y0 y1 y2 y3 y4 y5 y6))
  | 0 => ⟨fun _ _ _ _ _ _ r h => by simp [sector_Join.j0] at h, fun _ _ _ _ _ _ _ r h => by simp [sector_Join.l0] at h⟩
  | k + 1 => by
    obtain ⟨ih0, ih1⟩ := sector_Join.mono_l k
    refine ⟨?_, ?_⟩
    · intro y0 y1 y2 y3 y4 y5
      unfold sector_Join.j0
      repeat' first
      | (with_reducible exact ih0 _ _ _ _ _ _)
      | (with_reducible exact ih1 _ _ _ _ _ _ _)
      | (with_reducible exact tag_Make.mono _ _ _ _ _)
      | (with_reducible exact LeO.refl _)
      | (with_reducible exact LeO.none _)
      | (with_reducible refine LeO.ite ?_ ?_)
      | (with_reducible refine LeO.bind ?_ (fun _ => ?_))
      | exact ih0 _ _ _ _ _ _
      | exact ih1 _ _ _ _ _ _ _
      | exact tag_Make.mono _ _ _ _ _
      | exact LeO.none _
      | refine LeO.ite ?_ ?_
      | refine LeO.bind ?_ (fun _ => ?_)
    · intro y0 y1 y2 y3 y4 y5 y6
      unfold sector_Join.l0
      repeat' first
      | (with_reducible exact ih0 _ _ _ _ _ _)
      | (with_reducible exact ih1 _ _ _ _ _ _ _)
      | (with_reducible exact tag_Make.mono _ _ _ _ _)
      | (with_reducible exact LeO.refl _)
      | (with_reducible exact LeO.none _)
      | (with_reducible refine LeO.ite ?_ ?_)
      | (with_reducible refine LeO.bind ?_ (fun _ => ?_))
      | exact ih0 _ _ _ _ _ _
      | exact ih1 _ _ _ _ _ _ _
      | exact tag_Make.mono _ _ _ _ _
      | exact LeO.none _
      | refine LeO.ite ?_ ?_
      | refine LeO.bind ?_ (fun _ => ?_)
theorem sector_Join.mono : ∀ a0 a1 a2 a3 a4 k, LeO (sector_Join.f k a0 a1 a2 a3 a4) (sector_Join.f (k + 1) a0 a1 a2 a3 a4) := by
  intro a0 a1 a2 a3 a4 k
  obtain ⟨ih0, ih1⟩ := sector_Join.mono_l k
  unfold sector_Join.f
  repeat' first
      | (with_reducible exact ih0 _ _ _ _ _ _)
      | (with_reducible exact ih1 _ _ _ _ _ _ _)
      | (with_reducible exact tag_Make.mono _ _ _ _ _)
      | (with_reducible exact LeO.refl _)
      | (with_reducible exact LeO.none _)
      | (with_reducible refine LeO.ite ?_ ?_)
      | (with_reducible refine LeO.bind ?_ (fun _ => ?_))
      | exact ih0 _ _ _ _ _ _
      | exact ih1 _ _ _ _ _ _ _
      | exact tag_Make.mono _ _ _ _ _
      | exact LeO.none _
      | refine LeO.ite ?_ ?_
      | refine LeO.bind ?_ (fun _ => ?_)
/-- The volume in its box. -/
structure EnvV (w W : World) (g : Nat) (id : ByteArray) (n sz rows : Int) : Prop where
  blk : W.heap[g]? = some (.cells #[.string id, .int .i64 n, .int .i64 sz, .int .i64 rows] 23 (0, 0))
  bel : Below w.heap.size w W
theorem EnvV.below {w W W1 : World} {g B : Nat} {id : ByteArray} {n sz rows : Int} (h : EnvV w W g id n sz rows) (hg : g < B) (hwB : w.heap.size ≤ B) (hb : Below B W W1) : EnvV w W1 g id n sz rows := ⟨(hb.block g hg).trans h.blk, h.bel.trans (hb.mono hwB)⟩
theorem EnvV.belowS {w W W1 : World} {g : Nat} {id : ByteArray} {n sz rows : Int} (h : EnvV w W g id n sz rows) (hb : Below W.heap.size W W1) : EnvV w W1 g id n sz rows := h.below (blk_lt h.blk) h.bel.size hb
theorem EnvV.alloc {w W : World} {g : Nat} {id : ByteArray} {n sz rows : Int} (h : EnvV w W g id n sz rows) (o : Obj) : EnvV w (W.alloc o) g id n sz rows := h.belowS (below_alloc (Below.refl _ _) o)
theorem EnvV.drewN {w W : World} {g : Nat} {id : ByteArray} {n sz rows : Int} (k : Nat) (h : EnvV w W g id n sz rows) : EnvV w (W.drewN k) g id n sz rows := ⟨h.blk, pw_below_drewN h.bel k⟩
theorem EnvV.cells {w W : World} {g : Nat} {id : ByteArray} {n sz rows : Int} (h : EnvV w W g id n sz rows) :
    W.cell? ⟨g, 0, none⟩ = some (.string id) ∧ W.cell? ⟨g, 1, none⟩ = some (.int .i64 n) ∧ W.cell? ⟨g, 2, none⟩ = some (.int .i64 sz) ∧ W.cell? ⟨g, 3, none⟩ = some (.int .i64 rows) :=
  ⟨(blk_cell h.blk 0).trans rfl, (blk_cell h.blk 1).trans rfl, (blk_cell h.blk 2).trans rfl, (blk_cell h.blk 3).trans rfl⟩
theorem builder_below {T e : TypeId} {B b : Nat} {bs : List Value} {w w' : World} (h : Lib.IsBuilder T e B b bs w) (hb : Below w.heap.size w w') : Lib.IsBuilder T e B b bs w' := by
  have key : ∀ p, Lib.BuilderAt T e B b p bs w → Lib.BuilderAt T e B b p bs w' := fun p ⟨hB, v, h1, h2, h3⟩ =>
    ⟨hB, v, (hb.block b (blk_lt h1)).trans h1, h2.kept (row := none) ⟨hb.os, hb.tape, hb.output, hb.size, fun k hk _ => hb.block k hk⟩ (by cases v.ownBlock <;> simp), h3⟩
  exact h.imp (key _) (key _)
theorem w64_id {x : Int} (h0 : -9223372036854775808 ≤ x) (h1 : x ≤ 9223372036854775807) : wrap64 x = x := by unfold wrap64; omega
theorem strCells_app (s t : ByteArray) : Lib.strCells s ++ Lib.strCells t = Lib.strCells (s ++ t) := by
  unfold Lib.strCells
  rw [ByteArray.data_append, Array.toList_append, List.map_append]
theorem strCells_len (s : ByteArray) : (Lib.strCells s).length = s.size := by
  unfold Lib.strCells
  rw [List.length_map, Array.length_toList]
  rfl
theorem may_true {id : ByteArray} {n sz rows : Int} (h : sector_May.f id n sz rows = some true) : id.size = 16 ∧ 0 ≤ n ∧ n ≤ 65535 ∧ 2 ≤ sz ∧ sz ≤ 512 ∧ 1 ≤ rows ∧ rows ≤ 96 := by
  unfold sector_May.f at h
  by_cases c1 : (id.size : Int) = 16
  · rw [if_pos c1] at h
    by_cases c2 : n ≥ 0
    · rw [if_pos c2] at h
      by_cases c3 : n ≤ 65535
      · rw [if_pos c3] at h
        by_cases c4 : sz ≥ 2
        · rw [if_pos c4] at h
          by_cases c5 : sz ≤ 512
          · rw [if_pos c5] at h
            by_cases c6 : Int.tmod sz 2 = 0
            · rw [if_pos c6] at h
              by_cases c7 : rows ≥ 1
              · rw [if_pos c7] at h
                have := of_decide_eq_true (Option.some.inj h)
                omega
              · rw [if_neg c7] at h; cases h
            · rw [if_neg c6] at h; cases h
          · rw [if_neg c5] at h; cases h
        · rw [if_neg c4] at h; cases h
      · rw [if_neg c3] at h; cases h
    · rw [if_neg c2] at h; cases h
  · rw [if_neg c1] at h; cases h
theorem make_size {k : Nat} {id : ByteArray} {n i : Int} {row t : ByteArray} {e : Int} (h : tag_Make.f k id n i row = some (t, e)) : t.size ≤ 8 := by
  unfold tag_Make.f at h
  obtain ⟨bt, _, h⟩ := Option.bind_eq_some_iff.mp h
  by_cases c1 : bt.2 = 0
  · rw [if_pos c1] at h
    obtain ⟨u, _, h⟩ := Option.bind_eq_some_iff.mp h
    rw [if_pos (by decide)] at h
    by_cases c2 : 8 ≤ (u.size : Int)
    · rw [if_pos c2] at h
      simp only [Option.some.injEq, Prod.mk.injEq] at h
      rw [← h.1, ByteArray.size_extract]
      omega
    · rw [if_neg c2] at h; cases h
  · rw [if_neg c1] at h
    simp only [Option.some.injEq, Prod.mk.injEq] at h
    rw [← h.1]
    decide
theorem j0_true {k : Nat} {l1 : List ByteArray} {id : ByteArray} {n sz rows : Int} {r1 : ByteArray} {r2 : Int} (h : sector_Join.j0 k l1 true id n sz rows = some (r1, r2)) : r1 = ⟨#[]⟩ ∧ r2 = 1 := by
  cases k with
  | zero => simp [sector_Join.j0] at h
  | succ k =>
    simp only [sector_Join.j0, if_true, Option.some.injEq, Prod.mk.injEq] at h
    exact ⟨h.1.symm, h.2.symm⟩
theorem j0_false {k : Nat} {l1 : List ByteArray} {id : ByteArray} {n sz rows : Int} {r1 : ByteArray} {r2 : Int} (h : sector_Join.j0 k l1 false id n sz rows = some (r1, r2)) : ∃ kq, sector_Join.l0 kq l1 ⟨#[]⟩ 0 id n sz rows = some (r1, r2) := by
  cases k with
  | zero => simp [sector_Join.j0] at h
  | succ k =>
    simp only [sector_Join.j0] at h
    rw [if_neg (by decide)] at h
    exact ⟨k, h⟩
theorem strCells_bytes (s : ByteArray) : Lib.strCells s = Lib.byteCells s.data.toList := rfl
set_option maxHeartbeats 4000000 in
set_option maxRecDepth 100000 in
theorem sector_Join.calls (k : Nat) (a0_0 : ByteArray) (a0_1 : Int) (a0_2 : Int) (a0_3 : Int) (A1 : Option Addr) (c1 : Nat) (l1 : List ByteArray) (r1 : ByteArray) (r2 : Int) (w : World) (hr1 : Kd.C Kd.string w A1 l1.length l1) (hc1 : l1.length ≤ c1) (h : sector_Join.f k a0_0 a0_1 a0_2 a0_3 l1 = some (r1, r2)) :
    Calls Try.prog 10 #[.agg #[.string a0_0, .int .i64 a0_1, .int .i64 a0_2, .int .i64 a0_3], .slice A1 l1.length c1] w fun e w' => e = .returned (.tuple #[.string r1, .int .i64 r2]) ∧ Below w.heap.size w w' := by
  have HR := Aside0.mk hr1
  have HC := Aside0.mk hc1
  obtain ⟨t126, hM, hJ⟩ := Option.bind_eq_some_iff.mp h
  have HM := Aside0.mk hM
  have HJ := Aside0.mk hJ
  clear hr1 hc1 h hM hJ
  have E0 := Aside0.mk (show EnvV w (w.alloc (.cells #[.string a0_0, .int .i64 a0_1, .int .i64 a0_2, .int .i64 a0_3] 23)) w.heap.size a0_0 a0_1 a0_2 a0_3 from ⟨blk_new w _, below_alloc (Below.refl _ w) _⟩)
  obtain ⟨c0, c1_, c2, c3⟩ := E0.out.cells
  go_enter Try.func10, Try.ntmps10
  go_wp2_with fail
  obtain ⟨g, hg⟩ : ∃ g, g = w.heap.size := ⟨_, rfl⟩
  rw [← hg] at E0 ⊢
  refine (sector_May.calls a0_0 a0_1 a0_2 a0_3 t126 _ HM.out).mono ?_
  rintro e w1 ⟨rfl, hb⟩
  have E1 := Aside0.mk (E0.out.belowS hb)
  clear c0 c1_ c2 c3 hb E0 hg
  obtain ⟨c0, c1_, c2, c3⟩ := E1.out.cells
  have done1 : ∀ hr : r1 = ⟨#[]⟩ ∧ r2 = 1, True := fun _ => trivial
  clear done1
  cases t126 with
  | false =>
    obtain ⟨rfl, rfl⟩ := j0_true (by have e := HJ.out; rw [if_neg (by decide)] at e; exact e)
    go_wp2_with fail
    go_ret2
    exact ⟨rfl, E1.out.bel⟩
  | true =>
    by_cases hlen : (l1.length : Int) = a0_3
    · have hne : ((l1.length : Int) != a0_3) = false := by rw [hlen]; simp
      obtain ⟨kq0, hl0⟩ := j0_false (by have e := HJ.out; rw [if_pos rfl, hne] at e; exact e)
      have HL0 := Aside0.mk hl0
      obtain ⟨y1, y2, y3, y4, y5, y6, y7⟩ := may_true HM.out
      have heq : ((l1.length : Int) == a0_3) = true := by rw [hlen]; simp
      clear hl0 HJ
      go_wp2_with fail
      obtain ⟨B, hBe⟩ : ∃ B, B = w1.heap.size := ⟨_, rfl⟩
      have hgB : g < B := by rw [hBe]; exact blk_lt E1.out.blk
      have I0 := Aside0.mk (Lib.fresh_isBuilder 58 5 w1)
      have E2 := Aside0.mk (EnvV.alloc E1.out (.cells #[.pointer none, .slice none 0 0] 58))
      have hwB : w.heap.size ≤ B := by rw [hBe]; exact E1.out.bel.size
      have hBs : B ≤ (w1.alloc (.cells #[.pointer none, .slice none 0 0] 58)).heap.size := by rw [hBe]; exact (below_alloc (Below.refl _ w1) _).size
      rw [← hBe] at I0 ⊢
      generalize w1.alloc (.cells #[.pointer none, .slice none 0 0] 58) = w2 at I0 E2 hBs ⊢
      clear hBe c0 c1_ c2 c3 E1
      go_loopw [23] (fun i wr => ∃ (kq j : Nat) (s : ByteArray), j ≤ l1.length ∧ i = .int .i64 (j : Int) ∧ s.size ≤ j * 520 ∧ 2 * j ≤ s.size ∧ Aside0 (sector_Join.l0 kq l1 s (j : Int) a0_0 a0_1 a0_2 a0_3 = some (r1, r2)) ∧ Aside0 (Lib.IsBuilder 58 5 B B (Lib.strCells s) wr) ∧ Aside0 (EnvV w wr g a0_0 a0_1 a0_2 a0_3) ∧ Aside0 (B ≤ wr.heap.size)) (fun i _ => l1.length - (intOf i).toNat)
      case atStart => exact ⟨kq0, 0, ⟨#[]⟩, Nat.zero_le _, rfl, by decide, by decide, HL0, I0, E2, Aside0.mk hBs⟩
      case round =>
        obtain ⟨kq, j, s, hj, rfl, hs1, hs2, HL, HI, E3, HBs⟩ := hrel
        obtain ⟨c0, c1_, c2, c3⟩ := E3.out.cells
        cases kq with
        | zero => exact absurd HL.out (by simp [sector_Join.l0])
        | succ kq =>
          have H := HL.out
          clear HL
          simp only [sector_Join.l0] at H
          by_cases hlt : j < l1.length
          · rw [if_pos (show (j : Int) < (l1.length : Int) by omega), if_pos (show (0 : Int) ≤ (j : Int) by omega)] at H
            obtain ⟨ad, eA, hcell⟩ := Kd.at_string HR.out (j : Int) (by omega) (by omega)
            cases eA
            rw [Int.toNat_natCast] at hcell
            replace hcell := (E3.out.bel.cell (World.block_lt_of_cell? w _ hcell)).trans hcell
            generalize rdOf ByteArray.empty l1 (j : Int) = row at H hcell
            by_cases hsz : (row.size : Int) = a0_2
            · rw [if_pos hsz] at H
              have hsb : ((row.size : Int) == a0_2) = true := by rw [hsz]; simp
              obtain ⟨⟨x1, x2, x3, x4⟩, hv, H⟩ := Option.bind_eq_some_iff.mp H
              have hv' : (a0_0, a0_1, (j : Int), row) = (x1, x2, x3, x4) := Option.some.inj hv
              simp only [Prod.mk.injEq] at hv'
              obtain ⟨rfl, rfl, rfl, rfl⟩ := hv'
              obtain ⟨⟨t, er⟩, hMk, H⟩ := Option.bind_eq_some_iff.mp H
              have ht := make_size hMk
              have HMk := Aside0.mk hMk
              have HV := Aside0.mk hv
              have HH := Aside0.mk H
              clear H hMk hv
              go_wp2_with fail
              refine (sector_Volume_of.calls a0_0 a0_1 a0_2 a0_3 (j : Int) row a0_0 a0_1 (j : Int) row _ HV.out).mono ?_
              rintro e w3 ⟨rfl, hb3⟩
              have E4 := Aside0.mk (E3.out.belowS hb3)
              have I4 := Aside0.mk (builder_below HI.out hb3)
              have HB4 := Aside0.mk (Nat.le_trans HBs.out hb3.size)
              clear hb3 c0 c1_ c2 c3 hcell E3 HI HBs
              go_wp2_with fail
              refine (tag_Make.calls kq a0_0 a0_1 (j : Int) row t er _ HMk.out).mono ?_
              rintro e w4 ⟨rfl, hb4⟩
              have E5 := Aside0.mk (E4.out.belowS hb4)
              have I5 := Aside0.mk (builder_below I4.out hb4)
              have HB5 := Aside0.mk (Nat.le_trans HB4.out hb4.size)
              clear hb4 E4 I4 HB4
              by_cases her : er = 0
              · subst her
                have H := HH.out
                clear HH
                rw [if_pos rfl] at H
                by_cases q1 : row.size + t.size ≤ 9223372036854775807
                · rw [if_pos q1] at H
                  by_cases q2 : s.size + (row ++ t).size ≤ 9223372036854775807
                  · rw [if_pos q2] at H
                    have hrt : (row ++ t).size = row.size + t.size := ByteArray.size_append
                    have HH := Aside0.mk H
                    clear H
                    have hb1 : row.size + t.size ≤ 520 := by omega
                    go_wp2_with fail
                    refine (Bk.writeString B B (Lib.strCells s) (row ++ t) _ I5.out (by rw [strCells_len, hrt]; omega) HB5.out).mono ?_
                    rintro e w5 ⟨rfl, hI6, hb6⟩
                    rw [strCells_app] at hI6
                    have I6 := Aside0.mk (Or.inr hI6 : Lib.IsBuilder 58 5 B B (Lib.strCells (s ++ (row ++ t))) w5)
                    have E6 := Aside0.mk (E5.out.below hgB hwB hb6)
                    have HB6 := Aside0.mk (Nat.le_trans HB5.out hb6.size)
                    have hst : (s ++ (row ++ t)).size = s.size + (row.size + t.size) := by rw [ByteArray.size_append, hrt]
                    have HS := Aside0.mk (show (s ++ (row ++ t)).size ≤ (j + 1) * 520 ∧ 2 * (j + 1) ≤ (s ++ (row ++ t)).size by omega)
                    clear hI6 hb6 E5 I5 HB5 hst hrt
                    go_wp2_with fail
                    go_roundw
                    case rel => exact ⟨kq, j + 1, s ++ (row ++ t), by omega, by go_num, HS.out.1, HS.out.2, Aside0.mk (by have e := HH.out; rw [show wrap64 ((j : Int) + 1) = ((j + 1 : Nat) : Int) by rw [w64_id (by omega) (by omega)]; omega] at e; exact e), I6, E6, HB6⟩
                    case measure => simp [intOf]; omega
                  · rw [if_neg q2] at H; cases H
                · rw [if_neg q1] at H; cases H
              · have H := HH.out
                clear HH
                rw [if_neg her] at H
                simp only [Option.some.injEq, Prod.mk.injEq] at H
                obtain ⟨rfl, rfl⟩ := H
                have heb : (er == 0) = false := beq_eq_false_iff_ne.mpr her
                go_wp2_with fail
                go_ret2
                exact ⟨rfl, E5.out.bel⟩
            · rw [if_neg hsz] at H
              have hsb : ((row.size : Int) == a0_2) = false := beq_eq_false_iff_ne.mpr hsz
              simp only [Option.some.injEq, Prod.mk.injEq] at H
              obtain ⟨rfl, rfl⟩ := H
              go_wp2_with fail
              go_ret2
              exact ⟨rfl, E3.out.bel⟩
          · obtain rfl : j = l1.length := by omega
            rw [if_neg (by omega)] at H
            simp only [Option.some.injEq, Prod.mk.injEq] at H
            obtain ⟨rfl, rfl⟩ := H
            go_wp2_with fail
            have hI := HI.out
            rw [strCells_bytes] at hI
            refine (Bk.builderString B B s.data.toList _ hI (by intro e; have e2 := congrArg List.length e; rw [Array.length_toList] at e2; have e3 : s.size = 0 := e2; omega)).mono ?_
            rintro e w9 ⟨rfl, hb9⟩
            have E9 := Aside0.mk (E3.out.below hgB hwB hb9)
            clear hb9 hI
            go_wp2_with fail
            go_ret2
            exact ⟨rfl, E9.out.bel⟩
    · have hne : ((l1.length : Int) != a0_3) = true := by simpa using hlen
      obtain ⟨rfl, rfl⟩ := j0_true (by have e := HJ.out; rw [if_pos rfl, hne] at e; exact e)
      have heq : ((l1.length : Int) == a0_3) = false := beq_eq_false_iff_ne.mpr hlen
      go_wp2_with fail
      go_ret2
      exact ⟨rfl, E1.out.bel⟩

end Go.Proofs.Ytpgijmnlkfhheaa.PSecP
namespace Go.Proofs.Ytpgijmnlkfhheaa.PSecP
open Go.RowKit Go.Proofs.YtpgijmnlkfhheaaW.PrintWords Go.Proofs.YtpgijmnlkfhheaaW.PrintLast Go.Proofs.YtpgijmnlkfhheaaW.PrintMore
attribute [local go_sem] max2_int min2_int max_two min_two max_three min_three max_four min_four   -- for this text's walks alone
set_option linter.unusedVariables false
set_option linter.unusedSimpArgs false

/-! ### tag_Is: function 13 -/
def tag_Is.f (k : Nat) (a0_0 : ByteArray) (a0_1 : Int) (a0_2 : Int) (a0_3 : ByteArray) (a1 : ByteArray) : Option (Bool) := (tag_Make.f k a0_0 a0_1 a0_2 a0_3).bind fun bt137 => (if bt137.2 = 0 then (some (bt137.1.toList == a1.toList)) else (some false))
theorem tag_Is.mono : ∀ a0 a1 a2 a3 a4 k, LeO (tag_Is.f k a0 a1 a2 a3 a4) (tag_Is.f (k + 1) a0 a1 a2 a3 a4) := by
  intro a0 a1 a2 a3 a4 k
  unfold tag_Is.f
  repeat' first
      | (with_reducible exact tag_Make.mono _ _ _ _ _)
      | (with_reducible exact LeO.refl _)
      | (with_reducible exact LeO.none _)
      | (with_reducible refine LeO.ite ?_ ?_)
      | (with_reducible refine LeO.bind ?_ (fun _ => ?_))
      | exact tag_Make.mono _ _ _ _ _
      | exact LeO.none _
      | refine LeO.ite ?_ ?_
      | refine LeO.bind ?_ (fun _ => ?_)
set_option maxHeartbeats 8000000 in
set_option maxRecDepth 100000 in
theorem tag_Is.calls (k : Nat) (a0_0 : ByteArray) (a0_1 : Int) (a0_2 : Int) (a0_3 : ByteArray) (a1 : ByteArray) (r : Bool) (w : World) (h : tag_Is.f k a0_0 a0_1 a0_2 a0_3 a1 = some r) :
    Calls Try.prog 13 #[.agg #[.string a0_0, .int .i64 a0_1, .int .i64 a0_2, .string a0_3], .string a1] w fun e w' => e = .returned (.bool r) ∧ Below w.heap.size w w' := by
  have hu38 := Try.underlying38
  have HB := Aside0.mk (Below.refl w.heap.size w)
  have H : ((tag_Make.f k a0_0 a0_1 a0_2 a0_3).bind fun bt137 => (if bt137.2 = 0 then (some (bt137.1.toList == a1.toList)) else (some false))) = some r := h
  clear h
  replace H := Option.bind_eq_some_iff.mp H
  obtain ⟨⟨t137, t138⟩, A30, H⟩ := H
  replace H : (if t138 = 0 then (some (t137.toList == a1.toList)) else (some false)) = some r := H
  have A3 := Aside0.mk A30
  clear A30
  by_cases c4 : t138 = 0
  · rw [if_pos c4] at H
    have c4b0 : (t138 == 0) = true := beq_iff_eq.mpr c4
    have c4b1 : (t138 != 0) = false := bne_eq_false_iff_eq.mpr c4
    clear c4
    obtain rfl := Option.some.inj H
    go_enter Try.func13, Try.ntmps13
    go_wp2_with (first | ((with_reducible refine gate_dst (N := 2) rfl ?_); refine box_event ?hg (N := 2) ?hd (cs := #[.string a0_0, .int .i64 a0_1, .int .i64 a0_2, .string a0_3]) (t := 38) ?hr ?_; (case hd => rfl); (case hg => rfl); (case hr => first | (go_simp; done) | (go_simp; rfl)); intro gb136 hg w5 hbox hb; have n0_ := Aside0.mk (below_step (by repeat (first | (with_reducible first | exact HB.out | apply below_alloc | apply pw_below_drewN | apply below_drew1) | exact HB.out)) hb); have n1_ := Aside0.mk (hbox); have n2_ := Aside0.mk ((by rw [hg]; exact (below_size (by repeat (first | (with_reducible first | exact HB.out | apply below_alloc | apply pw_below_drewN | apply below_drew1) | exact HB.out))) : w.heap.size ≤ gb136)); have n3_ := Aside0.mk ((by rw [hg]; exact (below_size (by repeat (first | (with_reducible first | exact HB.out | apply below_alloc | apply pw_below_drewN | apply below_drew1) | exact HB.out))) : w.heap.size ≤ gb136)); clear HB; have HB := n0_; have BK136 := n1_; have GW136 := n2_; have GE136 := n3_; clear n0_ n1_ n2_ n3_; clear hb hbox hg; have hcz6_0 : w5.cell? ⟨gb136, 0, none⟩ = some (.string a0_0) := (blk_cell BK136.out 0).trans rfl; have hcz6_1 : w5.cell? ⟨gb136, 1, none⟩ = some (.int .i64 a0_1) := (blk_cell BK136.out 1).trans rfl; have hcz6_2 : w5.cell? ⟨gb136, 2, none⟩ = some (.int .i64 a0_2) := (blk_cell BK136.out 2).trans rfl; have hcz6_3 : w5.cell? ⟨gb136, 3, none⟩ = some (.string a0_3) := (blk_cell BK136.out 3).trans rfl; have hfz6_0 := blk_frozen BK136.out 0; have hfz6_1 := blk_frozen BK136.out 1; have hfz6_2 := blk_frozen BK136.out 2; have hfz6_3 := blk_frozen BK136.out 3) | ((with_reducible refine gate_callee (f := 14) rfl ?_); refine goesL_ (some 9) rfl rfl Try.func14 (by kernel_rfl) rfl #[.agg #[.string a0_0, .int .i64 a0_1, .int .i64 a0_2, .string a0_3]] rfl (by (try simp only [List.map_toArray, List.map_cons, List.map_nil]); first | done | rfl | (simp only [List.length_drop, List.length_take]; rfl)) ?_; (with_reducible refine (tag_Make.calls k a0_0 a0_1 a0_2 a0_3 t137 t138 _ A3.out).mono ?_); rintro e w7 ⟨rfl, hb⟩; refine ⟨_, rfl, ?_⟩; have n0_ := Aside0.mk (blk_below (g := gb136) (o := .cells #[.string a0_0, .int .i64 a0_1, .int .i64 a0_2, .string a0_3] 38 (0, 0)) (by (with_reducible repeat (first | refine blk_drewN ?_ _ | refine blk_drew ?_ | refine blk_alloc ?_ _)); exact BK136.out) hb); have n1_ := Aside0.mk (below_step (by repeat (first | (with_reducible first | exact HB.out | apply below_alloc | apply pw_below_drewN | apply below_drew1 | refine below_set ?_ GE136.out) | exact HB.out)) hb); clear BK136; clear HB; have BK136 := n0_; have HB := n1_; clear n0_ n1_; (try clear hb); (try clear hb2); (try clear hk); (try clear hi)))
    go_ret
    exact ⟨by first | rfl | (simp [errW_none, errW_some] <;> rfl) | (simp [*, errW_none, errW_some] <;> rfl), by repeat (first | (with_reducible first | exact HB.out | apply below_alloc | apply pw_below_drewN | apply below_drew1 | refine below_set ?_ GE136.out) | exact HB.out)⟩
  · rw [if_neg c4] at H
    have c4b0 : (t138 == 0) = false := beq_eq_false_iff_ne.mpr c4
    have c4b1 : (t138 != 0) = true := bne_iff_ne.mpr c4
    obtain rfl := Option.some.inj H
    go_enter Try.func13, Try.ntmps13
    go_wp2_with (first | ((with_reducible refine gate_dst (N := 2) rfl ?_); refine box_event ?hg (N := 2) ?hd (cs := #[.string a0_0, .int .i64 a0_1, .int .i64 a0_2, .string a0_3]) (t := 38) ?hr ?_; (case hd => rfl); (case hg => rfl); (case hr => first | (go_simp; done) | (go_simp; rfl)); intro gb136 hg w8 hbox hb; have n0_ := Aside0.mk (below_step (by repeat (first | (with_reducible first | exact HB.out | apply below_alloc | apply pw_below_drewN | apply below_drew1) | exact HB.out)) hb); have n1_ := Aside0.mk (hbox); have n2_ := Aside0.mk ((by rw [hg]; exact (below_size (by repeat (first | (with_reducible first | exact HB.out | apply below_alloc | apply pw_below_drewN | apply below_drew1) | exact HB.out))) : w.heap.size ≤ gb136)); have n3_ := Aside0.mk ((by rw [hg]; exact (below_size (by repeat (first | (with_reducible first | exact HB.out | apply below_alloc | apply pw_below_drewN | apply below_drew1) | exact HB.out))) : w.heap.size ≤ gb136)); clear HB; have HB := n0_; have BK136 := n1_; have GW136 := n2_; have GE136 := n3_; clear n0_ n1_ n2_ n3_; clear hb hbox hg; have hcz9_0 : w8.cell? ⟨gb136, 0, none⟩ = some (.string a0_0) := (blk_cell BK136.out 0).trans rfl; have hcz9_1 : w8.cell? ⟨gb136, 1, none⟩ = some (.int .i64 a0_1) := (blk_cell BK136.out 1).trans rfl; have hcz9_2 : w8.cell? ⟨gb136, 2, none⟩ = some (.int .i64 a0_2) := (blk_cell BK136.out 2).trans rfl; have hcz9_3 : w8.cell? ⟨gb136, 3, none⟩ = some (.string a0_3) := (blk_cell BK136.out 3).trans rfl; have hfz9_0 := blk_frozen BK136.out 0; have hfz9_1 := blk_frozen BK136.out 1; have hfz9_2 := blk_frozen BK136.out 2; have hfz9_3 := blk_frozen BK136.out 3) | ((with_reducible refine gate_callee (f := 14) rfl ?_); refine goesL_ (some 9) rfl rfl Try.func14 (by kernel_rfl) rfl #[.agg #[.string a0_0, .int .i64 a0_1, .int .i64 a0_2, .string a0_3]] rfl (by (try simp only [List.map_toArray, List.map_cons, List.map_nil]); first | done | rfl | (simp only [List.length_drop, List.length_take]; rfl)) ?_; (with_reducible refine (tag_Make.calls k a0_0 a0_1 a0_2 a0_3 t137 t138 _ A3.out).mono ?_); rintro e w10 ⟨rfl, hb⟩; refine ⟨_, rfl, ?_⟩; have n0_ := Aside0.mk (blk_below (g := gb136) (o := .cells #[.string a0_0, .int .i64 a0_1, .int .i64 a0_2, .string a0_3] 38 (0, 0)) (by (with_reducible repeat (first | refine blk_drewN ?_ _ | refine blk_drew ?_ | refine blk_alloc ?_ _)); exact BK136.out) hb); have n1_ := Aside0.mk (below_step (by repeat (first | (with_reducible first | exact HB.out | apply below_alloc | apply pw_below_drewN | apply below_drew1 | refine below_set ?_ GE136.out) | exact HB.out)) hb); clear BK136; clear HB; have BK136 := n0_; have HB := n1_; clear n0_ n1_; (try clear hb); (try clear hb2); (try clear hk); (try clear hi)))
    go_ret
    exact ⟨by first | rfl | (simp [errW_none, errW_some] <;> rfl) | (simp [*, errW_none, errW_some] <;> rfl), by repeat (first | (with_reducible first | exact HB.out | apply below_alloc | apply pw_below_drewN | apply below_drew1 | refine below_set ?_ GE136.out) | exact HB.out)⟩

end Go.Proofs.Ytpgijmnlkfhheaa.PSecP
namespace Go.Proofs.Ytpgijmnlkfhheaa.PSecP
open Go.RowKit Go.Proofs.YtpgijmnlkfhheaaW.PrintWords Go.Proofs.YtpgijmnlkfhheaaW.PrintLast Go.Proofs.YtpgijmnlkfhheaaW.PrintMore
attribute [local go_sem] max2_int min2_int max_two min_two max_three min_three max_four min_four   -- for this text's walks alone
set_option linter.unusedVariables false
set_option linter.unusedSimpArgs false

-- NOT PRINTED: function 26 (sector_Volume_sectors)

end Go.Proofs.Ytpgijmnlkfhheaa.PSecP
