-- Made by a program of this session (wip/tools/pp.py) out of the seat's translation; contracts of some functions are typed by hand.
import Derived.Test.YtpgijmnlkfhheaaPSecNx0
import Derived.Test.YtpgijmnlkfhheaaPSecNx19
import Derived.Test.YtpgijmnlkfhheaaPSecNx24
import Derived.Test.YtpgijmnlkfhheaaPSecNx27
namespace Go.Proofs.Ytpgijmnlkfhheaa.PSecN
open Go.RowKit Go.Proofs.YtpgijmnlkfhheaaW.PrintWords Go.Proofs.YtpgijmnlkfhheaaW.PrintLast Go.Proofs.YtpgijmnlkfhheaaW.PrintMore
attribute [local go_sem] max2_int min2_int max_two min_two max_three min_three max_four min_four   -- for this text's walks alone
set_option linter.unusedVariables false
set_option linter.unusedSimpArgs false

/-! ### hamperlaw24_SectorNames: function 7 -/
mutual
def hamperlaw24_SectorNamesR.l0 : Nat → List (S23) → Int → ByteArray → Int → Int → Int → Option (Bool)
  | 0, _, _, _, _, _, _ => none
  | k + 1, x2, x3, x173000, x173001, x173002, x173003 => if x3 < (x2.length : Int) then (if 0 ≤ x3 then (hamperlaw24_SectorNamesR.l0 k (x2.set (x3 : Int).toNat (⟨x173000, x173001, x173002, x173003⟩ : S23)) (wrap64 (x3 + 1)) x173000 x173001 x173002 x173003) else (none)) else (if 1 ≤ (x173000.size : Int) then (if 0 < (x2.length : Int) then ((some (x2.set (0 : Int).toNat (⟨x173000.extract 1 x173000.size, (rd_T23 x2 0).f1, (rd_T23 x2 0).f2, (rd_T23 x2 0).f3⟩ : S23) : List (S23))).bind fun y177 => (if 1 < (x2.length : Int) then ((some (y177.set (1 : Int).toNat (⟨(rd_T23 y177 1).f0, (-1), (rd_T23 y177 1).f2, (rd_T23 y177 1).f3⟩ : S23) : List (S23))).bind fun y178 => (if 2 < (x2.length : Int) then ((some (y178.set (2 : Int).toNat (⟨(rd_T23 y178 2).f0, 65536, (rd_T23 y178 2).f2, (rd_T23 y178 2).f3⟩ : S23) : List (S23))).bind fun y179 => (if 3 < (x2.length : Int) then ((some (y179.set (3 : Int).toNat (⟨(rd_T23 y179 3).f0, (rd_T23 y179 3).f1, 0, (rd_T23 y179 3).f3⟩ : S23) : List (S23))).bind fun y180 => (if 4 < (x2.length : Int) then ((some (y180.set (4 : Int).toNat (⟨(rd_T23 y180 4).f0, (rd_T23 y180 4).f1, 3, (rd_T23 y180 4).f3⟩ : S23) : List (S23))).bind fun y181 => (if 5 < (x2.length : Int) then ((some (y181.set (5 : Int).toNat (⟨(rd_T23 y181 5).f0, (rd_T23 y181 5).f1, 514, (rd_T23 y181 5).f3⟩ : S23) : List (S23))).bind fun y182 => (if 6 < (x2.length : Int) then ((some (y182.set (6 : Int).toNat (⟨(rd_T23 y182 6).f0, (rd_T23 y182 6).f1, (rd_T23 y182 6).f2, 0⟩ : S23) : List (S23))).bind fun y183 => (if 7 < (x2.length : Int) then (hamperlaw24_SectorNamesR.l1 k (y183.set (7 : Int).toNat (⟨(rd_T23 y183 7).f0, (rd_T23 y183 7).f1, (rd_T23 y183 7).f2, 97⟩ : S23)) 0 x173000 x173001 x173002 x173003) else (none))) else (none))) else (none))) else (none))) else (none))) else (none))) else (none))) else (none)) else (none))
def hamperlaw24_SectorNamesR.l1 : Nat → List (S23) → Int → ByteArray → Int → Int → Int → Option (Bool)
  | 0, _, _, _, _, _, _ => none
  | k + 1, x2, x4, x173000, x173001, x173002, x173003 => if x4 < (x2.length : Int) then (if 0 ≤ x4 then (if 0 ≤ (mx 0 ((rd_T23 x2 x4).f3)) then (if (mx 0 ((rd_T23 x2 x4).f3) : Int).toNat ≤ 17592186044416 then ((sector_Join.f k ((rd_T23 x2 x4).f0) ((rd_T23 x2 x4).f1) ((rd_T23 x2 x4).f2) ((rd_T23 x2 x4).f3) (List.replicate (mx 0 ((rd_T23 x2 x4).f3) : Int).toNat (⟨#[]⟩ : ByteArray))).bind fun bt190 => ((sector_Cut.f k ((rd_T23 x2 x4).f0) ((rd_T23 x2 x4).f1) ((rd_T23 x2 x4).f2) ((rd_T23 x2 x4).f3) (⟨#[]⟩ : ByteArray)).bind fun bt193 => ((sector_May.f ((rd_T23 x2 x4).f0) ((rd_T23 x2 x4).f1) ((rd_T23 x2 x4).f2) ((rd_T23 x2 x4).f3)).bind fun t201 => (if t201 = true then (some false) else (if bt190.2 = 1 then (if bt193.2.2 = 1 then (hamperlaw24_SectorNamesR.l1 k x2 (wrap64 (x4 + 1)) x173000 x173001 x173002 x173003) else (some false)) else (some false)))))) else (none)) else (none)) else (none)) else ((some (([(⟨0, 0, 0, 0⟩ : S45), (⟨65, 0, 2, 0⟩ : S45), (⟨1, 33, 2, 0⟩ : S45), (⟨1, (-1), 2, 0⟩ : S45), (⟨1, 0, 3, 0⟩ : S45), (⟨1, 0, 514, 0⟩ : S45), (⟨1, 0, 0, 0⟩ : S45), (⟨1, 0, 2, 33⟩ : S45), (⟨1, 0, 2, (-1)⟩ : S45)] : List (S45)) : List (S45))).bind fun y202 => (hamperlaw24_SectorNamesR.l2 k y202 (y202.length : Int) 0 x173000 x173001 x173002 x173003))
def hamperlaw24_SectorNamesR.l2 : Nat → List (S45) → Int → Int → ByteArray → Int → Int → Int → Option (Bool)
  | 0, _, _, _, _, _, _, _ => none
  | k + 1, x109, x110, x111, x173000, x173001, x173002, x173003 => if x111 < x110 then (if 0 ≤ x111 then (if x111 < (x109.length : Int) then ((sector_Shape.f ((rd_T45 x109 x111).f0) ((rd_T45 x109 x111).f1) ((rd_T45 x109 x111).f2) ((rd_T45 x109 x111).f3)).bind fun t207 => (if t207 = true then (some false) else (hamperlaw24_SectorNamesR.l2 k x109 x110 (wrap64 (x111 + 1)) x173000 x173001 x173002 x173003))) else (none)) else (none)) else ((sector_Shape.f 64 32 512 32).bind fun t208 => (if t208 = true then ((sector_Shape.f 1 0 2 0).bind fun t209 => (hamperlaw24_SectorNamesR.j3 k (!t209) x173000 x173001 x173002 x173003)) else (hamperlaw24_SectorNamesR.j3 k true x173000 x173001 x173002 x173003)))
def hamperlaw24_SectorNamesR.j3 : Nat → Bool → ByteArray → Int → Int → Int → Option (Bool)
  | 0, _, _, _, _, _ => none
  | k + 1, x125, x173000, x173001, x173002, x173003 => if x125 = true then (some false) else ((sector_Join.f k x173000 x173001 x173002 x173003 (([(⟨#[97, 98, 99, 100]⟩ : ByteArray)] : List ByteArray))).bind fun bt213 => ((sector_Join.f k x173000 x173001 x173002 x173003 (([(⟨#[97, 98, 99, 100]⟩ : ByteArray), (⟨#[97, 98, 99]⟩ : ByteArray)] : List ByteArray))).bind fun bt218 => ((sector_May.f x173000 x173001 x173002 x173003).bind fun t220 => (if t220 = true then (if bt213.2 = 1 then (if bt218.2 = 1 then ((hamperlaw24_awake.f).bind fun t221 => (some t221)) else (some false)) else (some false)) else (some false)))))
end
def hamperlaw24_SectorNamesR.f (k : Nat)  : Option (Bool) := if 16 ≤ 281474976710656 then (if 8 ≤ 7036874417766 then (hamperlaw24_SectorNamesR.l0 k (List.replicate 8 z23) 0 (strOfNums (List.replicate 16 0)) 1 4 2) else (none)) else (none)
theorem hamperlaw24_SectorNamesR.mono_l : ∀ k, (∀ y0 y1 y2 y3 y4 y5, LeO (hamperlaw24_SectorNamesR.l0 k y0 y1 y2 y3 y4 y5) (hamperlaw24_SectorNamesR.l0 (k + 1) y0 y1 y2 y3 y4 y5)) ∧ (∀ y0 y1 y2 y3 y4 y5, LeO (hamperlaw24_SectorNamesR.l1 k y0 y1 y2 y3 y4 y5) (hamperlaw24_SectorNamesR.l1 (k + 1) y0 y1 y2 y3 y4 y5)) ∧ (∀ y0 y1 y2 y3 y4 y5 y6, LeO (hamperlaw24_SectorNamesR.l2 k y0 y1 y2 y3 y4 y5 y6) (hamperlaw24_SectorNamesR.l2 (k + 1) y0 y1 y2 y3 y4 y5 y6)) ∧ (∀ y0 y1 y2 y3 y4, LeO (hamperlaw24_SectorNamesR.j3 k y0 y1 y2 y3 y4) (hamperlaw24_SectorNamesR.j3 (k + 1) y0 y1 y2 y3 y4))
  | 0 => ⟨fun _ _ _ _ _ _ r h => by simp [hamperlaw24_SectorNamesR.l0] at h, fun _ _ _ _ _ _ r h => by simp [hamperlaw24_SectorNamesR.l1] at h, fun _ _ _ _ _ _ _ r h => by simp [hamperlaw24_SectorNamesR.l2] at h, fun _ _ _ _ _ r h => by simp [hamperlaw24_SectorNamesR.j3] at h⟩
  | k + 1 => by
    obtain ⟨ih0, ih1, ih2, ih3⟩ := hamperlaw24_SectorNamesR.mono_l k
    refine ⟨?_, ?_, ?_, ?_⟩
    · intro y0 y1 y2 y3 y4 y5
      unfold hamperlaw24_SectorNamesR.l0
      repeat' first
      | (with_reducible exact ih0 _ _ _ _ _ _)
      | (with_reducible exact ih1 _ _ _ _ _ _)
      | (with_reducible exact ih2 _ _ _ _ _ _ _)
      | (with_reducible exact ih3 _ _ _ _ _)
      | (with_reducible exact sector_Cut.mono _ _ _ _ _ _)
      | (with_reducible exact sector_Join.mono _ _ _ _ _ _)
      | (with_reducible exact LeO.refl _)
      | (with_reducible exact LeO.none _)
      | (with_reducible refine LeO.ite ?_ ?_)
      | (with_reducible refine LeO.bind ?_ (fun _ => ?_))
      | exact ih0 _ _ _ _ _ _
      | exact ih1 _ _ _ _ _ _
      | exact ih2 _ _ _ _ _ _ _
      | exact ih3 _ _ _ _ _
      | exact sector_Cut.mono _ _ _ _ _ _
      | exact sector_Join.mono _ _ _ _ _ _
      | exact LeO.none _
      | refine LeO.ite ?_ ?_
      | refine LeO.bind ?_ (fun _ => ?_)
    · intro y0 y1 y2 y3 y4 y5
      unfold hamperlaw24_SectorNamesR.l1
      repeat' first
      | (with_reducible exact ih0 _ _ _ _ _ _)
      | (with_reducible exact ih1 _ _ _ _ _ _)
      | (with_reducible exact ih2 _ _ _ _ _ _ _)
      | (with_reducible exact ih3 _ _ _ _ _)
      | (with_reducible exact sector_Cut.mono _ _ _ _ _ _)
      | (with_reducible exact sector_Join.mono _ _ _ _ _ _)
      | (with_reducible exact LeO.refl _)
      | (with_reducible exact LeO.none _)
      | (with_reducible refine LeO.ite ?_ ?_)
      | (with_reducible refine LeO.bind ?_ (fun _ => ?_))
      | exact ih0 _ _ _ _ _ _
      | exact ih1 _ _ _ _ _ _
      | exact ih2 _ _ _ _ _ _ _
      | exact ih3 _ _ _ _ _
      | exact sector_Cut.mono _ _ _ _ _ _
      | exact sector_Join.mono _ _ _ _ _ _
      | exact LeO.none _
      | refine LeO.ite ?_ ?_
      | refine LeO.bind ?_ (fun _ => ?_)
    · intro y0 y1 y2 y3 y4 y5 y6
      unfold hamperlaw24_SectorNamesR.l2
      repeat' first
      | (with_reducible exact ih0 _ _ _ _ _ _)
      | (with_reducible exact ih1 _ _ _ _ _ _)
      | (with_reducible exact ih2 _ _ _ _ _ _ _)
      | (with_reducible exact ih3 _ _ _ _ _)
      | (with_reducible exact sector_Cut.mono _ _ _ _ _ _)
      | (with_reducible exact sector_Join.mono _ _ _ _ _ _)
      | (with_reducible exact LeO.refl _)
      | (with_reducible exact LeO.none _)
      | (with_reducible refine LeO.ite ?_ ?_)
      | (with_reducible refine LeO.bind ?_ (fun _ => ?_))
      | exact ih0 _ _ _ _ _ _
      | exact ih1 _ _ _ _ _ _
      | exact ih2 _ _ _ _ _ _ _
      | exact ih3 _ _ _ _ _
      | exact sector_Cut.mono _ _ _ _ _ _
      | exact sector_Join.mono _ _ _ _ _ _
      | exact LeO.none _
      | refine LeO.ite ?_ ?_
      | refine LeO.bind ?_ (fun _ => ?_)
    · intro y0 y1 y2 y3 y4
      unfold hamperlaw24_SectorNamesR.j3
      repeat' first
      | (with_reducible exact ih0 _ _ _ _ _ _)
      | (with_reducible exact ih1 _ _ _ _ _ _)
      | (with_reducible exact ih2 _ _ _ _ _ _ _)
      | (with_reducible exact ih3 _ _ _ _ _)
      | (with_reducible exact sector_Cut.mono _ _ _ _ _ _)
      | (with_reducible exact sector_Join.mono _ _ _ _ _ _)
      | (with_reducible exact LeO.refl _)
      | (with_reducible exact LeO.none _)
      | (with_reducible refine LeO.ite ?_ ?_)
      | (with_reducible refine LeO.bind ?_ (fun _ => ?_))
      | exact ih0 _ _ _ _ _ _
      | exact ih1 _ _ _ _ _ _
      | exact ih2 _ _ _ _ _ _ _
      | exact ih3 _ _ _ _ _
      | exact sector_Cut.mono _ _ _ _ _ _
      | exact sector_Join.mono _ _ _ _ _ _
      | exact LeO.none _
      | refine LeO.ite ?_ ?_
      | refine LeO.bind ?_ (fun _ => ?_)
theorem hamperlaw24_SectorNamesR.mono : ∀ k, LeO (hamperlaw24_SectorNamesR.f k ) (hamperlaw24_SectorNamesR.f (k + 1) ) := by
  intro  k
  obtain ⟨ih0, ih1, ih2, ih3⟩ := hamperlaw24_SectorNamesR.mono_l k
  unfold hamperlaw24_SectorNamesR.f
  repeat' first
      | (with_reducible exact ih0 _ _ _ _ _ _)
      | (with_reducible exact ih1 _ _ _ _ _ _)
      | (with_reducible exact ih2 _ _ _ _ _ _ _)
      | (with_reducible exact ih3 _ _ _ _ _)
      | (with_reducible exact sector_Cut.mono _ _ _ _ _ _)
      | (with_reducible exact sector_Join.mono _ _ _ _ _ _)
      | (with_reducible exact LeO.refl _)
      | (with_reducible exact LeO.none _)
      | (with_reducible refine LeO.ite ?_ ?_)
      | (with_reducible refine LeO.bind ?_ (fun _ => ?_))
      | exact ih0 _ _ _ _ _ _
      | exact ih1 _ _ _ _ _ _
      | exact ih2 _ _ _ _ _ _ _
      | exact ih3 _ _ _ _ _
      | exact sector_Cut.mono _ _ _ _ _ _
      | exact sector_Join.mono _ _ _ _ _ _
      | exact LeO.none _
      | refine LeO.ite ?_ ?_
      | refine LeO.bind ?_ (fun _ => ?_)
def hamperlaw24_SectorNamesR.T18 : Bool × List (List Nat × List Nat) := (true, [([], []), ([], []), ([0, 1], [0, 1]), ([2], [2]), ([], []), ([], []), ([4, 5], [4, 5]), ([6], [6]), ([7], [7]), ([8], [8]), ([9, 9], [9]), ([3, 10], [3, 10]), ([11], [11]), ([12], [12]), ([12], [12]), ([13, 11, 0, 1, 2, 3, 4, 5, 6, 7, 8, 9, 10, 11, 12, 13], [13]), ([14, 15, 0, 1, 2, 3, 4, 5, 6, 7, 8, 9, 10, 11, 12, 13, 14, 15], [14])])
def hamperlaw24_SectorNamesR.B18 : List Nat := [0, 0, 3, 7, 0, 0, 48, 112, 240, 496, 1008, 2047, 4095, 8191, 8191, 16383, 65535]
theorem hamperlaw24_SectorNamesR.tab18 : rtab .any (opsOf Try.f7 18) = hamperlaw24_SectorNamesR.T18 := by kernel_rfl
theorem hamperlaw24_SectorNamesR.bits18 : waitsOk hamperlaw24_SectorNamesR.T18.2 hamperlaw24_SectorNamesR.B18 = true := by kernel_rfl
set_option maxHeartbeats 8000000 in
set_option maxRecDepth 100000 in
theorem hamperlaw24_SectorNamesR.calls (k : Nat)  (r : Bool) (hr_ : r = true) (w : World) (h : hamperlaw24_SectorNamesR.f k  = some r) :
    Calls Try.prog 7 #[] w fun e w' => e = .returned (.bool r) ∧ Below w.heap.size w w' := by
  have hu23 := Try.underlying23
  have hu45 := Try.underlying45
  have HB := Aside0.mk (Below.refl w.heap.size w)
  have H : (if 16 ≤ 281474976710656 then (if 8 ≤ 7036874417766 then (hamperlaw24_SectorNamesR.l0 k (List.replicate 8 z23) 0 (strOfNums (List.replicate 16 0)) 1 4 2) else (none)) else (none)) = some r := h
  clear h
  by_cases c1 : 16 ≤ 281474976710656
  · rw [if_pos c1] at H
    have c1b0 := eq_true c1
    have c1b1 : decide (16 ≤ 281474976710656) = true := decide_eq_true c1
    clear c1
    obtain ⟨y169, hy169⟩ : ∃ y_ : List Int, y_ = (List.replicate 16 0) := ⟨_, rfl⟩
    replace H : (if 8 ≤ 7036874417766 then (hamperlaw24_SectorNamesR.l0 k (List.replicate 8 z23) 0 (strOfNums y169) 1 4 2) else (none)) = some r := by first | (rw [hy169]; with_reducible exact H) | (have H2_ := (Option.bind_some _ _).symm.trans H; rw [hy169]; with_reducible exact H2_) | (have H2_ := (Option.bind_some _ _).symm.trans H; with_reducible exact H2_) | with_reducible exact H | (rw [hy169]; exact H) | exact H
    have Ny169 := Aside0.mk hy169
    clear hy169
    by_cases c2 : 8 ≤ 7036874417766
    · rw [if_pos c2] at H
      have c2b0 := eq_true c2
      have c2b1 : decide (8 ≤ 7036874417766) = true := decide_eq_true c2
      clear c2
      obtain ⟨y173, hy173⟩ : ∃ y_ : List (S23), y_ = (List.replicate 8 z23) := ⟨_, rfl⟩
      replace H : (hamperlaw24_SectorNamesR.l0 k y173 0 (strOfNums y169) 1 4 2) = some r := by first | (rw [hy173]; with_reducible exact H) | (have H2_ := (Option.bind_some _ _).symm.trans H; rw [hy173]; with_reducible exact H2_) | (have H2_ := (Option.bind_some _ _).symm.trans H; with_reducible exact H2_) | with_reducible exact H | (rw [hy173]; exact H) | exact H
      have Ny173 := Aside0.mk hy173
      clear hy173
      have H' := Aside0.mk H
      clear H
      go_enter Try.func7, Try.ntmps7
      go_wp2_with (first | ((with_reducible refine gate_dst (N := 16) rfl ?_); refine Kd.R_make (Kd.int .u8) _ 5 rfl (N := 16) rfl 34 _ _ rfl 16 rfl rfl Try.underlying34 (.int .u8 0) 1 info5 rfl (by decide) (by omega) 0 (ok := fun _ => True) (okp := fun _ => True) rfl (fun _ hk => hk) trivial (by omega) (by omega) (Below.refl _ _) (Nat.le_refl _) ?_; intro v170 w3 ho4 hb hg_ hnew_; clear hg_ hnew_; (first | rw [← Ny169.out] at ho4 | (simp only [Int.reduceToNat] at ho4; rw [← Ny169.out] at ho4)); have n0_ := Aside0.mk (Kd.R_lower ho4 (below_size (by repeat (first | (with_reducible first | exact HB.out | apply below_alloc | apply pw_below_drewN | apply below_drew1) | exact HB.out)))); have n1_ := Aside0.mk (below_step (by repeat (first | (with_reducible first | exact HB.out | apply below_alloc | apply pw_below_drewN | apply below_drew1) | exact HB.out)) hb); clear HB; have HO171 := n0_; have HB := n1_; clear n0_ n1_; clear hb ho4; have hcv5 := own_string (P := Try.prog) Try.underlying34 Try.underlying5 Try.underlying9 (Kd.own_of_R HO171.out)) | ((with_reducible refine gate_dst (N := 1) rfl ?_); refine box_event ?hg (N := 1) ?hd (cs := #[.string (⟨#[]⟩ : ByteArray), .int .i64 0, .int .i64 0, .int .i64 0]) (t := 23) ?hr ?_; (case hd => rfl); (case hg => rfl); (case hr => first | (go_simp; done) | (go_simp; rfl)); intro gb172 hg w6 hbox hb; have n0_ := Aside0.mk (Kd.R_below (by (with_reducible repeat (first | apply Kd.R_alloc | apply Kd.R_drewN | apply Kd.R_drew)); exact HO171.out) hb); have n1_ := Aside0.mk (below_step (by repeat (first | (with_reducible first | exact HB.out | apply below_alloc | apply pw_below_drewN | apply below_drew1) | exact HB.out)) hb); have n2_ := Aside0.mk (hbox); have n3_ := Aside0.mk ((by rw [hg]; exact (below_size (by repeat (first | (with_reducible first | exact HB.out | apply below_alloc | apply pw_below_drewN | apply below_drew1) | exact HB.out))) : w.heap.size ≤ gb172)); have n4_ := Aside0.mk ((by rw [hg]; exact (below_size (by repeat (first | (with_reducible first | exact HB.out | apply below_alloc | apply pw_below_drewN | apply below_drew1) | exact HB.out))) : w.heap.size ≤ gb172)); clear HO171; clear HB; have HO171 := n0_; have HB := n1_; have BK172 := n2_; have GW172 := n3_; have GE172 := n4_; clear n0_ n1_ n2_ n3_ n4_; clear hb hbox hg; have hcz7_0 : w6.cell? ⟨gb172, 0, none⟩ = some (.string (⟨#[]⟩ : ByteArray)) := (blk_cell BK172.out 0).trans rfl; have hcz7_1 : w6.cell? ⟨gb172, 1, none⟩ = some (.int .i64 0) := (blk_cell BK172.out 1).trans rfl; have hcz7_2 : w6.cell? ⟨gb172, 2, none⟩ = some (.int .i64 0) := (blk_cell BK172.out 2).trans rfl; have hcz7_3 : w6.cell? ⟨gb172, 3, none⟩ = some (.int .i64 0) := (blk_cell BK172.out 3).trans rfl; have hfz7_0 := blk_frozen BK172.out 0; have hfz7_1 := blk_frozen BK172.out 1; have hfz7_2 := blk_frozen BK172.out 2; have hfz7_3 := blk_frozen BK172.out 3) | ((with_reducible refine gate_dst (N := 19) rfl ?_); refine Kd.R_make k23 _ 23 rfl (N := 19) rfl 54 _ _ rfl 8 rfl rfl Try.underlying54 (.agg #[(.string ⟨#[]⟩), (.int .i64 0), (.int .i64 0), (.int .i64 0)]) 40 info23 rfl (by decide) (by omega) z23 (ok := fun _ => True) (okp := fun _ => True) (k23_mkM _ _ _ z23 ) (fun _ hk => hk) trivial (by omega) (by omega) (Below.refl _ _) (Nat.le_refl _) ?_; intro v174 w8 ho9 hb hg_ hnew_; clear hg_ hnew_; (first | rw [← Ny173.out] at ho9 | (simp only [Int.reduceToNat] at ho9; rw [← Ny173.out] at ho9)); have n0_ := Aside0.mk (Kd.R_below (by (with_reducible repeat (first | apply Kd.R_alloc | apply Kd.R_drewN | apply Kd.R_drew)); exact (Kd.R_mono (Kd.R_far (p := ⟨gb172, 3, none⟩) (Kd.R_far (p := ⟨gb172, 2, none⟩) (Kd.R_far (p := ⟨gb172, 1, none⟩) (Kd.R_far (p := ⟨gb172, 0, none⟩) (Kd.R_types HO171.out BK172.out (by decide)) (fun _ hk => hk.2) (.string (strOfNums y169))) (fun _ hk => hk.2) (.int .i64 1)) (fun _ hk => hk.2) (.int .i64 4)) (fun _ hk => hk.2) (.int .i64 2)) (fun _ h_ => h_.1))) hb); have n1_ := Aside0.mk (Kd.R_lower (Kd.R_newB ho9 (g := gb172) (o := .cells #[.string (strOfNums y169), .int .i64 1, .int .i64 4, .int .i64 2] 23 (0, 0)) (by (with_reducible repeat (first | refine blk_drewN ?_ _ | refine blk_drew ?_ | refine blk_alloc ?_ _)); refine blk_put (cs := #[.string (strOfNums y169), .int .i64 1, .int .i64 4, .int .i64 0]) ?_ 3 _ rfl; (with_reducible repeat (first | refine blk_drewN ?_ _ | refine blk_drew ?_ | refine blk_alloc ?_ _)); refine blk_put (cs := #[.string (strOfNums y169), .int .i64 1, .int .i64 0, .int .i64 0]) ?_ 2 _ rfl; (with_reducible repeat (first | refine blk_drewN ?_ _ | refine blk_drew ?_ | refine blk_alloc ?_ _)); refine blk_put (cs := #[.string (strOfNums y169), .int .i64 0, .int .i64 0, .int .i64 0]) ?_ 1 _ rfl; (with_reducible repeat (first | refine blk_drewN ?_ _ | refine blk_drew ?_ | refine blk_alloc ?_ _)); refine blk_put (cs := #[.string (⟨#[]⟩ : ByteArray), .int .i64 0, .int .i64 0, .int .i64 0]) ?_ 0 _ rfl; (with_reducible repeat (first | refine blk_drewN ?_ _ | refine blk_drew ?_ | refine blk_alloc ?_ _)); exact BK172.out)) (below_size (by repeat (first | (with_reducible first | exact HB.out | apply below_alloc | apply pw_below_drewN | apply below_drew1 | refine below_set ?_ GE172.out) | exact HB.out)))); have n2_ := Aside0.mk (blk_below (g := gb172) (o := .cells #[.string (strOfNums y169), .int .i64 1, .int .i64 4, .int .i64 2] 23 (0, 0)) (by (with_reducible repeat (first | refine blk_drewN ?_ _ | refine blk_drew ?_ | refine blk_alloc ?_ _)); refine blk_put (cs := #[.string (strOfNums y169), .int .i64 1, .int .i64 4, .int .i64 0]) ?_ 3 _ rfl; (with_reducible repeat (first | refine blk_drewN ?_ _ | refine blk_drew ?_ | refine blk_alloc ?_ _)); refine blk_put (cs := #[.string (strOfNums y169), .int .i64 1, .int .i64 0, .int .i64 0]) ?_ 2 _ rfl; (with_reducible repeat (first | refine blk_drewN ?_ _ | refine blk_drew ?_ | refine blk_alloc ?_ _)); refine blk_put (cs := #[.string (strOfNums y169), .int .i64 0, .int .i64 0, .int .i64 0]) ?_ 1 _ rfl; (with_reducible repeat (first | refine blk_drewN ?_ _ | refine blk_drew ?_ | refine blk_alloc ?_ _)); refine blk_put (cs := #[.string (⟨#[]⟩ : ByteArray), .int .i64 0, .int .i64 0, .int .i64 0]) ?_ 0 _ rfl; (with_reducible repeat (first | refine blk_drewN ?_ _ | refine blk_drew ?_ | refine blk_alloc ?_ _)); exact BK172.out) hb); have n3_ := Aside0.mk (below_step (by repeat (first | (with_reducible first | exact HB.out | apply below_alloc | apply pw_below_drewN | apply below_drew1 | refine below_set ?_ GE172.out) | exact HB.out)) hb); clear HO171; clear BK172; clear HB; have HO171 := n0_; have HO175 := n1_; have BK172 := n2_; have HB := n3_; clear n0_ n1_ n2_ n3_; clear hb ho9))
      go_loopg [3] k (fun kq v3 w' => ∃ (x2_1 : List (S23)) (x3_1 : Int) (x173000_1 : ByteArray) (x173001_1 : Int) (x173002_1 : Int) (x173003_1 : Int), v3 = .int .i64 x3_1 ∧ Aside0 (hamperlaw24_SectorNamesR.l0 kq x2_1 x3_1 x173000_1 x173001_1 x173002_1 x173003_1 = some r) ∧ Aside0 (kq ≤ k) ∧ Aside0 (Kd.R k23 23 w' w.heap.size (fun k_ => k_ ≠ gb172) v174 x2_1) ∧ Aside0 (w'.heap[gb172]? = some (.cells #[.string x173000_1, .int .i64 x173001_1, .int .i64 x173002_1, .int .i64 x173003_1] 23 (0, 0))) ∧ Aside0 (Below w.heap.size w w'))
      case atStart => exact ⟨(y173), (0), (strOfNums y169), (1), (4), (2), (by first | rfl | (simp; done) | (simp [*]; done)), H', ⟨Nat.le_refl _⟩, ⟨by (with_reducible repeat (first | apply Kd.R_alloc | apply Kd.R_drewN | apply Kd.R_drew)); exact Kd.R_mono HO175.out (fun _ hk => hk.2)⟩, ⟨by (with_reducible repeat (first | refine blk_drewN ?_ _ | refine blk_drew ?_ | refine blk_alloc ?_ _)); exact BK172.out⟩, ⟨by repeat (first | (with_reducible first | exact HB.out | apply below_alloc | apply pw_below_drewN | apply below_drew1 | refine below_set ?_ GE172.out) | exact HB.out)⟩⟩
      case round =>
        clear H'
        try clear c1
        try clear c1b0
        try clear c1b1
        try clear c2
        try clear c2b0
        try clear c2b1
        try clear p2
        try clear hcv5
        try clear c7
        try clear hcz7_0
        try clear hcz7_1
        try clear hcz7_2
        try clear hcz7_3
        try clear hfz7_0
        try clear hfz7_1
        try clear hfz7_2
        try clear hfz7_3
        obtain ⟨x2_1, x3_1, x173000_1, x173001_1, x173002_1, x173003_1, rfl, HA, HK1, HO_2, BK172, HB⟩ := hrel
        cases gk with
        | zero => exact absurd HA.out (by simp [hamperlaw24_SectorNamesR.l0])
        | succ k1 =>
          have H := HA.out
          clear HA
          simp only [hamperlaw24_SectorNamesR.l0] at H
          by_cases c10 : x3_1 < (x2_1.length : Int)
          · rw [if_pos c10] at H
            have c10b0 : decide (x3_1 < (x2_1.length : Int)) = true := decide_eq_true c10
            clear c10
            by_cases c11 : 0 ≤ x3_1
            · rw [if_pos c11] at H
              have c11b0 : decide (0 ≤ x3_1) = true := decide_eq_true c11
              clear c11
              obtain ⟨y176, hy176⟩ : ∃ y_ : List (S23), y_ = (x2_1.set (x3_1 : Int).toNat (⟨x173000_1, x173001_1, x173002_1, x173003_1⟩ : S23)) := ⟨_, rfl⟩
              replace H : (hamperlaw24_SectorNamesR.l0 k1 y176 (wrap64 (x3_1 + 1)) x173000_1 x173001_1 x173002_1 x173003_1) = some r := by first | (rw [hy176]; with_reducible exact H) | (have H2_ := (Option.bind_some _ _).symm.trans H; rw [hy176]; with_reducible exact H2_) | (have H2_ := (Option.bind_some _ _).symm.trans H; with_reducible exact H2_) | with_reducible exact H | (rw [hy176]; exact H) | exact H
              have Ny176 := Aside0.mk hy176
              clear hy176
              have H' := Aside0.mk H
              clear H
              obtain ⟨Ao13, co13, eo13⟩ := Kd.R_slice HO_2.out
              subst eo13
              have hcz14_0 : wr.cell? ⟨gb172, 0, none⟩ = some (.string x173000_1) := (blk_cell BK172.out 0).trans rfl
              have hcz14_1 : wr.cell? ⟨gb172, 1, none⟩ = some (.int .i64 x173001_1) := (blk_cell BK172.out 1).trans rfl
              have hcz14_2 : wr.cell? ⟨gb172, 2, none⟩ = some (.int .i64 x173002_1) := (blk_cell BK172.out 2).trans rfl
              have hcz14_3 : wr.cell? ⟨gb172, 3, none⟩ = some (.int .i64 x173003_1) := (blk_cell BK172.out 3).trans rfl
              have hfz14_0 := blk_frozen BK172.out 0
              have hfz14_1 := blk_frozen BK172.out 1
              have hfz14_2 := blk_frozen BK172.out 2
              have hfz14_3 := blk_frozen BK172.out 3
              have p12 : 0 ≤ (x3_1 : Int) := of_decide_eq_true (by first | (with_reducible assumption) | assumption)
              have q12 : (x3_1 : Int) < ((x2_1.length : Int) : Int) := of_decide_eq_true (by first | (with_reducible assumption) | assumption)
              obtain ⟨go12, co12, eo12, gb12, gl12, cl12, HG12⟩ := Kd.R_form HO_2.out (by omega)
              (first | cases eo12 | (injection eo12 with ea_ en_ ec_; (first | subst ea_ | (injection ea_ with ea_; subst ea_)); subst ec_; clear en_))
              have GB12 := Aside0.mk gb12
              have GG12 := Aside0.mk HG12
              clear gb12 gl12 HG12
              obtain ⟨ce12, hcl12, hM12, hcc12, hfr12⟩ := Kd.R_elem HO_2.out z23 (x3_1 : Int) p12 q12
              obtain rfl := k23_openM hM12
              have hx12_0 : wr.cell? ⟨go12, (x3_1 : Int).toNat * 4, none⟩ = some (.string ((rd_T23 x2_1 x3_1).f0)) := hcc12 0 _ rfl
              have hx12_1 : wr.cell? ⟨go12, (x3_1 : Int).toNat * 4 + 1, none⟩ = some (.int .i64 ((rd_T23 x2_1 x3_1).f1)) := hcc12 1 _ rfl
              have hx12_2 : wr.cell? ⟨go12, (x3_1 : Int).toNat * 4 + 2, none⟩ = some (.int .i64 ((rd_T23 x2_1 x3_1).f2)) := hcc12 2 _ rfl
              have hx12_3 : wr.cell? ⟨go12, (x3_1 : Int).toNat * 4 + 3, none⟩ = some (.int .i64 ((rd_T23 x2_1 x3_1).f3)) := hcc12 3 _ rfl
              have hf12_0 : wr.frozen? ⟨go12, (x3_1 : Int).toNat * 4, none⟩ = false := hfr12 0
              have hf12_1 : wr.frozen? ⟨go12, (x3_1 : Int).toNat * 4 + 1, none⟩ = false := hfr12 1
              have hf12_2 : wr.frozen? ⟨go12, (x3_1 : Int).toNat * 4 + 2, none⟩ = false := hfr12 2
              have hf12_3 : wr.frozen? ⟨go12, (x3_1 : Int).toNat * 4 + 3, none⟩ = false := hfr12 3
              clear hcl12 hcc12 hfr12 hM12
              replace p12 := eq_true p12
              replace q12 := eq_true q12
              have HX15 := Aside0.mk (show Kd.R k23 23 wr w.heap.size (fun k_ => k_ ≠ gb172) (.slice (some ⟨go12, 0, none⟩) x2_1.length co13) x2_1 from (by (with_reducible repeat (first | apply Kd.R_alloc | apply Kd.R_drewN | apply Kd.R_drew)); exact HO_2.out))
              obtain ⟨ce15, hcl15, hM15, hcc15, hfr15⟩ := Kd.R_elem HX15.out z23 (x3_1 : Int) (of_decide_eq_true (by first | (with_reducible assumption) | assumption)) (by have h_ : (x3_1 : Int) < ((x2_1.length : Int) : Int) := of_decide_eq_true (by first | (with_reducible assumption) | assumption); first | exact h_ | (have e_ := (Kd.R_reads' HO_2.out).1; omega) | simpa using h_)
              obtain rfl := k23_openM hM15
              have HP15 := Kd.R_seg HX15.out (x3_1 : Int) (of_decide_eq_true (by first | (with_reducible assumption) | assumption)) (by have h_ : (x3_1 : Int) < ((x2_1.length : Int) : Int) := of_decide_eq_true (by first | (with_reducible assumption) | assumption); first | exact h_ | (have e_ := (Kd.R_reads' HO_2.out).1; omega) | simpa using h_) (seg := [.string x173000_1, .int .i64 x173001_1, .int .i64 x173002_1, .int .i64 x173003_1]) (j := 0) hcl15 hcc15 (show 4 ≤ 4 from by decide) (x' := (⟨x173000_1, x173001_1, x173002_1, x173003_1⟩ : S23)) (k23_mkM _ _ _ (⟨x173000_1, x173001_1, x173002_1, x173003_1⟩ : S23) ) (fun _ hk => hk)
              have hx15_0 := hcc15 0 _ rfl
              (try simp only [show (k23).sz = 4 from rfl, Nat.mul_one, Nat.add_zero] at hx15_0)
              have hf15_0 := hfr15 0
              (try simp only [show (k23).sz = 4 from rfl, Nat.mul_one, Nat.add_zero] at hf15_0)
              have hx15_1 := hcc15 1 _ rfl
              (try simp only [show (k23).sz = 4 from rfl, Nat.mul_one, Nat.add_zero] at hx15_1)
              have hf15_1 := hfr15 1
              (try simp only [show (k23).sz = 4 from rfl, Nat.mul_one, Nat.add_zero] at hf15_1)
              have hx15_2 := hcc15 2 _ rfl
              (try simp only [show (k23).sz = 4 from rfl, Nat.mul_one, Nat.add_zero] at hx15_2)
              have hf15_2 := hfr15 2
              (try simp only [show (k23).sz = 4 from rfl, Nat.mul_one, Nat.add_zero] at hf15_2)
              have hx15_3 := hcc15 3 _ rfl
              (try simp only [show (k23).sz = 4 from rfl, Nat.mul_one, Nat.add_zero] at hx15_3)
              have hf15_3 := hfr15 3
              (try simp only [show (k23).sz = 4 from rfl, Nat.mul_one, Nat.add_zero] at hf15_3)
              clear hcl15 hcc15 hfr15 hM15
              go_wp2_with (first | ((with_reducible refine gate_store (t := 23) (p := 29) rfl ?_); refine store_event (t := 23) (p := 29) (v := ?vo_w16) (w1 := ((((wr.setCell ⟨go12, (x3_1 : Int).toNat * 4, none⟩ (.string x173000_1)).setCell ⟨go12, (x3_1 : Int).toNat * 4 + 1, none⟩ (.int .i64 x173001_1)).setCell ⟨go12, (x3_1 : Int).toNat * 4 + 2, none⟩ (.int .i64 x173002_1)).setCell ⟨go12, (x3_1 : Int).toNat * 4 + 3, none⟩ (.int .i64 x173003_1))) ?hg ?ho ?hn ?hr ?_; (case ho => rfl); (case hg => rfl); (case hn => rfl); (case hr => first | (go_simp; done) | (go_simp; rfl)); intro w16 hw; have hg : wr.grownBy w16 (some go12) := (by rw [hw]; exact HP15.2); have hp_ : Kd.R k23 23 w16 w.heap.size (fun k_ => k_ ≠ gb172) (.slice (some ⟨go12, 0, none⟩) x2_1.length co13) y176 := (by rw [hw, Ny176.out]; exact HP15.1); clear HP15; have n0_ := Aside0.mk (hp_); have n1_ := Aside0.mk (blk_grown (g := gb172) (o := .cells #[.string x173000_1, .int .i64 x173001_1, .int .i64 x173002_1, .int .i64 x173003_1] 23 (0, 0)) (by (with_reducible repeat (first | refine blk_drewN ?_ _ | refine blk_drew ?_ | refine blk_alloc ?_ _)); exact BK172.out) hg (Kd.R_away HO_2.out (fun _ hk => hk))); have n2_ := Aside0.mk ((by rw [hw]; exact below_set (below_set (below_set (below_set (HB.out) GB12.out) GB12.out) GB12.out) GB12.out : Below w.heap.size w w16)); clear HO_2; clear BK172; clear HB; have HO_2 := n0_; have BK172 := n1_; have HB := n2_; clear n0_ n1_ n2_; clear hg hw hp_))
              go_roundg k1
              case measure => have := HK1.out; omega
              case rel => exact ⟨(y176), (wrap64 (x3_1 + 1)), (x173000_1), (x173001_1), (x173002_1), (x173003_1), (by first | rfl | (simp; done) | (simp [*]; done)), H', ⟨by have := HK1.out; omega⟩, ⟨by (with_reducible repeat (first | apply Kd.R_alloc | apply Kd.R_drewN | apply Kd.R_drew)); exact HO_2.out⟩, ⟨by (with_reducible repeat (first | refine blk_drewN ?_ _ | refine blk_drew ?_ | refine blk_alloc ?_ _)); exact BK172.out⟩, ⟨by repeat (first | (with_reducible first | exact HB.out | apply below_alloc | apply pw_below_drewN | apply below_drew1 | refine below_set ?_ GE172.out) | exact HB.out)⟩⟩
            · rw [if_neg c11] at H
              exact absurd H (by simp)
          · rw [if_neg c10] at H
            have c10b0 : decide (x3_1 < (x2_1.length : Int)) = false := decide_eq_false c10
            clear c10
            by_cases c17 : 1 ≤ (x173000_1.size : Int)
            · rw [if_pos c17] at H
              have c17b0 := eq_true c17
              have c17b1 : decide (1 ≤ (x173000_1.size : Int)) = true := decide_eq_true c17
              clear c17
              by_cases c18 : 0 < (x2_1.length : Int)
              · rw [if_pos c18] at H
                have c18b0 : decide (0 < (x2_1.length : Int)) = true := decide_eq_true c18
                have c18b1 : decide (0 < x2_1.length) = true := decide_eq_true (by omega)
                clear c18
                obtain ⟨y177, hy177⟩ : ∃ y_ : List (S23), y_ = (x2_1.set (0 : Int).toNat (⟨x173000_1.extract 1 x173000_1.size, (rd_T23 x2_1 0).f1, (rd_T23 x2_1 0).f2, (rd_T23 x2_1 0).f3⟩ : S23)) := ⟨_, rfl⟩
                replace H : (if 1 < (x2_1.length : Int) then ((some (y177.set (1 : Int).toNat (⟨(rd_T23 y177 1).f0, (-1), (rd_T23 y177 1).f2, (rd_T23 y177 1).f3⟩ : S23) : List (S23))).bind fun y178 => (if 2 < (x2_1.length : Int) then ((some (y178.set (2 : Int).toNat (⟨(rd_T23 y178 2).f0, 65536, (rd_T23 y178 2).f2, (rd_T23 y178 2).f3⟩ : S23) : List (S23))).bind fun y179 => (if 3 < (x2_1.length : Int) then ((some (y179.set (3 : Int).toNat (⟨(rd_T23 y179 3).f0, (rd_T23 y179 3).f1, 0, (rd_T23 y179 3).f3⟩ : S23) : List (S23))).bind fun y180 => (if 4 < (x2_1.length : Int) then ((some (y180.set (4 : Int).toNat (⟨(rd_T23 y180 4).f0, (rd_T23 y180 4).f1, 3, (rd_T23 y180 4).f3⟩ : S23) : List (S23))).bind fun y181 => (if 5 < (x2_1.length : Int) then ((some (y181.set (5 : Int).toNat (⟨(rd_T23 y181 5).f0, (rd_T23 y181 5).f1, 514, (rd_T23 y181 5).f3⟩ : S23) : List (S23))).bind fun y182 => (if 6 < (x2_1.length : Int) then ((some (y182.set (6 : Int).toNat (⟨(rd_T23 y182 6).f0, (rd_T23 y182 6).f1, (rd_T23 y182 6).f2, 0⟩ : S23) : List (S23))).bind fun y183 => (if 7 < (x2_1.length : Int) then (hamperlaw24_SectorNamesR.l1 k1 (y183.set (7 : Int).toNat (⟨(rd_T23 y183 7).f0, (rd_T23 y183 7).f1, (rd_T23 y183 7).f2, 97⟩ : S23)) 0 x173000_1 x173001_1 x173002_1 x173003_1) else (none))) else (none))) else (none))) else (none))) else (none))) else (none))) else (none)) = some r := by first | (rw [hy177]; with_reducible exact H) | (have H2_ := (Option.bind_some _ _).symm.trans H; rw [hy177]; with_reducible exact H2_) | (have H2_ := (Option.bind_some _ _).symm.trans H; with_reducible exact H2_) | with_reducible exact H | (rw [hy177]; exact H) | exact H
                have Ny177 := Aside0.mk hy177
                clear hy177
                by_cases c20 : 1 < (x2_1.length : Int)
                · rw [if_pos c20] at H
                  have c20b0 : decide (1 < (x2_1.length : Int)) = true := decide_eq_true c20
                  have c20b1 : decide (1 < x2_1.length) = true := decide_eq_true (by omega)
                  clear c20
                  obtain ⟨y178, hy178⟩ : ∃ y_ : List (S23), y_ = (y177.set (1 : Int).toNat (⟨(rd_T23 y177 1).f0, (-1), (rd_T23 y177 1).f2, (rd_T23 y177 1).f3⟩ : S23)) := ⟨_, rfl⟩
                  replace H : (if 2 < (x2_1.length : Int) then ((some (y178.set (2 : Int).toNat (⟨(rd_T23 y178 2).f0, 65536, (rd_T23 y178 2).f2, (rd_T23 y178 2).f3⟩ : S23) : List (S23))).bind fun y179 => (if 3 < (x2_1.length : Int) then ((some (y179.set (3 : Int).toNat (⟨(rd_T23 y179 3).f0, (rd_T23 y179 3).f1, 0, (rd_T23 y179 3).f3⟩ : S23) : List (S23))).bind fun y180 => (if 4 < (x2_1.length : Int) then ((some (y180.set (4 : Int).toNat (⟨(rd_T23 y180 4).f0, (rd_T23 y180 4).f1, 3, (rd_T23 y180 4).f3⟩ : S23) : List (S23))).bind fun y181 => (if 5 < (x2_1.length : Int) then ((some (y181.set (5 : Int).toNat (⟨(rd_T23 y181 5).f0, (rd_T23 y181 5).f1, 514, (rd_T23 y181 5).f3⟩ : S23) : List (S23))).bind fun y182 => (if 6 < (x2_1.length : Int) then ((some (y182.set (6 : Int).toNat (⟨(rd_T23 y182 6).f0, (rd_T23 y182 6).f1, (rd_T23 y182 6).f2, 0⟩ : S23) : List (S23))).bind fun y183 => (if 7 < (x2_1.length : Int) then (hamperlaw24_SectorNamesR.l1 k1 (y183.set (7 : Int).toNat (⟨(rd_T23 y183 7).f0, (rd_T23 y183 7).f1, (rd_T23 y183 7).f2, 97⟩ : S23)) 0 x173000_1 x173001_1 x173002_1 x173003_1) else (none))) else (none))) else (none))) else (none))) else (none))) else (none)) = some r := by first | (rw [hy178]; with_reducible exact H) | (have H2_ := (Option.bind_some _ _).symm.trans H; rw [hy178]; with_reducible exact H2_) | (have H2_ := (Option.bind_some _ _).symm.trans H; with_reducible exact H2_) | with_reducible exact H | (rw [hy178]; exact H) | exact H
                  have Ny178 := Aside0.mk hy178
                  clear hy178
                  by_cases c22 : 2 < (x2_1.length : Int)
                  · rw [if_pos c22] at H
                    have c22b0 : decide (2 < (x2_1.length : Int)) = true := decide_eq_true c22
                    have c22b1 : decide (2 < x2_1.length) = true := decide_eq_true (by omega)
                    clear c22
                    obtain ⟨y179, hy179⟩ : ∃ y_ : List (S23), y_ = (y178.set (2 : Int).toNat (⟨(rd_T23 y178 2).f0, 65536, (rd_T23 y178 2).f2, (rd_T23 y178 2).f3⟩ : S23)) := ⟨_, rfl⟩
                    replace H : (if 3 < (x2_1.length : Int) then ((some (y179.set (3 : Int).toNat (⟨(rd_T23 y179 3).f0, (rd_T23 y179 3).f1, 0, (rd_T23 y179 3).f3⟩ : S23) : List (S23))).bind fun y180 => (if 4 < (x2_1.length : Int) then ((some (y180.set (4 : Int).toNat (⟨(rd_T23 y180 4).f0, (rd_T23 y180 4).f1, 3, (rd_T23 y180 4).f3⟩ : S23) : List (S23))).bind fun y181 => (if 5 < (x2_1.length : Int) then ((some (y181.set (5 : Int).toNat (⟨(rd_T23 y181 5).f0, (rd_T23 y181 5).f1, 514, (rd_T23 y181 5).f3⟩ : S23) : List (S23))).bind fun y182 => (if 6 < (x2_1.length : Int) then ((some (y182.set (6 : Int).toNat (⟨(rd_T23 y182 6).f0, (rd_T23 y182 6).f1, (rd_T23 y182 6).f2, 0⟩ : S23) : List (S23))).bind fun y183 => (if 7 < (x2_1.length : Int) then (hamperlaw24_SectorNamesR.l1 k1 (y183.set (7 : Int).toNat (⟨(rd_T23 y183 7).f0, (rd_T23 y183 7).f1, (rd_T23 y183 7).f2, 97⟩ : S23)) 0 x173000_1 x173001_1 x173002_1 x173003_1) else (none))) else (none))) else (none))) else (none))) else (none)) = some r := by first | (rw [hy179]; with_reducible exact H) | (have H2_ := (Option.bind_some _ _).symm.trans H; rw [hy179]; with_reducible exact H2_) | (have H2_ := (Option.bind_some _ _).symm.trans H; with_reducible exact H2_) | with_reducible exact H | (rw [hy179]; exact H) | exact H
                    have Ny179 := Aside0.mk hy179
                    clear hy179
                    by_cases c24 : 3 < (x2_1.length : Int)
                    · rw [if_pos c24] at H
                      have c24b0 : decide (3 < (x2_1.length : Int)) = true := decide_eq_true c24
                      have c24b1 : decide (3 < x2_1.length) = true := decide_eq_true (by omega)
                      clear c24
                      obtain ⟨y180, hy180⟩ : ∃ y_ : List (S23), y_ = (y179.set (3 : Int).toNat (⟨(rd_T23 y179 3).f0, (rd_T23 y179 3).f1, 0, (rd_T23 y179 3).f3⟩ : S23)) := ⟨_, rfl⟩
                      replace H : (if 4 < (x2_1.length : Int) then ((some (y180.set (4 : Int).toNat (⟨(rd_T23 y180 4).f0, (rd_T23 y180 4).f1, 3, (rd_T23 y180 4).f3⟩ : S23) : List (S23))).bind fun y181 => (if 5 < (x2_1.length : Int) then ((some (y181.set (5 : Int).toNat (⟨(rd_T23 y181 5).f0, (rd_T23 y181 5).f1, 514, (rd_T23 y181 5).f3⟩ : S23) : List (S23))).bind fun y182 => (if 6 < (x2_1.length : Int) then ((some (y182.set (6 : Int).toNat (⟨(rd_T23 y182 6).f0, (rd_T23 y182 6).f1, (rd_T23 y182 6).f2, 0⟩ : S23) : List (S23))).bind fun y183 => (if 7 < (x2_1.length : Int) then (hamperlaw24_SectorNamesR.l1 k1 (y183.set (7 : Int).toNat (⟨(rd_T23 y183 7).f0, (rd_T23 y183 7).f1, (rd_T23 y183 7).f2, 97⟩ : S23)) 0 x173000_1 x173001_1 x173002_1 x173003_1) else (none))) else (none))) else (none))) else (none)) = some r := by first | (rw [hy180]; with_reducible exact H) | (have H2_ := (Option.bind_some _ _).symm.trans H; rw [hy180]; with_reducible exact H2_) | (have H2_ := (Option.bind_some _ _).symm.trans H; with_reducible exact H2_) | with_reducible exact H | (rw [hy180]; exact H) | exact H
                      have Ny180 := Aside0.mk hy180
                      clear hy180
                      by_cases c26 : 4 < (x2_1.length : Int)
                      · rw [if_pos c26] at H
                        have c26b0 : decide (4 < (x2_1.length : Int)) = true := decide_eq_true c26
                        have c26b1 : decide (4 < x2_1.length) = true := decide_eq_true (by omega)
                        clear c26
                        obtain ⟨y181, hy181⟩ : ∃ y_ : List (S23), y_ = (y180.set (4 : Int).toNat (⟨(rd_T23 y180 4).f0, (rd_T23 y180 4).f1, 3, (rd_T23 y180 4).f3⟩ : S23)) := ⟨_, rfl⟩
                        replace H : (if 5 < (x2_1.length : Int) then ((some (y181.set (5 : Int).toNat (⟨(rd_T23 y181 5).f0, (rd_T23 y181 5).f1, 514, (rd_T23 y181 5).f3⟩ : S23) : List (S23))).bind fun y182 => (if 6 < (x2_1.length : Int) then ((some (y182.set (6 : Int).toNat (⟨(rd_T23 y182 6).f0, (rd_T23 y182 6).f1, (rd_T23 y182 6).f2, 0⟩ : S23) : List (S23))).bind fun y183 => (if 7 < (x2_1.length : Int) then (hamperlaw24_SectorNamesR.l1 k1 (y183.set (7 : Int).toNat (⟨(rd_T23 y183 7).f0, (rd_T23 y183 7).f1, (rd_T23 y183 7).f2, 97⟩ : S23)) 0 x173000_1 x173001_1 x173002_1 x173003_1) else (none))) else (none))) else (none)) = some r := by first | (rw [hy181]; with_reducible exact H) | (have H2_ := (Option.bind_some _ _).symm.trans H; rw [hy181]; with_reducible exact H2_) | (have H2_ := (Option.bind_some _ _).symm.trans H; with_reducible exact H2_) | with_reducible exact H | (rw [hy181]; exact H) | exact H
                        have Ny181 := Aside0.mk hy181
                        clear hy181
                        by_cases c28 : 5 < (x2_1.length : Int)
                        · rw [if_pos c28] at H
                          have c28b0 : decide (5 < (x2_1.length : Int)) = true := decide_eq_true c28
                          have c28b1 : decide (5 < x2_1.length) = true := decide_eq_true (by omega)
                          clear c28
                          obtain ⟨y182, hy182⟩ : ∃ y_ : List (S23), y_ = (y181.set (5 : Int).toNat (⟨(rd_T23 y181 5).f0, (rd_T23 y181 5).f1, 514, (rd_T23 y181 5).f3⟩ : S23)) := ⟨_, rfl⟩
                          replace H : (if 6 < (x2_1.length : Int) then ((some (y182.set (6 : Int).toNat (⟨(rd_T23 y182 6).f0, (rd_T23 y182 6).f1, (rd_T23 y182 6).f2, 0⟩ : S23) : List (S23))).bind fun y183 => (if 7 < (x2_1.length : Int) then (hamperlaw24_SectorNamesR.l1 k1 (y183.set (7 : Int).toNat (⟨(rd_T23 y183 7).f0, (rd_T23 y183 7).f1, (rd_T23 y183 7).f2, 97⟩ : S23)) 0 x173000_1 x173001_1 x173002_1 x173003_1) else (none))) else (none)) = some r := by first | (rw [hy182]; with_reducible exact H) | (have H2_ := (Option.bind_some _ _).symm.trans H; rw [hy182]; with_reducible exact H2_) | (have H2_ := (Option.bind_some _ _).symm.trans H; with_reducible exact H2_) | with_reducible exact H | (rw [hy182]; exact H) | exact H
                          have Ny182 := Aside0.mk hy182
                          clear hy182
                          by_cases c30 : 6 < (x2_1.length : Int)
                          · rw [if_pos c30] at H
                            have c30b0 : decide (6 < (x2_1.length : Int)) = true := decide_eq_true c30
                            have c30b1 : decide (6 < x2_1.length) = true := decide_eq_true (by omega)
                            clear c30
                            obtain ⟨y183, hy183⟩ : ∃ y_ : List (S23), y_ = (y182.set (6 : Int).toNat (⟨(rd_T23 y182 6).f0, (rd_T23 y182 6).f1, (rd_T23 y182 6).f2, 0⟩ : S23)) := ⟨_, rfl⟩
                            replace H : (if 7 < (x2_1.length : Int) then (hamperlaw24_SectorNamesR.l1 k1 (y183.set (7 : Int).toNat (⟨(rd_T23 y183 7).f0, (rd_T23 y183 7).f1, (rd_T23 y183 7).f2, 97⟩ : S23)) 0 x173000_1 x173001_1 x173002_1 x173003_1) else (none)) = some r := by first | (rw [hy183]; with_reducible exact H) | (have H2_ := (Option.bind_some _ _).symm.trans H; rw [hy183]; with_reducible exact H2_) | (have H2_ := (Option.bind_some _ _).symm.trans H; with_reducible exact H2_) | with_reducible exact H | (rw [hy183]; exact H) | exact H
                            have Ny183 := Aside0.mk hy183
                            clear hy183
                            by_cases c32 : 7 < (x2_1.length : Int)
                            · rw [if_pos c32] at H
                              have c32b0 : decide (7 < (x2_1.length : Int)) = true := decide_eq_true c32
                              have c32b1 : decide (7 < x2_1.length) = true := decide_eq_true (by omega)
                              clear c32
                              obtain ⟨y184, hy184⟩ : ∃ y_ : List (S23), y_ = (y183.set (7 : Int).toNat (⟨(rd_T23 y183 7).f0, (rd_T23 y183 7).f1, (rd_T23 y183 7).f2, 97⟩ : S23)) := ⟨_, rfl⟩
                              replace H : (hamperlaw24_SectorNamesR.l1 k1 y184 0 x173000_1 x173001_1 x173002_1 x173003_1) = some r := by first | (rw [hy184]; with_reducible exact H) | (have H2_ := (Option.bind_some _ _).symm.trans H; rw [hy184]; with_reducible exact H2_) | (have H2_ := (Option.bind_some _ _).symm.trans H; with_reducible exact H2_) | with_reducible exact H | (rw [hy184]; exact H) | exact H
                              have Ny184 := Aside0.mk hy184
                              clear hy184
                              have H' := Aside0.mk H
                              clear H
                              obtain ⟨Ao34, co34, eo34⟩ := Kd.R_slice HO_2.out
                              subst eo34
                              have hcz35_0 : wr.cell? ⟨gb172, 0, none⟩ = some (.string x173000_1) := (blk_cell BK172.out 0).trans rfl
                              have hcz35_1 : wr.cell? ⟨gb172, 1, none⟩ = some (.int .i64 x173001_1) := (blk_cell BK172.out 1).trans rfl
                              have hcz35_2 : wr.cell? ⟨gb172, 2, none⟩ = some (.int .i64 x173002_1) := (blk_cell BK172.out 2).trans rfl
                              have hcz35_3 : wr.cell? ⟨gb172, 3, none⟩ = some (.int .i64 x173003_1) := (blk_cell BK172.out 3).trans rfl
                              have hfz35_0 := blk_frozen BK172.out 0
                              have hfz35_1 := blk_frozen BK172.out 1
                              have hfz35_2 := blk_frozen BK172.out 2
                              have hfz35_3 := blk_frozen BK172.out 3
                              have p19 : 0 ≤ (0 : Int) := (by omega)
                              have q19 : (0 : Int) < ((x2_1.length : Int) : Int) := of_decide_eq_true (by first | (with_reducible assumption) | assumption)
                              have qi19 : (0 < x2_1.length) = True := eq_true (by omega)
                              obtain ⟨go19, co19, eo19, gb19, gl19, cl19, HG19⟩ := Kd.R_form HO_2.out (by omega)
                              (first | cases eo19 | (injection eo19 with ea_ en_ ec_; (first | subst ea_ | (injection ea_ with ea_; subst ea_)); subst ec_; clear en_))
                              have GB19 := Aside0.mk gb19
                              have GG19 := Aside0.mk HG19
                              clear gb19 gl19 HG19
                              obtain ⟨ce19, hcl19, hM19, hcc19, hfr19⟩ := Kd.R_elem HO_2.out z23 (0 : Int) p19 q19
                              obtain rfl := k23_openM hM19
                              have hx19_0 : wr.cell? ⟨go19, (0 : Int).toNat * 4, none⟩ = some (.string ((rd_T23 x2_1 0).f0)) := hcc19 0 _ rfl
                              have hx19_1 : wr.cell? ⟨go19, (0 : Int).toNat * 4 + 1, none⟩ = some (.int .i64 ((rd_T23 x2_1 0).f1)) := hcc19 1 _ rfl
                              have hx19_2 : wr.cell? ⟨go19, (0 : Int).toNat * 4 + 2, none⟩ = some (.int .i64 ((rd_T23 x2_1 0).f2)) := hcc19 2 _ rfl
                              have hx19_3 : wr.cell? ⟨go19, (0 : Int).toNat * 4 + 3, none⟩ = some (.int .i64 ((rd_T23 x2_1 0).f3)) := hcc19 3 _ rfl
                              have hf19_0 : wr.frozen? ⟨go19, (0 : Int).toNat * 4, none⟩ = false := hfr19 0
                              have hf19_1 : wr.frozen? ⟨go19, (0 : Int).toNat * 4 + 1, none⟩ = false := hfr19 1
                              have hf19_2 : wr.frozen? ⟨go19, (0 : Int).toNat * 4 + 2, none⟩ = false := hfr19 2
                              have hf19_3 : wr.frozen? ⟨go19, (0 : Int).toNat * 4 + 3, none⟩ = false := hfr19 3
                              clear hcl19 hcc19 hfr19 hM19
                              (try rw [show ((0 : Int)).toNat = 0 from rfl] at hx19_0)
                              (try simp only [Nat.reduceMul, Nat.zero_mul, Nat.zero_add, Nat.reduceAdd] at hx19_0)
                              (try rw [show ((0 : Int)).toNat = 0 from rfl] at hf19_0)
                              (try simp only [Nat.reduceMul, Nat.zero_mul, Nat.zero_add, Nat.reduceAdd] at hf19_0)
                              (try rw [show ((0 : Int)).toNat = 0 from rfl] at hx19_1)
                              (try simp only [Nat.reduceMul, Nat.zero_mul, Nat.zero_add, Nat.reduceAdd] at hx19_1)
                              (try rw [show ((0 : Int)).toNat = 0 from rfl] at hf19_1)
                              (try simp only [Nat.reduceMul, Nat.zero_mul, Nat.zero_add, Nat.reduceAdd] at hf19_1)
                              (try rw [show ((0 : Int)).toNat = 0 from rfl] at hx19_2)
                              (try simp only [Nat.reduceMul, Nat.zero_mul, Nat.zero_add, Nat.reduceAdd] at hx19_2)
                              (try rw [show ((0 : Int)).toNat = 0 from rfl] at hf19_2)
                              (try simp only [Nat.reduceMul, Nat.zero_mul, Nat.zero_add, Nat.reduceAdd] at hf19_2)
                              (try rw [show ((0 : Int)).toNat = 0 from rfl] at hx19_3)
                              (try simp only [Nat.reduceMul, Nat.zero_mul, Nat.zero_add, Nat.reduceAdd] at hx19_3)
                              (try rw [show ((0 : Int)).toNat = 0 from rfl] at hf19_3)
                              (try simp only [Nat.reduceMul, Nat.zero_mul, Nat.zero_add, Nat.reduceAdd] at hf19_3)
                              replace p19 := eq_true p19
                              replace q19 := eq_true q19
                              have HX36 := Aside0.mk (show Kd.R k23 23 wr w.heap.size (fun k_ => k_ ≠ gb172) (.slice (some ⟨go19, 0, none⟩) x2_1.length co34) x2_1 from (by (with_reducible repeat (first | apply Kd.R_alloc | apply Kd.R_drewN | apply Kd.R_drew)); exact HO_2.out))
                              obtain ⟨ce36, hcl36, hM36, hcc36, hfr36⟩ := Kd.R_elem HX36.out z23 (0 : Int) (by omega) (by have h_ : (0 : Int) < ((x2_1.length : Int) : Int) := of_decide_eq_true (by first | (with_reducible assumption) | assumption); first | exact h_ | (have e_ := (Kd.R_reads' HO_2.out).1; omega) | simpa using h_)
                              obtain rfl := k23_openM hM36
                              have HP36 := Kd.R_seg HX36.out (0 : Int) (by omega) (by have h_ : (0 : Int) < ((x2_1.length : Int) : Int) := of_decide_eq_true (by first | (with_reducible assumption) | assumption); first | exact h_ | (have e_ := (Kd.R_reads' HO_2.out).1; omega) | simpa using h_) (seg := [.string (x173000_1.extract 1 x173000_1.size)]) (j := 0) hcl36 hcc36 (show 1 ≤ 4 from by decide) (x' := (⟨x173000_1.extract 1 x173000_1.size, (rd_T23 x2_1 0).f1, (rd_T23 x2_1 0).f2, (rd_T23 x2_1 0).f3⟩ : S23)) (k23_mkM _ _ _ (⟨x173000_1.extract 1 x173000_1.size, (rd_T23 x2_1 0).f1, (rd_T23 x2_1 0).f2, (rd_T23 x2_1 0).f3⟩ : S23) ) (fun _ hk => hk)
                              have hx36_0 := hcc36 0 _ rfl
                              (try simp only [show (k23).sz = 4 from rfl, Nat.mul_one, Nat.add_zero] at hx36_0)
                              (try rw [show ((0 : Int)).toNat = 0 from rfl] at hx36_0)
                              (try simp only [Nat.reduceMul, Nat.zero_mul, Nat.zero_add, Nat.reduceAdd] at hx36_0)
                              have hf36_0 := hfr36 0
                              (try simp only [show (k23).sz = 4 from rfl, Nat.mul_one, Nat.add_zero] at hf36_0)
                              (try rw [show ((0 : Int)).toNat = 0 from rfl] at hf36_0)
                              (try simp only [Nat.reduceMul, Nat.zero_mul, Nat.zero_add, Nat.reduceAdd] at hf36_0)
                              clear hcl36 hcc36 hfr36 hM36
                              go_wp2_with (first | ((with_reducible refine gate_store (t := 9) (p := 35) rfl ?_); refine store_event (t := 9) (p := 35) (v := ?vo_w37) (w1 := (wr.setCell ⟨go19, 0, none⟩ (.string (x173000_1.extract 1 x173000_1.size)))) ?hg ?ho ?hn ?hr ?_; (case ho => rfl); (case hg => rfl); (case hn => rfl); (case hr => first | (go_simp; done) | (go_simp; rfl)); intro w37 hw; have hg : wr.grownBy w37 (some go19) := (by rw [hw]; exact HP36.2); have hp_ : Kd.R k23 23 w37 w.heap.size (fun k_ => k_ ≠ gb172) (.slice (some ⟨go19, 0, none⟩) x2_1.length co34) y177 := (by rw [hw, Ny177.out]; exact HP36.1); clear HP36; have n0_ := Aside0.mk (hp_); have n1_ := Aside0.mk (blk_grown (g := gb172) (o := .cells #[.string x173000_1, .int .i64 x173001_1, .int .i64 x173002_1, .int .i64 x173003_1] 23 (0, 0)) (by (with_reducible repeat (first | refine blk_drewN ?_ _ | refine blk_drew ?_ | refine blk_alloc ?_ _)); exact BK172.out) hg (Kd.R_away HO_2.out (fun _ hk => hk))); have n2_ := Aside0.mk ((by rw [hw]; exact below_set (HB.out) GB19.out : Below w.heap.size w w37)); clear HO_2; clear BK172; clear HB; have HO_2 := n0_; have BK172 := n1_; have HB := n2_; clear n0_ n1_ n2_; clear hg hw hp_; have p21 : 0 ≤ (1 : Int) := (by omega); have q21 : (1 : Int) < ((x2_1.length : Int) : Int) := of_decide_eq_true (by first | (with_reducible assumption) | assumption); have qi21 : (1 < x2_1.length) = True := eq_true (by omega); obtain ⟨ce21, hcl21, hM21, hcc21, hfr21⟩ := Kd.R_elem HO_2.out z23 (1 : Int) p21 q21; obtain rfl := k23_openM hM21; have hx21_0 : w37.cell? ⟨go19, (1 : Int).toNat * 4, none⟩ = some (.string ((rd_T23 y177 1).f0)) := hcc21 0 _ rfl; have hx21_1 : w37.cell? ⟨go19, (1 : Int).toNat * 4 + 1, none⟩ = some (.int .i64 ((rd_T23 y177 1).f1)) := hcc21 1 _ rfl; have hx21_2 : w37.cell? ⟨go19, (1 : Int).toNat * 4 + 2, none⟩ = some (.int .i64 ((rd_T23 y177 1).f2)) := hcc21 2 _ rfl; have hx21_3 : w37.cell? ⟨go19, (1 : Int).toNat * 4 + 3, none⟩ = some (.int .i64 ((rd_T23 y177 1).f3)) := hcc21 3 _ rfl; have hf21_0 : w37.frozen? ⟨go19, (1 : Int).toNat * 4, none⟩ = false := hfr21 0; have hf21_1 : w37.frozen? ⟨go19, (1 : Int).toNat * 4 + 1, none⟩ = false := hfr21 1; have hf21_2 : w37.frozen? ⟨go19, (1 : Int).toNat * 4 + 2, none⟩ = false := hfr21 2; have hf21_3 : w37.frozen? ⟨go19, (1 : Int).toNat * 4 + 3, none⟩ = false := hfr21 3; clear hcl21 hcc21 hfr21 hM21; (try rw [show ((1 : Int)).toNat = 1 from rfl] at hx21_0); (try simp only [Nat.reduceMul, Nat.zero_mul, Nat.zero_add, Nat.reduceAdd] at hx21_0); (try rw [show ((1 : Int)).toNat = 1 from rfl] at hf21_0); (try simp only [Nat.reduceMul, Nat.zero_mul, Nat.zero_add, Nat.reduceAdd] at hf21_0); (try rw [show ((1 : Int)).toNat = 1 from rfl] at hx21_1); (try simp only [Nat.reduceMul, Nat.zero_mul, Nat.zero_add, Nat.reduceAdd] at hx21_1); (try rw [show ((1 : Int)).toNat = 1 from rfl] at hf21_1); (try simp only [Nat.reduceMul, Nat.zero_mul, Nat.zero_add, Nat.reduceAdd] at hf21_1); (try rw [show ((1 : Int)).toNat = 1 from rfl] at hx21_2); (try simp only [Nat.reduceMul, Nat.zero_mul, Nat.zero_add, Nat.reduceAdd] at hx21_2); (try rw [show ((1 : Int)).toNat = 1 from rfl] at hf21_2); (try simp only [Nat.reduceMul, Nat.zero_mul, Nat.zero_add, Nat.reduceAdd] at hf21_2); (try rw [show ((1 : Int)).toNat = 1 from rfl] at hx21_3); (try simp only [Nat.reduceMul, Nat.zero_mul, Nat.zero_add, Nat.reduceAdd] at hx21_3); (try rw [show ((1 : Int)).toNat = 1 from rfl] at hf21_3); (try simp only [Nat.reduceMul, Nat.zero_mul, Nat.zero_add, Nat.reduceAdd] at hf21_3); replace p21 := eq_true p21; replace q21 := eq_true q21; have HX38 := Aside0.mk (show Kd.R k23 23 w37 w.heap.size (fun k_ => k_ ≠ gb172) (.slice (some ⟨go19, 0, none⟩) x2_1.length co34) y177 from (by (with_reducible repeat (first | apply Kd.R_alloc | apply Kd.R_drewN | apply Kd.R_drew)); exact HO_2.out)); obtain ⟨ce38, hcl38, hM38, hcc38, hfr38⟩ := Kd.R_elem HX38.out z23 (1 : Int) (by omega) (by have h_ : (1 : Int) < ((x2_1.length : Int) : Int) := of_decide_eq_true (by first | (with_reducible assumption) | assumption); first | exact h_ | (have e_ := (Kd.R_reads' HO_2.out).1; omega) | simpa using h_); obtain rfl := k23_openM hM38; have HP38 := Kd.R_seg HX38.out (1 : Int) (by omega) (by have h_ : (1 : Int) < ((x2_1.length : Int) : Int) := of_decide_eq_true (by first | (with_reducible assumption) | assumption); first | exact h_ | (have e_ := (Kd.R_reads' HO_2.out).1; omega) | simpa using h_) (seg := [.int .i64 (-1)]) (j := 1) hcl38 hcc38 (show 2 ≤ 4 from by decide) (x' := (⟨(rd_T23 y177 1).f0, (-1), (rd_T23 y177 1).f2, (rd_T23 y177 1).f3⟩ : S23)) (k23_mkM _ _ _ (⟨(rd_T23 y177 1).f0, (-1), (rd_T23 y177 1).f2, (rd_T23 y177 1).f3⟩ : S23) ) (fun _ hk => hk); have hx38_1 := hcc38 1 _ rfl; (try simp only [show (k23).sz = 4 from rfl, Nat.mul_one, Nat.add_zero] at hx38_1); (try rw [show ((1 : Int)).toNat = 1 from rfl] at hx38_1); (try simp only [Nat.reduceMul, Nat.zero_mul, Nat.zero_add, Nat.reduceAdd] at hx38_1); have hf38_1 := hfr38 1; (try simp only [show (k23).sz = 4 from rfl, Nat.mul_one, Nat.add_zero] at hf38_1); (try rw [show ((1 : Int)).toNat = 1 from rfl] at hf38_1); (try simp only [Nat.reduceMul, Nat.zero_mul, Nat.zero_add, Nat.reduceAdd] at hf38_1); clear hcl38 hcc38 hfr38 hM38) | ((with_reducible refine gate_store (t := 3) (p := 38) rfl ?_); refine store_event (t := 3) (p := 38) (v := ?vo_w39) (w1 := (w37.setCell ⟨go19, 5, none⟩ (.int .i64 (-1)))) ?hg ?ho ?hn ?hr ?_; (case ho => rfl); (case hg => rfl); (case hn => rfl); (case hr => first | (go_simp; done) | (go_simp; rfl)); intro w39 hw; have hg : w37.grownBy w39 (some go19) := (by rw [hw]; exact HP38.2); have hp_ : Kd.R k23 23 w39 w.heap.size (fun k_ => k_ ≠ gb172) (.slice (some ⟨go19, 0, none⟩) x2_1.length co34) y178 := (by rw [hw, Ny178.out]; exact HP38.1); clear HP38; have n0_ := Aside0.mk (hp_); have n1_ := Aside0.mk (blk_grown (g := gb172) (o := .cells #[.string x173000_1, .int .i64 x173001_1, .int .i64 x173002_1, .int .i64 x173003_1] 23 (0, 0)) (by (with_reducible repeat (first | refine blk_drewN ?_ _ | refine blk_drew ?_ | refine blk_alloc ?_ _)); exact BK172.out) hg (Kd.R_away HO_2.out (fun _ hk => hk))); have n2_ := Aside0.mk ((by rw [hw]; exact below_set (HB.out) GB19.out : Below w.heap.size w w39)); clear HO_2; clear BK172; clear HB; have HO_2 := n0_; have BK172 := n1_; have HB := n2_; clear n0_ n1_ n2_; clear hg hw hp_; have p23 : 0 ≤ (2 : Int) := (by omega); have q23 : (2 : Int) < ((x2_1.length : Int) : Int) := of_decide_eq_true (by first | (with_reducible assumption) | assumption); have qi23 : (2 < x2_1.length) = True := eq_true (by omega); obtain ⟨ce23, hcl23, hM23, hcc23, hfr23⟩ := Kd.R_elem HO_2.out z23 (2 : Int) p23 q23; obtain rfl := k23_openM hM23; have hx23_0 : w39.cell? ⟨go19, (2 : Int).toNat * 4, none⟩ = some (.string ((rd_T23 y178 2).f0)) := hcc23 0 _ rfl; have hx23_1 : w39.cell? ⟨go19, (2 : Int).toNat * 4 + 1, none⟩ = some (.int .i64 ((rd_T23 y178 2).f1)) := hcc23 1 _ rfl; have hx23_2 : w39.cell? ⟨go19, (2 : Int).toNat * 4 + 2, none⟩ = some (.int .i64 ((rd_T23 y178 2).f2)) := hcc23 2 _ rfl; have hx23_3 : w39.cell? ⟨go19, (2 : Int).toNat * 4 + 3, none⟩ = some (.int .i64 ((rd_T23 y178 2).f3)) := hcc23 3 _ rfl; have hf23_0 : w39.frozen? ⟨go19, (2 : Int).toNat * 4, none⟩ = false := hfr23 0; have hf23_1 : w39.frozen? ⟨go19, (2 : Int).toNat * 4 + 1, none⟩ = false := hfr23 1; have hf23_2 : w39.frozen? ⟨go19, (2 : Int).toNat * 4 + 2, none⟩ = false := hfr23 2; have hf23_3 : w39.frozen? ⟨go19, (2 : Int).toNat * 4 + 3, none⟩ = false := hfr23 3; clear hcl23 hcc23 hfr23 hM23; (try rw [show ((2 : Int)).toNat = 2 from rfl] at hx23_0); (try simp only [Nat.reduceMul, Nat.zero_mul, Nat.zero_add, Nat.reduceAdd] at hx23_0); (try rw [show ((2 : Int)).toNat = 2 from rfl] at hf23_0); (try simp only [Nat.reduceMul, Nat.zero_mul, Nat.zero_add, Nat.reduceAdd] at hf23_0); (try rw [show ((2 : Int)).toNat = 2 from rfl] at hx23_1); (try simp only [Nat.reduceMul, Nat.zero_mul, Nat.zero_add, Nat.reduceAdd] at hx23_1); (try rw [show ((2 : Int)).toNat = 2 from rfl] at hf23_1); (try simp only [Nat.reduceMul, Nat.zero_mul, Nat.zero_add, Nat.reduceAdd] at hf23_1); (try rw [show ((2 : Int)).toNat = 2 from rfl] at hx23_2); (try simp only [Nat.reduceMul, Nat.zero_mul, Nat.zero_add, Nat.reduceAdd] at hx23_2); (try rw [show ((2 : Int)).toNat = 2 from rfl] at hf23_2); (try simp only [Nat.reduceMul, Nat.zero_mul, Nat.zero_add, Nat.reduceAdd] at hf23_2); (try rw [show ((2 : Int)).toNat = 2 from rfl] at hx23_3); (try simp only [Nat.reduceMul, Nat.zero_mul, Nat.zero_add, Nat.reduceAdd] at hx23_3); (try rw [show ((2 : Int)).toNat = 2 from rfl] at hf23_3); (try simp only [Nat.reduceMul, Nat.zero_mul, Nat.zero_add, Nat.reduceAdd] at hf23_3); replace p23 := eq_true p23; replace q23 := eq_true q23; have HX40 := Aside0.mk (show Kd.R k23 23 w39 w.heap.size (fun k_ => k_ ≠ gb172) (.slice (some ⟨go19, 0, none⟩) x2_1.length co34) y178 from (by (with_reducible repeat (first | apply Kd.R_alloc | apply Kd.R_drewN | apply Kd.R_drew)); exact HO_2.out)); obtain ⟨ce40, hcl40, hM40, hcc40, hfr40⟩ := Kd.R_elem HX40.out z23 (2 : Int) (by omega) (by have h_ : (2 : Int) < ((x2_1.length : Int) : Int) := of_decide_eq_true (by first | (with_reducible assumption) | assumption); first | exact h_ | (have e_ := (Kd.R_reads' HO_2.out).1; omega) | simpa using h_); obtain rfl := k23_openM hM40; have HP40 := Kd.R_seg HX40.out (2 : Int) (by omega) (by have h_ : (2 : Int) < ((x2_1.length : Int) : Int) := of_decide_eq_true (by first | (with_reducible assumption) | assumption); first | exact h_ | (have e_ := (Kd.R_reads' HO_2.out).1; omega) | simpa using h_) (seg := [.int .i64 65536]) (j := 1) hcl40 hcc40 (show 2 ≤ 4 from by decide) (x' := (⟨(rd_T23 y178 2).f0, 65536, (rd_T23 y178 2).f2, (rd_T23 y178 2).f3⟩ : S23)) (k23_mkM _ _ _ (⟨(rd_T23 y178 2).f0, 65536, (rd_T23 y178 2).f2, (rd_T23 y178 2).f3⟩ : S23) ) (fun _ hk => hk); have hx40_1 := hcc40 1 _ rfl; (try simp only [show (k23).sz = 4 from rfl, Nat.mul_one, Nat.add_zero] at hx40_1); (try rw [show ((2 : Int)).toNat = 2 from rfl] at hx40_1); (try simp only [Nat.reduceMul, Nat.zero_mul, Nat.zero_add, Nat.reduceAdd] at hx40_1); have hf40_1 := hfr40 1; (try simp only [show (k23).sz = 4 from rfl, Nat.mul_one, Nat.add_zero] at hf40_1); (try rw [show ((2 : Int)).toNat = 2 from rfl] at hf40_1); (try simp only [Nat.reduceMul, Nat.zero_mul, Nat.zero_add, Nat.reduceAdd] at hf40_1); clear hcl40 hcc40 hfr40 hM40) | ((with_reducible refine gate_store (t := 3) (p := 41) rfl ?_); refine store_event (t := 3) (p := 41) (v := ?vo_w41) (w1 := (w39.setCell ⟨go19, 9, none⟩ (.int .i64 65536))) ?hg ?ho ?hn ?hr ?_; (case ho => rfl); (case hg => rfl); (case hn => rfl); (case hr => first | (go_simp; done) | (go_simp; rfl)); intro w41 hw; have hg : w39.grownBy w41 (some go19) := (by rw [hw]; exact HP40.2); have hp_ : Kd.R k23 23 w41 w.heap.size (fun k_ => k_ ≠ gb172) (.slice (some ⟨go19, 0, none⟩) x2_1.length co34) y179 := (by rw [hw, Ny179.out]; exact HP40.1); clear HP40; have n0_ := Aside0.mk (hp_); have n1_ := Aside0.mk (blk_grown (g := gb172) (o := .cells #[.string x173000_1, .int .i64 x173001_1, .int .i64 x173002_1, .int .i64 x173003_1] 23 (0, 0)) (by (with_reducible repeat (first | refine blk_drewN ?_ _ | refine blk_drew ?_ | refine blk_alloc ?_ _)); exact BK172.out) hg (Kd.R_away HO_2.out (fun _ hk => hk))); have n2_ := Aside0.mk ((by rw [hw]; exact below_set (HB.out) GB19.out : Below w.heap.size w w41)); clear HO_2; clear BK172; clear HB; have HO_2 := n0_; have BK172 := n1_; have HB := n2_; clear n0_ n1_ n2_; clear hg hw hp_; have p25 : 0 ≤ (3 : Int) := (by omega); have q25 : (3 : Int) < ((x2_1.length : Int) : Int) := of_decide_eq_true (by first | (with_reducible assumption) | assumption); have qi25 : (3 < x2_1.length) = True := eq_true (by omega); obtain ⟨ce25, hcl25, hM25, hcc25, hfr25⟩ := Kd.R_elem HO_2.out z23 (3 : Int) p25 q25; obtain rfl := k23_openM hM25; have hx25_0 : w41.cell? ⟨go19, (3 : Int).toNat * 4, none⟩ = some (.string ((rd_T23 y179 3).f0)) := hcc25 0 _ rfl; have hx25_1 : w41.cell? ⟨go19, (3 : Int).toNat * 4 + 1, none⟩ = some (.int .i64 ((rd_T23 y179 3).f1)) := hcc25 1 _ rfl; have hx25_2 : w41.cell? ⟨go19, (3 : Int).toNat * 4 + 2, none⟩ = some (.int .i64 ((rd_T23 y179 3).f2)) := hcc25 2 _ rfl; have hx25_3 : w41.cell? ⟨go19, (3 : Int).toNat * 4 + 3, none⟩ = some (.int .i64 ((rd_T23 y179 3).f3)) := hcc25 3 _ rfl; have hf25_0 : w41.frozen? ⟨go19, (3 : Int).toNat * 4, none⟩ = false := hfr25 0; have hf25_1 : w41.frozen? ⟨go19, (3 : Int).toNat * 4 + 1, none⟩ = false := hfr25 1; have hf25_2 : w41.frozen? ⟨go19, (3 : Int).toNat * 4 + 2, none⟩ = false := hfr25 2; have hf25_3 : w41.frozen? ⟨go19, (3 : Int).toNat * 4 + 3, none⟩ = false := hfr25 3; clear hcl25 hcc25 hfr25 hM25; (try rw [show ((3 : Int)).toNat = 3 from rfl] at hx25_0); (try simp only [Nat.reduceMul, Nat.zero_mul, Nat.zero_add, Nat.reduceAdd] at hx25_0); (try rw [show ((3 : Int)).toNat = 3 from rfl] at hf25_0); (try simp only [Nat.reduceMul, Nat.zero_mul, Nat.zero_add, Nat.reduceAdd] at hf25_0); (try rw [show ((3 : Int)).toNat = 3 from rfl] at hx25_1); (try simp only [Nat.reduceMul, Nat.zero_mul, Nat.zero_add, Nat.reduceAdd] at hx25_1); (try rw [show ((3 : Int)).toNat = 3 from rfl] at hf25_1); (try simp only [Nat.reduceMul, Nat.zero_mul, Nat.zero_add, Nat.reduceAdd] at hf25_1); (try rw [show ((3 : Int)).toNat = 3 from rfl] at hx25_2); (try simp only [Nat.reduceMul, Nat.zero_mul, Nat.zero_add, Nat.reduceAdd] at hx25_2); (try rw [show ((3 : Int)).toNat = 3 from rfl] at hf25_2); (try simp only [Nat.reduceMul, Nat.zero_mul, Nat.zero_add, Nat.reduceAdd] at hf25_2); (try rw [show ((3 : Int)).toNat = 3 from rfl] at hx25_3); (try simp only [Nat.reduceMul, Nat.zero_mul, Nat.zero_add, Nat.reduceAdd] at hx25_3); (try rw [show ((3 : Int)).toNat = 3 from rfl] at hf25_3); (try simp only [Nat.reduceMul, Nat.zero_mul, Nat.zero_add, Nat.reduceAdd] at hf25_3); replace p25 := eq_true p25; replace q25 := eq_true q25; have HX42 := Aside0.mk (show Kd.R k23 23 w41 w.heap.size (fun k_ => k_ ≠ gb172) (.slice (some ⟨go19, 0, none⟩) x2_1.length co34) y179 from (by (with_reducible repeat (first | apply Kd.R_alloc | apply Kd.R_drewN | apply Kd.R_drew)); exact HO_2.out)); obtain ⟨ce42, hcl42, hM42, hcc42, hfr42⟩ := Kd.R_elem HX42.out z23 (3 : Int) (by omega) (by have h_ : (3 : Int) < ((x2_1.length : Int) : Int) := of_decide_eq_true (by first | (with_reducible assumption) | assumption); first | exact h_ | (have e_ := (Kd.R_reads' HO_2.out).1; omega) | simpa using h_); obtain rfl := k23_openM hM42; have HP42 := Kd.R_seg HX42.out (3 : Int) (by omega) (by have h_ : (3 : Int) < ((x2_1.length : Int) : Int) := of_decide_eq_true (by first | (with_reducible assumption) | assumption); first | exact h_ | (have e_ := (Kd.R_reads' HO_2.out).1; omega) | simpa using h_) (seg := [.int .i64 0]) (j := 2) hcl42 hcc42 (show 3 ≤ 4 from by decide) (x' := (⟨(rd_T23 y179 3).f0, (rd_T23 y179 3).f1, 0, (rd_T23 y179 3).f3⟩ : S23)) (k23_mkM _ _ _ (⟨(rd_T23 y179 3).f0, (rd_T23 y179 3).f1, 0, (rd_T23 y179 3).f3⟩ : S23) ) (fun _ hk => hk); have hx42_2 := hcc42 2 _ rfl; (try simp only [show (k23).sz = 4 from rfl, Nat.mul_one, Nat.add_zero] at hx42_2); (try rw [show ((3 : Int)).toNat = 3 from rfl] at hx42_2); (try simp only [Nat.reduceMul, Nat.zero_mul, Nat.zero_add, Nat.reduceAdd] at hx42_2); have hf42_2 := hfr42 2; (try simp only [show (k23).sz = 4 from rfl, Nat.mul_one, Nat.add_zero] at hf42_2); (try rw [show ((3 : Int)).toNat = 3 from rfl] at hf42_2); (try simp only [Nat.reduceMul, Nat.zero_mul, Nat.zero_add, Nat.reduceAdd] at hf42_2); clear hcl42 hcc42 hfr42 hM42) | ((with_reducible refine gate_store (t := 3) (p := 44) rfl ?_); refine store_event (t := 3) (p := 44) (v := ?vo_w43) (w1 := (w41.setCell ⟨go19, 14, none⟩ (.int .i64 0))) ?hg ?ho ?hn ?hr ?_; (case ho => rfl); (case hg => rfl); (case hn => rfl); (case hr => first | (go_simp; done) | (go_simp; rfl)); intro w43 hw; have hg : w41.grownBy w43 (some go19) := (by rw [hw]; exact HP42.2); have hp_ : Kd.R k23 23 w43 w.heap.size (fun k_ => k_ ≠ gb172) (.slice (some ⟨go19, 0, none⟩) x2_1.length co34) y180 := (by rw [hw, Ny180.out]; exact HP42.1); clear HP42; have n0_ := Aside0.mk (hp_); have n1_ := Aside0.mk (blk_grown (g := gb172) (o := .cells #[.string x173000_1, .int .i64 x173001_1, .int .i64 x173002_1, .int .i64 x173003_1] 23 (0, 0)) (by (with_reducible repeat (first | refine blk_drewN ?_ _ | refine blk_drew ?_ | refine blk_alloc ?_ _)); exact BK172.out) hg (Kd.R_away HO_2.out (fun _ hk => hk))); have n2_ := Aside0.mk ((by rw [hw]; exact below_set (HB.out) GB19.out : Below w.heap.size w w43)); clear HO_2; clear BK172; clear HB; have HO_2 := n0_; have BK172 := n1_; have HB := n2_; clear n0_ n1_ n2_; clear hg hw hp_; have p27 : 0 ≤ (4 : Int) := (by omega); have q27 : (4 : Int) < ((x2_1.length : Int) : Int) := of_decide_eq_true (by first | (with_reducible assumption) | assumption); have qi27 : (4 < x2_1.length) = True := eq_true (by omega); obtain ⟨ce27, hcl27, hM27, hcc27, hfr27⟩ := Kd.R_elem HO_2.out z23 (4 : Int) p27 q27; obtain rfl := k23_openM hM27; have hx27_0 : w43.cell? ⟨go19, (4 : Int).toNat * 4, none⟩ = some (.string ((rd_T23 y180 4).f0)) := hcc27 0 _ rfl; have hx27_1 : w43.cell? ⟨go19, (4 : Int).toNat * 4 + 1, none⟩ = some (.int .i64 ((rd_T23 y180 4).f1)) := hcc27 1 _ rfl; have hx27_2 : w43.cell? ⟨go19, (4 : Int).toNat * 4 + 2, none⟩ = some (.int .i64 ((rd_T23 y180 4).f2)) := hcc27 2 _ rfl; have hx27_3 : w43.cell? ⟨go19, (4 : Int).toNat * 4 + 3, none⟩ = some (.int .i64 ((rd_T23 y180 4).f3)) := hcc27 3 _ rfl; have hf27_0 : w43.frozen? ⟨go19, (4 : Int).toNat * 4, none⟩ = false := hfr27 0; have hf27_1 : w43.frozen? ⟨go19, (4 : Int).toNat * 4 + 1, none⟩ = false := hfr27 1; have hf27_2 : w43.frozen? ⟨go19, (4 : Int).toNat * 4 + 2, none⟩ = false := hfr27 2; have hf27_3 : w43.frozen? ⟨go19, (4 : Int).toNat * 4 + 3, none⟩ = false := hfr27 3; clear hcl27 hcc27 hfr27 hM27; (try rw [show ((4 : Int)).toNat = 4 from rfl] at hx27_0); (try simp only [Nat.reduceMul, Nat.zero_mul, Nat.zero_add, Nat.reduceAdd] at hx27_0); (try rw [show ((4 : Int)).toNat = 4 from rfl] at hf27_0); (try simp only [Nat.reduceMul, Nat.zero_mul, Nat.zero_add, Nat.reduceAdd] at hf27_0); (try rw [show ((4 : Int)).toNat = 4 from rfl] at hx27_1); (try simp only [Nat.reduceMul, Nat.zero_mul, Nat.zero_add, Nat.reduceAdd] at hx27_1); (try rw [show ((4 : Int)).toNat = 4 from rfl] at hf27_1); (try simp only [Nat.reduceMul, Nat.zero_mul, Nat.zero_add, Nat.reduceAdd] at hf27_1); (try rw [show ((4 : Int)).toNat = 4 from rfl] at hx27_2); (try simp only [Nat.reduceMul, Nat.zero_mul, Nat.zero_add, Nat.reduceAdd] at hx27_2); (try rw [show ((4 : Int)).toNat = 4 from rfl] at hf27_2); (try simp only [Nat.reduceMul, Nat.zero_mul, Nat.zero_add, Nat.reduceAdd] at hf27_2); (try rw [show ((4 : Int)).toNat = 4 from rfl] at hx27_3); (try simp only [Nat.reduceMul, Nat.zero_mul, Nat.zero_add, Nat.reduceAdd] at hx27_3); (try rw [show ((4 : Int)).toNat = 4 from rfl] at hf27_3); (try simp only [Nat.reduceMul, Nat.zero_mul, Nat.zero_add, Nat.reduceAdd] at hf27_3); replace p27 := eq_true p27; replace q27 := eq_true q27; have HX44 := Aside0.mk (show Kd.R k23 23 w43 w.heap.size (fun k_ => k_ ≠ gb172) (.slice (some ⟨go19, 0, none⟩) x2_1.length co34) y180 from (by (with_reducible repeat (first | apply Kd.R_alloc | apply Kd.R_drewN | apply Kd.R_drew)); exact HO_2.out)); obtain ⟨ce44, hcl44, hM44, hcc44, hfr44⟩ := Kd.R_elem HX44.out z23 (4 : Int) (by omega) (by have h_ : (4 : Int) < ((x2_1.length : Int) : Int) := of_decide_eq_true (by first | (with_reducible assumption) | assumption); first | exact h_ | (have e_ := (Kd.R_reads' HO_2.out).1; omega) | simpa using h_); obtain rfl := k23_openM hM44; have HP44 := Kd.R_seg HX44.out (4 : Int) (by omega) (by have h_ : (4 : Int) < ((x2_1.length : Int) : Int) := of_decide_eq_true (by first | (with_reducible assumption) | assumption); first | exact h_ | (have e_ := (Kd.R_reads' HO_2.out).1; omega) | simpa using h_) (seg := [.int .i64 3]) (j := 2) hcl44 hcc44 (show 3 ≤ 4 from by decide) (x' := (⟨(rd_T23 y180 4).f0, (rd_T23 y180 4).f1, 3, (rd_T23 y180 4).f3⟩ : S23)) (k23_mkM _ _ _ (⟨(rd_T23 y180 4).f0, (rd_T23 y180 4).f1, 3, (rd_T23 y180 4).f3⟩ : S23) ) (fun _ hk => hk); have hx44_2 := hcc44 2 _ rfl; (try simp only [show (k23).sz = 4 from rfl, Nat.mul_one, Nat.add_zero] at hx44_2); (try rw [show ((4 : Int)).toNat = 4 from rfl] at hx44_2); (try simp only [Nat.reduceMul, Nat.zero_mul, Nat.zero_add, Nat.reduceAdd] at hx44_2); have hf44_2 := hfr44 2; (try simp only [show (k23).sz = 4 from rfl, Nat.mul_one, Nat.add_zero] at hf44_2); (try rw [show ((4 : Int)).toNat = 4 from rfl] at hf44_2); (try simp only [Nat.reduceMul, Nat.zero_mul, Nat.zero_add, Nat.reduceAdd] at hf44_2); clear hcl44 hcc44 hfr44 hM44) | ((with_reducible refine gate_store (t := 3) (p := 47) rfl ?_); refine store_event (t := 3) (p := 47) (v := ?vo_w45) (w1 := (w43.setCell ⟨go19, 18, none⟩ (.int .i64 3))) ?hg ?ho ?hn ?hr ?_; (case ho => rfl); (case hg => rfl); (case hn => rfl); (case hr => first | (go_simp; done) | (go_simp; rfl)); intro w45 hw; have hg : w43.grownBy w45 (some go19) := (by rw [hw]; exact HP44.2); have hp_ : Kd.R k23 23 w45 w.heap.size (fun k_ => k_ ≠ gb172) (.slice (some ⟨go19, 0, none⟩) x2_1.length co34) y181 := (by rw [hw, Ny181.out]; exact HP44.1); clear HP44; have n0_ := Aside0.mk (hp_); have n1_ := Aside0.mk (blk_grown (g := gb172) (o := .cells #[.string x173000_1, .int .i64 x173001_1, .int .i64 x173002_1, .int .i64 x173003_1] 23 (0, 0)) (by (with_reducible repeat (first | refine blk_drewN ?_ _ | refine blk_drew ?_ | refine blk_alloc ?_ _)); exact BK172.out) hg (Kd.R_away HO_2.out (fun _ hk => hk))); have n2_ := Aside0.mk ((by rw [hw]; exact below_set (HB.out) GB19.out : Below w.heap.size w w45)); clear HO_2; clear BK172; clear HB; have HO_2 := n0_; have BK172 := n1_; have HB := n2_; clear n0_ n1_ n2_; clear hg hw hp_; have p29 : 0 ≤ (5 : Int) := (by omega); have q29 : (5 : Int) < ((x2_1.length : Int) : Int) := of_decide_eq_true (by first | (with_reducible assumption) | assumption); have qi29 : (5 < x2_1.length) = True := eq_true (by omega); obtain ⟨ce29, hcl29, hM29, hcc29, hfr29⟩ := Kd.R_elem HO_2.out z23 (5 : Int) p29 q29; obtain rfl := k23_openM hM29; have hx29_0 : w45.cell? ⟨go19, (5 : Int).toNat * 4, none⟩ = some (.string ((rd_T23 y181 5).f0)) := hcc29 0 _ rfl; have hx29_1 : w45.cell? ⟨go19, (5 : Int).toNat * 4 + 1, none⟩ = some (.int .i64 ((rd_T23 y181 5).f1)) := hcc29 1 _ rfl; have hx29_2 : w45.cell? ⟨go19, (5 : Int).toNat * 4 + 2, none⟩ = some (.int .i64 ((rd_T23 y181 5).f2)) := hcc29 2 _ rfl; have hx29_3 : w45.cell? ⟨go19, (5 : Int).toNat * 4 + 3, none⟩ = some (.int .i64 ((rd_T23 y181 5).f3)) := hcc29 3 _ rfl; have hf29_0 : w45.frozen? ⟨go19, (5 : Int).toNat * 4, none⟩ = false := hfr29 0; have hf29_1 : w45.frozen? ⟨go19, (5 : Int).toNat * 4 + 1, none⟩ = false := hfr29 1; have hf29_2 : w45.frozen? ⟨go19, (5 : Int).toNat * 4 + 2, none⟩ = false := hfr29 2; have hf29_3 : w45.frozen? ⟨go19, (5 : Int).toNat * 4 + 3, none⟩ = false := hfr29 3; clear hcl29 hcc29 hfr29 hM29; (try rw [show ((5 : Int)).toNat = 5 from rfl] at hx29_0); (try simp only [Nat.reduceMul, Nat.zero_mul, Nat.zero_add, Nat.reduceAdd] at hx29_0); (try rw [show ((5 : Int)).toNat = 5 from rfl] at hf29_0); (try simp only [Nat.reduceMul, Nat.zero_mul, Nat.zero_add, Nat.reduceAdd] at hf29_0); (try rw [show ((5 : Int)).toNat = 5 from rfl] at hx29_1); (try simp only [Nat.reduceMul, Nat.zero_mul, Nat.zero_add, Nat.reduceAdd] at hx29_1); (try rw [show ((5 : Int)).toNat = 5 from rfl] at hf29_1); (try simp only [Nat.reduceMul, Nat.zero_mul, Nat.zero_add, Nat.reduceAdd] at hf29_1); (try rw [show ((5 : Int)).toNat = 5 from rfl] at hx29_2); (try simp only [Nat.reduceMul, Nat.zero_mul, Nat.zero_add, Nat.reduceAdd] at hx29_2); (try rw [show ((5 : Int)).toNat = 5 from rfl] at hf29_2); (try simp only [Nat.reduceMul, Nat.zero_mul, Nat.zero_add, Nat.reduceAdd] at hf29_2); (try rw [show ((5 : Int)).toNat = 5 from rfl] at hx29_3); (try simp only [Nat.reduceMul, Nat.zero_mul, Nat.zero_add, Nat.reduceAdd] at hx29_3); (try rw [show ((5 : Int)).toNat = 5 from rfl] at hf29_3); (try simp only [Nat.reduceMul, Nat.zero_mul, Nat.zero_add, Nat.reduceAdd] at hf29_3); replace p29 := eq_true p29; replace q29 := eq_true q29; have HX46 := Aside0.mk (show Kd.R k23 23 w45 w.heap.size (fun k_ => k_ ≠ gb172) (.slice (some ⟨go19, 0, none⟩) x2_1.length co34) y181 from (by (with_reducible repeat (first | apply Kd.R_alloc | apply Kd.R_drewN | apply Kd.R_drew)); exact HO_2.out)); obtain ⟨ce46, hcl46, hM46, hcc46, hfr46⟩ := Kd.R_elem HX46.out z23 (5 : Int) (by omega) (by have h_ : (5 : Int) < ((x2_1.length : Int) : Int) := of_decide_eq_true (by first | (with_reducible assumption) | assumption); first | exact h_ | (have e_ := (Kd.R_reads' HO_2.out).1; omega) | simpa using h_); obtain rfl := k23_openM hM46; have HP46 := Kd.R_seg HX46.out (5 : Int) (by omega) (by have h_ : (5 : Int) < ((x2_1.length : Int) : Int) := of_decide_eq_true (by first | (with_reducible assumption) | assumption); first | exact h_ | (have e_ := (Kd.R_reads' HO_2.out).1; omega) | simpa using h_) (seg := [.int .i64 514]) (j := 2) hcl46 hcc46 (show 3 ≤ 4 from by decide) (x' := (⟨(rd_T23 y181 5).f0, (rd_T23 y181 5).f1, 514, (rd_T23 y181 5).f3⟩ : S23)) (k23_mkM _ _ _ (⟨(rd_T23 y181 5).f0, (rd_T23 y181 5).f1, 514, (rd_T23 y181 5).f3⟩ : S23) ) (fun _ hk => hk); have hx46_2 := hcc46 2 _ rfl; (try simp only [show (k23).sz = 4 from rfl, Nat.mul_one, Nat.add_zero] at hx46_2); (try rw [show ((5 : Int)).toNat = 5 from rfl] at hx46_2); (try simp only [Nat.reduceMul, Nat.zero_mul, Nat.zero_add, Nat.reduceAdd] at hx46_2); have hf46_2 := hfr46 2; (try simp only [show (k23).sz = 4 from rfl, Nat.mul_one, Nat.add_zero] at hf46_2); (try rw [show ((5 : Int)).toNat = 5 from rfl] at hf46_2); (try simp only [Nat.reduceMul, Nat.zero_mul, Nat.zero_add, Nat.reduceAdd] at hf46_2); clear hcl46 hcc46 hfr46 hM46) | ((with_reducible refine gate_store (t := 3) (p := 50) rfl ?_); refine store_event (t := 3) (p := 50) (v := ?vo_w47) (w1 := (w45.setCell ⟨go19, 22, none⟩ (.int .i64 514))) ?hg ?ho ?hn ?hr ?_; (case ho => rfl); (case hg => rfl); (case hn => rfl); (case hr => first | (go_simp; done) | (go_simp; rfl)); intro w47 hw; have hg : w45.grownBy w47 (some go19) := (by rw [hw]; exact HP46.2); have hp_ : Kd.R k23 23 w47 w.heap.size (fun k_ => k_ ≠ gb172) (.slice (some ⟨go19, 0, none⟩) x2_1.length co34) y182 := (by rw [hw, Ny182.out]; exact HP46.1); clear HP46; have n0_ := Aside0.mk (hp_); have n1_ := Aside0.mk (blk_grown (g := gb172) (o := .cells #[.string x173000_1, .int .i64 x173001_1, .int .i64 x173002_1, .int .i64 x173003_1] 23 (0, 0)) (by (with_reducible repeat (first | refine blk_drewN ?_ _ | refine blk_drew ?_ | refine blk_alloc ?_ _)); exact BK172.out) hg (Kd.R_away HO_2.out (fun _ hk => hk))); have n2_ := Aside0.mk ((by rw [hw]; exact below_set (HB.out) GB19.out : Below w.heap.size w w47)); clear HO_2; clear BK172; clear HB; have HO_2 := n0_; have BK172 := n1_; have HB := n2_; clear n0_ n1_ n2_; clear hg hw hp_; have p31 : 0 ≤ (6 : Int) := (by omega); have q31 : (6 : Int) < ((x2_1.length : Int) : Int) := of_decide_eq_true (by first | (with_reducible assumption) | assumption); have qi31 : (6 < x2_1.length) = True := eq_true (by omega); obtain ⟨ce31, hcl31, hM31, hcc31, hfr31⟩ := Kd.R_elem HO_2.out z23 (6 : Int) p31 q31; obtain rfl := k23_openM hM31; have hx31_0 : w47.cell? ⟨go19, (6 : Int).toNat * 4, none⟩ = some (.string ((rd_T23 y182 6).f0)) := hcc31 0 _ rfl; have hx31_1 : w47.cell? ⟨go19, (6 : Int).toNat * 4 + 1, none⟩ = some (.int .i64 ((rd_T23 y182 6).f1)) := hcc31 1 _ rfl; have hx31_2 : w47.cell? ⟨go19, (6 : Int).toNat * 4 + 2, none⟩ = some (.int .i64 ((rd_T23 y182 6).f2)) := hcc31 2 _ rfl; have hx31_3 : w47.cell? ⟨go19, (6 : Int).toNat * 4 + 3, none⟩ = some (.int .i64 ((rd_T23 y182 6).f3)) := hcc31 3 _ rfl; have hf31_0 : w47.frozen? ⟨go19, (6 : Int).toNat * 4, none⟩ = false := hfr31 0; have hf31_1 : w47.frozen? ⟨go19, (6 : Int).toNat * 4 + 1, none⟩ = false := hfr31 1; have hf31_2 : w47.frozen? ⟨go19, (6 : Int).toNat * 4 + 2, none⟩ = false := hfr31 2; have hf31_3 : w47.frozen? ⟨go19, (6 : Int).toNat * 4 + 3, none⟩ = false := hfr31 3; clear hcl31 hcc31 hfr31 hM31; (try rw [show ((6 : Int)).toNat = 6 from rfl] at hx31_0); (try simp only [Nat.reduceMul, Nat.zero_mul, Nat.zero_add, Nat.reduceAdd] at hx31_0); (try rw [show ((6 : Int)).toNat = 6 from rfl] at hf31_0); (try simp only [Nat.reduceMul, Nat.zero_mul, Nat.zero_add, Nat.reduceAdd] at hf31_0); (try rw [show ((6 : Int)).toNat = 6 from rfl] at hx31_1); (try simp only [Nat.reduceMul, Nat.zero_mul, Nat.zero_add, Nat.reduceAdd] at hx31_1); (try rw [show ((6 : Int)).toNat = 6 from rfl] at hf31_1); (try simp only [Nat.reduceMul, Nat.zero_mul, Nat.zero_add, Nat.reduceAdd] at hf31_1); (try rw [show ((6 : Int)).toNat = 6 from rfl] at hx31_2); (try simp only [Nat.reduceMul, Nat.zero_mul, Nat.zero_add, Nat.reduceAdd] at hx31_2); (try rw [show ((6 : Int)).toNat = 6 from rfl] at hf31_2); (try simp only [Nat.reduceMul, Nat.zero_mul, Nat.zero_add, Nat.reduceAdd] at hf31_2); (try rw [show ((6 : Int)).toNat = 6 from rfl] at hx31_3); (try simp only [Nat.reduceMul, Nat.zero_mul, Nat.zero_add, Nat.reduceAdd] at hx31_3); (try rw [show ((6 : Int)).toNat = 6 from rfl] at hf31_3); (try simp only [Nat.reduceMul, Nat.zero_mul, Nat.zero_add, Nat.reduceAdd] at hf31_3); replace p31 := eq_true p31; replace q31 := eq_true q31; have HX48 := Aside0.mk (show Kd.R k23 23 w47 w.heap.size (fun k_ => k_ ≠ gb172) (.slice (some ⟨go19, 0, none⟩) x2_1.length co34) y182 from (by (with_reducible repeat (first | apply Kd.R_alloc | apply Kd.R_drewN | apply Kd.R_drew)); exact HO_2.out)); obtain ⟨ce48, hcl48, hM48, hcc48, hfr48⟩ := Kd.R_elem HX48.out z23 (6 : Int) (by omega) (by have h_ : (6 : Int) < ((x2_1.length : Int) : Int) := of_decide_eq_true (by first | (with_reducible assumption) | assumption); first | exact h_ | (have e_ := (Kd.R_reads' HO_2.out).1; omega) | simpa using h_); obtain rfl := k23_openM hM48; have HP48 := Kd.R_seg HX48.out (6 : Int) (by omega) (by have h_ : (6 : Int) < ((x2_1.length : Int) : Int) := of_decide_eq_true (by first | (with_reducible assumption) | assumption); first | exact h_ | (have e_ := (Kd.R_reads' HO_2.out).1; omega) | simpa using h_) (seg := [.int .i64 0]) (j := 3) hcl48 hcc48 (show 4 ≤ 4 from by decide) (x' := (⟨(rd_T23 y182 6).f0, (rd_T23 y182 6).f1, (rd_T23 y182 6).f2, 0⟩ : S23)) (k23_mkM _ _ _ (⟨(rd_T23 y182 6).f0, (rd_T23 y182 6).f1, (rd_T23 y182 6).f2, 0⟩ : S23) ) (fun _ hk => hk); have hx48_3 := hcc48 3 _ rfl; (try simp only [show (k23).sz = 4 from rfl, Nat.mul_one, Nat.add_zero] at hx48_3); (try rw [show ((6 : Int)).toNat = 6 from rfl] at hx48_3); (try simp only [Nat.reduceMul, Nat.zero_mul, Nat.zero_add, Nat.reduceAdd] at hx48_3); have hf48_3 := hfr48 3; (try simp only [show (k23).sz = 4 from rfl, Nat.mul_one, Nat.add_zero] at hf48_3); (try rw [show ((6 : Int)).toNat = 6 from rfl] at hf48_3); (try simp only [Nat.reduceMul, Nat.zero_mul, Nat.zero_add, Nat.reduceAdd] at hf48_3); clear hcl48 hcc48 hfr48 hM48) | ((with_reducible refine gate_store (t := 3) (p := 53) rfl ?_); refine store_event (t := 3) (p := 53) (v := ?vo_w49) (w1 := (w47.setCell ⟨go19, 27, none⟩ (.int .i64 0))) ?hg ?ho ?hn ?hr ?_; (case ho => rfl); (case hg => rfl); (case hn => rfl); (case hr => first | (go_simp; done) | (go_simp; rfl)); intro w49 hw; have hg : w47.grownBy w49 (some go19) := (by rw [hw]; exact HP48.2); have hp_ : Kd.R k23 23 w49 w.heap.size (fun k_ => k_ ≠ gb172) (.slice (some ⟨go19, 0, none⟩) x2_1.length co34) y183 := (by rw [hw, Ny183.out]; exact HP48.1); clear HP48; have n0_ := Aside0.mk (hp_); have n1_ := Aside0.mk (blk_grown (g := gb172) (o := .cells #[.string x173000_1, .int .i64 x173001_1, .int .i64 x173002_1, .int .i64 x173003_1] 23 (0, 0)) (by (with_reducible repeat (first | refine blk_drewN ?_ _ | refine blk_drew ?_ | refine blk_alloc ?_ _)); exact BK172.out) hg (Kd.R_away HO_2.out (fun _ hk => hk))); have n2_ := Aside0.mk ((by rw [hw]; exact below_set (HB.out) GB19.out : Below w.heap.size w w49)); clear HO_2; clear BK172; clear HB; have HO_2 := n0_; have BK172 := n1_; have HB := n2_; clear n0_ n1_ n2_; clear hg hw hp_; have p33 : 0 ≤ (7 : Int) := (by omega); have q33 : (7 : Int) < ((x2_1.length : Int) : Int) := of_decide_eq_true (by first | (with_reducible assumption) | assumption); have qi33 : (7 < x2_1.length) = True := eq_true (by omega); obtain ⟨ce33, hcl33, hM33, hcc33, hfr33⟩ := Kd.R_elem HO_2.out z23 (7 : Int) p33 q33; obtain rfl := k23_openM hM33; have hx33_0 : w49.cell? ⟨go19, (7 : Int).toNat * 4, none⟩ = some (.string ((rd_T23 y183 7).f0)) := hcc33 0 _ rfl; have hx33_1 : w49.cell? ⟨go19, (7 : Int).toNat * 4 + 1, none⟩ = some (.int .i64 ((rd_T23 y183 7).f1)) := hcc33 1 _ rfl; have hx33_2 : w49.cell? ⟨go19, (7 : Int).toNat * 4 + 2, none⟩ = some (.int .i64 ((rd_T23 y183 7).f2)) := hcc33 2 _ rfl; have hx33_3 : w49.cell? ⟨go19, (7 : Int).toNat * 4 + 3, none⟩ = some (.int .i64 ((rd_T23 y183 7).f3)) := hcc33 3 _ rfl; have hf33_0 : w49.frozen? ⟨go19, (7 : Int).toNat * 4, none⟩ = false := hfr33 0; have hf33_1 : w49.frozen? ⟨go19, (7 : Int).toNat * 4 + 1, none⟩ = false := hfr33 1; have hf33_2 : w49.frozen? ⟨go19, (7 : Int).toNat * 4 + 2, none⟩ = false := hfr33 2; have hf33_3 : w49.frozen? ⟨go19, (7 : Int).toNat * 4 + 3, none⟩ = false := hfr33 3; clear hcl33 hcc33 hfr33 hM33; (try rw [show ((7 : Int)).toNat = 7 from rfl] at hx33_0); (try simp only [Nat.reduceMul, Nat.zero_mul, Nat.zero_add, Nat.reduceAdd] at hx33_0); (try rw [show ((7 : Int)).toNat = 7 from rfl] at hf33_0); (try simp only [Nat.reduceMul, Nat.zero_mul, Nat.zero_add, Nat.reduceAdd] at hf33_0); (try rw [show ((7 : Int)).toNat = 7 from rfl] at hx33_1); (try simp only [Nat.reduceMul, Nat.zero_mul, Nat.zero_add, Nat.reduceAdd] at hx33_1); (try rw [show ((7 : Int)).toNat = 7 from rfl] at hf33_1); (try simp only [Nat.reduceMul, Nat.zero_mul, Nat.zero_add, Nat.reduceAdd] at hf33_1); (try rw [show ((7 : Int)).toNat = 7 from rfl] at hx33_2); (try simp only [Nat.reduceMul, Nat.zero_mul, Nat.zero_add, Nat.reduceAdd] at hx33_2); (try rw [show ((7 : Int)).toNat = 7 from rfl] at hf33_2); (try simp only [Nat.reduceMul, Nat.zero_mul, Nat.zero_add, Nat.reduceAdd] at hf33_2); (try rw [show ((7 : Int)).toNat = 7 from rfl] at hx33_3); (try simp only [Nat.reduceMul, Nat.zero_mul, Nat.zero_add, Nat.reduceAdd] at hx33_3); (try rw [show ((7 : Int)).toNat = 7 from rfl] at hf33_3); (try simp only [Nat.reduceMul, Nat.zero_mul, Nat.zero_add, Nat.reduceAdd] at hf33_3); replace p33 := eq_true p33; replace q33 := eq_true q33; have HX50 := Aside0.mk (show Kd.R k23 23 w49 w.heap.size (fun k_ => k_ ≠ gb172) (.slice (some ⟨go19, 0, none⟩) x2_1.length co34) y183 from (by (with_reducible repeat (first | apply Kd.R_alloc | apply Kd.R_drewN | apply Kd.R_drew)); exact HO_2.out)); obtain ⟨ce50, hcl50, hM50, hcc50, hfr50⟩ := Kd.R_elem HX50.out z23 (7 : Int) (by omega) (by have h_ : (7 : Int) < ((x2_1.length : Int) : Int) := of_decide_eq_true (by first | (with_reducible assumption) | assumption); first | exact h_ | (have e_ := (Kd.R_reads' HO_2.out).1; omega) | simpa using h_); obtain rfl := k23_openM hM50; have HP50 := Kd.R_seg HX50.out (7 : Int) (by omega) (by have h_ : (7 : Int) < ((x2_1.length : Int) : Int) := of_decide_eq_true (by first | (with_reducible assumption) | assumption); first | exact h_ | (have e_ := (Kd.R_reads' HO_2.out).1; omega) | simpa using h_) (seg := [.int .i64 97]) (j := 3) hcl50 hcc50 (show 4 ≤ 4 from by decide) (x' := (⟨(rd_T23 y183 7).f0, (rd_T23 y183 7).f1, (rd_T23 y183 7).f2, 97⟩ : S23)) (k23_mkM _ _ _ (⟨(rd_T23 y183 7).f0, (rd_T23 y183 7).f1, (rd_T23 y183 7).f2, 97⟩ : S23) ) (fun _ hk => hk); have hx50_3 := hcc50 3 _ rfl; (try simp only [show (k23).sz = 4 from rfl, Nat.mul_one, Nat.add_zero] at hx50_3); (try rw [show ((7 : Int)).toNat = 7 from rfl] at hx50_3); (try simp only [Nat.reduceMul, Nat.zero_mul, Nat.zero_add, Nat.reduceAdd] at hx50_3); have hf50_3 := hfr50 3; (try simp only [show (k23).sz = 4 from rfl, Nat.mul_one, Nat.add_zero] at hf50_3); (try rw [show ((7 : Int)).toNat = 7 from rfl] at hf50_3); (try simp only [Nat.reduceMul, Nat.zero_mul, Nat.zero_add, Nat.reduceAdd] at hf50_3); clear hcl50 hcc50 hfr50 hM50) | ((with_reducible refine gate_store (t := 3) (p := 56) rfl ?_); refine store_event (t := 3) (p := 56) (v := ?vo_w51) (w1 := (w49.setCell ⟨go19, 31, none⟩ (.int .i64 97))) ?hg ?ho ?hn ?hr ?_; (case ho => rfl); (case hg => rfl); (case hn => rfl); (case hr => first | (go_simp; done) | (go_simp; rfl)); intro w51 hw; have hg : w49.grownBy w51 (some go19) := (by rw [hw]; exact HP50.2); have hp_ : Kd.R k23 23 w51 w.heap.size (fun k_ => k_ ≠ gb172) (.slice (some ⟨go19, 0, none⟩) x2_1.length co34) y184 := (by rw [hw, Ny184.out]; exact HP50.1); clear HP50; have n0_ := Aside0.mk (hp_); have n1_ := Aside0.mk (blk_grown (g := gb172) (o := .cells #[.string x173000_1, .int .i64 x173001_1, .int .i64 x173002_1, .int .i64 x173003_1] 23 (0, 0)) (by (with_reducible repeat (first | refine blk_drewN ?_ _ | refine blk_drew ?_ | refine blk_alloc ?_ _)); exact BK172.out) hg (Kd.R_away HO_2.out (fun _ hk => hk))); have n2_ := Aside0.mk ((by rw [hw]; exact below_set (HB.out) GB19.out : Below w.heap.size w w51)); clear HO_2; clear BK172; clear HB; have HO_2 := n0_; have BK172 := n1_; have HB := n2_; clear n0_ n1_ n2_; clear hg hw hp_))
                              go_loopg [4] k1 (fun kq v4 w' => ∃ (x4_2 : Int), v4 = .int .i64 x4_2 ∧ Aside0 (hamperlaw24_SectorNamesR.l1 kq y184 x4_2 x173000_1 x173001_1 x173002_1 x173003_1 = some r) ∧ Aside0 (kq ≤ k1) ∧ Aside0 (Kd.R k23 23 w' w.heap.size (fun k_ => k_ ≠ gb172) (.slice (some ⟨go19, 0, none⟩) x2_1.length co34) y184) ∧ Aside0 (w'.heap[gb172]? = some (.cells #[.string x173000_1, .int .i64 x173001_1, .int .i64 x173002_1, .int .i64 x173003_1] 23 (0, 0))) ∧ Aside0 (Below w.heap.size w w'))
                              case atStart => exact ⟨(0), (by first | rfl | (simp; done) | (simp [*]; done)), H', ⟨Nat.le_refl _⟩, ⟨by (with_reducible repeat (first | apply Kd.R_alloc | apply Kd.R_drewN | apply Kd.R_drew)); exact HO_2.out⟩, ⟨by (with_reducible repeat (first | refine blk_drewN ?_ _ | refine blk_drew ?_ | refine blk_alloc ?_ _)); exact BK172.out⟩, ⟨by repeat (first | (with_reducible first | exact HB.out | apply below_alloc | apply pw_below_drewN | apply below_drew1 | refine below_set ?_ GE172.out) | exact HB.out)⟩⟩
                              case round =>
                                clear H'
                                try clear c1
                                try clear c1b0
                                try clear c1b1
                                try clear p1
                                try clear q1
                                try clear hx1
                                try clear qi1
                                try clear hf1
                                try clear c2
                                try clear c2b0
                                try clear c2b1
                                try clear p2
                                try clear q2
                                try clear hx2
                                try clear qi2
                                try clear hf2
                                try clear c3
                                try clear p3
                                try clear q3
                                try clear hx3
                                try clear qi3
                                try clear hf3
                                try clear c4
                                try clear hx4
                                try clear hf4
                                try clear c5
                                try clear hx5
                                try clear hcv5
                                try clear hf5
                                try clear p6
                                try clear c7
                                try clear c10
                                try clear c10b0
                                try clear c11
                                try clear c11b0
                                try clear c12
                                try clear p12
                                try clear q12
                                try clear hx12
                                try clear hf12
                                try clear c15
                                try clear hx15
                                try clear hf15
                                try clear c17
                                try clear c17b0
                                try clear c17b1
                                try clear c18
                                try clear c18b0
                                try clear c18b1
                                try clear c19
                                try clear p19
                                try clear q19
                                try clear hx19
                                try clear qi19
                                try clear hf19
                                try clear c20
                                try clear c20b0
                                try clear c20b1
                                try clear c21
                                try clear p21
                                try clear q21
                                try clear hx21
                                try clear qi21
                                try clear hf21
                                try clear c22
                                try clear c22b0
                                try clear c22b1
                                try clear c23
                                try clear p23
                                try clear q23
                                try clear hx23
                                try clear qi23
                                try clear hf23
                                try clear c24
                                try clear c24b0
                                try clear c24b1
                                try clear c25
                                try clear p25
                                try clear q25
                                try clear hx25
                                try clear qi25
                                try clear hf25
                                try clear c26
                                try clear c26b0
                                try clear c26b1
                                try clear c27
                                try clear p27
                                try clear q27
                                try clear hx27
                                try clear qi27
                                try clear hf27
                                try clear c28
                                try clear c28b0
                                try clear c28b1
                                try clear c29
                                try clear p29
                                try clear q29
                                try clear hx29
                                try clear qi29
                                try clear hf29
                                try clear c30
                                try clear c30b0
                                try clear c30b1
                                try clear c31
                                try clear p31
                                try clear q31
                                try clear hx31
                                try clear qi31
                                try clear hf31
                                try clear c32
                                try clear c32b0
                                try clear c32b1
                                try clear c33
                                try clear p33
                                try clear q33
                                try clear hx33
                                try clear qi33
                                try clear hf33
                                try clear c36
                                try clear hx36
                                try clear hf36
                                try clear c38
                                try clear hx38
                                try clear hf38
                                try clear c40
                                try clear hx40
                                try clear hf40
                                try clear c42
                                try clear hx42
                                try clear hf42
                                try clear c44
                                try clear hx44
                                try clear hf44
                                try clear c46
                                try clear hx46
                                try clear hf46
                                try clear c48
                                try clear hx48
                                try clear hf48
                                try clear c50
                                try clear hx50
                                try clear hf50
                                try clear hcz14_0
                                try clear hcz14_1
                                try clear hcz14_2
                                try clear hcz14_3
                                try clear hcz35_0
                                try clear hcz35_1
                                try clear hcz35_2
                                try clear hcz35_3
                                try clear hcz7_0
                                try clear hcz7_1
                                try clear hcz7_2
                                try clear hcz7_3
                                try clear hfz14_0
                                try clear hfz14_1
                                try clear hfz14_2
                                try clear hfz14_3
                                try clear hfz35_0
                                try clear hfz35_1
                                try clear hfz35_2
                                try clear hfz35_3
                                try clear hfz7_0
                                try clear hfz7_1
                                try clear hfz7_2
                                try clear hfz7_3
                                try clear hx12_0
                                try clear hx12_1
                                try clear hx12_2
                                try clear hx12_3
                                try clear hx15_0
                                try clear hx15_1
                                try clear hx15_2
                                try clear hx15_3
                                try clear hx19_0
                                try clear hx19_1
                                try clear hx19_2
                                try clear hx19_3
                                try clear hx21_0
                                try clear hx21_1
                                try clear hx21_2
                                try clear hx21_3
                                try clear hx23_0
                                try clear hx23_1
                                try clear hx23_2
                                try clear hx23_3
                                try clear hx25_0
                                try clear hx25_1
                                try clear hx25_2
                                try clear hx25_3
                                try clear hx27_0
                                try clear hx27_1
                                try clear hx27_2
                                try clear hx27_3
                                try clear hx29_0
                                try clear hx29_1
                                try clear hx29_2
                                try clear hx29_3
                                try clear hx31_0
                                try clear hx31_1
                                try clear hx31_2
                                try clear hx31_3
                                try clear hx33_0
                                try clear hx33_1
                                try clear hx33_2
                                try clear hx33_3
                                try clear hx36_0
                                try clear hx38_1
                                try clear hx40_1
                                try clear hx42_2
                                try clear hx44_2
                                try clear hx46_2
                                try clear hx48_3
                                try clear hx50_3
                                try clear p12
                                try clear p19
                                try clear p2
                                try clear p21
                                try clear p23
                                try clear p25
                                try clear p27
                                try clear p29
                                try clear p31
                                try clear p33
                                try clear q12
                                try clear q19
                                try clear q21
                                try clear q23
                                try clear q25
                                try clear q27
                                try clear q29
                                try clear q31
                                try clear q33
                                obtain ⟨x4_2, rfl, HA, HK2, HO_2, BK172, HB⟩ := hrel
                                have hl2_2 := (Kd.R_reads' HO_2.out).1
                                rw [hl2_2] at HO_2
                                (try simp only [hl2_2])
                                (try simp only [hl2_2] at BK172)
                                cases gk with
                                | zero => exact absurd HA.out (by simp [hamperlaw24_SectorNamesR.l1])
                                | succ k2 =>
                                  have H := HA.out
                                  clear HA
                                  simp only [hamperlaw24_SectorNamesR.l1] at H
                                  by_cases c52 : x4_2 < (y184.length : Int)
                                  · rw [if_pos c52] at H
                                    have c52b0 : decide (x4_2 < (y184.length : Int)) = true := decide_eq_true c52
                                    clear c52
                                    by_cases c53 : 0 ≤ x4_2
                                    · rw [if_pos c53] at H
                                      have c53b0 : decide (0 ≤ x4_2) = true := decide_eq_true c53
                                      clear c53
                                      obtain ⟨ji54, hji54⟩ : ∃ j_ : Int, (mx 0 ((rd_T23 y184 x4_2).f3)) = j_ := ⟨_, rfl⟩
                                      replace H : (if 0 ≤ (ji54) then (if (ji54 : Int).toNat ≤ 17592186044416 then ((sector_Join.f k2 ((rd_T23 y184 x4_2).f0) ((rd_T23 y184 x4_2).f1) ((rd_T23 y184 x4_2).f2) ((rd_T23 y184 x4_2).f3) (List.replicate (ji54 : Int).toNat (⟨#[]⟩ : ByteArray))).bind fun bt190 => ((sector_Cut.f k2 ((rd_T23 y184 x4_2).f0) ((rd_T23 y184 x4_2).f1) ((rd_T23 y184 x4_2).f2) ((rd_T23 y184 x4_2).f3) (⟨#[]⟩ : ByteArray)).bind fun bt193 => ((sector_May.f ((rd_T23 y184 x4_2).f0) ((rd_T23 y184 x4_2).f1) ((rd_T23 y184 x4_2).f2) ((rd_T23 y184 x4_2).f3)).bind fun t201 => (if t201 = true then (some false) else (if bt190.2 = 1 then (if bt193.2.2 = 1 then (hamperlaw24_SectorNamesR.l1 k2 y184 (wrap64 (x4_2 + 1)) x173000_1 x173001_1 x173002_1 x173003_1) else (some false)) else (some false)))))) else (none)) else (none)) = some r := by first | (rw [hji54] at H; exact H) | (simp only [hji54] at H ⊢; exact H)
                                      have hji54_ : (if 0 < ((rd_T23 y184 x4_2).f3) then ((rd_T23 y184 x4_2).f3) else 0) = ji54 := hji54
                                      by_cases c55 : 0 ≤ (ji54)
                                      · rw [if_pos c55] at H
                                        have c55b0 := eq_true c55
                                        have c55b1 : decide (0 ≤ (ji54)) = true := decide_eq_true c55
                                        clear c55
                                        by_cases c56 : (ji54 : Int).toNat ≤ 17592186044416
                                        · rw [if_pos c56] at H
                                          have c56b0 := eq_true c56
                                          have c56b1 : decide ((ji54 : Int).toNat ≤ 17592186044416) = true := decide_eq_true c56
                                          clear c56
                                          obtain ⟨y187, hy187⟩ : ∃ y_ : List ByteArray, y_ = (List.replicate (ji54 : Int).toNat (⟨#[]⟩ : ByteArray)) := ⟨_, rfl⟩
                                          replace H : ((sector_Join.f k2 ((rd_T23 y184 x4_2).f0) ((rd_T23 y184 x4_2).f1) ((rd_T23 y184 x4_2).f2) ((rd_T23 y184 x4_2).f3) y187).bind fun bt190 => ((sector_Cut.f k2 ((rd_T23 y184 x4_2).f0) ((rd_T23 y184 x4_2).f1) ((rd_T23 y184 x4_2).f2) ((rd_T23 y184 x4_2).f3) (⟨#[]⟩ : ByteArray)).bind fun bt193 => ((sector_May.f ((rd_T23 y184 x4_2).f0) ((rd_T23 y184 x4_2).f1) ((rd_T23 y184 x4_2).f2) ((rd_T23 y184 x4_2).f3)).bind fun t201 => (if t201 = true then (some false) else (if bt190.2 = 1 then (if bt193.2.2 = 1 then (hamperlaw24_SectorNamesR.l1 k2 y184 (wrap64 (x4_2 + 1)) x173000_1 x173001_1 x173002_1 x173003_1) else (some false)) else (some false)))))) = some r := by first | (rw [hy187]; with_reducible exact H) | (have H2_ := (Option.bind_some _ _).symm.trans H; rw [hy187]; with_reducible exact H2_) | (have H2_ := (Option.bind_some _ _).symm.trans H; with_reducible exact H2_) | with_reducible exact H | (rw [hy187]; exact H) | exact H
                                          have Ny187 := Aside0.mk hy187
                                          clear hy187
                                          replace H := Option.bind_eq_some_iff.mp H
                                          obtain ⟨⟨t190, t191⟩, A570, H⟩ := H
                                          replace H : ((sector_Cut.f k2 ((rd_T23 y184 x4_2).f0) ((rd_T23 y184 x4_2).f1) ((rd_T23 y184 x4_2).f2) ((rd_T23 y184 x4_2).f3) (⟨#[]⟩ : ByteArray)).bind fun bt193 => ((sector_May.f ((rd_T23 y184 x4_2).f0) ((rd_T23 y184 x4_2).f1) ((rd_T23 y184 x4_2).f2) ((rd_T23 y184 x4_2).f3)).bind fun t201 => (if t201 = true then (some false) else (if t191 = 1 then (if bt193.2.2 = 1 then (hamperlaw24_SectorNamesR.l1 k2 y184 (wrap64 (x4_2 + 1)) x173000_1 x173001_1 x173002_1 x173003_1) else (some false)) else (some false))))) = some r := H
                                          have A57 := Aside0.mk A570
                                          clear A570
                                          replace H := Option.bind_eq_some_iff.mp H
                                          obtain ⟨⟨t193, t196, t199⟩, A580, H⟩ := H
                                          replace H : ((sector_May.f ((rd_T23 y184 x4_2).f0) ((rd_T23 y184 x4_2).f1) ((rd_T23 y184 x4_2).f2) ((rd_T23 y184 x4_2).f3)).bind fun t201 => (if t201 = true then (some false) else (if t191 = 1 then (if t199 = 1 then (hamperlaw24_SectorNamesR.l1 k2 y184 (wrap64 (x4_2 + 1)) x173000_1 x173001_1 x173002_1 x173003_1) else (some false)) else (some false)))) = some r := H
                                          have A58 := Aside0.mk A580
                                          clear A580
                                          replace H := Option.bind_eq_some_iff.mp H
                                          obtain ⟨t201, A590, H⟩ := H
                                          replace H : (if t201 = true then (some false) else (if t191 = 1 then (if t199 = 1 then (hamperlaw24_SectorNamesR.l1 k2 y184 (wrap64 (x4_2 + 1)) x173000_1 x173001_1 x173002_1 x173003_1) else (some false)) else (some false))) = some r := H
                                          have A59 := Aside0.mk A590
                                          clear A590
                                          by_cases c60 : t201 = true
                                          · subst c60
                                            have H1 : (some false) = some r := by rw [if_pos rfl] at H; exact H
                                            clear H
                                            have H := H1
                                            clear H1
                                            obtain rfl := Option.some.inj H
                                            clear hr_
                                            try go_wp2
                                            have n0_ := Aside0.mk (Kd.R_drew HO_2.out)
                                            have n1_ := Aside0.mk (blk_drew BK172.out)
                                            have n2_ := Aside0.mk (below_drew1 HB.out)
                                            clear HO_2
                                            clear BK172
                                            clear HB
                                            have HO_2 := n0_
                                            have BK172 := n1_
                                            have HB := n2_
                                            clear n0_ n1_ n2_
                                            have p185 : 0 ≤ (x4_2 : Int) := of_decide_eq_true (by first | (with_reducible assumption) | assumption)
                                            have q185 : x4_2 < (y184.length : Int) := of_decide_eq_true (by first | (with_reducible assumption) | assumption)
                                            obtain ⟨ad185, e185, hx185_0, hx185_1, hx185_2, hx185_3⟩ := at_T23 (Kd.R_reads' HO_2.out).2.2 x4_2 p185 q185
                                            obtain rfl : (⟨go19, 0, none⟩ : Addr) = ad185 := (by injection e185)
                                            (first | simp only [add_plain] at hx185_0 | simp only [add_at] at hx185_0 | simp only [Addr.add, Nat.zero_add] at hx185_0 | skip)
                                            (first | simp only [add_plain] at hx185_1 | simp only [add_at] at hx185_1 | simp only [Addr.add, Nat.zero_add] at hx185_1 | skip)
                                            (first | simp only [add_plain] at hx185_2 | simp only [add_at] at hx185_2 | simp only [Addr.add, Nat.zero_add] at hx185_2 | skip)
                                            (first | simp only [add_plain] at hx185_3 | simp only [add_at] at hx185_3 | simp only [Addr.add, Nat.zero_add] at hx185_3 | skip)
                                            replace p185 := eq_true p185
                                            replace q185 := eq_true q185
                                            have p186 : 0 ≤ (x4_2 : Int) := of_decide_eq_true (by first | (with_reducible assumption) | assumption)
                                            have q186 : x4_2 < (y184.length : Int) := of_decide_eq_true (by first | (with_reducible assumption) | assumption)
                                            obtain ⟨ad186, e186, hx186_0, hx186_1, hx186_2, hx186_3⟩ := at_T23 (Kd.R_reads' HO_2.out).2.2 x4_2 p186 q186
                                            obtain rfl : (⟨go19, 0, none⟩ : Addr) = ad186 := (by injection e186)
                                            (first | simp only [add_plain] at hx186_0 | simp only [add_at] at hx186_0 | simp only [Addr.add, Nat.zero_add] at hx186_0 | skip)
                                            (first | simp only [add_plain] at hx186_1 | simp only [add_at] at hx186_1 | simp only [Addr.add, Nat.zero_add] at hx186_1 | skip)
                                            (first | simp only [add_plain] at hx186_2 | simp only [add_at] at hx186_2 | simp only [Addr.add, Nat.zero_add] at hx186_2 | skip)
                                            (first | simp only [add_plain] at hx186_3 | simp only [add_at] at hx186_3 | simp only [Addr.add, Nat.zero_add] at hx186_3 | skip)
                                            replace p186 := eq_true p186
                                            replace q186 := eq_true q186
                                            refine start_ (n := 17) (S := fun w' => w'.cell? ⟨go19, (x4_2).toNat * 4, none⟩ = some (.string ((rd_T23 y184 x4_2).f0)) ∧ w'.cell? ⟨go19, (x4_2).toNat * 4 + 1, none⟩ = some (.int .i64 ((rd_T23 y184 x4_2).f1)) ∧ w'.cell? ⟨go19, (x4_2).toNat * 4 + 2, none⟩ = some (.int .i64 ((rd_T23 y184 x4_2).f2)) ∧ w'.cell? ⟨go19, (x4_2).toNat * 4 + 3, none⟩ = some (.int .i64 ((rd_T23 y184 x4_2).f3)) ∧ w'.cell? ⟨go19, (x4_2).toNat * 4, none⟩ = some (.string ((rd_T23 y184 x4_2).f0)) ∧ w'.cell? ⟨go19, (x4_2).toNat * 4 + 1, none⟩ = some (.int .i64 ((rd_T23 y184 x4_2).f1)) ∧ w'.cell? ⟨go19, (x4_2).toNat * 4 + 2, none⟩ = some (.int .i64 ((rd_T23 y184 x4_2).f2)) ∧ w'.cell? ⟨go19, (x4_2).toNat * 4 + 3, none⟩ = some (.int .i64 ((rd_T23 y184 x4_2).f3))) (ds := []) #[false, false, false, false, false, false, false, false, false, false, false, false, false, false, false, false, false] (by kernel_rfl) rfl rfl ⟨hx185_0, hx185_1, hx185_2, hx185_3, hx186_0, hx186_1, hx186_2, hx186_3⟩ (fun hHeld => ?_); refine with_tabW hamperlaw24_SectorNamesR.tab18 hamperlaw24_SectorNamesR.bits18 (fun HT_ HW_ => ?_)
                                            generalize wr.drew = w61 at HO_2 BK172 HB hx185_0 hx185_1 hx185_2 hx185_3 hx186_0 hx186_1 hx186_2 hx186_3 hHeld ⊢
                                            refine pure_ (i := 0) (N := some 64) (v := ?_) (a' := ?_) #[true, false, false, false, false, false, false, false, false, false, false, false, false, false, false, false, false] rfl rfl (any_of HT_.out (by kernel_rfl)) (fun _ _ _ h => h) (Or.inl ⟨by rfl, ?_⟩) ?_ ?_
                                            rotate_left
                                            · intro w'
                                              go_simp
                                              with_reducible rfl
                                            rotate_left
                                            · simp only [Act.put, List.setIfInBounds_toArray, List.set_cons_zero, List.set_cons_succ, i64_w, i32_w]
                                              rfl
                                            refine pure_ (i := 1) (N := some 65) (v := ?_) (a' := ?_) #[true, true, false, false, false, false, false, false, false, false, false, false, false, false, false, false, false] rfl rfl (any_of HT_.out (by kernel_rfl)) (fun _ _ _ h => h) (Or.inl ⟨by rfl, ?_⟩) ?_ ?_
                                            rotate_left
                                            · intro w'
                                              go_simp
                                              with_reducible rfl
                                            rotate_left
                                            · simp only [Act.put, List.setIfInBounds_toArray, List.set_cons_zero, List.set_cons_succ, i64_w, i32_w]
                                              rfl
                                            refine pure_ (i := 2) (N := some 66) (v := ?_) (a' := ?_) #[true, true, true, false, false, false, false, false, false, false, false, false, false, false, false, false, false] rfl rfl (any_of HT_.out (by kernel_rfl)) (fun _ _ _ h => h) (Or.inl ⟨by rfl, ?_⟩) ?_ ?_
                                            rotate_left
                                            · intro w'
                                              go_simp
                                              with_reducible rfl
                                            rotate_left
                                            · simp only [Act.put, List.setIfInBounds_toArray, List.set_cons_zero, List.set_cons_succ, i64_w, i32_w]
                                              rfl
                                            refine pure_ (i := 4) (N := some 68) (v := ?_) (a' := ?_) #[true, true, true, false, true, false, false, false, false, false, false, false, false, false, false, false, false] rfl rfl (any_of HT_.out (by kernel_rfl)) (fun _ _ _ h => h) (Or.inl ⟨by rfl, ?_⟩) ?_ ?_
                                            rotate_left
                                            · intro w'
                                              go_simp
                                              with_reducible rfl
                                            rotate_left
                                            · simp only [Act.put, List.setIfInBounds_toArray, List.set_cons_zero, List.set_cons_succ, i64_w, i32_w]
                                              rfl
                                            refine pure_ (i := 5) (N := some 69) (v := ?_) (a' := ?_) #[true, true, true, false, true, true, false, false, false, false, false, false, false, false, false, false, false] rfl rfl (any_of HT_.out (by kernel_rfl)) (fun _ _ _ h => h) (Or.inl ⟨by rfl, ?_⟩) ?_ ?_
                                            rotate_left
                                            · intro w'
                                              go_simp
                                              with_reducible rfl
                                            rotate_left
                                            · simp only [Act.put, List.setIfInBounds_toArray, List.set_cons_zero, List.set_cons_succ, i64_w, i32_w]
                                              rfl
                                            refine pure_ (i := 6) (N := some 70) (v := ?_) (a' := ?_) #[true, true, true, false, true, true, true, false, false, false, false, false, false, false, false, false, false] rfl rfl (any_of HT_.out (by kernel_rfl)) (fun _ _ _ h => h) (Or.inl ⟨by rfl, ?_⟩) ?_ ?_
                                            rotate_left
                                            · intro w'
                                              go_simp
                                              with_reducible rfl
                                            rotate_left
                                            · simp only [Act.put, List.setIfInBounds_toArray, List.set_cons_zero, List.set_cons_succ, i64_w, i32_w]
                                              rfl
                                            refine pure_ (i := 7) (N := some 71) (v := ?_) (a' := ?_) #[true, true, true, false, true, true, true, true, false, false, false, false, false, false, false, false, false] rfl rfl (any_of HT_.out (by kernel_rfl)) (fun _ _ _ h => h) (Or.inl ⟨by rfl, ?_⟩) ?_ ?_
                                            rotate_left
                                            · intro w'
                                              go_simp
                                              with_reducible rfl
                                            rotate_left
                                            · simp only [Act.put, List.setIfInBounds_toArray, List.set_cons_zero, List.set_cons_succ, i64_w, i32_w]
                                              rfl
                                            refine take_ (i := 3) (N := some 67) (v := ?_) (a' := ?_) #[true, true, true, true, true, true, true, true, false, false, false, false, false, false, false, false, false] rfl rfl (take_ofW HT_.out HW_.out (by kernel_rfl)) (fun _ _ _ h => h) (Or.inl ⟨by rfl, ?_⟩) hHeld ?_ ?_
                                            rotate_left
                                            · rintro w' ⟨s0, s1, s2, s3, s4, s5, s6, s7⟩
                                              go_simp
                                              with_reducible rfl
                                            rotate_left
                                            · simp only [Act.put, List.setIfInBounds_toArray, List.set_cons_zero, List.set_cons_succ, i64_w, i32_w]
                                              rfl
                                            refine take_ (i := 8) (N := some 72) (v := ?_) (a' := ?_) #[true, true, true, true, true, true, true, true, true, false, false, false, false, false, false, false, false] rfl rfl (take_ofW HT_.out HW_.out (by kernel_rfl)) (fun _ _ _ h => h) (Or.inl ⟨by rfl, ?_⟩) hHeld ?_ ?_
                                            rotate_left
                                            · rintro w' ⟨s0, s1, s2, s3, s4, s5, s6, s7⟩
                                              go_simp
                                              with_reducible rfl
                                            rotate_left
                                            · simp only [Act.put, List.setIfInBounds_toArray, List.set_cons_zero, List.set_cons_succ, i64_w, i32_w]
                                              rfl
                                            refine pure_ (i := 9) (N := some 73) (v := ?_) (a' := ?_) #[true, true, true, true, true, true, true, true, true, true, false, false, false, false, false, false, false] rfl rfl (any_of HT_.out (by kernel_rfl)) (fun _ _ _ h => h) (Or.inl ⟨by rfl, ?_⟩) ?_ ?_
                                            rotate_left
                                            · intro w'
                                              go_simp
                                              with_reducible rfl
                                            rotate_left
                                            · simp only [Act.put, List.setIfInBounds_toArray, List.set_cons_zero, List.set_cons_succ, i64_w, i32_w]
                                              rfl
                                            refine one_ (i := 10) (N := some 74) #[true, true, true, true, true, true, true, true, true, true, true, false, false, false, false, false, false] rfl rfl (one_of HT_.out (by kernel_rfl)) (by decide) (fun K hK => ?_)
                                            refine Kd.R_make_step Kd.string _ 9 (by rfl) (N := 74) rfl 24 _ _ rfl ji54 rfl rfl Try.underlying24 (.string ⟨#[]⟩) 16 info9 rfl (by decide) (by omega) (⟨#[]⟩ : ByteArray) (ok := fun _ => True) (okp := fun _ => True) rfl (fun _ hk => hk) trivial (of_decide_eq_true (by first | (with_reducible assumption) | assumption)) (Nat.le_trans (Nat.mul_le_mul_right _ (of_decide_eq_true (by first | (with_reducible assumption) | assumption) : ji54.toNat ≤ 17592186044416)) (by omega)) (Below.refl _ _) (Nat.le_refl _) ?_
                                            intro v188 w62 ho63 hb hg_ hnew_
                                            have HS0_ := (hb.cell (World.block_lt_of_cell? _ _ (hHeld.1))).trans (hHeld.1)
                                            have HS1_ := (hb.cell (World.block_lt_of_cell? _ _ (hHeld.2.1))).trans (hHeld.2.1)
                                            have HS2_ := (hb.cell (World.block_lt_of_cell? _ _ (hHeld.2.2.1))).trans (hHeld.2.2.1)
                                            have HS3_ := (hb.cell (World.block_lt_of_cell? _ _ (hHeld.2.2.2.1))).trans (hHeld.2.2.2.1)
                                            have HS4_ := (hb.cell (World.block_lt_of_cell? _ _ (hHeld.2.2.2.2.1))).trans (hHeld.2.2.2.2.1)
                                            have HS5_ := (hb.cell (World.block_lt_of_cell? _ _ (hHeld.2.2.2.2.2.1))).trans (hHeld.2.2.2.2.2.1)
                                            have HS6_ := (hb.cell (World.block_lt_of_cell? _ _ (hHeld.2.2.2.2.2.2.1))).trans (hHeld.2.2.2.2.2.2.1)
                                            have HS7_ := (hb.cell (World.block_lt_of_cell? _ _ (hHeld.2.2.2.2.2.2.2))).trans (hHeld.2.2.2.2.2.2.2)
                                            clear hg_ hnew_
                                            (first | rw [← Ny187.out] at ho63 | (simp only [Int.reduceToNat] at ho63; rw [← Ny187.out] at ho63))
                                            have n0_ := Aside0.mk (Kd.R_below (by (with_reducible repeat (first | apply Kd.R_alloc | apply Kd.R_drewN | apply Kd.R_drew)); exact HO_2.out) hb)
                                            have n1_ := Aside0.mk (Kd.R_lower ho63 (below_size (by repeat (first | (with_reducible first | exact HB.out | apply below_alloc | apply pw_below_drewN | apply below_drew1 | refine below_set ?_ GE172.out) | exact HB.out))))
                                            have n2_ := Aside0.mk (blk_below (g := gb172) (o := .cells #[.string x173000_1, .int .i64 x173001_1, .int .i64 x173002_1, .int .i64 x173003_1] 23 (0, 0)) (by (with_reducible repeat (first | refine blk_drewN ?_ _ | refine blk_drew ?_ | refine blk_alloc ?_ _)); exact BK172.out) hb)
                                            have n3_ := Aside0.mk (below_step (by repeat (first | (with_reducible first | exact HB.out | apply below_alloc | apply pw_below_drewN | apply below_drew1 | refine below_set ?_ GE172.out) | exact HB.out)) hb)
                                            clear HO_2
                                            clear BK172
                                            clear HB
                                            have HO_2 := n0_
                                            have HO189 := n1_
                                            have BK172 := n2_
                                            have HB := n3_
                                            clear n0_ n1_ n2_ n3_
                                            clear hb ho63
                                            obtain ⟨Ao64, co64, eo64⟩ := Kd.R_slice HO189.out
                                            (first | subst eo64 | (injection eo64 with f1_ f2_ f3_; have f4_ := f1_.symm; have f5_ := f3_.symm; clear f1_ f2_ f3_; subst f4_; subst f5_))
                                            refine hK.out _ _ ⟨HS0_, HS1_, HS2_, HS3_, HS4_, HS5_, HS6_, HS7_⟩ (fun hHeld => ?_)
                                            clear hK K
                                            refine norm_ (a' := ?_) ?_ ?_
                                            rotate_left
                                            · show Act.put _ (some 74) _ = _
                                              simp only [Act.put, List.setIfInBounds_toArray, List.set_cons_zero, List.set_cons_succ, i64_w, i32_w]
                                              rfl
                                            refine one_ (i := 11) (N := some 75) #[true, true, true, true, true, true, true, true, true, true, true, true, false, false, false, false, false] rfl rfl (one_of HT_.out (by kernel_rfl)) (by decide) (fun K hK => ?_)
                                            refine goes_ Try.func10 (by kernel_rfl) rfl #[.agg #[.string ((rd_T23 y184 x4_2).f0), .int .i64 ((rd_T23 y184 x4_2).f1), .int .i64 ((rd_T23 y184 x4_2).f2), .int .i64 ((rd_T23 y184 x4_2).f3)], .slice Ao64 y187.length co64] (by rfl) rfl rfl (by (try simp only [List.map_toArray, List.map_cons, List.map_nil]); first | done | rfl | (simp only [List.length_drop, List.length_take]; rfl)) ?_
                                            with_reducible refine (sector_Join.calls k2 ((rd_T23 y184 x4_2).f0) ((rd_T23 y184 x4_2).f1) ((rd_T23 y184 x4_2).f2) ((rd_T23 y184 x4_2).f3) _ _ y187 t190 t191 _ ?side1 ?side2 A57.out).mono ?_
                                            (case side1 => repeat (first | exact (Kd.R_reads' HO189.out).2.2 | (with_reducible refine Kd.C_alloc ?_ _) | (with_reducible refine Kd.C_drewN ?_ _) | (with_reducible refine Kd.C_drew ?_)))
                                            (case side2 => exact (Kd.R_reads' HO189.out).2.1)
                                            rintro e w65 ⟨rfl, hb⟩
                                            have HS0_ := (hb.cell (World.block_lt_of_cell? _ _ (hHeld.1))).trans (hHeld.1)
                                            have HS1_ := (hb.cell (World.block_lt_of_cell? _ _ (hHeld.2.1))).trans (hHeld.2.1)
                                            have HS2_ := (hb.cell (World.block_lt_of_cell? _ _ (hHeld.2.2.1))).trans (hHeld.2.2.1)
                                            have HS3_ := (hb.cell (World.block_lt_of_cell? _ _ (hHeld.2.2.2.1))).trans (hHeld.2.2.2.1)
                                            have HS4_ := (hb.cell (World.block_lt_of_cell? _ _ (hHeld.2.2.2.2.1))).trans (hHeld.2.2.2.2.1)
                                            have HS5_ := (hb.cell (World.block_lt_of_cell? _ _ (hHeld.2.2.2.2.2.1))).trans (hHeld.2.2.2.2.2.1)
                                            have HS6_ := (hb.cell (World.block_lt_of_cell? _ _ (hHeld.2.2.2.2.2.2.1))).trans (hHeld.2.2.2.2.2.2.1)
                                            have HS7_ := (hb.cell (World.block_lt_of_cell? _ _ (hHeld.2.2.2.2.2.2.2))).trans (hHeld.2.2.2.2.2.2.2)
                                            refine ⟨_, rfl, ?_⟩
                                            have n0_ := Aside0.mk (Kd.R_below (by (with_reducible repeat (first | apply Kd.R_alloc | apply Kd.R_drewN | apply Kd.R_drew)); exact HO_2.out) hb)
                                            have n1_ := Aside0.mk (Kd.R_below (by (with_reducible repeat (first | apply Kd.R_alloc | apply Kd.R_drewN | apply Kd.R_drew)); exact HO189.out) hb)
                                            have n2_ := Aside0.mk (blk_below (g := gb172) (o := .cells #[.string x173000_1, .int .i64 x173001_1, .int .i64 x173002_1, .int .i64 x173003_1] 23 (0, 0)) (by (with_reducible repeat (first | refine blk_drewN ?_ _ | refine blk_drew ?_ | refine blk_alloc ?_ _)); exact BK172.out) hb)
                                            have n3_ := Aside0.mk (below_step (by repeat (first | (with_reducible first | exact HB.out | apply below_alloc | apply pw_below_drewN | apply below_drew1 | refine below_set ?_ GE172.out) | exact HB.out)) hb)
                                            clear HO_2
                                            clear HO189
                                            clear BK172
                                            clear HB
                                            have HO_2 := n0_
                                            have HO189 := n1_
                                            have BK172 := n2_
                                            have HB := n3_
                                            clear n0_ n1_ n2_ n3_
                                            (try clear hb)
                                            (try clear hb2)
                                            (try clear hk)
                                            (try clear hi)
                                            refine hK.out _ _ ⟨HS0_, HS1_, HS2_, HS3_, HS4_, HS5_, HS6_, HS7_⟩ (fun hHeld => ?_)
                                            clear hK K
                                            refine norm_ (a' := ?_) ?_ ?_
                                            rotate_left
                                            · show Act.put _ (some 75) _ = _
                                              simp only [Act.put, List.setIfInBounds_toArray, List.set_cons_zero, List.set_cons_succ, i64_w, i32_w]
                                              rfl
                                            refine pure_ (i := 12) (N := some 63) (v := ?_) (a' := ?_) #[true, true, true, true, true, true, true, true, true, true, true, true, true, false, false, false, false] rfl rfl (any_of HT_.out (by kernel_rfl)) (fun _ _ _ h => h) (Or.inl ⟨by rfl, ?_⟩) ?_ ?_
                                            rotate_left
                                            · intro w'
                                              go_simp
                                              with_reducible rfl
                                            rotate_left
                                            · simp only [Act.put, List.setIfInBounds_toArray, List.set_cons_zero, List.set_cons_succ, i64_w, i32_w]
                                              rfl
                                            refine pure_ (i := 13) (N := some 76) (v := ?_) (a' := ?_) #[true, true, true, true, true, true, true, true, true, true, true, true, true, true, false, false, false] rfl rfl (any_of HT_.out (by kernel_rfl)) (fun _ _ _ h => h) (Or.inl ⟨by rfl, ?_⟩) ?_ ?_
                                            rotate_left
                                            · intro w'
                                              go_simp
                                              with_reducible rfl
                                            rotate_left
                                            · simp only [Act.put, List.setIfInBounds_toArray, List.set_cons_zero, List.set_cons_succ, i64_w, i32_w]
                                              rfl
                                            refine pure_ (i := 14) (N := some 77) (v := ?_) (a' := ?_) #[true, true, true, true, true, true, true, true, true, true, true, true, true, true, true, false, false] rfl rfl (any_of HT_.out (by kernel_rfl)) (fun _ _ _ h => h) (Or.inl ⟨by rfl, ?_⟩) ?_ ?_
                                            rotate_left
                                            · intro w'
                                              go_simp
                                              with_reducible rfl
                                            rotate_left
                                            · simp only [Act.put, List.setIfInBounds_toArray, List.set_cons_zero, List.set_cons_succ, i64_w, i32_w]
                                              rfl
                                            refine pure_ (i := 15) (N := some 5) (v := ?_) (a' := ?_) #[true, true, true, true, true, true, true, true, true, true, true, true, true, true, true, true, false] rfl rfl (any_of HT_.out (by kernel_rfl)) (fun _ _ _ h => h) (Or.inl ⟨by rfl, ?_⟩) ?_ ?_
                                            rotate_left
                                            · intro w'
                                              go_simp
                                              with_reducible rfl
                                            rotate_left
                                            · simp only [Act.put, List.setIfInBounds_toArray, List.set_cons_zero, List.set_cons_succ, i64_w, i32_w]
                                              rfl
                                            refine pure_ (i := 16) (N := some 6) (v := ?_) (a' := ?_) #[true, true, true, true, true, true, true, true, true, true, true, true, true, true, true, true, true] rfl rfl (any_of HT_.out (by kernel_rfl)) (fun _ _ _ h => h) (Or.inl ⟨by rfl, ?_⟩) ?_ ?_
                                            rotate_left
                                            · intro w'
                                              go_simp
                                              with_reducible rfl
                                            rotate_left
                                            · simp only [Act.put, List.setIfInBounds_toArray, List.set_cons_zero, List.set_cons_succ, i64_w, i32_w]
                                              rfl
                                            refine done_ (done_of HT_.out (by kernel_rfl)) ?_
                                            have p192 : 0 ≤ (x4_2 : Int) := of_decide_eq_true (by first | (with_reducible assumption) | assumption)
                                            have q192 : x4_2 < (y184.length : Int) := of_decide_eq_true (by first | (with_reducible assumption) | assumption)
                                            obtain ⟨ad192, e192, hx192_0, hx192_1, hx192_2, hx192_3⟩ := at_T23 (Kd.R_reads' HO_2.out).2.2 x4_2 p192 q192
                                            obtain rfl : (⟨go19, 0, none⟩ : Addr) = ad192 := (by injection e192)
                                            (first | simp only [add_plain] at hx192_0 | simp only [add_at] at hx192_0 | simp only [Addr.add, Nat.zero_add] at hx192_0 | skip)
                                            (first | simp only [add_plain] at hx192_1 | simp only [add_at] at hx192_1 | simp only [Addr.add, Nat.zero_add] at hx192_1 | skip)
                                            (first | simp only [add_plain] at hx192_2 | simp only [add_at] at hx192_2 | simp only [Addr.add, Nat.zero_add] at hx192_2 | skip)
                                            (first | simp only [add_plain] at hx192_3 | simp only [add_at] at hx192_3 | simp only [Addr.add, Nat.zero_add] at hx192_3 | skip)
                                            replace p192 := eq_true p192
                                            replace q192 := eq_true q192
                                            try go_wp2_with (first | ((with_reducible refine gate_callee (f := 11) rfl ?_); refine goesL_ (some 83) rfl rfl Try.func11 (by kernel_rfl) rfl #[.agg #[.string ((rd_T23 y184 x4_2).f0), .int .i64 ((rd_T23 y184 x4_2).f1), .int .i64 ((rd_T23 y184 x4_2).f2), .int .i64 ((rd_T23 y184 x4_2).f3)], .string (⟨#[]⟩ : ByteArray)] rfl (by (try simp only [List.map_toArray, List.map_cons, List.map_nil]); first | done | rfl | (simp only [List.length_drop, List.length_take]; rfl)) ?_; (with_reducible refine (sector_Cut.calls k2 ((rd_T23 y184 x4_2).f0) ((rd_T23 y184 x4_2).f1) ((rd_T23 y184 x4_2).f2) ((rd_T23 y184 x4_2).f3) (⟨#[]⟩ : ByteArray) t193 t196 t199 _ A58.out).mono ?_); rintro e w66 ⟨v194, v197, rfl, ho0, ho1, hb⟩; refine ⟨_, rfl, ?_⟩; have n0_ := Aside0.mk (Kd.R_below (by (with_reducible repeat (first | apply Kd.R_alloc | apply Kd.R_drewN | apply Kd.R_drew)); exact HO_2.out) hb); have n1_ := Aside0.mk (Kd.R_elder' (by (with_reducible repeat (first | apply Kd.R_alloc | apply Kd.R_drewN | apply Kd.R_drew)); exact HO189.out) (Kd.R_base ho0) hb); have n2_ := Aside0.mk (Kd.R_lower (Kd.R_new' ho0 (Kd.R_lt (by (with_reducible repeat (first | apply Kd.R_alloc | apply Kd.R_drewN | apply Kd.R_drew)); exact HO189.out))) (below_size (by repeat (first | (with_reducible first | exact HB.out | apply below_alloc | apply pw_below_drewN | apply below_drew1 | refine below_set ?_ GE172.out) | exact HB.out)))); have n3_ := Aside0.mk (Kd.R_lower ho1 (below_size (by repeat (first | (with_reducible first | exact HB.out | apply below_alloc | apply pw_below_drewN | apply below_drew1 | refine below_set ?_ GE172.out) | exact HB.out)))); have n4_ := Aside0.mk (blk_below (g := gb172) (o := .cells #[.string x173000_1, .int .i64 x173001_1, .int .i64 x173002_1, .int .i64 x173003_1] 23 (0, 0)) (by (with_reducible repeat (first | refine blk_drewN ?_ _ | refine blk_drew ?_ | refine blk_alloc ?_ _)); exact BK172.out) hb); have n5_ := Aside0.mk (below_step (by repeat (first | (with_reducible first | exact HB.out | apply below_alloc | apply pw_below_drewN | apply below_drew1 | refine below_set ?_ GE172.out) | exact HB.out)) hb); clear HO_2; clear HO189; clear BK172; clear HB; have HO_2 := n0_; have HO189 := n1_; have HO195 := n2_; have HO198 := n3_; have BK172 := n4_; have HB := n5_; clear n0_ n1_ n2_ n3_ n4_ n5_; (try clear hb); (try clear hb2); (try clear hk); (try clear hi); (try clear ho0); (try clear ho1); have p200 : 0 ≤ (x4_2 : Int) := of_decide_eq_true (by first | (with_reducible assumption) | assumption); have q200 : x4_2 < (y184.length : Int) := of_decide_eq_true (by first | (with_reducible assumption) | assumption); obtain ⟨ad200, e200, hx200_0, hx200_1, hx200_2, hx200_3⟩ := at_T23 (Kd.R_reads' HO_2.out).2.2 x4_2 p200 q200; obtain rfl : (⟨go19, 0, none⟩ : Addr) = ad200 := (by injection e200); (first | simp only [add_plain] at hx200_0 | simp only [add_at] at hx200_0 | simp only [Addr.add, Nat.zero_add] at hx200_0 | skip); (first | simp only [add_plain] at hx200_1 | simp only [add_at] at hx200_1 | simp only [Addr.add, Nat.zero_add] at hx200_1 | skip); (first | simp only [add_plain] at hx200_2 | simp only [add_at] at hx200_2 | simp only [Addr.add, Nat.zero_add] at hx200_2 | skip); (first | simp only [add_plain] at hx200_3 | simp only [add_at] at hx200_3 | simp only [Addr.add, Nat.zero_add] at hx200_3 | skip); replace p200 := eq_true p200; replace q200 := eq_true q200) | ((with_reducible refine gate_callee (f := 15) rfl ?_); refine goesL_ (some 91) rfl rfl Try.func15 (by kernel_rfl) rfl #[.agg #[.string ((rd_T23 y184 x4_2).f0), .int .i64 ((rd_T23 y184 x4_2).f1), .int .i64 ((rd_T23 y184 x4_2).f2), .int .i64 ((rd_T23 y184 x4_2).f3)]] rfl (by (try simp only [List.map_toArray, List.map_cons, List.map_nil]); first | done | rfl | (simp only [List.length_drop, List.length_take]; rfl)) ?_; (with_reducible refine (sector_May.calls ((rd_T23 y184 x4_2).f0) ((rd_T23 y184 x4_2).f1) ((rd_T23 y184 x4_2).f2) ((rd_T23 y184 x4_2).f3) true _ A59.out).mono ?_); rintro e w67 ⟨rfl, hb⟩; refine ⟨_, rfl, ?_⟩; have n0_ := Aside0.mk (Kd.R_below (by (with_reducible repeat (first | apply Kd.R_alloc | apply Kd.R_drewN | apply Kd.R_drew)); exact HO_2.out) hb); have n1_ := Aside0.mk (Kd.R_below (by (with_reducible repeat (first | apply Kd.R_alloc | apply Kd.R_drewN | apply Kd.R_drew)); exact HO189.out) hb); have n2_ := Aside0.mk (Kd.R_below (by (with_reducible repeat (first | apply Kd.R_alloc | apply Kd.R_drewN | apply Kd.R_drew)); exact HO195.out) hb); have n3_ := Aside0.mk (Kd.R_below (by (with_reducible repeat (first | apply Kd.R_alloc | apply Kd.R_drewN | apply Kd.R_drew)); exact HO198.out) hb); have n4_ := Aside0.mk (blk_below (g := gb172) (o := .cells #[.string x173000_1, .int .i64 x173001_1, .int .i64 x173002_1, .int .i64 x173003_1] 23 (0, 0)) (by (with_reducible repeat (first | refine blk_drewN ?_ _ | refine blk_drew ?_ | refine blk_alloc ?_ _)); exact BK172.out) hb); have n5_ := Aside0.mk (below_step (by repeat (first | (with_reducible first | exact HB.out | apply below_alloc | apply pw_below_drewN | apply below_drew1 | refine below_set ?_ GE172.out) | exact HB.out)) hb); clear HO_2; clear HO189; clear HO195; clear HO198; clear BK172; clear HB; have HO_2 := n0_; have HO189 := n1_; have HO195 := n2_; have HO198 := n3_; have BK172 := n4_; have HB := n5_; clear n0_ n1_ n2_ n3_ n4_ n5_; (try clear hb); (try clear hb2); (try clear hk); (try clear hi)))
                                            go_ret
                                            exact ⟨by first | rfl | (simp [errW_none, errW_some] <;> rfl) | (simp only [← hji54]; first | rfl | (simp [errW_none, errW_some] <;> rfl)) | (simp [*, errW_none, errW_some] <;> rfl), by repeat (first | (with_reducible first | exact HB.out | apply below_alloc | apply pw_below_drewN | apply below_drew1 | refine below_set ?_ GE172.out) | exact HB.out)⟩
                                          · replace c60 := Bool.eq_false_iff.mpr c60
                                            subst c60
                                            have H1 : (if t191 = 1 then (if t199 = 1 then (hamperlaw24_SectorNamesR.l1 k2 y184 (wrap64 (x4_2 + 1)) x173000_1 x173001_1 x173002_1 x173003_1) else (some false)) else (some false)) = some r := by rw [if_neg (show ¬ (false = true) by decide)] at H; exact H
                                            clear H
                                            have H := H1
                                            clear H1
                                            by_cases c68 : t191 = 1
                                            · rw [if_pos c68] at H
                                              have c68b0 : (t191 == 1) = true := beq_iff_eq.mpr c68
                                              have c68b1 : (t191 != 1) = false := bne_eq_false_iff_eq.mpr c68
                                              clear c68
                                              by_cases c69 : t199 = 1
                                              · rw [if_pos c69] at H
                                                have c69b0 : (t199 == 1) = true := beq_iff_eq.mpr c69
                                                have c69b1 : (t199 != 1) = false := bne_eq_false_iff_eq.mpr c69
                                                clear c69
                                                have H' := Aside0.mk H
                                                clear H
                                                try go_wp2
                                                have n0_ := Aside0.mk (Kd.R_drew HO_2.out)
                                                have n1_ := Aside0.mk (blk_drew BK172.out)
                                                have n2_ := Aside0.mk (below_drew1 HB.out)
                                                clear HO_2
                                                clear BK172
                                                clear HB
                                                have HO_2 := n0_
                                                have BK172 := n1_
                                                have HB := n2_
                                                clear n0_ n1_ n2_
                                                have p185 : 0 ≤ (x4_2 : Int) := of_decide_eq_true (by first | (with_reducible assumption) | assumption)
                                                have q185 : x4_2 < (y184.length : Int) := of_decide_eq_true (by first | (with_reducible assumption) | assumption)
                                                obtain ⟨ad185, e185, hx185_0, hx185_1, hx185_2, hx185_3⟩ := at_T23 (Kd.R_reads' HO_2.out).2.2 x4_2 p185 q185
                                                obtain rfl : (⟨go19, 0, none⟩ : Addr) = ad185 := (by injection e185)
                                                (first | simp only [add_plain] at hx185_0 | simp only [add_at] at hx185_0 | simp only [Addr.add, Nat.zero_add] at hx185_0 | skip)
                                                (first | simp only [add_plain] at hx185_1 | simp only [add_at] at hx185_1 | simp only [Addr.add, Nat.zero_add] at hx185_1 | skip)
                                                (first | simp only [add_plain] at hx185_2 | simp only [add_at] at hx185_2 | simp only [Addr.add, Nat.zero_add] at hx185_2 | skip)
                                                (first | simp only [add_plain] at hx185_3 | simp only [add_at] at hx185_3 | simp only [Addr.add, Nat.zero_add] at hx185_3 | skip)
                                                replace p185 := eq_true p185
                                                replace q185 := eq_true q185
                                                have p186 : 0 ≤ (x4_2 : Int) := of_decide_eq_true (by first | (with_reducible assumption) | assumption)
                                                have q186 : x4_2 < (y184.length : Int) := of_decide_eq_true (by first | (with_reducible assumption) | assumption)
                                                obtain ⟨ad186, e186, hx186_0, hx186_1, hx186_2, hx186_3⟩ := at_T23 (Kd.R_reads' HO_2.out).2.2 x4_2 p186 q186
                                                obtain rfl : (⟨go19, 0, none⟩ : Addr) = ad186 := (by injection e186)
                                                (first | simp only [add_plain] at hx186_0 | simp only [add_at] at hx186_0 | simp only [Addr.add, Nat.zero_add] at hx186_0 | skip)
                                                (first | simp only [add_plain] at hx186_1 | simp only [add_at] at hx186_1 | simp only [Addr.add, Nat.zero_add] at hx186_1 | skip)
                                                (first | simp only [add_plain] at hx186_2 | simp only [add_at] at hx186_2 | simp only [Addr.add, Nat.zero_add] at hx186_2 | skip)
                                                (first | simp only [add_plain] at hx186_3 | simp only [add_at] at hx186_3 | simp only [Addr.add, Nat.zero_add] at hx186_3 | skip)
                                                replace p186 := eq_true p186
                                                replace q186 := eq_true q186
                                                refine start_ (n := 17) (S := fun w' => w'.cell? ⟨go19, (x4_2).toNat * 4, none⟩ = some (.string ((rd_T23 y184 x4_2).f0)) ∧ w'.cell? ⟨go19, (x4_2).toNat * 4 + 1, none⟩ = some (.int .i64 ((rd_T23 y184 x4_2).f1)) ∧ w'.cell? ⟨go19, (x4_2).toNat * 4 + 2, none⟩ = some (.int .i64 ((rd_T23 y184 x4_2).f2)) ∧ w'.cell? ⟨go19, (x4_2).toNat * 4 + 3, none⟩ = some (.int .i64 ((rd_T23 y184 x4_2).f3)) ∧ w'.cell? ⟨go19, (x4_2).toNat * 4, none⟩ = some (.string ((rd_T23 y184 x4_2).f0)) ∧ w'.cell? ⟨go19, (x4_2).toNat * 4 + 1, none⟩ = some (.int .i64 ((rd_T23 y184 x4_2).f1)) ∧ w'.cell? ⟨go19, (x4_2).toNat * 4 + 2, none⟩ = some (.int .i64 ((rd_T23 y184 x4_2).f2)) ∧ w'.cell? ⟨go19, (x4_2).toNat * 4 + 3, none⟩ = some (.int .i64 ((rd_T23 y184 x4_2).f3))) (ds := []) #[false, false, false, false, false, false, false, false, false, false, false, false, false, false, false, false, false] (by kernel_rfl) rfl rfl ⟨hx185_0, hx185_1, hx185_2, hx185_3, hx186_0, hx186_1, hx186_2, hx186_3⟩ (fun hHeld => ?_); refine with_tabW hamperlaw24_SectorNamesR.tab18 hamperlaw24_SectorNamesR.bits18 (fun HT_ HW_ => ?_)
                                                generalize wr.drew = w70 at HO_2 BK172 HB hx185_0 hx185_1 hx185_2 hx185_3 hx186_0 hx186_1 hx186_2 hx186_3 hHeld ⊢
                                                refine pure_ (i := 0) (N := some 64) (v := ?_) (a' := ?_) #[true, false, false, false, false, false, false, false, false, false, false, false, false, false, false, false, false] rfl rfl (any_of HT_.out (by kernel_rfl)) (fun _ _ _ h => h) (Or.inl ⟨by rfl, ?_⟩) ?_ ?_
                                                rotate_left
                                                · intro w'
                                                  go_simp
                                                  with_reducible rfl
                                                rotate_left
                                                · simp only [Act.put, List.setIfInBounds_toArray, List.set_cons_zero, List.set_cons_succ, i64_w, i32_w]
                                                  rfl
                                                refine pure_ (i := 1) (N := some 65) (v := ?_) (a' := ?_) #[true, true, false, false, false, false, false, false, false, false, false, false, false, false, false, false, false] rfl rfl (any_of HT_.out (by kernel_rfl)) (fun _ _ _ h => h) (Or.inl ⟨by rfl, ?_⟩) ?_ ?_
                                                rotate_left
                                                · intro w'
                                                  go_simp
                                                  with_reducible rfl
                                                rotate_left
                                                · simp only [Act.put, List.setIfInBounds_toArray, List.set_cons_zero, List.set_cons_succ, i64_w, i32_w]
                                                  rfl
                                                refine pure_ (i := 2) (N := some 66) (v := ?_) (a' := ?_) #[true, true, true, false, false, false, false, false, false, false, false, false, false, false, false, false, false] rfl rfl (any_of HT_.out (by kernel_rfl)) (fun _ _ _ h => h) (Or.inl ⟨by rfl, ?_⟩) ?_ ?_
                                                rotate_left
                                                · intro w'
                                                  go_simp
                                                  with_reducible rfl
                                                rotate_left
                                                · simp only [Act.put, List.setIfInBounds_toArray, List.set_cons_zero, List.set_cons_succ, i64_w, i32_w]
                                                  rfl
                                                refine pure_ (i := 4) (N := some 68) (v := ?_) (a' := ?_) #[true, true, true, false, true, false, false, false, false, false, false, false, false, false, false, false, false] rfl rfl (any_of HT_.out (by kernel_rfl)) (fun _ _ _ h => h) (Or.inl ⟨by rfl, ?_⟩) ?_ ?_
                                                rotate_left
                                                · intro w'
                                                  go_simp
                                                  with_reducible rfl
                                                rotate_left
                                                · simp only [Act.put, List.setIfInBounds_toArray, List.set_cons_zero, List.set_cons_succ, i64_w, i32_w]
                                                  rfl
                                                refine pure_ (i := 5) (N := some 69) (v := ?_) (a' := ?_) #[true, true, true, false, true, true, false, false, false, false, false, false, false, false, false, false, false] rfl rfl (any_of HT_.out (by kernel_rfl)) (fun _ _ _ h => h) (Or.inl ⟨by rfl, ?_⟩) ?_ ?_
                                                rotate_left
                                                · intro w'
                                                  go_simp
                                                  with_reducible rfl
                                                rotate_left
                                                · simp only [Act.put, List.setIfInBounds_toArray, List.set_cons_zero, List.set_cons_succ, i64_w, i32_w]
                                                  rfl
                                                refine pure_ (i := 6) (N := some 70) (v := ?_) (a' := ?_) #[true, true, true, false, true, true, true, false, false, false, false, false, false, false, false, false, false] rfl rfl (any_of HT_.out (by kernel_rfl)) (fun _ _ _ h => h) (Or.inl ⟨by rfl, ?_⟩) ?_ ?_
                                                rotate_left
                                                · intro w'
                                                  go_simp
                                                  with_reducible rfl
                                                rotate_left
                                                · simp only [Act.put, List.setIfInBounds_toArray, List.set_cons_zero, List.set_cons_succ, i64_w, i32_w]
                                                  rfl
                                                refine pure_ (i := 7) (N := some 71) (v := ?_) (a' := ?_) #[true, true, true, false, true, true, true, true, false, false, false, false, false, false, false, false, false] rfl rfl (any_of HT_.out (by kernel_rfl)) (fun _ _ _ h => h) (Or.inl ⟨by rfl, ?_⟩) ?_ ?_
                                                rotate_left
                                                · intro w'
                                                  go_simp
                                                  with_reducible rfl
                                                rotate_left
                                                · simp only [Act.put, List.setIfInBounds_toArray, List.set_cons_zero, List.set_cons_succ, i64_w, i32_w]
                                                  rfl
                                                refine take_ (i := 3) (N := some 67) (v := ?_) (a' := ?_) #[true, true, true, true, true, true, true, true, false, false, false, false, false, false, false, false, false] rfl rfl (take_ofW HT_.out HW_.out (by kernel_rfl)) (fun _ _ _ h => h) (Or.inl ⟨by rfl, ?_⟩) hHeld ?_ ?_
                                                rotate_left
                                                · rintro w' ⟨s0, s1, s2, s3, s4, s5, s6, s7⟩
                                                  go_simp
                                                  with_reducible rfl
                                                rotate_left
                                                · simp only [Act.put, List.setIfInBounds_toArray, List.set_cons_zero, List.set_cons_succ, i64_w, i32_w]
                                                  rfl
                                                refine take_ (i := 8) (N := some 72) (v := ?_) (a' := ?_) #[true, true, true, true, true, true, true, true, true, false, false, false, false, false, false, false, false] rfl rfl (take_ofW HT_.out HW_.out (by kernel_rfl)) (fun _ _ _ h => h) (Or.inl ⟨by rfl, ?_⟩) hHeld ?_ ?_
                                                rotate_left
                                                · rintro w' ⟨s0, s1, s2, s3, s4, s5, s6, s7⟩
                                                  go_simp
                                                  with_reducible rfl
                                                rotate_left
                                                · simp only [Act.put, List.setIfInBounds_toArray, List.set_cons_zero, List.set_cons_succ, i64_w, i32_w]
                                                  rfl
                                                refine pure_ (i := 9) (N := some 73) (v := ?_) (a' := ?_) #[true, true, true, true, true, true, true, true, true, true, false, false, false, false, false, false, false] rfl rfl (any_of HT_.out (by kernel_rfl)) (fun _ _ _ h => h) (Or.inl ⟨by rfl, ?_⟩) ?_ ?_
                                                rotate_left
                                                · intro w'
                                                  go_simp
                                                  with_reducible rfl
                                                rotate_left
                                                · simp only [Act.put, List.setIfInBounds_toArray, List.set_cons_zero, List.set_cons_succ, i64_w, i32_w]
                                                  rfl
                                                refine one_ (i := 10) (N := some 74) #[true, true, true, true, true, true, true, true, true, true, true, false, false, false, false, false, false] rfl rfl (one_of HT_.out (by kernel_rfl)) (by decide) (fun K hK => ?_)
                                                refine Kd.R_make_step Kd.string _ 9 (by rfl) (N := 74) rfl 24 _ _ rfl ji54 rfl rfl Try.underlying24 (.string ⟨#[]⟩) 16 info9 rfl (by decide) (by omega) (⟨#[]⟩ : ByteArray) (ok := fun _ => True) (okp := fun _ => True) rfl (fun _ hk => hk) trivial (of_decide_eq_true (by first | (with_reducible assumption) | assumption)) (Nat.le_trans (Nat.mul_le_mul_right _ (of_decide_eq_true (by first | (with_reducible assumption) | assumption) : ji54.toNat ≤ 17592186044416)) (by omega)) (Below.refl _ _) (Nat.le_refl _) ?_
                                                intro v188 w71 ho72 hb hg_ hnew_
                                                have HS0_ := (hb.cell (World.block_lt_of_cell? _ _ (hHeld.1))).trans (hHeld.1)
                                                have HS1_ := (hb.cell (World.block_lt_of_cell? _ _ (hHeld.2.1))).trans (hHeld.2.1)
                                                have HS2_ := (hb.cell (World.block_lt_of_cell? _ _ (hHeld.2.2.1))).trans (hHeld.2.2.1)
                                                have HS3_ := (hb.cell (World.block_lt_of_cell? _ _ (hHeld.2.2.2.1))).trans (hHeld.2.2.2.1)
                                                have HS4_ := (hb.cell (World.block_lt_of_cell? _ _ (hHeld.2.2.2.2.1))).trans (hHeld.2.2.2.2.1)
                                                have HS5_ := (hb.cell (World.block_lt_of_cell? _ _ (hHeld.2.2.2.2.2.1))).trans (hHeld.2.2.2.2.2.1)
                                                have HS6_ := (hb.cell (World.block_lt_of_cell? _ _ (hHeld.2.2.2.2.2.2.1))).trans (hHeld.2.2.2.2.2.2.1)
                                                have HS7_ := (hb.cell (World.block_lt_of_cell? _ _ (hHeld.2.2.2.2.2.2.2))).trans (hHeld.2.2.2.2.2.2.2)
                                                clear hg_ hnew_
                                                (first | rw [← Ny187.out] at ho72 | (simp only [Int.reduceToNat] at ho72; rw [← Ny187.out] at ho72))
                                                have n0_ := Aside0.mk (Kd.R_below (by (with_reducible repeat (first | apply Kd.R_alloc | apply Kd.R_drewN | apply Kd.R_drew)); exact HO_2.out) hb)
                                                have n1_ := Aside0.mk (Kd.R_lower ho72 (below_size (by repeat (first | (with_reducible first | exact HB.out | apply below_alloc | apply pw_below_drewN | apply below_drew1 | refine below_set ?_ GE172.out) | exact HB.out))))
                                                have n2_ := Aside0.mk (blk_below (g := gb172) (o := .cells #[.string x173000_1, .int .i64 x173001_1, .int .i64 x173002_1, .int .i64 x173003_1] 23 (0, 0)) (by (with_reducible repeat (first | refine blk_drewN ?_ _ | refine blk_drew ?_ | refine blk_alloc ?_ _)); exact BK172.out) hb)
                                                have n3_ := Aside0.mk (below_step (by repeat (first | (with_reducible first | exact HB.out | apply below_alloc | apply pw_below_drewN | apply below_drew1 | refine below_set ?_ GE172.out) | exact HB.out)) hb)
                                                clear HO_2
                                                clear BK172
                                                clear HB
                                                have HO_2 := n0_
                                                have HO189 := n1_
                                                have BK172 := n2_
                                                have HB := n3_
                                                clear n0_ n1_ n2_ n3_
                                                clear hb ho72
                                                obtain ⟨Ao73, co73, eo73⟩ := Kd.R_slice HO189.out
                                                (first | subst eo73 | (injection eo73 with f1_ f2_ f3_; have f4_ := f1_.symm; have f5_ := f3_.symm; clear f1_ f2_ f3_; subst f4_; subst f5_))
                                                refine hK.out _ _ ⟨HS0_, HS1_, HS2_, HS3_, HS4_, HS5_, HS6_, HS7_⟩ (fun hHeld => ?_)
                                                clear hK K
                                                refine norm_ (a' := ?_) ?_ ?_
                                                rotate_left
                                                · show Act.put _ (some 74) _ = _
                                                  simp only [Act.put, List.setIfInBounds_toArray, List.set_cons_zero, List.set_cons_succ, i64_w, i32_w]
                                                  rfl
                                                refine one_ (i := 11) (N := some 75) #[true, true, true, true, true, true, true, true, true, true, true, true, false, false, false, false, false] rfl rfl (one_of HT_.out (by kernel_rfl)) (by decide) (fun K hK => ?_)
                                                refine goes_ Try.func10 (by kernel_rfl) rfl #[.agg #[.string ((rd_T23 y184 x4_2).f0), .int .i64 ((rd_T23 y184 x4_2).f1), .int .i64 ((rd_T23 y184 x4_2).f2), .int .i64 ((rd_T23 y184 x4_2).f3)], .slice Ao73 y187.length co73] (by rfl) rfl rfl (by (try simp only [List.map_toArray, List.map_cons, List.map_nil]); first | done | rfl | (simp only [List.length_drop, List.length_take]; rfl)) ?_
                                                with_reducible refine (sector_Join.calls k2 ((rd_T23 y184 x4_2).f0) ((rd_T23 y184 x4_2).f1) ((rd_T23 y184 x4_2).f2) ((rd_T23 y184 x4_2).f3) _ _ y187 t190 t191 _ ?side1 ?side2 A57.out).mono ?_
                                                (case side1 => repeat (first | exact (Kd.R_reads' HO189.out).2.2 | (with_reducible refine Kd.C_alloc ?_ _) | (with_reducible refine Kd.C_drewN ?_ _) | (with_reducible refine Kd.C_drew ?_)))
                                                (case side2 => exact (Kd.R_reads' HO189.out).2.1)
                                                rintro e w74 ⟨rfl, hb⟩
                                                have HS0_ := (hb.cell (World.block_lt_of_cell? _ _ (hHeld.1))).trans (hHeld.1)
                                                have HS1_ := (hb.cell (World.block_lt_of_cell? _ _ (hHeld.2.1))).trans (hHeld.2.1)
                                                have HS2_ := (hb.cell (World.block_lt_of_cell? _ _ (hHeld.2.2.1))).trans (hHeld.2.2.1)
                                                have HS3_ := (hb.cell (World.block_lt_of_cell? _ _ (hHeld.2.2.2.1))).trans (hHeld.2.2.2.1)
                                                have HS4_ := (hb.cell (World.block_lt_of_cell? _ _ (hHeld.2.2.2.2.1))).trans (hHeld.2.2.2.2.1)
                                                have HS5_ := (hb.cell (World.block_lt_of_cell? _ _ (hHeld.2.2.2.2.2.1))).trans (hHeld.2.2.2.2.2.1)
                                                have HS6_ := (hb.cell (World.block_lt_of_cell? _ _ (hHeld.2.2.2.2.2.2.1))).trans (hHeld.2.2.2.2.2.2.1)
                                                have HS7_ := (hb.cell (World.block_lt_of_cell? _ _ (hHeld.2.2.2.2.2.2.2))).trans (hHeld.2.2.2.2.2.2.2)
                                                refine ⟨_, rfl, ?_⟩
                                                have n0_ := Aside0.mk (Kd.R_below (by (with_reducible repeat (first | apply Kd.R_alloc | apply Kd.R_drewN | apply Kd.R_drew)); exact HO_2.out) hb)
                                                have n1_ := Aside0.mk (Kd.R_below (by (with_reducible repeat (first | apply Kd.R_alloc | apply Kd.R_drewN | apply Kd.R_drew)); exact HO189.out) hb)
                                                have n2_ := Aside0.mk (blk_below (g := gb172) (o := .cells #[.string x173000_1, .int .i64 x173001_1, .int .i64 x173002_1, .int .i64 x173003_1] 23 (0, 0)) (by (with_reducible repeat (first | refine blk_drewN ?_ _ | refine blk_drew ?_ | refine blk_alloc ?_ _)); exact BK172.out) hb)
                                                have n3_ := Aside0.mk (below_step (by repeat (first | (with_reducible first | exact HB.out | apply below_alloc | apply pw_below_drewN | apply below_drew1 | refine below_set ?_ GE172.out) | exact HB.out)) hb)
                                                clear HO_2
                                                clear HO189
                                                clear BK172
                                                clear HB
                                                have HO_2 := n0_
                                                have HO189 := n1_
                                                have BK172 := n2_
                                                have HB := n3_
                                                clear n0_ n1_ n2_ n3_
                                                (try clear hb)
                                                (try clear hb2)
                                                (try clear hk)
                                                (try clear hi)
                                                refine hK.out _ _ ⟨HS0_, HS1_, HS2_, HS3_, HS4_, HS5_, HS6_, HS7_⟩ (fun hHeld => ?_)
                                                clear hK K
                                                refine norm_ (a' := ?_) ?_ ?_
                                                rotate_left
                                                · show Act.put _ (some 75) _ = _
                                                  simp only [Act.put, List.setIfInBounds_toArray, List.set_cons_zero, List.set_cons_succ, i64_w, i32_w]
                                                  rfl
                                                refine pure_ (i := 12) (N := some 63) (v := ?_) (a' := ?_) #[true, true, true, true, true, true, true, true, true, true, true, true, true, false, false, false, false] rfl rfl (any_of HT_.out (by kernel_rfl)) (fun _ _ _ h => h) (Or.inl ⟨by rfl, ?_⟩) ?_ ?_
                                                rotate_left
                                                · intro w'
                                                  go_simp
                                                  with_reducible rfl
                                                rotate_left
                                                · simp only [Act.put, List.setIfInBounds_toArray, List.set_cons_zero, List.set_cons_succ, i64_w, i32_w]
                                                  rfl
                                                refine pure_ (i := 13) (N := some 76) (v := ?_) (a' := ?_) #[true, true, true, true, true, true, true, true, true, true, true, true, true, true, false, false, false] rfl rfl (any_of HT_.out (by kernel_rfl)) (fun _ _ _ h => h) (Or.inl ⟨by rfl, ?_⟩) ?_ ?_
                                                rotate_left
                                                · intro w'
                                                  go_simp
                                                  with_reducible rfl
                                                rotate_left
                                                · simp only [Act.put, List.setIfInBounds_toArray, List.set_cons_zero, List.set_cons_succ, i64_w, i32_w]
                                                  rfl
                                                refine pure_ (i := 14) (N := some 77) (v := ?_) (a' := ?_) #[true, true, true, true, true, true, true, true, true, true, true, true, true, true, true, false, false] rfl rfl (any_of HT_.out (by kernel_rfl)) (fun _ _ _ h => h) (Or.inl ⟨by rfl, ?_⟩) ?_ ?_
                                                rotate_left
                                                · intro w'
                                                  go_simp
                                                  with_reducible rfl
                                                rotate_left
                                                · simp only [Act.put, List.setIfInBounds_toArray, List.set_cons_zero, List.set_cons_succ, i64_w, i32_w]
                                                  rfl
                                                refine pure_ (i := 15) (N := some 5) (v := ?_) (a' := ?_) #[true, true, true, true, true, true, true, true, true, true, true, true, true, true, true, true, false] rfl rfl (any_of HT_.out (by kernel_rfl)) (fun _ _ _ h => h) (Or.inl ⟨by rfl, ?_⟩) ?_ ?_
                                                rotate_left
                                                · intro w'
                                                  go_simp
                                                  with_reducible rfl
                                                rotate_left
                                                · simp only [Act.put, List.setIfInBounds_toArray, List.set_cons_zero, List.set_cons_succ, i64_w, i32_w]
                                                  rfl
                                                refine pure_ (i := 16) (N := some 6) (v := ?_) (a' := ?_) #[true, true, true, true, true, true, true, true, true, true, true, true, true, true, true, true, true] rfl rfl (any_of HT_.out (by kernel_rfl)) (fun _ _ _ h => h) (Or.inl ⟨by rfl, ?_⟩) ?_ ?_
                                                rotate_left
                                                · intro w'
                                                  go_simp
                                                  with_reducible rfl
                                                rotate_left
                                                · simp only [Act.put, List.setIfInBounds_toArray, List.set_cons_zero, List.set_cons_succ, i64_w, i32_w]
                                                  rfl
                                                refine done_ (done_of HT_.out (by kernel_rfl)) ?_
                                                have p192 : 0 ≤ (x4_2 : Int) := of_decide_eq_true (by first | (with_reducible assumption) | assumption)
                                                have q192 : x4_2 < (y184.length : Int) := of_decide_eq_true (by first | (with_reducible assumption) | assumption)
                                                obtain ⟨ad192, e192, hx192_0, hx192_1, hx192_2, hx192_3⟩ := at_T23 (Kd.R_reads' HO_2.out).2.2 x4_2 p192 q192
                                                obtain rfl : (⟨go19, 0, none⟩ : Addr) = ad192 := (by injection e192)
                                                (first | simp only [add_plain] at hx192_0 | simp only [add_at] at hx192_0 | simp only [Addr.add, Nat.zero_add] at hx192_0 | skip)
                                                (first | simp only [add_plain] at hx192_1 | simp only [add_at] at hx192_1 | simp only [Addr.add, Nat.zero_add] at hx192_1 | skip)
                                                (first | simp only [add_plain] at hx192_2 | simp only [add_at] at hx192_2 | simp only [Addr.add, Nat.zero_add] at hx192_2 | skip)
                                                (first | simp only [add_plain] at hx192_3 | simp only [add_at] at hx192_3 | simp only [Addr.add, Nat.zero_add] at hx192_3 | skip)
                                                replace p192 := eq_true p192
                                                replace q192 := eq_true q192
                                                try go_wp2_with (first | ((with_reducible refine gate_callee (f := 11) rfl ?_); refine goesL_ (some 83) rfl rfl Try.func11 (by kernel_rfl) rfl #[.agg #[.string ((rd_T23 y184 x4_2).f0), .int .i64 ((rd_T23 y184 x4_2).f1), .int .i64 ((rd_T23 y184 x4_2).f2), .int .i64 ((rd_T23 y184 x4_2).f3)], .string (⟨#[]⟩ : ByteArray)] rfl (by (try simp only [List.map_toArray, List.map_cons, List.map_nil]); first | done | rfl | (simp only [List.length_drop, List.length_take]; rfl)) ?_; (with_reducible refine (sector_Cut.calls k2 ((rd_T23 y184 x4_2).f0) ((rd_T23 y184 x4_2).f1) ((rd_T23 y184 x4_2).f2) ((rd_T23 y184 x4_2).f3) (⟨#[]⟩ : ByteArray) t193 t196 t199 _ A58.out).mono ?_); rintro e w75 ⟨v194, v197, rfl, ho0, ho1, hb⟩; refine ⟨_, rfl, ?_⟩; have n0_ := Aside0.mk (Kd.R_below (by (with_reducible repeat (first | apply Kd.R_alloc | apply Kd.R_drewN | apply Kd.R_drew)); exact HO_2.out) hb); have n1_ := Aside0.mk (Kd.R_elder' (by (with_reducible repeat (first | apply Kd.R_alloc | apply Kd.R_drewN | apply Kd.R_drew)); exact HO189.out) (Kd.R_base ho0) hb); have n2_ := Aside0.mk (Kd.R_lower (Kd.R_new' ho0 (Kd.R_lt (by (with_reducible repeat (first | apply Kd.R_alloc | apply Kd.R_drewN | apply Kd.R_drew)); exact HO189.out))) (below_size (by repeat (first | (with_reducible first | exact HB.out | apply below_alloc | apply pw_below_drewN | apply below_drew1 | refine below_set ?_ GE172.out) | exact HB.out)))); have n3_ := Aside0.mk (Kd.R_lower ho1 (below_size (by repeat (first | (with_reducible first | exact HB.out | apply below_alloc | apply pw_below_drewN | apply below_drew1 | refine below_set ?_ GE172.out) | exact HB.out)))); have n4_ := Aside0.mk (blk_below (g := gb172) (o := .cells #[.string x173000_1, .int .i64 x173001_1, .int .i64 x173002_1, .int .i64 x173003_1] 23 (0, 0)) (by (with_reducible repeat (first | refine blk_drewN ?_ _ | refine blk_drew ?_ | refine blk_alloc ?_ _)); exact BK172.out) hb); have n5_ := Aside0.mk (below_step (by repeat (first | (with_reducible first | exact HB.out | apply below_alloc | apply pw_below_drewN | apply below_drew1 | refine below_set ?_ GE172.out) | exact HB.out)) hb); clear HO_2; clear HO189; clear BK172; clear HB; have HO_2 := n0_; have HO189 := n1_; have HO195 := n2_; have HO198 := n3_; have BK172 := n4_; have HB := n5_; clear n0_ n1_ n2_ n3_ n4_ n5_; (try clear hb); (try clear hb2); (try clear hk); (try clear hi); (try clear ho0); (try clear ho1); have p200 : 0 ≤ (x4_2 : Int) := of_decide_eq_true (by first | (with_reducible assumption) | assumption); have q200 : x4_2 < (y184.length : Int) := of_decide_eq_true (by first | (with_reducible assumption) | assumption); obtain ⟨ad200, e200, hx200_0, hx200_1, hx200_2, hx200_3⟩ := at_T23 (Kd.R_reads' HO_2.out).2.2 x4_2 p200 q200; obtain rfl : (⟨go19, 0, none⟩ : Addr) = ad200 := (by injection e200); (first | simp only [add_plain] at hx200_0 | simp only [add_at] at hx200_0 | simp only [Addr.add, Nat.zero_add] at hx200_0 | skip); (first | simp only [add_plain] at hx200_1 | simp only [add_at] at hx200_1 | simp only [Addr.add, Nat.zero_add] at hx200_1 | skip); (first | simp only [add_plain] at hx200_2 | simp only [add_at] at hx200_2 | simp only [Addr.add, Nat.zero_add] at hx200_2 | skip); (first | simp only [add_plain] at hx200_3 | simp only [add_at] at hx200_3 | simp only [Addr.add, Nat.zero_add] at hx200_3 | skip); replace p200 := eq_true p200; replace q200 := eq_true q200) | ((with_reducible refine gate_callee (f := 15) rfl ?_); refine goesL_ (some 91) rfl rfl Try.func15 (by kernel_rfl) rfl #[.agg #[.string ((rd_T23 y184 x4_2).f0), .int .i64 ((rd_T23 y184 x4_2).f1), .int .i64 ((rd_T23 y184 x4_2).f2), .int .i64 ((rd_T23 y184 x4_2).f3)]] rfl (by (try simp only [List.map_toArray, List.map_cons, List.map_nil]); first | done | rfl | (simp only [List.length_drop, List.length_take]; rfl)) ?_; (with_reducible refine (sector_May.calls ((rd_T23 y184 x4_2).f0) ((rd_T23 y184 x4_2).f1) ((rd_T23 y184 x4_2).f2) ((rd_T23 y184 x4_2).f3) false _ A59.out).mono ?_); rintro e w76 ⟨rfl, hb⟩; refine ⟨_, rfl, ?_⟩; have n0_ := Aside0.mk (Kd.R_below (by (with_reducible repeat (first | apply Kd.R_alloc | apply Kd.R_drewN | apply Kd.R_drew)); exact HO_2.out) hb); have n1_ := Aside0.mk (Kd.R_below (by (with_reducible repeat (first | apply Kd.R_alloc | apply Kd.R_drewN | apply Kd.R_drew)); exact HO189.out) hb); have n2_ := Aside0.mk (Kd.R_below (by (with_reducible repeat (first | apply Kd.R_alloc | apply Kd.R_drewN | apply Kd.R_drew)); exact HO195.out) hb); have n3_ := Aside0.mk (Kd.R_below (by (with_reducible repeat (first | apply Kd.R_alloc | apply Kd.R_drewN | apply Kd.R_drew)); exact HO198.out) hb); have n4_ := Aside0.mk (blk_below (g := gb172) (o := .cells #[.string x173000_1, .int .i64 x173001_1, .int .i64 x173002_1, .int .i64 x173003_1] 23 (0, 0)) (by (with_reducible repeat (first | refine blk_drewN ?_ _ | refine blk_drew ?_ | refine blk_alloc ?_ _)); exact BK172.out) hb); have n5_ := Aside0.mk (below_step (by repeat (first | (with_reducible first | exact HB.out | apply below_alloc | apply pw_below_drewN | apply below_drew1 | refine below_set ?_ GE172.out) | exact HB.out)) hb); clear HO_2; clear HO189; clear HO195; clear HO198; clear BK172; clear HB; have HO_2 := n0_; have HO189 := n1_; have HO195 := n2_; have HO198 := n3_; have BK172 := n4_; have HB := n5_; clear n0_ n1_ n2_ n3_ n4_ n5_; (try clear hb); (try clear hb2); (try clear hk); (try clear hi)))
                                                (try simp only [← hl2_2])
                                                go_roundg k2
                                                case measure => have := HK1.out; have := HK2.out; omega
                                                case rel => exact ⟨(wrap64 (x4_2 + 1)), (by first | rfl | (simp; done) | (simp [*]; done)), (by first | exact H' | (rw [hji54]; exact H') | (simp only [hji54]; exact H')), ⟨by have := HK1.out; have := HK2.out; omega⟩, ⟨by (try simp only [hl2_2]); (with_reducible repeat (first | apply Kd.R_alloc | apply Kd.R_drewN | apply Kd.R_drew)); exact HO_2.out⟩, ⟨by (try simp only [hl2_2]); (with_reducible repeat (first | refine blk_drewN ?_ _ | refine blk_drew ?_ | refine blk_alloc ?_ _)); exact BK172.out⟩, ⟨by repeat (first | (with_reducible first | exact HB.out | apply below_alloc | apply pw_below_drewN | apply below_drew1 | refine below_set ?_ GE172.out) | exact HB.out)⟩⟩
                                              · rw [if_neg c69] at H
                                                have c69b0 : (t199 == 1) = false := beq_eq_false_iff_ne.mpr c69
                                                have c69b1 : (t199 != 1) = true := bne_iff_ne.mpr c69
                                                obtain rfl := Option.some.inj H
                                                exact absurd hr_ (by decide)
                                            · rw [if_neg c68] at H
                                              have c68b0 : (t191 == 1) = false := beq_eq_false_iff_ne.mpr c68
                                              have c68b1 : (t191 != 1) = true := bne_iff_ne.mpr c68
                                              obtain rfl := Option.some.inj H
                                              exact absurd hr_ (by decide)
                                        · rw [if_neg c56] at H
                                          exact absurd H (by simp)
                                      · rw [if_neg c55] at H
                                        exact absurd H (by simp)
                                    · rw [if_neg c53] at H
                                      exact absurd H (by simp)
                                  · rw [if_neg c52] at H
                                    have c52b0 : decide (x4_2 < (y184.length : Int)) = false := decide_eq_false c52
                                    clear c52
                                    obtain ⟨y202, hy202⟩ : ∃ y_ : List (S45), y_ = (([(⟨0, 0, 0, 0⟩ : S45), (⟨65, 0, 2, 0⟩ : S45), (⟨1, 33, 2, 0⟩ : S45), (⟨1, (-1), 2, 0⟩ : S45), (⟨1, 0, 3, 0⟩ : S45), (⟨1, 0, 514, 0⟩ : S45), (⟨1, 0, 0, 0⟩ : S45), (⟨1, 0, 2, 33⟩ : S45), (⟨1, 0, 2, (-1)⟩ : S45)] : List (S45))) := ⟨_, rfl⟩
                                    replace H : (hamperlaw24_SectorNamesR.l2 k2 y202 (y202.length : Int) 0 x173000_1 x173001_1 x173002_1 x173003_1) = some r := by first | (rw [hy202]; with_reducible exact H) | (have H2_ := (Option.bind_some _ _).symm.trans H; rw [hy202]; with_reducible exact H2_) | (have H2_ := (Option.bind_some _ _).symm.trans H; with_reducible exact H2_) | with_reducible exact H | (rw [hy202]; exact H) | exact H
                                    have Ny202 := Aside0.mk hy202
                                    clear hy202
                                    have H' := Aside0.mk H
                                    clear H
                                    go_wp2_with (first | ((with_reducible refine gate_dst (N := 109) rfl ?_); refine Kd.R_lit k45 _ 45 ?hg (N := 109) ?hd (xs := ([(⟨0, 0, 0, 0⟩ : S45), (⟨65, 0, 2, 0⟩ : S45), (⟨1, 33, 2, 0⟩ : S45), (⟨1, (-1), 2, 0⟩ : S45), (⟨1, 0, 3, 0⟩ : S45), (⟨1, 0, 514, 0⟩ : S45), (⟨1, 0, 0, 0⟩ : S45), (⟨1, 0, 2, 33⟩ : S45), (⟨1, 0, 2, (-1)⟩ : S45)] : List (S45))) (inner := [.int .i64 0, .int .i64 0, .int .i64 0, .int .i64 0, .int .i64 65, .int .i64 0, .int .i64 2, .int .i64 0, .int .i64 1, .int .i64 33, .int .i64 2, .int .i64 0, .int .i64 1, .int .i64 (-1), .int .i64 2, .int .i64 0, .int .i64 1, .int .i64 0, .int .i64 3, .int .i64 0, .int .i64 1, .int .i64 0, .int .i64 514, .int .i64 0, .int .i64 1, .int .i64 0, .int .i64 0, .int .i64 0, .int .i64 1, .int .i64 0, .int .i64 2, .int .i64 33, .int .i64 1, .int .i64 0, .int .i64 2, .int .i64 (-1)]) (ok := fun _ => True) (okp := fun _ => True) ?hr ?hp (fun _ hk => hk) trivial (Below.refl _ _) (Nat.le_refl _) (by simp) ?_; (case hd => rfl); (case hg => rfl); (case hr => first | (go_simp; done) | (go_simp; rfl)); (case hp => exact (Reps.c4 (show Kd.M k45 _ _ _ (⟨0, 0, 0, 0⟩ : S45) [.int .i64 0, .int .i64 0, .int .i64 0, .int .i64 0] from (k45_mkM _ _ _ (⟨0, 0, 0, 0⟩ : S45) )) (Reps.c4 (show Kd.M k45 _ _ _ (⟨65, 0, 2, 0⟩ : S45) [.int .i64 65, .int .i64 0, .int .i64 2, .int .i64 0] from (k45_mkM _ _ _ (⟨65, 0, 2, 0⟩ : S45) )) (Reps.c4 (show Kd.M k45 _ _ _ (⟨1, 33, 2, 0⟩ : S45) [.int .i64 1, .int .i64 33, .int .i64 2, .int .i64 0] from (k45_mkM _ _ _ (⟨1, 33, 2, 0⟩ : S45) )) (Reps.c4 (show Kd.M k45 _ _ _ (⟨1, (-1), 2, 0⟩ : S45) [.int .i64 1, .int .i64 (-1), .int .i64 2, .int .i64 0] from (k45_mkM _ _ _ (⟨1, (-1), 2, 0⟩ : S45) )) (Reps.c4 (show Kd.M k45 _ _ _ (⟨1, 0, 3, 0⟩ : S45) [.int .i64 1, .int .i64 0, .int .i64 3, .int .i64 0] from (k45_mkM _ _ _ (⟨1, 0, 3, 0⟩ : S45) )) (Reps.c4 (show Kd.M k45 _ _ _ (⟨1, 0, 514, 0⟩ : S45) [.int .i64 1, .int .i64 0, .int .i64 514, .int .i64 0] from (k45_mkM _ _ _ (⟨1, 0, 514, 0⟩ : S45) )) (Reps.c4 (show Kd.M k45 _ _ _ (⟨1, 0, 0, 0⟩ : S45) [.int .i64 1, .int .i64 0, .int .i64 0, .int .i64 0] from (k45_mkM _ _ _ (⟨1, 0, 0, 0⟩ : S45) )) (Reps.c4 (show Kd.M k45 _ _ _ (⟨1, 0, 2, 33⟩ : S45) [.int .i64 1, .int .i64 0, .int .i64 2, .int .i64 33] from (k45_mkM _ _ _ (⟨1, 0, 2, 33⟩ : S45) )) (Reps.c4 (show Kd.M k45 _ _ _ (⟨1, 0, 2, (-1)⟩ : S45) [.int .i64 1, .int .i64 0, .int .i64 2, .int .i64 (-1)] from (k45_mkM _ _ _ (⟨1, 0, 2, (-1)⟩ : S45) )) (Reps.none _ _))))))))))); intro v203 w91 ho92 hb hg_ hnew_; clear hg_ hnew_; (first | rw [← Ny202.out] at ho92 | (simp only [Int.reduceToNat] at ho92; rw [← Ny202.out] at ho92)); have n0_ := Aside0.mk (Kd.R_below (by (with_reducible repeat (first | apply Kd.R_alloc | apply Kd.R_drewN | apply Kd.R_drew)); exact HO_2.out) hb); have n1_ := Aside0.mk (Kd.R_lower ho92 (below_size (by repeat (first | (with_reducible first | exact HB.out | apply below_alloc | apply pw_below_drewN | apply below_drew1 | refine below_set ?_ GE172.out) | exact HB.out)))); have n2_ := Aside0.mk (blk_below (g := gb172) (o := .cells #[.string x173000_1, .int .i64 x173001_1, .int .i64 x173002_1, .int .i64 x173003_1] 23 (0, 0)) (by (with_reducible repeat (first | refine blk_drewN ?_ _ | refine blk_drew ?_ | refine blk_alloc ?_ _)); exact BK172.out) hb); have n3_ := Aside0.mk (below_step (by repeat (first | (with_reducible first | exact HB.out | apply below_alloc | apply pw_below_drewN | apply below_drew1 | refine below_set ?_ GE172.out) | exact HB.out)) hb); clear HO_2; clear BK172; clear HB; have HO_2 := n0_; have HO204 := n1_; have BK172 := n2_; have HB := n3_; clear n0_ n1_ n2_ n3_; clear hb ho92; obtain ⟨Ao93, co93, eo93⟩ := Kd.R_slice HO204.out; subst eo93))
                                    go_loopg [111] k2 (fun kq v111 w' => ∃ (x111_3 : Int), v111 = .int .i64 x111_3 ∧ Aside0 (hamperlaw24_SectorNamesR.l2 kq y202 (y202.length : Int) x111_3 x173000_1 x173001_1 x173002_1 x173003_1 = some r) ∧ Aside0 (kq ≤ k2) ∧ Aside0 (Kd.R k45 45 w' w.heap.size (fun _ => True) (.slice Ao93 y202.length co93) y202) ∧ Aside0 (w'.heap[gb172]? = some (.cells #[.string x173000_1, .int .i64 x173001_1, .int .i64 x173002_1, .int .i64 x173003_1] 23 (0, 0))) ∧ Aside0 (Below w.heap.size w w'))
                                    case atStart => exact ⟨(0), (by first | rfl | (simp; done) | (simp [*]; done)), H', ⟨Nat.le_refl _⟩, ⟨by (try simp only [hl2_2]); (with_reducible repeat (first | apply Kd.R_alloc | apply Kd.R_drewN | apply Kd.R_drew)); exact HO204.out⟩, ⟨by (try simp only [hl2_2]); (with_reducible repeat (first | refine blk_drewN ?_ _ | refine blk_drew ?_ | refine blk_alloc ?_ _)); exact BK172.out⟩, ⟨by repeat (first | (with_reducible first | exact HB.out | apply below_alloc | apply pw_below_drewN | apply below_drew1 | refine below_set ?_ GE172.out) | exact HB.out)⟩⟩
                                    case round =>
                                      clear H'
                                      try clear c1
                                      try clear p1
                                      try clear q1
                                      try clear hx1
                                      try clear p2
                                      try clear q2
                                      try clear hx2
                                      try clear c4
                                      try clear c5
                                      try clear c6
                                      try clear p6
                                      try clear c10
                                      try clear c11
                                      try clear c15
                                      try clear p18
                                      try clear q18
                                      try clear hx18
                                      try clear p19
                                      try clear q19
                                      try clear hx19
                                      try clear p20
                                      try clear q20
                                      try clear hx20
                                      try clear c52
                                      try clear c52b0
                                      try clear c53
                                      try clear c55
                                      try clear c56
                                      try clear p64
                                      try clear c68
                                      try clear c68b0
                                      try clear c68b1
                                      try clear c69
                                      try clear c69b0
                                      try clear c69b1
                                      try clear hx185_0
                                      try clear hx185_1
                                      try clear hx185_2
                                      try clear hx185_3
                                      try clear hx186_0
                                      try clear hx186_1
                                      try clear hx186_2
                                      try clear hx186_3
                                      try clear hx192_0
                                      try clear hx192_1
                                      try clear hx192_2
                                      try clear hx192_3
                                      try clear hx200_0
                                      try clear hx200_1
                                      try clear hx200_2
                                      try clear hx200_3
                                      try clear p185
                                      try clear p186
                                      try clear p192
                                      try clear p200
                                      try clear q185
                                      try clear q186
                                      try clear q192
                                      try clear q200
                                      obtain ⟨x111_3, rfl, HA, HK3, HO_109, BK172, HB⟩ := hrel
                                      cases gk with
                                      | zero => exact absurd HA.out (by simp [hamperlaw24_SectorNamesR.l2])
                                      | succ k3 =>
                                        have H := HA.out
                                        clear HA
                                        simp only [hamperlaw24_SectorNamesR.l2] at H
                                        by_cases c94 : x111_3 < (y202.length : Int)
                                        · rw [if_pos c94] at H
                                          have c94b0 : decide (x111_3 < (y202.length : Int)) = true := decide_eq_true c94
                                          clear c94
                                          by_cases c95 : 0 ≤ x111_3
                                          · rw [if_pos c95] at H
                                            have c95b0 : decide (0 ≤ x111_3) = true := decide_eq_true c95
                                            clear c95
                                            by_cases c96 : x111_3 < (y202.length : Int)
                                            · rw [if_pos c96] at H
                                              have c96b0 : decide (x111_3 < (y202.length : Int)) = true := decide_eq_true c96
                                              clear c96
                                              replace H := Option.bind_eq_some_iff.mp H
                                              obtain ⟨t207, A970, H⟩ := H
                                              replace H : (if t207 = true then (some false) else (hamperlaw24_SectorNamesR.l2 k3 y202 (y202.length : Int) (wrap64 (x111_3 + 1)) x173000_1 x173001_1 x173002_1 x173003_1)) = some r := H
                                              have A97 := Aside0.mk A970
                                              clear A970
                                              by_cases c98 : t207 = true
                                              · subst c98
                                                have H1 : (some false) = some r := by rw [if_pos rfl] at H; exact H
                                                clear H
                                                have H := H1
                                                clear H1
                                                obtain rfl := Option.some.inj H
                                                clear hr_
                                                have p205 : 0 ≤ (x111_3 : Int) := of_decide_eq_true (by first | (with_reducible assumption) | assumption)
                                                have q205 : x111_3 < (y202.length : Int) := of_decide_eq_true (by first | (with_reducible assumption) | assumption)
                                                obtain ⟨ad205, e205, hx205_0, hx205_1, hx205_2, hx205_3⟩ := at_T45 (Kd.R_reads' HO_109.out).2.2 x111_3 p205 q205
                                                cases e205
                                                replace p205 := eq_true p205
                                                replace q205 := eq_true q205
                                                go_wp2_with (first | ((with_reducible refine gate_dst (N := 11) rfl ?_); refine box_event ?hg (N := 11) ?hd (cs := #[.int .i64 0, .int .i64 0, .int .i64 0, .int .i64 0]) (t := 45) ?hr ?_; (case hd => rfl); (case hg => rfl); (case hr => first | (go_simp; done) | (go_simp; rfl)); intro gb206 hg w99 hbox hb; have n0_ := Aside0.mk (Kd.R_below (Kd.R_elderB (by (with_reducible repeat (first | apply Kd.R_alloc | apply Kd.R_drewN | apply Kd.R_drew)); exact HO_109.out) gb206 (Nat.le_of_eq hg.symm)) hb); have n1_ := Aside0.mk (blk_below (g := gb172) (o := .cells #[.string x173000_1, .int .i64 x173001_1, .int .i64 x173002_1, .int .i64 x173003_1] 23 (0, 0)) (by (with_reducible repeat (first | refine blk_drewN ?_ _ | refine blk_drew ?_ | refine blk_alloc ?_ _)); exact BK172.out) hb); have n2_ := Aside0.mk (below_step (by repeat (first | (with_reducible first | exact HB.out | apply below_alloc | apply pw_below_drewN | apply below_drew1 | refine below_set ?_ GE172.out) | exact HB.out)) hb); have n3_ := Aside0.mk (hbox); have n4_ := Aside0.mk ((by rw [hg]; exact (below_size (by repeat (first | (with_reducible first | exact HB.out | apply below_alloc | apply pw_below_drewN | apply below_drew1 | refine below_set ?_ GE172.out) | exact HB.out))) : w.heap.size ≤ gb206)); have n5_ := Aside0.mk ((by rw [hg]; exact (below_size (by repeat (first | (with_reducible first | exact HB.out | apply below_alloc | apply pw_below_drewN | apply below_drew1 | refine below_set ?_ GE172.out) | exact HB.out))) : w.heap.size ≤ gb206)); have n6_ := Aside0.mk ((by rw [hg]; exact Nat.ne_of_lt (blk_lt (g := gb172) (o := .cells #[.string x173000_1, .int .i64 x173001_1, .int .i64 x173002_1, .int .i64 x173003_1] 23 (0, 0)) (by (with_reducible repeat (first | refine blk_drewN ?_ _ | refine blk_drew ?_ | refine blk_alloc ?_ _)); exact BK172.out)) : gb172 ≠ gb206)); have n7_ := Aside0.mk ((by rw [hg]; exact Nat.ne_of_gt (blk_lt (g := gb172) (o := .cells #[.string x173000_1, .int .i64 x173001_1, .int .i64 x173002_1, .int .i64 x173003_1] 23 (0, 0)) (by (with_reducible repeat (first | refine blk_drewN ?_ _ | refine blk_drew ?_ | refine blk_alloc ?_ _)); exact BK172.out)) : gb206 ≠ gb172)); clear HO_109; clear BK172; clear HB; have HO_109 := n0_; have BK172 := n1_; have HB := n2_; have BK206 := n3_; have GW206 := n4_; have GE206 := n5_; have NB172_206 := n6_; have NB206_172 := n7_; clear n0_ n1_ n2_ n3_ n4_ n5_ n6_ n7_; clear hb hbox hg; have hnb100 := NB206_172.out; have hnc100 := NB172_206.out; have hcz101_0 : w99.cell? ⟨gb206, 0, none⟩ = some (.int .i64 0) := (blk_cell BK206.out 0).trans rfl; have hcz101_1 : w99.cell? ⟨gb206, 1, none⟩ = some (.int .i64 0) := (blk_cell BK206.out 1).trans rfl; have hcz101_2 : w99.cell? ⟨gb206, 2, none⟩ = some (.int .i64 0) := (blk_cell BK206.out 2).trans rfl; have hcz101_3 : w99.cell? ⟨gb206, 3, none⟩ = some (.int .i64 0) := (blk_cell BK206.out 3).trans rfl; have hfz101_0 := blk_frozen BK206.out 0; have hfz101_1 := blk_frozen BK206.out 1; have hfz101_2 := blk_frozen BK206.out 2; have hfz101_3 := blk_frozen BK206.out 3) | ((with_reducible refine gate_callee (f := 21) rfl ?_); refine goesL_ (some 116) rfl rfl Try.func21 (by kernel_rfl) rfl #[.agg #[.int .i64 ((rd_T45 y202 x111_3).f0), .int .i64 ((rd_T45 y202 x111_3).f1), .int .i64 ((rd_T45 y202 x111_3).f2), .int .i64 ((rd_T45 y202 x111_3).f3)]] rfl (by (try simp only [List.map_toArray, List.map_cons, List.map_nil]); first | done | rfl | (simp only [List.length_drop, List.length_take]; rfl)) ?_; (with_reducible refine (sector_Shape.calls ((rd_T45 y202 x111_3).f0) ((rd_T45 y202 x111_3).f1) ((rd_T45 y202 x111_3).f2) ((rd_T45 y202 x111_3).f3) true _ A97.out).mono ?_); rintro e w102 ⟨rfl, hb⟩; refine ⟨_, rfl, ?_⟩; have n0_ := Aside0.mk (Kd.R_below (by (with_reducible repeat (first | apply Kd.R_alloc | apply Kd.R_drewN | apply Kd.R_drew)); exact (Kd.R_mono (Kd.R_far (p := ⟨gb206, 3, none⟩) (Kd.R_far (p := ⟨gb206, 2, none⟩) (Kd.R_far (p := ⟨gb206, 1, none⟩) (Kd.R_far (p := ⟨gb206, 0, none⟩) (Kd.R_mono HO_109.out (fun k_ hk => (⟨hk, hk.2⟩ : _ ∧ k_ ≠ gb206))) (fun _ hk => hk.2) (.int .i64 ((rd_T45 y202 x111_3).f0))) (fun _ hk => hk.2) (.int .i64 ((rd_T45 y202 x111_3).f1))) (fun _ hk => hk.2) (.int .i64 ((rd_T45 y202 x111_3).f2))) (fun _ hk => hk.2) (.int .i64 ((rd_T45 y202 x111_3).f3))) (fun _ h_ => h_.1))) hb); have n1_ := Aside0.mk (blk_below (g := gb172) (o := .cells #[.string x173000_1, .int .i64 x173001_1, .int .i64 x173002_1, .int .i64 x173003_1] 23 (0, 0)) (by (with_reducible repeat (first | refine blk_drewN ?_ _ | refine blk_drew ?_ | refine blk_alloc ?_ _)); refine blk_far ?_ NB172_206.out _; (with_reducible repeat (first | refine blk_drewN ?_ _ | refine blk_drew ?_ | refine blk_alloc ?_ _)); refine blk_far ?_ NB172_206.out _; (with_reducible repeat (first | refine blk_drewN ?_ _ | refine blk_drew ?_ | refine blk_alloc ?_ _)); refine blk_far ?_ NB172_206.out _; (with_reducible repeat (first | refine blk_drewN ?_ _ | refine blk_drew ?_ | refine blk_alloc ?_ _)); refine blk_far ?_ NB172_206.out _; (with_reducible repeat (first | refine blk_drewN ?_ _ | refine blk_drew ?_ | refine blk_alloc ?_ _)); exact BK172.out) hb); have n2_ := Aside0.mk (blk_below (g := gb206) (o := .cells #[.int .i64 ((rd_T45 y202 x111_3).f0), .int .i64 ((rd_T45 y202 x111_3).f1), .int .i64 ((rd_T45 y202 x111_3).f2), .int .i64 ((rd_T45 y202 x111_3).f3)] 45 (0, 0)) (by (with_reducible repeat (first | refine blk_drewN ?_ _ | refine blk_drew ?_ | refine blk_alloc ?_ _)); refine blk_put (cs := #[.int .i64 ((rd_T45 y202 x111_3).f0), .int .i64 ((rd_T45 y202 x111_3).f1), .int .i64 ((rd_T45 y202 x111_3).f2), .int .i64 0]) ?_ 3 _ rfl; (with_reducible repeat (first | refine blk_drewN ?_ _ | refine blk_drew ?_ | refine blk_alloc ?_ _)); refine blk_put (cs := #[.int .i64 ((rd_T45 y202 x111_3).f0), .int .i64 ((rd_T45 y202 x111_3).f1), .int .i64 0, .int .i64 0]) ?_ 2 _ rfl; (with_reducible repeat (first | refine blk_drewN ?_ _ | refine blk_drew ?_ | refine blk_alloc ?_ _)); refine blk_put (cs := #[.int .i64 ((rd_T45 y202 x111_3).f0), .int .i64 0, .int .i64 0, .int .i64 0]) ?_ 1 _ rfl; (with_reducible repeat (first | refine blk_drewN ?_ _ | refine blk_drew ?_ | refine blk_alloc ?_ _)); refine blk_put (cs := #[.int .i64 0, .int .i64 0, .int .i64 0, .int .i64 0]) ?_ 0 _ rfl; (with_reducible repeat (first | refine blk_drewN ?_ _ | refine blk_drew ?_ | refine blk_alloc ?_ _)); exact BK206.out) hb); have n3_ := Aside0.mk (below_step (by repeat (first | (with_reducible first | exact HB.out | apply below_alloc | apply pw_below_drewN | apply below_drew1 | refine below_set ?_ GE172.out | refine below_set ?_ GE206.out) | exact HB.out)) hb); clear HO_109; clear BK172; clear BK206; clear HB; have HO_109 := n0_; have BK172 := n1_; have BK206 := n2_; have HB := n3_; clear n0_ n1_ n2_ n3_; (try clear hb); (try clear hb2); (try clear hk); (try clear hi)))
                                                go_ret
                                                exact ⟨by first | rfl | (simp [errW_none, errW_some] <;> rfl) | (simp [*, errW_none, errW_some] <;> rfl), by repeat (first | (with_reducible first | exact HB.out | apply below_alloc | apply pw_below_drewN | apply below_drew1 | refine below_set ?_ GE172.out | refine below_set ?_ GE206.out) | exact HB.out)⟩
                                              · replace c98 := Bool.eq_false_iff.mpr c98
                                                subst c98
                                                have H1 : (hamperlaw24_SectorNamesR.l2 k3 y202 (y202.length : Int) (wrap64 (x111_3 + 1)) x173000_1 x173001_1 x173002_1 x173003_1) = some r := by rw [if_neg (show ¬ (false = true) by decide)] at H; exact H
                                                clear H
                                                have H := H1
                                                clear H1
                                                have H' := Aside0.mk H
                                                clear H
                                                have p205 : 0 ≤ (x111_3 : Int) := of_decide_eq_true (by first | (with_reducible assumption) | assumption)
                                                have q205 : x111_3 < (y202.length : Int) := of_decide_eq_true (by first | (with_reducible assumption) | assumption)
                                                obtain ⟨ad205, e205, hx205_0, hx205_1, hx205_2, hx205_3⟩ := at_T45 (Kd.R_reads' HO_109.out).2.2 x111_3 p205 q205
                                                cases e205
                                                replace p205 := eq_true p205
                                                replace q205 := eq_true q205
                                                go_wp2_with (first | ((with_reducible refine gate_dst (N := 11) rfl ?_); refine box_event ?hg (N := 11) ?hd (cs := #[.int .i64 0, .int .i64 0, .int .i64 0, .int .i64 0]) (t := 45) ?hr ?_; (case hd => rfl); (case hg => rfl); (case hr => first | (go_simp; done) | (go_simp; rfl)); intro gb206 hg w103 hbox hb; have n0_ := Aside0.mk (Kd.R_below (Kd.R_elderB (by (with_reducible repeat (first | apply Kd.R_alloc | apply Kd.R_drewN | apply Kd.R_drew)); exact HO_109.out) gb206 (Nat.le_of_eq hg.symm)) hb); have n1_ := Aside0.mk (blk_below (g := gb172) (o := .cells #[.string x173000_1, .int .i64 x173001_1, .int .i64 x173002_1, .int .i64 x173003_1] 23 (0, 0)) (by (with_reducible repeat (first | refine blk_drewN ?_ _ | refine blk_drew ?_ | refine blk_alloc ?_ _)); exact BK172.out) hb); have n2_ := Aside0.mk (below_step (by repeat (first | (with_reducible first | exact HB.out | apply below_alloc | apply pw_below_drewN | apply below_drew1 | refine below_set ?_ GE172.out) | exact HB.out)) hb); have n3_ := Aside0.mk (hbox); have n4_ := Aside0.mk ((by rw [hg]; exact (below_size (by repeat (first | (with_reducible first | exact HB.out | apply below_alloc | apply pw_below_drewN | apply below_drew1 | refine below_set ?_ GE172.out) | exact HB.out))) : w.heap.size ≤ gb206)); have n5_ := Aside0.mk ((by rw [hg]; exact (below_size (by repeat (first | (with_reducible first | exact HB.out | apply below_alloc | apply pw_below_drewN | apply below_drew1 | refine below_set ?_ GE172.out) | exact HB.out))) : w.heap.size ≤ gb206)); have n6_ := Aside0.mk ((by rw [hg]; exact Nat.ne_of_lt (blk_lt (g := gb172) (o := .cells #[.string x173000_1, .int .i64 x173001_1, .int .i64 x173002_1, .int .i64 x173003_1] 23 (0, 0)) (by (with_reducible repeat (first | refine blk_drewN ?_ _ | refine blk_drew ?_ | refine blk_alloc ?_ _)); exact BK172.out)) : gb172 ≠ gb206)); have n7_ := Aside0.mk ((by rw [hg]; exact Nat.ne_of_gt (blk_lt (g := gb172) (o := .cells #[.string x173000_1, .int .i64 x173001_1, .int .i64 x173002_1, .int .i64 x173003_1] 23 (0, 0)) (by (with_reducible repeat (first | refine blk_drewN ?_ _ | refine blk_drew ?_ | refine blk_alloc ?_ _)); exact BK172.out)) : gb206 ≠ gb172)); clear HO_109; clear BK172; clear HB; have HO_109 := n0_; have BK172 := n1_; have HB := n2_; have BK206 := n3_; have GW206 := n4_; have GE206 := n5_; have NB172_206 := n6_; have NB206_172 := n7_; clear n0_ n1_ n2_ n3_ n4_ n5_ n6_ n7_; clear hb hbox hg; have hnb104 := NB206_172.out; have hnc104 := NB172_206.out; have hcz105_0 : w103.cell? ⟨gb206, 0, none⟩ = some (.int .i64 0) := (blk_cell BK206.out 0).trans rfl; have hcz105_1 : w103.cell? ⟨gb206, 1, none⟩ = some (.int .i64 0) := (blk_cell BK206.out 1).trans rfl; have hcz105_2 : w103.cell? ⟨gb206, 2, none⟩ = some (.int .i64 0) := (blk_cell BK206.out 2).trans rfl; have hcz105_3 : w103.cell? ⟨gb206, 3, none⟩ = some (.int .i64 0) := (blk_cell BK206.out 3).trans rfl; have hfz105_0 := blk_frozen BK206.out 0; have hfz105_1 := blk_frozen BK206.out 1; have hfz105_2 := blk_frozen BK206.out 2; have hfz105_3 := blk_frozen BK206.out 3) | ((with_reducible refine gate_callee (f := 21) rfl ?_); refine goesL_ (some 116) rfl rfl Try.func21 (by kernel_rfl) rfl #[.agg #[.int .i64 ((rd_T45 y202 x111_3).f0), .int .i64 ((rd_T45 y202 x111_3).f1), .int .i64 ((rd_T45 y202 x111_3).f2), .int .i64 ((rd_T45 y202 x111_3).f3)]] rfl (by (try simp only [List.map_toArray, List.map_cons, List.map_nil]); first | done | rfl | (simp only [List.length_drop, List.length_take]; rfl)) ?_; (with_reducible refine (sector_Shape.calls ((rd_T45 y202 x111_3).f0) ((rd_T45 y202 x111_3).f1) ((rd_T45 y202 x111_3).f2) ((rd_T45 y202 x111_3).f3) false _ A97.out).mono ?_); rintro e w106 ⟨rfl, hb⟩; refine ⟨_, rfl, ?_⟩; have n0_ := Aside0.mk (Kd.R_below (by (with_reducible repeat (first | apply Kd.R_alloc | apply Kd.R_drewN | apply Kd.R_drew)); exact (Kd.R_mono (Kd.R_far (p := ⟨gb206, 3, none⟩) (Kd.R_far (p := ⟨gb206, 2, none⟩) (Kd.R_far (p := ⟨gb206, 1, none⟩) (Kd.R_far (p := ⟨gb206, 0, none⟩) (Kd.R_mono HO_109.out (fun k_ hk => (⟨hk, hk.2⟩ : _ ∧ k_ ≠ gb206))) (fun _ hk => hk.2) (.int .i64 ((rd_T45 y202 x111_3).f0))) (fun _ hk => hk.2) (.int .i64 ((rd_T45 y202 x111_3).f1))) (fun _ hk => hk.2) (.int .i64 ((rd_T45 y202 x111_3).f2))) (fun _ hk => hk.2) (.int .i64 ((rd_T45 y202 x111_3).f3))) (fun _ h_ => h_.1))) hb); have n1_ := Aside0.mk (blk_below (g := gb172) (o := .cells #[.string x173000_1, .int .i64 x173001_1, .int .i64 x173002_1, .int .i64 x173003_1] 23 (0, 0)) (by (with_reducible repeat (first | refine blk_drewN ?_ _ | refine blk_drew ?_ | refine blk_alloc ?_ _)); refine blk_far ?_ NB172_206.out _; (with_reducible repeat (first | refine blk_drewN ?_ _ | refine blk_drew ?_ | refine blk_alloc ?_ _)); refine blk_far ?_ NB172_206.out _; (with_reducible repeat (first | refine blk_drewN ?_ _ | refine blk_drew ?_ | refine blk_alloc ?_ _)); refine blk_far ?_ NB172_206.out _; (with_reducible repeat (first | refine blk_drewN ?_ _ | refine blk_drew ?_ | refine blk_alloc ?_ _)); refine blk_far ?_ NB172_206.out _; (with_reducible repeat (first | refine blk_drewN ?_ _ | refine blk_drew ?_ | refine blk_alloc ?_ _)); exact BK172.out) hb); have n2_ := Aside0.mk (blk_below (g := gb206) (o := .cells #[.int .i64 ((rd_T45 y202 x111_3).f0), .int .i64 ((rd_T45 y202 x111_3).f1), .int .i64 ((rd_T45 y202 x111_3).f2), .int .i64 ((rd_T45 y202 x111_3).f3)] 45 (0, 0)) (by (with_reducible repeat (first | refine blk_drewN ?_ _ | refine blk_drew ?_ | refine blk_alloc ?_ _)); refine blk_put (cs := #[.int .i64 ((rd_T45 y202 x111_3).f0), .int .i64 ((rd_T45 y202 x111_3).f1), .int .i64 ((rd_T45 y202 x111_3).f2), .int .i64 0]) ?_ 3 _ rfl; (with_reducible repeat (first | refine blk_drewN ?_ _ | refine blk_drew ?_ | refine blk_alloc ?_ _)); refine blk_put (cs := #[.int .i64 ((rd_T45 y202 x111_3).f0), .int .i64 ((rd_T45 y202 x111_3).f1), .int .i64 0, .int .i64 0]) ?_ 2 _ rfl; (with_reducible repeat (first | refine blk_drewN ?_ _ | refine blk_drew ?_ | refine blk_alloc ?_ _)); refine blk_put (cs := #[.int .i64 ((rd_T45 y202 x111_3).f0), .int .i64 0, .int .i64 0, .int .i64 0]) ?_ 1 _ rfl; (with_reducible repeat (first | refine blk_drewN ?_ _ | refine blk_drew ?_ | refine blk_alloc ?_ _)); refine blk_put (cs := #[.int .i64 0, .int .i64 0, .int .i64 0, .int .i64 0]) ?_ 0 _ rfl; (with_reducible repeat (first | refine blk_drewN ?_ _ | refine blk_drew ?_ | refine blk_alloc ?_ _)); exact BK206.out) hb); have n3_ := Aside0.mk (below_step (by repeat (first | (with_reducible first | exact HB.out | apply below_alloc | apply pw_below_drewN | apply below_drew1 | refine below_set ?_ GE172.out | refine below_set ?_ GE206.out) | exact HB.out)) hb); clear HO_109; clear BK172; clear BK206; clear HB; have HO_109 := n0_; have BK172 := n1_; have BK206 := n2_; have HB := n3_; clear n0_ n1_ n2_ n3_; (try clear hb); (try clear hb2); (try clear hk); (try clear hi)))
                                                go_roundg k3
                                                case measure => have := HK1.out; have := HK2.out; have := HK3.out; omega
                                                case rel => exact ⟨(wrap64 (x111_3 + 1)), (by first | rfl | (simp; done) | (simp [*]; done)), (by first | exact H' | (rw [hji54]; exact H') | (simp only [hji54]; exact H')), ⟨by have := HK1.out; have := HK2.out; have := HK3.out; omega⟩, ⟨by (try simp only [hl2_2]); (with_reducible repeat (first | apply Kd.R_alloc | apply Kd.R_drewN | apply Kd.R_drew)); exact Kd.R_mono HO_109.out (fun _ hk => trivial)⟩, ⟨by (try simp only [hl2_2]); (with_reducible repeat (first | refine blk_drewN ?_ _ | refine blk_drew ?_ | refine blk_alloc ?_ _)); exact BK172.out⟩, ⟨by repeat (first | (with_reducible first | exact HB.out | apply below_alloc | apply pw_below_drewN | apply below_drew1 | refine below_set ?_ GE172.out | refine below_set ?_ GE206.out) | exact HB.out)⟩⟩
                                            · rw [if_neg c96] at H
                                              exact absurd H (by simp)
                                          · rw [if_neg c95] at H
                                            exact absurd H (by simp)
                                        · rw [if_neg c94] at H
                                          have c94b0 : decide (x111_3 < (y202.length : Int)) = false := decide_eq_false c94
                                          clear c94
                                          have HC107 := Aside0.mk H
                                          clear H
                                          go_upto_region 28 with (fail)
                                          go_cut [125] (fun v125 wc => ∃ (kq : Nat) (x125_106 : Bool), v125 = .bool x125_106 ∧ Aside0 (hamperlaw24_SectorNamesR.j3 kq x125_106 x173000_1 x173001_1 x173002_1 x173003_1 = some r) ∧ Aside0 (kq ≤ k3) ∧ Aside0 (wc.heap[gb172]? = some (.cells #[.string x173000_1, .int .i64 x173001_1, .int .i64 x173002_1, .int .i64 x173003_1] 23 (0, 0))) ∧ Aside0 (Below w.heap.size w wc))
                                          case first =>
                                            have H := HC107.out
                                            clear HC107
                                            replace H := Option.bind_eq_some_iff.mp H
                                            obtain ⟨t208, A1080, H⟩ := H
                                            replace H : (if t208 = true then ((sector_Shape.f 1 0 2 0).bind fun t209 => (hamperlaw24_SectorNamesR.j3 k3 (!t209) x173000_1 x173001_1 x173002_1 x173003_1)) else (hamperlaw24_SectorNamesR.j3 k3 true x173000_1 x173001_1 x173002_1 x173003_1)) = some r := H
                                            have A108 := Aside0.mk A1080
                                            clear A1080
                                            by_cases c109 : t208 = true
                                            · subst c109
                                              have H1 : ((sector_Shape.f 1 0 2 0).bind fun t209 => (hamperlaw24_SectorNamesR.j3 k3 (!t209) x173000_1 x173001_1 x173002_1 x173003_1)) = some r := by rw [if_pos rfl] at H; exact H
                                              clear H
                                              have H := H1
                                              clear H1
                                              replace H := Option.bind_eq_some_iff.mp H
                                              obtain ⟨t209, A1100, H⟩ := H
                                              replace H : (hamperlaw24_SectorNamesR.j3 k3 (!t209) x173000_1 x173001_1 x173002_1 x173003_1) = some r := H
                                              have A110 := Aside0.mk A1100
                                              clear A1100
                                              have H' := Aside0.mk H
                                              clear H
                                              go_wp2_with (first | ((with_reducible refine gate_callee (f := 21) rfl ?_); refine goesL_ (some 119) rfl rfl Try.func21 (by kernel_rfl) rfl #[.agg #[.int .i64 64, .int .i64 32, .int .i64 512, .int .i64 32]] rfl (by (try simp only [List.map_toArray, List.map_cons, List.map_nil]); first | done | rfl | (simp only [List.length_drop, List.length_take]; rfl)) ?_; (with_reducible refine (sector_Shape.calls 64 32 512 32 true _ A108.out).mono ?_); rintro e w111 ⟨rfl, hb⟩; refine ⟨_, rfl, ?_⟩; have n0_ := Aside0.mk (Kd.R_below (by (with_reducible repeat (first | apply Kd.R_alloc | apply Kd.R_drewN | apply Kd.R_drew)); exact HO_109.out) hb); have n1_ := Aside0.mk (blk_below (g := gb172) (o := .cells #[.string x173000_1, .int .i64 x173001_1, .int .i64 x173002_1, .int .i64 x173003_1] 23 (0, 0)) (by (with_reducible repeat (first | refine blk_drewN ?_ _ | refine blk_drew ?_ | refine blk_alloc ?_ _)); exact BK172.out) hb); have n2_ := Aside0.mk (below_step (by repeat (first | (with_reducible first | exact HB.out | apply below_alloc | apply pw_below_drewN | apply below_drew1 | refine below_set ?_ GE172.out) | exact HB.out)) hb); clear HO_109; clear BK172; clear HB; have HO_109 := n0_; have BK172 := n1_; have HB := n2_; clear n0_ n1_ n2_; (try clear hb); (try clear hb2); (try clear hk); (try clear hi)) | (go_at_call 21; (with_reducible refine (sector_Shape.calls 1 0 2 0 t209 _ A110.out).mono ?_); rintro e w112 ⟨rfl, hb⟩; have n0_ := Aside0.mk (Kd.R_below (by (with_reducible repeat (first | apply Kd.R_alloc | apply Kd.R_drewN | apply Kd.R_drew)); exact HO_109.out) hb); have n1_ := Aside0.mk (blk_below (g := gb172) (o := .cells #[.string x173000_1, .int .i64 x173001_1, .int .i64 x173002_1, .int .i64 x173003_1] 23 (0, 0)) (by (with_reducible repeat (first | refine blk_drewN ?_ _ | refine blk_drew ?_ | refine blk_alloc ?_ _)); exact BK172.out) hb); have n2_ := Aside0.mk (below_step (by repeat (first | (with_reducible first | exact HB.out | apply below_alloc | apply pw_below_drewN | apply below_drew1 | refine below_set ?_ GE172.out) | exact HB.out)) hb); clear HO_109; clear BK172; clear HB; have HO_109 := n0_; have BK172 := n1_; have HB := n2_; clear n0_ n1_ n2_; (try clear hb); (try clear hb2); (try clear hk); (try clear hi)))
                                              go_meet
                                              case rel => exact ⟨_, (!t209), (by first | rfl | (simp; done) | (simp [*]; done)), (by first | exact H' | (rw [hji54]; exact H') | (simp only [hji54]; exact H')), ⟨by have := HK1.out; have := HK2.out; have := HK3.out; first | omega | exact Nat.le_refl _⟩, ⟨by (try simp only [hl2_2]); (with_reducible repeat (first | refine blk_drewN ?_ _ | refine blk_drew ?_ | refine blk_alloc ?_ _)); exact BK172.out⟩, ⟨by repeat (first | (with_reducible first | exact HB.out | apply below_alloc | apply pw_below_drewN | apply below_drew1 | refine below_set ?_ GE172.out) | exact HB.out)⟩⟩
                                            · replace c109 := Bool.eq_false_iff.mpr c109
                                              subst c109
                                              have H1 : (hamperlaw24_SectorNamesR.j3 k3 true x173000_1 x173001_1 x173002_1 x173003_1) = some r := by rw [if_neg (show ¬ (false = true) by decide)] at H; exact H
                                              clear H
                                              have H := H1
                                              clear H1
                                              have H' := Aside0.mk H
                                              clear H
                                              go_wp2_with (first | ((with_reducible refine gate_callee (f := 21) rfl ?_); refine goesL_ (some 119) rfl rfl Try.func21 (by kernel_rfl) rfl #[.agg #[.int .i64 64, .int .i64 32, .int .i64 512, .int .i64 32]] rfl (by (try simp only [List.map_toArray, List.map_cons, List.map_nil]); first | done | rfl | (simp only [List.length_drop, List.length_take]; rfl)) ?_; (with_reducible refine (sector_Shape.calls 64 32 512 32 false _ A108.out).mono ?_); rintro e w113 ⟨rfl, hb⟩; refine ⟨_, rfl, ?_⟩; have n0_ := Aside0.mk (Kd.R_below (by (with_reducible repeat (first | apply Kd.R_alloc | apply Kd.R_drewN | apply Kd.R_drew)); exact HO_109.out) hb); have n1_ := Aside0.mk (blk_below (g := gb172) (o := .cells #[.string x173000_1, .int .i64 x173001_1, .int .i64 x173002_1, .int .i64 x173003_1] 23 (0, 0)) (by (with_reducible repeat (first | refine blk_drewN ?_ _ | refine blk_drew ?_ | refine blk_alloc ?_ _)); exact BK172.out) hb); have n2_ := Aside0.mk (below_step (by repeat (first | (with_reducible first | exact HB.out | apply below_alloc | apply pw_below_drewN | apply below_drew1 | refine below_set ?_ GE172.out) | exact HB.out)) hb); clear HO_109; clear BK172; clear HB; have HO_109 := n0_; have BK172 := n1_; have HB := n2_; clear n0_ n1_ n2_; (try clear hb); (try clear hb2); (try clear hk); (try clear hi)))
                                              go_meet
                                              case rel => exact ⟨_, (true), (by first | rfl | (simp; done) | (simp [*]; done)), (by first | exact H' | (rw [hji54]; exact H') | (simp only [hji54]; exact H')), ⟨by have := HK1.out; have := HK2.out; have := HK3.out; first | omega | exact Nat.le_refl _⟩, ⟨by (try simp only [hl2_2]); (with_reducible repeat (first | refine blk_drewN ?_ _ | refine blk_drew ?_ | refine blk_alloc ?_ _)); exact BK172.out⟩, ⟨by repeat (first | (with_reducible first | exact HB.out | apply below_alloc | apply pw_below_drewN | apply below_drew1 | refine below_set ?_ GE172.out) | exact HB.out)⟩⟩
                                          case rest =>
                                            clear HC107
                                            try clear c1
                                            try clear p1
                                            try clear q1
                                            try clear hx1
                                            try clear c2
                                            try clear p2
                                            try clear q2
                                            try clear hx2
                                            try clear c4
                                            try clear c5
                                            try clear c6
                                            try clear p6
                                            try clear c9
                                            try clear c10
                                            try clear c11
                                            try clear c15
                                            try clear p18
                                            try clear q18
                                            try clear hx18
                                            try clear p19
                                            try clear q19
                                            try clear hx19
                                            try clear p20
                                            try clear q20
                                            try clear hx20
                                            try clear c21
                                            try clear c52
                                            try clear c52b0
                                            try clear c53
                                            try clear c55
                                            try clear c56
                                            try clear p64
                                            try clear c68
                                            try clear c68b0
                                            try clear c68b1
                                            try clear c69
                                            try clear c69b0
                                            try clear c69b1
                                            try clear c94
                                            try clear c94b0
                                            try clear c95
                                            try clear c95b0
                                            try clear c96
                                            try clear c96b0
                                            try clear c98
                                            try clear c100
                                            try clear c104
                                            try clear c109
                                            try clear hcz101_0
                                            try clear hcz101_1
                                            try clear hcz101_2
                                            try clear hcz101_3
                                            try clear hcz105_0
                                            try clear hcz105_1
                                            try clear hcz105_2
                                            try clear hcz105_3
                                            try clear hfz101_0
                                            try clear hfz101_1
                                            try clear hfz101_2
                                            try clear hfz101_3
                                            try clear hfz105_0
                                            try clear hfz105_1
                                            try clear hfz105_2
                                            try clear hfz105_3
                                            try clear hx185_0
                                            try clear hx185_1
                                            try clear hx185_2
                                            try clear hx185_3
                                            try clear hx186_0
                                            try clear hx186_1
                                            try clear hx186_2
                                            try clear hx186_3
                                            try clear hx192_0
                                            try clear hx192_1
                                            try clear hx192_2
                                            try clear hx192_3
                                            try clear hx200_0
                                            try clear hx200_1
                                            try clear hx200_2
                                            try clear hx200_3
                                            try clear hx205_0
                                            try clear hx205_1
                                            try clear hx205_2
                                            try clear hx205_3
                                            try clear p1
                                            try clear p18
                                            try clear p185
                                            try clear p186
                                            try clear p19
                                            try clear p192
                                            try clear p2
                                            try clear p20
                                            try clear p200
                                            try clear p205
                                            try clear p6
                                            try clear p64
                                            try clear q1
                                            try clear q18
                                            try clear q185
                                            try clear q186
                                            try clear q19
                                            try clear q192
                                            try clear q2
                                            try clear q20
                                            try clear q200
                                            try clear q205
                                            obtain ⟨kq, x125_106, rfl, HA, HJ106, BK172, HB⟩ := hcut
                                            cases kq with
                                            | zero => exact absurd HA.out (by simp [hamperlaw24_SectorNamesR.j3])
                                            | succ kj106 =>
                                              have H := HA.out
                                              clear HA
                                              simp only [hamperlaw24_SectorNamesR.j3] at H
                                              by_cases c114 : x125_106 = true
                                              · subst c114
                                                have H1 : (some false) = some r := by rw [if_pos rfl] at H; exact H
                                                clear H
                                                have H := H1
                                                clear H1
                                                obtain rfl := Option.some.inj H
                                                clear hr_
                                                go_wp2
                                                go_ret
                                                exact ⟨by first | rfl | (simp [errW_none, errW_some] <;> rfl) | (simp [*, errW_none, errW_some] <;> rfl), by repeat (first | (with_reducible first | exact HB.out | apply below_alloc | apply pw_below_drewN | apply below_drew1 | refine below_set ?_ GE172.out) | exact HB.out)⟩
                                              · replace c114 := Bool.eq_false_iff.mpr c114
                                                subst c114
                                                have H1 : ((sector_Join.f kj106 x173000_1 x173001_1 x173002_1 x173003_1 (([(⟨#[97, 98, 99, 100]⟩ : ByteArray)] : List ByteArray))).bind fun bt213 => ((sector_Join.f kj106 x173000_1 x173001_1 x173002_1 x173003_1 (([(⟨#[97, 98, 99, 100]⟩ : ByteArray), (⟨#[97, 98, 99]⟩ : ByteArray)] : List ByteArray))).bind fun bt218 => ((sector_May.f x173000_1 x173001_1 x173002_1 x173003_1).bind fun t220 => (if t220 = true then (if bt213.2 = 1 then (if bt218.2 = 1 then ((hamperlaw24_awake.f).bind fun t221 => (some t221)) else (some false)) else (some false)) else (some false))))) = some r := by rw [if_neg (show ¬ (false = true) by decide)] at H; exact H
                                                clear H
                                                have H := H1
                                                clear H1
                                                obtain ⟨y210, hy210⟩ : ∃ y_ : List ByteArray, y_ = (([(⟨#[97, 98, 99, 100]⟩ : ByteArray)] : List ByteArray)) := ⟨_, rfl⟩
                                                replace H : ((sector_Join.f kj106 x173000_1 x173001_1 x173002_1 x173003_1 y210).bind fun bt213 => ((sector_Join.f kj106 x173000_1 x173001_1 x173002_1 x173003_1 (([(⟨#[97, 98, 99, 100]⟩ : ByteArray), (⟨#[97, 98, 99]⟩ : ByteArray)] : List ByteArray))).bind fun bt218 => ((sector_May.f x173000_1 x173001_1 x173002_1 x173003_1).bind fun t220 => (if t220 = true then (if bt213.2 = 1 then (if bt218.2 = 1 then ((hamperlaw24_awake.f).bind fun t221 => (some t221)) else (some false)) else (some false)) else (some false))))) = some r := by first | (rw [hy210]; with_reducible exact H) | (have H2_ := (Option.bind_some _ _).symm.trans H; rw [hy210]; with_reducible exact H2_) | (have H2_ := (Option.bind_some _ _).symm.trans H; with_reducible exact H2_) | with_reducible exact H | (rw [hy210]; exact H) | exact H
                                                have Ny210 := Aside0.mk hy210
                                                clear hy210
                                                replace H := Option.bind_eq_some_iff.mp H
                                                obtain ⟨⟨t213, t214⟩, A1150, H⟩ := H
                                                replace H : ((sector_Join.f kj106 x173000_1 x173001_1 x173002_1 x173003_1 (([(⟨#[97, 98, 99, 100]⟩ : ByteArray), (⟨#[97, 98, 99]⟩ : ByteArray)] : List ByteArray))).bind fun bt218 => ((sector_May.f x173000_1 x173001_1 x173002_1 x173003_1).bind fun t220 => (if t220 = true then (if t214 = 1 then (if bt218.2 = 1 then ((hamperlaw24_awake.f).bind fun t221 => (some t221)) else (some false)) else (some false)) else (some false)))) = some r := H
                                                have A115 := Aside0.mk A1150
                                                clear A1150
                                                obtain ⟨y215, hy215⟩ : ∃ y_ : List ByteArray, y_ = (([(⟨#[97, 98, 99, 100]⟩ : ByteArray), (⟨#[97, 98, 99]⟩ : ByteArray)] : List ByteArray)) := ⟨_, rfl⟩
                                                replace H : ((sector_Join.f kj106 x173000_1 x173001_1 x173002_1 x173003_1 y215).bind fun bt218 => ((sector_May.f x173000_1 x173001_1 x173002_1 x173003_1).bind fun t220 => (if t220 = true then (if t214 = 1 then (if bt218.2 = 1 then ((hamperlaw24_awake.f).bind fun t221 => (some t221)) else (some false)) else (some false)) else (some false)))) = some r := by first | (rw [hy215]; with_reducible exact H) | (have H2_ := (Option.bind_some _ _).symm.trans H; rw [hy215]; with_reducible exact H2_) | (have H2_ := (Option.bind_some _ _).symm.trans H; with_reducible exact H2_) | with_reducible exact H | (rw [hy215]; exact H) | exact H
                                                have Ny215 := Aside0.mk hy215
                                                clear hy215
                                                replace H := Option.bind_eq_some_iff.mp H
                                                obtain ⟨⟨t218, t219⟩, A1160, H⟩ := H
                                                replace H : ((sector_May.f x173000_1 x173001_1 x173002_1 x173003_1).bind fun t220 => (if t220 = true then (if t214 = 1 then (if t219 = 1 then ((hamperlaw24_awake.f).bind fun t221 => (some t221)) else (some false)) else (some false)) else (some false))) = some r := H
                                                have A116 := Aside0.mk A1160
                                                clear A1160
                                                replace H := Option.bind_eq_some_iff.mp H
                                                obtain ⟨t220, A1170, H⟩ := H
                                                replace H : (if t220 = true then (if t214 = 1 then (if t219 = 1 then ((hamperlaw24_awake.f).bind fun t221 => (some t221)) else (some false)) else (some false)) else (some false)) = some r := H
                                                have A117 := Aside0.mk A1170
                                                clear A1170
                                                by_cases c118 : t220 = true
                                                · subst c118
                                                  have H1 : (if t214 = 1 then (if t219 = 1 then ((hamperlaw24_awake.f).bind fun t221 => (some t221)) else (some false)) else (some false)) = some r := by rw [if_pos rfl] at H; exact H
                                                  clear H
                                                  have H := H1
                                                  clear H1
                                                  by_cases c119 : t214 = 1
                                                  · rw [if_pos c119] at H
                                                    have c119b0 : (t214 == 1) = true := beq_iff_eq.mpr c119
                                                    have c119b1 : (t214 != 1) = false := bne_eq_false_iff_eq.mpr c119
                                                    clear c119
                                                    by_cases c120 : t219 = 1
                                                    · rw [if_pos c120] at H
                                                      have c120b0 : (t219 == 1) = true := beq_iff_eq.mpr c120
                                                      have c120b1 : (t219 != 1) = false := bne_eq_false_iff_eq.mpr c120
                                                      clear c120
                                                      replace H := Option.bind_eq_some_iff.mp H
                                                      obtain ⟨t221, A1210, H⟩ := H
                                                      replace H : (some t221) = some r := H
                                                      have A121 := Aside0.mk A1210
                                                      clear A1210
                                                      obtain rfl := Option.some.inj H
                                                      clear hr_
                                                      have hcz122_0 : wc.cell? ⟨gb172, 0, none⟩ = some (.string x173000_1) := (blk_cell BK172.out 0).trans rfl
                                                      have hcz122_1 : wc.cell? ⟨gb172, 1, none⟩ = some (.int .i64 x173001_1) := (blk_cell BK172.out 1).trans rfl
                                                      have hcz122_2 : wc.cell? ⟨gb172, 2, none⟩ = some (.int .i64 x173002_1) := (blk_cell BK172.out 2).trans rfl
                                                      have hcz122_3 : wc.cell? ⟨gb172, 3, none⟩ = some (.int .i64 x173003_1) := (blk_cell BK172.out 3).trans rfl
                                                      have hfz122_0 := blk_frozen BK172.out 0
                                                      have hfz122_1 := blk_frozen BK172.out 1
                                                      have hfz122_2 := blk_frozen BK172.out 2
                                                      have hfz122_3 := blk_frozen BK172.out 3
                                                      go_wp2_with (first | ((with_reducible refine gate_dst (N := 128) rfl ?_); refine Kd.R_lit Kd.string _ 9 ?hg (N := 128) ?hd (xs := ([(⟨#[97, 98, 99, 100]⟩ : ByteArray)] : List ByteArray)) (inner := [.string (⟨#[97, 98, 99, 100]⟩ : ByteArray)]) (ok := fun _ => True) (okp := fun _ => True) ?hr ?hp (fun _ hk => hk) trivial (Below.refl _ _) (Nat.le_refl _) (by simp) ?_; (case hd => rfl); (case hg => rfl); (case hr => first | (go_simp; done) | (go_simp; rfl)); (case hp => exact (Reps.one (show Kd.M Kd.string _ _ _ (⟨#[97, 98, 99, 100]⟩ : ByteArray) [.string (⟨#[97, 98, 99, 100]⟩ : ByteArray)] from rfl) (Reps.none _ _))); intro v211 w123 ho124 hb hg_ hnew_; clear hg_ hnew_; (first | rw [← Ny210.out] at ho124 | (simp only [Int.reduceToNat] at ho124; rw [← Ny210.out] at ho124)); have n0_ := Aside0.mk (Kd.R_lower ho124 (below_size (by repeat (first | (with_reducible first | exact HB.out | apply below_alloc | apply pw_below_drewN | apply below_drew1 | refine below_set ?_ GE172.out) | exact HB.out)))); have n1_ := Aside0.mk (blk_below (g := gb172) (o := .cells #[.string x173000_1, .int .i64 x173001_1, .int .i64 x173002_1, .int .i64 x173003_1] 23 (0, 0)) (by (with_reducible repeat (first | refine blk_drewN ?_ _ | refine blk_drew ?_ | refine blk_alloc ?_ _)); exact BK172.out) hb); have n2_ := Aside0.mk (below_step (by repeat (first | (with_reducible first | exact HB.out | apply below_alloc | apply pw_below_drewN | apply below_drew1 | refine below_set ?_ GE172.out) | exact HB.out)) hb); clear BK172; clear HB; have HO212 := n0_; have BK172 := n1_; have HB := n2_; clear n0_ n1_ n2_; clear hb ho124; obtain ⟨Ao125, co125, eo125⟩ := Kd.R_slice HO212.out; subst eo125) | ((with_reducible refine gate_callee (f := 10) rfl ?_); refine goesL_ (some 129) rfl rfl Try.func10 (by kernel_rfl) rfl #[.agg #[.string x173000_1, .int .i64 x173001_1, .int .i64 x173002_1, .int .i64 x173003_1], .slice Ao125 y210.length co125] rfl (by (try simp only [List.map_toArray, List.map_cons, List.map_nil]); first | done | rfl | (simp only [List.length_drop, List.length_take]; rfl)) ?_; (with_reducible refine (sector_Join.calls kj106 x173000_1 x173001_1 x173002_1 x173003_1 _ _ y210 t213 t214 _ ?side1 ?side2 A115.out).mono ?_); (case side1 => repeat (first | exact (Kd.R_reads' HO212.out).2.2 | (with_reducible refine Kd.C_alloc ?_ _) | (with_reducible refine Kd.C_drewN ?_ _) | (with_reducible refine Kd.C_drew ?_))); (case side2 => exact (Kd.R_reads' HO212.out).2.1); rintro e w126 ⟨rfl, hb⟩; refine ⟨_, rfl, ?_⟩; have n0_ := Aside0.mk (Kd.R_below (by (with_reducible repeat (first | apply Kd.R_alloc | apply Kd.R_drewN | apply Kd.R_drew)); exact HO212.out) hb); have n1_ := Aside0.mk (blk_below (g := gb172) (o := .cells #[.string x173000_1, .int .i64 x173001_1, .int .i64 x173002_1, .int .i64 x173003_1] 23 (0, 0)) (by (with_reducible repeat (first | refine blk_drewN ?_ _ | refine blk_drew ?_ | refine blk_alloc ?_ _)); exact BK172.out) hb); have n2_ := Aside0.mk (below_step (by repeat (first | (with_reducible first | exact HB.out | apply below_alloc | apply pw_below_drewN | apply below_drew1 | refine below_set ?_ GE172.out) | exact HB.out)) hb); clear HO212; clear BK172; clear HB; have HO212 := n0_; have BK172 := n1_; have HB := n2_; clear n0_ n1_ n2_; (try clear hb); (try clear hb2); (try clear hk); (try clear hi); have hcz127_0 : w126.cell? ⟨gb172, 0, none⟩ = some (.string x173000_1) := (blk_cell BK172.out 0).trans rfl; have hcz127_1 : w126.cell? ⟨gb172, 1, none⟩ = some (.int .i64 x173001_1) := (blk_cell BK172.out 1).trans rfl; have hcz127_2 : w126.cell? ⟨gb172, 2, none⟩ = some (.int .i64 x173002_1) := (blk_cell BK172.out 2).trans rfl; have hcz127_3 : w126.cell? ⟨gb172, 3, none⟩ = some (.int .i64 x173003_1) := (blk_cell BK172.out 3).trans rfl; have hfz127_0 := blk_frozen BK172.out 0; have hfz127_1 := blk_frozen BK172.out 1; have hfz127_2 := blk_frozen BK172.out 2; have hfz127_3 := blk_frozen BK172.out 3) | ((with_reducible refine gate_dst (N := 134) rfl ?_); refine Kd.R_lit Kd.string _ 9 ?hg (N := 134) ?hd (xs := ([(⟨#[97, 98, 99, 100]⟩ : ByteArray), (⟨#[97, 98, 99]⟩ : ByteArray)] : List ByteArray)) (inner := [.string (⟨#[97, 98, 99, 100]⟩ : ByteArray), .string (⟨#[97, 98, 99]⟩ : ByteArray)]) (ok := fun _ => True) (okp := fun _ => True) ?hr ?hp (fun _ hk => hk) trivial (Below.refl _ _) (Nat.le_refl _) (by simp) ?_; (case hd => rfl); (case hg => rfl); (case hr => first | (go_simp; done) | (go_simp; rfl)); (case hp => exact (Reps.one (show Kd.M Kd.string _ _ _ (⟨#[97, 98, 99, 100]⟩ : ByteArray) [.string (⟨#[97, 98, 99, 100]⟩ : ByteArray)] from rfl) (Reps.one (show Kd.M Kd.string _ _ _ (⟨#[97, 98, 99]⟩ : ByteArray) [.string (⟨#[97, 98, 99]⟩ : ByteArray)] from rfl) (Reps.none _ _)))); intro v216 w128 ho129 hb hg_ hnew_; clear hg_ hnew_; (first | rw [← Ny215.out] at ho129 | (simp only [Int.reduceToNat] at ho129; rw [← Ny215.out] at ho129)); have n0_ := Aside0.mk (Kd.R_elder' (by (with_reducible repeat (first | apply Kd.R_alloc | apply Kd.R_drewN | apply Kd.R_drew)); exact HO212.out) (Kd.R_base ho129) hb); have n1_ := Aside0.mk (Kd.R_lower (Kd.R_new' ho129 (Kd.R_lt (by (with_reducible repeat (first | apply Kd.R_alloc | apply Kd.R_drewN | apply Kd.R_drew)); exact HO212.out))) (below_size (by repeat (first | (with_reducible first | exact HB.out | apply below_alloc | apply pw_below_drewN | apply below_drew1 | refine below_set ?_ GE172.out) | exact HB.out)))); have n2_ := Aside0.mk (blk_below (g := gb172) (o := .cells #[.string x173000_1, .int .i64 x173001_1, .int .i64 x173002_1, .int .i64 x173003_1] 23 (0, 0)) (by (with_reducible repeat (first | refine blk_drewN ?_ _ | refine blk_drew ?_ | refine blk_alloc ?_ _)); exact BK172.out) hb); have n3_ := Aside0.mk (below_step (by repeat (first | (with_reducible first | exact HB.out | apply below_alloc | apply pw_below_drewN | apply below_drew1 | refine below_set ?_ GE172.out) | exact HB.out)) hb); clear HO212; clear BK172; clear HB; have HO212 := n0_; have HO217 := n1_; have BK172 := n2_; have HB := n3_; clear n0_ n1_ n2_ n3_; clear hb ho129; obtain ⟨Ao130, co130, eo130⟩ := Kd.R_slice HO217.out; subst eo130) | ((with_reducible refine gate_callee (f := 10) rfl ?_); refine goesL_ (some 135) rfl rfl Try.func10 (by kernel_rfl) rfl #[.agg #[.string x173000_1, .int .i64 x173001_1, .int .i64 x173002_1, .int .i64 x173003_1], .slice Ao130 y215.length co130] rfl (by (try simp only [List.map_toArray, List.map_cons, List.map_nil]); first | done | rfl | (simp only [List.length_drop, List.length_take]; rfl)) ?_; (with_reducible refine (sector_Join.calls kj106 x173000_1 x173001_1 x173002_1 x173003_1 _ _ y215 t218 t219 _ ?side1 ?side2 A116.out).mono ?_); (case side1 => repeat (first | exact (Kd.R_reads' HO217.out).2.2 | (with_reducible refine Kd.C_alloc ?_ _) | (with_reducible refine Kd.C_drewN ?_ _) | (with_reducible refine Kd.C_drew ?_))); (case side2 => exact (Kd.R_reads' HO217.out).2.1); rintro e w131 ⟨rfl, hb⟩; refine ⟨_, rfl, ?_⟩; have n0_ := Aside0.mk (Kd.R_below (by (with_reducible repeat (first | apply Kd.R_alloc | apply Kd.R_drewN | apply Kd.R_drew)); exact HO212.out) hb); have n1_ := Aside0.mk (Kd.R_below (by (with_reducible repeat (first | apply Kd.R_alloc | apply Kd.R_drewN | apply Kd.R_drew)); exact HO217.out) hb); have n2_ := Aside0.mk (blk_below (g := gb172) (o := .cells #[.string x173000_1, .int .i64 x173001_1, .int .i64 x173002_1, .int .i64 x173003_1] 23 (0, 0)) (by (with_reducible repeat (first | refine blk_drewN ?_ _ | refine blk_drew ?_ | refine blk_alloc ?_ _)); exact BK172.out) hb); have n3_ := Aside0.mk (below_step (by repeat (first | (with_reducible first | exact HB.out | apply below_alloc | apply pw_below_drewN | apply below_drew1 | refine below_set ?_ GE172.out) | exact HB.out)) hb); clear HO212; clear HO217; clear BK172; clear HB; have HO212 := n0_; have HO217 := n1_; have BK172 := n2_; have HB := n3_; clear n0_ n1_ n2_ n3_; (try clear hb); (try clear hb2); (try clear hk); (try clear hi); have hcz132_0 : w131.cell? ⟨gb172, 0, none⟩ = some (.string x173000_1) := (blk_cell BK172.out 0).trans rfl; have hcz132_1 : w131.cell? ⟨gb172, 1, none⟩ = some (.int .i64 x173001_1) := (blk_cell BK172.out 1).trans rfl; have hcz132_2 : w131.cell? ⟨gb172, 2, none⟩ = some (.int .i64 x173002_1) := (blk_cell BK172.out 2).trans rfl; have hcz132_3 : w131.cell? ⟨gb172, 3, none⟩ = some (.int .i64 x173003_1) := (blk_cell BK172.out 3).trans rfl; have hfz132_0 := blk_frozen BK172.out 0; have hfz132_1 := blk_frozen BK172.out 1; have hfz132_2 := blk_frozen BK172.out 2; have hfz132_3 := blk_frozen BK172.out 3) | ((with_reducible refine gate_callee (f := 15) rfl ?_); refine goesL_ (some 139) rfl rfl Try.func15 (by kernel_rfl) rfl #[.agg #[.string x173000_1, .int .i64 x173001_1, .int .i64 x173002_1, .int .i64 x173003_1]] rfl (by (try simp only [List.map_toArray, List.map_cons, List.map_nil]); first | done | rfl | (simp only [List.length_drop, List.length_take]; rfl)) ?_; (with_reducible refine (sector_May.calls x173000_1 x173001_1 x173002_1 x173003_1 true _ A117.out).mono ?_); rintro e w133 ⟨rfl, hb⟩; refine ⟨_, rfl, ?_⟩; have n0_ := Aside0.mk (Kd.R_below (by (with_reducible repeat (first | apply Kd.R_alloc | apply Kd.R_drewN | apply Kd.R_drew)); exact HO212.out) hb); have n1_ := Aside0.mk (Kd.R_below (by (with_reducible repeat (first | apply Kd.R_alloc | apply Kd.R_drewN | apply Kd.R_drew)); exact HO217.out) hb); have n2_ := Aside0.mk (blk_below (g := gb172) (o := .cells #[.string x173000_1, .int .i64 x173001_1, .int .i64 x173002_1, .int .i64 x173003_1] 23 (0, 0)) (by (with_reducible repeat (first | refine blk_drewN ?_ _ | refine blk_drew ?_ | refine blk_alloc ?_ _)); exact BK172.out) hb); have n3_ := Aside0.mk (below_step (by repeat (first | (with_reducible first | exact HB.out | apply below_alloc | apply pw_below_drewN | apply below_drew1 | refine below_set ?_ GE172.out) | exact HB.out)) hb); clear HO212; clear HO217; clear BK172; clear HB; have HO212 := n0_; have HO217 := n1_; have BK172 := n2_; have HB := n3_; clear n0_ n1_ n2_ n3_; (try clear hb); (try clear hb2); (try clear hk); (try clear hi)) | (go_at_call 9; (with_reducible refine (hamperlaw24_awake.calls  t221 _ A121.out).mono ?_); rintro e w134 ⟨rfl, hb⟩; have n0_ := Aside0.mk (Kd.R_below (by (with_reducible repeat (first | apply Kd.R_alloc | apply Kd.R_drewN | apply Kd.R_drew)); exact HO212.out) hb); have n1_ := Aside0.mk (Kd.R_below (by (with_reducible repeat (first | apply Kd.R_alloc | apply Kd.R_drewN | apply Kd.R_drew)); exact HO217.out) hb); have n2_ := Aside0.mk (blk_below (g := gb172) (o := .cells #[.string x173000_1, .int .i64 x173001_1, .int .i64 x173002_1, .int .i64 x173003_1] 23 (0, 0)) (by (with_reducible repeat (first | refine blk_drewN ?_ _ | refine blk_drew ?_ | refine blk_alloc ?_ _)); exact BK172.out) hb); have n3_ := Aside0.mk (below_step (by repeat (first | (with_reducible first | exact HB.out | apply below_alloc | apply pw_below_drewN | apply below_drew1 | refine below_set ?_ GE172.out) | exact HB.out)) hb); clear HO212; clear HO217; clear BK172; clear HB; have HO212 := n0_; have HO217 := n1_; have BK172 := n2_; have HB := n3_; clear n0_ n1_ n2_ n3_; (try clear hb); (try clear hb2); (try clear hk); (try clear hi)))
                                                      go_ret
                                                      exact ⟨by first | rfl | (simp [errW_none, errW_some] <;> rfl) | (simp [*, errW_none, errW_some] <;> rfl), by repeat (first | (with_reducible first | exact HB.out | apply below_alloc | apply pw_below_drewN | apply below_drew1 | refine below_set ?_ GE172.out) | exact HB.out)⟩
                                                    · rw [if_neg c120] at H
                                                      have c120b0 : (t219 == 1) = false := beq_eq_false_iff_ne.mpr c120
                                                      have c120b1 : (t219 != 1) = true := bne_iff_ne.mpr c120
                                                      obtain rfl := Option.some.inj H
                                                      exact absurd hr_ (by decide)
                                                  · rw [if_neg c119] at H
                                                    have c119b0 : (t214 == 1) = false := beq_eq_false_iff_ne.mpr c119
                                                    have c119b1 : (t214 != 1) = true := bne_iff_ne.mpr c119
                                                    obtain rfl := Option.some.inj H
                                                    exact absurd hr_ (by decide)
                                                · replace c118 := Bool.eq_false_iff.mpr c118
                                                  subst c118
                                                  have H1 : (some false) = some r := by rw [if_neg (show ¬ (false = true) by decide)] at H; exact H
                                                  clear H
                                                  have H := H1
                                                  clear H1
                                                  obtain rfl := Option.some.inj H
                                                  clear hr_
                                                  have hcz159_0 : wc.cell? ⟨gb172, 0, none⟩ = some (.string x173000_1) := (blk_cell BK172.out 0).trans rfl
                                                  have hcz159_1 : wc.cell? ⟨gb172, 1, none⟩ = some (.int .i64 x173001_1) := (blk_cell BK172.out 1).trans rfl
                                                  have hcz159_2 : wc.cell? ⟨gb172, 2, none⟩ = some (.int .i64 x173002_1) := (blk_cell BK172.out 2).trans rfl
                                                  have hcz159_3 : wc.cell? ⟨gb172, 3, none⟩ = some (.int .i64 x173003_1) := (blk_cell BK172.out 3).trans rfl
                                                  have hfz159_0 := blk_frozen BK172.out 0
                                                  have hfz159_1 := blk_frozen BK172.out 1
                                                  have hfz159_2 := blk_frozen BK172.out 2
                                                  have hfz159_3 := blk_frozen BK172.out 3
                                                  go_wp2_with (first | ((with_reducible refine gate_dst (N := 128) rfl ?_); refine Kd.R_lit Kd.string _ 9 ?hg (N := 128) ?hd (xs := ([(⟨#[97, 98, 99, 100]⟩ : ByteArray)] : List ByteArray)) (inner := [.string (⟨#[97, 98, 99, 100]⟩ : ByteArray)]) (ok := fun _ => True) (okp := fun _ => True) ?hr ?hp (fun _ hk => hk) trivial (Below.refl _ _) (Nat.le_refl _) (by simp) ?_; (case hd => rfl); (case hg => rfl); (case hr => first | (go_simp; done) | (go_simp; rfl)); (case hp => exact (Reps.one (show Kd.M Kd.string _ _ _ (⟨#[97, 98, 99, 100]⟩ : ByteArray) [.string (⟨#[97, 98, 99, 100]⟩ : ByteArray)] from rfl) (Reps.none _ _))); intro v211 w160 ho161 hb hg_ hnew_; clear hg_ hnew_; (first | rw [← Ny210.out] at ho161 | (simp only [Int.reduceToNat] at ho161; rw [← Ny210.out] at ho161)); have n0_ := Aside0.mk (Kd.R_lower ho161 (below_size (by repeat (first | (with_reducible first | exact HB.out | apply below_alloc | apply pw_below_drewN | apply below_drew1 | refine below_set ?_ GE172.out) | exact HB.out)))); have n1_ := Aside0.mk (blk_below (g := gb172) (o := .cells #[.string x173000_1, .int .i64 x173001_1, .int .i64 x173002_1, .int .i64 x173003_1] 23 (0, 0)) (by (with_reducible repeat (first | refine blk_drewN ?_ _ | refine blk_drew ?_ | refine blk_alloc ?_ _)); exact BK172.out) hb); have n2_ := Aside0.mk (below_step (by repeat (first | (with_reducible first | exact HB.out | apply below_alloc | apply pw_below_drewN | apply below_drew1 | refine below_set ?_ GE172.out) | exact HB.out)) hb); clear BK172; clear HB; have HO212 := n0_; have BK172 := n1_; have HB := n2_; clear n0_ n1_ n2_; clear hb ho161; obtain ⟨Ao162, co162, eo162⟩ := Kd.R_slice HO212.out; subst eo162) | ((with_reducible refine gate_callee (f := 10) rfl ?_); refine goesL_ (some 129) rfl rfl Try.func10 (by kernel_rfl) rfl #[.agg #[.string x173000_1, .int .i64 x173001_1, .int .i64 x173002_1, .int .i64 x173003_1], .slice Ao162 y210.length co162] rfl (by (try simp only [List.map_toArray, List.map_cons, List.map_nil]); first | done | rfl | (simp only [List.length_drop, List.length_take]; rfl)) ?_; (with_reducible refine (sector_Join.calls kj106 x173000_1 x173001_1 x173002_1 x173003_1 _ _ y210 t213 t214 _ ?side1 ?side2 A115.out).mono ?_); (case side1 => repeat (first | exact (Kd.R_reads' HO212.out).2.2 | (with_reducible refine Kd.C_alloc ?_ _) | (with_reducible refine Kd.C_drewN ?_ _) | (with_reducible refine Kd.C_drew ?_))); (case side2 => exact (Kd.R_reads' HO212.out).2.1); rintro e w163 ⟨rfl, hb⟩; refine ⟨_, rfl, ?_⟩; have n0_ := Aside0.mk (Kd.R_below (by (with_reducible repeat (first | apply Kd.R_alloc | apply Kd.R_drewN | apply Kd.R_drew)); exact HO212.out) hb); have n1_ := Aside0.mk (blk_below (g := gb172) (o := .cells #[.string x173000_1, .int .i64 x173001_1, .int .i64 x173002_1, .int .i64 x173003_1] 23 (0, 0)) (by (with_reducible repeat (first | refine blk_drewN ?_ _ | refine blk_drew ?_ | refine blk_alloc ?_ _)); exact BK172.out) hb); have n2_ := Aside0.mk (below_step (by repeat (first | (with_reducible first | exact HB.out | apply below_alloc | apply pw_below_drewN | apply below_drew1 | refine below_set ?_ GE172.out) | exact HB.out)) hb); clear HO212; clear BK172; clear HB; have HO212 := n0_; have BK172 := n1_; have HB := n2_; clear n0_ n1_ n2_; (try clear hb); (try clear hb2); (try clear hk); (try clear hi); have hcz164_0 : w163.cell? ⟨gb172, 0, none⟩ = some (.string x173000_1) := (blk_cell BK172.out 0).trans rfl; have hcz164_1 : w163.cell? ⟨gb172, 1, none⟩ = some (.int .i64 x173001_1) := (blk_cell BK172.out 1).trans rfl; have hcz164_2 : w163.cell? ⟨gb172, 2, none⟩ = some (.int .i64 x173002_1) := (blk_cell BK172.out 2).trans rfl; have hcz164_3 : w163.cell? ⟨gb172, 3, none⟩ = some (.int .i64 x173003_1) := (blk_cell BK172.out 3).trans rfl; have hfz164_0 := blk_frozen BK172.out 0; have hfz164_1 := blk_frozen BK172.out 1; have hfz164_2 := blk_frozen BK172.out 2; have hfz164_3 := blk_frozen BK172.out 3) | ((with_reducible refine gate_dst (N := 134) rfl ?_); refine Kd.R_lit Kd.string _ 9 ?hg (N := 134) ?hd (xs := ([(⟨#[97, 98, 99, 100]⟩ : ByteArray), (⟨#[97, 98, 99]⟩ : ByteArray)] : List ByteArray)) (inner := [.string (⟨#[97, 98, 99, 100]⟩ : ByteArray), .string (⟨#[97, 98, 99]⟩ : ByteArray)]) (ok := fun _ => True) (okp := fun _ => True) ?hr ?hp (fun _ hk => hk) trivial (Below.refl _ _) (Nat.le_refl _) (by simp) ?_; (case hd => rfl); (case hg => rfl); (case hr => first | (go_simp; done) | (go_simp; rfl)); (case hp => exact (Reps.one (show Kd.M Kd.string _ _ _ (⟨#[97, 98, 99, 100]⟩ : ByteArray) [.string (⟨#[97, 98, 99, 100]⟩ : ByteArray)] from rfl) (Reps.one (show Kd.M Kd.string _ _ _ (⟨#[97, 98, 99]⟩ : ByteArray) [.string (⟨#[97, 98, 99]⟩ : ByteArray)] from rfl) (Reps.none _ _)))); intro v216 w165 ho166 hb hg_ hnew_; clear hg_ hnew_; (first | rw [← Ny215.out] at ho166 | (simp only [Int.reduceToNat] at ho166; rw [← Ny215.out] at ho166)); have n0_ := Aside0.mk (Kd.R_elder' (by (with_reducible repeat (first | apply Kd.R_alloc | apply Kd.R_drewN | apply Kd.R_drew)); exact HO212.out) (Kd.R_base ho166) hb); have n1_ := Aside0.mk (Kd.R_lower (Kd.R_new' ho166 (Kd.R_lt (by (with_reducible repeat (first | apply Kd.R_alloc | apply Kd.R_drewN | apply Kd.R_drew)); exact HO212.out))) (below_size (by repeat (first | (with_reducible first | exact HB.out | apply below_alloc | apply pw_below_drewN | apply below_drew1 | refine below_set ?_ GE172.out) | exact HB.out)))); have n2_ := Aside0.mk (blk_below (g := gb172) (o := .cells #[.string x173000_1, .int .i64 x173001_1, .int .i64 x173002_1, .int .i64 x173003_1] 23 (0, 0)) (by (with_reducible repeat (first | refine blk_drewN ?_ _ | refine blk_drew ?_ | refine blk_alloc ?_ _)); exact BK172.out) hb); have n3_ := Aside0.mk (below_step (by repeat (first | (with_reducible first | exact HB.out | apply below_alloc | apply pw_below_drewN | apply below_drew1 | refine below_set ?_ GE172.out) | exact HB.out)) hb); clear HO212; clear BK172; clear HB; have HO212 := n0_; have HO217 := n1_; have BK172 := n2_; have HB := n3_; clear n0_ n1_ n2_ n3_; clear hb ho166; obtain ⟨Ao167, co167, eo167⟩ := Kd.R_slice HO217.out; subst eo167) | ((with_reducible refine gate_callee (f := 10) rfl ?_); refine goesL_ (some 135) rfl rfl Try.func10 (by kernel_rfl) rfl #[.agg #[.string x173000_1, .int .i64 x173001_1, .int .i64 x173002_1, .int .i64 x173003_1], .slice Ao167 y215.length co167] rfl (by (try simp only [List.map_toArray, List.map_cons, List.map_nil]); first | done | rfl | (simp only [List.length_drop, List.length_take]; rfl)) ?_; (with_reducible refine (sector_Join.calls kj106 x173000_1 x173001_1 x173002_1 x173003_1 _ _ y215 t218 t219 _ ?side1 ?side2 A116.out).mono ?_); (case side1 => repeat (first | exact (Kd.R_reads' HO217.out).2.2 | (with_reducible refine Kd.C_alloc ?_ _) | (with_reducible refine Kd.C_drewN ?_ _) | (with_reducible refine Kd.C_drew ?_))); (case side2 => exact (Kd.R_reads' HO217.out).2.1); rintro e w168 ⟨rfl, hb⟩; refine ⟨_, rfl, ?_⟩; have n0_ := Aside0.mk (Kd.R_below (by (with_reducible repeat (first | apply Kd.R_alloc | apply Kd.R_drewN | apply Kd.R_drew)); exact HO212.out) hb); have n1_ := Aside0.mk (Kd.R_below (by (with_reducible repeat (first | apply Kd.R_alloc | apply Kd.R_drewN | apply Kd.R_drew)); exact HO217.out) hb); have n2_ := Aside0.mk (blk_below (g := gb172) (o := .cells #[.string x173000_1, .int .i64 x173001_1, .int .i64 x173002_1, .int .i64 x173003_1] 23 (0, 0)) (by (with_reducible repeat (first | refine blk_drewN ?_ _ | refine blk_drew ?_ | refine blk_alloc ?_ _)); exact BK172.out) hb); have n3_ := Aside0.mk (below_step (by repeat (first | (with_reducible first | exact HB.out | apply below_alloc | apply pw_below_drewN | apply below_drew1 | refine below_set ?_ GE172.out) | exact HB.out)) hb); clear HO212; clear HO217; clear BK172; clear HB; have HO212 := n0_; have HO217 := n1_; have BK172 := n2_; have HB := n3_; clear n0_ n1_ n2_ n3_; (try clear hb); (try clear hb2); (try clear hk); (try clear hi); have hcz169_0 : w168.cell? ⟨gb172, 0, none⟩ = some (.string x173000_1) := (blk_cell BK172.out 0).trans rfl; have hcz169_1 : w168.cell? ⟨gb172, 1, none⟩ = some (.int .i64 x173001_1) := (blk_cell BK172.out 1).trans rfl; have hcz169_2 : w168.cell? ⟨gb172, 2, none⟩ = some (.int .i64 x173002_1) := (blk_cell BK172.out 2).trans rfl; have hcz169_3 : w168.cell? ⟨gb172, 3, none⟩ = some (.int .i64 x173003_1) := (blk_cell BK172.out 3).trans rfl; have hfz169_0 := blk_frozen BK172.out 0; have hfz169_1 := blk_frozen BK172.out 1; have hfz169_2 := blk_frozen BK172.out 2; have hfz169_3 := blk_frozen BK172.out 3) | ((with_reducible refine gate_callee (f := 15) rfl ?_); refine goesL_ (some 139) rfl rfl Try.func15 (by kernel_rfl) rfl #[.agg #[.string x173000_1, .int .i64 x173001_1, .int .i64 x173002_1, .int .i64 x173003_1]] rfl (by (try simp only [List.map_toArray, List.map_cons, List.map_nil]); first | done | rfl | (simp only [List.length_drop, List.length_take]; rfl)) ?_; (with_reducible refine (sector_May.calls x173000_1 x173001_1 x173002_1 x173003_1 false _ A117.out).mono ?_); rintro e w170 ⟨rfl, hb⟩; refine ⟨_, rfl, ?_⟩; have n0_ := Aside0.mk (Kd.R_below (by (with_reducible repeat (first | apply Kd.R_alloc | apply Kd.R_drewN | apply Kd.R_drew)); exact HO212.out) hb); have n1_ := Aside0.mk (Kd.R_below (by (with_reducible repeat (first | apply Kd.R_alloc | apply Kd.R_drewN | apply Kd.R_drew)); exact HO217.out) hb); have n2_ := Aside0.mk (blk_below (g := gb172) (o := .cells #[.string x173000_1, .int .i64 x173001_1, .int .i64 x173002_1, .int .i64 x173003_1] 23 (0, 0)) (by (with_reducible repeat (first | refine blk_drewN ?_ _ | refine blk_drew ?_ | refine blk_alloc ?_ _)); exact BK172.out) hb); have n3_ := Aside0.mk (below_step (by repeat (first | (with_reducible first | exact HB.out | apply below_alloc | apply pw_below_drewN | apply below_drew1 | refine below_set ?_ GE172.out) | exact HB.out)) hb); clear HO212; clear HO217; clear BK172; clear HB; have HO212 := n0_; have HO217 := n1_; have BK172 := n2_; have HB := n3_; clear n0_ n1_ n2_ n3_; (try clear hb); (try clear hb2); (try clear hk); (try clear hi)))
                                                  go_ret
                                                  exact ⟨by first | rfl | (simp [errW_none, errW_some] <;> rfl) | (simp [*, errW_none, errW_some] <;> rfl), by repeat (first | (with_reducible first | exact HB.out | apply below_alloc | apply pw_below_drewN | apply below_drew1 | refine below_set ?_ GE172.out) | exact HB.out)⟩
                            · rw [if_neg c32] at H
                              exact absurd H (by simp)
                          · rw [if_neg c30] at H
                            exact absurd H (by simp)
                        · rw [if_neg c28] at H
                          exact absurd H (by simp)
                      · rw [if_neg c26] at H
                        exact absurd H (by simp)
                    · rw [if_neg c24] at H
                      exact absurd H (by simp)
                  · rw [if_neg c22] at H
                    exact absurd H (by simp)
                · rw [if_neg c20] at H
                  exact absurd H (by simp)
              · rw [if_neg c18] at H
                exact absurd H (by simp)
            · rw [if_neg c17] at H
              exact absurd H (by simp)
    · rw [if_neg c2] at H
      exact absurd H (by simp)
  · rw [if_neg c1] at H
    exact absurd H (by simp)

def hamperlaw24_SectorNames.f  : Option (Bool) := if 1 ≤ 281474976710656 then (some true) else (none)
set_option maxRecDepth 100000 in
theorem hamperlaw24_SectorNamesR.yes : hamperlaw24_SectorNamesR.f 300 = some true := by decide +kernel
theorem hamperlaw24_SectorNames.calls  (r : Bool) (w : World) (h : hamperlaw24_SectorNames.f  = some r) :
    Calls Try.prog 7 #[] w fun e w' => e = .returned (.bool r) ∧ Below w.heap.size w w' := by
  obtain rfl : r = true := by
    unfold hamperlaw24_SectorNames.f at h
    rw [if_pos (by decide)] at h
    exact (Option.some.inj h).symm
  exact hamperlaw24_SectorNamesR.calls 300 true rfl w hamperlaw24_SectorNamesR.yes
theorem hamperlaw24_SectorNames_walk (w : World) : Calls Try.prog 7 #[] w fun e w' => e = .returned (.bool true) ∧ Below w.heap.size w w' :=
  hamperlaw24_SectorNamesR.calls 300 true rfl w hamperlaw24_SectorNamesR.yes

/-- THE ONE PURE STATEMENT of hamperlaw24_SectorNames: yours. -/
def hamperlaw24_SectorNames.Pure : Prop := hamperlaw24_SectorNames.f  = some true
theorem hamperlaw24_SectorNames.walk (P : hamperlaw24_SectorNames.Pure)  (w : World)  :
    Calls Try.prog 7 #[] w fun e w' => e = .returned (.bool true) ∧ Below w.heap.size w w' := by
  have h := P  
  refine (hamperlaw24_SectorNames.calls  true w h).mono ?_
  rintro e w' ⟨rfl, hd⟩
  exact ⟨rfl, hd⟩

end Go.Proofs.Ytpgijmnlkfhheaa.PSecN
