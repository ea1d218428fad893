/- Lists and their bytes, in plain words. -/
import Derived.Test.YtbeibmdccjgcmaaDoorQTog
import Derived.Test.YtbeibmdccjgcmaaDoorMetaBackP
import Derived.Test.YtbeibmdccjgcmaaDoorBk12
import Derived.Lib.FrozenHead
import Derived.Test.YtbeibmdccjgcmaaDoorPQux51
import Derived.Test.YtbeibmdccjgcmaaDoorLib
import Derived.Shelf.SlicesQ.IndexFunc
namespace Go.Proofs.YtbeibmdccjgcmaaDoor.PQu
open Go.RowKit Go.Lib Go.Proofs.YtbeibmdccjgcmaaDoorW.PrintWords Go.Proofs.YtbeibmdccjgcmaaDoorW.PrintLast Go.Proofs.YtbeibmdccjgcmaaDoorW.PrintMore Go.Proofs.YtbeibmdccjgcmaaDoor.Pb
set_option linter.unusedVariables false
set_option linter.unusedSimpArgs false
set_option maxHeartbeats 1000000 in
set_option maxRecDepth 100000 in
/-- String of a builder whose bytes were asked for already, or not. -/
theorem builderStringF (B b : Nat) (p : Value) (l : List UInt8) (w : World) (h : Lib.BuilderAtF 46 5 B b p (Lib.byteCells l) w) (h0 : l ≠ []) :
    Calls Tryd.prog 28 #[.pointer (some ⟨b, 0, none⟩)] w fun e w' => e = .returned (.string ⟨l.toArray⟩) ∧ Lib.BuilderAtF 46 5 B b p (Lib.byteCells l) w' ∧ Below B w w' := by
  have hF := Aside0.mk h
  obtain ⟨hB, v, hbk, hown, hne⟩ := h
  have hl0 : l.length ≠ 0 := by simpa using h0
  rw [Lib.byteCells_length] at hown
  obtain ⟨g, cap, cur, fz, rfl, hbg, hg, hfz, hnc, hcm, hcs, htake⟩ : ∃ g cap cur fz, v = .slice (some ⟨g, 0, none⟩) l.length cap ∧ B ≤ g ∧ w.heap[g]? = some (.cells cur 5 fz) ∧ fz.2 ≤ l.length * 1 ∧ l.length ≤ cap ∧ cap ≤ maxLen ∧ cur.size = cap * 1 ∧ cur.toList.take (l.length * 1) = Lib.byteCells l := by
    rcases hown.2 with ⟨_, hz⟩ | ⟨g, cap, cur, fz, hv, r⟩
    · exact absurd hz hl0
    · exact ⟨g, cap, cur, fz, hv, r⟩
  have c1 : w.drew.cell? ⟨b, 1, none⟩ = some (.slice (some ⟨g, 0, none⟩) l.length cap) := by
    have : w.drew.heap[b]? = some (.cells #[p, .slice (some ⟨g, 0, none⟩) l.length cap] 46 (0, 0)) := hbk
    rw [Lib.cell_of_heap this]; rfl
  have hSD : (Builtin.unsafeSliceData_ #[40] 67 #[.slice (some ⟨g, 0, none⟩) l.length cap]).run Tryd.prog w.drew = .ok (.pointer (some ⟨g, 0, none⟩)) w.drew :=
    Lib.run_unsafeSliceData_row _ _ _ _ _ _ (by omega)
  have hUS : (Builtin.unsafeString_ #[67, 3] 9 #[.pointer (some ⟨g, 0, none⟩), .int .i64 l.length]).run Tryd.prog w.drew = .ok (.string ⟨l.toArray⟩) (w.drew.freeze ⟨g, 0, none⟩ l.length) := by
    refine Lib.run_unsafeString_row w.drew 67 3 9 5 Tryd.underlying67 (by kernel_rfl) g cur.size (by have hg' : w.drew.heap[g]? = some (.cells cur 5 fz) := hg; simp [World.shape?, hg']) l h0 (by omega) (by unfold maxLen at hcm; omega) ?_
    intro j x hx
    have := hown.cells (g := g) rfl j (.int .u8 x.toNat) (by simp [Lib.byteCells, hx])
    exact this
  have hfr : Lib.BuilderAtF 46 5 B b p (Lib.byteCells l) (w.drew.freeze ⟨g, 0, none⟩ l.length) := by
    have h2 : Lib.BuilderAtF 46 5 B b p (Lib.byteCells l) w.drew := hF.out.drew
    have := h2.froze (g := g) (cap := cap) (by rw [Lib.byteCells_length]; exact c1)
    rwa [Lib.byteCells_length] at this
  have HFR := Aside0.mk hfr
  clear hfr hF
  go_enter Tryd.func28, Tryd.ntmps28
  go_wp2
  go_region
  all_goals (go_wp2; go_ret; exact ⟨rfl, HFR.out, Lib.below_freeze (Below.drew (Below.refl B w)) (p := ⟨g, 0, none⟩) hbg _⟩)
def mkQ (x : MS) : ByteArray × Int := Me.makeR x.f0 x.f1 x.f2 x.f3 x.f4
/-- How the first one that may not be is refused. -/
def badQ : List MS → Int
  | [] => 0
  | x :: l => if (mkQ x).2 = 0 then badQ l else (mkQ x).2
/-- Their bytes, one behind the other. -/
def catQ : List MS → ByteArray
  | [] => ⟨#[]⟩
  | x :: l => (mkQ x).1 ++ catQ l
def headQ (n : Nat) : ByteArray := ⟨#[113, 99, 107, 49]⟩ ++ strOfNums [((n : Int)) % 256]
def bodyQ (l : List MS) : ByteArray := headQ l.length ++ catQ l
/-- A list's bytes, or how it is refused. -/
def makeQ (l : List MS) : ByteArray × Int := if badQ l = 0 then (if togQ l = 0 then (bodyQ l ++ Bk.blakeSum (bodyQ l), 0) else (⟨#[]⟩, togQ l)) else (⟨#[]⟩, badQ l)
theorem catQ_snoc (l : List MS) (x : MS) : catQ (l ++ [x]) = catQ l ++ (mkQ x).1 := by
  induction l with
  | nil => simp only [List.nil_append, catQ, nil_app, app_nil]
  | cons y l ih => rw [List.cons_append, catQ, catQ, ih, app_assoc]
theorem badQ_app (l : List MS) (m : List MS) (h : badQ l = 0) : badQ (l ++ m) = badQ m := by
  induction l with
  | nil => rfl
  | cons y l ih =>
    rw [badQ] at h
    rw [List.cons_append, badQ]
    by_cases hy : (mkQ y).2 = 0
    · rw [if_pos hy] at h
      rw [if_pos hy, ih h]
    · rw [if_neg hy] at h
      exact absurd h hy
theorem badQ_iff (l : List MS) : badQ l = 0 ↔ ∀ x ∈ l, (mkQ x).2 = 0 := by
  induction l with
  | nil => simp [badQ]
  | cons y l ih =>
    rw [badQ]
    by_cases hy : (mkQ y).2 = 0
    · rw [if_pos hy, ih]
      simp [hy]
    · rw [if_neg hy]
      simp [hy]
/-- What may be. -/
def fineQ (x : MS) : Bool := Me.mayB x.f0 x.f1 x.f2 x.f3 x.f4
theorem mkQ_fine (x : MS) : (mkQ x).2 = 0 ↔ fineQ x = true := by
  unfold mkQ Me.makeR fineQ Me.mayB
  by_cases hN : Me.nameL x.f0.data.toList = true
  · by_cases hR : Me.restB x.f1 x.f2 x.f3 x.f4 = true
    · rw [if_pos hN, if_pos hR, hN, hR]; exact ⟨fun _ => rfl, fun _ => rfl⟩
    · rw [if_pos hN, if_neg hR, Bool.eq_false_iff.2 hR, Bool.and_false]; decide
  · rw [if_neg hN, Bool.eq_false_iff.2 hN, Bool.false_and]; decide
theorem fineQ_parts {x : MS} (h : fineQ x = true) : Me.nameL x.f0.data.toList = true ∧ Me.restB x.f1 x.f2 x.f3 x.f4 = true := by
  unfold fineQ Me.mayB at h
  rw [Bool.and_eq_true] at h
  exact h
theorem mkQ_size (x : MS) : (mkQ x).1.size ≤ 302 := by
  unfold mkQ Me.makeR
  by_cases hN : Me.nameL x.f0.data.toList = true
  · by_cases hR : Me.restB x.f1 x.f2 x.f3 x.f4 = true
    · rw [if_pos hN, if_pos hR]
      have h1 := Me.name_len hN
      have h2 := (Me.rest_iff hR).2.2.2.2.2.2
      show (Me.makeB x.f0 x.f1 x.f2 x.f3 x.f4).size ≤ 302
      unfold Me.makeB
      rw [ByteArray.size_append, ByteArray.size_append, ByteArray.size_append, ByteArray.size_append, ByteArray.size_append, Me.numS_size, Me.numS_size, Me.numS_size, Me.numS_size, h2]
      omega
    · rw [if_pos hN, if_neg hR]; exact Nat.zero_le _
  · rw [if_neg hN]; exact Nat.zero_le _
theorem catQ_size : ∀ l : List MS, (catQ l).size ≤ 302 * l.length
  | [] => Nat.zero_le _
  | x :: l => by
    have h1 := catQ_size l
    have h2 := mkQ_size x
    rw [catQ, ByteArray.size_append, List.length_cons]
    omega
theorem headQ_size (n : Nat) : (headQ n).size = 5 := by
  unfold headQ
  rw [ByteArray.size_append, size_nums]
  rfl
theorem bodyQ_size (l : List MS) : (bodyQ l).size ≤ 5 + 302 * l.length := by
  have := catQ_size l
  unfold bodyQ
  rw [ByteArray.size_append, headQ_size]
  omega

/-- The builder, and what lay. -/
structure TB (w W : World) (B : Nat) (l : List UInt8) : Prop where
  own : Lib.IsBuilder 46 5 B B (Lib.byteCells l) W
  bel : Below w.heap.size w W
theorem IsB_turn {T e : TypeId} {B b : Nat} {bs : List Value} {w w' : World} (h : Lib.IsBuilder T e B b bs w) (hb : Below w.heap.size w w') : Lib.IsBuilder T e B b bs w' := by
  have key : ∀ p, Lib.BuilderAt T e B b p bs w → Lib.BuilderAt T e B b p bs w' := fun p ⟨hB, v, h1, h2, h3⟩ =>
    ⟨hB, v, (hb.block b (blk_lt h1)).trans h1, h2.kept (row := none) ⟨hb.os, hb.tape, hb.output, hb.size, fun k hk _ => hb.block k hk⟩ (by cases v.ownBlock <;> simp), h3⟩
  exact h.imp (key _) (key _)
theorem TB.turn {w W W1 : World} {B : Nat} {l : List UInt8} (h : TB w W B l) (hb : Below W.heap.size W W1) : TB w W1 B l := ⟨IsB_turn h.own hb, h.bel.trans (hb.mono h.bel.size)⟩
theorem TB.alloc {w W : World} {B : Nat} {l : List UInt8} (h : TB w W B l) (o : Obj) : TB w (W.alloc o) B l := h.turn (below_alloc (Below.refl _ _) o)
theorem cells_str (l : List UInt8) (s : ByteArray) : Lib.byteCells l ++ Lib.strCells s = Lib.byteCells (l ++ s.data.toList) := by
  simp [Lib.byteCells, Lib.strCells]
set_option maxHeartbeats 1000000 in
set_option maxRecDepth 100000 in
theorem qmake_calls (A : Option Addr) (c : Nat) (l : List MS) (w : World) (hT : Me.Tabs w) (hr : Kd.C k33 w A l.length l) (hn : l.length ≤ 1000000) :
    Calls Tryd.prog 10 #[.slice A l.length c] w fun e w' => e = .returned (.tuple #[.string (makeQ l).1, .int .i64 (makeQ l).2]) ∧ Below w.heap.size w w' := by
  have HR := Aside0.mk hr
  have HT := Aside0.mk hT
  clear hr hT
  go_enter Tryd.func10, Tryd.ntmps10
  go_wp2_with fail
  have hb0 : Lib.IsBuilder 46 5 w.heap.size w.heap.size (Lib.byteCells []) (w.alloc (.cells #[.pointer none, .slice none 0 0] 46)) := .inl ⟨Nat.le_refl _, _, blk_new w _, World.ownsRow_nil _ _ _ _, by simp [Value.ownBlock]⟩
  have hb1 := below_alloc (Below.refl _ w) (.cells #[.pointer none, .slice none 0 0] 46)
  obtain ⟨B, hB⟩ : ∃ B, B = w.heap.size := ⟨_, rfl⟩
  rw [← hB] at hb0 ⊢
  have HB := Aside0.mk hB
  have H0 := Aside0.mk (show TB w (w.alloc (.cells #[.pointer none, .slice none 0 0] 46)) B [] from ⟨hb0, hb1⟩)
  clear hB hb0 hb1
  generalize w.alloc (.cells #[.pointer none, .slice none 0 0] 46) = W0 at H0 ⊢
  refine (Bk.writeString B B (Lib.byteCells []) ⟨#[113, 99, 107, 49]⟩ _ H0.out.own (by decide) (by rw [HB.out]; exact H0.out.bel.size)).mono ?_
  rintro e w1 ⟨rfl, hb, hB⟩
  rw [cells_str] at hb
  have H1 := Aside0.mk (show TB w w1 B _ from ⟨.inr hb, H0.out.bel.trans (by rw [← HB.out]; exact hB)⟩)
  clear hb hB H0
  go_wp2_with fail
  refine (Bk.writeByte B B _ ((l.length : Int) % 256) _ H1.out.own (by rw [Lib.byteCells_length]; decide) (by rw [HB.out]; exact H1.out.bel.size)).mono ?_
  rintro e w2 ⟨rfl, hb, hB⟩
  have hc0 : 0 ≤ (l.length : Int) % 256 := Int.emod_nonneg _ (by decide)
  have hc1 : (l.length : Int) % 256 < 256 := Int.emod_lt_of_pos _ (by decide)
  rw [← Me.cells_snoc _ _ hc0 hc1] at hb
  have H2 := Aside0.mk (show TB w w2 B (headQ l.length ++ catQ (l.take 0)).data.toList from ⟨.inr hb, H1.out.bel.trans (by rw [← HB.out]; exact hB)⟩)
  clear hb hB H1 hc0 hc1
  go_wp2_with fail
  go_loopg [17] l.length (fun kq v17 wr => ∃ k : Nat, k + kq = l.length ∧ v17 = .int .i64 (k : Int) ∧ Aside0 (badQ (l.take k) = 0) ∧ Aside0 (TB w wr B (headQ l.length ++ catQ (l.take k)).data.toList))
  case atStart => exact ⟨0, by omega, rfl, ⟨rfl⟩, H2⟩
  case round =>
    obtain ⟨k, hk, rfl, HG, HM⟩ := hrel
    clear H2
    by_cases hlt : k < l.length
    · have d1 : decide ((k : Int) < (l.length : Int)) = true := decide_eq_true (by omega)
      obtain ⟨ad, ea, hc0, hc1, hc2, hc3, hc4⟩ := at_T33 HR.out (k : Int) (by omega) (by omega)
      cases ea
      have htk := take_at l k hlt
      have hdr : l.take (k + 1) ++ l.drop (k + 1) = l := List.take_append_drop _ _
      obtain ⟨x, hx⟩ : ∃ x, x = rd_T33 l (k : Int) := ⟨_, rfl⟩
      rw [← hx] at hc0 hc1 hc2 hc3 hc4 htk
      clear hx
      rw [Int.toNat_natCast] at hc0 hc1 hc2 hc3 hc4
      replace hc0 := (HM.out.bel.cell (World.block_lt_of_cell? w _ hc0)).trans hc0
      replace hc1 := (HM.out.bel.cell (World.block_lt_of_cell? w _ hc1)).trans hc1
      replace hc2 := (HM.out.bel.cell (World.block_lt_of_cell? w _ hc2)).trans hc2
      replace hc3 := (HM.out.bel.cell (World.block_lt_of_cell? w _ hc3)).trans hc3
      replace hc4 := (HM.out.bel.cell (World.block_lt_of_cell? w _ hc4)).trans hc4
      have hmk := Me.make_f x.f0 x.f1 x.f2 x.f3 x.f4
      have hms := mkQ_size x
      have hcat := catQ_size (l.take k)
      obtain ⟨bs, er, hmq⟩ : ∃ bs er, mkQ x = (bs, er) := ⟨_, _, rfl⟩
      rw [show Me.makeR x.f0 x.f1 x.f2 x.f3 x.f4 = (bs, er) from hmq] at hmk
      rw [hmq] at hms
      have hbx : badQ (l.take (k + 1)) = er := by
        rw [htk, badQ_app _ _ HG.out, badQ, hmq]
        by_cases h0 : er = 0
        · rw [if_pos h0, h0]; rfl
        · rw [if_neg h0]
      have hcx : catQ (l.take (k + 1)) = catQ (l.take k) ++ bs := by rw [htk, catQ_snoc, hmq]
      have HMK := Aside0.mk hmk
      have HBX := Aside0.mk hbx
      have HCX := Aside0.mk hcx
      have HTK := Aside0.mk htk
      have HDR := Aside0.mk hdr
      clear hmk hbx hcx htk hdr hmq
      obtain ⟨nm, mo, ti, sz, su⟩ := x
      dsimp only at hc0 hc1 hc2 hc3 hc4 hms HMK
      go_upto_region 7 with fail
      have hg := blk_new wr (.cells #[.string nm, .int .i64 mo, .int .i64 ti, .int .i64 sz, .string su] 33)
      have HM1 := Aside0.mk (HM.out.alloc (.cells #[.string nm, .int .i64 mo, .int .i64 ti, .int .i64 sz, .string su] 33))
      clear hc0 hc1 hc2 hc3 hc4 HM
      generalize wr.alloc (.cells #[.string nm, .int .i64 mo, .int .i64 ti, .int .i64 sz, .string su] 33) = W1 at hg HM1 ⊢
      obtain ⟨g, hgg⟩ : ∃ g, g = wr.heap.size := ⟨_, rfl⟩
      rw [← hgg] at hg ⊢
      clear hgg
      have c0 := (blk_cell hg 0).trans rfl
      have c1 := (blk_cell hg 1).trans rfl
      have c2 := (blk_cell hg 2).trans rfl
      have c3 := (blk_cell hg 3).trans rfl
      have c4 := (blk_cell hg 4).trans rfl
      clear hg
      go_wp2_with fail
      refine (meta_Make.calls nm mo ti sz su bs er _ (HT.out.below HM1.out.bel) HMK.out).mono ?_
      rintro e w3 ⟨rfl, hb⟩
      have HM2 := Aside0.mk (HM1.out.turn hb)
      clear hb HM1 c0 c1 c2 c3 c4
      by_cases h0 : er = 0
      · subst h0
        go_wp2_with fail
        refine (Bk.writeString B B _ bs _ HM2.out.own (by rw [Lib.byteCells_length]; show (headQ l.length ++ catQ (l.take k)).size + bs.size ≤ _; rw [ByteArray.size_append, headQ_size]; rw [List.length_take] at hcat; omega) (by rw [HB.out]; exact HM2.out.bel.size)).mono ?_
        rintro e w4 ⟨rfl, hb, hB⟩
        rw [cells_str] at hb
        have H4 := Aside0.mk (show TB w w4 B (headQ l.length ++ catQ (l.take (k + 1))).data.toList from ⟨.inr (by
          rw [HCX.out, ← app_assoc, ByteArray.data_append (l' := bs), Array.toList_append]
          exact hb), HM2.out.bel.trans (by rw [← HB.out]; exact hB)⟩)
        clear hb hB HM2
        go_wp2_with fail
        go_roundg (gk - 1)
        case measure => omega
        case rel => exact ⟨k + 1, by omega, by go_num, HBX, H4⟩
      · have hne : (er == 0) = false := beq_eq_false_iff_ne.mpr h0
        have hne2 : (er != 0) = true := bne_iff_ne.mpr h0
        have hmq : makeQ l = (⟨#[]⟩, er) := by
          have hb : badQ l = er := by
            rw [← HDR.out, HTK.out, List.append_assoc, badQ_app _ _ HG.out]
            have := HBX.out
            rw [HTK.out, badQ_app _ _ HG.out] at this
            rw [List.singleton_append, badQ]
            rw [badQ] at this
            by_cases h2 : (mkQ ⟨nm, mo, ti, sz, su⟩).2 = 0
            · rw [if_pos h2] at this
              exact absurd this.symm h0
            · rw [if_neg h2] at this ⊢
              exact this
          unfold makeQ
          rw [hb, if_neg h0]
        have HMQ := Aside0.mk hmq
        clear hmq
        go_wp2_with fail
        go_ret2
        refine ⟨?_, HM2.out.bel⟩
        rw [HMQ.out]
        rfl
    · have d1 : decide ((k : Int) < (l.length : Int)) = false := decide_eq_false (by omega)
      obtain rfl : k = l.length := by omega
      rw [List.take_length] at HG HM
      have hall := (badQ_iff l).1 HG.out
      have hsz : ∀ x ∈ l, 0 ≤ x.f3 ∧ x.f3 ≤ 32768 := fun x hx => by
        have h := Me.rest_iff (fineQ_parts ((mkQ_fine x).1 (hall x hx))).2
        exact ⟨h.2.2.2.2.1, h.2.2.2.2.2.1⟩
      have hnm : ∀ x ∈ l, x.f0.size ≤ 255 := fun x hx => Me.name_len (fineQ_parts ((mkQ_fine x).1 (hall x hx))).1
      have HSZ := Aside0.mk hsz
      have HNM := Aside0.mk hnm
      have HRW := Aside0.mk (Kd.C_below HR.out HM.out.bel)
      clear hall hsz hnm
      go_wp2_with fail
      refine (together_calls A c l _ HRW.out hn HSZ.out HNM.out).mono ?_
      rintro e w3 ⟨rfl, hb⟩
      have HM2 := Aside0.mk (HM.out.turn hb)
      clear hb HM HRW HSZ HNM
      by_cases ht : togQ l = 0
      · have hne : (togQ l == 0) = true := beq_iff_eq.mpr ht
        have hne2 : (togQ l != 0) = false := bne_eq_false_iff_eq.mpr ht
        have hmq : makeQ l = (bodyQ l ++ Bk.blakeSum (bodyQ l), 0) := by
          unfold makeQ
          rw [if_pos HG.out, if_pos ht]
        have HMQ := Aside0.mk hmq
        have hbs := bodyQ_size l
        have hbn : (headQ l.length ++ catQ l).data.toList ≠ [] := fun e => by
          have h1 : (headQ l.length ++ catQ l).data.toList.length = (headQ l.length ++ catQ l).size := rfl
          rw [e, ByteArray.size_append, headQ_size] at h1
          simp at h1
          omega
        have hbl := Bk.blakeSum_size (bodyQ l)
        clear hmq
        obtain ⟨p, hF⟩ : ∃ p, Lib.BuilderAtF 46 5 B B p (Lib.byteCells (headQ l.length ++ catQ l).data.toList) w3 := by
          rcases Lib.IsBuilderF.of HM2.out.own with h | h
          · exact ⟨_, h⟩
          · exact ⟨_, h⟩
        have HF := Aside0.mk hF
        have HW := Aside0.mk HM2.out.bel
        clear hF HM2
        have hbt : (⟨(headQ l.length ++ catQ l).data.toList.toArray⟩ : ByteArray) = bodyQ l := by
          unfold bodyQ
          apply ByteArray.ext
          simp
        go_wp2_with fail
        have hS := builderStringF B B p _ _ HF.out hbn
        rw [hbt] at hS
        refine hS.mono ?_
        rintro e w4 ⟨rfl, hF, hb⟩
        have HF2 := Aside0.mk hF
        have HW2 := Aside0.mk (HW.out.trans (show Below w.heap.size w3 w4 by rw [← HB.out]; exact hb))
        clear hF hb hS HF HW
        go_wp2_with fail
        have hS := builderStringF B B p _ _ HF2.out hbn
        rw [hbt] at hS
        refine hS.mono ?_
        rintro e w5 ⟨rfl, hF, hb⟩
        have HW3 := Aside0.mk (HW2.out.trans (show Below w.heap.size w4 w5 by rw [← HB.out]; exact hb))
        clear hF hb hS HF2 HW2 hbn hbt
        obtain ⟨T, hTT⟩ : ∃ T, T = bodyQ l := ⟨_, rfl⟩
        rw [← hTT] at hbl hbs HMQ ⊢
        clear hTT
        go_wp2_with fail
        refine (Bk.blake_sum T (by omega) _).mono ?_
        rintro e w6 ⟨rfl, hb⟩
        have HW4 := Aside0.mk (HW3.out.trans (hb.mono HW3.out.size))
        clear hb HW3
        generalize Bk.blakeSum T = D at hbl HMQ ⊢
        have hTD : T.size + D.size ≤ 9223372036854775807 := by omega
        go_wp2_with fail
        go_ret2
        refine ⟨?_, HW4.out⟩
        rw [HMQ.out]
        rfl
      · have hne : (togQ l == 0) = false := beq_eq_false_iff_ne.mpr ht
        have hne2 : (togQ l != 0) = true := bne_iff_ne.mpr ht
        have hmq : makeQ l = (⟨#[]⟩, togQ l) := by
          unfold makeQ
          rw [if_pos HG.out, if_neg ht]
        have HMQ := Aside0.mk hmq
        clear hmq
        go_wp2_with fail
        go_ret2
        refine ⟨?_, HM2.out.bel⟩
        rw [HMQ.out]
        rfl
end Go.Proofs.YtbeibmdccjgcmaaDoor.PQu
namespace Go.Proofs.YtbeibmdccjgcmaaDoor.PQu
open Go.RowKit Go.Proofs.YtbeibmdccjgcmaaDoorW.PrintWords Go.Proofs.YtbeibmdccjgcmaaDoorW.PrintLast Go.Proofs.YtbeibmdccjgcmaaDoorW.PrintMore
attribute [local go_sem] max2_int min2_int max_two min_two max_three min_three max_four min_four   -- for this text's walks alone
set_option linter.unusedVariables false
set_option linter.unusedSimpArgs false

/-! ### quick_Make: function 10 -/
def quick_Make.f (k : Nat) (l0 : List (S33)) : Option (ByteArray × Int) := if l0.length ≤ 1000000 then some (makeQ l0) else none
theorem quick_Make.mono : ∀ a0 k, LeO (quick_Make.f k a0) (quick_Make.f (k + 1) a0) := fun _ _ => LeO.refl _
theorem quick_Make.calls (k : Nat) (A0 : Option Addr) (c0 : Nat) (l0 : List (S33)) (r1 : ByteArray) (r2 : Int) (w : World) (hTabs : Me.Tabs w) (hr0 : Kd.C k33 w A0 l0.length l0) (hc0 : l0.length ≤ c0) (h : quick_Make.f k l0 = some (r1, r2)) :
    Calls Tryd.prog 10 #[.slice A0 l0.length c0] w fun e w' => e = .returned (.tuple #[.string r1, .int .i64 r2]) ∧ Below w.heap.size w w' := by
  unfold quick_Make.f at h
  by_cases hs : l0.length ≤ 1000000
  · rw [if_pos hs] at h
    have e := Option.some.inj h
    have hc := qmake_calls A0 c0 l0 w hTabs hr0 hs
    rw [e] at hc
    exact hc
  · rw [if_neg hs] at h
    exact absurd h (by simp)

end Go.Proofs.YtbeibmdccjgcmaaDoor.PQu
namespace Go.Proofs.YtbeibmdccjgcmaaDoor.PQu
open Go.RowKit Go.Lib Go.Shelf Go.Proofs.YtbeibmdccjgcmaaDoorW.PrintWords Go.Proofs.YtbeibmdccjgcmaaDoorW.PrintLast Go.Proofs.YtbeibmdccjgcmaaDoorW.PrintMore Go.Proofs.YtbeibmdccjgcmaaDoor.Pb
set_option linter.unusedVariables false
set_option linter.unusedSimpArgs false
instance : Inhabited MS := ⟨z33⟩
def laysQ_ren : Go.Shelf.Ren := ⟨fun | 8 => 30 | 6 => 46 | n => n, fun | 22 => 22 | 23 => 33 | 25 => 36 | 4 => 4 | 3 => 3 | 0 => 0 | n => n, fun | n => n⟩
theorem laysQ : Go.Proofs.SlLaysH0.n8 Tryd.prog laysQ_ren := {
  mixed := by kernel_rfl
  f6 := ⟨Tryd.f46.name, by decide, Tryd.func46.trans (congrArg some (by kernel_rfl))⟩
  f8 := ⟨Tryd.f30.name, by decide, Tryd.func30.trans (congrArg some (by kernel_rfl))⟩
  t0 := Tryd.underlying0
  a0 := Tryd.isAgg0
  z0 := Tryd.sizeOf0
  v0 := Tryd.zeroValue0
  t3 := Tryd.underlying3
  a3 := Tryd.isAgg3
  z3 := Tryd.sizeOf3
  v3 := Tryd.zeroValue3
  t4 := Tryd.underlying4
  a4 := Tryd.isAgg4
  z4 := Tryd.sizeOf4
  v4 := Tryd.zeroValue4
  t22 := Tryd.underlying22
  a22 := Tryd.isAgg22
  z22 := Tryd.sizeOf22
  v22 := Tryd.zeroValue22
  t25 := Tryd.underlying36
  a25 := Tryd.isAgg36
  z25 := Tryd.sizeOf36
  v25 := Tryd.zeroValue36 }
def encQ (x : MS) : List Value := [.string x.f0, .int .i64 x.f1, .int .i64 x.f2, .int .i64 x.f3, .string x.f4]
set_option maxHeartbeats 1000000 in
/-- The predicate. -/
theorem pred_calls (w W : World) (hT : Me.Tabs w) (hB : Below w.heap.size w W) (x : MS) :
    Calls Tryd.prog 31 (#[.agg (encQ x).toArray] ++ #[]) W fun e w' => e = .returned (.bool (!fineQ x)) ∧ Below w.heap.size w w' := by
  have HT := Aside0.mk (hT.below hB)
  have HB := Aside0.mk hB
  clear hT hB
  obtain ⟨nm, mo, ti, sz, su⟩ := x
  have hg := blk_new W (.cells #[.string nm, .int .i64 mo, .int .i64 ti, .int .i64 sz, .string su] 33)
  have HB1 := Aside0.mk (below_alloc (Below.refl _ W) (.cells #[.string nm, .int .i64 mo, .int .i64 ti, .int .i64 sz, .string su] 33))
  have HG := Aside0.mk hg
  clear hg
  show Calls Tryd.prog 31 #[.agg #[.string nm, .int .i64 mo, .int .i64 ti, .int .i64 sz, .string su]] W _
  go_enter Tryd.func31, Tryd.ntmps31
  go_upto_region 1 with fail
  generalize W.alloc (.cells #[.string nm, .int .i64 mo, .int .i64 ti, .int .i64 sz, .string su] 33) = W1 at HG HB1 ⊢
  obtain ⟨g, hgg⟩ : ∃ g, g = W.heap.size := ⟨_, rfl⟩
  rw [← hgg] at HG ⊢
  clear hgg
  have c0 := (blk_cell HG.out 0).trans rfl
  have c1 := (blk_cell HG.out 1).trans rfl
  have c2 := (blk_cell HG.out 2).trans rfl
  have c3 := (blk_cell HG.out 3).trans rfl
  have c4 := (blk_cell HG.out 4).trans rfl
  go_wp2_with fail
  refine (Me.may_calls nm mo ti sz su _ (HT.out.below HB1.out)).mono ?_
  rintro e w3 ⟨rfl, hb⟩
  have HW := Aside0.mk (HB.out.trans ((HB1.out.trans (hb.mono HB1.out.size)).mono HB.out.size))
  clear hb c0 c1 c2 c3 c4
  generalize hm : Me.mayB nm mo ti sz su = m
  have HM := Aside0.mk (show fineQ ⟨nm, mo, ti, sz, su⟩ = m from hm)
  clear hm
  go_wp2_with fail
  go_ret
  refine ⟨?_, HW.out⟩
  rw [HM.out]
  rfl
set_option maxHeartbeats 1000000 in
/-- Is there one that may not be? -/
theorem contains_calls (A : Option Addr) (c : Nat) (l : List MS) (w : World) (hT : Me.Tabs w) (hr : Kd.C k33 w A l.length l) (hn : l.length ≤ 1000000) :
    Calls Tryd.prog 30 #[.slice A l.length c, .func (.func 31) #[] #[]] w fun e w' => e = .returned (.bool (l.any fun x => !fineQ x)) ∧ Below w.heap.size w w' := by
  by_cases h0 : l.length = 0
  · obtain rfl := List.eq_nil_of_length_eq_zero h0
    clear hr hT h0 hn
    go_enter Tryd.func30, Tryd.ntmps30
    go_wp2_with fail
    have key : Calls Tryd.prog 46 #[.slice A 0 c, .func (.func 31) #[] #[]] w fun e w' => e = .returned (.int .i64 (-1)) ∧ w' = w := by
      go_enter Tryd.func46, Tryd.ntmps46
      go_wp2
      refine wp_loop_rounds 1 ?_
      rw [rounds_succ]
      go_wp2
      go_ret
      exact ⟨rfl, rfl⟩
    refine key.mono ?_
    rintro e w1 ⟨rfl, rfl⟩
    go_wp2_with fail
    go_ret
    exact ⟨rfl, Below.refl _ _⟩
  · obtain ⟨ad, ea, hq, _⟩ := at_T33 hr 0 (by decide) (by omega)
    cases ea
    obtain ⟨b, off, spot⟩ := ad
    have hb : b < w.heap.size := World.block_lt_of_cell? w _ hq
    have hsp : spot = none := by
      have h1 : w.cell? ⟨b, off, spot⟩ = some (.string (rd_T33 l 0).f0) := hq
      cases spot with
      | none => rfl
      | some z =>
        unfold World.cell? at h1
        revert h1
        dsimp only
        cases w.heap[b]? with
        | none => simp
        | some o => cases o <;> simp
    subst hsp
    clear hq
    have hcell : ∀ j, j < l.length → ∀ i v, (encQ l[j]!)[i]? = some v → w.cell? ⟨b, off + j * 5 + i, none⟩ = some v := by
      intro j hj i v hi
      obtain ⟨ad2, ea2, q0, q1, q2, q3, q4⟩ := at_T33 hr (j : Int) (by omega) (by omega)
      cases ea2
      have ej : rd_T33 l (j : Int) = l[j]! := by
        unfold rd_T33
        rw [Int.toNat_natCast, List.getD_eq_getElem?_getD, List.getElem?_eq_getElem hj, getElem!_pos l j hj]
        rfl
      rw [ej, Int.toNat_natCast, Addr.add_lit] at q0 q1 q2 q3 q4
      match i, hi with
      | 0, hi => exact Option.some.inj hi ▸ q0
      | 1, hi => exact Option.some.inj hi ▸ q1
      | 2, hi => exact Option.some.inj hi ▸ q2
      | 3, hi => exact Option.some.inj hi ▸ q3
      | 4, hi => exact Option.some.inj hi ▸ q4
      | z + 5, hi => simp [encQ] at hi
    refine (AnyQ.slices_ContainsFunc laysQ 5 Tryd.isAgg33 Tryd.sizeOf33 encQ (fun _ => rfl) (fun x => !fineQ x) 31 #[] (fun args w => enters_ Tryd.func31 (by kernel_rfl) rfl args w) b off l.length c l w (fun W x hW => pred_calls w W hT hW x) (Nat.le_refl _) (by omega) hb hcell).mono ?_
    rintro e w' ⟨rfl, h⟩
    rw [List.take_length]
    exact ⟨rfl, h⟩
def mayQ (l : List MS) : Bool := (makeQ l).2 == 0
theorem makeQ_two (l : List MS) : (makeQ l).2 = if badQ l = 0 then togQ l else badQ l := by
  unfold makeQ
  by_cases h1 : badQ l = 0
  · rw [if_pos h1, if_pos h1]
    by_cases h2 : togQ l = 0
    · rw [if_pos h2, h2]
    · rw [if_neg h2]
  · rw [if_neg h1, if_neg h1]
set_option maxHeartbeats 1000000 in
theorem qmay_calls (A : Option Addr) (c : Nat) (l : List MS) (w : World) (hT : Me.Tabs w) (hr : Kd.C k33 w A l.length l) (hn : l.length ≤ 1000000) :
    Calls Tryd.prog 12 #[.slice A l.length c] w fun e w' => e = .returned (.bool (mayQ l)) ∧ Below w.heap.size w w' := by
  have HR := Aside0.mk hr
  have HT := Aside0.mk hT
  clear hr hT
  have hany : (l.any fun x => !fineQ x) = !decide (badQ l = 0) := by
    by_cases h : badQ l = 0
    · rw [decide_eq_true h, Bool.not_true, List.any_eq_false]
      intro x hx
      rw [(mkQ_fine x).1 ((badQ_iff l).1 h x hx)]
      decide
    · rw [decide_eq_false h, Bool.not_false, List.any_eq_true]
      have h2 : ¬ ∀ x ∈ l, (mkQ x).2 = 0 := fun h2 => h ((badQ_iff l).2 h2)
      obtain ⟨x, hx⟩ := Classical.not_forall.1 h2
      obtain ⟨hx, hx2⟩ := Classical.not_imp.1 hx
      refine ⟨x, hx, ?_⟩
      cases hf : fineQ x with
      | true => exact absurd ((mkQ_fine x).2 hf) hx2
      | false => rfl
  have hmay : mayQ l = ((if badQ l = 0 then togQ l else badQ l) == 0) := by unfold mayQ; rw [makeQ_two]
  have HM := Aside0.mk hmay
  by_cases hb : badQ l = 0
  · have hc := contains_calls A c l w HT.out HR.out hn
    rw [hany, decide_eq_true hb] at hc
    have HC := Aside0.mk hc
    have hall := (badQ_iff l).1 hb
    have hsz : ∀ x ∈ l, 0 ≤ x.f3 ∧ x.f3 ≤ 32768 := fun x hx => by
      have h := Me.rest_iff (fineQ_parts ((mkQ_fine x).1 (hall x hx))).2
      exact ⟨h.2.2.2.2.1, h.2.2.2.2.2.1⟩
    have hnm : ∀ x ∈ l, x.f0.size ≤ 255 := fun x hx => Me.name_len (fineQ_parts ((mkQ_fine x).1 (hall x hx))).1
    have HSZ := Aside0.mk hsz
    have HNM := Aside0.mk hnm
    rw [if_pos hb] at hmay
    have HM := Aside0.mk hmay
    clear hc hany hmay hall hsz hnm hb
    go_enter Tryd.func12, Tryd.ntmps12
    go_wp2_with fail
    refine HC.out.mono ?_
    rintro e w1 ⟨rfl, hb⟩
    have HB := Aside0.mk hb
    clear hb
    go_wp2_with fail
    refine (together_calls A c l _ (Kd.C_below HR.out HB.out) hn HSZ.out HNM.out).mono ?_
    rintro e w2 ⟨rfl, hb⟩
    have HB2 := Aside0.mk (HB.out.trans (hb.mono HB.out.size))
    clear hb
    go_wp2_with fail
    go_ret
    refine ⟨?_, HB2.out⟩
    rw [HM.out]
    rfl
  · have hc := contains_calls A c l w HT.out HR.out hn
    rw [hany, decide_eq_false hb] at hc
    have HC := Aside0.mk hc
    rw [if_neg hb, beq_eq_false_iff_ne.mpr hb] at hmay
    have HM := Aside0.mk hmay
    clear hc hany hmay hb
    go_enter Tryd.func12, Tryd.ntmps12
    go_wp2_with fail
    refine HC.out.mono ?_
    rintro e w1 ⟨rfl, hb⟩
    have HB := Aside0.mk hb
    clear hb
    go_wp2_with fail
    go_ret
    refine ⟨?_, HB.out⟩
    rw [HM.out]
    rfl
end Go.Proofs.YtbeibmdccjgcmaaDoor.PQu
namespace Go.Proofs.YtbeibmdccjgcmaaDoor.PQu
open Go.RowKit Go.Proofs.YtbeibmdccjgcmaaDoorW.PrintWords Go.Proofs.YtbeibmdccjgcmaaDoorW.PrintLast Go.Proofs.YtbeibmdccjgcmaaDoorW.PrintMore
attribute [local go_sem] max2_int min2_int max_two min_two max_three min_three max_four min_four   -- for this text's walks alone
set_option linter.unusedVariables false
set_option linter.unusedSimpArgs false

/-! ### quick_May: function 12 -/
def quick_May.f (k : Nat) (l0 : List (S33)) : Option (Bool) := if l0.length ≤ 1000000 then some (mayQ l0) else none
theorem quick_May.mono : ∀ a0 k, LeO (quick_May.f k a0) (quick_May.f (k + 1) a0) := fun _ _ => LeO.refl _
theorem quick_May.calls (k : Nat) (A0 : Option Addr) (c0 : Nat) (l0 : List (S33)) (r : Bool) (w : World) (hTabs : Me.Tabs w) (hr0 : Kd.C k33 w A0 l0.length l0) (hc0 : l0.length ≤ c0) (h : quick_May.f k l0 = some r) :
    Calls Tryd.prog 12 #[.slice A0 l0.length c0] w fun e w' => e = .returned (.bool r) ∧ Below w.heap.size w w' := by
  unfold quick_May.f at h
  by_cases hs : l0.length ≤ 1000000
  · rw [if_pos hs] at h
    obtain rfl := Option.some.inj h
    exact qmay_calls A0 c0 l0 w hTabs hr0 hs
  · rw [if_neg hs] at h
    exact absurd h (by simp)

end Go.Proofs.YtbeibmdccjgcmaaDoor.PQu
namespace Go.Proofs.YtbeibmdccjgcmaaDoor.PQu
open Go.RowKit Go.Lib Go.Proofs.YtbeibmdccjgcmaaDoorW.PrintWords Go.Proofs.YtbeibmdccjgcmaaDoorW.PrintLast Go.Proofs.YtbeibmdccjgcmaaDoorW.PrintMore Go.Proofs.YtbeibmdccjgcmaaDoor.Pb
set_option linter.unusedVariables false
set_option linter.unusedSimpArgs false
def mkb (x : MS) : ByteArray := Me.makeB x.f0 x.f1 x.f2 x.f3 x.f4
theorem mkQ_of {x : MS} (h : fineQ x = true) : mkQ x = (mkb x, 0) := by
  obtain ⟨h1, h2⟩ := fineQ_parts h
  unfold mkQ Me.makeR mkb
  rw [if_pos h1, if_pos h2]
theorem catQ_cons {x : MS} {l : List MS} (h : fineQ x = true) : catQ (x :: l) = mkb x ++ catQ l := by rw [catQ, mkQ_of h]
theorem makeQ_zero {l : List MS} (h : (makeQ l).2 = 0) : badQ l = 0 ∧ togQ l = 0 ∧ makeQ l = (bodyQ l ++ Bk.blakeSum (bodyQ l), 0) := by
  rw [makeQ_two] at h
  by_cases hb : badQ l = 0
  · rw [if_pos hb] at h
    refine ⟨hb, h, ?_⟩
    unfold makeQ
    rw [if_pos hb, if_pos h]
  · rw [if_neg hb] at h
    exact absurd h hb
theorem togQ_zero {l : List MS} (h : togQ l = 0) : dupQ (namesQ l) = false ∧ l.length ≤ 64 ∧ sumQ l ≤ 32768 := by
  unfold togQ at h
  by_cases hd : dupQ (namesQ l) = false
  · rw [if_pos hd] at h
    by_cases hc : 64 < l.length ∨ 32768 < sumQ l
    · rw [if_pos hc] at h
      exact absurd h (by decide)
    · exact ⟨hd, by omega, by omega⟩
  · rw [if_neg hd] at h
    exact absurd h (by decide)
theorem all_fine {l : List MS} (h : badQ l = 0) : ∀ x ∈ l, fineQ x = true := fun x hx => (mkQ_fine x).1 ((badQ_iff l).1 h x hx)
/-- A list's bytes, apart. -/
theorem made_parts {l : List MS} {s : ByteArray} (h : makeQ l = (s, 0)) : (∀ x ∈ l, fineQ x = true) ∧ l.length ≤ 64 ∧ s = bodyQ l ++ Bk.blakeSum (bodyQ l) ∧ s.size = (bodyQ l).size + 32 ∧ (bodyQ l).size = 5 + (catQ l).size := by
  have h2 : (makeQ l).2 = 0 := by rw [h]
  obtain ⟨hb, ht, he⟩ := makeQ_zero h2
  rw [h] at he
  have hs : s = bodyQ l ++ Bk.blakeSum (bodyQ l) := congrArg Prod.fst he
  refine ⟨all_fine hb, (togQ_zero ht).2.1, hs, ?_, ?_⟩
  · rw [hs, ByteArray.size_append, Bk.blakeSum_size]
  · unfold bodyQ
    rw [ByteArray.size_append, headQ_size]
end Go.Proofs.YtbeibmdccjgcmaaDoor.PQu
