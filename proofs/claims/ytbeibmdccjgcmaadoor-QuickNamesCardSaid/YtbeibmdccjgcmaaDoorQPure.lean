/- Lists and their bytes, in plain words: Read of Make is the list, Make of Read the bytes. -/
import Derived.Test.YtbeibmdccjgcmaaDoorRq
import Derived.Test.YtbeibmdccjgcmaaDoorQBase
import Derived.Test.YtbeibmdccjgcmaaDoorMetaBackP
import Derived.Test.YtbeibmdccjgcmaaDoorQTog
namespace Go.Proofs.YtbeibmdccjgcmaaDoor.PQu
open Go.RowKit Go.Shelf Go.Proofs.YtbeibmdccjgcmaaDoorW.PrintWords Go.Proofs.YtbeibmdccjgcmaaDoorW.PrintLast Go.Proofs.YtbeibmdccjgcmaaDoorW.PrintMore Go.Proofs.YtbeibmdccjgcmaaDoor.Pb
set_option linter.unusedVariables false
set_option linter.unusedSimpArgs false
attribute [local go_sem] Oper.semAt_some
def msOf (s : ByteArray) : MS := ⟨(Me.readA s).nm, (Me.readA s).mo, (Me.readA s).ti, (Me.readA s).sz, (Me.readA s).su⟩
/-- So many that a text begins with, each with what is left. -/
def tellQ : Nat → ByteArray → List (MS × ByteArray)
  | 0, _ => []
  | n + 1, s => if (Me.readA s).e = 0 then (msOf s, s.extract (Me.readA s).used s.size) :: tellQ n (s.extract (Me.readA s).used s.size) else []
theorem tellQ_len : ∀ (n : Nat) (s : ByteArray), (tellQ n s).length ≤ n
  | 0, _ => Nat.le_refl _
  | n + 1, s => by
    rw [tellQ]
    split
    · have := tellQ_len n (s.extract (Me.readA s).used s.size)
      rw [List.length_cons]
      omega
    · exact Nat.zero_le _
theorem used_le (s : ByteArray) : (Me.readA s).used ≤ s.size := by
  rcases Me.read_cases s with h | ⟨_, _, _, h, _⟩
  · rw [h]; exact Nat.zero_le _
  · exact h
theorem tellQ_more {n : Nat} {s : ByteArray} {R : Me.Ans} (hR : Me.readA s = R) (he : R.e = 0) : tellQ (n + 1) s = (⟨R.nm, R.mo, R.ti, R.sz, R.su⟩, s.extract R.used s.size) :: tellQ n (s.extract R.used s.size) := by
  rw [tellQ, hR, if_pos he, msOf, hR]
theorem tellQ_end {n : Nat} {s : ByteArray} {R : Me.Ans} (hR : Me.readA s = R) (he : ¬ R.e = 0) : tellQ (n + 1) s = [] := by
  rw [tellQ, hR, if_neg he]
/-- The library's variables hold what they hold in each world in which the first blocks lie as they lay. -/
theorem tabs_heap {w W : World} {B : Nat} (h : Me.Tabs w) (hB : w.heap.size ≤ B) (hsz : w.heap.size ≤ W.heap.size) (hk : ∀ k, k < B → W.heap[k]? = w.heap[k]?) : Me.Tabs W := by
  have h2 : Me.Tabs { W with os := w.os, tape := w.tape, output := w.output } := h.below ⟨rfl, rfl, rfl, hsz, fun k hk2 => hk k (Nat.lt_of_lt_of_le hk2 hB)⟩
  exact h2
abbrev encP (x : MS × ByteArray) : Array Value := #[.agg #[.string x.1.f0, .int .i64 x.1.f1, .int .i64 x.1.f2, .int .i64 x.1.f3, .string x.1.f4], .string x.2]
/-- The blocks that nobody turns. -/
def Old (B m k : Nat) : Prop := k < B ∨ k = m
set_option maxHeartbeats 4000000 in
set_option maxRecDepth 100000 in
theorem all_tells (n : Nat) (b m k : Nat) (s : ByteArray) (w0 w : World) (hT : Me.Tabs w0) (hB : Below w0.heap.size w0 w) (hs : s.size ≤ 1000000000000000) (hk : k ≤ 1000000) (hb : Boxed w b 9 (.string s)) (hc : Boxed w m 3 (.int .i64 (k : Int))) (hge : w0.heap.size ≤ b) (hmb : m ≠ b) :
    Rq.Tells Fence.wide n Tryd.prog 52 #[.pointer (some ⟨m, 0, none⟩), .pointer (some ⟨b, 0, none⟩)] encP b (Old w0.heap.size m) (fun xs => xs = tellQ k s) (tellQ k s).length w := by
  intro l J W hsz hbox hold hJ hY h0
  refine callsIn_of_wp Tryd.func52 rfl trivial ?_ rfl
  simp only [Tryd.ntmps52, List.size_toArray, List.length_cons, List.length_nil, Nat.reduceAdd, Nat.reduceSub, Array.replicate_succ, Array.replicate_zero, List.push_toArray, List.append_toArray, List.nil_append, List.cons_append]
  have hcc := (show Boxed W m 3 (.int .i64 (k : Int)) from (hold m (.inr rfl)).trans hc).cell
  have hbW : Boxed W b 9 (.string s) := hbox.trans hb
  have hoW : ∀ j, j < w0.heap.size → W.heap[j]? = w0.heap[j]? := fun j hj => (hold j (.inl hj)).trans (hB.block j hj)
  have hmW : m < W.heap.size := (show Boxed W m 3 (.int .i64 (k : Int)) from (hold m (.inr rfl)).trans hc).lt
  have hzW : w0.heap.size ≤ W.heap.size := Nat.le_trans hB.size hsz
  have HT := Aside0.mk hT
  clear hb hc hbox hold hsz hB hT
  gi_wp2
  refine Rq.loop_ghost (fun kq a wr => ∃ (i : Nat) (pre : List (MS × ByteArray)) (s' : ByteArray) (t3 t4 t5 t6 t9 t10 t11 t12 t13 t14 t15 t16 t17 t18 t19 t20 t21 t22 t23 t24 t25 t26 : Value), a = { tmps := #[.func (.yield l) #[] #[], .pointer (some ⟨m, 0, none⟩), .pointer (some ⟨b, 0, none⟩), t3, t4, t5, t6, .int .i64 (k : Int), .int .i64 (i : Int), t9, t10, t11, t12, t13, t14, t15, t16, t17, t18, t19, t20, t21, t22, t23, t24, t25, t26], defers := [] } ∧ i + kq = k ∧ pre ++ tellQ kq s' = tellQ k s ∧ s'.size ≤ 1000000000000000 ∧ Boxed wr b 9 (.string s') ∧ ((∀ j, j < w0.heap.size → wr.heap[j]? = w0.heap[j]?) ∧ w0.heap.size ≤ wr.heap.size ∧ m < wr.heap.size) ∧ J pre wr) k ⟨0, [], s, undef, undef, undef, undef, undef, undef, undef, undef, undef, undef, undef, undef, undef, undef, undef, undef, undef, undef, undef, undef, undef, undef, rfl, by omega, rfl, hs, hbW, ⟨hoW, hzW, hmW⟩, h0⟩ ?_
  rintro kq a wr ⟨i, pre, s', t3, t4, t5, t6, t9, t10, t11, t12, t13, t14, t15, t16, t17, t18, t19, t20, t21, t22, t23, t24, t25, t26, rfl, hik, hL, hs', hb', hO, hJ'⟩
  clear hbW hoW hzW h0 hs hmW hcc
  have HL := Aside0.mk hL
  have HJ' := Aside0.mk hJ'
  have HO := Aside0.mk hO
  have HB' := Aside0.mk hb'
  clear hL hJ' hO hb'
  cases kq with
  | zero =>
    have d1 : decide (i < k) = false := decide_eq_false (by omega)
    have d2 : ¬ i < k := by omega
    gi_wp2_with fail
    refine bodyPost_end (results_none rfl _ _ _) rfl ?_
    refine ⟨⟨_, rfl⟩, _, rfl, ?_⟩
    have e := HL.out
    rw [tellQ, List.append_nil] at e
    rw [← e]
    exact HJ'.out
  | succ k1 =>
    have d1 : decide (i < k) = true := decide_eq_true (by omega)
    have hu := used_le s'
    have hrd := Me.read_calls s' wr (tabs_heap HT.out (Nat.le_refl _) HO.out.2.1 HO.out.1) hs'
    obtain ⟨R, hR⟩ : ∃ R, Me.readA s' = R := ⟨_, rfl⟩
    rw [hR] at hu hrd
    have HRR := Aside0.mk hR
    clear hR
    obtain ⟨nm, mo, ti, sz, su, u, er⟩ := R
    dsimp only at hu hrd
    have HRD := Aside0.mk hrd
    clear hrd
    have hcell := HB'.out.cell
    by_cases he : er = 0
    · subst he
      have hu0 : (0 : Int) ≤ (u : Int) := by omega
      have hu1 : (u : Int) ≤ (s'.size : Int) := by omega
      have htl := tellQ_more (n := k1) HRR.out rfl
      dsimp only at htl
      have HTL := Aside0.mk htl
      clear htl HRR
      gi_wp2_with fail
      refine ⟨trivial, fun h => (by cases h), callsIn_wide.2 (HRD.out.mono ?_)⟩
      rintro e w1 ⟨rfl, hb1⟩
      have HB1 := Aside0.mk hb1
      have HS1 := Aside0.mk hb1.size
      clear hb1
      have hbl := HB'.out.lt
      have hgne : w1.heap.size ≠ b := by have := HS1.out; omega
      have hbx1 := (show Boxed w1 b 9 (.string s') from (HB1.out.block b HB'.out.lt).trans HB'.out).alloc (.cells #[.string nm, .int .i64 mo, .int .i64 ti, .int .i64 sz, .string su] 33)
      have hcell1 := hbx1.cell
      have hfro1 := hbx1.frozen
      have hbx2 := hbx1.set (.string (s'.extract u s'.size))
      have hblk : ((w1.alloc (.cells #[.string nm, .int .i64 mo, .int .i64 ti, .int .i64 sz, .string su] 33)).setCell ⟨b, 0, none⟩ (.string (s'.extract u s'.size))).heap[w1.heap.size]? = some (.cells #[.string nm, .int .i64 mo, .int .i64 ti, .int .i64 sz, .string su] 33 (0, 0)) := (Below.heap_setCell _ _ _ w1.heap.size (fun e => hgne e)).trans (blk_new w1 _)
      have hd0 := (blk_cell hblk 0).trans (rfl : _ = some (Value.string nm))
      have hd1 := (blk_cell hblk 1).trans (rfl : _ = some (Value.int .i64 mo))
      have hd2 := (blk_cell hblk 2).trans (rfl : _ = some (Value.int .i64 ti))
      have hd3 := (blk_cell hblk 3).trans (rfl : _ = some (Value.int .i64 sz))
      have hd4 := (blk_cell hblk 4).trans (rfl : _ = some (Value.string su))
      have hdb := hbx2.cell
      have hgr : wr.grownBy ((w1.alloc (.cells #[.string nm, .int .i64 mo, .int .i64 ti, .int .i64 sz, .string su] 33)).setCell ⟨b, 0, none⟩ (.string (s'.extract u s'.size))) (some b) := by
        refine ⟨HB1.out.os, HB1.out.tape, HB1.out.output, ?_, fun j hj hjb => ?_⟩
        · rw [World.size_setCell, World.size_alloc]; have := HS1.out; omega
        · exact (Below.heap_setCell _ _ _ j (fun e => hjb (by rw [e]))).trans ((Below.heap_alloc _ _ j (Nat.lt_of_lt_of_le hj HS1.out)).trans (HB1.out.block j hj))
      have hJ2 := hJ pre wr _ (some b) HJ'.out hgr fun r e => (Option.some.inj e).symm
      have hlt2 := hbx2.lt
      have hsr : (s'.extract u s'.size).size ≤ 1000000000000000 := by rw [ByteArray.size_extract]; omega
      have hold2 : ∀ j, Old w0.heap.size m j → j < ((w1.alloc (.cells #[.string nm, .int .i64 mo, .int .i64 ti, .int .i64 sz, .string su] 33)).setCell ⟨b, 0, none⟩ (.string (s'.extract u s'.size))).heap.size := fun j hj => by
        have h1 := hgr.size
        have h2 := HO.out.2.1
        have h3 := HO.out.2.2
        rcases hj with h | h <;> omega
      obtain ⟨fn, tmps, assign, body, hy, hR⟩ := hY pre (⟨nm, mo, ti, sz, su⟩, s'.extract u s'.size) _ hJ2 (by rw [← HL.out, HTL.out]; simp) hlt2 hold2
      dsimp only [encP] at hy
      have hOz : (∀ j, j < w0.heap.size → ((w1.alloc (.cells #[.string nm, .int .i64 mo, .int .i64 ti, .int .i64 sz, .string su] 33)).setCell ⟨b, 0, none⟩ (.string (s'.extract u s'.size))).heap[j]? = w0.heap[j]?) := fun j hj => (hgr.block j (Nat.lt_of_lt_of_le hj HO.out.2.1) (fun e => by injection e with e; omega)).trans (HO.out.1 j hj)
      have HOz := Aside0.mk hOz
      have HSz := Aside0.mk (And.intro (Nat.le_trans HO.out.2.1 hgr.size) (hold2 m (.inr rfl)))
      have HBX2 := Aside0.mk hbx2
      have HR := Aside0.mk hR
      have HRS := Aside0.mk hsr
      clear hblk hgr hJ2 hbx2 hR hbx1 hold2 hOz hsr hcell HRD HO
      gi_wp2_with fail
      refine ⟨fun h => (by cases h), HR.out.mono ?_⟩
      rintro e W3 ⟨rfl, hJ3, hsz3, hb3, ho3⟩
      have HJ3 := Aside0.mk hJ3
      have HB3 := Aside0.mk (show Boxed W3 b 9 (.string (s'.extract u s'.size)) from hb3.trans HBX2.out)
      have HO3 := Aside0.mk (show (∀ j, j < w0.heap.size → W3.heap[j]? = w0.heap[j]?) ∧ w0.heap.size ≤ W3.heap.size ∧ m < W3.heap.size from ⟨fun j hj => (ho3 j (.inl hj)).trans (HOz.out j hj), Nat.le_trans HSz.out.1 hsz3, Nat.lt_of_lt_of_le HSz.out.2 hsz3⟩)
      clear hJ3 hsz3 hb3 ho3
      gi_wp2_with fail
      refine ⟨k1, Nat.lt_succ_self _, i + 1, pre ++ [(⟨nm, mo, ti, sz, su⟩, s'.extract u s'.size)], s'.extract u s'.size, _, _, _, _, _, _, _, _, _, _, _, _, _, _, _, _, _, _, _, _, _, _, rfl, by omega, ?_, HRS.out, HB3.out, HO3.out, HJ3.out⟩
      rw [List.append_assoc, List.singleton_append, ← HTL.out, HL.out]
    · have heb : (er == 0) = false := beq_eq_false_iff_ne.mpr he
      have heb2 : (er != 0) = true := bne_iff_ne.mpr he
      have htl := tellQ_end (n := k1) HRR.out he
      have HTL := Aside0.mk htl
      clear htl HRR
      gi_wp2_with fail
      refine ⟨trivial, fun h => (by cases h), callsIn_wide.2 (HRD.out.mono ?_)⟩
      rintro e w1 ⟨rfl, hb1⟩
      have HB1 := Aside0.mk hb1
      have HS1 := Aside0.mk hb1.size
      clear hb1
      gi_wp2_with fail
      refine bodyPost_ret (results_none rfl _ _ _) rfl ?_
      refine ⟨⟨_, rfl⟩, _, rfl, ?_⟩
      have e := HL.out
      rw [HTL.out, List.append_nil] at e
      rw [← e]
      refine hJ pre wr _ none HJ'.out ⟨HB1.out.os, HB1.out.tape, HB1.out.output, ?_, fun j hj _ => ?_⟩ (by simp)
      · rw [World.size_alloc]; have := HS1.out; omega
      · exact (Below.heap_alloc w1 _ j (Nat.lt_of_lt_of_le hj HS1.out)).trans (HB1.out.block j hj)
theorem all_calls (s : ByteArray) (k : Int) (w : World) : Calls Tryd.prog 35 #[.string s, .int .i64 k] w fun e w' => e = .returned (.func (.func 52) #[] #[.pointer (some ⟨w.heap.size + 1, 0, none⟩), .pointer (some ⟨w.heap.size, 0, none⟩)]) ∧ w' = (w.alloc (.cells #[.string s] 9)).alloc (.cells #[.int .i64 k] 3) := by
  go_enter Tryd.func35, Tryd.ntmps35
  go_wp2
  go_ret
  exact ⟨rfl, rfl⟩
end Go.Proofs.YtbeibmdccjgcmaaDoor.PQu
namespace Go.Proofs.YtbeibmdccjgcmaaDoor.PQu
open Go.RowKit Go.Shelf Go.Proofs.YtbeibmdccjgcmaaDoorW.PrintWords Go.Proofs.YtbeibmdccjgcmaaDoorW.PrintLast Go.Proofs.YtbeibmdccjgcmaaDoorW.PrintMore Go.Proofs.YtbeibmdccjgcmaaDoor.Pb
set_option linter.unusedVariables false
set_option linter.unusedSimpArgs false
attribute [local go_sem] Oper.semAt_some
/-- What a step's end says of the paths that do not end by themselves. -/
def Calm (Q : Act → World → Prop) : Exit → Act → World → Prop
  | .normal, a, w => Q a w
  | _, _, _ => False
theorem calm_done {Q : Act → World → Prop} {a : Act} {w : World} (h : Q a w) : Calm Q .normal a w := h
theorem calm {n : Nat} {P : Program} {c : Code} {Q : Exit → Act → World → Prop} {a : Act} {w : World} (h : c.wp P (Calm (Q .normal)) a w) : c.wpIn Fence.wide n P Q a w :=
  wpIn_wide.2 (wp_mono h fun e a w hq => by cases e <;> first | exact hq | exact hq.elim)
def manyQ (s : ByteArray) : Nat := (bt s 4).toNat
def restQ (s : ByteArray) : ByteArray := s.extract 5 (s.size - 32)
def tollQ (s : ByteArray) : List (MS × ByteArray) := tellQ (manyQ s) (restQ s)
def outQ (L : List (MS × ByteArray)) : List MS := L.map (·.1)
/-- What is left behind the last. -/
def lastQ (s : ByteArray) (L : List (MS × ByteArray)) : ByteArray := (L.getLast?.map (fun x => x.2)).getD s
theorem lastQ_snoc (s : ByteArray) (L : List (MS × ByteArray)) (x : MS × ByteArray) : lastQ s (L ++ [x]) = x.2 := by simp [lastQ]
/-- Its head, and its sum, are right. -/
def soundQ (s : ByteArray) : Bool := decide (37 ≤ s.size) && (((s.extract 0 4).toList == [113, 99, 107, 49]) && ((Bk.blakeSum (s.extract 0 (s.size - 32))).toList == (s.extract (s.size - 32) s.size).toList))
def fullQ (s : ByteArray) : Bool := decide (¬ (tollQ s).length < manyQ s) && ((lastQ (restQ s) (tollQ s)).toList.isEmpty && mayQ (outQ (tollQ s)))
/-- The list of bytes, or how they are refused. -/
def readQ (s : ByteArray) : List MS × Int := if soundQ s = true then (if fullQ s = true then (outQ (tollQ s), 0) else ([], 4)) else ([], 4)
/-- Cells. -/
def cells5 (xs : List MS) : List Value := xs.flatMap encQ
theorem cells5_snoc (xs : List MS) (x : MS) : cells5 (xs ++ [x]) = cells5 xs ++ encQ x := by simp [cells5]
theorem outQ_snoc (L : List (MS × ByteArray)) (x : MS × ByteArray) : outQ (L ++ [x]) = outQ L ++ [x.1] := by simp [outQ]
theorem outQ_len (L : List (MS × ByteArray)) : (outQ L).length = L.length := by simp [outQ]
theorem reps5_more (W : World) (base : Nat) (ok : Nat → Prop) : ∀ (ys acc : List MS), Reps (k33.M W base ok) 5 acc (cells5 acc) → Reps (k33.M W base ok) 5 (acc ++ ys) (cells5 (acc ++ ys))
  | [], acc, h => by rw [List.append_nil]; exact h
  | y :: ys, acc, h => by
    have h2 := reps5_more W base ok ys (acc ++ [y]) (by rw [cells5_snoc]; exact h.snoc (k33_mkM W base ok y) rfl)
    rwa [List.append_assoc, List.singleton_append] at h2
theorem reps5_all (W : World) (base : Nat) (ok : Nat → Prop) (xs : List MS) : Reps (k33.M W base ok) 5 xs (cells5 xs) := reps5_more W base ok xs [] (Reps.none _ _)
/-- Between two rounds. -/
structure RI (w : World) (b0 : Nat) (rest : ByteArray) (pre : List (MS × ByteArray)) (W : World) : Prop where
  ex : ∃ v, Boxed W (b0 + 1) 22 v ∧ W.ownsRow w.heap.size 33 5 v pre.length (cells5 (outQ pre)) ∧ v.ownBlock ≠ some (b0 + 1 + 1) ∧ v.ownBlock ≠ some (b0 + 1 + 1 + 1)
  box : Boxed W b0 9 (.string (lastQ rest pre))
  bel : Below w.heap.size w W
theorem RI.bears {w : World} {b0 : Nat} {rest : ByteArray} {pre : List (MS × ByteArray)} {X Y : World} {row : Option Nat} (hw : w.heap.size ≤ b0) (h : RI w b0 rest pre X) (hg : X.grownBy Y row) (hr : ∀ r, row = some r → r = b0 + 1 + 1 ∨ b0 + 4 ≤ r ∧ ∃ o : Obj, X.heap[r]? = some o ∧ o.isCells = false) : RI w b0 rest pre Y := by
  obtain ⟨⟨v, h1, h2, h3, h3'⟩, h4, h5⟩ := h
  have far : ∀ B t u, Boxed X B t u → B ≠ b0 + 1 + 1 → some B ≠ row := by
    intro B t u hb hn e
    rcases hr B e.symm with q | ⟨_, o, ho, hc⟩
    · exact hn q
    · rw [show X.heap[B]? = _ from hb] at ho
      cases ho
      cases hc
  refine ⟨⟨v, h1.kept hg (far _ _ _ h1 (by omega)), h2.kept hg ?_, h3, h3'⟩, h4.kept hg (far _ _ _ h4 (by omega)), h5.grown hg h5.size fun r e => ?_⟩
  · rcases h2.2 with ⟨rfl, _⟩ | ⟨g, cap, cur, rfl, _, hgb, _⟩
    · exact .inl rfl
    · refine .inr fun e' => ?_
      have eg : row = some g := e'.symm
      rcases hr g eg with q | ⟨_, o, ho, hc⟩
      · exact h3 (by simp [Value.ownBlock, q])
      · rw [hgb] at ho
        cases ho
        cases hc
  · rcases hr r e with q | ⟨q, _⟩ <;> omega
set_option maxHeartbeats 4000000 in
set_option maxRecDepth 100000 in
theorem qread_calls (s : ByteArray) (w : World) (hT : Me.Tabs w) (hs : s.size ≤ 140737488351232) :
    Calls Tryd.prog 18 #[.string s] w fun e w' => ∃ v0_ : Value, e = .returned (.tuple #[v0_, .int .i64 (readQ s).2]) ∧ Kd.R k33 33 w' w.heap.size (fun _ => True) v0_ (readQ s).1 ∧ Below w.heap.size w w' := by
  have HT := Aside0.mk hT
  clear hT
  refine (callsIn_wide (n := 3)).1 ?_
  refine callsIn_of_wp_marks Tryd.func18 rfl trivial ?_ rfl
  simp only [Tryd.ntmps18, List.size_toArray, List.length_cons, List.length_nil, Nat.reduceAdd, Nat.reduceSub, Array.replicate_succ, Array.replicate_zero, List.push_toArray, List.append_toArray, List.nil_append, List.cons_append]
  by_cases h37 : 37 ≤ s.size
  · obtain ⟨n, hn⟩ : ∃ n : Nat, s.size = n + 32 := ⟨s.size - 32, by omega⟩
    have hn1 : (s.size : Int) - 32 = (n : Int) := by omega
    have hn5 : 5 ≤ n := by omega
    have hns : n ≤ s.size := by omega
    have d1 : decide (n < 5) = false := decide_eq_false (by omega)
    have d0 : decide ((n : Int) < 5) = false := decide_eq_false (by omega)
    have hs4 : (4 : Int) ≤ (s.size : Int) := by omega
    have hs32 : s.size - 32 = n := by omega
    have hs4n : 4 ≤ s.size := by omega
    have HN := Aside0.mk hn
    clear hn h37
    by_cases hh : (s.extract 0 4).toList = [113, 99, 107, 49]
    rotate_left
    · have hr : readQ s = ([], 4) := by
        unfold readQ soundQ
        rw [beq_eq_false_iff_ne.mpr hh, Bool.false_and, Bool.and_false, if_neg (by decide)]
      have HR := Aside0.mk hr
      clear hr
      have d2 : ((s.extract 0 4).toList == [113, 99, 107, 49]) = false := beq_eq_false_iff_ne.mpr hh
      have d3 : ((s.extract 0 4).toList != [113, 99, 107, 49]) = true := bne_iff_ne.mpr hh
      gi_wp2_with fail
      refine calm ?_
      refine start_ (n := 17) (S := fun w' => True) (ds := []) #[false, false, false, false, false, false, false, false, false, false, false, false, false, false, false, false, false] (by kernel_rfl) rfl rfl trivial (fun hHeld => ?_)
      refine pure_ (i := 0) (N := some 13) (v := ?_) (a' := ?_) #[true, false, false, false, false, false, false, false, false, false, false, false, false, false, false, false, false] rfl rfl (by kernel_rfl) (fun _ _ _ h => h) (Or.inl ⟨by rfl, ?_⟩) ?_ ?_
      rotate_left
      · intro w'
        go_simp
        with_reducible rfl
      rotate_left
      · simp only [Act.put, List.setIfInBounds_toArray, List.set_cons_zero, List.set_cons_succ, i64_w, i32_w]
        rfl
      refine pure_ (i := 1) (N := some 14) (v := ?_) (a' := ?_) #[true, true, false, false, false, false, false, false, false, false, false, false, false, false, false, false, false] rfl rfl (by kernel_rfl) (fun _ _ _ h => h) (Or.inl ⟨by rfl, ?_⟩) ?_ ?_
      rotate_left
      · intro w'
        go_simp
        with_reducible rfl
      rotate_left
      · simp only [Act.put, List.setIfInBounds_toArray, List.set_cons_zero, List.set_cons_succ, i64_w, i32_w]
        rfl
      refine pure_ (i := 2) (N := some 15) (v := ?_) (a' := ?_) #[true, true, true, false, false, false, false, false, false, false, false, false, false, false, false, false, false] rfl rfl (by kernel_rfl) (fun _ _ _ h => h) (Or.inl ⟨by rfl, ?_⟩) ?_ ?_
      rotate_left
      · intro w'
        go_simp
        with_reducible rfl
      rotate_left
      · simp only [Act.put, List.setIfInBounds_toArray, List.set_cons_zero, List.set_cons_succ, i64_w, i32_w]
        rfl
      refine pure_ (i := 3) (N := some 16) (v := ?_) (a' := ?_) #[true, true, true, true, false, false, false, false, false, false, false, false, false, false, false, false, false] rfl rfl (by kernel_rfl) (fun _ _ _ h => h) (Or.inl ⟨by rfl, ?_⟩) ?_ ?_
      rotate_left
      · intro w'
        go_simp
        with_reducible rfl
      rotate_left
      · simp only [Act.put, List.setIfInBounds_toArray, List.set_cons_zero, List.set_cons_succ, i64_w, i32_w]
        rfl
      refine pure_ (i := 4) (N := some 17) (v := ?_) (a' := ?_) #[true, true, true, true, true, false, false, false, false, false, false, false, false, false, false, false, false] rfl rfl (by kernel_rfl) (fun _ _ _ h => h) (Or.inl ⟨by rfl, ?_⟩) ?_ ?_
      rotate_left
      · intro w'
        go_simp
        with_reducible rfl
      rotate_left
      · simp only [Act.put, List.setIfInBounds_toArray, List.set_cons_zero, List.set_cons_succ, i64_w, i32_w]
        rfl
      refine pure_ (i := 5) (N := some 18) (v := ?_) (a' := ?_) #[true, true, true, true, true, true, false, false, false, false, false, false, false, false, false, false, false] rfl rfl (by kernel_rfl) (fun _ _ _ h => h) (Or.inl ⟨by rfl, ?_⟩) ?_ ?_
      rotate_left
      · intro w'
        go_simp
        with_reducible rfl
      rotate_left
      · simp only [Act.put, List.setIfInBounds_toArray, List.set_cons_zero, List.set_cons_succ, i64_w, i32_w]
        rfl
      refine pure_ (i := 6) (N := some 19) (v := ?_) (a' := ?_) #[true, true, true, true, true, true, true, false, false, false, false, false, false, false, false, false, false] rfl rfl (by kernel_rfl) (fun _ _ _ h => h) (Or.inl ⟨by rfl, ?_⟩) ?_ ?_
      rotate_left
      · intro w'
        go_simp
        with_reducible rfl
      rotate_left
      · simp only [Act.put, List.setIfInBounds_toArray, List.set_cons_zero, List.set_cons_succ, i64_w, i32_w]
        rfl
      refine pure_ (i := 7) (N := some 20) (v := ?_) (a' := ?_) #[true, true, true, true, true, true, true, true, false, false, false, false, false, false, false, false, false] rfl rfl (by kernel_rfl) (fun _ _ _ h => h) (Or.inl ⟨by rfl, ?_⟩) ?_ ?_
      rotate_left
      · intro w'
        go_simp
        with_reducible rfl
      rotate_left
      · simp only [Act.put, List.setIfInBounds_toArray, List.set_cons_zero, List.set_cons_succ, i64_w, i32_w]
        rfl
      refine pure_ (i := 8) (N := some 21) (v := undef) (a' := ?_) #[true, true, true, true, true, true, true, true, true, false, false, false, false, false, false, false, false] rfl rfl (by kernel_rfl) (fun _ _ _ h => h) (Or.inr ⟨by rfl, rfl⟩) ?_ ?_
      rotate_left
      · simp only [Act.put, List.setIfInBounds_toArray, List.set_cons_zero, List.set_cons_succ, i64_w, i32_w]
        rfl
      refine pure_ (i := 9) (N := some 22) (v := undef) (a' := ?_) #[true, true, true, true, true, true, true, true, true, true, false, false, false, false, false, false, false] rfl rfl (by kernel_rfl) (fun _ _ _ h => h) (Or.inr ⟨by rfl, rfl⟩) ?_ ?_
      rotate_left
      · simp only [Act.put, List.setIfInBounds_toArray, List.set_cons_zero, List.set_cons_succ, i64_w, i32_w]
        rfl
      refine pure_ (i := 10) (N := some 23) (v := undef) (a' := ?_) #[true, true, true, true, true, true, true, true, true, true, true, false, false, false, false, false, false] rfl rfl (by kernel_rfl) (fun _ _ _ h => h) (Or.inr ⟨by rfl, rfl⟩) ?_ ?_
      rotate_left
      · simp only [Act.put, List.setIfInBounds_toArray, List.set_cons_zero, List.set_cons_succ, i64_w, i32_w]
        rfl
      refine pure_ (i := 11) (N := some 24) (v := undef) (a' := ?_) #[true, true, true, true, true, true, true, true, true, true, true, true, false, false, false, false, false] rfl rfl (by kernel_rfl) (fun _ _ _ h => h) (Or.inr ⟨by rfl, rfl⟩) ?_ ?_
      rotate_left
      · simp only [Act.put, List.setIfInBounds_toArray, List.set_cons_zero, List.set_cons_succ, i64_w, i32_w]
        rfl
      refine pure_ (i := 12) (N := some 25) (v := undef) (a' := ?_) #[true, true, true, true, true, true, true, true, true, true, true, true, true, false, false, false, false] rfl rfl (by kernel_rfl) (fun _ _ _ h => h) (Or.inr ⟨by rfl, rfl⟩) ?_ ?_
      rotate_left
      · simp only [Act.put, List.setIfInBounds_toArray, List.set_cons_zero, List.set_cons_succ, i64_w, i32_w]
        rfl
      refine pure_ (i := 13) (N := some 26) (v := undef) (a' := ?_) #[true, true, true, true, true, true, true, true, true, true, true, true, true, true, false, false, false] rfl rfl (by kernel_rfl) (fun _ _ _ h => h) (Or.inr ⟨by rfl, rfl⟩) ?_ ?_
      rotate_left
      · simp only [Act.put, List.setIfInBounds_toArray, List.set_cons_zero, List.set_cons_succ, i64_w, i32_w]
        rfl
      refine pure_ (i := 14) (N := some 27) (v := undef) (a' := ?_) #[true, true, true, true, true, true, true, true, true, true, true, true, true, true, true, false, false] rfl rfl (by kernel_rfl) (fun _ _ _ h => h) (Or.inr ⟨by rfl, rfl⟩) ?_ ?_
      rotate_left
      · simp only [Act.put, List.setIfInBounds_toArray, List.set_cons_zero, List.set_cons_succ, i64_w, i32_w]
        rfl
      refine pure_ (i := 15) (N := some 28) (v := undef) (a' := ?_) #[true, true, true, true, true, true, true, true, true, true, true, true, true, true, true, true, false] rfl rfl (by kernel_rfl) (fun _ _ _ h => h) (Or.inr ⟨by rfl, rfl⟩) ?_ ?_
      rotate_left
      · simp only [Act.put, List.setIfInBounds_toArray, List.set_cons_zero, List.set_cons_succ, i64_w, i32_w]
        rfl
      refine pure_ (i := 16) (N := some 29) (v := ?_) (a' := ?_) #[true, true, true, true, true, true, true, true, true, true, true, true, true, true, true, true, true] rfl rfl (by kernel_rfl) (fun _ _ _ h => h) (Or.inl ⟨by rfl, ?_⟩) ?_ ?_
      rotate_left
      · intro w'
        go_simp
        with_reducible rfl
      rotate_left
      · simp only [Act.put, List.setIfInBounds_toArray, List.set_cons_zero, List.set_cons_succ, i64_w, i32_w]
        rfl
      refine done_ (by kernel_rfl) ?_
      refine calm_done ?_
      gi_wp2_with fail
      refine ⟨_, results_tmp2 rfl _ _ _, .slice none 0 0, by rw [HR.out]; rfl, by rw [HR.out]; exact Kd.R_nil _ _ _ _ _, below_drew1 (Below.refl _ w)⟩
    · have d2 : ((s.extract 0 4).toList == [113, 99, 107, 49]) = true := beq_iff_eq.mpr hh
      have d3 : ((s.extract 0 4).toList != [113, 99, 107, 49]) = false := bne_eq_false_iff_eq.mpr hh
      have hTs : (s.extract 0 n).size ≤ 140737488351232 := by rw [size_ext _ _ _ hns]; omega
      have HTs := Aside0.mk hTs
      clear hTs
      cases hsum : (Bk.blakeSum (s.extract 0 n)).toList == (s.extract n s.size).toList with
      | false =>
        have hr : readQ s = ([], 4) := by
          unfold readQ soundQ
          rw [hs32, hsum, Bool.and_false, Bool.and_false, if_neg (by decide)]
        have HR := Aside0.mk hr
        have hsum2 : ((Bk.blakeSum (s.extract 0 n)).toList != (s.extract n s.size).toList) = true := by rw [bne, hsum]; rfl
        clear hr
        gi_wp2_with fail
        refine calm ?_
        refine start_ (n := 17) (S := fun w' => True) (ds := [11]) #[false, false, false, false, false, false, false, false, false, false, false, false, false, false, false, false, false] (by kernel_rfl) rfl rfl trivial (fun hHeld => ?_)
        refine pure_ (i := 0) (N := some 13) (v := ?_) (a' := ?_) #[true, false, false, false, false, false, false, false, false, false, false, false, false, false, false, false, false] rfl rfl (by kernel_rfl) (fun _ _ _ h => h) (Or.inl ⟨by rfl, ?_⟩) ?_ ?_
        rotate_left
        · intro w'
          go_simp
          with_reducible rfl
        rotate_left
        · simp only [Act.put, List.setIfInBounds_toArray, List.set_cons_zero, List.set_cons_succ, i64_w, i32_w]
          rfl
        refine pure_ (i := 1) (N := some 14) (v := ?_) (a' := ?_) #[true, true, false, false, false, false, false, false, false, false, false, false, false, false, false, false, false] rfl rfl (by kernel_rfl) (fun _ _ _ h => h) (Or.inl ⟨by rfl, ?_⟩) ?_ ?_
        rotate_left
        · intro w'
          go_simp
          with_reducible rfl
        rotate_left
        · simp only [Act.put, List.setIfInBounds_toArray, List.set_cons_zero, List.set_cons_succ, i64_w, i32_w]
          rfl
        refine pure_ (i := 2) (N := some 15) (v := ?_) (a' := ?_) #[true, true, true, false, false, false, false, false, false, false, false, false, false, false, false, false, false] rfl rfl (by kernel_rfl) (fun _ _ _ h => h) (Or.inl ⟨by rfl, ?_⟩) ?_ ?_
        rotate_left
        · intro w'
          go_simp
          with_reducible rfl
        rotate_left
        · simp only [Act.put, List.setIfInBounds_toArray, List.set_cons_zero, List.set_cons_succ, i64_w, i32_w]
          rfl
        refine pure_ (i := 3) (N := some 16) (v := ?_) (a' := ?_) #[true, true, true, true, false, false, false, false, false, false, false, false, false, false, false, false, false] rfl rfl (by kernel_rfl) (fun _ _ _ h => h) (Or.inl ⟨by rfl, ?_⟩) ?_ ?_
        rotate_left
        · intro w'
          go_simp
          with_reducible rfl
        rotate_left
        · simp only [Act.put, List.setIfInBounds_toArray, List.set_cons_zero, List.set_cons_succ, i64_w, i32_w]
          rfl
        refine pure_ (i := 4) (N := some 17) (v := ?_) (a' := ?_) #[true, true, true, true, true, false, false, false, false, false, false, false, false, false, false, false, false] rfl rfl (by kernel_rfl) (fun _ _ _ h => h) (Or.inl ⟨by rfl, ?_⟩) ?_ ?_
        rotate_left
        · intro w'
          go_simp
          with_reducible rfl
        rotate_left
        · simp only [Act.put, List.setIfInBounds_toArray, List.set_cons_zero, List.set_cons_succ, i64_w, i32_w]
          rfl
        refine pure_ (i := 5) (N := some 18) (v := ?_) (a' := ?_) #[true, true, true, true, true, true, false, false, false, false, false, false, false, false, false, false, false] rfl rfl (by kernel_rfl) (fun _ _ _ h => h) (Or.inl ⟨by rfl, ?_⟩) ?_ ?_
        rotate_left
        · intro w'
          go_simp
          with_reducible rfl
        rotate_left
        · simp only [Act.put, List.setIfInBounds_toArray, List.set_cons_zero, List.set_cons_succ, i64_w, i32_w]
          rfl
        refine pure_ (i := 6) (N := some 19) (v := ?_) (a' := ?_) #[true, true, true, true, true, true, true, false, false, false, false, false, false, false, false, false, false] rfl rfl (by kernel_rfl) (fun _ _ _ h => h) (Or.inl ⟨by rfl, ?_⟩) ?_ ?_
        rotate_left
        · intro w'
          go_simp
          with_reducible rfl
        rotate_left
        · simp only [Act.put, List.setIfInBounds_toArray, List.set_cons_zero, List.set_cons_succ, i64_w, i32_w]
          rfl
        refine pure_ (i := 7) (N := some 20) (v := ?_) (a' := ?_) #[true, true, true, true, true, true, true, true, false, false, false, false, false, false, false, false, false] rfl rfl (by kernel_rfl) (fun _ _ _ h => h) (Or.inl ⟨by rfl, ?_⟩) ?_ ?_
        rotate_left
        · intro w'
          go_simp
          with_reducible rfl
        rotate_left
        · simp only [Act.put, List.setIfInBounds_toArray, List.set_cons_zero, List.set_cons_succ, i64_w, i32_w]
          rfl
        refine pure_ (i := 8) (N := some 21) (v := ?_) (a' := ?_) #[true, true, true, true, true, true, true, true, true, false, false, false, false, false, false, false, false] rfl rfl (by kernel_rfl) (fun _ _ _ h => h) (Or.inl ⟨by rfl, ?_⟩) ?_ ?_
        rotate_left
        · intro w'
          go_simp
          with_reducible rfl
        rotate_left
        · simp only [Act.put, List.setIfInBounds_toArray, List.set_cons_zero, List.set_cons_succ, i64_w, i32_w]
          rfl
        refine pure_ (i := 9) (N := some 22) (v := ?_) (a' := ?_) #[true, true, true, true, true, true, true, true, true, true, false, false, false, false, false, false, false] rfl rfl (by kernel_rfl) (fun _ _ _ h => h) (Or.inl ⟨by rfl, ?_⟩) ?_ ?_
        rotate_left
        · intro w'
          go_simp
          with_reducible rfl
        rotate_left
        · simp only [Act.put, List.setIfInBounds_toArray, List.set_cons_zero, List.set_cons_succ, i64_w, i32_w]
          rfl
        refine pure_ (i := 10) (N := some 23) (v := ?_) (a' := ?_) #[true, true, true, true, true, true, true, true, true, true, true, false, false, false, false, false, false] rfl rfl (by kernel_rfl) (fun _ _ _ h => h) (Or.inl ⟨by rfl, ?_⟩) ?_ ?_
        rotate_left
        · intro w'
          go_simp
          with_reducible rfl
        rotate_left
        · simp only [Act.put, List.setIfInBounds_toArray, List.set_cons_zero, List.set_cons_succ, i64_w, i32_w]
          rfl
        refine pure_ (i := 12) (N := some 25) (v := ?_) (a' := ?_) #[true, true, true, true, true, true, true, true, true, true, true, false, true, false, false, false, false] rfl rfl (by kernel_rfl) (fun _ _ _ h => h) (Or.inl ⟨by rfl, ?_⟩) ?_ ?_
        rotate_left
        · intro w'
          go_simp
          with_reducible rfl
        rotate_left
        · simp only [Act.put, List.setIfInBounds_toArray, List.set_cons_zero, List.set_cons_succ, i64_w, i32_w]
          rfl
        refine pure_ (i := 13) (N := some 26) (v := ?_) (a' := ?_) #[true, true, true, true, true, true, true, true, true, true, true, false, true, true, false, false, false] rfl rfl (by kernel_rfl) (fun _ _ _ h => h) (Or.inl ⟨by rfl, ?_⟩) ?_ ?_
        rotate_left
        · intro w'
          go_simp
          with_reducible rfl
        rotate_left
        · simp only [Act.put, List.setIfInBounds_toArray, List.set_cons_zero, List.set_cons_succ, i64_w, i32_w]
          rfl
        refine pure_ (i := 14) (N := some 27) (v := ?_) (a' := ?_) #[true, true, true, true, true, true, true, true, true, true, true, false, true, true, true, false, false] rfl rfl (by kernel_rfl) (fun _ _ _ h => h) (Or.inl ⟨by rfl, ?_⟩) ?_ ?_
        rotate_left
        · intro w'
          go_simp
          with_reducible rfl
        rotate_left
        · simp only [Act.put, List.setIfInBounds_toArray, List.set_cons_zero, List.set_cons_succ, i64_w, i32_w]
          rfl
        refine last_ (i := 11) (N := some 24) #[true, true, true, true, true, true, true, true, true, true, true, true, true, true, true, false, false] rfl rfl (by kernel_rfl) (by decide) (fun K hK => ?_)
        refine goes_ Tryd.func23 (by kernel_rfl) rfl #[.string (s.extract 0 n)] (by rfl) rfl rfl (by simp only [List.map_toArray, List.map_cons, List.map_nil]; rfl) ?_
        with_reducible refine (Bk.blake_sum (s.extract 0 n) HTs.out _).mono ?_
        rintro e w1 ⟨rfl, hb⟩
        refine ⟨_, rfl, ?_⟩
        have HB1 := Aside0.mk (show Below w.heap.size w w1 from (below_drew1 (Below.refl _ w)).trans hb)
        refine hK.out _ _ ?_
        clear hK K
        refine norm_ (a' := ?_) ?_ ?_
        rotate_left
        · show Act.put _ (some 24) _ = _
          simp only [Act.put, List.setIfInBounds_toArray, List.set_cons_zero, List.set_cons_succ, i64_w, i32_w]
          rfl
        refine pure_ (i := 15) (N := some 28) (v := ?_) (a' := ?_) #[true, true, true, true, true, true, true, true, true, true, true, true, true, true, true, true, false] rfl rfl (by kernel_rfl) (fun _ _ _ h => h) (Or.inl ⟨by rfl, ?_⟩) ?_ ?_
        rotate_left
        · intro w'
          go_simp
          with_reducible rfl
        rotate_left
        · simp only [Act.put, List.setIfInBounds_toArray, List.set_cons_zero, List.set_cons_succ, i64_w, i32_w]
          rfl
        refine pure_ (i := 16) (N := some 29) (v := ?_) (a' := ?_) #[true, true, true, true, true, true, true, true, true, true, true, true, true, true, true, true, true] rfl rfl (by kernel_rfl) (fun _ _ _ h => h) (Or.inl ⟨by rfl, ?_⟩) ?_ ?_
        rotate_left
        · intro w'
          go_simp
          with_reducible rfl
        rotate_left
        · simp only [Act.put, List.setIfInBounds_toArray, List.set_cons_zero, List.set_cons_succ, i64_w, i32_w]
          rfl
        refine done_ (by kernel_rfl) ?_
        refine calm_done ?_
        gi_wp2_with fail
        refine ⟨_, results_tmp2 rfl _ _ _, .slice none 0 0, by rw [HR.out]; rfl, by rw [HR.out]; exact Kd.R_nil _ _ _ _ _, HB1.out⟩
      | true =>
        have hsum2 : ((Bk.blakeSum (s.extract 0 n)).toList != (s.extract n s.size).toList) = false := by rw [bne, hsum]; rfl
        have hsound : soundQ s = true := by
          unfold soundQ
          rw [hs32, hsum, d2, decide_eq_true (by have := HN.out; omega)]
          rfl
        have HSO := Aside0.mk hsound
        clear hsound
        gi_wp2_with fail
        refine calm ?_
        refine start_ (n := 17) (S := fun w' => True) (ds := [11]) #[false, false, false, false, false, false, false, false, false, false, false, false, false, false, false, false, false] (by kernel_rfl) rfl rfl trivial (fun hHeld => ?_)
        refine pure_ (i := 0) (N := some 13) (v := ?_) (a' := ?_) #[true, false, false, false, false, false, false, false, false, false, false, false, false, false, false, false, false] rfl rfl (by kernel_rfl) (fun _ _ _ h => h) (Or.inl ⟨by rfl, ?_⟩) ?_ ?_
        rotate_left
        · intro w'
          go_simp
          with_reducible rfl
        rotate_left
        · simp only [Act.put, List.setIfInBounds_toArray, List.set_cons_zero, List.set_cons_succ, i64_w, i32_w]
          rfl
        refine pure_ (i := 1) (N := some 14) (v := ?_) (a' := ?_) #[true, true, false, false, false, false, false, false, false, false, false, false, false, false, false, false, false] rfl rfl (by kernel_rfl) (fun _ _ _ h => h) (Or.inl ⟨by rfl, ?_⟩) ?_ ?_
        rotate_left
        · intro w'
          go_simp
          with_reducible rfl
        rotate_left
        · simp only [Act.put, List.setIfInBounds_toArray, List.set_cons_zero, List.set_cons_succ, i64_w, i32_w]
          rfl
        refine pure_ (i := 2) (N := some 15) (v := ?_) (a' := ?_) #[true, true, true, false, false, false, false, false, false, false, false, false, false, false, false, false, false] rfl rfl (by kernel_rfl) (fun _ _ _ h => h) (Or.inl ⟨by rfl, ?_⟩) ?_ ?_
        rotate_left
        · intro w'
          go_simp
          with_reducible rfl
        rotate_left
        · simp only [Act.put, List.setIfInBounds_toArray, List.set_cons_zero, List.set_cons_succ, i64_w, i32_w]
          rfl
        refine pure_ (i := 3) (N := some 16) (v := ?_) (a' := ?_) #[true, true, true, true, false, false, false, false, false, false, false, false, false, false, false, false, false] rfl rfl (by kernel_rfl) (fun _ _ _ h => h) (Or.inl ⟨by rfl, ?_⟩) ?_ ?_
        rotate_left
        · intro w'
          go_simp
          with_reducible rfl
        rotate_left
        · simp only [Act.put, List.setIfInBounds_toArray, List.set_cons_zero, List.set_cons_succ, i64_w, i32_w]
          rfl
        refine pure_ (i := 4) (N := some 17) (v := ?_) (a' := ?_) #[true, true, true, true, true, false, false, false, false, false, false, false, false, false, false, false, false] rfl rfl (by kernel_rfl) (fun _ _ _ h => h) (Or.inl ⟨by rfl, ?_⟩) ?_ ?_
        rotate_left
        · intro w'
          go_simp
          with_reducible rfl
        rotate_left
        · simp only [Act.put, List.setIfInBounds_toArray, List.set_cons_zero, List.set_cons_succ, i64_w, i32_w]
          rfl
        refine pure_ (i := 5) (N := some 18) (v := ?_) (a' := ?_) #[true, true, true, true, true, true, false, false, false, false, false, false, false, false, false, false, false] rfl rfl (by kernel_rfl) (fun _ _ _ h => h) (Or.inl ⟨by rfl, ?_⟩) ?_ ?_
        rotate_left
        · intro w'
          go_simp
          with_reducible rfl
        rotate_left
        · simp only [Act.put, List.setIfInBounds_toArray, List.set_cons_zero, List.set_cons_succ, i64_w, i32_w]
          rfl
        refine pure_ (i := 6) (N := some 19) (v := ?_) (a' := ?_) #[true, true, true, true, true, true, true, false, false, false, false, false, false, false, false, false, false] rfl rfl (by kernel_rfl) (fun _ _ _ h => h) (Or.inl ⟨by rfl, ?_⟩) ?_ ?_
        rotate_left
        · intro w'
          go_simp
          with_reducible rfl
        rotate_left
        · simp only [Act.put, List.setIfInBounds_toArray, List.set_cons_zero, List.set_cons_succ, i64_w, i32_w]
          rfl
        refine pure_ (i := 7) (N := some 20) (v := ?_) (a' := ?_) #[true, true, true, true, true, true, true, true, false, false, false, false, false, false, false, false, false] rfl rfl (by kernel_rfl) (fun _ _ _ h => h) (Or.inl ⟨by rfl, ?_⟩) ?_ ?_
        rotate_left
        · intro w'
          go_simp
          with_reducible rfl
        rotate_left
        · simp only [Act.put, List.setIfInBounds_toArray, List.set_cons_zero, List.set_cons_succ, i64_w, i32_w]
          rfl
        refine pure_ (i := 8) (N := some 21) (v := ?_) (a' := ?_) #[true, true, true, true, true, true, true, true, true, false, false, false, false, false, false, false, false] rfl rfl (by kernel_rfl) (fun _ _ _ h => h) (Or.inl ⟨by rfl, ?_⟩) ?_ ?_
        rotate_left
        · intro w'
          go_simp
          with_reducible rfl
        rotate_left
        · simp only [Act.put, List.setIfInBounds_toArray, List.set_cons_zero, List.set_cons_succ, i64_w, i32_w]
          rfl
        refine pure_ (i := 9) (N := some 22) (v := ?_) (a' := ?_) #[true, true, true, true, true, true, true, true, true, true, false, false, false, false, false, false, false] rfl rfl (by kernel_rfl) (fun _ _ _ h => h) (Or.inl ⟨by rfl, ?_⟩) ?_ ?_
        rotate_left
        · intro w'
          go_simp
          with_reducible rfl
        rotate_left
        · simp only [Act.put, List.setIfInBounds_toArray, List.set_cons_zero, List.set_cons_succ, i64_w, i32_w]
          rfl
        refine pure_ (i := 10) (N := some 23) (v := ?_) (a' := ?_) #[true, true, true, true, true, true, true, true, true, true, true, false, false, false, false, false, false] rfl rfl (by kernel_rfl) (fun _ _ _ h => h) (Or.inl ⟨by rfl, ?_⟩) ?_ ?_
        rotate_left
        · intro w'
          go_simp
          with_reducible rfl
        rotate_left
        · simp only [Act.put, List.setIfInBounds_toArray, List.set_cons_zero, List.set_cons_succ, i64_w, i32_w]
          rfl
        refine pure_ (i := 12) (N := some 25) (v := ?_) (a' := ?_) #[true, true, true, true, true, true, true, true, true, true, true, false, true, false, false, false, false] rfl rfl (by kernel_rfl) (fun _ _ _ h => h) (Or.inl ⟨by rfl, ?_⟩) ?_ ?_
        rotate_left
        · intro w'
          go_simp
          with_reducible rfl
        rotate_left
        · simp only [Act.put, List.setIfInBounds_toArray, List.set_cons_zero, List.set_cons_succ, i64_w, i32_w]
          rfl
        refine pure_ (i := 13) (N := some 26) (v := ?_) (a' := ?_) #[true, true, true, true, true, true, true, true, true, true, true, false, true, true, false, false, false] rfl rfl (by kernel_rfl) (fun _ _ _ h => h) (Or.inl ⟨by rfl, ?_⟩) ?_ ?_
        rotate_left
        · intro w'
          go_simp
          with_reducible rfl
        rotate_left
        · simp only [Act.put, List.setIfInBounds_toArray, List.set_cons_zero, List.set_cons_succ, i64_w, i32_w]
          rfl
        refine pure_ (i := 14) (N := some 27) (v := ?_) (a' := ?_) #[true, true, true, true, true, true, true, true, true, true, true, false, true, true, true, false, false] rfl rfl (by kernel_rfl) (fun _ _ _ h => h) (Or.inl ⟨by rfl, ?_⟩) ?_ ?_
        rotate_left
        · intro w'
          go_simp
          with_reducible rfl
        rotate_left
        · simp only [Act.put, List.setIfInBounds_toArray, List.set_cons_zero, List.set_cons_succ, i64_w, i32_w]
          rfl
        refine last_ (i := 11) (N := some 24) #[true, true, true, true, true, true, true, true, true, true, true, true, true, true, true, false, false] rfl rfl (by kernel_rfl) (by decide) (fun K hK => ?_)
        refine goes_ Tryd.func23 (by kernel_rfl) rfl #[.string (s.extract 0 n)] (by rfl) rfl rfl (by simp only [List.map_toArray, List.map_cons, List.map_nil]; rfl) ?_
        with_reducible refine (Bk.blake_sum (s.extract 0 n) HTs.out _).mono ?_
        rintro e w1 ⟨rfl, hb⟩
        refine ⟨_, rfl, ?_⟩
        have HB1 := Aside0.mk (show Below w.heap.size w w1 from (below_drew1 (Below.refl _ w)).trans hb)
        clear hb
        refine hK.out _ _ ?_
        clear hK K
        refine norm_ (a' := ?_) ?_ ?_
        rotate_left
        · show Act.put _ (some 24) _ = _
          simp only [Act.put, List.setIfInBounds_toArray, List.set_cons_zero, List.set_cons_succ, i64_w, i32_w]
          rfl
        refine pure_ (i := 15) (N := some 28) (v := ?_) (a' := ?_) #[true, true, true, true, true, true, true, true, true, true, true, true, true, true, true, true, false] rfl rfl (by kernel_rfl) (fun _ _ _ h => h) (Or.inl ⟨by rfl, ?_⟩) ?_ ?_
        rotate_left
        · intro w'
          go_simp
          with_reducible rfl
        rotate_left
        · simp only [Act.put, List.setIfInBounds_toArray, List.set_cons_zero, List.set_cons_succ, i64_w, i32_w]
          rfl
        refine pure_ (i := 16) (N := some 29) (v := ?_) (a' := ?_) #[true, true, true, true, true, true, true, true, true, true, true, true, true, true, true, true, true] rfl rfl (by kernel_rfl) (fun _ _ _ h => h) (Or.inl ⟨by rfl, ?_⟩) ?_ ?_
        rotate_left
        · intro w'
          go_simp
          with_reducible rfl
        rotate_left
        · simp only [Act.put, List.setIfInBounds_toArray, List.set_cons_zero, List.set_cons_succ, i64_w, i32_w]
          rfl
        refine done_ (by kernel_rfl) ?_
        refine calm_done ?_
        clear hHeld d2 d3 hh HTs
        gi_wp2_with fail
        refine calm ?_
        have hat : ∀ h : 4 < s.size, ((s[4]'h).toNat : Int) = bt s 4 := fun h => bt_at s 4 h
        have hbr := bt_range s 4
        have hs5 : (4 : Int) < (s.size : Int) := by omega
        have hs5n : 4 < s.size := by omega
        obtain ⟨k, hk⟩ : ∃ k : Nat, bt s 4 = (k : Int) := ⟨(bt s 4).toNat, by omega⟩
        rw [hk] at hat hbr
        have HK := Aside0.mk hk
        clear hk
        have hwk : wrap64 (k : Int) = (k : Int) := by unfold wrap64; omega
        have hn5i : (5 : Int) ≤ (n : Int) := by omega
        have hnsi : (n : Int) ≤ (s.size : Int) := by omega
        refine start_ (n := 9) (S := fun w' => True) (ds := [8]) #[false, false, false, false, false, false, false, false, false] (by kernel_rfl) rfl rfl trivial (fun hHeld => ?_)
        refine pure_ (i := 0) (N := some 30) (v := ?_) (a' := ?_) #[true, false, false, false, false, false, false, false, false] rfl rfl (by kernel_rfl) (fun _ _ _ h => h) (Or.inl ⟨by rfl, ?_⟩) ?_ ?_
        rotate_left
        · intro w'
          go_simp
          with_reducible rfl
        rotate_left
        · simp only [Act.put, List.setIfInBounds_toArray, List.set_cons_zero, List.set_cons_succ, i64_w, i32_w]
          rfl
        refine pure_ (i := 3) (N := some 33) (v := ?_) (a' := ?_) #[true, false, false, true, false, false, false, false, false] rfl rfl (by kernel_rfl) (fun _ _ _ h => h) (Or.inl ⟨by rfl, ?_⟩) ?_ ?_
        rotate_left
        · intro w'
          go_simp
          with_reducible rfl
        rotate_left
        · simp only [Act.put, List.setIfInBounds_toArray, List.set_cons_zero, List.set_cons_succ, i64_w, i32_w]
          rfl
        refine pure_ (i := 4) (N := some 34) (v := ?_) (a' := ?_) #[true, false, false, true, true, false, false, false, false] rfl rfl (by kernel_rfl) (fun _ _ _ h => h) (Or.inl ⟨by rfl, ?_⟩) ?_ ?_
        rotate_left
        · intro w'
          go_simp
          with_reducible rfl
        rotate_left
        · simp only [Act.put, List.setIfInBounds_toArray, List.set_cons_zero, List.set_cons_succ, i64_w, i32_w]
          rfl
        refine pure_ (i := 5) (N := some 35) (v := ?_) (a' := ?_) #[true, false, false, true, true, true, false, false, false] rfl rfl (by kernel_rfl) (fun _ _ _ h => h) (Or.inl ⟨by rfl, ?_⟩) ?_ ?_
        rotate_left
        · intro w'
          go_simp
          with_reducible rfl
        rotate_left
        · simp only [Act.put, List.setIfInBounds_toArray, List.set_cons_zero, List.set_cons_succ, i64_w, i32_w]
          rfl
        refine take_ (i := 1) (N := some 31) (v := ?_) (a' := ?_) #[true, true, false, true, true, true, false, false, false] rfl rfl (by kernel_rfl) (fun _ _ _ h => h) (Or.inl ⟨by rfl, ?_⟩) hHeld ?_ ?_
        rotate_left
        · intro w' _
          go_simp
          with_reducible rfl
        rotate_left
        · simp only [Act.put, List.setIfInBounds_toArray, List.set_cons_zero, List.set_cons_succ, i64_w, i32_w]
          rfl
        refine pure_ (i := 2) (N := some 32) (v := ?_) (a' := ?_) #[true, true, true, true, true, true, false, false, false] rfl rfl (by kernel_rfl) (fun _ _ _ h => h) (Or.inl ⟨by rfl, ?_⟩) ?_ ?_
        rotate_left
        · intro w'
          go_simp
          with_reducible rfl
        rotate_left
        · simp only [Act.put, List.setIfInBounds_toArray, List.set_cons_zero, List.set_cons_succ, i64_w, i32_w]
          rfl
        refine one_ (i := 6) (N := some 6) #[true, true, true, true, true, true, true, false, false] rfl rfl (by kernel_rfl) (by decide) (fun K hK => ?_)
        refine value_ (w1 := ?_) (v := ?_) (by rfl) rfl ?_ ?_
        rotate_left 2
        · go_simp
          constructor
          · rfl
          · rfl
        have HB2 := Aside0.mk (below_alloc (below_drew1 HB1.out) (.cells #[.string ⟨#[]⟩] 9))
        refine hK.out _ _ trivial (fun hHeld => ?_)
        clear hK K
        refine norm_ (a' := ?_) ?_ ?_
        rotate_left
        · show Act.put _ (some 6) _ = _
          simp only [Act.put, List.setIfInBounds_toArray, List.set_cons_zero, List.set_cons_succ, i64_w, i32_w]
          rfl
        refine pure_ (i := 7) (N := some 5) (v := ?_) (a' := ?_) #[true, true, true, true, true, true, true, true, false] rfl rfl (by kernel_rfl) (fun _ _ _ h => h) (Or.inl ⟨by rfl, ?_⟩) ?_ ?_
        rotate_left
        · intro w'
          go_simp
          with_reducible rfl
        rotate_left
        · simp only [Act.put, List.setIfInBounds_toArray, List.set_cons_zero, List.set_cons_succ, i64_w, i32_w]
          rfl
        refine last_ (i := 8) (N := none) #[true, true, true, true, true, true, true, true, true] rfl rfl (by kernel_rfl) (by decide) (fun K hK => ?_)
        refine skip_ (w1 := ?_) (by rfl) rfl ?_ ?_
        rotate_left
        · go_simp
          rfl
        refine hK.out _ _ ?_
        clear hK K
        refine done_ (by kernel_rfl) ?_
        refine calm_done ?_
        have hbox := Boxed.new w1 9 (.string (s.extract 5 n))
        have HB3 := Aside0.mk (below_drew1 (HB1.out.trans ((below_alloc (Below.refl _ w1) (.cells #[.string (s.extract 5 n)] 9)).mono HB1.out.size)))
        have hsz : (w1.alloc (.cells #[.string (s.extract 5 n)] 9)).drew.heap.size = w1.heap.size + 1 := by show (w1.alloc _).heap.size = _; simp
        have hge := HB1.out.size
        obtain ⟨b0, hb0⟩ : ∃ b0, b0 = w1.heap.size := ⟨_, rfl⟩
        obtain ⟨W2, hW2⟩ : ∃ W2, W2 = (w1.alloc (.cells #[.string (s.extract 5 n)] 9)).drew := ⟨_, rfl⟩
        have hbx : Boxed W2 b0 9 (.string (s.extract 5 n)) := by rw [hW2, hb0]; exact hbox
        rw [← hW2] at HB3 hsz ⊢
        rw [← hb0] at hsz hge ⊢
        have HBX := Aside0.mk hbx
        have HSZ := Aside0.mk hsz
        have HGE := Aside0.mk hge
        have hk255 : k ≤ 255 := by omega
        have hc6 := ((HBX.out.alloc (.cells #[.slice none 0 0] 22))).cell
        clear hbox hbx hsz hge hHeld HB1 HB2 hb0 hW2 hat hbr hwk hsum hsum2 hs5 hs5n hs4 hs4n hn5i hnsi hn1 d0 d1
        gi_wp2_with fail
        have hall := all_calls (s.extract 5 n) (k : Int) (W2.alloc (.cells #[.slice none 0 0] 22))
        rw [show (W2.alloc (.cells #[.slice none 0 0] 22)).heap.size = b0 + 1 + 1 by rw [World.size_alloc, HSZ.out]] at hall
        rw [HSZ.out]
        refine ⟨trivial, callsIn_wide.2 (hall.mono ?_)⟩
        clear hall hc6
        rintro e w' ⟨rfl, rfl⟩
        gi_wp2_with fail
        have z1 : (W2.alloc (.cells #[.slice none 0 0] 22)).heap.size = b0 + 1 + 1 := by rw [World.size_alloc, HSZ.out]
        have z2 : ((W2.alloc (.cells #[.slice none 0 0] 22)).alloc (.cells #[.string (s.extract 5 n)] 9)).heap.size = b0 + 1 + 1 + 1 := by rw [World.size_alloc, z1]
        have bR := ((HBX.out.alloc (.cells #[.slice none 0 0] 22)).alloc (.cells #[.string (s.extract 5 n)] 9)).alloc (.cells #[.int .i64 (k : Int)] 3)
        have bO := ((Boxed.new W2 22 (.slice none 0 0)).alloc (.cells #[.string (s.extract 5 n)] 9)).alloc (.cells #[.int .i64 (k : Int)] 3)
        have bS := (Boxed.new (W2.alloc (.cells #[.slice none 0 0] 22)) 9 (.string (s.extract 5 n))).alloc (.cells #[.int .i64 (k : Int)] 3)
        have bM := Boxed.new ((W2.alloc (.cells #[.slice none 0 0] 22)).alloc (.cells #[.string (s.extract 5 n)] 9)) 3 (.int .i64 (k : Int))
        have bsz : (((W2.alloc (.cells #[.slice none 0 0] 22)).alloc (.cells #[.string (s.extract 5 n)] 9)).alloc (.cells #[.int .i64 (k : Int)] 3)).heap.size = b0 + 4 := by rw [World.size_alloc, z2]
        have hB3 := below_alloc (below_alloc (below_alloc HB3.out (.cells #[.slice none 0 0] 22)) (.cells #[.string (s.extract 5 n)] 9)) (.cells #[.int .i64 (k : Int)] 3)
        rw [HSZ.out] at bO
        rw [z1] at bS
        rw [z2] at bM
        clear z1 z2
        generalize ((W2.alloc (.cells #[.slice none 0 0] 22)).alloc (.cells #[.string (s.extract 5 n)] 9)).alloc (.cells #[.int .i64 (k : Int)] 3) = W3 at bR bO bS bM bsz hB3 ⊢
        have hgb := HGE.out
        have hk6 : k ≤ 1000000 := by omega
        have hrs : (s.extract 5 n).size ≤ 1000000000000000 := by rw [ByteArray.size_extract]; omega
        refine Rq.range_box rfl (by omega) (gf := 52) (lb := #[.pointer (some ⟨b0 + 1 + 1 + 1, 0, none⟩), .pointer (some ⟨b0 + 1 + 1, 0, none⟩)]) rfl trivial (fun args w => enters_ Tryd.func52 (by kernel_rfl) rfl args w) (by omega)
          (c := Old w.heap.size (b0 + 1 + 1 + 1)) (fun j hj => by rcases hj with h | h <;> omega)
          (all_tells 2 (b0 + 1 + 1) (b0 + 1 + 1 + 1) k (s.extract 5 n) w W3 HT.out hB3 hrs hk6 bS bM (by omega) (by omega)) (fun _ => rfl)
          (RI w b0 (s.extract 5 n)) ?bears ?start (fun x a' W => ∃ Bx, W.heap[Bx]? = some (.cells #[.string x.1.f0, .int .i64 x.1.f1, .int .i64 x.1.f2, .int .i64 x.1.f3, .string x.1.f4] 33 (0, 0)) ∧ Bx ≠ b0 + 1 + 1 ∧ a' = { tmps := #[.string s, undef, .slice none 0 0, .int .i64 0, .int .i64 (n : Int), .int .i64 (k : Int), .pointer (some ⟨b0, 0, none⟩), .pointer (some ⟨b0 + 1, 0, none⟩), .pointer (some ⟨Bx, 0, none⟩), .string x.2, .string s, .int .i64 (s.size : Int), .int .i64 (n : Int), .int .i64 (n : Int), .bool false, .bool false, .string s, .string (s.extract 0 4), .bool false, .bool false, .bool false, .string s, .int .i64 (n : Int), .string (s.extract 0 n), .string (Bk.blakeSum (s.extract 0 n)), .string s, .int .i64 (n : Int), .string (s.extract n s.size), .bool false, .bool false, .string s, .int .u8 (k : Int), .int .i64 (wrap64 (k : Int)), .string s, .int .i64 (n : Int), .string (s.extract 5 n), .string (s.extract 5 n), .int .i64 (k : Int), .func (.func 52) #[] #[.pointer (some ⟨b0 + 1 + 1 + 1, 0, none⟩), .pointer (some ⟨b0 + 1 + 1, 0, none⟩)], .agg #[.string x.1.f0, .int .i64 x.1.f1, .int .i64 x.1.f2, .int .i64 x.1.f3, .string x.1.f4], .string x.2, undef, undef, undef, undef, undef, undef, undef, undef, undef, undef, undef, undef, undef, undef, undef, undef, undef, undef, undef], defers := [] })
          ?bearsA ?assign ?body ?done
        case bears => exact fun pre X Y row h hg hr => RI.bears (by omega) h hg fun r e => by rw [bsz] at hr; exact hr r e
        case start => exact ⟨⟨_, bO, World.ownsRow_nil _ _ _ _, by simp [Value.ownBlock], by simp [Value.ownBlock]⟩, bR, hB3⟩
        case bearsA =>
          rintro x a' _ X Y row ⟨Bx, h1, h2, h3⟩ hg hr
          refine ⟨Bx, (hg.block Bx (Array.getElem?_eq_some_iff.1 h1).1 fun e => ?_).trans h1, h2, h3⟩
          rcases hr Bx e.symm with q | ⟨_, o, ho, hc⟩
          · exact h2 q
          · rw [h1] at ho
            cases ho
            cases hc
        case assign =>
          rintro l pre x W K ⟨⟨v, h1, h2, h3, h3'⟩, h4, h5⟩ hbW hcW hK
          gi_wp2_with fail
          exact hK _ _ (Rq.Stays.grown (World.grownBy_alloc W _ none) hbW hcW (by simp)) ⟨⟨v, h1.alloc _, h2.alloc _, h3, h3'⟩, h4.alloc _, h5.alloc h5.size _⟩ ⟨W.heap.size, blk_new W _, by omega, rfl⟩
        case body =>
          rintro l pre x a' W ⟨⟨v, h1, h2, h3, h3'⟩, h4, h5⟩ ⟨Bx, b1, b2, rfl⟩ hN hbW hcW
          have c1 := h1.cell
          have f1 := h1.frozen
          have c4 := h4.cell
          have f4 := h4.frozen
          have d0 := (blk_cell b1 0).trans (rfl : _ = some (Value.string x.1.f0))
          have d1 := (blk_cell b1 1).trans (rfl : _ = some (Value.int .i64 x.1.f1))
          have d2 := (blk_cell b1 2).trans (rfl : _ = some (Value.int .i64 x.1.f2))
          have d3 := (blk_cell b1 3).trans (rfl : _ = some (Value.int .i64 x.1.f3))
          have d4 := (blk_cell b1 4).trans (rfl : _ = some (Value.string x.1.f4))
          obtain ⟨i0, hi, hz0, hz1, hz2⟩ := info_parts info33
          have hne : b0 + 1 ≠ b0 := by omega
          have hne' : b0 ≠ b0 + 1 := by omega
          have hlen : pre.length + 1 ≤ 1000 := by
            have := tellQ_len k (s.extract 5 n)
            omega
          have HH := Aside0.mk (And.intro h1 (And.intro h2 (And.intro h3 (And.intro h4 (And.intro h5 h3')))))
          have HNN := Aside0.mk hlen
          clear h1 h2 h3 h3' h4 h5 hlen hN b1 bS bO bM bR hB3
          gi_wp2_with (gi_at_builtin; refine wpListIn_append_own_at _ rfl _ _ 22 rfl w.heap.size 33 i0 _ 5 56 Tryd.underlying22 hi hz0 hz1 hz2 rfl (by decide) v pre.length _ rfl (HH.out.2.1.alloc _) ⟨W.heap.size, 0, none⟩ 1 1 [.string x.1.f0, .int .i64 x.1.f1, .int .i64 x.1.f2, .int .i64 x.1.f3, .string x.1.f4] rfl rfl ?c1 ?c2 ?c3 ?c4 ?c5 ?_)
          case c1 =>
            intro j u hj
            rw [add_plain, blk_cell (blk_new W _), ← hj, List.getElem?_toArray]
          case c2 =>
            intro u hu
            simp at hu
            rcases hu with rfl | rfl | rfl | rfl | rfl <;> rfl
          case c3 => have := HNN.out; simp only [maxLen]; omega
          case c4 => have := HNN.out; omega
          case c5 => have := HH.out.2.2.2.2.1.size; rw [World.size_alloc]; omega
          intro v' w1 hown' hgrow _ hat
          obtain ⟨h1, h2, h3, h4, h5, h3'⟩ := HH.out
          obtain ⟨g', cap', rfl⟩ := ownsRow_succ hown'
          obtain ⟨hv1, hv2, hr2, hk2, hb2⟩ := h1.appended (by decide) h2 h5.size (by omega) hown' hgrow
          have hs1 : Boxed w1 b0 9 (.string (lastQ (s.extract 5 n) pre)) := (h4.alloc _).kept hgrow ((h4.alloc (.cells #[.string x.1.f0, .int .i64 x.1.f1, .int .i64 x.1.f2, .int .i64 x.1.f3, .string x.1.f4] 33)).not_row (by decide) (h2.alloc _))
          have hs2 := hs1.other hne' (.slice (some ⟨g', 0, none⟩) (pre.length + 1) cap')
          have hc1 := hv1.cell
          have hf1 := hv1.frozen
          have hc2 := hs1.cell
          have hf2 := hs1.frozen
          have hc3 := hs2.cell
          have hf3 := hs2.frozen
          have hnold : ∀ r, w.heap.size ≤ r → r ≠ b0 + 1 + 1 + 1 → ¬ Old w.heap.size (b0 + 1 + 1 + 1) r := fun r q1 q2 q3 => by rcases q3 with q | q <;> omega
          have sz1 : W.heap.size ≤ (W.alloc (.cells #[.string x.1.f0, .int .i64 x.1.f1, .int .i64 x.1.f2, .int .i64 x.1.f3, .string x.1.f4] 33)).heap.size := by rw [World.size_alloc]; omega
          have s1 : Rq.Stays W3.heap.size (b0 + 1 + 1) (Old w.heap.size (b0 + 1 + 1 + 1)) W (W.alloc (.cells #[.string x.1.f0, .int .i64 x.1.f1, .int .i64 x.1.f2, .int .i64 x.1.f3, .string x.1.f4] 33)) := Rq.Stays.grown (World.grownBy_alloc W _ none) hbW hcW (by simp)
          have s2 : Rq.Stays W3.heap.size (b0 + 1 + 1) (Old w.heap.size (b0 + 1 + 1 + 1)) (W.alloc (.cells #[.string x.1.f0, .int .i64 x.1.f1, .int .i64 x.1.f2, .int .i64 x.1.f3, .string x.1.f4] 33)) w1 := Rq.Stays.grown hgrow (by omega) (fun j hj => Nat.lt_of_lt_of_le (hcW j hj) sz1) fun r e => ⟨fun q => h3 (by rw [e, q]), hnold r ((h2.lt r e).1) (fun q => h3' (by rw [e, q])), .inr (by obtain ⟨cs, hcs⟩ := own_typed (h2.alloc (.cells #[.string x.1.f0, .int .i64 x.1.f1, .int .i64 x.1.f2, .int .i64 x.1.f3, .string x.1.f4] 33)) r e; exact ⟨_, hcs, rfl⟩)⟩
          have s3 : Rq.Stays W3.heap.size (b0 + 1 + 1) (Old w.heap.size (b0 + 1 + 1 + 1)) w1 (w1.setCell ⟨b0 + 1, 0, none⟩ (.slice (some ⟨g', 0, none⟩) (pre.length + 1) cap')) := Rq.Stays.grown (grownBy_setCell' _ _ _) (by have := s1.size; have := s2.size; omega) (fun j hj => Nat.lt_of_lt_of_le (hcW j hj) (Nat.le_trans sz1 s2.size)) fun r e => by cases e; exact ⟨by omega, hnold _ (by omega) (by omega), .inl (by omega)⟩
          have s4 : Rq.Stays W3.heap.size (b0 + 1 + 1) (Old w.heap.size (b0 + 1 + 1 + 1)) (w1.setCell ⟨b0 + 1, 0, none⟩ (.slice (some ⟨g', 0, none⟩) (pre.length + 1) cap')) ((w1.setCell ⟨b0 + 1, 0, none⟩ (.slice (some ⟨g', 0, none⟩) (pre.length + 1) cap')).setCell ⟨b0, 0, none⟩ (.string x.2)) := Rq.Stays.grown (grownBy_setCell' _ _ _) (by have := s1.size; have := s2.size; have := s3.size; omega) (fun j hj => Nat.lt_of_lt_of_le (hcW j hj) (Nat.le_trans sz1 (Nat.le_trans s2.size s3.size))) fun r e => by cases e; exact ⟨by omega, hnold _ (by omega) (by omega), .inl (by omega)⟩
          have hfin : RI w b0 (s.extract 5 n) (pre ++ [x]) ((w1.setCell ⟨b0 + 1, 0, none⟩ (.slice (some ⟨g', 0, none⟩) (pre.length + 1) cap')).setCell ⟨b0, 0, none⟩ (.string x.2)) := by
            have hnew : ∀ q, q ≠ 0 → v.ownBlock ≠ some (b0 + 1 + q) → b0 + 1 + q < W.heap.size → (Value.slice (some ⟨g', 0, none⟩) (pre.length + 1) cap').ownBlock ≠ some (b0 + 1 + q) := by
              intro q _ hq hlt
              rcases hat with q1 | q1
              · rw [q1]; exact hq
              · rw [q1]
                intro z
                have := Option.some.inj z
                omega
            refine ⟨⟨_, hv2.other hne _, ?_, hnew 1 (by decide) h3 (by omega), hnew 2 (by decide) h3' (hcW _ (.inr rfl))⟩, ?_, (h5.trans hb2).setCell (p := ⟨b0, 0, none⟩) (by omega) _⟩
            · rw [List.length_append, outQ_snoc, cells5_snoc]
              exact hr2.kept (grownBy_setCell' _ _ _) (.inr (hs2.not_row (by decide) hr2).symm)
            · rw [lastQ_snoc]; exact hs2.set _
          have FIN := Aside0.mk hfin
          have STAY := Aside0.mk (((s1.trans s2).trans s3).trans s4)
          clear hfin s1 s2 s3 s4 hs1 hs2 hv1 hv2 hr2 hk2 hb2 h1 h2 h3 h4 h5 h3' hown' hgrow hat HH
          gi_wp2_with fail
          exact ⟨STAY.out, FIN.out⟩
        case done =>
          rintro D xs W hD rfl ⟨⟨v, h1, h2, h3, h3'⟩, h4, h5⟩ hK
          have c1 := h1.cell
          have c4 := h4.cell
          have hrow : Kd.R k33 33 W w.heap.size (fun _ => True) v (outQ (tellQ k (s.extract 5 n))) := ⟨fun _ _ => trivial, cells5 (outQ (tellQ k (s.extract 5 n))), by rw [outQ_len]; exact h2, reps5_all _ _ _ _⟩
          have hkm : manyQ s = k := by unfold manyQ; rw [HK.out]; rfl
          have hrs : restQ s = s.extract 5 n := by unfold restQ; rw [hs32]
          obtain ⟨L, hL⟩ : ∃ L, L = tellQ k (s.extract 5 n) := ⟨_, rfl⟩
          have htl : tollQ s = L := by unfold tollQ; rw [hkm, hrs, hL]
          have hLk := tellQ_len k (s.extract 5 n)
          rw [← hL] at hrow c4 hLk
          obtain ⟨z, hz⟩ : ∃ z, z = lastQ (s.extract 5 n) L := ⟨_, rfl⟩
          rw [← hz] at c4
          have hread : readQ s = if (decide (¬ L.length < k) && (z.toList.isEmpty && mayQ (outQ L))) = true then (outQ L, 0) else ([], 4) := by
            unfold readQ fullQ
            rw [HSO.out, if_pos rfl, htl, hkm, hrs, ← hz]
          have hol : (outQ L).length = L.length := outQ_len L
          obtain ⟨os, hos⟩ : ∃ os, os = outQ L := ⟨_, rfl⟩
          rw [← hos] at hrow hread hol
          rw [← hol] at hread hLk
          obtain ⟨A, cp, rfl⟩ := Kd.R_slice hrow
          have hD2 : w.heap.size ≤ D := by omega
          have HRD := Aside0.mk hread
          have HROW := Aside0.mk hrow
          have HW := Aside0.mk h5
          have HKD := Aside0.mk hK
          clear h1 h2 h3 h3' h4 h5 hK hB3 bS bO bM bR HBX HSZ HB3 HSO hread hrow hL hz htl hkm hrs hos hol
          by_cases hlt : os.length < k
          · have e1 : decide (os.length < k) = true := decide_eq_true hlt
            have hr : readQ s = ([], 4) := by rw [HRD.out, decide_eq_false (fun h => h hlt), Bool.false_and, if_neg (by decide)]
            have HR := Aside0.mk hr
            clear hr
            gi_wp2_with fail
            refine ⟨trivial, ?_⟩
            gi_wp2_with fail
            refine ⟨by simp, .inl ⟨_, _, rfl, run_takeDeferred HKD.out, ?_⟩⟩
            exact ⟨_, results_tmp2 rfl _ _ _, .slice none 0 0, by rw [HR.out]; rfl, by rw [HR.out]; exact Kd.R_nil _ _ _ _ _, HW.out.trans (belowK_b (w := w) (Nat.le_refl _) W D _ _ hD2 HKD.out rfl rfl)⟩
          · have e1 : decide (os.length < k) = false := decide_eq_false hlt
            cases hze : z.toList.isEmpty with
            | false =>
              have hr : readQ s = ([], 4) := by rw [HRD.out, hze, Bool.false_and, Bool.and_false, if_neg (by decide)]
              have HR := Aside0.mk hr
              clear hr
              gi_wp2_with fail
              refine ⟨trivial, ?_⟩
              gi_wp2_with fail
              refine ⟨by simp, .inl ⟨_, _, rfl, run_takeDeferred HKD.out, ?_⟩⟩
              exact ⟨_, results_tmp2 rfl _ _ _, .slice none 0 0, by rw [HR.out]; rfl, by rw [HR.out]; exact Kd.R_nil _ _ _ _ _, HW.out.trans (belowK_b (w := w) (Nat.le_refl _) W D _ _ hD2 HKD.out rfl rfl)⟩
            | true =>
              have hmay := qmay_calls A cp os W (HT.out.below HW.out) (Kd.R_reads' HROW.out).2.2 (by omega)
              have HMAY := Aside0.mk hmay
              have HLT := Aside0.mk hlt
              clear hmay hlt
              cases hm : mayQ os with
              | false =>
                have hr : readQ s = ([], 4) := by rw [HRD.out, hm, Bool.and_false, Bool.and_false, if_neg (by decide)]
                have HR := Aside0.mk hr
                clear hr
                rw [hm] at HMAY
                gi_wp2_with fail
                refine ⟨trivial, callsIn_wide.2 (HMAY.out.mono ?_)⟩
                rintro e w5 ⟨rfl, hb⟩
                have HB5 := Aside0.mk hb
                clear hb
                have HKD5 := Aside0.mk ((HB5.out.block D (Array.getElem?_eq_some_iff.1 HKD.out).1).trans HKD.out)
                gi_wp2_with fail
                refine ⟨by simp, .inl ⟨_, _, rfl, run_takeDeferred HKD5.out, ?_⟩⟩
                exact ⟨_, results_tmp2 rfl _ _ _, .slice none 0 0, by rw [HR.out]; rfl, by rw [HR.out]; exact Kd.R_nil _ _ _ _ _, (HW.out.trans (HB5.out.mono HW.out.size)).trans (belowK_b (w := w) (Nat.le_refl _) w5 D _ _ hD2 HKD5.out rfl rfl)⟩
              | true =>
                have hr : readQ s = (os, 0) := by rw [HRD.out, hm, hze, decide_eq_true HLT.out]; exact if_pos rfl
                have HR := Aside0.mk hr
                clear hr
                rw [hm] at HMAY
                gi_wp2_with fail
                refine ⟨trivial, callsIn_wide.2 (HMAY.out.mono ?_)⟩
                rintro e w5 ⟨rfl, hb⟩
                have HB5 := Aside0.mk hb
                clear hb
                have HKD5 := Aside0.mk ((HB5.out.block D (Array.getElem?_eq_some_iff.1 HKD.out).1).trans HKD.out)
                have HROW5 := Aside0.mk (Kd.R_below HROW.out HB5.out)
                have c15 := HB5.out.cell (World.block_lt_of_cell? W _ c1)
                rw [c1] at c15
                gi_wp2_with fail
                refine ⟨by simp, .inl ⟨_, _, rfl, run_takeDeferred HKD5.out, ?_⟩⟩
                refine ⟨_, results_tmp2 rfl _ _ _, .slice A os.length cp, by rw [HR.out]; rfl, ?_, (HW.out.trans (HB5.out.mono HW.out.size)).trans (belowK_b (w := w) (Nat.le_refl _) w5 D _ _ hD2 HKD5.out rfl rfl)⟩
                rw [HR.out]
                obtain ⟨hk1, inner, hown, hreps⟩ := HROW5.out
                exact ⟨hk1, inner, ownsRow_putObj hown _ HKD5.out rfl, hreps⟩
  · have hr : readQ s = ([], 4) := by
      unfold readQ soundQ
      rw [decide_eq_false h37, Bool.false_and, if_neg (by decide)]
    have HR := Aside0.mk hr
    clear hr
    have d1 : decide ((s.size : Int) - 32 < 5) = true := decide_eq_true (by omega)
    gi_wp2_with fail
    refine calm ?_
    refine start_ (n := 17) (S := fun w' => True) (ds := []) #[false, false, false, false, false, false, false, false, false, false, false, false, false, false, false, false, false] (by kernel_rfl) rfl rfl trivial (fun hHeld => ?_)
    refine pure_ (i := 0) (N := some 13) (v := ?_) (a' := ?_) #[true, false, false, false, false, false, false, false, false, false, false, false, false, false, false, false, false] rfl rfl (by kernel_rfl) (fun _ _ _ h => h) (Or.inl ⟨by rfl, ?_⟩) ?_ ?_
    rotate_left
    · intro w'
      go_simp
      with_reducible rfl
    rotate_left
    · simp only [Act.put, List.setIfInBounds_toArray, List.set_cons_zero, List.set_cons_succ, i64_w, i32_w]
      rfl
    refine pure_ (i := 1) (N := some 14) (v := ?_) (a' := ?_) #[true, true, false, false, false, false, false, false, false, false, false, false, false, false, false, false, false] rfl rfl (by kernel_rfl) (fun _ _ _ h => h) (Or.inl ⟨by rfl, ?_⟩) ?_ ?_
    rotate_left
    · intro w'
      go_simp
      with_reducible rfl
    rotate_left
    · simp only [Act.put, List.setIfInBounds_toArray, List.set_cons_zero, List.set_cons_succ, i64_w, i32_w]
      rfl
    refine pure_ (i := 2) (N := some 15) (v := ?_) (a' := ?_) #[true, true, true, false, false, false, false, false, false, false, false, false, false, false, false, false, false] rfl rfl (by kernel_rfl) (fun _ _ _ h => h) (Or.inl ⟨by rfl, ?_⟩) ?_ ?_
    rotate_left
    · intro w'
      go_simp
      with_reducible rfl
    rotate_left
    · simp only [Act.put, List.setIfInBounds_toArray, List.set_cons_zero, List.set_cons_succ, i64_w, i32_w]
      rfl
    refine pure_ (i := 3) (N := some 16) (v := undef) (a' := ?_) #[true, true, true, true, false, false, false, false, false, false, false, false, false, false, false, false, false] rfl rfl (by kernel_rfl) (fun _ _ _ h => h) (Or.inr ⟨by rfl, rfl⟩) ?_ ?_
    rotate_left
    · simp only [Act.put, List.setIfInBounds_toArray, List.set_cons_zero, List.set_cons_succ, i64_w, i32_w]
      rfl
    refine pure_ (i := 4) (N := some 17) (v := undef) (a' := ?_) #[true, true, true, true, true, false, false, false, false, false, false, false, false, false, false, false, false] rfl rfl (by kernel_rfl) (fun _ _ _ h => h) (Or.inr ⟨by rfl, rfl⟩) ?_ ?_
    rotate_left
    · simp only [Act.put, List.setIfInBounds_toArray, List.set_cons_zero, List.set_cons_succ, i64_w, i32_w]
      rfl
    refine pure_ (i := 5) (N := some 18) (v := undef) (a' := ?_) #[true, true, true, true, true, true, false, false, false, false, false, false, false, false, false, false, false] rfl rfl (by kernel_rfl) (fun _ _ _ h => h) (Or.inr ⟨by rfl, rfl⟩) ?_ ?_
    rotate_left
    · simp only [Act.put, List.setIfInBounds_toArray, List.set_cons_zero, List.set_cons_succ, i64_w, i32_w]
      rfl
    refine pure_ (i := 6) (N := some 19) (v := ?_) (a' := ?_) #[true, true, true, true, true, true, true, false, false, false, false, false, false, false, false, false, false] rfl rfl (by kernel_rfl) (fun _ _ _ h => h) (Or.inl ⟨by rfl, ?_⟩) ?_ ?_
    rotate_left
    · intro w'
      go_simp
      with_reducible rfl
    rotate_left
    · simp only [Act.put, List.setIfInBounds_toArray, List.set_cons_zero, List.set_cons_succ, i64_w, i32_w]
      rfl
    refine pure_ (i := 7) (N := some 20) (v := ?_) (a' := ?_) #[true, true, true, true, true, true, true, true, false, false, false, false, false, false, false, false, false] rfl rfl (by kernel_rfl) (fun _ _ _ h => h) (Or.inl ⟨by rfl, ?_⟩) ?_ ?_
    rotate_left
    · intro w'
      go_simp
      with_reducible rfl
    rotate_left
    · simp only [Act.put, List.setIfInBounds_toArray, List.set_cons_zero, List.set_cons_succ, i64_w, i32_w]
      rfl
    refine pure_ (i := 8) (N := some 21) (v := undef) (a' := ?_) #[true, true, true, true, true, true, true, true, true, false, false, false, false, false, false, false, false] rfl rfl (by kernel_rfl) (fun _ _ _ h => h) (Or.inr ⟨by rfl, rfl⟩) ?_ ?_
    rotate_left
    · simp only [Act.put, List.setIfInBounds_toArray, List.set_cons_zero, List.set_cons_succ, i64_w, i32_w]
      rfl
    refine pure_ (i := 9) (N := some 22) (v := undef) (a' := ?_) #[true, true, true, true, true, true, true, true, true, true, false, false, false, false, false, false, false] rfl rfl (by kernel_rfl) (fun _ _ _ h => h) (Or.inr ⟨by rfl, rfl⟩) ?_ ?_
    rotate_left
    · simp only [Act.put, List.setIfInBounds_toArray, List.set_cons_zero, List.set_cons_succ, i64_w, i32_w]
      rfl
    refine pure_ (i := 10) (N := some 23) (v := undef) (a' := ?_) #[true, true, true, true, true, true, true, true, true, true, true, false, false, false, false, false, false] rfl rfl (by kernel_rfl) (fun _ _ _ h => h) (Or.inr ⟨by rfl, rfl⟩) ?_ ?_
    rotate_left
    · simp only [Act.put, List.setIfInBounds_toArray, List.set_cons_zero, List.set_cons_succ, i64_w, i32_w]
      rfl
    refine pure_ (i := 11) (N := some 24) (v := undef) (a' := ?_) #[true, true, true, true, true, true, true, true, true, true, true, true, false, false, false, false, false] rfl rfl (by kernel_rfl) (fun _ _ _ h => h) (Or.inr ⟨by rfl, rfl⟩) ?_ ?_
    rotate_left
    · simp only [Act.put, List.setIfInBounds_toArray, List.set_cons_zero, List.set_cons_succ, i64_w, i32_w]
      rfl
    refine pure_ (i := 12) (N := some 25) (v := undef) (a' := ?_) #[true, true, true, true, true, true, true, true, true, true, true, true, true, false, false, false, false] rfl rfl (by kernel_rfl) (fun _ _ _ h => h) (Or.inr ⟨by rfl, rfl⟩) ?_ ?_
    rotate_left
    · simp only [Act.put, List.setIfInBounds_toArray, List.set_cons_zero, List.set_cons_succ, i64_w, i32_w]
      rfl
    refine pure_ (i := 13) (N := some 26) (v := undef) (a' := ?_) #[true, true, true, true, true, true, true, true, true, true, true, true, true, true, false, false, false] rfl rfl (by kernel_rfl) (fun _ _ _ h => h) (Or.inr ⟨by rfl, rfl⟩) ?_ ?_
    rotate_left
    · simp only [Act.put, List.setIfInBounds_toArray, List.set_cons_zero, List.set_cons_succ, i64_w, i32_w]
      rfl
    refine pure_ (i := 14) (N := some 27) (v := undef) (a' := ?_) #[true, true, true, true, true, true, true, true, true, true, true, true, true, true, true, false, false] rfl rfl (by kernel_rfl) (fun _ _ _ h => h) (Or.inr ⟨by rfl, rfl⟩) ?_ ?_
    rotate_left
    · simp only [Act.put, List.setIfInBounds_toArray, List.set_cons_zero, List.set_cons_succ, i64_w, i32_w]
      rfl
    refine pure_ (i := 15) (N := some 28) (v := undef) (a' := ?_) #[true, true, true, true, true, true, true, true, true, true, true, true, true, true, true, true, false] rfl rfl (by kernel_rfl) (fun _ _ _ h => h) (Or.inr ⟨by rfl, rfl⟩) ?_ ?_
    rotate_left
    · simp only [Act.put, List.setIfInBounds_toArray, List.set_cons_zero, List.set_cons_succ, i64_w, i32_w]
      rfl
    refine pure_ (i := 16) (N := some 29) (v := ?_) (a' := ?_) #[true, true, true, true, true, true, true, true, true, true, true, true, true, true, true, true, true] rfl rfl (by kernel_rfl) (fun _ _ _ h => h) (Or.inl ⟨by rfl, ?_⟩) ?_ ?_
    rotate_left
    · intro w'
      go_simp
      with_reducible rfl
    rotate_left
    · simp only [Act.put, List.setIfInBounds_toArray, List.set_cons_zero, List.set_cons_succ, i64_w, i32_w]
      rfl
    refine done_ (by kernel_rfl) ?_
    refine calm_done ?_
    gi_wp2_with fail
    refine ⟨_, results_tmp2 rfl _ _ _, .slice none 0 0, by rw [HR.out]; rfl, by rw [HR.out]; exact Kd.R_nil _ _ _ _ _, below_drew1 (Below.refl _ w)⟩
end Go.Proofs.YtbeibmdccjgcmaaDoor.PQu
namespace Go.Proofs.YtbeibmdccjgcmaaDoor.PQu
open Go.RowKit Go.Proofs.YtbeibmdccjgcmaaDoorW.PrintWords Go.Proofs.YtbeibmdccjgcmaaDoorW.PrintLast Go.Proofs.YtbeibmdccjgcmaaDoorW.PrintMore
attribute [local go_sem] max2_int min2_int max_two min_two max_three min_three max_four min_four   -- for this text's walks alone
set_option linter.unusedVariables false
set_option linter.unusedSimpArgs false

/-! ### quick_Read: function 18 -/
def quick_Read.f (k : Nat) (a0 : ByteArray) : Option ((List (S33)) × Int) := if a0.size ≤ 140737488351232 then some (readQ a0) else none
theorem quick_Read.mono : ∀ a0 k, LeO (quick_Read.f k a0) (quick_Read.f (k + 1) a0) := fun _ _ => LeO.refl _
theorem quick_Read.calls (k : Nat) (a0 : ByteArray) (r1 : List (S33)) (r2 : Int) (w : World) (hTabs : Me.Tabs w) (h : quick_Read.f k a0 = some (r1, r2)) :
    Calls Tryd.prog 18 #[.string a0] w fun e w' => ∃ v0_ : Value, e = .returned (.tuple #[v0_, .int .i64 r2]) ∧ Kd.R k33 33 w' w.heap.size (fun _ => True) v0_ r1 ∧ Below w.heap.size w w' := by
  unfold quick_Read.f at h
  by_cases hs : a0.size ≤ 140737488351232
  · rw [if_pos hs] at h
    have e := Option.some.inj h
    have hc := qread_calls a0 w hTabs hs
    rw [e] at hc
    exact hc
  · rw [if_neg hs] at h
    exact absurd h (by simp)

end Go.Proofs.YtbeibmdccjgcmaaDoor.PQu
namespace Go.Proofs.YtbeibmdccjgcmaaDoor.PQu
open Go.RowKit Go.Lib Go.Proofs.YtbeibmdccjgcmaaDoorW.PrintWords Go.Proofs.YtbeibmdccjgcmaaDoorW.PrintLast Go.Proofs.YtbeibmdccjgcmaaDoorW.PrintMore Go.Proofs.YtbeibmdccjgcmaaDoor.Pb
set_option linter.unusedVariables false
set_option linter.unusedSimpArgs false
theorem lit4 : (⟨#[113, 99, 107, 49]⟩ : ByteArray).toList = [113, 99, 107, 49] := by rw [ByteArray.toList_eq]
theorem read_mkb {x : MS} (h : fineQ x = true) (t : ByteArray) : Me.readA (mkb x ++ t) = ⟨x.f0, x.f1, x.f2, x.f3, x.f4, (mkb x).size, 0⟩ := by
  obtain ⟨h1, h2⟩ := fineQ_parts h
  exact Me.read_make x.f0 x.f1 x.f2 x.f3 x.f4 t h1 h2
/-- What is told of bytes made one behind the other. -/
def pairsT (t : ByteArray) : List MS → List (MS × ByteArray)
  | [] => []
  | x :: l => (x, catQ l ++ t) :: pairsT t l
theorem out_pairs (t : ByteArray) : ∀ l, outQ (pairsT t l) = l
  | [] => rfl
  | x :: l => by
    show x :: outQ (pairsT t l) = x :: l
    rw [out_pairs t l]
theorem lastQ_cons (s : ByteArray) (p : MS × ByteArray) (L : List (MS × ByteArray)) : lastQ s (p :: L) = lastQ p.2 L := by
  cases L with
  | nil => simp [lastQ]
  | cons x L => simp [lastQ, List.getLast?_cons]
theorem last_pairs (t : ByteArray) : ∀ l, lastQ (catQ l ++ t) (pairsT t l) = t
  | [] => by show lastQ (⟨#[]⟩ ++ t) [] = t; rw [nil_app]; rfl
  | x :: l => by rw [pairsT, lastQ_cons]; exact last_pairs t l
theorem tell_cat (t : ByteArray) : ∀ l : List MS, (∀ x ∈ l, fineQ x = true) → tellQ l.length (catQ l ++ t) = pairsT t l
  | [], _ => rfl
  | x :: l, h => by
    have hx := h x List.mem_cons_self
    rw [catQ_cons hx, app_assoc, List.length_cons, tellQ_more (read_mkb hx (catQ l ++ t)) rfl]
    dsimp only
    rw [ext_app_right, tell_cat t l (fun y hy => h y (List.mem_cons_of_mem _ hy)), pairsT]
theorem head_bytes (n : Nat) : bytesOf (headQ n) = [113, 99, 107, 49, (n : Int) % 256] := by
  unfold headQ
  rw [bytesOf_append, bytesOf_str]
  · rfl
  · intro x hx
    rw [List.mem_singleton] at hx
    omega
theorem bt_head (n : Nat) (t : ByteArray) : bt (headQ n ++ t) 4 = (n : Int) % 256 := by
  have hl : 4 < (bytesOf (headQ n ++ t)).length := by rw [bytesOf_append, head_bytes]; simp
  have h := bt_bytesOf (headQ n ++ t) 4 hl
  have e : (bytesOf (headQ n ++ t))[4]? = some ((n : Int) % 256) := by rw [bytesOf_append, head_bytes]; rfl
  rw [List.getElem?_eq_getElem hl] at e
  rw [show ((4 : Nat) : Int) = 4 from rfl] at h
  rw [h]
  exact Option.some.inj e
theorem made_many {l : List MS} {s : ByteArray} (h : makeQ l = (s, 0)) : manyQ s = l.length ∧ bt s 4 = (l.length : Int) := by
  obtain ⟨hf, hl, hs, h1, h2⟩ := made_parts h
  have hb : bt s 4 = (l.length : Int) := by
    rw [hs]
    unfold bodyQ
    rw [app_assoc, bt_head]
    omega
  exact ⟨by unfold manyQ; rw [hb]; rfl, hb⟩
/-- Read of Make is the list. -/
theorem read_make {l : List MS} {s : ByteArray} (h : makeQ l = (s, 0)) : readQ s = (l, 0) := by
  obtain ⟨hf, hl, hs, h1, h2⟩ := made_parts h
  obtain ⟨hm, hb⟩ := made_many h
  have hn : s.size - 32 = (bodyQ l).size := by omega
  have hx : s.extract 0 (s.size - 32) = bodyQ l := by rw [hn, hs, ext_app_left]
  have hy : s.extract (s.size - 32) s.size = Bk.blakeSum (bodyQ l) := by rw [hn, hs, ext_app_right]
  have hr : restQ s = catQ l := by
    unfold restQ
    rw [hn, h2, hs]
    unfold bodyQ
    rw [app_assoc]
    exact Me.ext_at _ _ _ 5 _ (headQ_size _) rfl
  have h4 : s.extract 0 4 = ⟨#[113, 99, 107, 49]⟩ := by
    rw [hs]
    unfold bodyQ headQ
    rw [app_assoc, app_assoc]
    exact ext_app_left ⟨#[113, 99, 107, 49]⟩ _
  have hsound : soundQ s = true := by
    unfold soundQ
    rw [hx, hy, h4, decide_eq_true (by omega), lit4, beq_self_eq_true, beq_self_eq_true]
    rfl
  have ht : tollQ s = pairsT ⟨#[]⟩ l := by
    unfold tollQ
    rw [hm, hr]
    have := tell_cat ⟨#[]⟩ l hf
    rwa [app_nil] at this
  have hla : lastQ (restQ s) (tollQ s) = ⟨#[]⟩ := by
    rw [hr, ht]
    have := last_pairs ⟨#[]⟩ l
    rwa [app_nil] at this
  have hpl : (pairsT ⟨#[]⟩ l).length = l.length := by rw [← outQ_len, out_pairs]
  have hfull : fullQ s = true := by
    unfold fullQ
    rw [hla, ht, hm, hpl, out_pairs, decide_eq_true (by omega)]
    unfold mayQ
    rw [h, (tl_nil _).2 rfl]
    rfl
  unfold readQ
  rw [if_pos hsound, if_pos hfull, ht, out_pairs]
end Go.Proofs.YtbeibmdccjgcmaaDoor.PQu
