/- head.each: the iterator's contract; head.All: the range over it. -/
import Derived.Test.YtapdnkmaklpoeaaRf
import Derived.Test.YtapdnkmaklpoeaaPTellx19
namespace Go.Proofs.Ytapdnkmaklpoeaa.PTell
open Go.RowKit Go.Shelf Go.Proofs.YtapdnkmaklpoeaaW.PrintWords Go.Proofs.YtapdnkmaklpoeaaW.PrintLast Go.Proofs.YtapdnkmaklpoeaaW.PrintMore
set_option linter.unusedVariables false
set_option linter.unusedSimpArgs false
attribute [local go_sem] Oper.semAt_some

theorem toList_nil {a : ByteArray} (h : a.toList = ([] : List UInt8)) : a = ⟨#[]⟩ := by
  rw [Lib.toList_data] at h
  cases a with
  | mk d => exact congrArg ByteArray.mk (Array.ext' h)
/-- The headers that a text begins with, each with what is left, and what is left of all. -/
def heads : Nat → ByteArray → Option (List (Int × ByteArray × ByteArray) × ByteArray)
  | 0, _ => none
  | k + 1, s => (head_Get.f k s).bind fun t => if t.2.2.2 = 0 then (if 0 ≤ t.2.2.1 then (if t.2.2.1 ≤ (s.size : Int) then (heads k (s.extract t.2.2.1.toNat s.size)).bind fun r => some ((t.1, t.2.1, s.extract t.2.2.1.toNat s.size) :: r.1, r.2) else none) else none) else some ([], s)
theorem heads_end {k : Nat} {s : ByteArray} {a : Int} {b : ByteArray} {u e : Int} {L : List (Int × ByteArray × ByteArray)} {r : ByteArray} (hg : head_Get.f k s = some (a, b, u, e)) (he : e ≠ 0) (h : heads (k + 1) s = some (L, r)) : L = [] ∧ r = s := by
  rw [heads, hg] at h
  simp only [Option.bind_some, if_neg he, Option.some.injEq, Prod.mk.injEq] at h
  exact ⟨h.1.symm, h.2.symm⟩
theorem heads_more {k : Nat} {s : ByteArray} {a : Int} {b : ByteArray} {u : Int} {L : List (Int × ByteArray × ByteArray)} {r : ByteArray} (hg : head_Get.f k s = some (a, b, u, 0)) (h : heads (k + 1) s = some (L, r)) :
    0 ≤ u ∧ u ≤ (s.size : Int) ∧ ∃ L', L = (a, b, s.extract u.toNat s.size) :: L' ∧ heads k (s.extract u.toNat s.size) = some (L', r) := by
  rw [heads, hg] at h
  simp only [Option.bind_some, if_true] at h
  by_cases h0 : 0 ≤ u
  · rw [if_pos h0] at h
    by_cases h1 : u ≤ (s.size : Int)
    · rw [if_pos h1] at h
      obtain ⟨⟨L', r'⟩, h2, h3⟩ := Option.bind_eq_some_iff.mp h
      simp only [Option.some.injEq, Prod.mk.injEq] at h3
      obtain ⟨rfl, rfl⟩ := h3
      exact ⟨h0, h1, L', rfl, h2⟩
    · rw [if_neg h1] at h; cases h
  · rw [if_neg h0] at h; cases h
set_option maxHeartbeats 4000000 in
set_option maxRecDepth 100000 in
theorem each_tells (n : Nat) (b k : Nat) (s : ByteArray) (L : List (Int × ByteArray × ByteArray)) (r : ByteArray) (w : World) (hk : heads k s = some (L, r)) (hb : Boxed w b 9 (.string s)) :
    Rf.Tells Fence.wide n Try.prog 36 #[.pointer (some ⟨b, 0, none⟩)] (fun x : Int × ByteArray × ByteArray => #[.agg #[.int .u8 x.1, .string x.2.1], .string x.2.2]) b (fun xs => xs = L) L.length w := by
  intro l J W hsz hbox hJ hY h0
  refine callsIn_of_wp Try.func36 rfl trivial ?_ rfl
  simp only [Try.ntmps36, List.size_toArray, List.length_cons, List.length_nil, Nat.reduceAdd, Nat.reduceSub, Array.replicate_succ, Array.replicate_zero, List.push_toArray, List.append_toArray, List.nil_append, List.cons_append]
  gi_wp2
  have hbW : Boxed W b 9 (.string s) := hbox.trans hb
  refine Rf.loop_ghost (fun kq a wr => ∃ (pre L' : List (Int × ByteArray × ByteArray)) (s' : ByteArray) (t2 t3 t4 t5 t6 t7 t8 t9 t10 t11 t12 t13 t14 t15 t16 t17 t18 t19 t20 t21 : Value), a = { tmps := #[.func (.yield l) #[] #[], .pointer (some ⟨b, 0, none⟩), t2, t3, t4, t5, t6, t7, t8, t9, t10, t11, t12, t13, t14, t15, t16, t17, t18, t19, t20, t21], defers := [] } ∧ heads kq s' = some (L', r) ∧ pre ++ L' = L ∧ Boxed wr b 9 (.string s') ∧ J pre wr) k ⟨[], L, s, undef, undef, undef, undef, undef, undef, undef, undef, undef, undef, undef, undef, undef, undef, undef, undef, undef, undef, undef, undef, rfl, hk, rfl, hbW, h0⟩ ?_
  rintro kq a wr ⟨pre, L', s', t2, t3, t4, t5, t6, t7, t8, t9, t10, t11, t12, t13, t14, t15, t16, t17, t18, t19, t20, t21, rfl, hk', hL, hb', hJ'⟩
  cases kq with
  | zero => cases hk'
  | succ k1 =>
    obtain ⟨⟨a0, b0, u0, e0⟩, hG, _⟩ := Option.bind_eq_some_iff.mp hk'
    have hcell := hb'.cell
    have hfro := hb'.frozen
    have HK := Aside0.mk hk'
    have HG := Aside0.mk hG
    have HL := Aside0.mk hL
    have HB' := Aside0.mk hb'
    have HJ' := Aside0.mk hJ'
    clear hk' hG hL hb' hJ' hb hbox hbW hk h0
    have hbl := HB'.out.lt
    have HBL := Aside0.mk hbl
    clear hbl
    by_cases he : e0 = 0
    · subst he
      obtain ⟨hu0, hu1, L2, hL2, hk2⟩ := heads_more HG.out HK.out
      have HK2 := Aside0.mk hk2
      have HL2 := Aside0.mk hL2
      clear hk2 hL2 HK
      gi_wp2_with fail
      refine ⟨trivial, fun h => (by cases h), callsIn_wide.2 ((head_Get.calls k1 s' a0 b0 u0 0 _ HG.out).mono ?_)⟩
      rintro e w1 ⟨rfl, hb1⟩
      have HB1 := Aside0.mk hb1
      have HS1 := Aside0.mk hb1.size
      clear hb1
      have hcell1 := (HB1.out.cell (p := ⟨b, 0, none⟩) HBL.out).trans hcell
      have hfro1 := (HB1.out.frozen (p := ⟨b, 0, none⟩) HBL.out).trans hfro
      have hlt1 : b < w1.heap.size := Nat.lt_of_lt_of_le HBL.out HS1.out
      have hne : w1.heap.size ≠ b := by omega
      clear hcell hfro
      have hs1 : (w1.setCell ⟨b, 0, none⟩ (.string (s'.extract u0.toNat s'.size))).heap.size = w1.heap.size := by simp
      have hblk := blk_new (w1.setCell ⟨b, 0, none⟩ (.string (s'.extract u0.toNat s'.size))) (.cells #[.int .u8 a0, .string b0] 23)
      rw [hs1] at hblk
      have hd0 := (blk_cell hblk 0).trans (rfl : _ = some (Value.int .u8 a0))
      have hd1 := (blk_cell hblk 1).trans (rfl : _ = some (Value.string b0))
      have hbx1 : Boxed (w1.setCell ⟨b, 0, none⟩ (.string (s'.extract u0.toNat s'.size))) b 9 (.string (s'.extract u0.toNat s'.size)) := (show Boxed w1 b 9 (.string s') from (HB1.out.block b HBL.out).trans HB'.out).set _
      have hbx2 := hbx1.alloc (.cells #[.int .u8 a0, .string b0] 23)
      have hdb := hbx2.cell
      have hgr : wr.grownBy ((w1.setCell ⟨b, 0, none⟩ (.string (s'.extract u0.toNat s'.size))).alloc (.cells #[.int .u8 a0, .string b0] 23)) (some b) := by
        refine ⟨HB1.out.os, HB1.out.tape, HB1.out.output, ?_, fun k hk hkb => ?_⟩
        · rw [World.size_alloc, hs1]; have := HS1.out; omega
        · exact (Below.heap_alloc _ _ k (by rw [hs1]; exact Nat.lt_of_lt_of_le hk HS1.out)).trans ((Below.heap_setCell _ _ _ k (fun e => hkb (by rw [e]))).trans (HB1.out.block k hk))
      have hJ2 := hJ pre wr _ (some b) HJ'.out hgr fun r e => (Option.some.inj e).symm
      have hlt2 := hbx2.lt
      obtain ⟨fn, tmps, assign, body, hy, hR⟩ := hY pre (a0, b0, s'.extract u0.toNat s'.size) _ hJ2 (by rw [← HL.out, HL2.out]; simp) hlt2
      dsimp only at hy
      have HBX2 := Aside0.mk hbx2
      have HR := Aside0.mk hR
      clear hblk hgr hJ2 hbx2 hR hbx1
      gi_wp2_with fail
      refine ⟨fun h => (by cases h), HR.out.mono ?_⟩
      rintro e W3 ⟨rfl, hJ3, hsz3, hb3⟩
      have HJ3 := Aside0.mk hJ3
      have HB3 := Aside0.mk (show Boxed W3 b 9 (.string (s'.extract u0.toNat s'.size)) from hb3.trans HBX2.out)
      clear hJ3 hsz3 hb3
      gi_wp2_with fail
      refine ⟨k1, Nat.lt_succ_self _, pre ++ [(a0, b0, s'.extract u0.toNat s'.size)], L2, _, _, _, _, _, _, _, _, _, _, _, _, _, _, _, _, _, _, _, _, _, rfl, HK2.out, ?_, HB3.out, HJ3.out⟩
      rw [List.append_assoc, List.singleton_append, ← HL2.out, HL.out]
    · obtain ⟨hL0, hr0⟩ := heads_end HG.out he HK.out
      have HE := Aside0.mk (And.intro hL0 hr0)
      clear hL0 hr0 HK
      have heb : (e0 == 0) = false := beq_eq_false_iff_ne.mpr he
      gi_wp2_with fail
      refine ⟨trivial, fun h => (by cases h), callsIn_wide.2 ((head_Get.calls k1 s' a0 b0 u0 e0 _ HG.out).mono ?_)⟩
      rintro e w1 ⟨rfl, hb1⟩
      have HB1 := Aside0.mk hb1
      have HS1 := Aside0.mk hb1.size
      clear hb1
      gi_wp2_with fail
      refine bodyPost_ret (results_none rfl _ _ _) rfl ?_
      refine ⟨⟨_, rfl⟩, L, rfl, ?_⟩
      have e := HL.out
      rw [HE.out.1, List.append_nil] at e
      rw [← e]
      refine hJ pre wr _ none HJ'.out ⟨HB1.out.os, HB1.out.tape, HB1.out.output, ?_, fun k hk _ => ?_⟩ (by simp)
      · rw [World.size_alloc]; have := HS1.out; omega
      · exact (Below.heap_alloc w1 _ k (Nat.lt_of_lt_of_le hk HS1.out)).trans (HB1.out.block k hk)
set_option maxHeartbeats 1000000 in
theorem each_calls (s : ByteArray) (w : World) : Calls Try.prog 28 #[.string s] w fun e w' => e = .returned (.func (.func 36) #[] #[.pointer (some ⟨w.heap.size, 0, none⟩)]) ∧ w' = w.alloc (.cells #[.string s] 9) := by
  go_enter Try.func28, Try.ntmps28
  go_wp2
  go_ret
  exact ⟨rfl, rfl⟩
end Go.Proofs.Ytapdnkmaklpoeaa.PTell
