-- Made by a program of this session (wip/tools/pp.py) out of the seat's translation; contracts of some functions are typed by hand.
import Derived.Test.YtapdnkmaklpoeaaPHeadx0
import Derived.Test.YtapdnkmaklpoeaaPHeadx21
import Derived.Test.YtapdnkmaklpoeaaPHeadx25
namespace Go.Proofs.Ytapdnkmaklpoeaa.PHead
open Go.RowKit Go.Proofs.YtapdnkmaklpoeaaW.PrintWords Go.Proofs.YtapdnkmaklpoeaaW.PrintLast Go.Proofs.YtapdnkmaklpoeaaW.PrintMore
attribute [local go_sem] max2_int min2_int max_two min_two max_three min_three max_four min_four   -- for this text's walks alone
set_option linter.unusedVariables false
set_option linter.unusedSimpArgs false

/-! ### vint_Reader_Number: function 35 -/
set_option maxHeartbeats 1000000 in
set_option maxRecDepth 100000 in
theorem vint_num_one (k : Nat) (s : ByteArray) (t1 t2 t3 : Int) (w : World) (h : vint_Get.f k s = some (t1, t2, t3)) :
    Calls Try.prog 47 #[.string s] w fun e w' => e = .returned (.tuple #[.int .i64 t1, .int .i64 t2, .bool (t3 == 0)]) ∧ Below w.heap.size w w' := by
  have H := Aside0.mk h
  clear h
  go_enter Try.func47, Try.ntmps47
  go_wp2_with (go_at_call 48; refine (vint_Get.calls k _ t1 t2 t3 _ H.out).mono ?_; rintro e w1 ⟨rfl, hb1⟩)
  go_ret3
  exact ⟨rfl, hb1⟩

def vint_Reader_Number.f (k : Nat) (s0_0 : ByteArray) (s0_1 : Bool) : Option (Int × ByteArray × Bool) :=
  if s0_1 = true then some (0, s0_0, true)
  else (vint_Get.f k s0_0).bind fun t => if t.2.2 = 0 then (if 0 ≤ t.2.1 then (if t.2.1 ≤ (s0_0.size : Int) then some (t.1, s0_0.extract (t.2.1).toNat s0_0.size, false) else none) else none) else some (0, s0_0, true)
theorem vint_Reader_Number.mono : ∀ a0 a1 k, LeO (vint_Reader_Number.f k a0 a1) (vint_Reader_Number.f (k + 1) a0 a1) := by
  intro a0 a1 k
  unfold vint_Reader_Number.f
  refine LeO.ite (LeO.refl _) ?_
  exact LeO.bind (vint_Get.mono _ _) (fun _ => LeO.refl _)
set_option maxHeartbeats 1000000 in
set_option maxRecDepth 100000 in
theorem vint_Reader_Number.calls (k : Nat) (g : Nat) (s0_0 : ByteArray) (s0_1 : Bool) (r1 : Int) (r2 : ByteArray) (r3 : Bool) (w0 w : World) (hI : IsS66 w0 w g s0_0 s0_1) (hB : Below w0.heap.size w0 w) (h : vint_Reader_Number.f k s0_0 s0_1 = some (r1, r2, r3)) :
    Calls Try.prog 35 #[.pointer (some ⟨g, 0, none⟩)] w fun e w' => e = .returned (.int .i64 r1) ∧ IsS66 w0 w' g r2 r3 ∧ Below w0.heap.size w0 w' ∧ KeepBut w w' g none := by
  have HI := Aside0.mk hI
  have HB := Aside0.mk hB
  obtain ⟨HG, hg⟩ := hI
  have c0 := cellS66_0 HG
  have c1 := cellS66_1 HG
  have f0 := blk_frozen HG 0
  have f1 := blk_frozen HG 1
  clear HG hg hB
  unfold vint_Reader_Number.f at h
  by_cases hb : s0_1 = true
  · subst hb
    simp only [if_true, Option.some.injEq, Prod.mk.injEq] at h
    obtain ⟨rfl, rfl, rfl⟩ := h
    go_enter Try.func35, Try.ntmps35
    go_wp2
    go_ret
    exact ⟨rfl, HI.out, HB.out, KeepBut.refl w g none⟩
  · replace hb := Bool.eq_false_iff.mpr hb
    subst hb
    rw [if_neg (by decide)] at h
    obtain ⟨⟨t1, t2, t3⟩, hg, h2⟩ := Option.bind_eq_some_iff.mp h
    clear h
    have h := h2
    clear h2
    have HG := Aside0.mk hg
    clear hg
    simp only at h
    by_cases h3 : t3 = 0
    · rw [if_pos h3] at h
      have e3 : (t3 == 0) = true := beq_iff_eq.mpr h3
      clear h3
      by_cases h2 : 0 ≤ t2
      · rw [if_pos h2] at h
        by_cases h4 : t2 ≤ (s0_0.size : Int)
        · rw [if_pos h4] at h
          simp only [Option.some.injEq, Prod.mk.injEq] at h
          obtain ⟨rfl, rfl, rfl⟩ := h
          go_enter Try.func35, Try.ntmps35
          go_wp2_with (first | (go_at_call 47; refine (vint_num_one k _ t1 t2 t3 _ HG.out).mono ?_; rintro e w1 ⟨rfl, hb1⟩; have HI1 := Aside0.mk (HI.out.below hb1); have HB1 := Aside0.mk (below_step HB.out hb1); have HK1 := Aside0.mk (KeepBut.of_below hb1 g none); obtain ⟨HG1, hg1⟩ := HI1.out; have c01 := cellS66_0 HG1; have c11 := cellS66_1 HG1; have f01 := blk_frozen HG1 0; have f11 := blk_frozen HG1 1; clear HG1 hg1 hb1) | go_in)
          go_ret
          exact ⟨rfl, HI1.out.set_0 _, below_set HB1.out (IsS66.ge HI1.out), HK1.out.set_ _ _⟩
        · rw [if_neg h4] at h; exact absurd h (by simp)
      · rw [if_neg h2] at h; exact absurd h (by simp)
    · rw [if_neg h3] at h
      have e3 : (t3 == 0) = false := beq_eq_false_iff_ne.mpr h3
      clear h3
      simp only [Option.some.injEq, Prod.mk.injEq] at h
      obtain ⟨rfl, rfl, rfl⟩ := h
      go_enter Try.func35, Try.ntmps35
      go_wp2_with (first | (go_at_call 47; refine (vint_num_one k _ t1 t2 t3 _ HG.out).mono ?_; rintro e w1 ⟨rfl, hb1⟩; have HI1 := Aside0.mk (HI.out.below hb1); have HB1 := Aside0.mk (below_step HB.out hb1); have HK1 := Aside0.mk (KeepBut.of_below hb1 g none); obtain ⟨HG1, hg1⟩ := HI1.out; have c01 := cellS66_0 HG1; have c11 := cellS66_1 HG1; have f01 := blk_frozen HG1 0; have f11 := blk_frozen HG1 1; clear HG1 hg1 hb1) | go_in)
      go_ret
      exact ⟨rfl, HI1.out.set_1 _, below_set HB1.out (IsS66.ge HI1.out), HK1.out.set_ _ _⟩

end Go.Proofs.Ytapdnkmaklpoeaa.PHead
