-- Made by a program of this session (wip/tools/pp.py) out of the seat's translation; contracts of some functions are typed by hand.
import Derived.Test.YtapdnkmaklpoeaaPHeadx0
import Derived.Test.YtapdnkmaklpoeaaPHeadx21
namespace Go.Proofs.Ytapdnkmaklpoeaa.PHead
open Go.RowKit Go.Proofs.YtapdnkmaklpoeaaW.PrintWords Go.Proofs.YtapdnkmaklpoeaaW.PrintLast Go.Proofs.YtapdnkmaklpoeaaW.PrintMore
attribute [local go_sem] max2_int min2_int max_two min_two max_three min_three max_four min_four   -- for this text's walks alone
set_option linter.unusedVariables false
set_option linter.unusedSimpArgs false

/-! ### vint_Reader_Text: function 23 -/
set_option maxHeartbeats 1000000 in
set_option maxRecDepth 100000 in
theorem vint_text_one (s : ByteArray) (b : Nat) (n : Int) (w : World) (hc : w.cell? ⟨b, 0, none⟩ = some (.int .i64 n)) :
    Calls Try.prog 34 #[.string s, .pointer (some ⟨b, 0, none⟩)] w fun e w' =>
      e = .returned (if n < 0 then .tuple #[.string ⟨#[]⟩, .int .i64 0, .bool false] else if n > (s.size : Int) then .tuple #[.string ⟨#[]⟩, .int .i64 0, .bool false] else .tuple #[.string (s.extract 0 n.toNat), .int .i64 n, .bool true]) ∧ Drawn0 w w' := by
  by_cases h0 : n < 0
  · rw [if_pos h0]
    have e0 : decide (n < 0) = true := decide_eq_true h0
    go_enter Try.func34, Try.ntmps34
    go_wp2
    go_ret3
    exact ⟨rfl, by repeat (first | exact Drawn0.refl _ | apply Drawn0.step)⟩
  · rw [if_neg h0]
    have e0 : decide (n < 0) = false := decide_eq_false h0
    have h0' : 0 ≤ n := by omega
    clear h0
    by_cases h1 : n > (s.size : Int)
    · rw [if_pos h1]
      have e1 : decide ((s.size : Int) < n) = true := decide_eq_true h1
      go_enter Try.func34, Try.ntmps34
      go_wp2
      go_ret3
      exact ⟨rfl, by repeat (first | exact Drawn0.refl _ | apply Drawn0.step)⟩
    · rw [if_neg h1]
      have e1 : decide ((s.size : Int) < n) = false := decide_eq_false h1
      have h1' : n ≤ (s.size : Int) := by omega
      clear h1
      go_enter Try.func34, Try.ntmps34
      go_wp2
      go_quiet (fail)
      go_wp2
      go_ret3
      exact ⟨rfl, by repeat (first | exact Drawn0.refl _ | apply Drawn0.step)⟩

def vint_Reader_Text.f (s0_0 : ByteArray) (s0_1 : Bool) (a1 : Int) : Option (ByteArray × ByteArray × Bool) :=
  if s0_1 = true then some (⟨#[]⟩, s0_0, true)
  else if a1 < 0 then some (⟨#[]⟩, s0_0, true)
  else if a1 > (s0_0.size : Int) then some (⟨#[]⟩, s0_0, true)
  else some (s0_0.extract 0 a1.toNat, s0_0.extract a1.toNat s0_0.size, false)
set_option maxHeartbeats 1000000 in
set_option maxRecDepth 100000 in
theorem vint_Reader_Text.calls (g : Nat) (s0_0 : ByteArray) (s0_1 : Bool) (a1 : Int) (r1 : ByteArray) (r2 : ByteArray) (r3 : Bool) (w0 w : World) (hI : IsS66 w0 w g s0_0 s0_1) (hB : Below w0.heap.size w0 w) (h : vint_Reader_Text.f s0_0 s0_1 a1 = some (r1, r2, r3)) :
    Calls Try.prog 23 #[.pointer (some ⟨g, 0, none⟩), .int .i64 a1] w fun e w' => e = .returned (.string r1) ∧ IsS66 w0 w' g r2 r3 ∧ Below w0.heap.size w0 w' ∧ KeepBut w w' g none := by
  have HI := Aside0.mk (hI.alloc (.cells #[.int .i64 a1] 3))
  have HB := Aside0.mk (below_alloc hB (.cells #[.int .i64 a1] 3))
  have HK := Aside0.mk (keep_alloc (KeepBut.refl w g none) (.cells #[.int .i64 a1] 3))
  obtain ⟨HG, hg⟩ := HI.out
  have c0 := cellS66_0 HG
  have c1 := cellS66_1 HG
  have f0 := blk_frozen HG 0
  have f1 := blk_frozen HG 1
  have hlt := hI.lt
  clear HG hg hB hI
  unfold vint_Reader_Text.f at h
  by_cases hb : s0_1 = true
  · subst hb
    simp only [if_true, Option.some.injEq, Prod.mk.injEq] at h
    obtain ⟨rfl, rfl, rfl⟩ := h
    go_enter Try.func23, Try.ntmps23
    go_wp2
    go_ret
    exact ⟨rfl, HI.out, HB.out, HK.out⟩
  · replace hb := Bool.eq_false_iff.mpr hb
    subst hb
    rw [if_neg (by decide)] at h
    by_cases h0 : a1 < 0
    · rw [if_pos h0] at h
      simp only [Option.some.injEq, Prod.mk.injEq] at h
      obtain ⟨rfl, rfl, rfl⟩ := h
      have Ht := Aside0.mk (fun W hW => vint_text_one s0_0 w.heap.size a1 W hW)
      go_enter Try.func23, Try.ntmps23
      go_wp2_with (first | (go_at_call 34; refine (Ht.out _ (by simp)).mono ?_; rintro e w1 ⟨rfl, ⟨q, rfl⟩⟩; rw [if_pos h0]) | go_in)
      go_ret
      exact ⟨rfl, (HI.out.drewN q).set_1 _, below_set (pw_below_drewN HB.out q) (IsS66.ge HI.out), (keep_drewN HK.out q).set_ _ _⟩
    · rw [if_neg h0] at h
      by_cases h1 : a1 > (s0_0.size : Int)
      · rw [if_pos h1] at h
        simp only [Option.some.injEq, Prod.mk.injEq] at h
        obtain ⟨rfl, rfl, rfl⟩ := h
        have Ht := Aside0.mk (fun W hW => vint_text_one s0_0 w.heap.size a1 W hW)
        go_enter Try.func23, Try.ntmps23
        go_wp2_with (first | (go_at_call 34; refine (Ht.out _ (by simp)).mono ?_; rintro e w1 ⟨rfl, ⟨q, rfl⟩⟩; rw [if_neg h0, if_pos h1]) | go_in)
        go_ret
        exact ⟨rfl, (HI.out.drewN q).set_1 _, below_set (pw_below_drewN HB.out q) (IsS66.ge HI.out), (keep_drewN HK.out q).set_ _ _⟩
      · rw [if_neg h1] at h
        simp only [Option.some.injEq, Prod.mk.injEq] at h
        obtain ⟨rfl, rfl, rfl⟩ := h
        have Ht := Aside0.mk (fun W hW => vint_text_one s0_0 w.heap.size a1 W hW)
        have h0' : 0 ≤ a1 := by omega
        have h1' : a1 ≤ (s0_0.size : Int) := by omega
        go_enter Try.func23, Try.ntmps23
        go_wp2_with (first | (go_at_call 34; refine (Ht.out _ (by simp)).mono ?_; rintro e w1 ⟨rfl, ⟨q, rfl⟩⟩; rw [if_neg h0, if_neg h1]) | go_in)
        go_ret
        exact ⟨rfl, (HI.out.drewN q).set_0 _, below_set (pw_below_drewN HB.out q) (IsS66.ge HI.out), (keep_drewN HK.out q).set_ _ _⟩

end Go.Proofs.Ytapdnkmaklpoeaa.PHead
