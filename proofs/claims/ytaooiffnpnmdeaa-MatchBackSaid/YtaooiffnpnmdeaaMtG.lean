/- match.Longest: what it tells. -/
import Derived.Test.YtaooiffnpnmdeaaMtP
namespace Go.Proofs.Ytaooiffnpnmdeaa.Mt
open Go.RowKit Go.Proofs.YtaooiffnpnmdeaaW.PrintWords Go.Proofs.YtaooiffnpnmdeaaW.PrintLast Go.Proofs.YtaooiffnpnmdeaaW.PrintMore
open Go.Maps Go.MapKept Go.ChangeShapes
set_option linter.unusedVariables false
set_option linter.unusedSimpArgs false
/-- A finder is made. -/
theorem FS.made (w : World) (s : ByteArray) : FS ((w.alloc (.map #[] 0)).alloc (.cells #[.string s, .map (some w.heap.size), .int .i64 0] 48)) (w.heap.size + 1) w.heap.size s 0 0 (fun k => k < w.heap.size) := by
  have hb := blk_new (w.alloc (.map #[] 0)) (.cells #[.string s, .map (some w.heap.size), .int .i64 0] 48)
  rw [World.size_alloc] at hb
  have hg := World.grownBy_alloc (w.alloc (.map #[] 0)) (.cells #[.string s, .map (some w.heap.size), .int .i64 0] 48) none
  refine ⟨hb, ⟨0, .map [], Nat.le_refl _, groups_kept (World.ownsGroups_made w Try.prog 9 3 .i64) hg (by simp) (fun es clock hb x hx => ?_), PD_empty s⟩, (shuns_made w _).kept hg (by simp) (by simp), fun k hk => ⟨by simp; omega, by omega, by omega⟩, by omega⟩
  rw [(MapKept.heap_alloc w _).1] at hb
  cases hb
  simp at hx
theorem Keep.toBelow {B : Nat} {W W' : World} (h : Keep (fun k => k < B) W W') : Below B W W' := ⟨h.os, h.tape, h.output, h.size, h.keep⟩
/-- longest, whatever the finder knows: the document's longest match. -/
theorem longest_long (g mb p known : Nat) (s : ByteArray) (No : Nat → Prop) (w : World) (hF : FS w g mb s known known No) (hs : s.size ≤ 90000) (hp : p ≤ 90000) (hkb : known ≤ 90000) :
    Calls Try.prog 23 #[.pointer (some ⟨g, 0, none⟩), .int .i64 (p : Int)] w fun e w' => e = .returned (.tuple #[.int .i64 ((longS s p).1 : Int), .int .i64 ((longS s p).2 : Int)]) ∧ ∃ kn, kn ≤ 90000 ∧ FS w' g mb s kn kn No ∧ Keep No w w' := by
  refine (longest_calls g mb p known s No w hF hs hp hkb).mono ?_
  rintro e w' ⟨kn, r, rfl, h1, h2, h3, h4, h5⟩
  have : r = longS s p := by
    by_cases hle : p + 3 ≤ s.size
    · rw [(h5 hle).2, scan_long hle (h5 hle).1]
    · rw [h4 (by omega), longS_short (by omega)]
  subst this
  exact ⟨rfl, kn, h1, h2, h3⟩
def longZ (s : ByteArray) (x : Int) : Nat × Nat := if 0 ≤ x then longS s x.toNat else (0, 0)
set_option maxHeartbeats 1000000 in
theorem Longest_walk (s : ByteArray) (x : Int) (w : World) (hs : s.size ≤ 90000) :
    Calls Try.prog 16 #[.string s, .int .i64 x] w fun e w' => e = .returned (.tuple #[.int .i64 ((longZ s x).1 : Int), .int .i64 ((longZ s x).2 : Int)]) ∧ Below w.heap.size w w' := by
  have hmm := @run_makeMap Try.prog
  by_cases h0 : x < 0
  · have e : longZ s x = (0, 0) := by unfold longZ; rw [if_neg (by omega)]
    rw [e]
    have d1 : decide (x < 0) = true := decide_eq_true h0
    go_enter Try.func16, Try.ntmps16
    go_wp2_with fail
    go_ret2
    exact ⟨rfl, Below.refl _ _⟩
  · have d1 : decide (x < 0) = false := decide_eq_false h0
    obtain ⟨p, rfl⟩ : ∃ p : Nat, x = (p : Int) := ⟨x.toNat, by omega⟩
    have e : longZ s (p : Int) = longS s p := by unfold longZ; rw [if_pos (by omega), Int.toNat_natCast]
    rw [e]
    by_cases h1 : s.size ≤ p
    · have e : longS s p = (0, 0) := by unfold longS; rw [if_neg (by omega)]
      rw [e]
      have d2 : decide (s.size ≤ p) = true := decide_eq_true h1
      have d3 : decide (p < s.size) = false := decide_eq_false (by omega)
      go_enter Try.func16, Try.ntmps16
      go_wp2_with fail
      go_ret2
      exact ⟨rfl, Below.refl _ _⟩
    · have d2 : decide (s.size ≤ p) = false := decide_eq_false h1
      have d3 : decide (p < s.size) = true := decide_eq_true (by omega)
      have HF := Aside0.mk (FS.made w s)
      go_enter Try.func16, Try.ntmps16
      go_wp2_with fail
      refine (longest_long _ _ p 0 s _ _ HF.out hs (by omega) (by omega)).mono ?_
      rintro e w' ⟨rfl, kn, h1, h2, h3⟩
      have HB := Aside0.mk ((below_alloc (below_alloc (Below.refl w.heap.size w) (.map #[] 0)) (.cells #[.string s, .map (some w.heap.size), .int .i64 0] 48)).trans h3.toBelow)
      clear h1 h2 h3 HF
      go_wp2_with fail
      go_ret2
      exact ⟨rfl, HB.out⟩
end Go.Proofs.Ytaooiffnpnmdeaa.Mt
