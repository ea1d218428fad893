/- The matcher's key and alike: what they tell. -/
import Derived.Test.YtaooiffnpnmdeaaProg
import Derived.Below
import Derived.Deep.Draws
import Derived.Deep.AppendLies
import Derived.Maps.AppendAt
import Derived.OwnWalk
import Derived.Laws.BytesArg
import Derived.Laws.MakeOwn
import Derived.Laws.OwnMore
import Derived.Deep.OwnRows
import Derived.Tactics
import Derived.Lib.ConvBytes
import Derived.Laws.Slices
import Derived.WalkKit
import Derived.KernelRfl
import Derived.RowKit3
import Derived.Deep.LoopGhost
import Derived.Deep.QuietTactic
import Derived.BigQuiet
import Derived.WideLaws
import Derived.Deep.DeepCutAuto
import Derived.Deep.CutBlock
import Derived.Deep.RegionHeld3
import Derived.Laws.Rows
import Derived.Lib.AppendStr
import Derived.ArgAppend
import Derived.Laws.IdiomCopy
import Derived.OrdersHeld
import Derived.Laws.BitsLemmas
import Derived.RowKit
import Derived.Test.YtaooiffnpnmdeaaWWords
import Derived.Test.YtaooiffnpnmdeaaWLast
import Derived.Test.YtaooiffnpnmdeaaWMore
import Derived.LoopTactic
import Derived.Outline
import Derived.IntWalk
namespace Go.Proofs.Ytaooiffnpnmdeaa.Mt
open Go.RowKit Go.Proofs.YtaooiffnpnmdeaaW.PrintWords Go.Proofs.YtaooiffnpnmdeaaW.PrintLast Go.Proofs.YtaooiffnpnmdeaaW.PrintMore
set_option linter.unusedVariables false
set_option linter.unusedSimpArgs false
/-- Are the bytes at two places the same? -/
def same (s : ByteArray) (i j : Nat) : Bool := s.data[i]? == s.data[j]?
/-- How many bytes are the same, from k on, at a place and d ahead of it. -/
def mlen (s : ByteArray) (at_ d : Nat) : Nat → Nat → Nat
  | 0, k => k
  | f + 1, k => if at_ + k < s.size ∧ same s (at_ + k) (at_ + k - d) = true then mlen s at_ d f (k + 1) else k
def ml (s : ByteArray) (at_ d : Nat) : Nat := mlen s at_ d 258 0
theorem mlen_le (s : ByteArray) (at_ d : Nat) : ∀ f k, mlen s at_ d f k ≤ f + k
  | 0, k => by rw [mlen]; omega
  | f + 1, k => by
    rw [mlen]
    split
    · have := mlen_le s at_ d f (k + 1); omega
    · omega
theorem ml_le (s : ByteArray) (at_ d : Nat) : ml s at_ d ≤ 258 := mlen_le s at_ d 258 0
theorem key_calls (g p : Nat) (s : ByteArray) (w : World) (hp : p + 3 ≤ s.size) (hs : s.size ≤ 100000) (hc : w.cell? ⟨g, 0, none⟩ = some (.string s)) :
    Calls Try.prog 31 #[.pointer (some ⟨g, 0, none⟩), .int .i64 (p : Int)] w fun e w' => e = .returned (.string (s.extract p (p + 3))) ∧ w = w' := by
  have h0 : (0 : Int) ≤ (p : Int) := by omega
  have h1 : (p : Int) ≤ 100000 := by omega
  have h2 : (p : Int) + 3 ≤ (s.size : Int) := by omega
  have h4 : (p : Int) ≤ (p : Int) + 3 := by omega
  have h3 : p + 3 ≤ s.size := hp
  go_enter Try.func31, Try.ntmps31
  go_wp2_with fail
  go_ret
  exact ⟨rfl, rfl⟩
theorem same_iff {s : ByteArray} {i j : Nat} (hi : i < s.size) (hj : j < s.size) : same s i j = (s[i] == s[j]) := by
  unfold same
  rw [Array.getElem?_eq_getElem (show i < s.data.size from hi), Array.getElem?_eq_getElem (show j < s.data.size from hj)]
  rfl
theorem mlen_step (s : ByteArray) (p q k : Nat) (hi : p + k < s.size) (hj : q + k < s.size) (hq : q < p) (hk : k < 258) : (s[p + k] = s[q + k] → mlen s p (p - q) (258 - k) k = mlen s p (p - q) (258 - (k + 1)) (k + 1)) ∧ (s[p + k] ≠ s[q + k] → mlen s p (p - q) (258 - k) k = k) := by
  have e : 258 - k = (258 - (k + 1)) + 1 := by omega
  have e2 : p + k - (p - q) = q + k := by omega
  have h : same s (p + k) (p + k - (p - q)) = (s[p + k] == s[q + k]) := by rw [e2]; exact same_iff hi hj
  constructor
  · intro h1
    rw [e, mlen, if_pos ⟨hi, by rw [h, h1]; exact beq_self_eq_true _⟩]
  · intro h1
    rw [e, mlen, if_neg fun h2 => h1 (by have := h2.2; rw [h] at this; exact eq_of_beq this)]
theorem mlen_end (s : ByteArray) (p d k : Nat) (h : 258 ≤ k ∨ ¬ p + k < s.size) : mlen s p d (258 - k) k = k := by
  by_cases h1 : 258 ≤ k
  · rw [show 258 - k = 0 by omega, mlen]
  · rw [show 258 - k = (258 - (k + 1)) + 1 by omega, mlen, if_neg fun h2 => (h.resolve_left h1) h2.1]
set_option maxHeartbeats 4000000 in
theorem alike_calls (g p q : Nat) (s : ByteArray) (w : World) (hp : p ≤ s.size) (hq : q < p) (hs : s.size ≤ 100000) (hc : w.cell? ⟨g, 0, none⟩ = some (.string s)) :
    Calls Try.prog 29 #[.pointer (some ⟨g, 0, none⟩), .int .i64 (p : Int), .int .i64 (q : Int)] w fun e w' => e = .returned (.int .i64 (ml s p (p - q) : Nat)) ∧ ∃ n, w' = w.drewN n := by
  have h1 : (p : Int) ≤ 100000 := by omega
  have h2 : (p : Int) ≤ (s.size : Int) := by omega
  have h3 : (s.size : Int) ≤ 100000 := by omega
  by_cases hm : (258 : Int) ≤ (s.size : Int) - (p : Int)
  · go_enter Try.func29, Try.ntmps29
    go_wp2_with fail
    go_loopw [8] (fun v wr => ∃ k nq : Nat, v = .int .i64 (k : Int) ∧ k ≤ 258 ∧ k ≤ s.size - p ∧ Aside0 (mlen s p (p - q) (258 - k) k = ml s p (p - q)) ∧ Aside0 (wr = w.drewN nq)) (fun v _ => 258 - (intOf v).toNat)
    case atStart => exact ⟨0, 0, rfl, by decide, Nat.zero_le _, ⟨rfl⟩, ⟨rfl⟩⟩
    case round =>
      obtain ⟨k, nq, rfl, hk, hk2, HM, HW⟩ := hrel
      obtain rfl := HW.out
      have hc' : (w.drewN nq).cell? ⟨g, 0, none⟩ = some (.string s) := hc
      by_cases hlt : k < 258
      · have d1 : decide ((k : Int) < 258) = true := decide_eq_true (by omega)
        have hi : p + k < s.size := by omega
        have hj : q + k < s.size := by omega
        have n1 : IntKind.i64.wrap ((p : Int) + (k : Int)) = (p : Int) + (k : Int) := IntWalk.i64_in _ (by omega)
        have n2 : IntKind.i64.wrap ((q : Int) + (k : Int)) = (q : Int) + (k : Int) := IntWalk.i64_in _ (by omega)
        have n3 : ((p : Int) + (k : Int)).toNat = p + k := by omega
        have n4 : ((q : Int) + (k : Int)).toNat = q + k := by omega
        have b1 : (0 : Int) ≤ (p : Int) + (k : Int) := by omega
        have b2 : (p : Int) + (k : Int) < (s.size : Int) := by omega
        have b3 : (0 : Int) ≤ (q : Int) + (k : Int) := by omega
        have b4 : (q : Int) + (k : Int) < (s.size : Int) := by omega
        have hstep := mlen_step s p q k hi hj hq (by omega)
        have HS := Aside0.mk hstep
        clear hstep
        by_cases hse : s[p + k] = s[q + k]
        · have e1 : ((s[p + k].toNat : Int) == (s[q + k].toNat : Int)) = true := by rw [hse]; exact beq_self_eq_true _
          have HE := Aside0.mk hse
          clear hse
          go_wp2_with fail
          go_quiet (fail)
          go_wp2_with fail
          go_roundw
          case rel => exact ⟨k + 1, _, by go_num, by omega, by omega, ⟨by have e := HS.out.1 HE.out; rw [HM.out] at e; exact e.symm⟩, ⟨rfl⟩⟩
          case measure => simp [intOf]; omega
        · have e1 : ((s[p + k].toNat : Int) == (s[q + k].toNat : Int)) = false := beq_eq_false_iff_ne.mpr fun e => hse (UInt8.toNat_inj.1 (by omega))
          have HE := Aside0.mk hse
          clear hse
          go_wp2_with fail
          go_quiet (fail)
          go_wp2_with fail
          go_ret
          exact ⟨congrArg (fun (n : Nat) => Ending.returned (.int .i64 (n : Int))) (HM.out.symm.trans (HS.out.2 HE.out)).symm, _, World.drewN_drewN _ _ _⟩
      · have d1 : decide ((k : Int) < 258) = false := decide_eq_false (by omega)
        have HS := Aside0.mk (mlen_end s p (p - q) k (by omega))
        go_wp2_with fail
        go_quiet (fail)
        go_wp2_with fail
        go_ret
        exact ⟨congrArg (fun (n : Nat) => Ending.returned (.int .i64 (n : Int))) (HM.out.symm.trans HS.out).symm, _, World.drewN_drewN _ _ _⟩
  · go_enter Try.func29, Try.ntmps29
    go_wp2_with fail
    go_loopw [8] (fun v wr => ∃ k nq : Nat, v = .int .i64 (k : Int) ∧ k ≤ 258 ∧ k ≤ s.size - p ∧ Aside0 (mlen s p (p - q) (258 - k) k = ml s p (p - q)) ∧ Aside0 (wr = w.drewN nq)) (fun v _ => 258 - (intOf v).toNat)
    case atStart => exact ⟨0, 0, rfl, by decide, Nat.zero_le _, ⟨rfl⟩, ⟨rfl⟩⟩
    case round =>
      obtain ⟨k, nq, rfl, hk, hk2, HM, HW⟩ := hrel
      obtain rfl := HW.out
      have hc' : (w.drewN nq).cell? ⟨g, 0, none⟩ = some (.string s) := hc
      by_cases hlt : k < s.size - p
      · have d1 : decide ((k : Int) < (s.size : Int) - (p : Int)) = true := decide_eq_true (by omega)
        have hi : p + k < s.size := by omega
        have hj : q + k < s.size := by omega
        have n1 : IntKind.i64.wrap ((p : Int) + (k : Int)) = (p : Int) + (k : Int) := IntWalk.i64_in _ (by omega)
        have n2 : IntKind.i64.wrap ((q : Int) + (k : Int)) = (q : Int) + (k : Int) := IntWalk.i64_in _ (by omega)
        have n3 : ((p : Int) + (k : Int)).toNat = p + k := by omega
        have n4 : ((q : Int) + (k : Int)).toNat = q + k := by omega
        have b1 : (0 : Int) ≤ (p : Int) + (k : Int) := by omega
        have b2 : (p : Int) + (k : Int) < (s.size : Int) := by omega
        have b3 : (0 : Int) ≤ (q : Int) + (k : Int) := by omega
        have b4 : (q : Int) + (k : Int) < (s.size : Int) := by omega
        have hstep := mlen_step s p q k hi hj hq (by omega)
        have HS := Aside0.mk hstep
        clear hstep
        by_cases hse : s[p + k] = s[q + k]
        · have e1 : ((s[p + k].toNat : Int) == (s[q + k].toNat : Int)) = true := by rw [hse]; exact beq_self_eq_true _
          have HE := Aside0.mk hse
          clear hse
          go_wp2_with fail
          go_quiet (fail)
          go_wp2_with fail
          go_roundw
          case rel => exact ⟨k + 1, _, by go_num, by omega, by omega, ⟨by have e := HS.out.1 HE.out; rw [HM.out] at e; exact e.symm⟩, ⟨rfl⟩⟩
          case measure => simp [intOf]; omega
        · have e1 : ((s[p + k].toNat : Int) == (s[q + k].toNat : Int)) = false := beq_eq_false_iff_ne.mpr fun e => hse (UInt8.toNat_inj.1 (by omega))
          have HE := Aside0.mk hse
          clear hse
          go_wp2_with fail
          go_quiet (fail)
          go_wp2_with fail
          go_ret
          exact ⟨congrArg (fun (n : Nat) => Ending.returned (.int .i64 (n : Int))) (HM.out.symm.trans (HS.out.2 HE.out)).symm, _, World.drewN_drewN _ _ _⟩
      · have d1 : decide ((k : Int) < (s.size : Int) - (p : Int)) = false := decide_eq_false (by omega)
        have HS := Aside0.mk (mlen_end s p (p - q) k (by omega))
        go_wp2_with fail
        go_quiet (fail)
        go_wp2_with fail
        go_ret
        exact ⟨congrArg (fun (n : Nat) => Ending.returned (.int .i64 (n : Int))) (HM.out.symm.trans HS.out).symm, _, World.drewN_drewN _ _ _⟩
end Go.Proofs.Ytaooiffnpnmdeaa.Mt
