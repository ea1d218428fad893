import Derived.Test.YtaclccafbdcpoaaProg
import Derived.Below
import Derived.Deep.Draws
import Derived.Deep.AppendLies
import Derived.Maps.AppendAt
import Derived.OwnWalk
import Derived.Laws.BytesArg
import Derived.Laws.MakeOwn
import Derived.Laws.OwnMore
import Derived.Deep.OwnRows
import Derived.Tactics
import Derived.Lib.ConvBytes
import Derived.Laws.Slices
import Derived.WalkKit
import Derived.KernelRfl
import Derived.RowKit3
import Derived.Deep.LoopGhost
import Derived.Deep.QuietTactic
import Derived.BigQuiet
import Derived.WideLaws
import Derived.Deep.DeepCutAuto
import Derived.Deep.CutBlock
import Derived.Deep.RegionHeld3
import Derived.Laws.Rows
import Derived.Lib.AppendStr
import Derived.ArgAppend
import Derived.Laws.IdiomCopy
import Derived.OrdersHeld
import Derived.Laws.BitsLemmas
import Derived.RowKit
import Derived.Test.YtaclccafbdcpoaaWWords
import Derived.Test.YtaclccafbdcpoaaWLast
import Derived.Test.YtaclccafbdcpoaaWMore
import Derived.Test.YtaclccafbdcpoaaVr
import Derived.Deep.RegionHeld3
import Derived.LoopTactic
import Derived.Test.YtaclccafbdcpoaaPb
import Derived.Test.YtaclccafbdcpoaaPVintx3
import Derived.Test.YtaclccafbdcpoaaPVintx5
import Derived.Test.YtaclccafbdcpoaaPVintx7
import Derived.Test.YtaclccafbdcpoaaPVintx8
import Derived.Test.YtaclccafbdcpoaaPVintx10
import Derived.Test.YtaclccafbdcpoaaPVintx9
import Derived.Test.YtaclccafbdcpoaaPVintx18
import Derived.Test.YtaclccafbdcpoaaPVintx14
import Derived.Test.YtaclccafbdcpoaaPVintx15
import Derived.Test.YtaclccafbdcpoaaPVintx16
import Derived.Test.YtaclccafbdcpoaaPVintx17
import Derived.Test.YtaclccafbdcpoaaPVintx11
namespace Go.Proofs.Ytaclccafbdcpoaa.Vw
open Go.RowKit Go.Proofs.YtaclccafbdcpoaaW.PrintWords Go.Proofs.YtaclccafbdcpoaaW.PrintLast Go.Proofs.YtaclccafbdcpoaaW.PrintMore Go.Proofs.Ytaclccafbdcpoaa.PVint
open Go.Proofs.Ytaclccafbdcpoaa.Vm (enc get_f getR getR_cases ref_get_f awake_f)
open Go.Proofs.Ytaclccafbdcpoaa.Pb (bind_eq ite_yes ite_no size_ext tl_nil)
set_option linter.unusedVariables false
set_option linter.unusedSimpArgs false
/-- What a reader tells, and what is left. -/
def numR (s : ByteArray) (b : Bool) : Int × ByteArray × Bool := if b = true then (0, s, true) else if (getR s).2.2 = 0 then ((getR s).1, s.extract ((getR s).2.1).toNat s.size, false) else (0, s, true)
def textR (s : ByteArray) (b : Bool) (n : Int) : ByteArray × ByteArray × Bool := if b = true then (⟨#[]⟩, s, true) else if n < 0 ∨ n > (s.size : Int) then (⟨#[]⟩, s, true) else (s.extract 0 n.toNat, s.extract n.toNat s.size, false)
def longR (s : ByteArray) (b : Bool) : ByteArray × ByteArray × Bool := textR (numR s b).2.1 (numR s b).2.2 (numR s b).1
def leftR (s : ByteArray) (b : Bool) : Int := if b = true then 0 else (s.size : Int)
def doneR (s : ByteArray) (b : Bool) : Bool := if b = true then false else s.toList == ([] : List UInt8)
theorem nf : ¬ (false = true) := by decide
theorem getR_used (s : ByteArray) (h : (getR s).2.2 = 0) : 0 ≤ (getR s).2.1 ∧ (getR s).2.1 ≤ (s.size : Int) := by
  rcases getR_cases s with e | ⟨m, rest, hm, hb, e⟩
  · rw [e] at h; exact absurd h (by decide)
  · rw [e]
    have := congrArg List.length hb
    rw [bytesOf_length, List.length_append] at this
    show (0 : Int) ≤ ((enc m).length : Int) ∧ ((enc m).length : Int) ≤ (s.size : Int)
    omega
theorem num_v (s : ByteArray) (b : Bool) : vint_Reader_Number.f 80 s b = some (numR s b) := by
  unfold vint_Reader_Number.f numR
  cases b with
  | true => exact ite_yes rfl rfl
  | false =>
    simp only [Bool.false_eq_true, if_false]
    refine (bind_eq (get_f s 80 (by decide)) ?_)
    by_cases h : (getR s).2.2 = 0
    · obtain ⟨h0, h1⟩ := getR_used s h
      simp only [if_pos h, if_pos h0, if_pos h1]
    · simp only [if_neg h]
theorem num_r (s : ByteArray) (b : Bool) (hs : s.size ≤ 3000) : hamperref18_Reader_Number.f 80 s b = some (numR s b) := by
  unfold hamperref18_Reader_Number.f numR
  refine bind_eq (ref_get_f s (by omega) 80 (by decide)) ?_
  cases b with
  | true => exact ite_yes rfl rfl
  | false =>
    simp only [Bool.false_eq_true, if_false]
    by_cases h : (getR s).2.2 = 0
    · obtain ⟨h0, h1⟩ := getR_used s h
      simp only [if_pos h, if_pos h0, if_pos h1]
    · simp only [if_neg h]
theorem text_v (s : ByteArray) (b : Bool) (n : Int) : vint_Reader_Text.f s b n = some (textR s b n) := by
  unfold vint_Reader_Text.f textR
  cases b with
  | true => exact ite_yes rfl rfl
  | false =>
    simp only [Bool.false_eq_true, if_false]
    by_cases h0 : n < 0
    · simp only [if_pos h0, if_pos (show n < 0 ∨ n > (s.size : Int) from .inl h0)]
    · by_cases h1 : n > (s.size : Int)
      · simp only [if_neg h0, if_pos h1, if_pos (show n < 0 ∨ n > (s.size : Int) from .inr h1)]
      · simp only [if_neg h0, if_neg h1, if_neg (show ¬ (n < 0 ∨ n > (s.size : Int)) by omega)]
theorem text_r (s : ByteArray) (b : Bool) (n : Int) : hamperref18_Reader_Text.f s b n = some (textR s b n) := by
  unfold hamperref18_Reader_Text.f textR
  cases b with
  | true => exact ite_yes rfl rfl
  | false =>
    simp only [Bool.false_eq_true, if_false]
    by_cases h0 : n < 0
    · simp only [if_pos h0, if_pos (show n < 0 ∨ n > (s.size : Int) from .inl h0)]
    · by_cases h1 : n > (s.size : Int)
      · simp only [if_neg h0, if_pos h1, if_pos (show n < 0 ∨ n > (s.size : Int) from .inr h1)]
      · simp only [if_neg h0, if_neg h1, if_neg (show ¬ (n < 0 ∨ n > (s.size : Int)) by omega), if_pos (show 0 ≤ n by omega), if_pos (show n ≤ (s.size : Int) by omega)]
theorem long_v (s : ByteArray) (b : Bool) : vint_Reader_Long.f 80 s b = some (longR s b) := by
  unfold vint_Reader_Long.f longR
  exact bind_eq (num_v s b) (bind_eq (text_v _ _ _) rfl)
theorem long_r (s : ByteArray) (b : Bool) (hs : s.size ≤ 3000) : hamperref18_Reader_Long.f 80 s b = some (longR s b) := by
  unfold hamperref18_Reader_Long.f longR
  refine bind_eq (num_r s b hs) ?_
  by_cases h : (numR s b).2.2 = true
  · refine ite_yes h ?_
    unfold textR
    rw [if_pos h, h]
  · exact ite_no h (bind_eq (text_r _ _ _) rfl)
theorem left_v (s : ByteArray) (b : Bool) : vint_Reader_Left.f s b = some (leftR s b, s, b) := by cases b <;> rfl
theorem left_r (s : ByteArray) (b : Bool) : hamperref18_Reader_Left.f s b = some (leftR s b, s, b) := by cases b <;> rfl
theorem good_v (s : ByteArray) (b : Bool) : vint_Reader_Good.f s b = some (!b, s, b) := rfl
theorem done_v (s : ByteArray) (b : Bool) : vint_Reader_Done.f s b = some (doneR s b, s, b) := by cases b <;> rfl
theorem num_size (s : ByteArray) (b : Bool) : (numR s b).2.1.size ≤ s.size := by
  unfold numR
  split
  · exact Nat.le_refl _
  · split
    · rw [size_ext _ _ _ (Nat.le_refl _)]; omega
    · exact Nat.le_refl _
theorem text_size (s : ByteArray) (b : Bool) (n : Int) : (textR s b n).2.1.size ≤ s.size := by
  unfold textR
  split
  · exact Nat.le_refl _
  · split
    · exact Nat.le_refl _
    · rw [size_ext _ _ _ (Nat.le_refl _)]; omega
theorem long_size (s : ByteArray) (b : Bool) : (longR s b).2.1.size ≤ s.size := Nat.le_trans (text_size _ _ _) (num_size s b)
/-- The two readers. -/
structure Two (w W : World) (g x : Nat) (S : ByteArray) (b : Bool) (S' : ByteArray) (b' : Bool) : Prop where
  hg : IsS47 w W g S b
  hx : IsS36 w W x S' b'
  bel : Below w.heap.size w W
theorem Two.ne {w W : World} {g x : Nat} {S S' : ByteArray} {b b' : Bool} (h : Two w W g x S b S' b') : g ≠ x := h.hg.ne_blk h.hx.1 (by decide)
theorem Two.c0 {w W : World} {g x : Nat} {S S' : ByteArray} {b b' : Bool} (h : Two w W g x S b S' b') : W.cell? ⟨x, 0, none⟩ = some (.string S') := (blk_cell h.hx.1 0).trans rfl
theorem Two.c1 {w W : World} {g x : Nat} {S S' : ByteArray} {b b' : Bool} (h : Two w W g x S b S' b') : W.cell? ⟨x, 1, none⟩ = some (.bool b') := (blk_cell h.hx.1 1).trans rfl
theorem Two.atg {w W W1 : World} {g x : Nat} {S S' T : ByteArray} {b b' c : Bool} (h : Two w W g x S b S' b') (h1 : IsS47 w W1 g T c) (hb : Below w.heap.size w W1) (hk : KeepBut W W1 g none) : Two w W1 g x T c S' b' :=
  ⟨h1, ⟨(hk.2 x h.hx.lt (Ne.symm h.ne) (by simp)).trans h.hx.1, h.hx.2⟩, hb⟩
theorem Two.atx {w W W1 : World} {g x : Nat} {S S' T : ByteArray} {b b' c : Bool} (h : Two w W g x S b S' b') (h1 : IsS36 w W1 x T c) (hb : Below w.heap.size w W1) (hk : KeepBut W W1 x none) : Two w W1 g x S b T c :=
  ⟨⟨(hk.2 g h.hg.lt h.ne (by simp)).trans h.hg.1, h.hg.2⟩, h1, hb⟩
section
variable {w W : World} {g x : Nat} {S S' : ByteArray} {b b' : Bool}
theorem cNum (h : Two w W g x S b S' b') : Calls Try.prog 16 #[.pointer (some ⟨g, 0, none⟩)] W fun e W' => e = .returned (.int .i64 (numR S b).1) ∧ Two w W' g x (numR S b).2.1 (numR S b).2.2 S' b' :=
  (vint_Reader_Number.calls 80 g S b _ _ _ w W h.hg h.bel (num_v S b)).mono fun _ _ ⟨he, h1, h2, h3⟩ => ⟨he, h.atg h1 h2 h3⟩
theorem cNumR (h : Two w W g x S b S' b') (hs : S'.size ≤ 3000) : Calls Try.prog 17 #[.pointer (some ⟨x, 0, none⟩)] W fun e W' => e = .returned (.int .i64 (numR S' b').1) ∧ Two w W' g x S b (numR S' b').2.1 (numR S' b').2.2 :=
  (hamperref18_Reader_Number.calls 80 x S' b' _ _ _ w W h.hx h.bel (num_r S' b' hs)).mono fun _ _ ⟨he, h1, h2, h3⟩ => ⟨he, h.atx h1 h2 h3⟩
theorem cText (n : Int) (h : Two w W g x S b S' b') : Calls Try.prog 20 #[.pointer (some ⟨g, 0, none⟩), .int .i64 n] W fun e W' => e = .returned (.string (textR S b n).1) ∧ Two w W' g x (textR S b n).2.1 (textR S b n).2.2 S' b' :=
  (vint_Reader_Text.calls g S b n _ _ _ w W h.hg h.bel (text_v S b n)).mono fun _ _ ⟨he, h1, h2, h3⟩ => ⟨he, h.atg h1 h2 h3⟩
theorem cTextR (n : Int) (h : Two w W g x S b S' b') : Calls Try.prog 21 #[.pointer (some ⟨x, 0, none⟩), .int .i64 n] W fun e W' => e = .returned (.string (textR S' b' n).1) ∧ Two w W' g x S b (textR S' b' n).2.1 (textR S' b' n).2.2 :=
  (hamperref18_Reader_Text.calls x S' b' n _ _ _ w W h.hx h.bel (text_r S' b' n)).mono fun _ _ ⟨he, h1, h2, h3⟩ => ⟨he, h.atx h1 h2 h3⟩
theorem cLong (h : Two w W g x S b S' b') : Calls Try.prog 18 #[.pointer (some ⟨g, 0, none⟩)] W fun e W' => e = .returned (.string (longR S b).1) ∧ Two w W' g x (longR S b).2.1 (longR S b).2.2 S' b' :=
  (vint_Reader_Long.calls 80 g S b _ _ _ w W h.hg h.bel (long_v S b)).mono fun _ _ ⟨he, h1, h2, h3⟩ => ⟨he, h.atg h1 h2 h3⟩
theorem cLongR (h : Two w W g x S b S' b') (hs : S'.size ≤ 3000) : Calls Try.prog 19 #[.pointer (some ⟨x, 0, none⟩)] W fun e W' => e = .returned (.string (longR S' b').1) ∧ Two w W' g x S b (longR S' b').2.1 (longR S' b').2.2 :=
  (hamperref18_Reader_Long.calls 80 x S' b' _ _ _ w W h.hx h.bel (long_r S' b' hs)).mono fun _ _ ⟨he, h1, h2, h3⟩ => ⟨he, h.atx h1 h2 h3⟩
theorem cLeft (h : Two w W g x S b S' b') : Calls Try.prog 22 #[.pointer (some ⟨g, 0, none⟩)] W fun e W' => e = .returned (.int .i64 (leftR S b)) ∧ Two w W' g x S b S' b' :=
  (vint_Reader_Left.calls g S b _ _ _ w W h.hg h.bel (left_v S b)).mono fun _ _ ⟨he, h1, h2, h3⟩ => ⟨he, h.atg h1 h2 h3⟩
theorem cLeftR (h : Two w W g x S b S' b') : Calls Try.prog 23 #[.pointer (some ⟨x, 0, none⟩)] W fun e W' => e = .returned (.int .i64 (leftR S' b')) ∧ Two w W' g x S b S' b' :=
  (hamperref18_Reader_Left.calls x S' b' _ _ _ w W h.hx h.bel (left_r S' b')).mono fun _ _ ⟨he, h1, h2, h3⟩ => ⟨he, h.atx h1 h2 h3⟩
theorem cGood (h : Two w W g x S b S' b') : Calls Try.prog 24 #[.pointer (some ⟨g, 0, none⟩)] W fun e W' => e = .returned (.bool (!b)) ∧ Two w W' g x S b S' b' :=
  (vint_Reader_Good.calls g S b _ _ _ w W h.hg h.bel (good_v S b)).mono fun _ _ ⟨he, h1, h2, h3⟩ => ⟨he, h.atg h1 h2 h3⟩
theorem cDone (h : Two w W g x S b S' b') : Calls Try.prog 25 #[.pointer (some ⟨g, 0, none⟩)] W fun e W' => e = .returned (.bool (doneR S b)) ∧ Two w W' g x S b S' b' :=
  (vint_Reader_Done.calls g S b _ _ _ w W h.hg h.bel (done_v S b)).mono fun _ _ ⟨he, h1, h2, h3⟩ => ⟨he, h.atg h1 h2 h3⟩
end
theorem awake_calls (w : World) : Calls Try.prog 10 #[] w fun e w' => e = .returned (.bool true) ∧ Below w.heap.size w w' := hamperlaw18_awake.calls 30 true w (awake_f 30 (by decide))
end Go.Proofs.Ytaclccafbdcpoaa.Vw
