/- Plain laws of the readers of layer 18: what the contracts of vint.Reader tell, in words of lists. -/
import Derived.Test.YtapdnkmaklpoeaaVm
import Derived.Test.YtapdnkmaklpoeaaPTellx19
namespace Go.Proofs.Ytapdnkmaklpoeaa.Vm
open Go.RowKit Go.Proofs.Ytapdnkmaklpoeaa.PTell Go.Proofs.YtapdnkmaklpoeaaW.PrintWords Go.Proofs.YtapdnkmaklpoeaaW.PrintLast Go.Proofs.YtapdnkmaklpoeaaW.PrintMore

theorem tl_iff {a b : ByteArray} : a.toList = b.toList ↔ bytesOf a = bytesOf b := by
  rw [ByteArray.toList_eq, ByteArray.toList_eq]
  constructor
  · intro h; unfold bytesOf; rw [h]
  · intro h; rw [bytesOf_inj h]
theorem tl_ne (a b : ByteArray) : (a.toList != b.toList) = decide (bytesOf a ≠ bytesOf b) := by
  by_cases h : bytesOf a = bytesOf b
  · rw [bytesOf_inj h]; simp
  · have := mt tl_iff.mp h
    simp [h, this]
theorem tl_nil (a : ByteArray) : a.toList = ([] : List UInt8) ↔ bytesOf a = [] := by
  rw [ByteArray.toList_eq]; unfold bytesOf; simp
theorem putR_ok {m : Nat} (h : m ≤ 4611686018427387903) : putR (m : Int) = (strOfNums (enc m), 0) := by unfold putR; rw [if_neg (by omega)]; simp
theorem putR_no {n : Int} (h : n < 0 ∨ n > 4611686018427387903) : putR n = (⟨#[]⟩, 1) := by unfold putR; rw [if_pos h]

/-- A call whose answer is known: never by simp where a test on wrapped numbers follows (the kernel then unfolds the test). -/
theorem bind_eq {α β : Type} {o : Option α} {a : α} {f : α → Option β} {r : Option β} (h : o = some a) (h2 : f a = r) : o.bind f = r := by rw [h]; exact h2
theorem ite_yes {α : Type} {c : Prop} [Decidable c] {a b r : α} (h : c) (h2 : a = r) : (if c then a else b) = r := by rw [if_pos h]; exact h2
theorem ite_no {α : Type} {c : Prop} [Decidable c] {a b r : α} (h : ¬ c) (h2 : b = r) : (if c then a else b) = r := by rw [if_neg h]; exact h2
theorem left_f (s : ByteArray) : vint_Reader_Left.f s false = some ((s.size : Int), s, false) := by simp [vint_Reader_Left.f, vint_Reader_Good.f]
theorem good_f (s : ByteArray) (b : Bool) : vint_Reader_Good.f s b = some (!b, s, b) := rfl
theorem text_f (s : ByteArray) (q : Nat) (hq : q ≤ s.size) : vint_Reader_Text.f s false (q : Int) = some (s.extract 0 q, s.extract q s.size, false) := by
  unfold vint_Reader_Text.f
  rw [if_neg (by simp), if_neg (by omega), if_neg (by omega), Int.toNat_natCast]
theorem bytes_rest (s : ByteArray) (a b : List Int) (h : bytesOf s = a ++ b) : bytesOf (s.extract a.length s.size) = b := by
  rw [bytesOf_extract, ← bytesOf_length, List.take_length, h, List.drop_left]
theorem number_f (s : ByteArray) (m : Nat) (hm : m ≤ 4611686018427387903) (rest : List Int) (h : bytesOf s = enc m ++ rest) (k : Nat) (hk : 20 ≤ k) :
    ∃ s', vint_Reader_Number.f k s false = some ((m : Int), s', false) ∧ bytesOf s' = rest := by
  have hl : (enc m).length ≤ s.size := by rw [← bytesOf_length, h, List.length_append]; omega
  refine ⟨s.extract (enc m).length s.size, ?_, bytes_rest s _ _ h⟩
  unfold vint_Reader_Number.f
  refine ite_no (by simp) (bind_eq (by rw [get_f s k hk, getR_enc s m hm rest h]) (ite_yes rfl (ite_yes (by simp) (ite_yes ?_ ?_))))
  · show ((enc m).length : Int) ≤ (s.size : Int)
    omega
  · simp only [Int.toNat_natCast]
theorem number_no (s : ByteArray) (h : getR s = (0, 0, 4)) (k : Nat) (hk : 20 ≤ k) : vint_Reader_Number.f k s false = some (0, s, true) := by
  unfold vint_Reader_Number.f
  exact ite_no (by simp) (bind_eq (by rw [get_f s k hk, h]) (ite_no (by decide) rfl))
theorem text_rest (s : ByteArray) (a b : List Int) (h : bytesOf s = a ++ b) : ∃ t s', vint_Reader_Text.f s false (a.length : Int) = some (t, s', false) ∧ bytesOf t = a ∧ bytesOf s' = b := by
  have hl : a.length ≤ s.size := by rw [← bytesOf_length, h, List.length_append]; omega
  refine ⟨_, _, text_f s a.length hl, ?_, bytes_rest s _ _ h⟩
  rw [bytesOf_extract, h, List.drop_zero, List.take_left]
theorem long_f (s t : ByteArray) (ht : t.size ≤ 4611686018427387903) (rest : List Int) (h : bytesOf s = enc t.size ++ (bytesOf t ++ rest)) (k : Nat) (hk : 20 ≤ k) :
    ∃ s', vint_Reader_Long.f k s false = some (t, s', false) ∧ bytesOf s' = rest := by
  obtain ⟨s1, h1, h2⟩ := number_f s t.size ht _ h k hk
  obtain ⟨t', s2, h3, h4, h5⟩ := text_rest s1 _ _ h2
  rw [bytesOf_length] at h3
  refine ⟨s2, ?_, h5⟩
  unfold vint_Reader_Long.f
  rw [bytesOf_inj h4] at h3
  exact bind_eq h1 (bind_eq h3 rfl)
end Go.Proofs.Ytapdnkmaklpoeaa.Vm
