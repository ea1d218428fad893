/- Plain words on bytes and on answers that are known: no program in sight. -/
import Derived.Test.YtbeibmdccjgcmaaDoorWWords
import Derived.Test.YtbeibmdccjgcmaaDoorWLast
import Derived.Test.YtbeibmdccjgcmaaDoorWMore
import Derived.Lib.Strings
namespace Go.Proofs.YtbeibmdccjgcmaaDoor.Pb
open Go.RowKit Go.Proofs.YtbeibmdccjgcmaaDoorW.PrintWords Go.Proofs.YtbeibmdccjgcmaaDoorW.PrintLast Go.Proofs.YtbeibmdccjgcmaaDoorW.PrintMore
set_option linter.unusedVariables false
set_option linter.unusedSimpArgs false
def IsBytes (l : List Int) : Prop := ∀ x ∈ l, 0 ≤ x ∧ x ≤ 255
theorem isBytes_of (s : ByteArray) : IsBytes (bytesOf s) := by
  intro x hx
  simp only [bytesOf, List.mem_map] at hx
  obtain ⟨b, _, rfl⟩ := hx
  have := b.toNat_lt
  omega
theorem bytesOf_str {l : List Int} (h : IsBytes l) : bytesOf (strOfNums l) = l := by
  unfold bytesOf
  rw [strOfNums_data, List.map_map]
  conv => rhs; rw [← List.map_id l]
  refine List.map_congr_left fun x hx => ?_
  obtain ⟨h0, h1⟩ := h x hx
  simp only [Function.comp, UInt8.toNat_ofNat', id]
  omega
theorem bytesOf_inj {a b : ByteArray} (h : bytesOf a = bytesOf b) : a = b := by
  unfold bytesOf at h
  have h2 : a.data.toList = b.data.toList := by
    exact (List.map_inj_right fun x y hxy => UInt8.toNat_inj.mp (by omega)).mp h
  have h3 : a.data = b.data := by
    rw [← Array.toArray_toList (xs := a.data), ← Array.toArray_toList (xs := b.data), h2]
  exact ByteArray.ext h3
theorem bytesOf_append (a b : ByteArray) : bytesOf (a ++ b) = bytesOf a ++ bytesOf b := by
  simp [bytesOf, ByteArray.data_append]
theorem bytesOf_extract (a : ByteArray) (i j : Nat) : bytesOf (a.extract i j) = ((bytesOf a).take j).drop i := by
  simp [bytesOf, List.map_take, List.map_drop, List.drop_take, Array.toList_extract, ByteArray.data_extract]
theorem bt_bytesOf (s : ByteArray) (i : Nat) (h : i < (bytesOf s).length) : bt s (i : Int) = (bytesOf s)[i] := by
  rw [← rd_bytesOf, rd, Int.toNat_natCast, List.getD_eq_getElem?_getD, List.getElem?_eq_getElem h]; rfl


theorem tl_iff {a b : ByteArray} : a.toList = b.toList ↔ a = b := by
  rw [ByteArray.toList_eq, ByteArray.toList_eq]
  constructor
  · intro h; refine bytesOf_inj ?_; unfold bytesOf; rw [h]
  · intro h; rw [h]
theorem tl_beq (a b : ByteArray) : (a.toList == b.toList) = decide (a = b) := by
  by_cases h : a = b
  · rw [h]; simp
  · have h2 := mt tl_iff.mp h
    simp [h, h2]
theorem tl_nil (a : ByteArray) : a.toList = ([] : List UInt8) ↔ a = ⟨#[]⟩ := by
  have h : (⟨#[]⟩ : ByteArray).toList = ([] : List UInt8) := by rw [ByteArray.toList_eq]
  constructor
  · intro e
    exact tl_iff.mp (e.trans h.symm)
  · intro e
    rw [e]
    exact h
theorem size_nums (l : List Int) : (strOfNums l).size = l.length := strOfNums_size l
theorem size_ext (a : ByteArray) (i j : Nat) (h : j ≤ a.size) : (a.extract i j).size = j - i := by
  rw [← bytesOf_length, bytesOf_extract, List.length_drop, List.length_take, bytesOf_length]
  omega
theorem ext_app_left (a b : ByteArray) : (a ++ b).extract 0 a.size = a := by
  refine bytesOf_inj ?_
  rw [bytesOf_extract, bytesOf_append, List.drop_zero, ← bytesOf_length, List.take_left]
theorem ext_app_right (a b : ByteArray) : (a ++ b).extract a.size (a ++ b).size = b := by
  refine bytesOf_inj ?_
  rw [bytesOf_extract, ← bytesOf_length (a ++ b), List.take_length, bytesOf_append, ← bytesOf_length, List.drop_left]
theorem app_assoc (a b c : ByteArray) : a ++ b ++ c = a ++ (b ++ c) := by
  refine bytesOf_inj ?_
  rw [bytesOf_append, bytesOf_append, bytesOf_append, bytesOf_append, List.append_assoc]
theorem nil_app (a : ByteArray) : (⟨#[]⟩ : ByteArray) ++ a = a := by
  refine bytesOf_inj ?_
  rw [bytesOf_append]
  rfl
theorem app_nil (a : ByteArray) : a ++ (⟨#[]⟩ : ByteArray) = a := by
  refine bytesOf_inj ?_
  rw [bytesOf_append, show bytesOf (⟨#[]⟩ : ByteArray) = [] from rfl, List.append_nil]
/-- A call whose answer is known: never by simp where a test on wrapped numbers follows (the kernel then unfolds the test). -/
theorem bind_eq {α β : Type} {o : Option α} {a : α} {f : α → Option β} {r : Option β} (h : o = some a) (h2 : f a = r) : o.bind f = r := by rw [h]; exact h2
theorem ite_yes {α : Type} {c : Prop} [Decidable c] {a b r : α} (h : c) (h2 : a = r) : (if c then a else b) = r := by rw [if_pos h]; exact h2
theorem wrap_id {x : Int} (h0 : -9223372036854775808 ≤ x) (h1 : x ≤ 9223372036854775807) : wrap64 x = x := by unfold wrap64; omega
end Go.Proofs.YtbeibmdccjgcmaaDoor.Pb
