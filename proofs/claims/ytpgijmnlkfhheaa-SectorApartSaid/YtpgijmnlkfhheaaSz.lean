/- A slice of strings that comes in: what it holds, and that each string is no longer than its weight allows. -/
import Derived.Test.YtpgijmnlkfhheaaProg
import Derived.Test.YtpgijmnlkfhheaaWWords
import Derived.Test.YtpgijmnlkfhheaaWSized
import Derived.SizedLaws
import Derived.SliceStrings
namespace Go.Proofs.Ytpgijmnlkfhheaa.Sz
open Go.RowKit Go.ChangeShapes Go.WideShapes Go.Proofs.YtpgijmnlkfhheaaW.PrintWords
set_option linter.unusedVariables false
set_option linter.unusedSimpArgs false
theorem mem_weights {H : Type} {P : Program} {e : TypeId} : ∀ (l : List ByteArray) (s : ByteArray), s ∈ l → s.data.toList.length ∈ DataW.weightsAll (H := H) P e (strs l) := by
  intro l
  induction l with
  | nil => intro s h; cases h
  | cons x l ih =>
    intro s h
    rw [show (strs (H := H) (x :: l)) = .lit (.string x.data.toList) :: strs l from rfl]
    rw [DataW.weightsAll]
    rcases List.mem_cons.1 h with rfl | h
    · exact List.mem_append.2 (.inl (by simp [DataW.weights]))
    · exact List.mem_append.2 (.inr (ih s h))
theorem sized_strs {H : Type} {enc : TypeId × Value → H} {P : Program} {W : World} {base : Nat} {spare : Nat → Bool} {held : Bool} {t e : TypeId} {a : Option Addr} {len cap : Nat} {d : DataW H} {ps : List MemPlace} {ts : List TypeId} {ds : List (DataW H)} {j : Nat}
    (hsz : (DataW.weightsEach P ts ds).all (· ≤ reachBytes) = true) (ht : ts[j]? = some t) (hd : ds[j]? = some d) (hu : P.underlying t = some (.slice e)) (he : P.underlying e = some .string) (hc : P.cellsOf e = 1)
    (h : DataW.Trod enc P W base spare held t (.slice a len cap) d ps) :
    ∃ l : List ByteArray, len = l.length ∧ Kd.C Kd.string W a l.length l ∧ l.length ≤ cap ∧ ∀ s ∈ l, s.size ≤ 140737488351232 := by
  obtain ⟨fuel, hf⟩ := h
  rcases open_strings hu he hc hf with ⟨hcs, _⟩ | ⟨x, l, c, zs, hcs, _, hl, hm, hz, hx, hcell, hwz⟩
  · simp [Value.cells] at hcs
    obtain ⟨rfl, rfl, rfl⟩ := hcs
    exact ⟨[], rfl, Kd.C_of_reads (enc := Value.string) (d := ByteArray.empty) (h1 := fun _ => rfl) ⟨rfl, by simp, fun h => absurd h (by simp)⟩, Nat.zero_le _, fun s hs => by cases hs⟩
  · simp [Value.cells] at hcs
    obtain ⟨rfl, rfl, rfl⟩ := hcs
    obtain ⟨hx, _⟩ := Prod.mk.inj hx
    subst hx
    have hl2 : len ≤ zs.length := by
      rw [hz]
      split
      · exact hl
      · exact Nat.le_refl _
    simp only [maxLen] at hm
    have hlen : (zs.take len).length = len := by rw [List.length_take]; omega
    refine ⟨zs.take len, hlen.symm, Kd.C_of_reads (enc := Value.string) (d := ByteArray.empty) (h1 := fun _ => rfl) ⟨rfl, by omega, fun _ => ⟨_, rfl, fun j hj => ?_⟩⟩, by omega, fun s hs => ?_⟩
    · rw [hcell j (by omega)]
      congr 2
      simp only [List.getD_eq_getElem?_getD, List.getElem?_take]
      rw [if_pos (by omega)]
    · have h1 : s.data.toList.length ∈ DataW.weights (H := H) P t (.slice (strs (zs.take len)) (strs (zs.drop len))) := by
        simp only [DataW.weights, hu]
        exact List.mem_cons.2 (.inr (List.mem_append.2 (.inl (mem_weights _ s hs))))
      have h2 := List.all_eq_true.1 hsz _ (DataW.weights_mem_each ht hd _ h1)
      have h3 : s.data.toList.length ≤ reachBytes := by simpa using h2
      have h4 : s.data.toList.length = s.size := by rw [Array.length_toList]; rfl
      have h5 : reachBytes = 140737488351232 := by decide
      omega
end Go.Proofs.Ytpgijmnlkfhheaa.Sz
