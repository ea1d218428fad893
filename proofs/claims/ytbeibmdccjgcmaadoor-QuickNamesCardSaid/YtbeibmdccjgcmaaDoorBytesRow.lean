/- Bytes in a row of the call's own, or in the block of a text's bytes (which bears a mark): appended to, and read. -/
import Derived.Test.YtbeibmdccjgcmaaDoorProg
import Derived.Test.YtbeibmdccjgcmaaDoorPb
import Derived.KernelRfl
import Derived.Test.YtbeibmdccjgcmaaDoorWWords
import Derived.Lib.ConvBytes
import Derived.Deep.Upon
import Derived.Laws.AppendOwn
namespace Go.Proofs.YtbeibmdccjgcmaaDoor.Rf5
open Go.RowKit Go.Proofs.YtbeibmdccjgcmaaDoorW.PrintWords Go.Proofs.YtbeibmdccjgcmaaDoorW.PrintLast Go.Proofs.YtbeibmdccjgcmaaDoorW.PrintMore
open Go.Proofs.YtbeibmdccjgcmaaDoor.Pb
set_option linter.unusedVariables false
set_option linter.unusedSimpArgs false
/-- The bytes L, in a block from 'base' on. -/
structure BAt (k : IntKind) (W0 : World) (base : Nat) (w : World) (v : Value) (L : List Int) : Prop where
  ex : ∃ g c, v = .slice (some ⟨g, 0, none⟩) L.length c ∧ base ≤ g ∧ L.length ≤ c ∧ (∀ j, j < L.length → w.cell? ⟨g, j, none⟩ = some (.int k (L.getD j 0))) ∧ (∀ j, j < c → (w.cell? ⟨g, j, none⟩).isSome = true ∧ w.frozen? ⟨g, j, none⟩ = false)
  below : Below base W0 w
theorem BAt.shape {k : IntKind} {W0 : World} {base : Nat} {w : World} {v : Value} {L : List Int} (h : BAt k W0 base w v L) : ∃ a c, v = .slice a L.length c := by
  obtain ⟨g, c, e, _⟩ := h.ex
  exact ⟨_, _, e⟩
theorem BAt.alloc {k : IntKind} {W0 : World} {base : Nat} {w : World} {v : Value} {L : List Int} (h : BAt k W0 base w v L) (hb : base ≤ w.heap.size) (o : Obj) : BAt k W0 base (w.alloc o) v L := by
  obtain ⟨g, c, rfl, hg, hc, h1, h2⟩ := h.ex
  refine ⟨⟨g, c, rfl, hg, hc, fun j hj => ?_, fun j hj => ?_⟩, h.below.alloc hb o⟩
  · have hl := World.block_lt_of_cell? w _ (h1 j hj)
    exact (World.cell?_of_block (a := ⟨g, j, none⟩) (Below.heap_alloc w o g hl)).trans (h1 j hj)
  · obtain ⟨u, hu⟩ := Option.isSome_iff_exists.1 (h2 j hj).1
    have hl := World.block_lt_of_cell? w _ hu
    exact ⟨by rw [World.cell?_of_block (a := ⟨g, j, none⟩) (Below.heap_alloc w o g hl)]; exact (h2 j hj).1, (World.frozen?_of_block (a := ⟨g, j, none⟩) (Below.heap_alloc w o g hl)).trans (h2 j hj).2⟩
theorem BAt.drew {k : IntKind} {W0 : World} {base : Nat} {w : World} {v : Value} {L : List Int} (h : BAt k W0 base w v L) : BAt k W0 base w.drew v L := by
  obtain ⟨g, c, e, hg, hc, h1, h2⟩ := h.ex
  exact ⟨⟨g, c, e, hg, hc, h1, h2⟩, h.below.drew⟩
theorem BAt.nil (k : IntKind) (W0 : World) (base g c : Nat) (hg : base ≤ g) (w : World) (h : Below base W0 w) (hc : c = 0) : BAt k W0 base w (.slice (some ⟨g, 0, none⟩) 0 c) [] :=
  ⟨⟨g, c, rfl, hg, Nat.zero_le _, fun j hj => absurd hj (Nat.not_lt_zero _), fun j hj => absurd hj (by omega)⟩, h⟩
/-- .. or nil. -/
def NAt (k : IntKind) (W0 : World) (base : Nat) (w : World) (v : Value) (L : List Int) : Prop := (v = .slice none 0 0 ∧ L = [] ∧ Below base W0 w) ∨ BAt k W0 base w v L
theorem NAt.below {k : IntKind} {W0 : World} {base : Nat} {w : World} {v : Value} {L : List Int} (h : NAt k W0 base w v L) : Below base W0 w := by
  rcases h with ⟨_, _, h⟩ | h
  · exact h
  · exact h.below
theorem NAt.alloc {k : IntKind} {W0 : World} {base : Nat} {w : World} {v : Value} {L : List Int} (h : NAt k W0 base w v L) (hb : base ≤ w.heap.size) (o : Obj) : NAt k W0 base (w.alloc o) v L := by
  rcases h with ⟨h1, h2, h⟩ | h
  · exact .inl ⟨h1, h2, h.alloc hb o⟩
  · exact .inr (h.alloc hb o)
theorem NAt.drew {k : IntKind} {W0 : World} {base : Nat} {w : World} {v : Value} {L : List Int} (h : NAt k W0 base w v L) : NAt k W0 base w.drew v L := by
  rcases h with ⟨h1, h2, h⟩ | h
  · exact .inl ⟨h1, h2, h.drew⟩
  · exact .inr h.drew
end Go.Proofs.YtbeibmdccjgcmaaDoor.Rf5
