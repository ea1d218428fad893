/-
  No cell of these rows narrows 'for every input' (looked for: loops, veiled, ifaces, maps, wideKeys, modest, calm, conditions, laid).
  DERIVED. THE GIVEN ROWS OF THIS SEAT. 5 by the template 'for every input the law returns true; each argument reads behind the call as it read before'; 0 by the template 'total and deterministic' (their statements: YtejgcdecnaaedaaTotals.lean).
  GIVEN WITH THE SEED: the statements are not yours to turn. If you find one false, say at which input.
  Laid BY PROGRAM, IN A SANDBOX (cutbox-rows.mjs): the forced cells as the released guide's own fill.sh prints them over the translation c86f548eb833c502… (all of the seat's roots in one cut). By AI agents, Wed Nov 11 2026. No macro, syntax, notation, axiom, sorry.
-/
import Derived.Test.YtejgcdecnaaedaaChecked
import GoSem.Claim
import GoSem.ClaimJoined
import GoSem.ClaimMapViews
import Derived.JoinedTies
import Derived.KernelRfl
namespace Go.Proofs.Ytejgcdecnaaedaa
/- THE CELL 'sum', in the pinned program and in every row, IS THE sha256 OF THE DUMP (.gsa) THAT YtejgcdecnaaedaaProg.lean LOADS. Nothing in Lean hashes anything: it is a label: what it is worth is what the hold of that sum in a sandbox is worth. -/
noncomputable def Try.pinned : Pinned := { name := "ytejgcdecnaaedaa", sum := "c86f548eb833c50281006eb67dc91d922c4ff02b1b472e9fd1488f63f657d705", checked := Try.checked }
namespace Rows
def none {H : Type} : Left H := { results := [], args := [] }

/-- 'hamperlaw06.TagText': WHATEVER THE INPUT: true; the input reads as it did. -/
def tagTextSpec : ChangeSpec := { name := "tagText", fn := fun _ => fun
  | [d] => { results := [.lit (.bool true)], args := [d] }
  | _ => none }
def tagTextRow : OpenClaim := { program := "ytejgcdecnaaedaa", sum := "c86f548eb833c50281006eb67dc91d922c4ff02b1b472e9fd1488f63f657d705", func := "hamper/hamperlaw06.TagText", spec := "tagText", inPlace := ["internal/abi.NoEscape"], recurses := true, apart := false }
def TagTextSaid : Prop := tagTextRow.holds Try.pinned (OpenSpec.ofChange tagTextSpec)

/-- ITS FALSE NEIGHBOUR: 'it returns false'. Refute it at one input. -/
def tagTextWrong : ChangeSpec := { name := "tagText", fn := fun _ => fun
  | [d] => { results := [.lit (.bool false)], args := [d] }
  | _ => none }
def TagTextWrongFalsely : Prop := tagTextRow.holds Try.pinned (OpenSpec.ofChange tagTextWrong)

/-- 'hamperlaw06.TagMakes': WHATEVER THE INPUT: true; the input reads as it did. -/
def tagMakesSpec : ChangeSpec := { name := "tagMakes", fn := fun _ => fun
  | [d1, d2] => { results := [.lit (.bool true)], args := [d1, d2] }
  | _ => none }
def tagMakesRow : OpenClaim := { program := "ytejgcdecnaaedaa", sum := "c86f548eb833c50281006eb67dc91d922c4ff02b1b472e9fd1488f63f657d705", func := "hamper/hamperlaw06.TagMakes", spec := "tagMakes", inPlace := ["internal/abi.NoEscape"], recurses := true, apart := false }
def TagMakesSaid : Prop := tagMakesRow.holds Try.pinned (OpenSpec.ofChange tagMakesSpec)

/-- ITS FALSE NEIGHBOUR: 'it returns false'. Refute it at one input. -/
def tagMakesWrong : ChangeSpec := { name := "tagMakes", fn := fun _ => fun
  | [d1, d2] => { results := [.lit (.bool false)], args := [d1, d2] }
  | _ => none }
def TagMakesWrongFalsely : Prop := tagMakesRow.holds Try.pinned (OpenSpec.ofChange tagMakesWrong)

/-- 'hamperlaw06.TagNames': WHATEVER THE INPUT: true; the input reads as it did. -/
def tagNamesSpec : ChangeSpec := { name := "tagNames", fn := fun _ => fun
  | [] => { results := [.lit (.bool true)], args := [] }
  | _ => none }
def tagNamesRow : OpenClaim := { program := "ytejgcdecnaaedaa", sum := "c86f548eb833c50281006eb67dc91d922c4ff02b1b472e9fd1488f63f657d705", func := "hamper/hamperlaw06.TagNames", spec := "tagNames", inPlace := ["internal/abi.NoEscape"], recurses := true, apart := false }
def TagNamesSaid : Prop := tagNamesRow.holds Try.pinned (OpenSpec.ofChange tagNamesSpec)

/-- ITS FALSE NEIGHBOUR: 'it returns false'. Refute it at one input. -/
def tagNamesWrong : ChangeSpec := { name := "tagNames", fn := fun _ => fun
  | [] => { results := [.lit (.bool false)], args := [] }
  | _ => none }
def TagNamesWrongFalsely : Prop := tagNamesRow.holds Try.pinned (OpenSpec.ofChange tagNamesWrong)

/-- 'hamperlaw06.TagBound': WHATEVER THE INPUT: true; the input reads as it did. -/
def tagBoundSpec : ChangeSpec := { name := "tagBound", fn := fun _ => fun
  | [d1, d2, d3] => { results := [.lit (.bool true)], args := [d1, d2, d3] }
  | _ => none }
def tagBoundRow : OpenClaim := { program := "ytejgcdecnaaedaa", sum := "c86f548eb833c50281006eb67dc91d922c4ff02b1b472e9fd1488f63f657d705", func := "hamper/hamperlaw06.TagBound", spec := "tagBound", inPlace := ["internal/abi.NoEscape"], recurses := true, apart := false }
def TagBoundSaid : Prop := tagBoundRow.holds Try.pinned (OpenSpec.ofChange tagBoundSpec)

/-- ITS FALSE NEIGHBOUR: 'it returns false'. Refute it at one input. -/
def tagBoundWrong : ChangeSpec := { name := "tagBound", fn := fun _ => fun
  | [d1, d2, d3] => { results := [.lit (.bool false)], args := [d1, d2, d3] }
  | _ => none }
def TagBoundWrongFalsely : Prop := tagBoundRow.holds Try.pinned (OpenSpec.ofChange tagBoundWrong)

/-- 'hamperlaw06.TagOther': WHATEVER THE INPUT: true; the input reads as it did. -/
def tagOtherSpec : ChangeSpec := { name := "tagOther", fn := fun _ => fun
  | [d1, d2, d3, d4] => { results := [.lit (.bool true)], args := [d1, d2, d3, d4] }
  | _ => none }
def tagOtherRow : OpenClaim := { program := "ytejgcdecnaaedaa", sum := "c86f548eb833c50281006eb67dc91d922c4ff02b1b472e9fd1488f63f657d705", func := "hamper/hamperlaw06.TagOther", spec := "tagOther", inPlace := ["internal/abi.NoEscape"], recurses := true, apart := false }
def TagOtherSaid : Prop := tagOtherRow.holds Try.pinned (OpenSpec.ofChange tagOtherSpec)

/-- ITS FALSE NEIGHBOUR: 'it returns false'. Refute it at one input. -/
def tagOtherWrong : ChangeSpec := { name := "tagOther", fn := fun _ => fun
  | [d1, d2, d3, d4] => { results := [.lit (.bool false)], args := [d1, d2, d3, d4] }
  | _ => none }
def TagOtherWrongFalsely : Prop := tagOtherRow.holds Try.pinned (OpenSpec.ofChange tagOtherWrong)

/- THE SECOND FORM. 'bulk': how many values and letters a reading holds, each counted each time it is reached (what is shared counts as often as it is met; a slice's spare places count too). A statement '..UptoSaid' is the law's where the arguments, and the package variables that the reading takes, are together of bulk at most 1048576: NARROWER than '..Said'. Prove '..Said' where nothing that the law and all that it calls make is longer than what came in: it says more and counts as full. Else prove '..UptoSaid'. A law counts once. -/
mutual
def uptoBulk {H : Type} : DataW H → Nat
  | .lit (.string bytes) => bytes.length + 1
  | .lit _ => 1
  | .nil => 1
  | .ptr d => uptoBulk d + 1
  | .slice elems spare => uptoBulkAll elems + uptoBulkAll spare + 1
  | .agg parts => uptoBulkAll parts + 1
  | .iface _ d => uptoBulk d + 1
  | .map entries => uptoBulkEntries entries + 1
  | .held _ => 1
def uptoBulkAll {H : Type} : List (DataW H) → Nat
  | [] => 0
  | d :: r => uptoBulk d + uptoBulkAll r
def uptoBulkEntries {H : Type} : List (Lit × DataW H) → Nat
  | [] => 0
  | x :: r => uptoBulkEntry x + uptoBulkEntries r
def uptoBulkEntry {H : Type} : Lit × DataW H → Nat
  | (.string bytes, d) => bytes.length + uptoBulk d + 1
  | (_, d) => uptoBulk d + 1
 end
def uptoSmall : (H : Type) → List (DataW H) → Bool := fun _ ds => decide (uptoBulkAll ds ≤ 1048576)
def OpenSpec.upto (s : _root_.Go.ChangeSpec) : _root_.Go.OpenSpec := { _root_.Go.OpenSpec.ofChange s with cond := some uptoSmall }

/-- 'hamperlaw06.TagText', WHERE WHAT IT READS IS OF BULK AT MOST 1048576: true; the input reads as it did. -/
def tagTextUptoRow : OpenClaim := { program := "ytejgcdecnaaedaa", sum := "c86f548eb833c50281006eb67dc91d922c4ff02b1b472e9fd1488f63f657d705", func := "hamper/hamperlaw06.TagText", spec := "tagText", inPlace := ["internal/abi.NoEscape"], recurses := true, apart := false, narrowed := true }
def TagTextUptoSaid : Prop := tagTextUptoRow.holds Try.pinned (OpenSpec.upto tagTextSpec)

/-- 'hamperlaw06.TagMakes', WHERE WHAT IT READS IS OF BULK AT MOST 1048576: true; the input reads as it did. -/
def tagMakesUptoRow : OpenClaim := { program := "ytejgcdecnaaedaa", sum := "c86f548eb833c50281006eb67dc91d922c4ff02b1b472e9fd1488f63f657d705", func := "hamper/hamperlaw06.TagMakes", spec := "tagMakes", inPlace := ["internal/abi.NoEscape"], recurses := true, apart := false, narrowed := true }
def TagMakesUptoSaid : Prop := tagMakesUptoRow.holds Try.pinned (OpenSpec.upto tagMakesSpec)

/-- 'hamperlaw06.TagNames', WHERE WHAT IT READS IS OF BULK AT MOST 1048576: true; the input reads as it did. -/
def tagNamesUptoRow : OpenClaim := { program := "ytejgcdecnaaedaa", sum := "c86f548eb833c50281006eb67dc91d922c4ff02b1b472e9fd1488f63f657d705", func := "hamper/hamperlaw06.TagNames", spec := "tagNames", inPlace := ["internal/abi.NoEscape"], recurses := true, apart := false, narrowed := true }
def TagNamesUptoSaid : Prop := tagNamesUptoRow.holds Try.pinned (OpenSpec.upto tagNamesSpec)

/-- 'hamperlaw06.TagBound', WHERE WHAT IT READS IS OF BULK AT MOST 1048576: true; the input reads as it did. -/
def tagBoundUptoRow : OpenClaim := { program := "ytejgcdecnaaedaa", sum := "c86f548eb833c50281006eb67dc91d922c4ff02b1b472e9fd1488f63f657d705", func := "hamper/hamperlaw06.TagBound", spec := "tagBound", inPlace := ["internal/abi.NoEscape"], recurses := true, apart := false, narrowed := true }
def TagBoundUptoSaid : Prop := tagBoundUptoRow.holds Try.pinned (OpenSpec.upto tagBoundSpec)

/-- 'hamperlaw06.TagOther', WHERE WHAT IT READS IS OF BULK AT MOST 1048576: true; the input reads as it did. -/
def tagOtherUptoRow : OpenClaim := { program := "ytejgcdecnaaedaa", sum := "c86f548eb833c50281006eb67dc91d922c4ff02b1b472e9fd1488f63f657d705", func := "hamper/hamperlaw06.TagOther", spec := "tagOther", inPlace := ["internal/abi.NoEscape"], recurses := true, apart := false, narrowed := true }
def TagOtherUptoSaid : Prop := tagOtherUptoRow.holds Try.pinned (OpenSpec.upto tagOtherSpec)

end Rows
end Go.Proofs.Ytejgcdecnaaedaa
