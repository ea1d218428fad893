/-
  No cell of these rows narrows 'for every input' (looked for: loops, veiled, ifaces, maps, wideKeys, modest, calm, conditions, laid).
  DERIVED. THE GIVEN ROWS OF THIS SEAT. 5 by the template 'for every input the law returns true; each argument reads behind the call as it read before'; 0 by the template 'total and deterministic' (their statements: YtpgijmnlkfhheaaTotals.lean).
  GIVEN WITH THE SEED: the statements are not yours to turn. If you find one false, say at which input.
  Laid BY PROGRAM, IN A SANDBOX (cutbox-rows.mjs): the forced cells as the released guide's own fill.sh prints them over the translation b962eba832ec0051… (all of the seat's roots in one cut). By AI agents, Wed Nov 11 2026. No macro, syntax, notation, axiom, sorry.
-/
import Derived.Test.YtpgijmnlkfhheaaChecked
import GoSem.Claim
import GoSem.ClaimJoined
import GoSem.ClaimMapViews
import Derived.JoinedTies
import Derived.KernelRfl
namespace Go.Proofs.Ytpgijmnlkfhheaa
/- THE CELL 'sum', in the pinned program and in every row, IS THE sha256 OF THE DUMP (.gsa) THAT YtpgijmnlkfhheaaProg.lean LOADS. Nothing in Lean hashes anything: it is a label: what it is worth is what the hold of that sum in a sandbox is worth. -/
noncomputable def Try.pinned : Pinned := { name := "ytpgijmnlkfhheaa", sum := "b962eba832ec0051aff61955162448f8870e16235ab703a5fe502bddc0fdff57", checked := Try.checked }
namespace Rows
def none {H : Type} : Left H := { results := [], args := [] }

/-- 'hamperlaw24.SectorApart': WHATEVER THE INPUT: true; the input reads as it did. -/
def sectorApartSpec : ChangeSpec := { name := "sectorApart", fn := fun _ => fun
  | [d1, d2, d3, d4, d5, d6] => { results := [.lit (.bool true)], args := [d1, d2, d3, d4, d5, d6] }
  | _ => none }
def sectorApartRow : OpenClaim := { program := "ytpgijmnlkfhheaa", sum := "b962eba832ec0051aff61955162448f8870e16235ab703a5fe502bddc0fdff57", func := "hamper/hamperlaw24.SectorApart", spec := "sectorApart", inPlace := ["internal/abi.NoEscape"], unfollowed := true, recurses := true, apart := false }
def SectorApartSaid : Prop := sectorApartRow.holds Try.pinned (OpenSpec.ofChange sectorApartSpec)

/-- ITS FALSE NEIGHBOUR: 'it returns false'. Refute it at one input. -/
def sectorApartWrong : ChangeSpec := { name := "sectorApart", fn := fun _ => fun
  | [d1, d2, d3, d4, d5, d6] => { results := [.lit (.bool false)], args := [d1, d2, d3, d4, d5, d6] }
  | _ => none }
def SectorApartWrongFalsely : Prop := sectorApartRow.holds Try.pinned (OpenSpec.ofChange sectorApartWrong)

/-- 'hamperlaw24.SectorLays': WHATEVER THE INPUT: true; the input reads as it did. -/
def sectorLaysSpec : ChangeSpec := { name := "sectorLays", fn := fun _ => fun
  | [d1, d2, d3] => { results := [.lit (.bool true)], args := [d1, d2, d3] }
  | _ => none }
def sectorLaysRow : OpenClaim := { program := "ytpgijmnlkfhheaa", sum := "b962eba832ec0051aff61955162448f8870e16235ab703a5fe502bddc0fdff57", func := "hamper/hamperlaw24.SectorLays", spec := "sectorLays", inPlace := ["internal/abi.NoEscape"], unfollowed := true, recurses := true, apart := false }
def SectorLaysSaid : Prop := sectorLaysRow.holds Try.pinned (OpenSpec.ofChange sectorLaysSpec)

/-- ITS FALSE NEIGHBOUR: 'it returns false'. Refute it at one input. -/
def sectorLaysWrong : ChangeSpec := { name := "sectorLays", fn := fun _ => fun
  | [d1, d2, d3] => { results := [.lit (.bool false)], args := [d1, d2, d3] }
  | _ => none }
def SectorLaysWrongFalsely : Prop := sectorLaysRow.holds Try.pinned (OpenSpec.ofChange sectorLaysWrong)

/-- 'hamperlaw24.SectorOnly': WHATEVER THE INPUT: true; the input reads as it did. -/
def sectorOnlySpec : ChangeSpec := { name := "sectorOnly", fn := fun _ => fun
  | [d1, d2] => { results := [.lit (.bool true)], args := [d1, d2] }
  | _ => none }
def sectorOnlyRow : OpenClaim := { program := "ytpgijmnlkfhheaa", sum := "b962eba832ec0051aff61955162448f8870e16235ab703a5fe502bddc0fdff57", func := "hamper/hamperlaw24.SectorOnly", spec := "sectorOnly", inPlace := ["internal/abi.NoEscape"], unfollowed := true, recurses := true, apart := false }
def SectorOnlySaid : Prop := sectorOnlyRow.holds Try.pinned (OpenSpec.ofChange sectorOnlySpec)

/-- ITS FALSE NEIGHBOUR: 'it returns false'. Refute it at one input. -/
def sectorOnlyWrong : ChangeSpec := { name := "sectorOnly", fn := fun _ => fun
  | [d1, d2] => { results := [.lit (.bool false)], args := [d1, d2] }
  | _ => none }
def SectorOnlyWrongFalsely : Prop := sectorOnlyRow.holds Try.pinned (OpenSpec.ofChange sectorOnlyWrong)

/-- 'hamperlaw24.SectorTells': WHATEVER THE INPUT: true; the input reads as it did. -/
def sectorTellsSpec : ChangeSpec := { name := "sectorTells", fn := fun _ => fun
  | [d1, d2, d3, d4] => { results := [.lit (.bool true)], args := [d1, d2, d3, d4] }
  | _ => none }
def sectorTellsRow : OpenClaim := { program := "ytpgijmnlkfhheaa", sum := "b962eba832ec0051aff61955162448f8870e16235ab703a5fe502bddc0fdff57", func := "hamper/hamperlaw24.SectorTells", spec := "sectorTells", inPlace := ["internal/abi.NoEscape"], unfollowed := true, recurses := true, apart := false }
def SectorTellsSaid : Prop := sectorTellsRow.holds Try.pinned (OpenSpec.ofChange sectorTellsSpec)

/-- ITS FALSE NEIGHBOUR: 'it returns false'. Refute it at one input. -/
def sectorTellsWrong : ChangeSpec := { name := "sectorTells", fn := fun _ => fun
  | [d1, d2, d3, d4] => { results := [.lit (.bool false)], args := [d1, d2, d3, d4] }
  | _ => none }
def SectorTellsWrongFalsely : Prop := sectorTellsRow.holds Try.pinned (OpenSpec.ofChange sectorTellsWrong)

/-- 'hamperlaw24.SectorNames': WHATEVER THE INPUT: true; the input reads as it did. -/
def sectorNamesSpec : ChangeSpec := { name := "sectorNames", fn := fun _ => fun
  | [] => { results := [.lit (.bool true)], args := [] }
  | _ => none }
def sectorNamesRow : OpenClaim := { program := "ytpgijmnlkfhheaa", sum := "b962eba832ec0051aff61955162448f8870e16235ab703a5fe502bddc0fdff57", func := "hamper/hamperlaw24.SectorNames", spec := "sectorNames", inPlace := ["internal/abi.NoEscape"], unfollowed := true, recurses := true, apart := false }
def SectorNamesSaid : Prop := sectorNamesRow.holds Try.pinned (OpenSpec.ofChange sectorNamesSpec)

/-- ITS FALSE NEIGHBOUR: 'it returns false'. Refute it at one input. -/
def sectorNamesWrong : ChangeSpec := { name := "sectorNames", fn := fun _ => fun
  | [] => { results := [.lit (.bool false)], args := [] }
  | _ => none }
def SectorNamesWrongFalsely : Prop := sectorNamesRow.holds Try.pinned (OpenSpec.ofChange sectorNamesWrong)

/- THE SECOND FORM. 'bulk': how many values and letters a reading holds, each counted each time it is reached (what is shared counts as often as it is met; a slice's spare places count too). A statement '..UptoSaid' is the law's where the arguments, and the package variables that the reading takes, are together of bulk at most 1048576: NARROWER than '..Said'. Prove '..Said' where nothing that the law and all that it calls make is longer than what came in: it says more and counts as full. Else prove '..UptoSaid'. A law counts once. -/
mutual
def uptoBulk {H : Type} : DataW H → Nat
  | .lit (.string bytes) => bytes.length + 1
  | .lit _ => 1
  | .nil => 1
  | .ptr d => uptoBulk d + 1
  | .slice elems spare => uptoBulkAll elems + uptoBulkAll spare + 1
  | .agg parts => uptoBulkAll parts + 1
  | .iface _ d => uptoBulk d + 1
  | .map entries => uptoBulkEntries entries + 1
  | .held _ => 1
def uptoBulkAll {H : Type} : List (DataW H) → Nat
  | [] => 0
  | d :: r => uptoBulk d + uptoBulkAll r
def uptoBulkEntries {H : Type} : List (Lit × DataW H) → Nat
  | [] => 0
  | x :: r => uptoBulkEntry x + uptoBulkEntries r
def uptoBulkEntry {H : Type} : Lit × DataW H → Nat
  | (.string bytes, d) => bytes.length + uptoBulk d + 1
  | (_, d) => uptoBulk d + 1
 end
def uptoSmall : (H : Type) → List (DataW H) → Bool := fun _ ds => decide (uptoBulkAll ds ≤ 1048576)
def OpenSpec.upto (s : _root_.Go.ChangeSpec) : _root_.Go.OpenSpec := { _root_.Go.OpenSpec.ofChange s with cond := some uptoSmall }

/-- 'hamperlaw24.SectorApart', WHERE WHAT IT READS IS OF BULK AT MOST 1048576: true; the input reads as it did. -/
def sectorApartUptoRow : OpenClaim := { program := "ytpgijmnlkfhheaa", sum := "b962eba832ec0051aff61955162448f8870e16235ab703a5fe502bddc0fdff57", func := "hamper/hamperlaw24.SectorApart", spec := "sectorApart", inPlace := ["internal/abi.NoEscape"], unfollowed := true, recurses := true, apart := false, narrowed := true }
def SectorApartUptoSaid : Prop := sectorApartUptoRow.holds Try.pinned (OpenSpec.upto sectorApartSpec)

/-- 'hamperlaw24.SectorLays', WHERE WHAT IT READS IS OF BULK AT MOST 1048576: true; the input reads as it did. -/
def sectorLaysUptoRow : OpenClaim := { program := "ytpgijmnlkfhheaa", sum := "b962eba832ec0051aff61955162448f8870e16235ab703a5fe502bddc0fdff57", func := "hamper/hamperlaw24.SectorLays", spec := "sectorLays", inPlace := ["internal/abi.NoEscape"], unfollowed := true, recurses := true, apart := false, narrowed := true }
def SectorLaysUptoSaid : Prop := sectorLaysUptoRow.holds Try.pinned (OpenSpec.upto sectorLaysSpec)

/-- 'hamperlaw24.SectorOnly', WHERE WHAT IT READS IS OF BULK AT MOST 1048576: true; the input reads as it did. -/
def sectorOnlyUptoRow : OpenClaim := { program := "ytpgijmnlkfhheaa", sum := "b962eba832ec0051aff61955162448f8870e16235ab703a5fe502bddc0fdff57", func := "hamper/hamperlaw24.SectorOnly", spec := "sectorOnly", inPlace := ["internal/abi.NoEscape"], unfollowed := true, recurses := true, apart := false, narrowed := true }
def SectorOnlyUptoSaid : Prop := sectorOnlyUptoRow.holds Try.pinned (OpenSpec.upto sectorOnlySpec)

/-- 'hamperlaw24.SectorTells', WHERE WHAT IT READS IS OF BULK AT MOST 1048576: true; the input reads as it did. -/
def sectorTellsUptoRow : OpenClaim := { program := "ytpgijmnlkfhheaa", sum := "b962eba832ec0051aff61955162448f8870e16235ab703a5fe502bddc0fdff57", func := "hamper/hamperlaw24.SectorTells", spec := "sectorTells", inPlace := ["internal/abi.NoEscape"], unfollowed := true, recurses := true, apart := false, narrowed := true }
def SectorTellsUptoSaid : Prop := sectorTellsUptoRow.holds Try.pinned (OpenSpec.upto sectorTellsSpec)

/-- 'hamperlaw24.SectorNames', WHERE WHAT IT READS IS OF BULK AT MOST 1048576: true; the input reads as it did. -/
def sectorNamesUptoRow : OpenClaim := { program := "ytpgijmnlkfhheaa", sum := "b962eba832ec0051aff61955162448f8870e16235ab703a5fe502bddc0fdff57", func := "hamper/hamperlaw24.SectorNames", spec := "sectorNames", inPlace := ["internal/abi.NoEscape"], unfollowed := true, recurses := true, apart := false, narrowed := true }
def SectorNamesUptoSaid : Prop := sectorNamesUptoRow.holds Try.pinned (OpenSpec.upto sectorNamesSpec)

end Rows
end Go.Proofs.Ytpgijmnlkfhheaa
