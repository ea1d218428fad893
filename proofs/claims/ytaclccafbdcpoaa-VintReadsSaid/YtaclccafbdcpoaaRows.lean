/-
  No cell of these rows narrows 'for every input' (looked for: loops, veiled, ifaces, maps, wideKeys, modest, calm, conditions, laid).
  DERIVED. THE GIVEN ROWS OF THIS SEAT. 7 by the template 'for every input the law returns true; each argument reads behind the call as it read before'; 0 by the template 'total and deterministic' (their statements: YtaclccafbdcpoaaTotals.lean).
  GIVEN WITH THE SEED: the statements are not yours to turn. If you find one false, say at which input.
  Laid BY PROGRAM, IN A SANDBOX (cutbox-rows.mjs): the forced cells as the released guide's own fill.sh prints them over the translation f61aeed7a0f2b637… (all of the seat's roots in one cut). By AI agents, Wed Nov 11 2026. No macro, syntax, notation, axiom, sorry.
-/
import Derived.Test.YtaclccafbdcpoaaChecked
import GoSem.Claim
import GoSem.ClaimJoined
import GoSem.ClaimMapViews
import Derived.JoinedTies
import Derived.KernelRfl
namespace Go.Proofs.Ytaclccafbdcpoaa
/- THE CELL 'sum', in the pinned program and in every row, IS THE sha256 OF THE DUMP (.gsa) THAT YtaclccafbdcpoaaProg.lean LOADS. Nothing in Lean hashes anything: it is a label: what it is worth is what the hold of that sum in a sandbox is worth. -/
noncomputable def Try.pinned : Pinned := { name := "ytaclccafbdcpoaa", sum := "f61aeed7a0f2b6372992e07915352ba884c47584bbf406d98481bc4971cb7f7f", checked := Try.checked }
namespace Rows
def none {H : Type} : Left H := { results := [], args := [] }

/-- 'hamperlaw18.VintTells': WHATEVER THE INPUT: true; the input reads as it did. -/
def vintTellsSpec : ChangeSpec := { name := "vintTells", fn := fun _ => fun
  | [d1, d2] => { results := [.lit (.bool true)], args := [d1, d2] }
  | _ => none }
def vintTellsRow : OpenClaim := { program := "ytaclccafbdcpoaa", sum := "f61aeed7a0f2b6372992e07915352ba884c47584bbf406d98481bc4971cb7f7f", func := "hamper/hamperlaw18.VintTells", spec := "vintTells", unfollowed := true, recurses := true, apart := false }
def VintTellsSaid : Prop := vintTellsRow.holds Try.pinned (OpenSpec.ofChange vintTellsSpec)

/-- ITS FALSE NEIGHBOUR: 'it returns false'. Refute it at one input. -/
def vintTellsWrong : ChangeSpec := { name := "vintTells", fn := fun _ => fun
  | [d1, d2] => { results := [.lit (.bool false)], args := [d1, d2] }
  | _ => none }
def VintTellsWrongFalsely : Prop := vintTellsRow.holds Try.pinned (OpenSpec.ofChange vintTellsWrong)

/-- 'hamperlaw18.VintBack': WHATEVER THE INPUT: true; the input reads as it did. -/
def vintBackSpec : ChangeSpec := { name := "vintBack", fn := fun _ => fun
  | [d1, d2, d3] => { results := [.lit (.bool true)], args := [d1, d2, d3] }
  | _ => none }
def vintBackRow : OpenClaim := { program := "ytaclccafbdcpoaa", sum := "f61aeed7a0f2b6372992e07915352ba884c47584bbf406d98481bc4971cb7f7f", func := "hamper/hamperlaw18.VintBack", spec := "vintBack", unfollowed := true, recurses := true, apart := false }
def VintBackSaid : Prop := vintBackRow.holds Try.pinned (OpenSpec.ofChange vintBackSpec)

/-- ITS FALSE NEIGHBOUR: 'it returns false'. Refute it at one input. -/
def vintBackWrong : ChangeSpec := { name := "vintBack", fn := fun _ => fun
  | [d1, d2, d3] => { results := [.lit (.bool false)], args := [d1, d2, d3] }
  | _ => none }
def VintBackWrongFalsely : Prop := vintBackRow.holds Try.pinned (OpenSpec.ofChange vintBackWrong)

/-- 'hamperlaw18.VintSize': WHATEVER THE INPUT: true; the input reads as it did. -/
def vintSizeSpec : ChangeSpec := { name := "vintSize", fn := fun _ => fun
  | [d] => { results := [.lit (.bool true)], args := [d] }
  | _ => none }
def vintSizeRow : OpenClaim := { program := "ytaclccafbdcpoaa", sum := "f61aeed7a0f2b6372992e07915352ba884c47584bbf406d98481bc4971cb7f7f", func := "hamper/hamperlaw18.VintSize", spec := "vintSize", unfollowed := true, recurses := true, apart := false }
def VintSizeSaid : Prop := vintSizeRow.holds Try.pinned (OpenSpec.ofChange vintSizeSpec)

/-- ITS FALSE NEIGHBOUR: 'it returns false'. Refute it at one input. -/
def vintSizeWrong : ChangeSpec := { name := "vintSize", fn := fun _ => fun
  | [d] => { results := [.lit (.bool false)], args := [d] }
  | _ => none }
def VintSizeWrongFalsely : Prop := vintSizeRow.holds Try.pinned (OpenSpec.ofChange vintSizeWrong)

/-- 'hamperlaw18.VintReads': WHATEVER THE INPUT: true; the input reads as it did. -/
def vintReadsSpec : ChangeSpec := { name := "vintReads", fn := fun _ => fun
  | [d1, d2] => { results := [.lit (.bool true)], args := [d1, d2] }
  | _ => none }
def vintReadsRow : OpenClaim := { program := "ytaclccafbdcpoaa", sum := "f61aeed7a0f2b6372992e07915352ba884c47584bbf406d98481bc4971cb7f7f", func := "hamper/hamperlaw18.VintReads", spec := "vintReads", unfollowed := true, recurses := true, apart := false }
def VintReadsSaid : Prop := vintReadsRow.holds Try.pinned (OpenSpec.ofChange vintReadsSpec)

/-- ITS FALSE NEIGHBOUR: 'it returns false'. Refute it at one input. -/
def vintReadsWrong : ChangeSpec := { name := "vintReads", fn := fun _ => fun
  | [d1, d2] => { results := [.lit (.bool false)], args := [d1, d2] }
  | _ => none }
def VintReadsWrongFalsely : Prop := vintReadsRow.holds Try.pinned (OpenSpec.ofChange vintReadsWrong)

/-- 'hamperlaw18.VintNames': WHATEVER THE INPUT: true; the input reads as it did. -/
def vintNamesSpec : ChangeSpec := { name := "vintNames", fn := fun _ => fun
  | [] => { results := [.lit (.bool true)], args := [] }
  | _ => none }
def vintNamesRow : OpenClaim := { program := "ytaclccafbdcpoaa", sum := "f61aeed7a0f2b6372992e07915352ba884c47584bbf406d98481bc4971cb7f7f", func := "hamper/hamperlaw18.VintNames", spec := "vintNames", unfollowed := true, recurses := true, apart := false }
def VintNamesSaid : Prop := vintNamesRow.holds Try.pinned (OpenSpec.ofChange vintNamesSpec)

/-- ITS FALSE NEIGHBOUR: 'it returns false'. Refute it at one input. -/
def vintNamesWrong : ChangeSpec := { name := "vintNames", fn := fun _ => fun
  | [] => { results := [.lit (.bool false)], args := [] }
  | _ => none }
def VintNamesWrongFalsely : Prop := vintNamesRow.holds Try.pinned (OpenSpec.ofChange vintNamesWrong)

/-- 'hamperlaw18.VintLong': WHATEVER THE INPUT: true; the input reads as it did. -/
def vintLongSpec : ChangeSpec := { name := "vintLong", fn := fun _ => fun
  | [d1, d2] => { results := [.lit (.bool true)], args := [d1, d2] }
  | _ => none }
def vintLongRow : OpenClaim := { program := "ytaclccafbdcpoaa", sum := "f61aeed7a0f2b6372992e07915352ba884c47584bbf406d98481bc4971cb7f7f", func := "hamper/hamperlaw18.VintLong", spec := "vintLong", unfollowed := true, recurses := true, apart := false }
def VintLongSaid : Prop := vintLongRow.holds Try.pinned (OpenSpec.ofChange vintLongSpec)

/-- ITS FALSE NEIGHBOUR: 'it returns false'. Refute it at one input. -/
def vintLongWrong : ChangeSpec := { name := "vintLong", fn := fun _ => fun
  | [d1, d2] => { results := [.lit (.bool false)], args := [d1, d2] }
  | _ => none }
def VintLongWrongFalsely : Prop := vintLongRow.holds Try.pinned (OpenSpec.ofChange vintLongWrong)

/-- 'hamperlaw18.VintBad': WHATEVER THE INPUT: true; the input reads as it did. -/
def vintBadSpec : ChangeSpec := { name := "vintBad", fn := fun _ => fun
  | [d1, d2] => { results := [.lit (.bool true)], args := [d1, d2] }
  | _ => none }
def vintBadRow : OpenClaim := { program := "ytaclccafbdcpoaa", sum := "f61aeed7a0f2b6372992e07915352ba884c47584bbf406d98481bc4971cb7f7f", func := "hamper/hamperlaw18.VintBad", spec := "vintBad", unfollowed := true, recurses := true, apart := false }
def VintBadSaid : Prop := vintBadRow.holds Try.pinned (OpenSpec.ofChange vintBadSpec)

/-- ITS FALSE NEIGHBOUR: 'it returns false'. Refute it at one input. -/
def vintBadWrong : ChangeSpec := { name := "vintBad", fn := fun _ => fun
  | [d1, d2] => { results := [.lit (.bool false)], args := [d1, d2] }
  | _ => none }
def VintBadWrongFalsely : Prop := vintBadRow.holds Try.pinned (OpenSpec.ofChange vintBadWrong)

/- THE SECOND FORM. 'bulk': how many values and letters a reading holds, each counted each time it is reached (what is shared counts as often as it is met; a slice's spare places count too). A statement '..UptoSaid' is the law's where the arguments, and the package variables that the reading takes, are together of bulk at most 1048576: NARROWER than '..Said'. Prove '..Said' where nothing that the law and all that it calls make is longer than what came in: it says more and counts as full. Else prove '..UptoSaid'. A law counts once. -/
mutual
def uptoBulk {H : Type} : DataW H → Nat
  | .lit (.string bytes) => bytes.length + 1
  | .lit _ => 1
  | .nil => 1
  | .ptr d => uptoBulk d + 1
  | .slice elems spare => uptoBulkAll elems + uptoBulkAll spare + 1
  | .agg parts => uptoBulkAll parts + 1
  | .iface _ d => uptoBulk d + 1
  | .map entries => uptoBulkEntries entries + 1
  | .held _ => 1
def uptoBulkAll {H : Type} : List (DataW H) → Nat
  | [] => 0
  | d :: r => uptoBulk d + uptoBulkAll r
def uptoBulkEntries {H : Type} : List (Lit × DataW H) → Nat
  | [] => 0
  | x :: r => uptoBulkEntry x + uptoBulkEntries r
def uptoBulkEntry {H : Type} : Lit × DataW H → Nat
  | (.string bytes, d) => bytes.length + uptoBulk d + 1
  | (_, d) => uptoBulk d + 1
 end
def uptoSmall : (H : Type) → List (DataW H) → Bool := fun _ ds => decide (uptoBulkAll ds ≤ 1048576)
def OpenSpec.upto (s : _root_.Go.ChangeSpec) : _root_.Go.OpenSpec := { _root_.Go.OpenSpec.ofChange s with cond := some uptoSmall }

/-- 'hamperlaw18.VintTells', WHERE WHAT IT READS IS OF BULK AT MOST 1048576: true; the input reads as it did. -/
def vintTellsUptoRow : OpenClaim := { program := "ytaclccafbdcpoaa", sum := "f61aeed7a0f2b6372992e07915352ba884c47584bbf406d98481bc4971cb7f7f", func := "hamper/hamperlaw18.VintTells", spec := "vintTells", unfollowed := true, recurses := true, apart := false, narrowed := true }
def VintTellsUptoSaid : Prop := vintTellsUptoRow.holds Try.pinned (OpenSpec.upto vintTellsSpec)

/-- 'hamperlaw18.VintBack', WHERE WHAT IT READS IS OF BULK AT MOST 1048576: true; the input reads as it did. -/
def vintBackUptoRow : OpenClaim := { program := "ytaclccafbdcpoaa", sum := "f61aeed7a0f2b6372992e07915352ba884c47584bbf406d98481bc4971cb7f7f", func := "hamper/hamperlaw18.VintBack", spec := "vintBack", unfollowed := true, recurses := true, apart := false, narrowed := true }
def VintBackUptoSaid : Prop := vintBackUptoRow.holds Try.pinned (OpenSpec.upto vintBackSpec)

/-- 'hamperlaw18.VintSize', WHERE WHAT IT READS IS OF BULK AT MOST 1048576: true; the input reads as it did. -/
def vintSizeUptoRow : OpenClaim := { program := "ytaclccafbdcpoaa", sum := "f61aeed7a0f2b6372992e07915352ba884c47584bbf406d98481bc4971cb7f7f", func := "hamper/hamperlaw18.VintSize", spec := "vintSize", unfollowed := true, recurses := true, apart := false, narrowed := true }
def VintSizeUptoSaid : Prop := vintSizeUptoRow.holds Try.pinned (OpenSpec.upto vintSizeSpec)

/-- 'hamperlaw18.VintReads', WHERE WHAT IT READS IS OF BULK AT MOST 1048576: true; the input reads as it did. -/
def vintReadsUptoRow : OpenClaim := { program := "ytaclccafbdcpoaa", sum := "f61aeed7a0f2b6372992e07915352ba884c47584bbf406d98481bc4971cb7f7f", func := "hamper/hamperlaw18.VintReads", spec := "vintReads", unfollowed := true, recurses := true, apart := false, narrowed := true }
def VintReadsUptoSaid : Prop := vintReadsUptoRow.holds Try.pinned (OpenSpec.upto vintReadsSpec)

/-- 'hamperlaw18.VintNames', WHERE WHAT IT READS IS OF BULK AT MOST 1048576: true; the input reads as it did. -/
def vintNamesUptoRow : OpenClaim := { program := "ytaclccafbdcpoaa", sum := "f61aeed7a0f2b6372992e07915352ba884c47584bbf406d98481bc4971cb7f7f", func := "hamper/hamperlaw18.VintNames", spec := "vintNames", unfollowed := true, recurses := true, apart := false, narrowed := true }
def VintNamesUptoSaid : Prop := vintNamesUptoRow.holds Try.pinned (OpenSpec.upto vintNamesSpec)

/-- 'hamperlaw18.VintLong', WHERE WHAT IT READS IS OF BULK AT MOST 1048576: true; the input reads as it did. -/
def vintLongUptoRow : OpenClaim := { program := "ytaclccafbdcpoaa", sum := "f61aeed7a0f2b6372992e07915352ba884c47584bbf406d98481bc4971cb7f7f", func := "hamper/hamperlaw18.VintLong", spec := "vintLong", unfollowed := true, recurses := true, apart := false, narrowed := true }
def VintLongUptoSaid : Prop := vintLongUptoRow.holds Try.pinned (OpenSpec.upto vintLongSpec)

/-- 'hamperlaw18.VintBad', WHERE WHAT IT READS IS OF BULK AT MOST 1048576: true; the input reads as it did. -/
def vintBadUptoRow : OpenClaim := { program := "ytaclccafbdcpoaa", sum := "f61aeed7a0f2b6372992e07915352ba884c47584bbf406d98481bc4971cb7f7f", func := "hamper/hamperlaw18.VintBad", spec := "vintBad", unfollowed := true, recurses := true, apart := false, narrowed := true }
def VintBadUptoSaid : Prop := vintBadUptoRow.holds Try.pinned (OpenSpec.upto vintBadSpec)

end Rows
end Go.Proofs.Ytaclccafbdcpoaa
