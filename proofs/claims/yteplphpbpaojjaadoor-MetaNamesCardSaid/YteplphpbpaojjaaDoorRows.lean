/-
  NARROWER THAN 'FOR EVERY INPUT', by the rows' own cells (each row's printed sentence says how): MetaSteps: laid · MetaMakes: laid · MetaBack: laid · MetaRows: laid · MetaOf: laid · MetaReads: laid · MetaNames: laid.
  DERIVED. THE GIVEN ROWS OF THIS SEAT. 7 by the template 'for every input the law returns true; each argument reads behind the call as it read before'; 0 by the template 'total and deterministic' (their statements: YteplphpbpaojjaaDoorTotals.lean).
  GIVEN WITH THE SEED: the statements are not yours to turn. If you find one false, say at which input.
  Laid BY PROGRAM, IN A SANDBOX (cutbox-rows.mjs): the forced cells as the released guide's own fill.sh prints them over the translation 2250cb70ed97ec85… (all of the seat's roots in one cut). By AI agents, Wed Nov 11 2026. No macro, syntax, notation, axiom, sorry.
-/
import Derived.Test.YteplphpbpaojjaaDoorChecked
import GoSem.PinnedTables
import GoSem.Claim
import GoSem.ClaimJoined
import GoSem.ClaimMapViews
import Derived.JoinedTies
import Derived.KernelRfl
namespace Go.Proofs.YteplphpbpaojjaaDoor
/- THE CELL 'sum', in the pinned program and in every row, IS THE sha256 OF THE DUMP (.gsa) THAT YteplphpbpaojjaaDoorProg.lean LOADS. Nothing in Lean hashes anything: it is a label: what it is worth is what the hold of that sum in a sandbox is worth. -/
noncomputable def Tryd.pinned : Pinned := { name := "yteplphpbpaojjaadoor", sum := "2250cb70ed97ec8599dc65271d1b1eaa25d397b4372dcabb4c7c4395d8fe8d49", checked := Tryd.checked }
namespace Rows
def none {H : Type} : Left H := { results := [], args := [] }

/- WHAT THE LISTED PACKAGE-LEVEL VARIABLES READ AS WHEN THE CALL BEGINS. Each datum BY PROGRAM (the guide's laid-datum.mjs) off the statement by which the dump's own 'gosem.cut.vars' lays the variable. In a bare row this is a premise. The card (YteplphpbpaojjaaDoorCards.lean) ties it to the program's text. -/
def laid_unicode_utf8_acceptRanges {H : Type} : DataW H := .agg [.agg [.lit (.int .u8 128), .lit (.int .u8 191)], .agg [.lit (.int .u8 160), .lit (.int .u8 191)], .agg [.lit (.int .u8 128), .lit (.int .u8 159)], .agg [.lit (.int .u8 144), .lit (.int .u8 191)], .agg [.lit (.int .u8 128), .lit (.int .u8 143)], .agg [.lit (.int .u8 0), .lit (.int .u8 0)], .agg [.lit (.int .u8 0), .lit (.int .u8 0)], .agg [.lit (.int .u8 0), .lit (.int .u8 0)], .agg [.lit (.int .u8 0), .lit (.int .u8 0)], .agg [.lit (.int .u8 0), .lit (.int .u8 0)], .agg [.lit (.int .u8 0), .lit (.int .u8 0)], .agg [.lit (.int .u8 0), .lit (.int .u8 0)], .agg [.lit (.int .u8 0), .lit (.int .u8 0)], .agg [.lit (.int .u8 0), .lit (.int .u8 0)], .agg [.lit (.int .u8 0), .lit (.int .u8 0)], .agg [.lit (.int .u8 0), .lit (.int .u8 0)]]
/-- One of Go's own tables, pinned by name: the form's constant. -/
def laid_unicode_utf8_first : DataW Unit := Go.Pinned.utf8First

/-- 'hamperlaw19.MetaSteps': WHATEVER THE INPUT: true; the input reads as it did. -/
def metaStepsSpec : ChangeSpec := { name := "metaSteps", fn := fun _ => fun
  | [d] => { results := [.lit (.bool true)], args := [d] }
  | _ => none }
def metaStepsRow : OpenClaim := { program := "yteplphpbpaojjaadoor", sum := "2250cb70ed97ec8599dc65271d1b1eaa25d397b4372dcabb4c7c4395d8fe8d49", func := "hamper/hamperlaw19.MetaSteps", spec := "metaSteps", inPlace := ["internal/bytealg.CountString", "internal/bytealg.IndexByteString", "internal/bytealg.IndexString", "internal/abi.NoEscape"], unfollowed := true, recurses := true, named := ["unicode/utf8.first", "unicode/utf8.acceptRanges", "internal/bytealg.MaxLen"], apart := false, laid := [("unicode/utf8.acceptRanges", laid_unicode_utf8_acceptRanges), ("unicode/utf8.first", laid_unicode_utf8_first)] }
def MetaStepsSaid : Prop := metaStepsRow.holds Tryd.pinned (OpenSpec.ofChange metaStepsSpec)

/-- ITS FALSE NEIGHBOUR: 'it returns false'. Refute it at one input. -/
def metaStepsWrong : ChangeSpec := { name := "metaSteps", fn := fun _ => fun
  | [d] => { results := [.lit (.bool false)], args := [d] }
  | _ => none }
def MetaStepsWrongFalsely : Prop := metaStepsRow.holds Tryd.pinned (OpenSpec.ofChange metaStepsWrong)

/-- 'hamperlaw19.MetaMakes': WHATEVER THE INPUT: true; the input reads as it did. -/
def metaMakesSpec : ChangeSpec := { name := "metaMakes", fn := fun _ => fun
  | [d1, d2] => { results := [.lit (.bool true)], args := [d1, d2] }
  | _ => none }
def metaMakesRow : OpenClaim := { program := "yteplphpbpaojjaadoor", sum := "2250cb70ed97ec8599dc65271d1b1eaa25d397b4372dcabb4c7c4395d8fe8d49", func := "hamper/hamperlaw19.MetaMakes", spec := "metaMakes", inPlace := ["internal/bytealg.CountString", "internal/bytealg.IndexByteString", "internal/bytealg.IndexString", "internal/abi.NoEscape"], unfollowed := true, recurses := true, named := ["unicode/utf8.first", "unicode/utf8.acceptRanges", "internal/bytealg.MaxLen"], apart := false, laid := [("unicode/utf8.acceptRanges", laid_unicode_utf8_acceptRanges), ("unicode/utf8.first", laid_unicode_utf8_first)] }
def MetaMakesSaid : Prop := metaMakesRow.holds Tryd.pinned (OpenSpec.ofChange metaMakesSpec)

/-- ITS FALSE NEIGHBOUR: 'it returns false'. Refute it at one input. -/
def metaMakesWrong : ChangeSpec := { name := "metaMakes", fn := fun _ => fun
  | [d1, d2] => { results := [.lit (.bool false)], args := [d1, d2] }
  | _ => none }
def MetaMakesWrongFalsely : Prop := metaMakesRow.holds Tryd.pinned (OpenSpec.ofChange metaMakesWrong)

/-- 'hamperlaw19.MetaBack': WHATEVER THE INPUT: true; the input reads as it did. -/
def metaBackSpec : ChangeSpec := { name := "metaBack", fn := fun _ => fun
  | [d1, d2, d3, d4] => { results := [.lit (.bool true)], args := [d1, d2, d3, d4] }
  | _ => none }
def metaBackRow : OpenClaim := { program := "yteplphpbpaojjaadoor", sum := "2250cb70ed97ec8599dc65271d1b1eaa25d397b4372dcabb4c7c4395d8fe8d49", func := "hamper/hamperlaw19.MetaBack", spec := "metaBack", inPlace := ["internal/bytealg.CountString", "internal/bytealg.IndexByteString", "internal/bytealg.IndexString", "internal/abi.NoEscape"], unfollowed := true, recurses := true, named := ["unicode/utf8.first", "unicode/utf8.acceptRanges", "internal/bytealg.MaxLen"], apart := false, laid := [("unicode/utf8.acceptRanges", laid_unicode_utf8_acceptRanges), ("unicode/utf8.first", laid_unicode_utf8_first)] }
def MetaBackSaid : Prop := metaBackRow.holds Tryd.pinned (OpenSpec.ofChange metaBackSpec)

/-- ITS FALSE NEIGHBOUR: 'it returns false'. Refute it at one input. -/
def metaBackWrong : ChangeSpec := { name := "metaBack", fn := fun _ => fun
  | [d1, d2, d3, d4] => { results := [.lit (.bool false)], args := [d1, d2, d3, d4] }
  | _ => none }
def MetaBackWrongFalsely : Prop := metaBackRow.holds Tryd.pinned (OpenSpec.ofChange metaBackWrong)

/-- 'hamperlaw19.MetaRows': WHATEVER THE INPUT: true; the input reads as it did. -/
def metaRowsSpec : ChangeSpec := { name := "metaRows", fn := fun _ => fun
  | [d] => { results := [.lit (.bool true)], args := [d] }
  | _ => none }
def metaRowsRow : OpenClaim := { program := "yteplphpbpaojjaadoor", sum := "2250cb70ed97ec8599dc65271d1b1eaa25d397b4372dcabb4c7c4395d8fe8d49", func := "hamper/hamperlaw19.MetaRows", spec := "metaRows", inPlace := ["internal/bytealg.CountString", "internal/bytealg.IndexByteString", "internal/bytealg.IndexString", "internal/abi.NoEscape"], unfollowed := true, recurses := true, named := ["unicode/utf8.first", "unicode/utf8.acceptRanges", "internal/bytealg.MaxLen"], apart := false, laid := [("unicode/utf8.acceptRanges", laid_unicode_utf8_acceptRanges), ("unicode/utf8.first", laid_unicode_utf8_first)] }
def MetaRowsSaid : Prop := metaRowsRow.holds Tryd.pinned (OpenSpec.ofChange metaRowsSpec)

/-- ITS FALSE NEIGHBOUR: 'it returns false'. Refute it at one input. -/
def metaRowsWrong : ChangeSpec := { name := "metaRows", fn := fun _ => fun
  | [d] => { results := [.lit (.bool false)], args := [d] }
  | _ => none }
def MetaRowsWrongFalsely : Prop := metaRowsRow.holds Tryd.pinned (OpenSpec.ofChange metaRowsWrong)

/-- 'hamperlaw19.MetaOf': WHATEVER THE INPUT: true; the input reads as it did. -/
def metaOfSpec : ChangeSpec := { name := "metaOf", fn := fun _ => fun
  | [d1, d2] => { results := [.lit (.bool true)], args := [d1, d2] }
  | _ => none }
def metaOfRow : OpenClaim := { program := "yteplphpbpaojjaadoor", sum := "2250cb70ed97ec8599dc65271d1b1eaa25d397b4372dcabb4c7c4395d8fe8d49", func := "hamper/hamperlaw19.MetaOf", spec := "metaOf", inPlace := ["internal/bytealg.CountString", "internal/bytealg.IndexByteString", "internal/bytealg.IndexString", "internal/abi.NoEscape"], unfollowed := true, recurses := true, named := ["unicode/utf8.first", "unicode/utf8.acceptRanges", "internal/bytealg.MaxLen"], apart := false, laid := [("unicode/utf8.acceptRanges", laid_unicode_utf8_acceptRanges), ("unicode/utf8.first", laid_unicode_utf8_first)] }
def MetaOfSaid : Prop := metaOfRow.holds Tryd.pinned (OpenSpec.ofChange metaOfSpec)

/-- ITS FALSE NEIGHBOUR: 'it returns false'. Refute it at one input. -/
def metaOfWrong : ChangeSpec := { name := "metaOf", fn := fun _ => fun
  | [d1, d2] => { results := [.lit (.bool false)], args := [d1, d2] }
  | _ => none }
def MetaOfWrongFalsely : Prop := metaOfRow.holds Tryd.pinned (OpenSpec.ofChange metaOfWrong)

/-- 'hamperlaw19.MetaReads': WHATEVER THE INPUT: true; the input reads as it did. -/
def metaReadsSpec : ChangeSpec := { name := "metaReads", fn := fun _ => fun
  | [d1, d2] => { results := [.lit (.bool true)], args := [d1, d2] }
  | _ => none }
def metaReadsRow : OpenClaim := { program := "yteplphpbpaojjaadoor", sum := "2250cb70ed97ec8599dc65271d1b1eaa25d397b4372dcabb4c7c4395d8fe8d49", func := "hamper/hamperlaw19.MetaReads", spec := "metaReads", inPlace := ["internal/bytealg.CountString", "internal/bytealg.IndexByteString", "internal/bytealg.IndexString", "internal/abi.NoEscape"], unfollowed := true, recurses := true, named := ["unicode/utf8.first", "unicode/utf8.acceptRanges", "internal/bytealg.MaxLen"], apart := false, laid := [("unicode/utf8.acceptRanges", laid_unicode_utf8_acceptRanges), ("unicode/utf8.first", laid_unicode_utf8_first)] }
def MetaReadsSaid : Prop := metaReadsRow.holds Tryd.pinned (OpenSpec.ofChange metaReadsSpec)

/-- ITS FALSE NEIGHBOUR: 'it returns false'. Refute it at one input. -/
def metaReadsWrong : ChangeSpec := { name := "metaReads", fn := fun _ => fun
  | [d1, d2] => { results := [.lit (.bool false)], args := [d1, d2] }
  | _ => none }
def MetaReadsWrongFalsely : Prop := metaReadsRow.holds Tryd.pinned (OpenSpec.ofChange metaReadsWrong)

/-- 'hamperlaw19.MetaNames': WHATEVER THE INPUT: true; the input reads as it did. -/
def metaNamesSpec : ChangeSpec := { name := "metaNames", fn := fun _ => fun
  | [] => { results := [.lit (.bool true)], args := [] }
  | _ => none }
def metaNamesRow : OpenClaim := { program := "yteplphpbpaojjaadoor", sum := "2250cb70ed97ec8599dc65271d1b1eaa25d397b4372dcabb4c7c4395d8fe8d49", func := "hamper/hamperlaw19.MetaNames", spec := "metaNames", inPlace := ["internal/bytealg.CountString", "internal/bytealg.IndexByteString", "internal/bytealg.IndexString", "internal/abi.NoEscape"], unfollowed := true, recurses := true, named := ["unicode/utf8.first", "unicode/utf8.acceptRanges", "internal/bytealg.MaxLen"], apart := false, laid := [("unicode/utf8.acceptRanges", laid_unicode_utf8_acceptRanges), ("unicode/utf8.first", laid_unicode_utf8_first)] }
def MetaNamesSaid : Prop := metaNamesRow.holds Tryd.pinned (OpenSpec.ofChange metaNamesSpec)

/-- ITS FALSE NEIGHBOUR: 'it returns false'. Refute it at one input. -/
def metaNamesWrong : ChangeSpec := { name := "metaNames", fn := fun _ => fun
  | [] => { results := [.lit (.bool false)], args := [] }
  | _ => none }
def MetaNamesWrongFalsely : Prop := metaNamesRow.holds Tryd.pinned (OpenSpec.ofChange metaNamesWrong)

/- THE SECOND FORM. 'bulk': how many values and letters a reading holds, each counted each time it is reached (what is shared counts as often as it is met; a slice's spare places count too). A statement '..UptoSaid' is the law's where the arguments, and the package variables that the reading takes, are together of bulk at most 1048576: NARROWER than '..Said'. Prove '..Said' where nothing that the law and all that it calls make is longer than what came in: it says more and counts as full. Else prove '..UptoSaid'. A law counts once. -/
mutual
def uptoBulk {H : Type} : DataW H → Nat
  | .lit (.string bytes) => bytes.length + 1
  | .lit _ => 1
  | .nil => 1
  | .ptr d => uptoBulk d + 1
  | .slice elems spare => uptoBulkAll elems + uptoBulkAll spare + 1
  | .agg parts => uptoBulkAll parts + 1
  | .iface _ d => uptoBulk d + 1
  | .map entries => uptoBulkEntries entries + 1
  | .held _ => 1
def uptoBulkAll {H : Type} : List (DataW H) → Nat
  | [] => 0
  | d :: r => uptoBulk d + uptoBulkAll r
def uptoBulkEntries {H : Type} : List (Lit × DataW H) → Nat
  | [] => 0
  | x :: r => uptoBulkEntry x + uptoBulkEntries r
def uptoBulkEntry {H : Type} : Lit × DataW H → Nat
  | (.string bytes, d) => bytes.length + uptoBulk d + 1
  | (_, d) => uptoBulk d + 1
 end
def uptoSmall : (H : Type) → List (DataW H) → Bool := fun _ ds => decide (uptoBulkAll ds ≤ 1048576)
def OpenSpec.upto (s : _root_.Go.ChangeSpec) : _root_.Go.OpenSpec := { _root_.Go.OpenSpec.ofChange s with cond := some uptoSmall }

/-- 'hamperlaw19.MetaSteps', WHERE WHAT IT READS IS OF BULK AT MOST 1048576: true; the input reads as it did. -/
def metaStepsUptoRow : OpenClaim := { program := "yteplphpbpaojjaadoor", sum := "2250cb70ed97ec8599dc65271d1b1eaa25d397b4372dcabb4c7c4395d8fe8d49", func := "hamper/hamperlaw19.MetaSteps", spec := "metaSteps", inPlace := ["internal/bytealg.CountString", "internal/bytealg.IndexByteString", "internal/bytealg.IndexString", "internal/abi.NoEscape"], unfollowed := true, recurses := true, named := ["unicode/utf8.first", "unicode/utf8.acceptRanges", "internal/bytealg.MaxLen"], apart := false, laid := [("unicode/utf8.acceptRanges", laid_unicode_utf8_acceptRanges), ("unicode/utf8.first", laid_unicode_utf8_first)], narrowed := true }
def MetaStepsUptoSaid : Prop := metaStepsUptoRow.holds Tryd.pinned (OpenSpec.upto metaStepsSpec)

/-- 'hamperlaw19.MetaMakes', WHERE WHAT IT READS IS OF BULK AT MOST 1048576: true; the input reads as it did. -/
def metaMakesUptoRow : OpenClaim := { program := "yteplphpbpaojjaadoor", sum := "2250cb70ed97ec8599dc65271d1b1eaa25d397b4372dcabb4c7c4395d8fe8d49", func := "hamper/hamperlaw19.MetaMakes", spec := "metaMakes", inPlace := ["internal/bytealg.CountString", "internal/bytealg.IndexByteString", "internal/bytealg.IndexString", "internal/abi.NoEscape"], unfollowed := true, recurses := true, named := ["unicode/utf8.first", "unicode/utf8.acceptRanges", "internal/bytealg.MaxLen"], apart := false, laid := [("unicode/utf8.acceptRanges", laid_unicode_utf8_acceptRanges), ("unicode/utf8.first", laid_unicode_utf8_first)], narrowed := true }
def MetaMakesUptoSaid : Prop := metaMakesUptoRow.holds Tryd.pinned (OpenSpec.upto metaMakesSpec)

/-- 'hamperlaw19.MetaBack', WHERE WHAT IT READS IS OF BULK AT MOST 1048576: true; the input reads as it did. -/
def metaBackUptoRow : OpenClaim := { program := "yteplphpbpaojjaadoor", sum := "2250cb70ed97ec8599dc65271d1b1eaa25d397b4372dcabb4c7c4395d8fe8d49", func := "hamper/hamperlaw19.MetaBack", spec := "metaBack", inPlace := ["internal/bytealg.CountString", "internal/bytealg.IndexByteString", "internal/bytealg.IndexString", "internal/abi.NoEscape"], unfollowed := true, recurses := true, named := ["unicode/utf8.first", "unicode/utf8.acceptRanges", "internal/bytealg.MaxLen"], apart := false, laid := [("unicode/utf8.acceptRanges", laid_unicode_utf8_acceptRanges), ("unicode/utf8.first", laid_unicode_utf8_first)], narrowed := true }
def MetaBackUptoSaid : Prop := metaBackUptoRow.holds Tryd.pinned (OpenSpec.upto metaBackSpec)

/-- 'hamperlaw19.MetaRows', WHERE WHAT IT READS IS OF BULK AT MOST 1048576: true; the input reads as it did. -/
def metaRowsUptoRow : OpenClaim := { program := "yteplphpbpaojjaadoor", sum := "2250cb70ed97ec8599dc65271d1b1eaa25d397b4372dcabb4c7c4395d8fe8d49", func := "hamper/hamperlaw19.MetaRows", spec := "metaRows", inPlace := ["internal/bytealg.CountString", "internal/bytealg.IndexByteString", "internal/bytealg.IndexString", "internal/abi.NoEscape"], unfollowed := true, recurses := true, named := ["unicode/utf8.first", "unicode/utf8.acceptRanges", "internal/bytealg.MaxLen"], apart := false, laid := [("unicode/utf8.acceptRanges", laid_unicode_utf8_acceptRanges), ("unicode/utf8.first", laid_unicode_utf8_first)], narrowed := true }
def MetaRowsUptoSaid : Prop := metaRowsUptoRow.holds Tryd.pinned (OpenSpec.upto metaRowsSpec)

/-- 'hamperlaw19.MetaOf', WHERE WHAT IT READS IS OF BULK AT MOST 1048576: true; the input reads as it did. -/
def metaOfUptoRow : OpenClaim := { program := "yteplphpbpaojjaadoor", sum := "2250cb70ed97ec8599dc65271d1b1eaa25d397b4372dcabb4c7c4395d8fe8d49", func := "hamper/hamperlaw19.MetaOf", spec := "metaOf", inPlace := ["internal/bytealg.CountString", "internal/bytealg.IndexByteString", "internal/bytealg.IndexString", "internal/abi.NoEscape"], unfollowed := true, recurses := true, named := ["unicode/utf8.first", "unicode/utf8.acceptRanges", "internal/bytealg.MaxLen"], apart := false, laid := [("unicode/utf8.acceptRanges", laid_unicode_utf8_acceptRanges), ("unicode/utf8.first", laid_unicode_utf8_first)], narrowed := true }
def MetaOfUptoSaid : Prop := metaOfUptoRow.holds Tryd.pinned (OpenSpec.upto metaOfSpec)

/-- 'hamperlaw19.MetaReads', WHERE WHAT IT READS IS OF BULK AT MOST 1048576: true; the input reads as it did. -/
def metaReadsUptoRow : OpenClaim := { program := "yteplphpbpaojjaadoor", sum := "2250cb70ed97ec8599dc65271d1b1eaa25d397b4372dcabb4c7c4395d8fe8d49", func := "hamper/hamperlaw19.MetaReads", spec := "metaReads", inPlace := ["internal/bytealg.CountString", "internal/bytealg.IndexByteString", "internal/bytealg.IndexString", "internal/abi.NoEscape"], unfollowed := true, recurses := true, named := ["unicode/utf8.first", "unicode/utf8.acceptRanges", "internal/bytealg.MaxLen"], apart := false, laid := [("unicode/utf8.acceptRanges", laid_unicode_utf8_acceptRanges), ("unicode/utf8.first", laid_unicode_utf8_first)], narrowed := true }
def MetaReadsUptoSaid : Prop := metaReadsUptoRow.holds Tryd.pinned (OpenSpec.upto metaReadsSpec)

/-- 'hamperlaw19.MetaNames', WHERE WHAT IT READS IS OF BULK AT MOST 1048576: true; the input reads as it did. -/
def metaNamesUptoRow : OpenClaim := { program := "yteplphpbpaojjaadoor", sum := "2250cb70ed97ec8599dc65271d1b1eaa25d397b4372dcabb4c7c4395d8fe8d49", func := "hamper/hamperlaw19.MetaNames", spec := "metaNames", inPlace := ["internal/bytealg.CountString", "internal/bytealg.IndexByteString", "internal/bytealg.IndexString", "internal/abi.NoEscape"], unfollowed := true, recurses := true, named := ["unicode/utf8.first", "unicode/utf8.acceptRanges", "internal/bytealg.MaxLen"], apart := false, laid := [("unicode/utf8.acceptRanges", laid_unicode_utf8_acceptRanges), ("unicode/utf8.first", laid_unicode_utf8_first)], narrowed := true }
def MetaNamesUptoSaid : Prop := metaNamesUptoRow.holds Tryd.pinned (OpenSpec.upto metaNamesSpec)

end Rows
end Go.Proofs.YteplphpbpaojjaaDoor
