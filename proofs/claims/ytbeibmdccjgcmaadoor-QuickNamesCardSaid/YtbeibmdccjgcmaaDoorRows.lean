/-
  NARROWER THAN 'FOR EVERY INPUT', by the rows' own cells (each row's printed sentence says how): QuickMakes: laid · QuickReads: laid · QuickMore: laid · QuickNames: laid · QuickBack: laid · QuickTurned: laid.
  DERIVED. THE GIVEN ROWS OF THIS SEAT. 6 by the template 'for every input the law returns true; each argument reads behind the call as it read before'; 0 by the template 'total and deterministic' (their statements: YtbeibmdccjgcmaaDoorTotals.lean).
  GIVEN WITH THE SEED: the statements are not yours to turn. If you find one false, say at which input.
  Laid BY PROGRAM, IN A SANDBOX (cutbox-rows.mjs): the forced cells as the released guide's own fill.sh prints them over the translation fc8d43395897b129… (all of the seat's roots in one cut). By AI agents, Wed Nov 11 2026. No macro, syntax, notation, axiom, sorry.
-/
import Derived.Test.YtbeibmdccjgcmaaDoorChecked
import GoSem.PinnedTables
import GoSem.Claim
import GoSem.ClaimJoined
import GoSem.ClaimMapViews
import Derived.JoinedTies
import Derived.KernelRfl
namespace Go.Proofs.YtbeibmdccjgcmaaDoor
/- THE CELL 'sum', in the pinned program and in every row, IS THE sha256 OF THE DUMP (.gsa) THAT YtbeibmdccjgcmaaDoorProg.lean LOADS. Nothing in Lean hashes anything: it is a label: what it is worth is what the hold of that sum in a sandbox is worth. -/
noncomputable def Tryd.pinned : Pinned := { name := "ytbeibmdccjgcmaadoor", sum := "fc8d43395897b12971dffc5d7d85bd5fa4f566096ec9608455c4125b78f7a32d", checked := Tryd.checked }
namespace Rows
def none {H : Type} : Left H := { results := [], args := [] }

/- WHAT THE LISTED PACKAGE-LEVEL VARIABLES READ AS WHEN THE CALL BEGINS. Each datum BY PROGRAM (the guide's laid-datum.mjs) off the statement by which the dump's own 'gosem.cut.vars' lays the variable. In a bare row this is a premise. The card (YtbeibmdccjgcmaaDoorCards.lean) ties it to the program's text. -/
def laid_unicode_utf8_acceptRanges {H : Type} : DataW H := .agg [.agg [.lit (.int .u8 128), .lit (.int .u8 191)], .agg [.lit (.int .u8 160), .lit (.int .u8 191)], .agg [.lit (.int .u8 128), .lit (.int .u8 159)], .agg [.lit (.int .u8 144), .lit (.int .u8 191)], .agg [.lit (.int .u8 128), .lit (.int .u8 143)], .agg [.lit (.int .u8 0), .lit (.int .u8 0)], .agg [.lit (.int .u8 0), .lit (.int .u8 0)], .agg [.lit (.int .u8 0), .lit (.int .u8 0)], .agg [.lit (.int .u8 0), .lit (.int .u8 0)], .agg [.lit (.int .u8 0), .lit (.int .u8 0)], .agg [.lit (.int .u8 0), .lit (.int .u8 0)], .agg [.lit (.int .u8 0), .lit (.int .u8 0)], .agg [.lit (.int .u8 0), .lit (.int .u8 0)], .agg [.lit (.int .u8 0), .lit (.int .u8 0)], .agg [.lit (.int .u8 0), .lit (.int .u8 0)], .agg [.lit (.int .u8 0), .lit (.int .u8 0)]]
/-- One of Go's own tables, pinned by name: the form's constant. -/
def laid_unicode_utf8_first : DataW Unit := Go.Pinned.utf8First

/-- 'hamperlaw21.QuickMakes': WHATEVER THE INPUT: true; the input reads as it did. -/
def quickMakesSpec : ChangeSpec := { name := "quickMakes", fn := fun _ => fun
  | [d1, d2] => { results := [.lit (.bool true)], args := [d1, d2] }
  | _ => none }
def quickMakesRow : OpenClaim := { program := "ytbeibmdccjgcmaadoor", sum := "fc8d43395897b12971dffc5d7d85bd5fa4f566096ec9608455c4125b78f7a32d", func := "hamper/hamperlaw21.QuickMakes", spec := "quickMakes", inPlace := ["internal/abi.NoEscape", "internal/bytealg.CountString", "internal/bytealg.IndexByteString", "internal/bytealg.IndexString"], unfollowed := true, recurses := true, named := ["unicode/utf8.first", "unicode/utf8.acceptRanges", "internal/bytealg.MaxLen"], apart := false, laid := [("unicode/utf8.acceptRanges", laid_unicode_utf8_acceptRanges), ("unicode/utf8.first", laid_unicode_utf8_first)] }
def QuickMakesSaid : Prop := quickMakesRow.holds Tryd.pinned (OpenSpec.ofChange quickMakesSpec)

/-- ITS FALSE NEIGHBOUR: 'it returns false'. Refute it at one input. -/
def quickMakesWrong : ChangeSpec := { name := "quickMakes", fn := fun _ => fun
  | [d1, d2] => { results := [.lit (.bool false)], args := [d1, d2] }
  | _ => none }
def QuickMakesWrongFalsely : Prop := quickMakesRow.holds Tryd.pinned (OpenSpec.ofChange quickMakesWrong)

/-- 'hamperlaw21.QuickReads': WHATEVER THE INPUT: true; the input reads as it did. -/
def quickReadsSpec : ChangeSpec := { name := "quickReads", fn := fun _ => fun
  | [d] => { results := [.lit (.bool true)], args := [d] }
  | _ => none }
def quickReadsRow : OpenClaim := { program := "ytbeibmdccjgcmaadoor", sum := "fc8d43395897b12971dffc5d7d85bd5fa4f566096ec9608455c4125b78f7a32d", func := "hamper/hamperlaw21.QuickReads", spec := "quickReads", inPlace := ["internal/abi.NoEscape", "internal/bytealg.CountString", "internal/bytealg.IndexByteString", "internal/bytealg.IndexString"], unfollowed := true, recurses := true, named := ["unicode/utf8.first", "unicode/utf8.acceptRanges", "internal/bytealg.MaxLen"], apart := false, laid := [("unicode/utf8.acceptRanges", laid_unicode_utf8_acceptRanges), ("unicode/utf8.first", laid_unicode_utf8_first)] }
def QuickReadsSaid : Prop := quickReadsRow.holds Tryd.pinned (OpenSpec.ofChange quickReadsSpec)

/-- ITS FALSE NEIGHBOUR: 'it returns false'. Refute it at one input. -/
def quickReadsWrong : ChangeSpec := { name := "quickReads", fn := fun _ => fun
  | [d] => { results := [.lit (.bool false)], args := [d] }
  | _ => none }
def QuickReadsWrongFalsely : Prop := quickReadsRow.holds Tryd.pinned (OpenSpec.ofChange quickReadsWrong)

/-- 'hamperlaw21.QuickMore': WHATEVER THE INPUT: true; the input reads as it did. -/
def quickMoreSpec : ChangeSpec := { name := "quickMore", fn := fun _ => fun
  | [d1, d2] => { results := [.lit (.bool true)], args := [d1, d2] }
  | _ => none }
def quickMoreRow : OpenClaim := { program := "ytbeibmdccjgcmaadoor", sum := "fc8d43395897b12971dffc5d7d85bd5fa4f566096ec9608455c4125b78f7a32d", func := "hamper/hamperlaw21.QuickMore", spec := "quickMore", inPlace := ["internal/abi.NoEscape", "internal/bytealg.CountString", "internal/bytealg.IndexByteString", "internal/bytealg.IndexString"], unfollowed := true, recurses := true, named := ["unicode/utf8.first", "unicode/utf8.acceptRanges", "internal/bytealg.MaxLen"], apart := false, laid := [("unicode/utf8.acceptRanges", laid_unicode_utf8_acceptRanges), ("unicode/utf8.first", laid_unicode_utf8_first)] }
def QuickMoreSaid : Prop := quickMoreRow.holds Tryd.pinned (OpenSpec.ofChange quickMoreSpec)

/-- ITS FALSE NEIGHBOUR: 'it returns false'. Refute it at one input. -/
def quickMoreWrong : ChangeSpec := { name := "quickMore", fn := fun _ => fun
  | [d1, d2] => { results := [.lit (.bool false)], args := [d1, d2] }
  | _ => none }
def QuickMoreWrongFalsely : Prop := quickMoreRow.holds Tryd.pinned (OpenSpec.ofChange quickMoreWrong)

/-- 'hamperlaw21.QuickNames': WHATEVER THE INPUT: true; the input reads as it did. -/
def quickNamesSpec : ChangeSpec := { name := "quickNames", fn := fun _ => fun
  | [] => { results := [.lit (.bool true)], args := [] }
  | _ => none }
def quickNamesRow : OpenClaim := { program := "ytbeibmdccjgcmaadoor", sum := "fc8d43395897b12971dffc5d7d85bd5fa4f566096ec9608455c4125b78f7a32d", func := "hamper/hamperlaw21.QuickNames", spec := "quickNames", inPlace := ["internal/abi.NoEscape", "internal/bytealg.CountString", "internal/bytealg.IndexByteString", "internal/bytealg.IndexString"], unfollowed := true, recurses := true, named := ["unicode/utf8.first", "unicode/utf8.acceptRanges", "internal/bytealg.MaxLen"], apart := false, laid := [("unicode/utf8.acceptRanges", laid_unicode_utf8_acceptRanges), ("unicode/utf8.first", laid_unicode_utf8_first)] }
def QuickNamesSaid : Prop := quickNamesRow.holds Tryd.pinned (OpenSpec.ofChange quickNamesSpec)

/-- ITS FALSE NEIGHBOUR: 'it returns false'. Refute it at one input. -/
def quickNamesWrong : ChangeSpec := { name := "quickNames", fn := fun _ => fun
  | [] => { results := [.lit (.bool false)], args := [] }
  | _ => none }
def QuickNamesWrongFalsely : Prop := quickNamesRow.holds Tryd.pinned (OpenSpec.ofChange quickNamesWrong)

/-- 'hamperlaw21.QuickBack': WHATEVER THE INPUT: true; the input reads as it did. -/
def quickBackSpec : ChangeSpec := { name := "quickBack", fn := fun _ => fun
  | [d1, d2, d3, d4] => { results := [.lit (.bool true)], args := [d1, d2, d3, d4] }
  | _ => none }
def quickBackRow : OpenClaim := { program := "ytbeibmdccjgcmaadoor", sum := "fc8d43395897b12971dffc5d7d85bd5fa4f566096ec9608455c4125b78f7a32d", func := "hamper/hamperlaw21.QuickBack", spec := "quickBack", inPlace := ["internal/abi.NoEscape", "internal/bytealg.CountString", "internal/bytealg.IndexByteString", "internal/bytealg.IndexString"], unfollowed := true, recurses := true, named := ["unicode/utf8.first", "unicode/utf8.acceptRanges", "internal/bytealg.MaxLen"], apart := false, laid := [("unicode/utf8.acceptRanges", laid_unicode_utf8_acceptRanges), ("unicode/utf8.first", laid_unicode_utf8_first)] }
def QuickBackSaid : Prop := quickBackRow.holds Tryd.pinned (OpenSpec.ofChange quickBackSpec)

/-- ITS FALSE NEIGHBOUR: 'it returns false'. Refute it at one input. -/
def quickBackWrong : ChangeSpec := { name := "quickBack", fn := fun _ => fun
  | [d1, d2, d3, d4] => { results := [.lit (.bool false)], args := [d1, d2, d3, d4] }
  | _ => none }
def QuickBackWrongFalsely : Prop := quickBackRow.holds Tryd.pinned (OpenSpec.ofChange quickBackWrong)

/-- 'hamperlaw21.QuickTurned': WHATEVER THE INPUT: true; the input reads as it did. -/
def quickTurnedSpec : ChangeSpec := { name := "quickTurned", fn := fun _ => fun
  | [d1, d2, d3] => { results := [.lit (.bool true)], args := [d1, d2, d3] }
  | _ => none }
def quickTurnedRow : OpenClaim := { program := "ytbeibmdccjgcmaadoor", sum := "fc8d43395897b12971dffc5d7d85bd5fa4f566096ec9608455c4125b78f7a32d", func := "hamper/hamperlaw21.QuickTurned", spec := "quickTurned", inPlace := ["internal/abi.NoEscape", "internal/bytealg.CountString", "internal/bytealg.IndexByteString", "internal/bytealg.IndexString"], unfollowed := true, recurses := true, named := ["unicode/utf8.first", "unicode/utf8.acceptRanges", "internal/bytealg.MaxLen"], apart := false, laid := [("unicode/utf8.acceptRanges", laid_unicode_utf8_acceptRanges), ("unicode/utf8.first", laid_unicode_utf8_first)] }
def QuickTurnedSaid : Prop := quickTurnedRow.holds Tryd.pinned (OpenSpec.ofChange quickTurnedSpec)

/-- ITS FALSE NEIGHBOUR: 'it returns false'. Refute it at one input. -/
def quickTurnedWrong : ChangeSpec := { name := "quickTurned", fn := fun _ => fun
  | [d1, d2, d3] => { results := [.lit (.bool false)], args := [d1, d2, d3] }
  | _ => none }
def QuickTurnedWrongFalsely : Prop := quickTurnedRow.holds Tryd.pinned (OpenSpec.ofChange quickTurnedWrong)

/- THE SECOND FORM. 'bulk': how many values and letters a reading holds, each counted each time it is reached (what is shared counts as often as it is met; a slice's spare places count too). A statement '..UptoSaid' is the law's where the arguments, and the package variables that the reading takes, are together of bulk at most 1048576: NARROWER than '..Said'. Prove '..Said' where nothing that the law and all that it calls make is longer than what came in: it says more and counts as full. Else prove '..UptoSaid'. A law counts once. -/
mutual
def uptoBulk {H : Type} : DataW H → Nat
  | .lit (.string bytes) => bytes.length + 1
  | .lit _ => 1
  | .nil => 1
  | .ptr d => uptoBulk d + 1
  | .slice elems spare => uptoBulkAll elems + uptoBulkAll spare + 1
  | .agg parts => uptoBulkAll parts + 1
  | .iface _ d => uptoBulk d + 1
  | .map entries => uptoBulkEntries entries + 1
  | .held _ => 1
def uptoBulkAll {H : Type} : List (DataW H) → Nat
  | [] => 0
  | d :: r => uptoBulk d + uptoBulkAll r
def uptoBulkEntries {H : Type} : List (Lit × DataW H) → Nat
  | [] => 0
  | x :: r => uptoBulkEntry x + uptoBulkEntries r
def uptoBulkEntry {H : Type} : Lit × DataW H → Nat
  | (.string bytes, d) => bytes.length + uptoBulk d + 1
  | (_, d) => uptoBulk d + 1
 end
def uptoSmall : (H : Type) → List (DataW H) → Bool := fun _ ds => decide (uptoBulkAll ds ≤ 1048576)
def OpenSpec.upto (s : _root_.Go.ChangeSpec) : _root_.Go.OpenSpec := { _root_.Go.OpenSpec.ofChange s with cond := some uptoSmall }

/-- 'hamperlaw21.QuickMakes', WHERE WHAT IT READS IS OF BULK AT MOST 1048576: true; the input reads as it did. -/
def quickMakesUptoRow : OpenClaim := { program := "ytbeibmdccjgcmaadoor", sum := "fc8d43395897b12971dffc5d7d85bd5fa4f566096ec9608455c4125b78f7a32d", func := "hamper/hamperlaw21.QuickMakes", spec := "quickMakes", inPlace := ["internal/abi.NoEscape", "internal/bytealg.CountString", "internal/bytealg.IndexByteString", "internal/bytealg.IndexString"], unfollowed := true, recurses := true, named := ["unicode/utf8.first", "unicode/utf8.acceptRanges", "internal/bytealg.MaxLen"], apart := false, laid := [("unicode/utf8.acceptRanges", laid_unicode_utf8_acceptRanges), ("unicode/utf8.first", laid_unicode_utf8_first)], narrowed := true }
def QuickMakesUptoSaid : Prop := quickMakesUptoRow.holds Tryd.pinned (OpenSpec.upto quickMakesSpec)

/-- 'hamperlaw21.QuickReads', WHERE WHAT IT READS IS OF BULK AT MOST 1048576: true; the input reads as it did. -/
def quickReadsUptoRow : OpenClaim := { program := "ytbeibmdccjgcmaadoor", sum := "fc8d43395897b12971dffc5d7d85bd5fa4f566096ec9608455c4125b78f7a32d", func := "hamper/hamperlaw21.QuickReads", spec := "quickReads", inPlace := ["internal/abi.NoEscape", "internal/bytealg.CountString", "internal/bytealg.IndexByteString", "internal/bytealg.IndexString"], unfollowed := true, recurses := true, named := ["unicode/utf8.first", "unicode/utf8.acceptRanges", "internal/bytealg.MaxLen"], apart := false, laid := [("unicode/utf8.acceptRanges", laid_unicode_utf8_acceptRanges), ("unicode/utf8.first", laid_unicode_utf8_first)], narrowed := true }
def QuickReadsUptoSaid : Prop := quickReadsUptoRow.holds Tryd.pinned (OpenSpec.upto quickReadsSpec)

/-- 'hamperlaw21.QuickMore', WHERE WHAT IT READS IS OF BULK AT MOST 1048576: true; the input reads as it did. -/
def quickMoreUptoRow : OpenClaim := { program := "ytbeibmdccjgcmaadoor", sum := "fc8d43395897b12971dffc5d7d85bd5fa4f566096ec9608455c4125b78f7a32d", func := "hamper/hamperlaw21.QuickMore", spec := "quickMore", inPlace := ["internal/abi.NoEscape", "internal/bytealg.CountString", "internal/bytealg.IndexByteString", "internal/bytealg.IndexString"], unfollowed := true, recurses := true, named := ["unicode/utf8.first", "unicode/utf8.acceptRanges", "internal/bytealg.MaxLen"], apart := false, laid := [("unicode/utf8.acceptRanges", laid_unicode_utf8_acceptRanges), ("unicode/utf8.first", laid_unicode_utf8_first)], narrowed := true }
def QuickMoreUptoSaid : Prop := quickMoreUptoRow.holds Tryd.pinned (OpenSpec.upto quickMoreSpec)

/-- 'hamperlaw21.QuickNames', WHERE WHAT IT READS IS OF BULK AT MOST 1048576: true; the input reads as it did. -/
def quickNamesUptoRow : OpenClaim := { program := "ytbeibmdccjgcmaadoor", sum := "fc8d43395897b12971dffc5d7d85bd5fa4f566096ec9608455c4125b78f7a32d", func := "hamper/hamperlaw21.QuickNames", spec := "quickNames", inPlace := ["internal/abi.NoEscape", "internal/bytealg.CountString", "internal/bytealg.IndexByteString", "internal/bytealg.IndexString"], unfollowed := true, recurses := true, named := ["unicode/utf8.first", "unicode/utf8.acceptRanges", "internal/bytealg.MaxLen"], apart := false, laid := [("unicode/utf8.acceptRanges", laid_unicode_utf8_acceptRanges), ("unicode/utf8.first", laid_unicode_utf8_first)], narrowed := true }
def QuickNamesUptoSaid : Prop := quickNamesUptoRow.holds Tryd.pinned (OpenSpec.upto quickNamesSpec)

/-- 'hamperlaw21.QuickBack', WHERE WHAT IT READS IS OF BULK AT MOST 1048576: true; the input reads as it did. -/
def quickBackUptoRow : OpenClaim := { program := "ytbeibmdccjgcmaadoor", sum := "fc8d43395897b12971dffc5d7d85bd5fa4f566096ec9608455c4125b78f7a32d", func := "hamper/hamperlaw21.QuickBack", spec := "quickBack", inPlace := ["internal/abi.NoEscape", "internal/bytealg.CountString", "internal/bytealg.IndexByteString", "internal/bytealg.IndexString"], unfollowed := true, recurses := true, named := ["unicode/utf8.first", "unicode/utf8.acceptRanges", "internal/bytealg.MaxLen"], apart := false, laid := [("unicode/utf8.acceptRanges", laid_unicode_utf8_acceptRanges), ("unicode/utf8.first", laid_unicode_utf8_first)], narrowed := true }
def QuickBackUptoSaid : Prop := quickBackUptoRow.holds Tryd.pinned (OpenSpec.upto quickBackSpec)

/-- 'hamperlaw21.QuickTurned', WHERE WHAT IT READS IS OF BULK AT MOST 1048576: true; the input reads as it did. -/
def quickTurnedUptoRow : OpenClaim := { program := "ytbeibmdccjgcmaadoor", sum := "fc8d43395897b12971dffc5d7d85bd5fa4f566096ec9608455c4125b78f7a32d", func := "hamper/hamperlaw21.QuickTurned", spec := "quickTurned", inPlace := ["internal/abi.NoEscape", "internal/bytealg.CountString", "internal/bytealg.IndexByteString", "internal/bytealg.IndexString"], unfollowed := true, recurses := true, named := ["unicode/utf8.first", "unicode/utf8.acceptRanges", "internal/bytealg.MaxLen"], apart := false, laid := [("unicode/utf8.acceptRanges", laid_unicode_utf8_acceptRanges), ("unicode/utf8.first", laid_unicode_utf8_first)], narrowed := true }
def QuickTurnedUptoSaid : Prop := quickTurnedUptoRow.holds Tryd.pinned (OpenSpec.upto quickTurnedSpec)

end Rows
end Go.Proofs.YtbeibmdccjgcmaaDoor
