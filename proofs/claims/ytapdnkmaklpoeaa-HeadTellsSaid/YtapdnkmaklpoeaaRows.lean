/-
  No cell of these rows narrows 'for every input' (looked for: loops, veiled, ifaces, maps, wideKeys, modest, calm, conditions, laid).
  DERIVED. THE GIVEN ROWS OF THIS SEAT. 6 by the template 'for every input the law returns true; each argument reads behind the call as it read before'; 0 by the template 'total and deterministic' (their statements: YtapdnkmaklpoeaaTotals.lean).
  GIVEN WITH THE SEED: the statements are not yours to turn. If you find one false, say at which input.
  Laid BY PROGRAM, IN A SANDBOX (cutbox-rows.mjs): the forced cells as the released guide's own fill.sh prints them over the translation b6070cbbb26f314a… (all of the seat's roots in one cut). By AI agents, Wed Nov 11 2026. No macro, syntax, notation, axiom, sorry.
-/
import Derived.Test.YtapdnkmaklpoeaaChecked
import GoSem.Claim
import GoSem.ClaimJoined
import GoSem.ClaimMapViews
import Derived.JoinedTies
import Derived.KernelRfl
namespace Go.Proofs.Ytapdnkmaklpoeaa
/- THE CELL 'sum', in the pinned program and in every row, IS THE sha256 OF THE DUMP (.gsa) THAT YtapdnkmaklpoeaaProg.lean LOADS. Nothing in Lean hashes anything: it is a label: what it is worth is what the hold of that sum in a sandbox is worth. -/
noncomputable def Try.pinned : Pinned := { name := "ytapdnkmaklpoeaa", sum := "b6070cbbb26f314ac34eed3d086fd2989d90e2f0a4f2f0e6cbe26c683b54637c", checked := Try.checked }
namespace Rows
def none {H : Type} : Left H := { results := [], args := [] }

/-- 'hamperlaw20.HeadTells': WHATEVER THE INPUT: true; the input reads as it did. -/
def headTellsSpec : ChangeSpec := { name := "headTells", fn := fun _ => fun
  | [d1, d2] => { results := [.lit (.bool true)], args := [d1, d2] }
  | _ => none }
def headTellsRow : OpenClaim := { program := "ytapdnkmaklpoeaa", sum := "b6070cbbb26f314ac34eed3d086fd2989d90e2f0a4f2f0e6cbe26c683b54637c", func := "hamper/hamperlaw20.HeadTells", spec := "headTells", inPlace := ["internal/abi.NoEscape"], unfollowed := true, recurses := true, apart := false }
def HeadTellsSaid : Prop := headTellsRow.holds Try.pinned (OpenSpec.ofChange headTellsSpec)

/-- ITS FALSE NEIGHBOUR: 'it returns false'. Refute it at one input. -/
def headTellsWrong : ChangeSpec := { name := "headTells", fn := fun _ => fun
  | [d1, d2] => { results := [.lit (.bool false)], args := [d1, d2] }
  | _ => none }
def HeadTellsWrongFalsely : Prop := headTellsRow.holds Try.pinned (OpenSpec.ofChange headTellsWrong)

/-- 'hamperlaw20.HeadNames': WHATEVER THE INPUT: true; the input reads as it did. -/
def headNamesSpec : ChangeSpec := { name := "headNames", fn := fun _ => fun
  | [] => { results := [.lit (.bool true)], args := [] }
  | _ => none }
def headNamesRow : OpenClaim := { program := "ytapdnkmaklpoeaa", sum := "b6070cbbb26f314ac34eed3d086fd2989d90e2f0a4f2f0e6cbe26c683b54637c", func := "hamper/hamperlaw20.HeadNames", spec := "headNames", inPlace := ["internal/abi.NoEscape"], unfollowed := true, recurses := true, apart := false }
def HeadNamesSaid : Prop := headNamesRow.holds Try.pinned (OpenSpec.ofChange headNamesSpec)

/-- ITS FALSE NEIGHBOUR: 'it returns false'. Refute it at one input. -/
def headNamesWrong : ChangeSpec := { name := "headNames", fn := fun _ => fun
  | [] => { results := [.lit (.bool false)], args := [] }
  | _ => none }
def HeadNamesWrongFalsely : Prop := headNamesRow.holds Try.pinned (OpenSpec.ofChange headNamesWrong)

/-- 'hamperlaw20.HeadBack': WHATEVER THE INPUT: true; the input reads as it did. -/
def headBackSpec : ChangeSpec := { name := "headBack", fn := fun _ => fun
  | [d1, d2, d3] => { results := [.lit (.bool true)], args := [d1, d2, d3] }
  | _ => none }
def headBackRow : OpenClaim := { program := "ytapdnkmaklpoeaa", sum := "b6070cbbb26f314ac34eed3d086fd2989d90e2f0a4f2f0e6cbe26c683b54637c", func := "hamper/hamperlaw20.HeadBack", spec := "headBack", inPlace := ["internal/abi.NoEscape"], unfollowed := true, recurses := true, apart := false }
def HeadBackSaid : Prop := headBackRow.holds Try.pinned (OpenSpec.ofChange headBackSpec)

/-- ITS FALSE NEIGHBOUR: 'it returns false'. Refute it at one input. -/
def headBackWrong : ChangeSpec := { name := "headBack", fn := fun _ => fun
  | [d1, d2, d3] => { results := [.lit (.bool false)], args := [d1, d2, d3] }
  | _ => none }
def HeadBackWrongFalsely : Prop := headBackRow.holds Try.pinned (OpenSpec.ofChange headBackWrong)

/-- 'hamperlaw20.HeadTurned': WHATEVER THE INPUT: true; the input reads as it did. -/
def headTurnedSpec : ChangeSpec := { name := "headTurned", fn := fun _ => fun
  | [d1, d2, d3] => { results := [.lit (.bool true)], args := [d1, d2, d3] }
  | _ => none }
def headTurnedRow : OpenClaim := { program := "ytapdnkmaklpoeaa", sum := "b6070cbbb26f314ac34eed3d086fd2989d90e2f0a4f2f0e6cbe26c683b54637c", func := "hamper/hamperlaw20.HeadTurned", spec := "headTurned", inPlace := ["internal/abi.NoEscape"], unfollowed := true, recurses := true, apart := false }
def HeadTurnedSaid : Prop := headTurnedRow.holds Try.pinned (OpenSpec.ofChange headTurnedSpec)

/-- ITS FALSE NEIGHBOUR: 'it returns false'. Refute it at one input. -/
def headTurnedWrong : ChangeSpec := { name := "headTurned", fn := fun _ => fun
  | [d1, d2, d3] => { results := [.lit (.bool false)], args := [d1, d2, d3] }
  | _ => none }
def HeadTurnedWrongFalsely : Prop := headTurnedRow.holds Try.pinned (OpenSpec.ofChange headTurnedWrong)

/-- 'hamperlaw20.HeadJoin': WHATEVER THE INPUT: true; the input reads as it did. -/
def headJoinSpec : ChangeSpec := { name := "headJoin", fn := fun _ => fun
  | [d1, d2] => { results := [.lit (.bool true)], args := [d1, d2] }
  | _ => none }
def headJoinRow : OpenClaim := { program := "ytapdnkmaklpoeaa", sum := "b6070cbbb26f314ac34eed3d086fd2989d90e2f0a4f2f0e6cbe26c683b54637c", func := "hamper/hamperlaw20.HeadJoin", spec := "headJoin", inPlace := ["internal/abi.NoEscape"], unfollowed := true, recurses := true, apart := false }
def HeadJoinSaid : Prop := headJoinRow.holds Try.pinned (OpenSpec.ofChange headJoinSpec)

/-- ITS FALSE NEIGHBOUR: 'it returns false'. Refute it at one input. -/
def headJoinWrong : ChangeSpec := { name := "headJoin", fn := fun _ => fun
  | [d1, d2] => { results := [.lit (.bool false)], args := [d1, d2] }
  | _ => none }
def HeadJoinWrongFalsely : Prop := headJoinRow.holds Try.pinned (OpenSpec.ofChange headJoinWrong)

/-- 'hamperlaw20.HeadSize': WHATEVER THE INPUT: true; the input reads as it did. -/
def headSizeSpec : ChangeSpec := { name := "headSize", fn := fun _ => fun
  | [d] => { results := [.lit (.bool true)], args := [d] }
  | _ => none }
def headSizeRow : OpenClaim := { program := "ytapdnkmaklpoeaa", sum := "b6070cbbb26f314ac34eed3d086fd2989d90e2f0a4f2f0e6cbe26c683b54637c", func := "hamper/hamperlaw20.HeadSize", spec := "headSize", inPlace := ["internal/abi.NoEscape"], unfollowed := true, recurses := true, apart := false }
def HeadSizeSaid : Prop := headSizeRow.holds Try.pinned (OpenSpec.ofChange headSizeSpec)

/-- ITS FALSE NEIGHBOUR: 'it returns false'. Refute it at one input. -/
def headSizeWrong : ChangeSpec := { name := "headSize", fn := fun _ => fun
  | [d] => { results := [.lit (.bool false)], args := [d] }
  | _ => none }
def HeadSizeWrongFalsely : Prop := headSizeRow.holds Try.pinned (OpenSpec.ofChange headSizeWrong)

/- THE SECOND FORM. 'bulk': how many values and letters a reading holds, each counted each time it is reached (what is shared counts as often as it is met; a slice's spare places count too). A statement '..UptoSaid' is the law's where the arguments, and the package variables that the reading takes, are together of bulk at most 1048576: NARROWER than '..Said'. Prove '..Said' where nothing that the law and all that it calls make is longer than what came in: it says more and counts as full. Else prove '..UptoSaid'. A law counts once. -/
mutual
def uptoBulk {H : Type} : DataW H → Nat
  | .lit (.string bytes) => bytes.length + 1
  | .lit _ => 1
  | .nil => 1
  | .ptr d => uptoBulk d + 1
  | .slice elems spare => uptoBulkAll elems + uptoBulkAll spare + 1
  | .agg parts => uptoBulkAll parts + 1
  | .iface _ d => uptoBulk d + 1
  | .map entries => uptoBulkEntries entries + 1
  | .held _ => 1
def uptoBulkAll {H : Type} : List (DataW H) → Nat
  | [] => 0
  | d :: r => uptoBulk d + uptoBulkAll r
def uptoBulkEntries {H : Type} : List (Lit × DataW H) → Nat
  | [] => 0
  | x :: r => uptoBulkEntry x + uptoBulkEntries r
def uptoBulkEntry {H : Type} : Lit × DataW H → Nat
  | (.string bytes, d) => bytes.length + uptoBulk d + 1
  | (_, d) => uptoBulk d + 1
 end
def uptoSmall : (H : Type) → List (DataW H) → Bool := fun _ ds => decide (uptoBulkAll ds ≤ 1048576)
def OpenSpec.upto (s : _root_.Go.ChangeSpec) : _root_.Go.OpenSpec := { _root_.Go.OpenSpec.ofChange s with cond := some uptoSmall }

/-- 'hamperlaw20.HeadTells', WHERE WHAT IT READS IS OF BULK AT MOST 1048576: true; the input reads as it did. -/
def headTellsUptoRow : OpenClaim := { program := "ytapdnkmaklpoeaa", sum := "b6070cbbb26f314ac34eed3d086fd2989d90e2f0a4f2f0e6cbe26c683b54637c", func := "hamper/hamperlaw20.HeadTells", spec := "headTells", inPlace := ["internal/abi.NoEscape"], unfollowed := true, recurses := true, apart := false, narrowed := true }
def HeadTellsUptoSaid : Prop := headTellsUptoRow.holds Try.pinned (OpenSpec.upto headTellsSpec)

/-- 'hamperlaw20.HeadNames', WHERE WHAT IT READS IS OF BULK AT MOST 1048576: true; the input reads as it did. -/
def headNamesUptoRow : OpenClaim := { program := "ytapdnkmaklpoeaa", sum := "b6070cbbb26f314ac34eed3d086fd2989d90e2f0a4f2f0e6cbe26c683b54637c", func := "hamper/hamperlaw20.HeadNames", spec := "headNames", inPlace := ["internal/abi.NoEscape"], unfollowed := true, recurses := true, apart := false, narrowed := true }
def HeadNamesUptoSaid : Prop := headNamesUptoRow.holds Try.pinned (OpenSpec.upto headNamesSpec)

/-- 'hamperlaw20.HeadBack', WHERE WHAT IT READS IS OF BULK AT MOST 1048576: true; the input reads as it did. -/
def headBackUptoRow : OpenClaim := { program := "ytapdnkmaklpoeaa", sum := "b6070cbbb26f314ac34eed3d086fd2989d90e2f0a4f2f0e6cbe26c683b54637c", func := "hamper/hamperlaw20.HeadBack", spec := "headBack", inPlace := ["internal/abi.NoEscape"], unfollowed := true, recurses := true, apart := false, narrowed := true }
def HeadBackUptoSaid : Prop := headBackUptoRow.holds Try.pinned (OpenSpec.upto headBackSpec)

/-- 'hamperlaw20.HeadTurned', WHERE WHAT IT READS IS OF BULK AT MOST 1048576: true; the input reads as it did. -/
def headTurnedUptoRow : OpenClaim := { program := "ytapdnkmaklpoeaa", sum := "b6070cbbb26f314ac34eed3d086fd2989d90e2f0a4f2f0e6cbe26c683b54637c", func := "hamper/hamperlaw20.HeadTurned", spec := "headTurned", inPlace := ["internal/abi.NoEscape"], unfollowed := true, recurses := true, apart := false, narrowed := true }
def HeadTurnedUptoSaid : Prop := headTurnedUptoRow.holds Try.pinned (OpenSpec.upto headTurnedSpec)

/-- 'hamperlaw20.HeadJoin', WHERE WHAT IT READS IS OF BULK AT MOST 1048576: true; the input reads as it did. -/
def headJoinUptoRow : OpenClaim := { program := "ytapdnkmaklpoeaa", sum := "b6070cbbb26f314ac34eed3d086fd2989d90e2f0a4f2f0e6cbe26c683b54637c", func := "hamper/hamperlaw20.HeadJoin", spec := "headJoin", inPlace := ["internal/abi.NoEscape"], unfollowed := true, recurses := true, apart := false, narrowed := true }
def HeadJoinUptoSaid : Prop := headJoinUptoRow.holds Try.pinned (OpenSpec.upto headJoinSpec)

/-- 'hamperlaw20.HeadSize', WHERE WHAT IT READS IS OF BULK AT MOST 1048576: true; the input reads as it did. -/
def headSizeUptoRow : OpenClaim := { program := "ytapdnkmaklpoeaa", sum := "b6070cbbb26f314ac34eed3d086fd2989d90e2f0a4f2f0e6cbe26c683b54637c", func := "hamper/hamperlaw20.HeadSize", spec := "headSize", inPlace := ["internal/abi.NoEscape"], unfollowed := true, recurses := true, apart := false, narrowed := true }
def HeadSizeUptoSaid : Prop := headSizeUptoRow.holds Try.pinned (OpenSpec.upto headSizeSpec)

end Rows
end Go.Proofs.Ytapdnkmaklpoeaa
