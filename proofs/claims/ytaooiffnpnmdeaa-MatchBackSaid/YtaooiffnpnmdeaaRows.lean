/-
  No cell of these rows narrows 'for every input' (looked for: loops, veiled, ifaces, maps, wideKeys, modest, calm, conditions, laid).
  DERIVED. THE GIVEN ROWS OF THIS SEAT. 7 by the template 'for every input the law returns true; each argument reads behind the call as it read before'; 0 by the template 'total and deterministic' (their statements: YtaooiffnpnmdeaaTotals.lean).
  GIVEN WITH THE SEED: the statements are not yours to turn. If you find one false, say at which input.
  Laid BY PROGRAM, IN A SANDBOX (cutbox-rows.mjs): the forced cells as the released guide's own fill.sh prints them over the translation b802a1a722475b4a… (all of the seat's roots in one cut). By AI agents, Wed Nov 11 2026. No macro, syntax, notation, axiom, sorry.
-/
import Derived.Test.YtaooiffnpnmdeaaChecked
import GoSem.Claim
import GoSem.ClaimJoined
import GoSem.ClaimMapViews
import Derived.JoinedTies
import Derived.KernelRfl
namespace Go.Proofs.Ytaooiffnpnmdeaa
/- THE CELL 'sum', in the pinned program and in every row, IS THE sha256 OF THE DUMP (.gsa) THAT YtaooiffnpnmdeaaProg.lean LOADS. Nothing in Lean hashes anything: it is a label: what it is worth is what the hold of that sum in a sandbox is worth. -/
noncomputable def Try.pinned : Pinned := { name := "ytaooiffnpnmdeaa", sum := "b802a1a722475b4a4322b1939fd5f82066f0f0a345f2d0a06f8953cfd614dadd", checked := Try.checked }
namespace Rows
def none {H : Type} : Left H := { results := [], args := [] }

/-- 'hamperlaw15.MatchNames': WHATEVER THE INPUT: true; the input reads as it did. -/
def matchNamesSpec : ChangeSpec := { name := "matchNames", fn := fun _ => fun
  | [] => { results := [.lit (.bool true)], args := [] }
  | _ => none }
def matchNamesRow : OpenClaim := { program := "ytaooiffnpnmdeaa", sum := "b802a1a722475b4a4322b1939fd5f82066f0f0a345f2d0a06f8953cfd614dadd", func := "hamper/hamperlaw15.MatchNames", spec := "matchNames", unfollowed := true, recurses := true, apart := false }
def MatchNamesSaid : Prop := matchNamesRow.holds Try.pinned (OpenSpec.ofChange matchNamesSpec)

/-- ITS FALSE NEIGHBOUR: 'it returns false'. Refute it at one input. -/
def matchNamesWrong : ChangeSpec := { name := "matchNames", fn := fun _ => fun
  | [] => { results := [.lit (.bool false)], args := [] }
  | _ => none }
def MatchNamesWrongFalsely : Prop := matchNamesRow.holds Try.pinned (OpenSpec.ofChange matchNamesWrong)

/-- 'hamperlaw15.MatchFinds': WHATEVER THE INPUT: true; the input reads as it did. -/
def matchFindsSpec : ChangeSpec := { name := "matchFinds", fn := fun _ => fun
  | [d1, d2] => { results := [.lit (.bool true)], args := [d1, d2] }
  | _ => none }
def matchFindsRow : OpenClaim := { program := "ytaooiffnpnmdeaa", sum := "b802a1a722475b4a4322b1939fd5f82066f0f0a345f2d0a06f8953cfd614dadd", func := "hamper/hamperlaw15.MatchFinds", spec := "matchFinds", unfollowed := true, recurses := true, apart := false }
def MatchFindsSaid : Prop := matchFindsRow.holds Try.pinned (OpenSpec.ofChange matchFindsSpec)

/-- ITS FALSE NEIGHBOUR: 'it returns false'. Refute it at one input. -/
def matchFindsWrong : ChangeSpec := { name := "matchFinds", fn := fun _ => fun
  | [d1, d2] => { results := [.lit (.bool false)], args := [d1, d2] }
  | _ => none }
def MatchFindsWrongFalsely : Prop := matchFindsRow.holds Try.pinned (OpenSpec.ofChange matchFindsWrong)

/-- 'hamperlaw15.MatchOne': WHATEVER THE INPUT: true; the input reads as it did. -/
def matchOneSpec : ChangeSpec := { name := "matchOne", fn := fun _ => fun
  | [d1, d2] => { results := [.lit (.bool true)], args := [d1, d2] }
  | _ => none }
def matchOneRow : OpenClaim := { program := "ytaooiffnpnmdeaa", sum := "b802a1a722475b4a4322b1939fd5f82066f0f0a345f2d0a06f8953cfd614dadd", func := "hamper/hamperlaw15.MatchOne", spec := "matchOne", unfollowed := true, recurses := true, apart := false }
def MatchOneSaid : Prop := matchOneRow.holds Try.pinned (OpenSpec.ofChange matchOneSpec)

/-- ITS FALSE NEIGHBOUR: 'it returns false'. Refute it at one input. -/
def matchOneWrong : ChangeSpec := { name := "matchOne", fn := fun _ => fun
  | [d1, d2] => { results := [.lit (.bool false)], args := [d1, d2] }
  | _ => none }
def MatchOneWrongFalsely : Prop := matchOneRow.holds Try.pinned (OpenSpec.ofChange matchOneWrong)

/-- 'hamperlaw15.MatchAhead': WHATEVER THE INPUT: true; the input reads as it did. -/
def matchAheadSpec : ChangeSpec := { name := "matchAhead", fn := fun _ => fun
  | [d1, d2] => { results := [.lit (.bool true)], args := [d1, d2] }
  | _ => none }
def matchAheadRow : OpenClaim := { program := "ytaooiffnpnmdeaa", sum := "b802a1a722475b4a4322b1939fd5f82066f0f0a345f2d0a06f8953cfd614dadd", func := "hamper/hamperlaw15.MatchAhead", spec := "matchAhead", unfollowed := true, recurses := true, apart := false }
def MatchAheadSaid : Prop := matchAheadRow.holds Try.pinned (OpenSpec.ofChange matchAheadSpec)

/-- ITS FALSE NEIGHBOUR: 'it returns false'. Refute it at one input. -/
def matchAheadWrong : ChangeSpec := { name := "matchAhead", fn := fun _ => fun
  | [d1, d2] => { results := [.lit (.bool false)], args := [d1, d2] }
  | _ => none }
def MatchAheadWrongFalsely : Prop := matchAheadRow.holds Try.pinned (OpenSpec.ofChange matchAheadWrong)

/-- 'hamperlaw15.MatchTwice': WHATEVER THE INPUT: true; the input reads as it did. -/
def matchTwiceSpec : ChangeSpec := { name := "matchTwice", fn := fun _ => fun
  | [d1, d2] => { results := [.lit (.bool true)], args := [d1, d2] }
  | _ => none }
def matchTwiceRow : OpenClaim := { program := "ytaooiffnpnmdeaa", sum := "b802a1a722475b4a4322b1939fd5f82066f0f0a345f2d0a06f8953cfd614dadd", func := "hamper/hamperlaw15.MatchTwice", spec := "matchTwice", unfollowed := true, recurses := true, apart := false }
def MatchTwiceSaid : Prop := matchTwiceRow.holds Try.pinned (OpenSpec.ofChange matchTwiceSpec)

/-- ITS FALSE NEIGHBOUR: 'it returns false'. Refute it at one input. -/
def matchTwiceWrong : ChangeSpec := { name := "matchTwice", fn := fun _ => fun
  | [d1, d2] => { results := [.lit (.bool false)], args := [d1, d2] }
  | _ => none }
def MatchTwiceWrongFalsely : Prop := matchTwiceRow.holds Try.pinned (OpenSpec.ofChange matchTwiceWrong)

/-- 'hamperlaw15.MatchLocal': WHATEVER THE INPUT: true; the input reads as it did. -/
def matchLocalSpec : ChangeSpec := { name := "matchLocal", fn := fun _ => fun
  | [d1, d2] => { results := [.lit (.bool true)], args := [d1, d2] }
  | _ => none }
def matchLocalRow : OpenClaim := { program := "ytaooiffnpnmdeaa", sum := "b802a1a722475b4a4322b1939fd5f82066f0f0a345f2d0a06f8953cfd614dadd", func := "hamper/hamperlaw15.MatchLocal", spec := "matchLocal", unfollowed := true, recurses := true, apart := false }
def MatchLocalSaid : Prop := matchLocalRow.holds Try.pinned (OpenSpec.ofChange matchLocalSpec)

/-- ITS FALSE NEIGHBOUR: 'it returns false'. Refute it at one input. -/
def matchLocalWrong : ChangeSpec := { name := "matchLocal", fn := fun _ => fun
  | [d1, d2] => { results := [.lit (.bool false)], args := [d1, d2] }
  | _ => none }
def MatchLocalWrongFalsely : Prop := matchLocalRow.holds Try.pinned (OpenSpec.ofChange matchLocalWrong)

/-- 'hamperlaw15.MatchBack': WHATEVER THE INPUT: true; the input reads as it did. -/
def matchBackSpec : ChangeSpec := { name := "matchBack", fn := fun _ => fun
  | [d] => { results := [.lit (.bool true)], args := [d] }
  | _ => none }
def matchBackRow : OpenClaim := { program := "ytaooiffnpnmdeaa", sum := "b802a1a722475b4a4322b1939fd5f82066f0f0a345f2d0a06f8953cfd614dadd", func := "hamper/hamperlaw15.MatchBack", spec := "matchBack", unfollowed := true, recurses := true, apart := false }
def MatchBackSaid : Prop := matchBackRow.holds Try.pinned (OpenSpec.ofChange matchBackSpec)

/-- ITS FALSE NEIGHBOUR: 'it returns false'. Refute it at one input. -/
def matchBackWrong : ChangeSpec := { name := "matchBack", fn := fun _ => fun
  | [d] => { results := [.lit (.bool false)], args := [d] }
  | _ => none }
def MatchBackWrongFalsely : Prop := matchBackRow.holds Try.pinned (OpenSpec.ofChange matchBackWrong)

/- THE SECOND FORM. 'bulk': how many values and letters a reading holds, each counted each time it is reached (what is shared counts as often as it is met; a slice's spare places count too). A statement '..UptoSaid' is the law's where the arguments, and the package variables that the reading takes, are together of bulk at most 1048576: NARROWER than '..Said'. Prove '..Said' where nothing that the law and all that it calls make is longer than what came in: it says more and counts as full. Else prove '..UptoSaid'. A law counts once. -/
mutual
def uptoBulk {H : Type} : DataW H → Nat
  | .lit (.string bytes) => bytes.length + 1
  | .lit _ => 1
  | .nil => 1
  | .ptr d => uptoBulk d + 1
  | .slice elems spare => uptoBulkAll elems + uptoBulkAll spare + 1
  | .agg parts => uptoBulkAll parts + 1
  | .iface _ d => uptoBulk d + 1
  | .map entries => uptoBulkEntries entries + 1
  | .held _ => 1
def uptoBulkAll {H : Type} : List (DataW H) → Nat
  | [] => 0
  | d :: r => uptoBulk d + uptoBulkAll r
def uptoBulkEntries {H : Type} : List (Lit × DataW H) → Nat
  | [] => 0
  | x :: r => uptoBulkEntry x + uptoBulkEntries r
def uptoBulkEntry {H : Type} : Lit × DataW H → Nat
  | (.string bytes, d) => bytes.length + uptoBulk d + 1
  | (_, d) => uptoBulk d + 1
 end
def uptoSmall : (H : Type) → List (DataW H) → Bool := fun _ ds => decide (uptoBulkAll ds ≤ 1048576)
def OpenSpec.upto (s : _root_.Go.ChangeSpec) : _root_.Go.OpenSpec := { _root_.Go.OpenSpec.ofChange s with cond := some uptoSmall }

/-- 'hamperlaw15.MatchNames', WHERE WHAT IT READS IS OF BULK AT MOST 1048576: true; the input reads as it did. -/
def matchNamesUptoRow : OpenClaim := { program := "ytaooiffnpnmdeaa", sum := "b802a1a722475b4a4322b1939fd5f82066f0f0a345f2d0a06f8953cfd614dadd", func := "hamper/hamperlaw15.MatchNames", spec := "matchNames", unfollowed := true, recurses := true, apart := false, narrowed := true }
def MatchNamesUptoSaid : Prop := matchNamesUptoRow.holds Try.pinned (OpenSpec.upto matchNamesSpec)

/-- 'hamperlaw15.MatchFinds', WHERE WHAT IT READS IS OF BULK AT MOST 1048576: true; the input reads as it did. -/
def matchFindsUptoRow : OpenClaim := { program := "ytaooiffnpnmdeaa", sum := "b802a1a722475b4a4322b1939fd5f82066f0f0a345f2d0a06f8953cfd614dadd", func := "hamper/hamperlaw15.MatchFinds", spec := "matchFinds", unfollowed := true, recurses := true, apart := false, narrowed := true }
def MatchFindsUptoSaid : Prop := matchFindsUptoRow.holds Try.pinned (OpenSpec.upto matchFindsSpec)

/-- 'hamperlaw15.MatchOne', WHERE WHAT IT READS IS OF BULK AT MOST 1048576: true; the input reads as it did. -/
def matchOneUptoRow : OpenClaim := { program := "ytaooiffnpnmdeaa", sum := "b802a1a722475b4a4322b1939fd5f82066f0f0a345f2d0a06f8953cfd614dadd", func := "hamper/hamperlaw15.MatchOne", spec := "matchOne", unfollowed := true, recurses := true, apart := false, narrowed := true }
def MatchOneUptoSaid : Prop := matchOneUptoRow.holds Try.pinned (OpenSpec.upto matchOneSpec)

/-- 'hamperlaw15.MatchAhead', WHERE WHAT IT READS IS OF BULK AT MOST 1048576: true; the input reads as it did. -/
def matchAheadUptoRow : OpenClaim := { program := "ytaooiffnpnmdeaa", sum := "b802a1a722475b4a4322b1939fd5f82066f0f0a345f2d0a06f8953cfd614dadd", func := "hamper/hamperlaw15.MatchAhead", spec := "matchAhead", unfollowed := true, recurses := true, apart := false, narrowed := true }
def MatchAheadUptoSaid : Prop := matchAheadUptoRow.holds Try.pinned (OpenSpec.upto matchAheadSpec)

/-- 'hamperlaw15.MatchTwice', WHERE WHAT IT READS IS OF BULK AT MOST 1048576: true; the input reads as it did. -/
def matchTwiceUptoRow : OpenClaim := { program := "ytaooiffnpnmdeaa", sum := "b802a1a722475b4a4322b1939fd5f82066f0f0a345f2d0a06f8953cfd614dadd", func := "hamper/hamperlaw15.MatchTwice", spec := "matchTwice", unfollowed := true, recurses := true, apart := false, narrowed := true }
def MatchTwiceUptoSaid : Prop := matchTwiceUptoRow.holds Try.pinned (OpenSpec.upto matchTwiceSpec)

/-- 'hamperlaw15.MatchLocal', WHERE WHAT IT READS IS OF BULK AT MOST 1048576: true; the input reads as it did. -/
def matchLocalUptoRow : OpenClaim := { program := "ytaooiffnpnmdeaa", sum := "b802a1a722475b4a4322b1939fd5f82066f0f0a345f2d0a06f8953cfd614dadd", func := "hamper/hamperlaw15.MatchLocal", spec := "matchLocal", unfollowed := true, recurses := true, apart := false, narrowed := true }
def MatchLocalUptoSaid : Prop := matchLocalUptoRow.holds Try.pinned (OpenSpec.upto matchLocalSpec)

/-- 'hamperlaw15.MatchBack', WHERE WHAT IT READS IS OF BULK AT MOST 1048576: true; the input reads as it did. -/
def matchBackUptoRow : OpenClaim := { program := "ytaooiffnpnmdeaa", sum := "b802a1a722475b4a4322b1939fd5f82066f0f0a345f2d0a06f8953cfd614dadd", func := "hamper/hamperlaw15.MatchBack", spec := "matchBack", unfollowed := true, recurses := true, apart := false, narrowed := true }
def MatchBackUptoSaid : Prop := matchBackUptoRow.holds Try.pinned (OpenSpec.upto matchBackSpec)

end Rows
end Go.Proofs.Ytaooiffnpnmdeaa
