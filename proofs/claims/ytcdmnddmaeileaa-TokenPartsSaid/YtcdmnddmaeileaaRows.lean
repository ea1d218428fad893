/-
  No cell of these rows narrows 'for every input' (looked for: loops, veiled, ifaces, maps, wideKeys, modest, calm, conditions, laid).
  DERIVED. THE GIVEN ROWS OF THIS SEAT. 6 by the template 'for every input the law returns true; each argument reads behind the call as it read before'; 0 by the template 'total and deterministic' (their statements: YtcdmnddmaeileaaTotals.lean).
  GIVEN WITH THE SEED: the statements are not yours to turn. If you find one false, say at which input.
  Laid BY PROGRAM, IN A SANDBOX (cutbox-rows.mjs): the forced cells as the released guide's own fill.sh prints them over the translation ec2e12ed42a25b70… (all of the seat's roots in one cut). By AI agents, Wed Nov 11 2026. No macro, syntax, notation, axiom, sorry.
-/
import Derived.Test.YtcdmnddmaeileaaChecked
import GoSem.Claim
import GoSem.ClaimJoined
import GoSem.ClaimMapViews
import Derived.JoinedTies
import Derived.KernelRfl
namespace Go.Proofs.Ytcdmnddmaeileaa
/- THE CELL 'sum', in the pinned program and in every row, IS THE sha256 OF THE DUMP (.gsa) THAT YtcdmnddmaeileaaProg.lean LOADS. Nothing in Lean hashes anything: it is a label: what it is worth is what the hold of that sum in a sandbox is worth. -/
noncomputable def Try.pinned : Pinned := { name := "ytcdmnddmaeileaa", sum := "ec2e12ed42a25b70293d50c55665cf117f9c279c1ef9cae4a363484b1fdd3eee", checked := Try.checked }
namespace Rows
def none {H : Type} : Left H := { results := [], args := [] }

/-- 'hamperlaw14.TokenFar': WHATEVER THE INPUT: true; the input reads as it did. -/
def tokenFarSpec : ChangeSpec := { name := "tokenFar", fn := fun _ => fun
  | [] => { results := [.lit (.bool true)], args := [] }
  | _ => none }
def tokenFarRow : OpenClaim := { program := "ytcdmnddmaeileaa", sum := "ec2e12ed42a25b70293d50c55665cf117f9c279c1ef9cae4a363484b1fdd3eee", func := "hamper/hamperlaw14.TokenFar", spec := "tokenFar", apart := false }
def TokenFarSaid : Prop := tokenFarRow.holds Try.pinned (OpenSpec.ofChange tokenFarSpec)

/-- ITS FALSE NEIGHBOUR: 'it returns false'. Refute it at one input. -/
def tokenFarWrong : ChangeSpec := { name := "tokenFar", fn := fun _ => fun
  | [] => { results := [.lit (.bool false)], args := [] }
  | _ => none }
def TokenFarWrongFalsely : Prop := tokenFarRow.holds Try.pinned (OpenSpec.ofChange tokenFarWrong)

/-- 'hamperlaw14.TokenRow': WHATEVER THE INPUT: true; the input reads as it did. -/
def tokenRowSpec : ChangeSpec := { name := "tokenRow", fn := fun _ => fun
  | [d1, d2] => { results := [.lit (.bool true)], args := [d1, d2] }
  | _ => none }
def tokenRowRow : OpenClaim := { program := "ytcdmnddmaeileaa", sum := "ec2e12ed42a25b70293d50c55665cf117f9c279c1ef9cae4a363484b1fdd3eee", func := "hamper/hamperlaw14.TokenRow", spec := "tokenRow", apart := false }
def TokenRowSaid : Prop := tokenRowRow.holds Try.pinned (OpenSpec.ofChange tokenRowSpec)

/-- ITS FALSE NEIGHBOUR: 'it returns false'. Refute it at one input. -/
def tokenRowWrong : ChangeSpec := { name := "tokenRow", fn := fun _ => fun
  | [d1, d2] => { results := [.lit (.bool false)], args := [d1, d2] }
  | _ => none }
def TokenRowWrongFalsely : Prop := tokenRowRow.holds Try.pinned (OpenSpec.ofChange tokenRowWrong)

/-- 'hamperlaw14.TokenLits': WHATEVER THE INPUT: true; the input reads as it did. -/
def tokenLitsSpec : ChangeSpec := { name := "tokenLits", fn := fun _ => fun
  | [d1, d2] => { results := [.lit (.bool true)], args := [d1, d2] }
  | _ => none }
def tokenLitsRow : OpenClaim := { program := "ytcdmnddmaeileaa", sum := "ec2e12ed42a25b70293d50c55665cf117f9c279c1ef9cae4a363484b1fdd3eee", func := "hamper/hamperlaw14.TokenLits", spec := "tokenLits", apart := false }
def TokenLitsSaid : Prop := tokenLitsRow.holds Try.pinned (OpenSpec.ofChange tokenLitsSpec)

/-- ITS FALSE NEIGHBOUR: 'it returns false'. Refute it at one input. -/
def tokenLitsWrong : ChangeSpec := { name := "tokenLits", fn := fun _ => fun
  | [d1, d2] => { results := [.lit (.bool false)], args := [d1, d2] }
  | _ => none }
def TokenLitsWrongFalsely : Prop := tokenLitsRow.holds Try.pinned (OpenSpec.ofChange tokenLitsWrong)

/-- 'hamperlaw14.TokenRuns': WHATEVER THE INPUT: true; the input reads as it did. -/
def tokenRunsSpec : ChangeSpec := { name := "tokenRuns", fn := fun _ => fun
  | [d1, d2, d3, d4] => { results := [.lit (.bool true)], args := [d1, d2, d3, d4] }
  | _ => none }
def tokenRunsRow : OpenClaim := { program := "ytcdmnddmaeileaa", sum := "ec2e12ed42a25b70293d50c55665cf117f9c279c1ef9cae4a363484b1fdd3eee", func := "hamper/hamperlaw14.TokenRuns", spec := "tokenRuns", apart := false }
def TokenRunsSaid : Prop := tokenRunsRow.holds Try.pinned (OpenSpec.ofChange tokenRunsSpec)

/-- ITS FALSE NEIGHBOUR: 'it returns false'. Refute it at one input. -/
def tokenRunsWrong : ChangeSpec := { name := "tokenRuns", fn := fun _ => fun
  | [d1, d2, d3, d4] => { results := [.lit (.bool false)], args := [d1, d2, d3, d4] }
  | _ => none }
def TokenRunsWrongFalsely : Prop := tokenRunsRow.holds Try.pinned (OpenSpec.ofChange tokenRunsWrong)

/-- 'hamperlaw14.TokenNames': WHATEVER THE INPUT: true; the input reads as it did. -/
def tokenNamesSpec : ChangeSpec := { name := "tokenNames", fn := fun _ => fun
  | [] => { results := [.lit (.bool true)], args := [] }
  | _ => none }
def tokenNamesRow : OpenClaim := { program := "ytcdmnddmaeileaa", sum := "ec2e12ed42a25b70293d50c55665cf117f9c279c1ef9cae4a363484b1fdd3eee", func := "hamper/hamperlaw14.TokenNames", spec := "tokenNames", apart := false }
def TokenNamesSaid : Prop := tokenNamesRow.holds Try.pinned (OpenSpec.ofChange tokenNamesSpec)

/-- ITS FALSE NEIGHBOUR: 'it returns false'. Refute it at one input. -/
def tokenNamesWrong : ChangeSpec := { name := "tokenNames", fn := fun _ => fun
  | [] => { results := [.lit (.bool false)], args := [] }
  | _ => none }
def TokenNamesWrongFalsely : Prop := tokenNamesRow.holds Try.pinned (OpenSpec.ofChange tokenNamesWrong)

/-- 'hamperlaw14.TokenParts': WHATEVER THE INPUT: true; the input reads as it did. -/
def tokenPartsSpec : ChangeSpec := { name := "tokenParts", fn := fun _ => fun
  | [d1, d2, d3] => { results := [.lit (.bool true)], args := [d1, d2, d3] }
  | _ => none }
def tokenPartsRow : OpenClaim := { program := "ytcdmnddmaeileaa", sum := "ec2e12ed42a25b70293d50c55665cf117f9c279c1ef9cae4a363484b1fdd3eee", func := "hamper/hamperlaw14.TokenParts", spec := "tokenParts", apart := false }
def TokenPartsSaid : Prop := tokenPartsRow.holds Try.pinned (OpenSpec.ofChange tokenPartsSpec)

/-- ITS FALSE NEIGHBOUR: 'it returns false'. Refute it at one input. -/
def tokenPartsWrong : ChangeSpec := { name := "tokenParts", fn := fun _ => fun
  | [d1, d2, d3] => { results := [.lit (.bool false)], args := [d1, d2, d3] }
  | _ => none }
def TokenPartsWrongFalsely : Prop := tokenPartsRow.holds Try.pinned (OpenSpec.ofChange tokenPartsWrong)

/- THE SECOND FORM. 'bulk': how many values and letters a reading holds, each counted each time it is reached (what is shared counts as often as it is met; a slice's spare places count too). A statement '..UptoSaid' is the law's where the arguments, and the package variables that the reading takes, are together of bulk at most 1048576: NARROWER than '..Said'. Prove '..Said' where nothing that the law and all that it calls make is longer than what came in: it says more and counts as full. Else prove '..UptoSaid'. A law counts once. -/
mutual
def uptoBulk {H : Type} : DataW H → Nat
  | .lit (.string bytes) => bytes.length + 1
  | .lit _ => 1
  | .nil => 1
  | .ptr d => uptoBulk d + 1
  | .slice elems spare => uptoBulkAll elems + uptoBulkAll spare + 1
  | .agg parts => uptoBulkAll parts + 1
  | .iface _ d => uptoBulk d + 1
  | .map entries => uptoBulkEntries entries + 1
  | .held _ => 1
def uptoBulkAll {H : Type} : List (DataW H) → Nat
  | [] => 0
  | d :: r => uptoBulk d + uptoBulkAll r
def uptoBulkEntries {H : Type} : List (Lit × DataW H) → Nat
  | [] => 0
  | x :: r => uptoBulkEntry x + uptoBulkEntries r
def uptoBulkEntry {H : Type} : Lit × DataW H → Nat
  | (.string bytes, d) => bytes.length + uptoBulk d + 1
  | (_, d) => uptoBulk d + 1
 end
def uptoSmall : (H : Type) → List (DataW H) → Bool := fun _ ds => decide (uptoBulkAll ds ≤ 1048576)
def OpenSpec.upto (s : _root_.Go.ChangeSpec) : _root_.Go.OpenSpec := { _root_.Go.OpenSpec.ofChange s with cond := some uptoSmall }

/-- 'hamperlaw14.TokenFar', WHERE WHAT IT READS IS OF BULK AT MOST 1048576: true; the input reads as it did. -/
def tokenFarUptoRow : OpenClaim := { program := "ytcdmnddmaeileaa", sum := "ec2e12ed42a25b70293d50c55665cf117f9c279c1ef9cae4a363484b1fdd3eee", func := "hamper/hamperlaw14.TokenFar", spec := "tokenFar", apart := false, narrowed := true }
def TokenFarUptoSaid : Prop := tokenFarUptoRow.holds Try.pinned (OpenSpec.upto tokenFarSpec)

/-- 'hamperlaw14.TokenRow', WHERE WHAT IT READS IS OF BULK AT MOST 1048576: true; the input reads as it did. -/
def tokenRowUptoRow : OpenClaim := { program := "ytcdmnddmaeileaa", sum := "ec2e12ed42a25b70293d50c55665cf117f9c279c1ef9cae4a363484b1fdd3eee", func := "hamper/hamperlaw14.TokenRow", spec := "tokenRow", apart := false, narrowed := true }
def TokenRowUptoSaid : Prop := tokenRowUptoRow.holds Try.pinned (OpenSpec.upto tokenRowSpec)

/-- 'hamperlaw14.TokenLits', WHERE WHAT IT READS IS OF BULK AT MOST 1048576: true; the input reads as it did. -/
def tokenLitsUptoRow : OpenClaim := { program := "ytcdmnddmaeileaa", sum := "ec2e12ed42a25b70293d50c55665cf117f9c279c1ef9cae4a363484b1fdd3eee", func := "hamper/hamperlaw14.TokenLits", spec := "tokenLits", apart := false, narrowed := true }
def TokenLitsUptoSaid : Prop := tokenLitsUptoRow.holds Try.pinned (OpenSpec.upto tokenLitsSpec)

/-- 'hamperlaw14.TokenRuns', WHERE WHAT IT READS IS OF BULK AT MOST 1048576: true; the input reads as it did. -/
def tokenRunsUptoRow : OpenClaim := { program := "ytcdmnddmaeileaa", sum := "ec2e12ed42a25b70293d50c55665cf117f9c279c1ef9cae4a363484b1fdd3eee", func := "hamper/hamperlaw14.TokenRuns", spec := "tokenRuns", apart := false, narrowed := true }
def TokenRunsUptoSaid : Prop := tokenRunsUptoRow.holds Try.pinned (OpenSpec.upto tokenRunsSpec)

/-- 'hamperlaw14.TokenNames', WHERE WHAT IT READS IS OF BULK AT MOST 1048576: true; the input reads as it did. -/
def tokenNamesUptoRow : OpenClaim := { program := "ytcdmnddmaeileaa", sum := "ec2e12ed42a25b70293d50c55665cf117f9c279c1ef9cae4a363484b1fdd3eee", func := "hamper/hamperlaw14.TokenNames", spec := "tokenNames", apart := false, narrowed := true }
def TokenNamesUptoSaid : Prop := tokenNamesUptoRow.holds Try.pinned (OpenSpec.upto tokenNamesSpec)

/-- 'hamperlaw14.TokenParts', WHERE WHAT IT READS IS OF BULK AT MOST 1048576: true; the input reads as it did. -/
def tokenPartsUptoRow : OpenClaim := { program := "ytcdmnddmaeileaa", sum := "ec2e12ed42a25b70293d50c55665cf117f9c279c1ef9cae4a363484b1fdd3eee", func := "hamper/hamperlaw14.TokenParts", spec := "tokenParts", apart := false, narrowed := true }
def TokenPartsUptoSaid : Prop := tokenPartsUptoRow.holds Try.pinned (OpenSpec.upto tokenPartsSpec)

end Rows
end Go.Proofs.Ytcdmnddmaeileaa
