/-
  No cell of these rows narrows 'for every input' (looked for: loops, veiled, ifaces, maps, wideKeys, modest, calm, conditions, laid).
  DERIVED. THE GIVEN ROWS OF THIS SEAT. 6 by the template 'for every input the law returns true; each argument reads behind the call as it read before'; 0 by the template 'total and deterministic' (their statements: YtacjfgdehnenpaaTotals.lean).
  GIVEN WITH THE SEED: the statements are not yours to turn. If you find one false, say at which input.
  Laid BY PROGRAM, IN A SANDBOX (cutbox-rows.mjs): the forced cells as the released guide's own fill.sh prints them over the translation dcc9acc9e10272ec… (all of the seat's roots in one cut). By AI agents, Wed Nov 11 2026. No macro, syntax, notation, axiom, sorry.
-/
import Derived.Test.YtacjfgdehnenpaaChecked
import GoSem.Claim
import GoSem.ClaimJoined
import GoSem.ClaimMapViews
import Derived.JoinedTies
import Derived.KernelRfl
namespace Go.Proofs.Ytacjfgdehnenpaa
/- THE CELL 'sum', in the pinned program and in every row, IS THE sha256 OF THE DUMP (.gsa) THAT YtacjfgdehnenpaaProg.lean LOADS. Nothing in Lean hashes anything: it is a label: what it is worth is what the hold of that sum in a sandbox is worth. -/
noncomputable def Try.pinned : Pinned := { name := "ytacjfgdehnenpaa", sum := "dcc9acc9e10272ec2ea14b0f067d8d242bf8a2393a703f6cef0a9964e038723e", checked := Try.checked }
namespace Rows
def none {H : Type} : Left H := { results := [], args := [] }

/-- 'hamperlaw05.BlakeAdds': WHATEVER THE INPUT: true; the input reads as it did. -/
def blakeAddsSpec : ChangeSpec := { name := "blakeAdds", fn := fun _ => fun
  | [d] => { results := [.lit (.bool true)], args := [d] }
  | _ => none }
def blakeAddsRow : OpenClaim := { program := "ytacjfgdehnenpaa", sum := "dcc9acc9e10272ec2ea14b0f067d8d242bf8a2393a703f6cef0a9964e038723e", func := "hamper/hamperlaw05.BlakeAdds", spec := "blakeAdds", inPlace := ["internal/abi.NoEscape"], recurses := true, apart := false }
def BlakeAddsSaid : Prop := blakeAddsRow.holds Try.pinned (OpenSpec.ofChange blakeAddsSpec)

/-- ITS FALSE NEIGHBOUR: 'it returns false'. Refute it at one input. -/
def blakeAddsWrong : ChangeSpec := { name := "blakeAdds", fn := fun _ => fun
  | [d] => { results := [.lit (.bool false)], args := [d] }
  | _ => none }
def BlakeAddsWrongFalsely : Prop := blakeAddsRow.holds Try.pinned (OpenSpec.ofChange blakeAddsWrong)

/-- 'hamperlaw05.BlakeSums': WHATEVER THE INPUT: true; the input reads as it did. -/
def blakeSumsSpec : ChangeSpec := { name := "blakeSums", fn := fun _ => fun
  | [d1, d2] => { results := [.lit (.bool true)], args := [d1, d2] }
  | _ => none }
def blakeSumsRow : OpenClaim := { program := "ytacjfgdehnenpaa", sum := "dcc9acc9e10272ec2ea14b0f067d8d242bf8a2393a703f6cef0a9964e038723e", func := "hamper/hamperlaw05.BlakeSums", spec := "blakeSums", inPlace := ["internal/abi.NoEscape"], recurses := true, apart := false }
def BlakeSumsSaid : Prop := blakeSumsRow.holds Try.pinned (OpenSpec.ofChange blakeSumsSpec)

/-- ITS FALSE NEIGHBOUR: 'it returns false'. Refute it at one input. -/
def blakeSumsWrong : ChangeSpec := { name := "blakeSums", fn := fun _ => fun
  | [d1, d2] => { results := [.lit (.bool false)], args := [d1, d2] }
  | _ => none }
def BlakeSumsWrongFalsely : Prop := blakeSumsRow.holds Try.pinned (OpenSpec.ofChange blakeSumsWrong)

/-- 'hamperlaw05.BlakeNames': WHATEVER THE INPUT: true; the input reads as it did. -/
def blakeNamesSpec : ChangeSpec := { name := "blakeNames", fn := fun _ => fun
  | [] => { results := [.lit (.bool true)], args := [] }
  | _ => none }
def blakeNamesRow : OpenClaim := { program := "ytacjfgdehnenpaa", sum := "dcc9acc9e10272ec2ea14b0f067d8d242bf8a2393a703f6cef0a9964e038723e", func := "hamper/hamperlaw05.BlakeNames", spec := "blakeNames", inPlace := ["internal/abi.NoEscape"], recurses := true, apart := false }
def BlakeNamesSaid : Prop := blakeNamesRow.holds Try.pinned (OpenSpec.ofChange blakeNamesSpec)

/-- ITS FALSE NEIGHBOUR: 'it returns false'. Refute it at one input. -/
def blakeNamesWrong : ChangeSpec := { name := "blakeNames", fn := fun _ => fun
  | [] => { results := [.lit (.bool false)], args := [] }
  | _ => none }
def BlakeNamesWrongFalsely : Prop := blakeNamesRow.holds Try.pinned (OpenSpec.ofChange blakeNamesWrong)

/-- 'hamperlaw05.BlakePieces': WHATEVER THE INPUT: true; the input reads as it did. -/
def blakePiecesSpec : ChangeSpec := { name := "blakePieces", fn := fun _ => fun
  | [d1, d2, d3] => { results := [.lit (.bool true)], args := [d1, d2, d3] }
  | _ => none }
def blakePiecesRow : OpenClaim := { program := "ytacjfgdehnenpaa", sum := "dcc9acc9e10272ec2ea14b0f067d8d242bf8a2393a703f6cef0a9964e038723e", func := "hamper/hamperlaw05.BlakePieces", spec := "blakePieces", inPlace := ["internal/abi.NoEscape"], recurses := true, apart := false }
def BlakePiecesSaid : Prop := blakePiecesRow.holds Try.pinned (OpenSpec.ofChange blakePiecesSpec)

/-- ITS FALSE NEIGHBOUR: 'it returns false'. Refute it at one input. -/
def blakePiecesWrong : ChangeSpec := { name := "blakePieces", fn := fun _ => fun
  | [d1, d2, d3] => { results := [.lit (.bool false)], args := [d1, d2, d3] }
  | _ => none }
def BlakePiecesWrongFalsely : Prop := blakePiecesRow.holds Try.pinned (OpenSpec.ofChange blakePiecesWrong)

/-- 'hamperlaw05.BlakeApart': WHATEVER THE INPUT: true; the input reads as it did. -/
def blakeApartSpec : ChangeSpec := { name := "blakeApart", fn := fun _ => fun
  | [d1, d2, d3, d4] => { results := [.lit (.bool true)], args := [d1, d2, d3, d4] }
  | _ => none }
def blakeApartRow : OpenClaim := { program := "ytacjfgdehnenpaa", sum := "dcc9acc9e10272ec2ea14b0f067d8d242bf8a2393a703f6cef0a9964e038723e", func := "hamper/hamperlaw05.BlakeApart", spec := "blakeApart", inPlace := ["internal/abi.NoEscape"], recurses := true, apart := false }
def BlakeApartSaid : Prop := blakeApartRow.holds Try.pinned (OpenSpec.ofChange blakeApartSpec)

/-- ITS FALSE NEIGHBOUR: 'it returns false'. Refute it at one input. -/
def blakeApartWrong : ChangeSpec := { name := "blakeApart", fn := fun _ => fun
  | [d1, d2, d3, d4] => { results := [.lit (.bool false)], args := [d1, d2, d3, d4] }
  | _ => none }
def BlakeApartWrongFalsely : Prop := blakeApartRow.holds Try.pinned (OpenSpec.ofChange blakeApartWrong)

/-- 'hamperlaw05.BlakeAgain': WHATEVER THE INPUT: true; the input reads as it did. -/
def blakeAgainSpec : ChangeSpec := { name := "blakeAgain", fn := fun _ => fun
  | [d] => { results := [.lit (.bool true)], args := [d] }
  | _ => none }
def blakeAgainRow : OpenClaim := { program := "ytacjfgdehnenpaa", sum := "dcc9acc9e10272ec2ea14b0f067d8d242bf8a2393a703f6cef0a9964e038723e", func := "hamper/hamperlaw05.BlakeAgain", spec := "blakeAgain", inPlace := ["internal/abi.NoEscape"], recurses := true, apart := false }
def BlakeAgainSaid : Prop := blakeAgainRow.holds Try.pinned (OpenSpec.ofChange blakeAgainSpec)

/-- ITS FALSE NEIGHBOUR: 'it returns false'. Refute it at one input. -/
def blakeAgainWrong : ChangeSpec := { name := "blakeAgain", fn := fun _ => fun
  | [d] => { results := [.lit (.bool false)], args := [d] }
  | _ => none }
def BlakeAgainWrongFalsely : Prop := blakeAgainRow.holds Try.pinned (OpenSpec.ofChange blakeAgainWrong)

/- THE SECOND FORM. 'bulk': how many values and letters a reading holds, each counted each time it is reached (what is shared counts as often as it is met; a slice's spare places count too). A statement '..UptoSaid' is the law's where the arguments, and the package variables that the reading takes, are together of bulk at most 1048576: NARROWER than '..Said'. Prove '..Said' where nothing that the law and all that it calls make is longer than what came in: it says more and counts as full. Else prove '..UptoSaid'. A law counts once. -/
mutual
def uptoBulk {H : Type} : DataW H → Nat
  | .lit (.string bytes) => bytes.length + 1
  | .lit _ => 1
  | .nil => 1
  | .ptr d => uptoBulk d + 1
  | .slice elems spare => uptoBulkAll elems + uptoBulkAll spare + 1
  | .agg parts => uptoBulkAll parts + 1
  | .iface _ d => uptoBulk d + 1
  | .map entries => uptoBulkEntries entries + 1
  | .held _ => 1
def uptoBulkAll {H : Type} : List (DataW H) → Nat
  | [] => 0
  | d :: r => uptoBulk d + uptoBulkAll r
def uptoBulkEntries {H : Type} : List (Lit × DataW H) → Nat
  | [] => 0
  | x :: r => uptoBulkEntry x + uptoBulkEntries r
def uptoBulkEntry {H : Type} : Lit × DataW H → Nat
  | (.string bytes, d) => bytes.length + uptoBulk d + 1
  | (_, d) => uptoBulk d + 1
 end
def uptoSmall : (H : Type) → List (DataW H) → Bool := fun _ ds => decide (uptoBulkAll ds ≤ 1048576)
def OpenSpec.upto (s : _root_.Go.ChangeSpec) : _root_.Go.OpenSpec := { _root_.Go.OpenSpec.ofChange s with cond := some uptoSmall }

/-- 'hamperlaw05.BlakeAdds', WHERE WHAT IT READS IS OF BULK AT MOST 1048576: true; the input reads as it did. -/
def blakeAddsUptoRow : OpenClaim := { program := "ytacjfgdehnenpaa", sum := "dcc9acc9e10272ec2ea14b0f067d8d242bf8a2393a703f6cef0a9964e038723e", func := "hamper/hamperlaw05.BlakeAdds", spec := "blakeAdds", inPlace := ["internal/abi.NoEscape"], recurses := true, apart := false, narrowed := true }
def BlakeAddsUptoSaid : Prop := blakeAddsUptoRow.holds Try.pinned (OpenSpec.upto blakeAddsSpec)

/-- 'hamperlaw05.BlakeSums', WHERE WHAT IT READS IS OF BULK AT MOST 1048576: true; the input reads as it did. -/
def blakeSumsUptoRow : OpenClaim := { program := "ytacjfgdehnenpaa", sum := "dcc9acc9e10272ec2ea14b0f067d8d242bf8a2393a703f6cef0a9964e038723e", func := "hamper/hamperlaw05.BlakeSums", spec := "blakeSums", inPlace := ["internal/abi.NoEscape"], recurses := true, apart := false, narrowed := true }
def BlakeSumsUptoSaid : Prop := blakeSumsUptoRow.holds Try.pinned (OpenSpec.upto blakeSumsSpec)

/-- 'hamperlaw05.BlakeNames', WHERE WHAT IT READS IS OF BULK AT MOST 1048576: true; the input reads as it did. -/
def blakeNamesUptoRow : OpenClaim := { program := "ytacjfgdehnenpaa", sum := "dcc9acc9e10272ec2ea14b0f067d8d242bf8a2393a703f6cef0a9964e038723e", func := "hamper/hamperlaw05.BlakeNames", spec := "blakeNames", inPlace := ["internal/abi.NoEscape"], recurses := true, apart := false, narrowed := true }
def BlakeNamesUptoSaid : Prop := blakeNamesUptoRow.holds Try.pinned (OpenSpec.upto blakeNamesSpec)

/-- 'hamperlaw05.BlakePieces', WHERE WHAT IT READS IS OF BULK AT MOST 1048576: true; the input reads as it did. -/
def blakePiecesUptoRow : OpenClaim := { program := "ytacjfgdehnenpaa", sum := "dcc9acc9e10272ec2ea14b0f067d8d242bf8a2393a703f6cef0a9964e038723e", func := "hamper/hamperlaw05.BlakePieces", spec := "blakePieces", inPlace := ["internal/abi.NoEscape"], recurses := true, apart := false, narrowed := true }
def BlakePiecesUptoSaid : Prop := blakePiecesUptoRow.holds Try.pinned (OpenSpec.upto blakePiecesSpec)

/-- 'hamperlaw05.BlakeApart', WHERE WHAT IT READS IS OF BULK AT MOST 1048576: true; the input reads as it did. -/
def blakeApartUptoRow : OpenClaim := { program := "ytacjfgdehnenpaa", sum := "dcc9acc9e10272ec2ea14b0f067d8d242bf8a2393a703f6cef0a9964e038723e", func := "hamper/hamperlaw05.BlakeApart", spec := "blakeApart", inPlace := ["internal/abi.NoEscape"], recurses := true, apart := false, narrowed := true }
def BlakeApartUptoSaid : Prop := blakeApartUptoRow.holds Try.pinned (OpenSpec.upto blakeApartSpec)

/-- 'hamperlaw05.BlakeAgain', WHERE WHAT IT READS IS OF BULK AT MOST 1048576: true; the input reads as it did. -/
def blakeAgainUptoRow : OpenClaim := { program := "ytacjfgdehnenpaa", sum := "dcc9acc9e10272ec2ea14b0f067d8d242bf8a2393a703f6cef0a9964e038723e", func := "hamper/hamperlaw05.BlakeAgain", spec := "blakeAgain", inPlace := ["internal/abi.NoEscape"], recurses := true, apart := false, narrowed := true }
def BlakeAgainUptoSaid : Prop := blakeAgainUptoRow.holds Try.pinned (OpenSpec.upto blakeAgainSpec)

end Rows
end Go.Proofs.Ytacjfgdehnenpaa
