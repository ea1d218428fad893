/- meta.number: its contract. -/
import Derived.Test.YtbeibmdccjgcmaaDoorMetaRead
import Derived.Test.YtbeibmdccjgcmaaDoorBk12
namespace Go.Proofs.YtbeibmdccjgcmaaDoor.Me
open Go.RowKit Go.Lib Go.Proofs.YtbeibmdccjgcmaaDoorW.PrintWords Go.Proofs.YtbeibmdccjgcmaaDoorW.PrintLast Go.Proofs.YtbeibmdccjgcmaaDoorW.PrintMore
set_option linter.unusedVariables false
set_option linter.unusedSimpArgs false
/-- The bytes of a number, the highest first: the first k of them. -/
def topN (n : Int) (many : Nat) : Nat → List UInt8
  | 0 => []
  | k + 1 => topN n many k ++ [UInt8.ofNat (n / 2 ^ (8 * (many - (k + 1))) % 256).toNat]
theorem topN_len (n : Int) (many : Nat) : ∀ k, (topN n many k).length = k
  | 0 => rfl
  | k + 1 => by rw [topN, List.length_append, topN_len n many k]; rfl
def numS (n : Int) (many : Nat) : ByteArray := ⟨(topN n many many).toArray⟩
end Go.Proofs.YtbeibmdccjgcmaaDoor.Me
