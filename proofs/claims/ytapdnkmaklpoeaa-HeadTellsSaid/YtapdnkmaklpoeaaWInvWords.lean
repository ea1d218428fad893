-- A part of what print.sh printed: what this claim does not use is left out by a program of this session (lean_out.py).
import Derived.Test.YtapdnkmaklpoeaaWInv
import Derived.Test.YtapdnkmaklpoeaaWFootNe
namespace Go.Proofs.YtapdnkmaklpoeaaW.PrintWords
open Go.RowKit
end Go.Proofs.YtapdnkmaklpoeaaW.PrintWords
namespace Go.Proofs.YtapdnkmaklpoeaaW.PrintLast
section
variable {ops : Array Oper} {a : Act} {o og : Oper} {g : Nat} {t : Tmp} {u : Bool}
end
end Go.Proofs.YtapdnkmaklpoeaaW.PrintLast
