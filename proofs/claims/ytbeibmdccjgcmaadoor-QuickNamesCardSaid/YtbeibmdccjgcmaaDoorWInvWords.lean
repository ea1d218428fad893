-- A part of what print.sh printed: what this claim does not use is left out by a program of this session (lean_out.py).
import Derived.Test.YtbeibmdccjgcmaaDoorWInv
import Derived.Test.YtbeibmdccjgcmaaDoorWFootNe
namespace Go.Proofs.YtbeibmdccjgcmaaDoorW.PrintWords
open Go.RowKit
end Go.Proofs.YtbeibmdccjgcmaaDoorW.PrintWords
namespace Go.Proofs.YtbeibmdccjgcmaaDoorW.PrintLast
section
variable {ops : Array Oper} {a : Act} {o og : Oper} {g : Nat} {t : Tmp} {u : Bool}
end
end Go.Proofs.YtbeibmdccjgcmaaDoorW.PrintLast
