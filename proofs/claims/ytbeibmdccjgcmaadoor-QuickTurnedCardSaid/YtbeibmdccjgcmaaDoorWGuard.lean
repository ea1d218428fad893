-- A part of what print.sh printed: what this claim does not use is left out by a program of this session (lean_out.py).
import Derived.Test.YtbeibmdccjgcmaaDoorWWords
/-! ### 58. A guarded operation whose guard is known to want it: the same goal without the guard -/
namespace Go.Proofs.YtbeibmdccjgcmaaDoorW.PrintWords
open Go.RowKit
section
variable {P : Program} {ops : Array Oper} {rest : List Oper} {o : Oper} {a : Act} {Q : Exit → Act → World → Prop} {W : World}
end
end Go.Proofs.YtbeibmdccjgcmaaDoorW.PrintWords
