-- A part of what print.sh printed: what this claim does not use is left out by a program of this session (lean_out.py).
import Derived.Test.YteplphpbpaojjaaDoorWInv
import Derived.Test.YteplphpbpaojjaaDoorWFootNe
namespace Go.Proofs.YteplphpbpaojjaaDoorW.PrintWords
open Go.RowKit
end Go.Proofs.YteplphpbpaojjaaDoorW.PrintWords
namespace Go.Proofs.YteplphpbpaojjaaDoorW.PrintLast
section
variable {ops : Array Oper} {a : Act} {o og : Oper} {g : Nat} {t : Tmp} {u : Bool}
end
end Go.Proofs.YteplphpbpaojjaaDoorW.PrintLast
