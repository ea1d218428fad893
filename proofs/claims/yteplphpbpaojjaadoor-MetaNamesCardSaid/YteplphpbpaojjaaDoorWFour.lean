-- A part of what print.sh printed: what this claim does not use is left out by a program of this session (lean_out.py).
import Derived.Test.YteplphpbpaojjaaDoorWTab
/-! ### 56. Four, five, six operations that may come up next, in any order -/
namespace Go.Proofs.YteplphpbpaojjaaDoorW.PrintLast
section
variable {P : Program} {ops : Array Oper} {Q : Exit → Act → World → Prop} {md : Region.Mode} {S : World → Prop} {ds : List Nat} {T : Bool × List (List Nat × List Nat)}
end
end Go.Proofs.YteplphpbpaojjaaDoorW.PrintLast
