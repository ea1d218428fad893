-- A part of what print.sh printed: what this claim does not use is left out by a program of this session (lean_out.py).
import Derived.Test.YtpgijmnlkfhheaaWWords
import Derived.Laws.StructEq
namespace Go.Proofs.YtpgijmnlkfhheaaW.PrintWords
open Go.RowKit
section
variable {P : Program} {d : Nat} {xs ys : Array Value} {f : Field} {fs : List Field} {a b : Value} {r s : Bool} {w : World}
end
end Go.Proofs.YtpgijmnlkfhheaaW.PrintWords
