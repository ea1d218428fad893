-- A part of what print.sh printed: what this claim does not use is left out by a program of this session (lean_out.py).
import Derived.Test.YteplphpbpaojjaaDoorWApart
import Derived.Test.YteplphpbpaojjaaDoorWArr
namespace Go.Proofs.YteplphpbpaojjaaDoorW.PrintWords
open Go.RowKit
section
variable {P : Program}
end
namespace Kd
section
variable {P : Program} {ops : Array Oper} {rest : List Oper} {o : Oper} {a : Act} {Q : Exit → Act → World → Prop} {Kc : Act → World → Prop} {α : Type}
end
section
variable {α : Type} {d : Kd α} {e : Nat} {w : World} {base : Nat} {ok : Nat → Prop} {v : Value} {xs : List α}
end
section
variable {P : Program} {ops : Array Oper} {rest : List Oper} {o : Oper} {a : Act} {Q : Exit → Act → World → Prop} {Kc : Act → World → Prop} {α : Type}
end
end Kd
end Go.Proofs.YteplphpbpaojjaaDoorW.PrintWords
