-- A part of what print.sh printed: what this claim does not use is left out by a program of this session (lean_out.py).
import Derived.Test.YteplphpbpaojjaaDoorWN
/-! ### 52. A row that stays read whatever happens to a block (a set of blocks) doesn't lie there -/
namespace Go.Proofs.YteplphpbpaojjaaDoorW.PrintWords
open Go.RowKit
namespace Kd
section
variable {α : Type} {d : Kd α} {W : World} {g n : Nat} {S ok : Nat → Prop} {A : Option Addr} {ad : Addr} {xs : List α}
end
end Kd
end Go.Proofs.YteplphpbpaojjaaDoorW.PrintWords
