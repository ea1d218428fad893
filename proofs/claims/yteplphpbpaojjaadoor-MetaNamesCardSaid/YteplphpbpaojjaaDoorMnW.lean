/- MetaNames' walk, at enough rounds. -/
import Derived.Test.YteplphpbpaojjaaDoorMnR0
import Derived.Test.YteplphpbpaojjaaDoorMnR1
namespace Go.Proofs.YteplphpbpaojjaaDoor.PMa
open Go.RowKit Go.Proofs.YteplphpbpaojjaaDoorW.PrintWords Go.Proofs.YteplphpbpaojjaaDoorW.PrintLast Go.Proofs.YteplphpbpaojjaaDoorW.PrintMore
set_option maxRecDepth 100000 in
theorem names_f : hamperlaw19_MetaNamesR.f 300 = some true := by decide +kernel
theorem names_walk (W : World) (hT : Me.Tabs W) : Calls Tryd.prog 9 #[] W fun e w' => e = .returned (.bool true) ∧ Below W.heap.size W w' :=
  hamperlaw19_MetaNamesR.calls 300 true rfl W hT names_f
end Go.Proofs.YteplphpbpaojjaaDoor.PMa
