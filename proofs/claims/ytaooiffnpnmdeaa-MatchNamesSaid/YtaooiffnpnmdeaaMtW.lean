/- MatchNames' walk, at enough rounds. -/
import Derived.Test.YtaooiffnpnmdeaaMtN
import Derived.Test.YtaooiffnpnmdeaaNmR1
namespace Go.Proofs.Ytaooiffnpnmdeaa.PMt
open Go.RowKit Go.Proofs.YtaooiffnpnmdeaaW.PrintWords Go.Proofs.YtaooiffnpnmdeaaW.PrintLast Go.Proofs.YtaooiffnpnmdeaaW.PrintMore
theorem names_walk (W : World) : Calls Try.prog 3 #[] W fun e w' => e = .returned (.bool true) ∧ Below W.heap.size W w' :=
  hamperlaw15_MatchNamesR.calls (40000 + 1) true rfl W (names_all 40000 (Nat.le_refl _))
end Go.Proofs.Ytaooiffnpnmdeaa.PMt
