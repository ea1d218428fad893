/- The examples of layer 21 are as they are told. -/
import Derived.Test.YtbeibmdccjgcmaaDoorQLaws
import Derived.Test.YtbeibmdccjgcmaaDoorQnR0
namespace Go.Proofs.YtbeibmdccjgcmaaDoor.PQu
open Go.RowKit Go.Lib Go.Proofs.YtbeibmdccjgcmaaDoorW.PrintWords Go.Proofs.YtbeibmdccjgcmaaDoorW.PrintLast Go.Proofs.YtbeibmdccjgcmaaDoorW.PrintMore Go.Proofs.YtbeibmdccjgcmaaDoor.Pb
set_option linter.unusedVariables false
set_option linter.unusedSimpArgs false
set_option maxRecDepth 100000 in
theorem works_at : hamperlaw21_works.f 0 = some true := by decide +kernel
theorem works_f (k : Nat) : hamperlaw21_works.f k = some true := at_rounds hamperlaw21_works.mono (Nat.zero_le k) works_at
end Go.Proofs.YtbeibmdccjgcmaaDoor.PQu
