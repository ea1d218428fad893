/- The document's blake (hamperref05): its first numbers, its places, its sums and turns of numbers, its digest. -/
import Derived.Test.YtbeibmdccjgcmaaDoorBk12
import Derived.Test.YtbeibmdccjgcmaaDoorPb
import Derived.Laws.BitsLemmas
import Derived.Test.YtbeibmdccjgcmaaDoorPRefx7
namespace Go.Proofs.YtbeibmdccjgcmaaDoor.Rf5
open Go.RowKit Go.Proofs.YtbeibmdccjgcmaaDoorW.PrintWords Go.Proofs.YtbeibmdccjgcmaaDoorW.PrintLast Go.Proofs.YtbeibmdccjgcmaaDoorW.PrintMore Go.Proofs.YtbeibmdccjgcmaaDoor.PRef
open Go.Proofs.YtbeibmdccjgcmaaDoor.Bk Go.Proofs.YtbeibmdccjgcmaaDoor.Pb
set_option linter.unusedVariables false
set_option linter.unusedSimpArgs false
end Go.Proofs.YtbeibmdccjgcmaaDoor.Rf5
namespace Go.Proofs.YtbeibmdccjgcmaaDoor.Rf5
open Go.RowKit Go.Proofs.YtbeibmdccjgcmaaDoorW.PrintWords Go.Proofs.YtbeibmdccjgcmaaDoorW.PrintLast Go.Proofs.YtbeibmdccjgcmaaDoorW.PrintMore
open Go.Proofs.YtbeibmdccjgcmaaDoor.Bk Go.Proofs.YtbeibmdccjgcmaaDoor.Pb
set_option linter.unusedVariables false
set_option linter.unusedSimpArgs false
theorem wrap32 (n : Int) : IntKind.u32.wrap n = n % 4294967296 := rfl
end Go.Proofs.YtbeibmdccjgcmaaDoor.Rf5
namespace Go.Proofs.YtbeibmdccjgcmaaDoor.Rf5
open Go.RowKit Go.Proofs.YtbeibmdccjgcmaaDoorW.PrintWords Go.Proofs.YtbeibmdccjgcmaaDoorW.PrintLast Go.Proofs.YtbeibmdccjgcmaaDoorW.PrintMore
open Go.Proofs.YtbeibmdccjgcmaaDoor.Bk Go.Proofs.YtbeibmdccjgcmaaDoor.Pb
set_option linter.unusedVariables false
set_option linter.unusedSimpArgs false
attribute [local irreducible] compress
end Go.Proofs.YtbeibmdccjgcmaaDoor.Rf5
