/- VintTells, the plain law: the bytes of any number, and the number by which any bytes begin, are the document's, or it is refused. -/
import Derived.Test.YtaclccafbdcpoaaVr
import Derived.Test.YtaclccafbdcpoaaPVintx14
namespace Go.Proofs.Ytaclccafbdcpoaa.Pure
open Go.RowKit Go.Proofs.Ytaclccafbdcpoaa.PVint Go.Proofs.YtaclccafbdcpoaaW.PrintWords Go.Proofs.YtaclccafbdcpoaaW.PrintLast Go.Proofs.YtaclccafbdcpoaaW.PrintMore Go.Proofs.Ytaclccafbdcpoaa.Vm
theorem VintTells : hamperlaw18_VintTells.Pure := by
  intro n s hn hs
  refine ⟨100, ?_⟩
  unfold hamperlaw18_VintTells.f
  rw [awake_f 100 (by decide), put_f n 100 (by decide), ref_put_f n 100 (by decide), get_f s 100 (by decide), ref_get_f s (by omega) 100 (by decide)]
  simp
end Go.Proofs.Ytaclccafbdcpoaa.Pure
