/- The examples that each statement of the sectors' layer asks first. -/
import Derived.Test.YtpgijmnlkfhheaaSecPure
import Derived.Test.YtpgijmnlkfhheaaPSecPx28
namespace Go.Proofs.Ytpgijmnlkfhheaa.Tw
open Go.RowKit Go.Proofs.YtpgijmnlkfhheaaW.PrintWords Go.Proofs.YtpgijmnlkfhheaaW.PrintLast Go.Proofs.YtpgijmnlkfhheaaW.PrintMore Go.Proofs.Ytpgijmnlkfhheaa.PSecP Go.Proofs.Ytpgijmnlkfhheaa.Pb
theorem awake_yes : hamperlaw24_awake.f = some true := by
  unfold hamperlaw24_awake.f
  rw [if_pos (by decide)]
end Go.Proofs.Ytpgijmnlkfhheaa.Tw
