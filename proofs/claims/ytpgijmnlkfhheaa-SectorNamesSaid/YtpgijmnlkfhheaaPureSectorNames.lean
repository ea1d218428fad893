/- SectorNames: the examples and the limits of the sectors' layer hold. No condition. -/
import Derived.Test.YtpgijmnlkfhheaaPSecNx30
namespace Go.Proofs.Ytpgijmnlkfhheaa.Pure
open Go.RowKit Go.Proofs.Ytpgijmnlkfhheaa.PSecN
theorem SectorNames : hamperlaw24_SectorNames.Pure := by
  unfold hamperlaw24_SectorNames.Pure hamperlaw24_SectorNames.f
  rw [if_pos (by decide)]
end Go.Proofs.Ytpgijmnlkfhheaa.Pure
