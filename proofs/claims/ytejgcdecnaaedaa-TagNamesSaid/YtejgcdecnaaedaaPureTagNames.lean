/- TagNames: the examples and the limits of the tags' layer hold. No condition. -/
import Derived.Test.YtejgcdecnaaedaaPTagx26
namespace Go.Proofs.Ytejgcdecnaaedaa.Pure
open Go.RowKit Go.Proofs.Ytejgcdecnaaedaa.PTag
set_option maxRecDepth 100000 in
theorem TagNames : hamperlaw06_TagNames.Pure := ⟨20, by decide +kernel⟩
end Go.Proofs.Ytejgcdecnaaedaa.Pure
