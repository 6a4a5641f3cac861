/- Walks of layer twin, with two results. -/
import Derived.Test.YtfnifdmnbccblaaDoorWt
namespace Go.Proofs.YtfnifdmnbccblaaDoor
open Go.RowKit
end Go.Proofs.YtfnifdmnbccblaaDoor
