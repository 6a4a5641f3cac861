/- Walks of layer twin, with two results. -/
import Derived.Test.YtcphbigiooibcaaDoorWt
namespace Go.Proofs.YtcphbigiooibcaaDoor
open Go.RowKit
end Go.Proofs.YtcphbigiooibcaaDoor
