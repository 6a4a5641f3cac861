/- Walk of curve.Lift: a spot over this x. -/
import Derived.Test.YtnlaofapjldciaaWz
namespace Go.Proofs.Ytnlaofapjldciaa
open Go.RowKit
end Go.Proofs.Ytnlaofapjldciaa
