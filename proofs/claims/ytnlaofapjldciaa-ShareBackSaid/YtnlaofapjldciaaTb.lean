/- Walk of times.Base and times.By: where all begins. -/
import Derived.Test.YtnlaofapjldciaaWl
import Derived.Test.YtnlaofapjldciaaLf
import Derived.Test.YtnlaofapjldciaaWr
namespace Go.Proofs.Ytnlaofapjldciaa
open Go.RowKit
set_option maxRecDepth 100000
set_option linter.unusedVariables false
set_option linter.unusedSimpArgs false
theorem four0 : (sq (2026 * 4)).far = true := sq_far.mpr (by decide)
theorem four1 : (sq 4).far = false := sq_far_not (by decide)
theorem four00 : sq (2026 * 4) = ⟨0, 0, true⟩ := (sq_ok _).far_eq four0
end Go.Proofs.Ytnlaofapjldciaa
