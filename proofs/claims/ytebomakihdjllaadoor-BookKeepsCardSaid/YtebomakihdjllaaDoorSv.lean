/- Walks of seal.Check, seal.Off, seal.Verify. -/
import Derived.Test.YtebomakihdjllaaDoorSf
namespace Go.Proofs.YtebomakihdjllaaDoor
open Go.RowKit
set_option maxRecDepth 100000
set_option linter.unusedVariables false
set_option linter.unusedSimpArgs false
@[go_sem] theorem field_far4 (x y : Value) (f : Bool) (w : World) : Sem.run Tryd.prog (Instr.field 23 (.agg #[x, y, .bool f]) 2) w = .ok (.bool f) w := by kernel_rfl
end Go.Proofs.YtebomakihdjllaaDoor
