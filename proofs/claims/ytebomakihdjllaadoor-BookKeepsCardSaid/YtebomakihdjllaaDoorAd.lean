/- Walks of layer adapt. -/
import Derived.Test.YtebomakihdjllaaDoorSb
import Derived.Test.YtebomakihdjllaaDoorEq
import Derived.Test.YtebomakihdjllaaDoorKe
import Derived.Deep.DeepCutAuto
import Derived.Deep.RegionWith
namespace Go.Proofs.YtebomakihdjllaaDoor
open Go.RowKit
set_option maxRecDepth 100000
set_option linter.unusedVariables false
set_option linter.unusedSimpArgs false
theorem SpAt.zero_of {w : World} {b : Nat} (h0 : w.cell? ⟨b, 0, none⟩ = some (.int .i64 0)) (h1 : w.cell? ⟨b, 1, none⟩ = some (.int .i64 0)) (h2 : w.cell? ⟨b, 2, none⟩ = some (.bool false)) (f0 : w.frozen? ⟨b, 0, none⟩ = false) (f1 : w.frozen? ⟨b, 1, none⟩ = false) (f2 : w.frozen? ⟨b, 2, none⟩ = false) (hl : b < w.heap.size) : SpAt w b ⟨0, 0, false⟩ := ⟨h0, h1, h2, f0, f1, f2, hl⟩
end Go.Proofs.YtebomakihdjllaaDoor
