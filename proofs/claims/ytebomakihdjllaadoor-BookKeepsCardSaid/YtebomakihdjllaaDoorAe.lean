/- Walk of adapt.Pre, all right. -/
import Derived.Test.YtebomakihdjllaaDoorAd
namespace Go.Proofs.YtebomakihdjllaaDoor
open Go.RowKit
set_option maxRecDepth 100000
set_option linter.unusedVariables false
set_option linter.unusedSimpArgs false
theorem hav_ {P Q : Prop} (h : P) (k : P → Q) : Q := k h
end Go.Proofs.YtebomakihdjllaaDoor
