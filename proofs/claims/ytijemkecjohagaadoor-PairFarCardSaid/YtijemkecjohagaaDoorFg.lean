/- The listed variables curve.Far, pair.one and errors.errorType, all together. -/
import Derived.Test.YtijemkecjohagaaDoorFo
import Derived.Test.YtijemkecjohagaaDoorFe
namespace Go.Proofs.YtijemkecjohagaaDoor
open Go.ChangeShapes Go.WideShapes Go.ChangeAt Go.WideMaps Go.WideElems Go.RowKit
set_option maxRecDepth 100000
abbrev allLaid : List (String × DataW Unit) := [("pairstone/curve.Far", Rows.laid_pairstone_curve_Far), ("pairstone/pair.one", Rows.laid_pairstone_pair_one), ("errors.errorType", Rows.laid_errors_errorType)]
theorem allLaid_met (os : Os) (args : Array Value) : laidMetH Tryd.prog allLaid ((World.doorLaid Tryd.prog 400 os).forCall (fun _ _ => 0) ⟨#[], args, []⟩).memory :=
  laidMetH_of_parts (laidMet_of_run' 8 (by kernel_rfl) (by kernel_rfl)) (by kernel_rfl)
theorem allLaid_at {W : World} (h : laidMetH Tryd.prog allLaid W) : (FarAt W ∧ OneAt W) ∧ ErrAt W := by
  have h' : laidMet Tryd.prog oneLaid W ∧ handlesMet Tryd.prog errLaid W := h
  exact ⟨oneLaid_at (by rw [MakeChecks.laidMetH_plain _ _ _ (by kernel_rfl)]; exact h'.1), err_of_handles h'.2 (by simp)⟩
end Go.Proofs.YtijemkecjohagaaDoor
