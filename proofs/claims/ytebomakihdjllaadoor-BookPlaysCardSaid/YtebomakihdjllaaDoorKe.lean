/- Contracts that name their results: keys, sums, times, the base as written out. -/
import Derived.Test.YtebomakihdjllaaDoorSe
import Derived.Test.YtebomakihdjllaaDoorEq
import Derived.Test.YtebomakihdjllaaDoorWz
namespace Go.Proofs.YtebomakihdjllaaDoor
open Go.RowKit
set_option maxRecDepth 100000
set_option linter.unusedVariables false
set_option linter.unusedSimpArgs false
theorem cSp_4 : cSp 4 = ⟨1189, 3667, false⟩ := Sp.ext' (by decide +kernel) (by decide +kernel) rfl
theorem sq_4 : sq 4 = ⟨1189, 3667, false⟩ := by
  have := sq_nat 4; rw [sp_table (by decide) (by decide), cSp_4] at this; exact this
theorem base_ok : Ok ⟨1189, 3667, false⟩ := by rw [← sq_4]; exact sq_ok _
theorem base_k (w : World) (hF : FarAt w) : Calls Tryd.prog 72 #[] w fun e w' => e = .returned (spV ⟨1189, 3667, false⟩) ∧ Below w.heap.size w w' := by
  have := base_c w hF; rw [sq_4] at this; exact this
theorem add_e (a b c : Sp) (w : World) (hF : FarAt w) (ha : Ok a) (hb : Ok b) (h : Hid (sSum a b = c)) : Calls Tryd.prog 31 #[spV a, spV b] w fun e w' => e = .returned (.tuple #[spV c, .nilIface]) ∧ Below w.heap.size w w' := by
  have := add_ok a b w hF ha hb; rw [h.out] at this; exact this
theorem inside_e (a : Sp) (u : Int) (b : Bool) (w : World) (hF : FarAt w) (ha : Hid (a = sq u)) (h : Hid ((sq (u * 1013)).far = b)) : Calls Tryd.prog 55 #[spV a] w fun e w' => e = .returned (.bool b) ∧ Below w.heap.size w w' := by
  have := timesInside_c u w hF; rw [h.out, ← ha.out] at this; exact this
theorem ok_of {a : Sp} {u : Int} (h : a = sq u) : Ok a := by rw [h]; exact sq_ok u
end Go.Proofs.YtebomakihdjllaaDoor
