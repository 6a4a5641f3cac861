/- Contracts that name their results: keys, sums, times, the base as written out. -/
import Derived.Test.YtjjmelhhalomaaaGreatDoorSe
import Derived.Test.YtjjmelhhalomaaaGreatDoorEq
import Derived.Test.YtjjmelhhalomaaaGreatDoorWz
namespace Go.Proofs.YtjjmelhhalomaaaGreatDoor
open Go.RowKit
set_option maxRecDepth 100000
set_option linter.unusedVariables false
set_option linter.unusedSimpArgs false
theorem cSp_4 : cSp 4 = ⟨1189, 3667, false⟩ := Sp.ext' (by decide +kernel) (by decide +kernel) rfl
theorem sq_4 : sq 4 = ⟨1189, 3667, false⟩ := by
  have := sq_nat 4; rw [sp_table (by decide) (by decide), cSp_4] at this; exact this
theorem base_ok : Ok ⟨1189, 3667, false⟩ := by rw [← sq_4]; exact sq_ok _
theorem base_k (w : World) (hF : FarAt w) : Calls Tryz.prog 11 #[] w fun e w' => e = .returned (spV ⟨1189, 3667, false⟩) ∧ Below w.heap.size w w' := by
  have := base_c w hF; rw [sq_4] at this; exact this
theorem key_one (w : World) (hF : FarAt w) : Calls Tryz.prog 39 #[.int .i64 1] w fun e w' => e = .returned (.tuple #[spV ⟨1189, 3667, false⟩, .nilIface]) ∧ Below w.heap.size w w' := by
  have := key_y 1 w hF (by omega) (by omega); rw [Int.mul_one, sq_4] at this; exact this
theorem key_e (n : Int) (c : Sp) (w : World) (hF : FarAt w) (h1 : 1 ≤ n) (h2 : n < 1013) (h : Hid (sq (4 * n) = c)) : Calls Tryz.prog 39 #[.int .i64 n] w fun e w' => e = .returned (.tuple #[spV c, .nilIface]) ∧ Below w.heap.size w w' := by
  have := key_y n w hF h1 h2; rw [h.out] at this; exact this
theorem times_e (a c : Sp) (u n : Int) (w : World) (hF : FarAt w) (ha : Hid (a = sq u)) (h : Hid (sq (u * n) = c)) : Calls Tryz.prog 10 #[spV a, .int .i64 n] w fun e w' => e = .returned (.tuple #[spV c, .nilIface]) ∧ Below w.heap.size w w' := by
  have := timesTimes_ok u n w hF; rw [h.out, ← ha.out] at this; exact this
theorem inside_e (a : Sp) (u : Int) (b : Bool) (w : World) (hF : FarAt w) (ha : Hid (a = sq u)) (h : Hid ((sq (u * 1013)).far = b)) : Calls Tryz.prog 87 #[spV a] w fun e w' => e = .returned (.bool b) ∧ Below w.heap.size w w' := by
  have := timesInside_c u w hF; rw [h.out, ← ha.out] at this; exact this
theorem ok_of {a : Sp} {u : Int} (h : a = sq u) : Ok a := by rw [h]; exact sq_ok u
/-- A key, whatever comes of it. -/
def KeyIs (n : Int) (V : Sp) (E : Value) : Prop := ∀ w : World, FarAt w → Calls Tryz.prog 39 #[.int .i64 n] w fun e w' => e = .returned (.tuple #[spV V, E]) ∧ Below w.heap.size w w'
theorem key_is (n : Int) : (∃ V E, KeyIs n V E) := by
  by_cases h : 1 ≤ n ∧ n < 1013
  · exact ⟨_, _, fun w hF => key_y n w hF h.1 h.2⟩
  · exact ⟨_, _, fun w _ => key_n n w h⟩
end Go.Proofs.YtjjmelhhalomaaaGreatDoor
