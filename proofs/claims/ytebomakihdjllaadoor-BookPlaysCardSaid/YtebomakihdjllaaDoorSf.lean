/- Walks of layer seal: sign, check, off, verify. -/
import Derived.Test.YtebomakihdjllaaDoorKe
namespace Go.Proofs.YtebomakihdjllaaDoor
open Go.RowKit
set_option maxRecDepth 100000
set_option linter.unusedVariables false
set_option linter.unusedSimpArgs false
/-- A seal, as the program has it. -/
abbrev slV (r : Sp) (s : Int) : Value := .agg #[.int .i64 r.x, .int .i64 r.y, .bool r.far, .int .i64 s]
theorem set4_cell {w : World} {b : Nat} {u v t q x y z p : Value} (h0 : w.cell? ⟨b, 0, none⟩ = some u) (h1 : w.cell? ⟨b, 1, none⟩ = some v) (h2 : w.cell? ⟨b, 2, none⟩ = some t) (h3 : w.cell? ⟨b, 3, none⟩ = some q) :
    ((((w.setCell ⟨b, 0, none⟩ x).setCell ⟨b, 1, none⟩ y).setCell ⟨b, 2, none⟩ z).setCell ⟨b, 3, none⟩ p).cell? ⟨b, 0, none⟩ = some x ∧ ((((w.setCell ⟨b, 0, none⟩ x).setCell ⟨b, 1, none⟩ y).setCell ⟨b, 2, none⟩ z).setCell ⟨b, 3, none⟩ p).cell? ⟨b, 1, none⟩ = some y ∧
    ((((w.setCell ⟨b, 0, none⟩ x).setCell ⟨b, 1, none⟩ y).setCell ⟨b, 2, none⟩ z).setCell ⟨b, 3, none⟩ p).cell? ⟨b, 2, none⟩ = some z ∧ ((((w.setCell ⟨b, 0, none⟩ x).setCell ⟨b, 1, none⟩ y).setCell ⟨b, 2, none⟩ z).setCell ⟨b, 3, none⟩ p).cell? ⟨b, 3, none⟩ = some p := by
  have k := set3_cell (x := x) (y := y) (z := z) h0 h1 h2
  refine ⟨?_, ?_, ?_, ?_⟩
  · rw [World.cell?_setCell_other (h := by simp)]; exact k.1
  · rw [World.cell?_setCell_other (h := by simp)]; exact k.2.1
  · rw [World.cell?_setCell_other (h := by simp)]; exact k.2.2
  · exact World.cell?_setCell_same _ _ _ (by rw [World.cell?_setCell_other (h := by simp), World.cell?_setCell_other (h := by simp), World.cell?_setCell_other (h := by simp)]; exact h3)
theorem set4_below {B : Nat} {a w : World} {b : Nat} {x y z p : Value} (h : Below B a w) (hb : B ≤ b) : Below B a ((((w.setCell ⟨b, 0, none⟩ x).setCell ⟨b, 1, none⟩ y).setCell ⟨b, 2, none⟩ z).setCell ⟨b, 3, none⟩ p) := (set3_below h hb).setCell hb p
theorem by_e (n : Int) (c : Sp) (w : World) (hF : FarAt w) (h : Hid (sq (4 * n) = c)) : Calls Tryd.prog 54 #[.int .i64 n] w fun e w' => e = .returned (spV c) ∧ Below w.heap.size w w' := by
  have := by_c n w hF; rw [h.out] at this; exact this
theorem of_e (a c : Sp) (u n : Int) (w : World) (hF : FarAt w) (ha : Hid (a = sq u)) (h : Hid (sq (u * n) = c)) : Calls Tryd.prog 41 #[spV a, .int .i64 n] w fun e w' => e = .returned (spV c) ∧ Below w.heap.size w w' := by
  have := timesOf_c u n w hF; rw [h.out, ← ha.out] at this; exact this
theorem sum_e (a b c : Sp) (w : World) (hF : FarAt w) (ha : Ok a) (hb : Ok b) (h : Hid (sSum a b = c)) : Calls Tryd.prog 38 #[spV a, spV b] w fun e w' => e = .returned (spV c) ∧ Below w.heap.size w w' := by
  have := sum_k a b w hF ha hb; rw [h.out] at this; exact this
theorem turned_e (a c : Sp) (w : World) (ha : Ok a) (h : Hid (sTurned a = c)) : Calls Tryd.prog 39 #[spV a] w fun e w' => e = .returned (spV c) ∧ Below w.heap.size w w' := by
  have := turned_k a w ha; rw [h.out] at this; exact this
end Go.Proofs.YtebomakihdjllaaDoor
