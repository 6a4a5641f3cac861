/- Places picked: an array of bools that tells which. -/
import Derived.Test.YtnlaofapjldciaaSk
namespace Go.Proofs.Ytnlaofapjldciaa
open Go.RowKit
set_option linter.unusedVariables false
/-- The array at block b tells which of the first m places are among ps. -/
structure IsAt (w : World) (b m : Nat) (ps : List Nat) : Prop where
  lt : b < w.heap.size
  c : ∀ j, j < m → w.cell? ⟨b, j, none⟩ = some (.bool (decide (j ∈ ps)))
  f : ∀ j, j < m → w.frozen? ⟨b, j, none⟩ = false
theorem IsAt.below {w w' : World} {b m B : Nat} {ps : List Nat} (h : IsAt w b m ps) (hb : Below B w w') (hB : b < B) : IsAt w' b m ps :=
  ⟨Nat.lt_of_lt_of_le h.lt hb.size, fun j hj => (hb.cell (p := ⟨b, j, none⟩) hB).trans (h.c j hj), fun j hj => (hb.frozen (p := ⟨b, j, none⟩) hB).trans (h.f j hj)⟩
theorem IsAt.fresh (w : World) (m : Nat) (cs : Array Value) (t : TypeId) (hc : cs = Array.replicate m (.bool false)) : IsAt (w.alloc (.cells cs t)) w.heap.size m [] := by
  subst hc
  refine ⟨by simp, fun j hj => ?_, fun j hj => ?_⟩
  · rw [cell_of_row _ w.heap.size _ (Array.replicate m (.bool false)) t (0, 0) (heap_alloc_new w _)]
    simp [hj]
  · simp
theorem IsAt.put {w : World} {b m : Nat} {ps : List Nat} (h : IsAt w b m ps) (p : Nat) (hp : p < m) : IsAt (w.setCell ⟨b, p, none⟩ (.bool true)) b m (ps ++ [p]) := by
  refine ⟨by simpa [World.setCell] using h.lt, fun j hj => ?_, fun j hj => by rw [World.frozen?_setCell]; exact h.f j hj⟩
  by_cases e : j = p
  · subst e
    rw [World.cell?_setCell_same _ _ _ (h.c j hj)]; simp
  · rw [World.cell?_setCell_other (h := fun k => e (by cases k; rfl)), h.c j hj]
    simp [e]
end Go.Proofs.Ytnlaofapjldciaa
