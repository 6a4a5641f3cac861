/- Walks of layer equal. -/
import Derived.Test.YtebomakihdjllaaDoorAe
import Derived.Test.YtebomakihdjllaaDoorHa
namespace Go.Proofs.YtebomakihdjllaaDoor
open Go.RowKit
set_option maxRecDepth 100000
set_option linter.unusedVariables false
set_option linter.unusedSimpArgs false
def flatS : List Sp → List Value
  | [] => []
  | s :: l => .int .i64 s.x :: .int .i64 s.y :: .bool s.far :: flatS l
theorem flatS_at : ∀ (l : List Sp) (i : Nat) (h : i < l.length), (flatS l)[i * 3]? = some (.int .i64 l[i].x) ∧ (flatS l)[i * 3 + 1]? = some (.int .i64 l[i].y) ∧ (flatS l)[i * 3 + 2]? = some (.bool l[i].far)
  | [], i, h => absurd h (by simp)
  | s :: l, 0, _ => ⟨rfl, rfl, rfl⟩
  | s :: l, i+1, h => by
    have := flatS_at l i (by simpa using h)
    rw [Nat.succ_mul]
    exact this
theorem spots_fresh (w : World) (l : List Sp) (t : TypeId) : SpotsAt (w.alloc (.cells (flatS l).toArray t)) w.heap.size 0 l := by
  have c : ∀ k, (w.alloc (.cells (flatS l).toArray t)).cell? ⟨w.heap.size, k, none⟩ = (flatS l)[k]? := fun k => by rw [World.cell?_alloc_at _ _ _ _ (by simp)]; simp
  refine ⟨by simp, fun i h => ?_, fun i h => ?_, fun i h => ?_⟩
  · rw [Nat.zero_add, c]; exact (flatS_at l i h).1
  · rw [Nat.zero_add, c]; exact (flatS_at l i h).2.1
  · rw [Nat.zero_add, c]; exact (flatS_at l i h).2.2
theorem spots_at (w : World) (l : List Sp) (k : Nat) (cs : Array Value) (t : TypeId) (hk : k = w.heap.size) (hc : cs = (flatS l).toArray) : SpotsAt (w.alloc (.cells cs t)) k 0 l := by
  subst hk hc; exact spots_fresh w l t
theorem ok_all {l : List Sp} (h : ∀ s ∈ l, Ok s) : ∀ i (hi : i < l.length), Ok l[i] := fun i hi => h _ (List.getElem_mem hi)
/-- The challenge of five spots. -/
def ask5 (l : List Sp) : Int := hnum (lsB 5 l).data.toList
theorem ask5_bd (l : List Sp) : 0 ≤ ask5 l ∧ ask5 l < 1013 := hnum_bd _
end Go.Proofs.YtebomakihdjllaaDoor
