/- Walks of layer curve: Neg, Add, Lift. -/
import Derived.Test.YtjjmelhhalomaaaGreatDoorWy
namespace Go.Proofs.YtjjmelhhalomaaaGreatDoor
open Go.RowKit
theorem spots_two (a b : Sp) (w : World) (k : Nat) (hk : k < w.heap.size) (h0 : w.cell? ⟨k, 0, none⟩ = some (.int .i64 a.x)) (h1 : w.cell? ⟨k, 1, none⟩ = some (.int .i64 a.y)) (h2 : w.cell? ⟨k, 2, none⟩ = some (.bool a.far))
    (h3 : w.cell? ⟨k, 3, none⟩ = some (.int .i64 b.x)) (h4 : w.cell? ⟨k, 4, none⟩ = some (.int .i64 b.y)) (h5 : w.cell? ⟨k, 5, none⟩ = some (.bool b.far)) : SpotsAt w k 0 [a, b] := by
  refine ⟨hk, ?_, ?_, ?_⟩ <;> intro i hi <;> (have hi' : i = 0 ∨ i = 1 := by simp at hi; omega) <;> rcases hi' with rfl | rfl <;> assumption
theorem ok_first (a b : Sp) (ha : Ok a) (i : Nat) (hi : i < [a, b].length) (h : i < 1) : Ok [a, b][i] := by
  obtain rfl : i = 0 := by omega
  exact ha
end Go.Proofs.YtjjmelhhalomaaaGreatDoor
