/- Walk of curve.All: what is wrong with the first of some spots that has a fault. -/
import Derived.Test.YtnlaofapjldciaaWx
namespace Go.Proofs.Ytnlaofapjldciaa
open Go.RowKit
/-- A slice that holds these spots. -/
structure SpotsAt (w : World) (b off : Nat) (l : List Sp) : Prop where
  lt : b < w.heap.size
  cx : ∀ i (h : i < l.length), w.cell? ⟨b, off + i * 3, none⟩ = some (.int .i64 l[i].x)
  cy : ∀ i (h : i < l.length), w.cell? ⟨b, off + i * 3 + 1, none⟩ = some (.int .i64 l[i].y)
  cf : ∀ i (h : i < l.length), w.cell? ⟨b, off + i * 3 + 2, none⟩ = some (.bool l[i].far)
theorem SpotsAt.below {w w' : World} {b off : Nat} {l : List Sp} (h : SpotsAt w b off l) (hb : Below w.heap.size w w') : SpotsAt w' b off l :=
  ⟨Nat.lt_of_lt_of_le h.lt hb.size, fun i hi => (hb.cell (p := ⟨b, off + i * 3, none⟩) h.lt).trans (h.cx i hi), fun i hi => (hb.cell (p := ⟨b, off + i * 3 + 1, none⟩) h.lt).trans (h.cy i hi), fun i hi => (hb.cell (p := ⟨b, off + i * 3 + 2, none⟩) h.lt).trans (h.cf i hi)⟩
/-- The fault of the first that has one; 0: none. -/
def allErr : List Sp → Int
  | [] => 0
  | s :: l => if sCheck s = 0 then allErr l else sCheck s
end Go.Proofs.Ytnlaofapjldciaa
