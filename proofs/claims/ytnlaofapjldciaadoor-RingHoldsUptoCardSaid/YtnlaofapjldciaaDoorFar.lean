/- The listed variable curve.Far: the door's run meets what is listed, and what is listed tells the walks its cells. -/
import Derived.Test.YtnlaofapjldciaaDoorRows
import Derived.Test.YtnlaofapjldciaaDoorWv
import Derived.ProofKit
import Derived.LaidMore
import Derived.OpenShut
import Derived.MakeChecks
import Derived.Deep.Strs
namespace Go.Proofs.YtnlaofapjldciaaDoor
open Go.ChangeShapes Go.WideShapes Go.ChangeAt Go.WideMaps Go.WideElems Go.RowKit
set_option maxRecDepth 100000
abbrev farLaid : List (String × DataW Unit) := [("pairstone/curve.Far", Rows.laid_pairstone_curve_Far)]
theorem gFar : Tryd.prog.globalNamed "pairstone/curve.Far" = some 0 := by kernel_rfl
theorem tFar : (Tryd.prog.globals[0]?).map (·.type) = some 24 := by kernel_rfl
/-- The door's own heap meets the condition. -/
theorem farLaid_met (os : Os) (args : Array Value) : laidMetH Tryd.prog farLaid ((World.doorLaid Tryd.prog 400 os).forCall (fun _ _ => 0) ⟨#[], args, []⟩).memory :=
  laidMetH_of_parts3 (fuel := 8) (laidMet_of_run' 8 (by kernel_rfl) (by kernel_rfl)) (by kernel_rfl) (by kernel_rfl)
theorem lt_of_cell {w : World} {b o : Nat} {v : Value} (h : w.cell? ⟨b, o, none⟩ = some v) : b < w.heap.size := by
  rcases Nat.lt_or_ge b w.heap.size with h1 | h1
  · exact h1
  · simp [World.cell?, Array.getElem?_eq_none h1] at h
theorem farLaid_at {W : World} (h : laidMetH Tryd.prog farLaid W) : FarAt W := by
  rw [MakeChecks.laidMetH_plain _ _ _ (by kernel_rfl)] at h
  obtain ⟨ps, ⟨g0, t0, cs0, f0, p0, q0, hg0, ht0, hv0, hd0, _, _⟩, _, _⟩ := h
  obtain rfl := Option.some.inj (gFar.symm.trans hg0)
  obtain rfl := Option.some.inj (tFar.symm.trans ht0)
  obtain ⟨y0, y1, y2, n, hx, hlen, h0, h1, h2⟩ := Deep.trod_struct3 Tryd.underlying24 hd0
  simp only [Rows.laid_pairstone_curve_Far, Prod.mk.injEq, DataW.agg.injEq, List.cons.injEq, and_true] at hx
  obtain ⟨⟨e0, e1, e2⟩, _⟩ := hx
  obtain ⟨a, c0, rfl, _⟩ := DataW.trod_int Tryd.underlying3 h0
  obtain ⟨b, c1, rfl, _⟩ := DataW.trod_int Tryd.underlying3 h1
  obtain ⟨f, c2, rfl⟩ := DataW.trod_bool Tryd.underlying4 h2
  have k3 : Tryd.prog.cellsOf 24 = 3 := by kernel_rfl
  have ki : Tryd.prog.cellsOf 3 = 1 := by kernel_rfl
  have kb : Tryd.prog.cellsOf 4 = 1 := by kernel_rfl
  obtain ⟨l⟩ := cs0
  have h3 : l.length = 3 := by simpa using hlen.trans k3
  match l, h3 with
  | [x, y, z], _ =>
    simp [ki, kb] at c0 c1 c2
    subst c0 c1 c2
    have v0 := World.var?_cell hg0 hv0 0
    have v1 := World.var?_cell hg0 hv0 1
    have v2 := World.var?_cell hg0 hv0 2
    simp at e0 e1 e2 v0 v1 v2
    subst e0 e1 e2
    exact ⟨v0, v1, v2, lt_of_cell v0⟩
end Go.Proofs.YtnlaofapjldciaaDoor
