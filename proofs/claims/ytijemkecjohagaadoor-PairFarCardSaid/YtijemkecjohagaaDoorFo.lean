/- The listed variables curve.Far and pair.one: the door's run meets what is listed, and what is listed tells the walks its cells. -/
import Derived.Test.YtijemkecjohagaaDoorFar
import Derived.Test.YtijemkecjohagaaDoorPo
namespace Go.Proofs.YtijemkecjohagaaDoor
open Go.ChangeShapes Go.WideShapes Go.ChangeAt Go.WideMaps Go.WideElems Go.RowKit
set_option maxRecDepth 100000
theorem trod_struct2 {H : Type} {enc : TypeId × Value → H} {P : Program} {w : World} {base : Nat} {spare : Nat → Bool} {held : Bool} {t : TypeId} {f0 f1 : Field} {fuel : Nat} {cs : List Value} {x : DataW H × List MemPlace} (ht : P.underlying t = some (.struct #[f0, f1])) (h : DataW.trod enc P w base spare held fuel t cs = some x) :
    ∃ y0 y1 n, x = (.agg [y0.1, y1.1], y0.2 ++ y1.2) ∧ cs.length = P.cellsOf t ∧ DataW.trod enc P w base spare held n f0.type ((cs.drop f0.offset).take (P.cellsOf f0.type)) = some y0 ∧
      DataW.trod enc P w base spare held n f1.type ((cs.drop f1.offset).take (P.cellsOf f1.type)) = some y1 := by
  obtain ⟨xs, n, _, rfl, hl, hlen, hf⟩ := DataW.trod_struct ht h
  match xs, hlen with
  | [y0, y1], _ => exact ⟨y0, y1, n, by simp, hl, by simpa using hf 0 f0 rfl, by simpa using hf 1 f1 rfl⟩
abbrev oneLaid : List (String × DataW Unit) := [("pairstone/curve.Far", Rows.laid_pairstone_curve_Far), ("pairstone/pair.one", Rows.laid_pairstone_pair_one)]
theorem gOne : Tryd.prog.globalNamed "pairstone/pair.one" = some 1 := by kernel_rfl
theorem tOne : (Tryd.prog.globals[1]?).map (·.type) = some 34 := by kernel_rfl
theorem oneLaid_met (os : Os) (args : Array Value) : laidMetH Tryd.prog oneLaid ((World.doorLaid Tryd.prog 400 os).forCall (fun _ _ => 0) ⟨#[], args, []⟩).memory :=
  laidMetH_of_parts3 (fuel := 8) (laidMet_of_run' 8 (by kernel_rfl) (by kernel_rfl)) (by kernel_rfl) (by kernel_rfl)
theorem oneLaid_at {W : World} (h : laidMetH Tryd.prog oneLaid W) : FarAt W ∧ OneAt W := by
  rw [MakeChecks.laidMetH_plain _ _ _ (by kernel_rfl)] at h
  obtain ⟨ps, ⟨g0, t0, cs0, f0, p0, q0, hg0, ht0, hv0, hd0, ⟨g1, t1, cs1, f1, p1, q1, hg1, ht1, hv1, hd1, _, _⟩, _⟩, _, _⟩ := h
  refine ⟨?_, ?_⟩
  · obtain rfl := Option.some.inj (gFar.symm.trans hg0)
    obtain rfl := Option.some.inj (tFar.symm.trans ht0)
    obtain ⟨y0, y1, y2, n, hx, hlen, h0, h1, h2⟩ := Deep.trod_struct3 Tryd.underlying24 hd0
    simp only [Rows.laid_pairstone_curve_Far, Prod.mk.injEq, DataW.agg.injEq, List.cons.injEq, and_true] at hx
    obtain ⟨⟨e0, e1, e2⟩, _⟩ := hx
    obtain ⟨a, c0, rfl, _⟩ := DataW.trod_int Tryd.underlying3 h0
    obtain ⟨b, c1, rfl, _⟩ := DataW.trod_int Tryd.underlying3 h1
    obtain ⟨f, c2, rfl⟩ := DataW.trod_bool Tryd.underlying4 h2
    have k3 : Tryd.prog.cellsOf 24 = 3 := by kernel_rfl
    have ki : Tryd.prog.cellsOf 3 = 1 := by kernel_rfl
    have kb : Tryd.prog.cellsOf 4 = 1 := by kernel_rfl
    obtain ⟨l⟩ := cs0
    have h3 : l.length = 3 := by simpa using hlen.trans k3
    match l, h3 with
    | [x, y, z], _ =>
      simp [ki, kb] at c0 c1 c2
      subst c0 c1 c2
      have v0 := World.var?_cell hg0 hv0 0
      have v1 := World.var?_cell hg0 hv0 1
      have v2 := World.var?_cell hg0 hv0 2
      simp at e0 e1 e2 v0 v1 v2
      subst e0 e1 e2
      exact ⟨v0, v1, v2, lt_of_cell v0⟩
  · obtain rfl := Option.some.inj (gOne.symm.trans hg1)
    obtain rfl := Option.some.inj (tOne.symm.trans ht1)
    obtain ⟨y0, y1, n, hx, hlen, h0, h1⟩ := trod_struct2 Tryd.underlying34 hd1
    simp only [Rows.laid_pairstone_pair_one, Prod.mk.injEq, DataW.agg.injEq, List.cons.injEq, and_true] at hx
    obtain ⟨⟨e0, e1⟩, _⟩ := hx
    obtain ⟨a, c0, rfl, _⟩ := DataW.trod_int Tryd.underlying3 h0
    obtain ⟨b, c1, rfl, _⟩ := DataW.trod_int Tryd.underlying3 h1
    have k2 : Tryd.prog.cellsOf 34 = 2 := by kernel_rfl
    have ki : Tryd.prog.cellsOf 3 = 1 := by kernel_rfl
    obtain ⟨l⟩ := cs1
    have h3 : l.length = 2 := by simpa using hlen.trans k2
    match l, h3 with
    | [x, y], _ =>
      simp [ki] at c0 c1
      subst c0 c1
      have v0 := World.var?_cell hg1 hv1 0
      have v1 := World.var?_cell hg1 hv1 1
      simp at e0 e1 v0 v1
      subst e0 e1
      exact ⟨v0, v1, lt_of_cell v0⟩
end Go.Proofs.YtijemkecjohagaaDoor
