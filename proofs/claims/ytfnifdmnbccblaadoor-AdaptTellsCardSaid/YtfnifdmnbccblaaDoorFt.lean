/- A seal as an argument (a spot and a number), opened. -/
import Derived.Test.YtfnifdmnbccblaaDoorFr
namespace Go.Proofs.YtfnifdmnbccblaaDoor
open Go.RowKit Go.WideShapes Go.ChangeShapes
section
variable {H : Type} {enc : TypeId × Value → H} {P : Program} {w : World} {base : Nat} {spare : Nat → Bool} {held : Bool}
open Go.Joins Go.Deep
theorem open_seal {r : Reach} {b0 : Nat} {t : TypeId} {f0 f1 s0 s1 s2 : Field} {v : Value} {d : DataW H} {p : List MemPlace} (hs : P.underlying t = some (.struct #[f0, f1])) (hC : P.cellsOf t = 4) (ho0 : f0.offset = 0) (ho1 : f1.offset = 3) (hC0 : P.cellsOf f0.type = 3) (hC1 : P.cellsOf f1.type = 1)
    (hs0 : P.underlying f0.type = some (.struct #[s0, s1, s2])) (hone : oneCellFields P #[s0, s1, s2] = true) (i0 : P.underlying s0.type = some (.int .i64)) (i1 : P.underlying s1.type = some (.int .i64)) (i2 : P.underlying s2.type = some .bool) (i3 : P.underlying f1.type = some (.int .i64))
    (hv : Value.okWide P w r b0 t v) (h : DataW.Trod enc P w base spare held t v d p) :
    ∃ (a b : Int) (f : Bool) (c : Int), v = .agg #[.int .i64 a, .int .i64 b, .bool f, .int .i64 c] ∧ (Lit.int .i64 a).wf = true ∧ (Lit.int .i64 b).wf = true ∧ (Lit.int .i64 c).wf = true := by
  obtain ⟨cs, rfl, hsz⟩ := okWide_struct hs hv
  obtain ⟨c0, c1, c2, c3, rfl⟩ := array4 (hsz.trans hC)
  obtain ⟨fuel, hf⟩ := h
  obtain ⟨y0, y1, n, hx, _, g0, g1⟩ := trod_struct2 hs hf
  rw [ho0, hC0] at g0
  rw [ho1, hC1] at g1
  obtain ⟨z0, z1, z2, m, hx', _, k0, k1, k2⟩ := trod_struct3 hs0 (cs := [c0, c1, c2]) (by simpa [Value.cells] using g0)
  obtain ⟨o0, q0⟩ := hone_of hone 0 s0 rfl
  obtain ⟨o1, q1⟩ := hone_of hone 1 s1 rfl
  obtain ⟨o2, q2⟩ := hone_of hone 2 s2 rfl
  have k0' : DataW.trod enc P w base spare held m s0.type [c0] = some z0 := by simpa [o0, q0] using k0
  have k1' : DataW.trod enc P w base spare held m s1.type [c1] = some z1 := by simpa [o1, q1] using k1
  have k2' : DataW.trod enc P w base spare held m s2.type [c2] = some z2 := by simpa [o2, q2] using k2
  have k3' : DataW.trod enc P w base spare held n f1.type [c3] = some y1 := by simpa [Value.cells] using g1
  obtain ⟨a, e0, -, wa⟩ := DataW.trod_int i0 k0'
  obtain ⟨b, e1, -, wb⟩ := DataW.trod_int i1 k1'
  obtain ⟨f, e2, -⟩ := DataW.trod_bool i2 k2'
  obtain ⟨c, e3, -, wc⟩ := DataW.trod_int i3 k3'
  simp at e0 e1 e2 e3
  subst e0 e1 e2 e3
  exact ⟨a, b, f, c, rfl, wa, wb, wc⟩
end
end Go.Proofs.YtfnifdmnbccblaaDoor
