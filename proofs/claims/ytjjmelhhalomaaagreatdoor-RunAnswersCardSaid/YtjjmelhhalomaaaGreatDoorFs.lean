/- Arguments that are slices, of ints and of spots: opened to their cells. -/
import Derived.Test.YtjjmelhhalomaaaGreatDoorFr
import Derived.Test.YtjjmelhhalomaaaGreatDoorWy
import Derived.Deep.Slices
import Derived.Deep.Fields
import Derived.ChangeSame
namespace Go.Proofs.YtjjmelhhalomaaaGreatDoor
open Go.RowKit Go.WideShapes Go.ChangeShapes Go.Deep
section
variable {H : Type} {enc : TypeId × Value → H} {P : Program} {w : World} {base : Nat} {spare : Nat → Bool} {held : Bool}
theorem open_slice_fields {t e : TypeId} {fs : Array Field} {fuel : Nat} {cs : List Value} {x : DataW H × List MemPlace} (ht : P.underlying t = some (.slice e)) (he : P.underlying e = some (.struct fs))
    (hone : oneCellFields P fs = true) (hC : P.cellsOf e = fs.size) (h : DataW.trod enc P w base spare held fuel t cs = some x) :
    (cs = [.slice none 0 0] ∧ x = (.nil, [])) ∨
    ∃ (a : Addr) (len cap m : Nat) (D : Nat → DataW H) (Pl : Nat → List MemPlace), cs = [.slice (some a) len cap] ∧ base ≤ a.block ∧ len ≤ cap ∧ cap ≤ maxLen ∧ m = (if spare a.block then cap else len) ∧
      x = (.slice ((List.range len).map D) ((List.range (m - len)).map fun j => D (len + j)), MemPlace.row a (m * fs.size) ++ (List.range m).flatMap Pl) ∧
      ∀ i, i < m → ∃ (ys : List (DataW H × List MemPlace)) (n : Nat), D i = .agg (ys.map (·.1)) ∧ Pl i = ys.flatMap (·.2) ∧ ys.length = fs.size ∧
        ∀ (j : Nat) (f : Field), fs[j]? = some f → ∃ (v : Value) (y : DataW H × List MemPlace), w.cell? (a.add (i * fs.size + j)) = some v ∧ ys[j]? = some y ∧ DataW.trod enc P w base spare held n f.type [v] = some y := by
  rcases open_slice ht h with h0 | ⟨a, len, cap, m, n, D, Pl, hcs, hb, hl, hm, hmm, hx, hi⟩
  · exact .inl h0
  · refine .inr ⟨a, len, cap, m, D, Pl, hcs, hb, hl, hm, hmm, by rw [hC] at hx; exact hx, fun i him => ?_⟩
    obtain ⟨cs', hc, ht'⟩ := hi i him
    rw [hC] at hc
    obtain ⟨ys, n', hn', hy, hlen, hyl, hf⟩ := DataW.trod_struct he ht'
    obtain ⟨_, hcl, hat⟩ := World.cells?_some hc
    simp only [Prod.mk.injEq] at hy
    refine ⟨ys, n', hy.1, hy.2, hyl, fun j f hj => ?_⟩
    obtain ⟨ho, hk⟩ := hone_of hone j f hj
    have hjl : j < fs.size := (Array.getElem?_eq_some_iff.1 hj).1
    have hcell := hat j hjl
    have hv : cs'[j]? = some (cs'[j]'(by omega)) := List.getElem?_eq_getElem (by omega)
    have h1 := hf j f hj
    rw [ho, hk] at h1
    have hone' : (cs'.drop j).take 1 = [cs'[j]'(by omega)] := by
      rw [List.drop_eq_getElem_cons (by omega)]
      rfl
    rw [hone'] at h1
    have hys : ys[j]? = some (ys[j]'(by omega)) := List.getElem?_eq_getElem (by omega)
    refine ⟨_, _, ?_, hys, h1.trans hys⟩
    rw [← Go.Deep.add_add, hcell, hv]
theorem spotless {b off : Nat} {sp : Option Nat} {v : Value} (h : w.cell? ⟨b, off, sp⟩ = some v) : sp = none := by
  cases sp with
  | none => rfl
  | some s =>
    exfalso
    unfold World.cell? at h
    split at h <;> simp_all
theorem add_none (b off i : Nat) : Addr.add ⟨b, off, none⟩ i = ⟨b, off + i, none⟩ := by
  unfold Addr.add; split
  · rename_i h; rw [h]; rfl
  · rfl
instance : Inhabited Sp := ⟨⟨0, 0, false⟩⟩
/-- A value that is a slice of spots. -/
def SpotsV (w : World) (v : Value) : Prop := (∃ a cap, v = .slice a 0 cap) ∨ ∃ (b off cap : Nat) (l : List Sp), v = .slice (some ⟨b, off, none⟩) l.length cap ∧ 1 ≤ l.length ∧ l.length ≤ maxLen ∧ SpotsAt w b off l
theorem open_spots {r : Reach} {b0 : Nat} {t e : TypeId} {f0 f1 f2 : Field} {v : Value} {d : DataW H} {ps : List MemPlace} (ht : P.underlying t = some (.slice e)) (he : P.underlying e = some (.struct #[f0, f1, f2]))
    (hone : oneCellFields P #[f0, f1, f2] = true) (hC : P.cellsOf e = 3) (h0 : P.underlying f0.type = some (.int .i64)) (h1 : P.underlying f1.type = some (.int .i64)) (h2 : P.underlying f2.type = some .bool)
    (hv : Value.okWide P w r b0 t v) (h : DataW.Trod enc P w base spare held t v d ps) :
    SpotsV w v := by
  obtain ⟨a, len, cap, rfl⟩ := okWide_slice ht hv
  obtain ⟨fuel, hf⟩ := h
  rcases open_slice_fields ht he hone (by rw [hC]; rfl) hf with ⟨hn, -⟩ | ⟨a', len', cap', m, D, Pl, hcs, hb, hl, hm, hmm, hx, hi⟩
  · simp [Value.cells] at hn; obtain ⟨rfl, rfl, rfl⟩ := hn; exact .inl ⟨_, _, rfl⟩
  · simp [Value.cells] at hcs; obtain ⟨rfl, rfl, rfl⟩ := hcs
    by_cases hz : len = 0
    · subst hz; exact .inl ⟨_, _, rfl⟩
    have hlm : len ≤ m := by rw [hmm]; split <;> omega
    have each : ∀ i, i < len → ∃ s : Sp, w.cell? (a'.add (i * 3 + 0)) = some (.int .i64 s.x) ∧ w.cell? (a'.add (i * 3 + 1)) = some (.int .i64 s.y) ∧ w.cell? (a'.add (i * 3 + 2)) = some (.bool s.far) := by
      intro i hil
      obtain ⟨ys, n, -, -, -, hj⟩ := hi i (by omega)
      obtain ⟨v0, y0, c0, -, t0⟩ := hj 0 f0 rfl
      obtain ⟨v1, y1, c1, -, t1⟩ := hj 1 f1 rfl
      obtain ⟨v2, y2, c2, -, t2⟩ := hj 2 f2 rfl
      obtain ⟨x, e0, -, -⟩ := DataW.trod_int h0 t0
      obtain ⟨y, e1, -, -⟩ := DataW.trod_int h1 t1
      obtain ⟨f, e2, -⟩ := DataW.trod_bool h2 t2
      simp at e0 e1 e2
      subst e0 e1 e2
      exact ⟨⟨x, y, f⟩, c0, c1, c2⟩
    obtain ⟨S, hS⟩ := choose_lt each
    obtain ⟨b, off, sp⟩ := a'
    obtain rfl : sp = none := spotless (b := b) (off := off) (by simpa [Addr.add] using (hS 0 (by omega)).1)
    simp only [add_none] at hS
    refine .inr ⟨b, off, cap, (List.range len).map S, by simp, by simp; omega, by simp; omega, ⟨World.block_lt_of_cell? w _ (hS 0 (by omega)).1, ?_, ?_, ?_⟩⟩
    all_goals
      intro i hi
      simp only [List.length_map, List.length_range] at hi
      simp only [List.getElem_map, List.getElem_range]
    · exact (hS i hi).1
    · exact (hS i hi).2.1
    · exact (hS i hi).2.2
end
/-- A slice that holds these ints. -/
structure IntsAt (w : World) (b off : Nat) (l : List Int) : Prop where
  lt : b < w.heap.size
  c : ∀ i (h : i < l.length), w.cell? ⟨b, off + i, none⟩ = some (.int .i64 l[i])
theorem IntsAt.below {w w' : World} {b off : Nat} {l : List Int} (h : IntsAt w b off l) (hb : Below w.heap.size w w') : IntsAt w' b off l :=
  ⟨Nat.lt_of_lt_of_le h.lt hb.size, fun i hi => (hb.cell (p := ⟨b, off + i, none⟩) h.lt).trans (h.c i hi)⟩
/-- A value that is a slice of ints. -/
def IntsV (w : World) (v : Value) : Prop := (∃ a cap, v = .slice a 0 cap) ∨ ∃ (b off cap : Nat) (l : List Int), v = .slice (some ⟨b, off, none⟩) l.length cap ∧ 1 ≤ l.length ∧ l.length ≤ maxLen ∧ IntsAt w b off l ∧ ∀ n ∈ l, (Lit.int .i64 n).wf = true
section
variable {H : Type} {enc : TypeId × Value → H} {P : Program} {w : World} {base : Nat} {spare : Nat → Bool} {held : Bool}
theorem open_intl {r : Reach} {b0 : Nat} {t e : TypeId} {v : Value} {d : DataW H} {ps : List MemPlace} (ht : P.underlying t = some (.slice e)) (he : P.underlying e = some (.int .i64)) (hc : P.cellsOf e = 1)
    (hv : Value.okWide P w r b0 t v) (h : DataW.Trod enc P w base spare held t v d ps) :
    IntsV w v := by
  obtain ⟨a, len, cap, rfl⟩ := okWide_slice ht hv
  obtain ⟨fuel, hf⟩ := h
  rcases ChangeShapes.open_ints ht he hc hf with ⟨hn, -⟩ | ⟨a', len', cap', zs, hcs, hb, hl, hm, hzl, hx, hcell, hw⟩
  · simp [Value.cells] at hn; obtain ⟨rfl, rfl, rfl⟩ := hn; exact .inl ⟨_, _, rfl⟩
  · simp [Value.cells] at hcs; obtain ⟨rfl, rfl, rfl⟩ := hcs
    by_cases hz : len = 0
    · subst hz; exact .inl ⟨_, _, rfl⟩
    have hlm : len ≤ zs.length := by rw [hzl]; split <;> omega
    obtain ⟨b, off, sp⟩ := a'
    obtain rfl : sp = none := spotless (b := b) (off := off) (by simpa [Addr.add] using hcell 0 (by omega))
    simp only [add_none] at hcell
    have ht : (zs.take len).length = len := by rw [List.length_take]; omega
    refine .inr ⟨b, off, cap, zs.take len, by rw [ht], by omega, by omega, ⟨World.block_lt_of_cell? w _ (hcell 0 (by omega)), fun i hi => ?_⟩, fun n hn => hw n (List.mem_of_mem_take hn)⟩
    have := hcell i (by omega)
    rw [this, List.getElem_take, List.getD_eq_getElem?_getD, List.getElem?_eq_getElem (by omega)]; rfl
end
end Go.Proofs.YtjjmelhhalomaaaGreatDoor
