/- Texts of this claim, in one. -/
import Derived.Test.YtfnifdmnbccblaaDoorBs
import Derived.WalkKit
import Derived.ProofKit
import Derived.OpenShut
import Derived.Lib.SmallJoins
import Derived.Test.YtfnifdmnbccblaaDoorWy
import Derived.Deep.Slices
import Derived.Deep.Fields
import Derived.ChangeSame
import Derived.Maps.AppendAt
import Derived.Test.YtfnifdmnbccblaaDoorSe
import Derived.Test.YtfnifdmnbccblaaDoorSf
import Derived.Deep.DeepCutAuto
import Derived.Test.YtfnifdmnbccblaaDoorPo
import Derived.Deep.RegionWith
import Derived.Test.YtfnifdmnbccblaaDoorSv
import Derived.SliceStrings
import Derived.SizedLaws
import Derived.Test.YtfnifdmnbccblaaDoorPq
import Derived.Test.YtfnifdmnbccblaaDoorPairD
import Derived.Laws.Entries
import Derived.Test.YtfnifdmnbccblaaDoorRd
import Derived.Test.YtfnifdmnbccblaaDoorWr
import Derived.Test.YtfnifdmnbccblaaDoorKe
import Derived.Test.YtfnifdmnbccblaaDoorTn
import Derived.Test.YtfnifdmnbccblaaDoorRq
import Derived.Test.YtfnifdmnbccblaaDoorRb
import Derived.Test.YtfnifdmnbccblaaDoorWs
import Derived.Test.YtfnifdmnbccblaaDoorHa
import Derived.Test.YtfnifdmnbccblaaDoorEq
import Derived.Laws.MakeOwn
import Derived.Laws.OwnMore
namespace Go.Proofs.YtfnifdmnbccblaaDoor
open Go.RowKit Go.WideShapes Go.ChangeShapes
section
variable {H : Type} {enc : TypeId × Value → H} {P : Program}
theorem trodAll_stays (hl : laidOutB P = true) {W W' : World} (hb : Below W.heap.size W W') {sp : Nat → Bool} :
    ∀ {ts : List TypeId} {vs : List Value} {ds : List (DataW H)} {ps : List MemPlace}, (ts.all fun t => P.readableRec t && decide (t < P.types.size)) = true → DataW.TrodAll enc P W 0 (fun _ => true) true ts vs ds ps →
      (∀ p ∈ ps, p.block < W.heap.size ∧ sp p.block = true) → DataW.TrodAll enc P W' 0 sp true ts vs ds ps
  | [], [], [], _, _, h, _ => h
  | [], [], _ :: _, _, _, h, _ => h.elim
  | [], _ :: _, _, _, _, h, _ => by cases ‹List (DataW H)› <;> exact h.elim
  | _ :: _, [], _, _, _, h, _ => h.elim
  | _ :: _, _ :: _, [], _, _, h, _ => h.elim
  | t :: ts, v :: vs, d :: ds, ps, ht, h, hp => by
    obtain ⟨p, q, h1, h2, rfl⟩ := h
    simp only [List.all_cons, Bool.and_eq_true, decide_eq_true_eq] at ht
    refine ⟨p, q, WideElems.Trod_stays hl ht.1.1 ht.1.2 h1 (fun x hx => hb.same (hp x (by simp [hx])).1) (fun x hx => (hp x (by simp [hx])).2), ?_, rfl⟩
    exact trodAll_stays hl hb (by simpa using ht.2) h2 (fun x hx => hp x (by simp [hx]))
theorem post_of_below {f : Func} {s : ChangeSpec} {apart fresh handsOn again : Bool} {W W' : World} {args : Array Value} {v : Value} {ds gs : List (DataW H)} {before pa pv : List MemPlace}
    (hW : DataW.Whole enc P f.params.toList s.vars apart W args.toList ds gs before)
    (hres : ∀ (b : Nat) (sp : Nat → Bool) (hd : Bool), DataW.TrodAll enc P W' b sp hd f.resultTypes.toList (v.resultList f.resultTypes.size) (s.fn H (ds ++ gs)).results [])
    (hargs : ∀ sp : Nat → Bool, (∀ p ∈ before, sp p.block = true) → DataW.TrodAll enc P W' 0 sp true f.params.toList args.toList (s.fn H (ds ++ gs)).args pa)
    (hvars : ∀ sp : Nat → Bool, (∀ p ∈ before, sp p.block = true) → DataW.TrodVars enc P W' sp s.vars (s.fn H (ds ++ gs)).vars pv)
    (hps : before = pa ++ pv) (hb : Below W.heap.size W W')
    (hok : ∀ (j : Nat) (t : TypeId) (r : Value), f.resultTypes[j]? = some t → (v.resultList f.resultTypes.size)[j]? = some r → Value.okWide P W' .any 0 t r) :
    s.post enc P f apart fresh handsOn again W args v W' := by
  have hlt : ∀ p ∈ before, p.block < W.heap.size := fun p hp => hW.lt p hp
  have hold : ∀ p ∈ before, (fun b => decide (b < W.heap.size)) p.block = true := fun p hp => by simpa using hlt p hp
  refine ⟨ds, gs, before, [], pa, pv, hW, hres _ _ _, hargs _ hold, hvars _ hold, World.keptBut_mono (fun p hp => ⟨hp, ?_⟩) (hb.frame (· ∈ before)), fun _ => ?_⟩
  · rw [hps, List.mem_append] at hp
    exact Or.inr hp
  · obtain ⟨_, _, _, _, _, hz, hn⟩ := hW
    refine ⟨hok, _, _, ([] ++ pa) ++ pv, ⟨[] ++ pa, pv, trodAll_append (hargs _ (fun _ _ => rfl)) (hres _ _ _), hvars _ (fun _ _ => rfl), rfl, ?_, ?_⟩, ?_⟩
    · intro b off hp
      have hin : MemPlace.cell b off ∈ before := by rw [hps]; simpa using hp
      rw [hb.frozen (hlt _ hin)]
      exact hz b off hin
    · intro ha
      have := hn ha
      rw [hps] at this
      simpa using this
    · intro p hp _
      rw [hps]
      simpa using hp
end
section
variable {H : Type} {enc : TypeId × Value → H} {P : Program} {w : World} {base : Nat} {spare : Nat → Bool} {held : Bool}
open Go.Joins Go.Deep
theorem open_two {r : Reach} {b0 : Nat} {t : TypeId} {f0 f1 : Field} {v : Value} {d : DataW H} {p : List MemPlace} (hs : P.underlying t = some (.struct #[f0, f1])) (hone : oneCellFields P #[f0, f1] = true) (hC : P.cellsOf t = 2)
    (h0 : P.underlying f0.type = some (.int .i64)) (h1 : P.underlying f1.type = some (.int .i64)) (hv : Value.okWide P w r b0 t v) (h : DataW.Trod enc P w base spare held t v d p) :
    ∃ a b : Int, v = .agg #[.int .i64 a, .int .i64 b] ∧ (Lit.int .i64 a).wf = true ∧ (Lit.int .i64 b).wf = true := by
  obtain ⟨c0, c1, y0, y1, m, rfl, rfl, rfl, hy0, hy1⟩ := open_agg2 hs hone hC hv h
  obtain ⟨a, e0, rfl, wa⟩ := DataW.trod_int h0 hy0
  obtain ⟨b, e1, rfl, wb⟩ := DataW.trod_int h1 hy1
  simp at e0 e1
  subst e0 e1
  exact ⟨a, b, rfl, wa, wb⟩
theorem open_spot {r : Reach} {b0 : Nat} {t : TypeId} {f0 f1 f2 : Field} {v : Value} {d : DataW H} {p : List MemPlace} (hs : P.underlying t = some (.struct #[f0, f1, f2])) (hone : oneCellFields P #[f0, f1, f2] = true) (hC : P.cellsOf t = 3)
    (h0 : P.underlying f0.type = some (.int .i64)) (h1 : P.underlying f1.type = some (.int .i64)) (h2 : P.underlying f2.type = some .bool) (hv : Value.okWide P w r b0 t v) (h : DataW.Trod enc P w base spare held t v d p) :
    ∃ (a b : Int) (f : Bool), v = .agg #[.int .i64 a, .int .i64 b, .bool f] ∧ (Lit.int .i64 a).wf = true ∧ (Lit.int .i64 b).wf = true := by
  obtain ⟨c0, c1, c2, y0, y1, y2, m, rfl, rfl, rfl, hy0, hy1, hy2⟩ := open_agg3 hs hone hC hv h
  obtain ⟨a, e0, rfl, wa⟩ := DataW.trod_int h0 hy0
  obtain ⟨b, e1, rfl, wb⟩ := DataW.trod_int h1 hy1
  obtain ⟨f, e2, rfl⟩ := DataW.trod_bool h2 hy2
  simp at e0 e1 e2
  subst e0 e1 e2
  exact ⟨a, b, f, rfl, wa, wb⟩
end
theorem Tryd.ownK : ownKnob Tryd.prog.godebug = none := by kernel_rfl
theorem Tryd.laidOutK : laidOutB Tryd.prog = true := by kernel_rfl
end Go.Proofs.YtfnifdmnbccblaaDoor
namespace Go.Proofs.YtfnifdmnbccblaaDoor
open Go.RowKit Go.WideShapes Go.ChangeShapes Go.Deep
section
variable {H : Type} {enc : TypeId × Value → H} {P : Program} {w : World} {base : Nat} {spare : Nat → Bool} {held : Bool}
theorem open_slice_fields {t e : TypeId} {fs : Array Field} {fuel : Nat} {cs : List Value} {x : DataW H × List MemPlace} (ht : P.underlying t = some (.slice e)) (he : P.underlying e = some (.struct fs))
    (hone : oneCellFields P fs = true) (hC : P.cellsOf e = fs.size) (h : DataW.trod enc P w base spare held fuel t cs = some x) :
    (cs = [.slice none 0 0] ∧ x = (.nil, [])) ∨
    ∃ (a : Addr) (len cap m : Nat) (D : Nat → DataW H) (Pl : Nat → List MemPlace), cs = [.slice (some a) len cap] ∧ base ≤ a.block ∧ len ≤ cap ∧ cap ≤ maxLen ∧ m = (if spare a.block then cap else len) ∧
      x = (.slice ((List.range len).map D) ((List.range (m - len)).map fun j => D (len + j)), MemPlace.row a (m * fs.size) ++ (List.range m).flatMap Pl) ∧
      ∀ i, i < m → ∃ (ys : List (DataW H × List MemPlace)) (n : Nat), D i = .agg (ys.map (·.1)) ∧ Pl i = ys.flatMap (·.2) ∧ ys.length = fs.size ∧
        ∀ (j : Nat) (f : Field), fs[j]? = some f → ∃ (v : Value) (y : DataW H × List MemPlace), w.cell? (a.add (i * fs.size + j)) = some v ∧ ys[j]? = some y ∧ DataW.trod enc P w base spare held n f.type [v] = some y := by
  rcases open_slice ht h with h0 | ⟨a, len, cap, m, n, D, Pl, hcs, hb, hl, hm, hmm, hx, hi⟩
  · exact .inl h0
  · refine .inr ⟨a, len, cap, m, D, Pl, hcs, hb, hl, hm, hmm, by rw [hC] at hx; exact hx, fun i him => ?_⟩
    obtain ⟨cs', hc, ht'⟩ := hi i him
    rw [hC] at hc
    obtain ⟨ys, n', hn', hy, hlen, hyl, hf⟩ := DataW.trod_struct he ht'
    obtain ⟨_, hcl, hat⟩ := World.cells?_some hc
    simp only [Prod.mk.injEq] at hy
    refine ⟨ys, n', hy.1, hy.2, hyl, fun j f hj => ?_⟩
    obtain ⟨ho, hk⟩ := hone_of hone j f hj
    have hjl : j < fs.size := (Array.getElem?_eq_some_iff.1 hj).1
    have hcell := hat j hjl
    have hv : cs'[j]? = some (cs'[j]'(by omega)) := List.getElem?_eq_getElem (by omega)
    have h1 := hf j f hj
    rw [ho, hk] at h1
    have hone' : (cs'.drop j).take 1 = [cs'[j]'(by omega)] := by
      rw [List.drop_eq_getElem_cons (by omega)]
      rfl
    rw [hone'] at h1
    have hys : ys[j]? = some (ys[j]'(by omega)) := List.getElem?_eq_getElem (by omega)
    refine ⟨_, _, ?_, hys, h1.trans hys⟩
    rw [← Go.Deep.add_add, hcell, hv]
theorem spotless {b off : Nat} {sp : Option Nat} {v : Value} (h : w.cell? ⟨b, off, sp⟩ = some v) : sp = none := by
  cases sp with
  | none => rfl
  | some s =>
    exfalso
    unfold World.cell? at h
    split at h <;> simp_all
theorem add_none (b off i : Nat) : Addr.add ⟨b, off, none⟩ i = ⟨b, off + i, none⟩ := by
  unfold Addr.add; split
  · rename_i h; rw [h]; rfl
  · rfl
instance : Inhabited Sp := ⟨⟨0, 0, false⟩⟩
/-- A value that is a slice of spots. -/
def SpotsV (w : World) (v : Value) : Prop := (∃ a cap, v = .slice a 0 cap) ∨ ∃ (b off cap : Nat) (l : List Sp), v = .slice (some ⟨b, off, none⟩) l.length cap ∧ 1 ≤ l.length ∧ l.length ≤ maxLen ∧ SpotsAt w b off l
theorem open_spots {r : Reach} {b0 : Nat} {t e : TypeId} {f0 f1 f2 : Field} {v : Value} {d : DataW H} {ps : List MemPlace} (ht : P.underlying t = some (.slice e)) (he : P.underlying e = some (.struct #[f0, f1, f2]))
    (hone : oneCellFields P #[f0, f1, f2] = true) (hC : P.cellsOf e = 3) (h0 : P.underlying f0.type = some (.int .i64)) (h1 : P.underlying f1.type = some (.int .i64)) (h2 : P.underlying f2.type = some .bool)
    (hv : Value.okWide P w r b0 t v) (h : DataW.Trod enc P w base spare held t v d ps) :
    SpotsV w v := by
  obtain ⟨a, len, cap, rfl⟩ := okWide_slice ht hv
  obtain ⟨fuel, hf⟩ := h
  rcases open_slice_fields ht he hone (by rw [hC]; rfl) hf with ⟨hn, -⟩ | ⟨a', len', cap', m, D, Pl, hcs, hb, hl, hm, hmm, hx, hi⟩
  · simp [Value.cells] at hn; obtain ⟨rfl, rfl, rfl⟩ := hn; exact .inl ⟨_, _, rfl⟩
  · simp [Value.cells] at hcs; obtain ⟨rfl, rfl, rfl⟩ := hcs
    by_cases hz : len = 0
    · subst hz; exact .inl ⟨_, _, rfl⟩
    have hlm : len ≤ m := by rw [hmm]; split <;> omega
    have each : ∀ i, i < len → ∃ s : Sp, w.cell? (a'.add (i * 3 + 0)) = some (.int .i64 s.x) ∧ w.cell? (a'.add (i * 3 + 1)) = some (.int .i64 s.y) ∧ w.cell? (a'.add (i * 3 + 2)) = some (.bool s.far) := by
      intro i hil
      obtain ⟨ys, n, -, -, -, hj⟩ := hi i (by omega)
      obtain ⟨v0, y0, c0, -, t0⟩ := hj 0 f0 rfl
      obtain ⟨v1, y1, c1, -, t1⟩ := hj 1 f1 rfl
      obtain ⟨v2, y2, c2, -, t2⟩ := hj 2 f2 rfl
      obtain ⟨x, e0, -, -⟩ := DataW.trod_int h0 t0
      obtain ⟨y, e1, -, -⟩ := DataW.trod_int h1 t1
      obtain ⟨f, e2, -⟩ := DataW.trod_bool h2 t2
      simp at e0 e1 e2
      subst e0 e1 e2
      exact ⟨⟨x, y, f⟩, c0, c1, c2⟩
    obtain ⟨S, hS⟩ := choose_lt each
    obtain ⟨b, off, sp⟩ := a'
    obtain rfl : sp = none := spotless (b := b) (off := off) (by simpa [Addr.add] using (hS 0 (by omega)).1)
    simp only [add_none] at hS
    refine .inr ⟨b, off, cap, (List.range len).map S, by simp, by simp; omega, by simp; omega, ⟨World.block_lt_of_cell? w _ (hS 0 (by omega)).1, ?_, ?_, ?_⟩⟩
    all_goals
      intro i hi
      simp only [List.length_map, List.length_range] at hi
      simp only [List.getElem_map, List.getElem_range]
    · exact (hS i hi).1
    · exact (hS i hi).2.1
    · exact (hS i hi).2.2
end
/-- A slice that holds these ints. -/
structure IntsAt (w : World) (b off : Nat) (l : List Int) : Prop where
  lt : b < w.heap.size
  c : ∀ i (h : i < l.length), w.cell? ⟨b, off + i, none⟩ = some (.int .i64 l[i])
theorem IntsAt.below {w w' : World} {b off : Nat} {l : List Int} (h : IntsAt w b off l) (hb : Below w.heap.size w w') : IntsAt w' b off l :=
  ⟨Nat.lt_of_lt_of_le h.lt hb.size, fun i hi => (hb.cell (p := ⟨b, off + i, none⟩) h.lt).trans (h.c i hi)⟩
/-- A value that is a slice of ints. -/
def IntsV (w : World) (v : Value) : Prop := (∃ a cap, v = .slice a 0 cap) ∨ ∃ (b off cap : Nat) (l : List Int), v = .slice (some ⟨b, off, none⟩) l.length cap ∧ 1 ≤ l.length ∧ l.length ≤ maxLen ∧ IntsAt w b off l ∧ ∀ n ∈ l, (Lit.int .i64 n).wf = true
section
variable {H : Type} {enc : TypeId × Value → H} {P : Program} {w : World} {base : Nat} {spare : Nat → Bool} {held : Bool}
theorem open_intl {r : Reach} {b0 : Nat} {t e : TypeId} {v : Value} {d : DataW H} {ps : List MemPlace} (ht : P.underlying t = some (.slice e)) (he : P.underlying e = some (.int .i64)) (hc : P.cellsOf e = 1)
    (hv : Value.okWide P w r b0 t v) (h : DataW.Trod enc P w base spare held t v d ps) :
    IntsV w v := by
  obtain ⟨a, len, cap, rfl⟩ := okWide_slice ht hv
  obtain ⟨fuel, hf⟩ := h
  rcases ChangeShapes.open_ints ht he hc hf with ⟨hn, -⟩ | ⟨a', len', cap', zs, hcs, hb, hl, hm, hzl, hx, hcell, hw⟩
  · simp [Value.cells] at hn; obtain ⟨rfl, rfl, rfl⟩ := hn; exact .inl ⟨_, _, rfl⟩
  · simp [Value.cells] at hcs; obtain ⟨rfl, rfl, rfl⟩ := hcs
    by_cases hz : len = 0
    · subst hz; exact .inl ⟨_, _, rfl⟩
    have hlm : len ≤ zs.length := by rw [hzl]; split <;> omega
    obtain ⟨b, off, sp⟩ := a'
    obtain rfl : sp = none := spotless (b := b) (off := off) (by simpa [Addr.add] using hcell 0 (by omega))
    simp only [add_none] at hcell
    have ht : (zs.take len).length = len := by rw [List.length_take]; omega
    refine .inr ⟨b, off, cap, zs.take len, by rw [ht], by omega, by omega, ⟨World.block_lt_of_cell? w _ (hcell 0 (by omega)), fun i hi => ?_⟩, fun n hn => hw n (List.mem_of_mem_take hn)⟩
    have := hcell i (by omega)
    rw [this, List.getElem_take, List.getD_eq_getElem?_getD, List.getElem?_eq_getElem (by omega)]; rfl
end
end Go.Proofs.YtfnifdmnbccblaaDoor
namespace Go.Proofs.YtfnifdmnbccblaaDoor
open Go.RowKit
set_option linter.unusedVariables false
theorem own_below {w w' : World} {B e size n : Nat} {v : Value} {xs : List Value} (h : w.ownsRow B e size v n xs) (hb : Below w.heap.size w w') : w'.ownsRow B e size v n xs := by
  refine ⟨h.1, ?_⟩
  rcases h.2 with hn | ⟨g, cap, cur, rfl, hg, hgg, rest⟩
  · exact .inl hn
  · exact .inr ⟨g, cap, cur, rfl, hg, by rw [hb.block g (Array.getElem?_eq_some_iff.1 hgg).1]; exact hgg, rest⟩
/-- The cells of some spots. -/
def spCells : List Sp → List Value
  | [] => []
  | s :: l => .int .i64 s.x :: .int .i64 s.y :: .bool s.far :: spCells l
theorem spCells_len : ∀ l : List Sp, (spCells l).length = l.length * 3
  | [] => rfl
  | s :: l => by simp only [spCells, List.length_cons, spCells_len l]; omega
theorem spCells_snoc : ∀ (l : List Sp) (s : Sp), spCells (l ++ [s]) = spCells l ++ [.int .i64 s.x, .int .i64 s.y, .bool s.far]
  | [], _ => rfl
  | t :: l, s => by simp only [List.cons_append, spCells, spCells_snoc l s]
theorem spCells_get : ∀ (l : List Sp) (i : Nat) (h : i < l.length), (spCells l)[i * 3]? = some (.int .i64 l[i].x) ∧ (spCells l)[i * 3 + 1]? = some (.int .i64 l[i].y) ∧ (spCells l)[i * 3 + 2]? = some (.bool l[i].far)
  | [], _, h => absurd h (Nat.not_lt_zero _)
  | s :: l, 0, _ => ⟨rfl, rfl, rfl⟩
  | s :: l, i + 1, h => by
    have := spCells_get l i (by simpa using h)
    rw [Nat.add_mul]
    exact this
/-- A value that is a slice of these spots. -/
def SpSl (w : World) (v : Value) (l : List Sp) : Prop := ∃ a cap, v = .slice a l.length cap ∧ (0 < l.length → ∃ b off, a = some ⟨b, off, none⟩ ∧ SpotsAt w b off l)
/-- A value that is a slice of these ints. -/
def IntSl (w : World) (v : Value) (l : List Int) : Prop := ∃ a cap, v = .slice a l.length cap ∧ (0 < l.length → ∃ b off, a = some ⟨b, off, none⟩ ∧ IntsAt w b off l)
theorem SpSl.below {w w' : World} {v : Value} {l : List Sp} (h : SpSl w v l) (hb : Below w.heap.size w w') : SpSl w' v l := by
  obtain ⟨a, cap, rfl, h⟩ := h
  exact ⟨a, cap, rfl, fun h0 => by obtain ⟨b, off, e, hs⟩ := h h0; exact ⟨b, off, e, hs.below hb⟩⟩
theorem IntSl.below {w w' : World} {v : Value} {l : List Int} (h : IntSl w v l) (hb : Below w.heap.size w w') : IntSl w' v l := by
  obtain ⟨a, cap, rfl, h⟩ := h
  exact ⟨a, cap, rfl, fun h0 => by obtain ⟨b, off, e, hs⟩ := h h0; exact ⟨b, off, e, hs.below hb⟩⟩
theorem own_spots {w : World} {B e : Nat} {v : Value} {l : List Sp} {n : Nat} (h : w.ownsRow B e 3 v n (spCells l)) (hn : n = l.length) : SpSl w v l := by
  subst hn
  obtain ⟨hl, h | ⟨g, cap, cur, rfl, hb, hg, hc, -, -, ht⟩⟩ := h
  · obtain ⟨rfl, h0⟩ := h
    exact ⟨none, 0, by rw [h0], fun hp => absurd h0 (by omega)⟩
  · refine ⟨_, _, rfl, fun _ => ⟨g, 0, rfl, (Array.getElem?_eq_some_iff.1 hg).1, fun i hi => ?_, fun i hi => ?_, fun i hi => ?_⟩⟩
    all_goals
      obtain ⟨k1, k2, k3⟩ := spCells_get l i hi
      rw [cell_of_row w g _ cur e (0, 0) hg]
      simp only [Nat.zero_add]
      rw [← ht, List.getElem?_take, if_pos (by omega), Array.getElem?_toList] at k1 k2 k3
      assumption
theorem own_ints {w : World} {B e : Nat} {v : Value} {l : List Int} {n : Nat} (h : w.ownsRow B e 1 v n (l.map (Value.int .i64))) (hn : n = l.length) : IntSl w v l := by
  subst hn
  obtain ⟨hl, h | ⟨g, cap, cur, rfl, hb, hg, hc, -, -, ht⟩⟩ := h
  · obtain ⟨rfl, h0⟩ := h
    exact ⟨none, 0, by rw [h0], fun hp => absurd h0 (by omega)⟩
  · refine ⟨_, _, rfl, fun _ => ⟨g, 0, rfl, (Array.getElem?_eq_some_iff.1 hg).1, fun i hi => ?_⟩⟩
    have k1 : (l.map (Value.int .i64))[i]? = some (.int .i64 l[i]) := by simp [hi]
    rw [cell_of_row w g _ cur e (0, 0) hg]
    simp only [Nat.zero_add]
    rw [← ht, List.getElem?_take, if_pos (by omega), Array.getElem?_toList] at k1
    assumption
/-- Of a slice of ints that is handed in: what it holds. -/
theorem IntsV.sl {w : World} {v : Value} (h : IntsV w v) : ∃ l : List Int, IntSl w v l ∧ l.length ≤ 9223372036854775807 ∧ ∀ n ∈ l, (Lit.int .i64 n).wf = true := by
  rcases h with ⟨a, cap, rfl⟩ | ⟨b, off, cap, l, rfl, h1, h2, h3, h4⟩
  · exact ⟨[], ⟨a, cap, rfl, fun h => absurd h (Nat.lt_irrefl 0)⟩, by decide, fun n h => by cases h⟩
  · exact ⟨l, ⟨_, cap, rfl, fun _ => ⟨b, off, rfl, h3⟩⟩, by unfold maxLen at h2; omega, h4⟩
/-- Of a slice of spots that is handed in: what it holds. -/
theorem SpotsV.sl {w : World} {v : Value} (h : SpotsV w v) : ∃ l : List Sp, SpSl w v l ∧ l.length ≤ 9223372036854775807 := by
  rcases h with ⟨a, cap, rfl⟩ | ⟨b, off, cap, l, rfl, h1, h2, h3⟩
  · exact ⟨[], ⟨a, cap, rfl, fun h => absurd h (Nat.lt_irrefl 0)⟩, by decide⟩
  · exact ⟨l, ⟨_, cap, rfl, fun _ => ⟨b, off, rfl, h3⟩⟩, by unfold maxLen at h2; omega⟩
theorem SpSl.made (w : World) (l : List Sp) (k n cap : Nat) (cs : Array Value) (t : TypeId) (hk : k = w.heap.size) (hc : cs = (spCells l).toArray) (hn : n = l.length) : SpSl (w.alloc (.cells cs t)) (.slice (some ⟨k, 0, none⟩) n cap) l := by
  subst hk hc hn
  refine ⟨_, _, rfl, fun _ => ⟨w.heap.size, 0, rfl, by simp, fun i hi => ?_, fun i hi => ?_, fun i hi => ?_⟩⟩
  all_goals
    obtain ⟨k1, k2, k3⟩ := spCells_get l i hi
    rw [cell_of_row _ w.heap.size _ (spCells l).toArray t (0, 0) (heap_alloc_new w _)]
    simp only [Nat.zero_add, List.getElem?_toArray]
    assumption
theorem IntSl.made (w : World) (l : List Int) (k n cap : Nat) (cs : Array Value) (t : TypeId) (hk : k = w.heap.size) (hc : cs = (l.map (Value.int .i64)).toArray) (hn : n = l.length) : IntSl (w.alloc (.cells cs t)) (.slice (some ⟨k, 0, none⟩) n cap) l := by
  subst hk hc hn
  refine ⟨_, _, rfl, fun _ => ⟨w.heap.size, 0, rfl, by simp, fun i hi => ?_⟩⟩
  have k1 : (l.map (Value.int .i64))[i]? = some (.int .i64 l[i]) := by simp [hi]
  rw [cell_of_row _ w.heap.size _ (l.map (Value.int .i64)).toArray t (0, 0) (heap_alloc_new w _)]
  simp only [Nat.zero_add, List.getElem?_toArray]
  assumption
theorem info_spot : (Tryd.prog.info? 25).map (fun i => (i.zero, i.size, i.bytes)) = some (some (.agg #[.int .i64 0, .int .i64 0, .bool false]), 3, 24) := by kernel_rfl
theorem info_int : (Tryd.prog.info? 3).map (fun i => (i.zero, i.size, i.bytes)) = some (some (.int .i64 0), 1, 8) := by kernel_rfl
theorem wpl_append_spot {w : World} {ops : Array Oper} {rest : List Oper} {o : Oper} {a : Act} {Q : Exit → Act → World → Prop} (hgd : o.guard = none) (s x : Operand) (t : TypeId)
    (ho : o.op = .call { callee := .builtin .append, args := #[s, x], argTypes := #[t, t] }) (ht : Tryd.prog.underlying t = some (.slice 25)) (B : Nat) (v : Value) (l : List Sp) (n : Nat) (hs : a.eval s = v)
    (hown : w.ownsRow B 25 3 v n (spCells l)) (hn : l.length = n) (hl : n ≤ 1000000) (hB : B ≤ w.heap.size) (g : Nat) (c : Sp) (hx : a.eval x = .slice (some ⟨g, 0, none⟩) 1 1)
    (h0 : w.cell? ⟨g, 0, none⟩ = some (.int .i64 c.x)) (h1 : w.cell? ⟨g, 1, none⟩ = some (.int .i64 c.y)) (h2 : w.cell? ⟨g, 2, none⟩ = some (.bool c.far))
    (h : ∀ v' w', w'.ownsRow B 25 3 v' (n + 1) (spCells (l ++ [c])) → w.grownBy w' v.ownBlock → (∀ a, Below B a w → Below B a w') → (v'.ownBlock = v.ownBlock ∨ v'.ownBlock = some w.heap.size) → wpList Tryd.prog ops Q rest (a.put o.dst v') w') :
    wpList Tryd.prog ops Q (o :: rest) a w := by
  obtain ⟨i0, hi, hz0, hz1, hz2⟩ := info_parts info_spot
  refine wpList_append_own_at _ hgd s x _ ho B _ i0 _ 3 24 ht hi hz0 hz1 hz2 rfl (by decide) v n _ hs hown ⟨g, 0, none⟩ 1 1 [.int .i64 c.x, .int .i64 c.y, .bool c.far] hx rfl ?_ ?_ (by unfold maxLen; omega) (by omega) hB ?_
  · intro j u hj
    have e : ∀ k, (⟨g, 0, none⟩ : Addr).add k = ⟨g, k, none⟩ := fun k => by rw [add_none, Nat.zero_add]
    rw [e]
    match j, hj with
    | 0, hj => cases hj; exact h0
    | 1, hj => cases hj; exact h1
    | 2, hj => cases hj; exact h2
  · intro u hu
    simp only [List.mem_cons, List.not_mem_nil, or_false] at hu
    rcases hu with rfl | rfl | rfl <;> rfl
  · intro v' w' h3 h4 _ h6
    rw [← spCells_snoc] at h3
    exact h v' w' h3 h4 (fun a hb => Below.grown hb h4 hB (fun k hk => (hown.lt k hk).1)) h6
theorem wpl_append_int {w : World} {ops : Array Oper} {rest : List Oper} {o : Oper} {a : Act} {Q : Exit → Act → World → Prop} (hgd : o.guard = none) (s x : Operand) (t : TypeId)
    (ho : o.op = .call { callee := .builtin .append, args := #[s, x], argTypes := #[t, t] }) (ht : Tryd.prog.underlying t = some (.slice 3)) (B : Nat) (v : Value) (l : List Int) (n : Nat) (hs : a.eval s = v)
    (hown : w.ownsRow B 3 1 v n (l.map (Value.int .i64))) (hn : l.length = n) (hl : n ≤ 1000000) (hB : B ≤ w.heap.size) (g : Nat) (c : Int) (hx : a.eval x = .slice (some ⟨g, 0, none⟩) 1 1)
    (h0 : w.cell? ⟨g, 0, none⟩ = some (.int .i64 c))
    (h : ∀ v' w', w'.ownsRow B 3 1 v' (n + 1) ((l ++ [c]).map (Value.int .i64)) → w.grownBy w' v.ownBlock → (∀ a, Below B a w → Below B a w') → (v'.ownBlock = v.ownBlock ∨ v'.ownBlock = some w.heap.size) → wpList Tryd.prog ops Q rest (a.put o.dst v') w') :
    wpList Tryd.prog ops Q (o :: rest) a w := by
  obtain ⟨i0, hi, hz0, hz1, hz2⟩ := info_parts info_int
  refine wpList_append_own_at _ hgd s x _ ho B _ i0 _ 1 8 ht hi hz0 hz1 hz2 rfl (by decide) v n _ hs hown ⟨g, 0, none⟩ 1 1 [.int .i64 c] hx rfl ?_ ?_ (by unfold maxLen; omega) (by omega) hB ?_
  · intro j u hj
    have e : ∀ k, (⟨g, 0, none⟩ : Addr).add k = ⟨g, k, none⟩ := fun k => by rw [add_none, Nat.zero_add]
    rw [e]
    match j, hj with
    | 0, hj => cases hj; exact h0
  · intro u hu
    simp only [List.mem_cons, List.not_mem_nil, or_false] at hu
    subst hu; rfl
  · intro v' w' h3 h4 _ h6
    rw [show l.map (Value.int .i64) ++ [.int .i64 c] = (l ++ [c]).map (Value.int .i64) by simp] at h3
    exact h v' w' h3 h4 (fun a hb => Below.grown hb h4 hB (fun k hk => (hown.lt k hk).1)) h6
end Go.Proofs.YtfnifdmnbccblaaDoor
namespace Go.Proofs.YtfnifdmnbccblaaDoor
/-- Of two lists the sum of the products. -/
def dot : List Int → List Int → Int
  | u :: us, c :: cs => u * c + dot us cs
  | _, _ => 0
theorem dot_nil (cs : List Int) : dot [] cs = 0 := by cases cs <;> rfl
theorem dot_snoc : ∀ (us cs : List Int) (n : Nat) (h1 : n < us.length) (h2 : n < cs.length), dot (us.take (n + 1)) cs = dot (us.take n) cs + us[n] * cs[n]
  | [], _, _, h, _ => absurd h (Nat.not_lt_zero _)
  | _ :: _, [], _, _, h => absurd h (Nat.not_lt_zero _)
  | u :: us, c :: cs, 0, _, _ => by simp [dot, dot_nil]
  | u :: us, c :: cs, n + 1, h1, h2 => by
    have := dot_snoc us cs n (by simpa using h1) (by simpa using h2)
    simp only [List.take_succ_cons, dot, List.getElem_cons_succ] at this ⊢
    omega
theorem dot_four : ∀ us cs : List Int, dot (us.map (4 * ·)) cs = 4 * dot us cs
  | [], cs => by simp [dot_nil]
  | _ :: _, [] => by simp [dot]
  | u :: us, c :: cs => by simp only [List.map_cons, dot, dot_four us cs, Int.mul_add, Int.mul_assoc]
/-- The number of each key. -/
def cfs (l : List Sp) : List Int := l.map fun k => hnum (lsB l.length l ++ sBytes k).data.toList
theorem cfs_len (l : List Sp) : (cfs l).length = l.length := by simp [cfs]
theorem cfs_bd (l : List Sp) (i : Nat) (h : i < (cfs l).length) : 0 ≤ (cfs l)[i] ∧ (cfs l)[i] < 1013 := by simp only [cfs, List.getElem_map]; exact hnum_bd _
theorem cfs_get (l : List Sp) (i : Nat) (h : i < l.length) : (cfs l)[i]'(by rw [cfs_len]; exact h) = hnum (lsB l.length l ++ sBytes l[i]).data.toList := by simp only [cfs, List.getElem_map]
/-- Is it a number to sign with. -/
def okB (n : Int) : Bool := decide (1 ≤ n ∧ n < 1013)
/-- What is wrong with those that sign; 0: nothing. -/
def groupF (xs ks : List Int) (n : Nat) : Int := if 12 < xs.length then 4 else if xs.length ≠ ks.length then 3 else if xs.all okB && ks.all okB then (if 60 < n then 4 else 0) else 1
theorem all_at {l : List Int} (h : ∀ i (h : i < l.length), okB l[i] = true) : l.all okB = true := by
  rw [List.all_eq_true]
  intro x hx
  obtain ⟨i, hi, rfl⟩ := List.mem_iff_getElem.mp hx
  exact h i hi
theorem not_all {l : List Int} {i : Nat} (h : i < l.length) (hb : okB l[i] = false) : l.all okB = false := by
  rw [List.all_eq_false]
  exact ⟨l[i], List.getElem_mem h, by rw [hb]; decide⟩
theorem all_get {l : List Int} (h : l.all okB = true) (i : Nat) (hi : i < l.length) : okB l[i] = true := List.all_eq_true.mp h _ (List.getElem_mem hi)
theorem sum_snoc : ∀ (l : List Int) (n : Nat) (h : n < l.length), (l.take (n + 1)).sum = (l.take n).sum + l[n]
  | [], _, h => absurd h (Nat.not_lt_zero _)
  | a :: l, 0, _ => by simp
  | a :: l, n + 1, h => by
    have := sum_snoc l n (by simpa using h)
    simp only [List.take_succ_cons, List.sum_cons, List.getElem_cons_succ] at this ⊢
    omega
theorem sum_bd (l : List Int) (h : ∀ i (h : i < l.length), 1 ≤ l[i] ∧ l[i] < 1013) : ∀ n, n ≤ l.length → 0 ≤ (l.take n).sum ∧ (l.take n).sum ≤ 1012 * n
  | 0, _ => by simp
  | n + 1, hn => by
    have := sum_bd l h n (by omega)
    have := h n (by omega)
    rw [sum_snoc l n (by omega)]
    omega
theorem turn_step (s a c x : Int) : (s + a * c % 1013 * x) % 1013 = (s + a * (x * c)) % 1013 := by
  rw [Int.add_emod, Int.mul_emod (a * c % 1013) x, Int.emod_emod, ← Int.mul_emod, ← Int.add_emod, Int.mul_assoc, Int.mul_comm c x]
/-- One round more of the sum. -/
theorem turn_go {s K a D x c : Int} (h : s % 1013 = (K + a * D) % 1013) : (s + a * c % 1013 * x) % 1013 = (K + a * (D + x * c)) % 1013 := by
  rw [turn_step, Int.mul_add]
  omega
end Go.Proofs.YtfnifdmnbccblaaDoor
namespace Go.Proofs.YtfnifdmnbccblaaDoor
open Go.RowKit
set_option maxRecDepth 100000
set_option linter.unusedVariables false
set_option linter.unusedSimpArgs false
theorem okB_y {n : Int} (h : okB n = true) : 1 ≤ n ∧ n < 1013 := of_decide_eq_true h
theorem okB_n {n : Int} (h : okB n = false) : ¬ (1 ≤ n ∧ n < 1013) := of_decide_eq_false h
theorem list_sl (l : List Sp) (v : Value) (w : World) (hF : FarAt w) (hl : l.length ≤ 12) (hs : SpSl w v l) (hok : ∀ z ∈ l, Ok z) :
    Calls Tryd.prog 103 #[v] w fun e w' => e = .returned (.tuple #[.string (lsB l.length l), .nilIface]) ∧ Below w.heap.size w w' := by
  obtain ⟨a, cap, rfl, hs⟩ := hs
  cases l with
  | nil => exact list_zero a cap w
  | cons s l =>
    obtain ⟨b, off, rfl, hs'⟩ := hs (Nat.succ_pos _)
    exact list_ok (s :: l) b off cap w hF hl hs' (fun i h => hok _ (List.getElem_mem h))
theorem hashNumber_n (s : ByteArray) (n : Int) (w : World) (hs : s.size ≤ 9223372036854775807) (h : Hid (hnum s.data.toList = n)) : Calls Tryd.prog 106 #[.string s] w fun e w' => e = .returned (.int .i64 n) ∧ Below w.heap.size w w' := by
  rw [← h.out]; exact hashNumber_c s w hs
end Go.Proofs.YtfnifdmnbccblaaDoor
namespace Go.Proofs.YtfnifdmnbccblaaDoor
open Go.RowKit
set_option maxRecDepth 100000
set_option linter.unusedVariables false
set_option linter.unusedSimpArgs false
theorem take_snoc {α : Type} (l : List α) (n : Nat) (h : n < l.length) : l.take (n + 1) = l.take n ++ [l[n]] := by
  rw [List.take_add_one, List.getElem?_eq_getElem h]; rfl
end Go.Proofs.YtfnifdmnbccblaaDoor
namespace Go.Proofs.YtfnifdmnbccblaaDoor
open Go.RowKit
set_option maxRecDepth 100000
set_option linter.unusedVariables false
set_option linter.unusedSimpArgs false
/-- Strings that lie in a row. -/
structure StrsAt (w : World) (b off : Nat) (l : List ByteArray) : Prop where
  lt : b < w.heap.size
  c : ∀ i (h : i < l.length), w.cell? ⟨b, off + i, none⟩ = some (.string l[i])
theorem StrsAt.below {w w' : World} {b off : Nat} {l : List ByteArray} (h : StrsAt w b off l) (hb : Below w.heap.size w w') : StrsAt w' b off l :=
  ⟨Nat.lt_of_lt_of_le h.lt hb.size, fun i hi => (hb.cell (p := ⟨b, off + i, none⟩) h.lt).trans (h.c i hi)⟩
/-- A value that is a slice of these strings. -/
def StrSl (w : World) (v : Value) (l : List ByteArray) : Prop := ∃ a cap, v = .slice a l.length cap ∧ (0 < l.length → ∃ b off, a = some ⟨b, off, none⟩ ∧ StrsAt w b off l)
theorem StrSl.below {w w' : World} {v : Value} {l : List ByteArray} (h : StrSl w v l) (hb : Below w.heap.size w w') : StrSl w' v l := by
  obtain ⟨a, cap, rfl, h⟩ := h
  exact ⟨a, cap, rfl, fun h0 => by obtain ⟨b, off, e, hs⟩ := h h0; exact ⟨b, off, e, hs.below hb⟩⟩
/-- Seals that lie in a row. -/
structure SlsAt (w : World) (b off : Nat) (l : List (Sp × Int)) : Prop where
  lt : b < w.heap.size
  cx : ∀ i (h : i < l.length), w.cell? ⟨b, off + i * 4, none⟩ = some (.int .i64 l[i].1.x)
  cy : ∀ i (h : i < l.length), w.cell? ⟨b, off + i * 4 + 1, none⟩ = some (.int .i64 l[i].1.y)
  cf : ∀ i (h : i < l.length), w.cell? ⟨b, off + i * 4 + 2, none⟩ = some (.bool l[i].1.far)
  cs : ∀ i (h : i < l.length), w.cell? ⟨b, off + i * 4 + 3, none⟩ = some (.int .i64 l[i].2)
theorem SlsAt.below {w w' : World} {b off : Nat} {l : List (Sp × Int)} (h : SlsAt w b off l) (hb : Below w.heap.size w w') : SlsAt w' b off l :=
  ⟨Nat.lt_of_lt_of_le h.lt hb.size, fun i hi => (hb.cell (p := ⟨b, off + i * 4, none⟩) h.lt).trans (h.cx i hi), fun i hi => (hb.cell (p := ⟨b, off + i * 4 + 1, none⟩) h.lt).trans (h.cy i hi), fun i hi => (hb.cell (p := ⟨b, off + i * 4 + 2, none⟩) h.lt).trans (h.cf i hi), fun i hi => (hb.cell (p := ⟨b, off + i * 4 + 3, none⟩) h.lt).trans (h.cs i hi)⟩
/-- A value that is a slice of these seals. -/
def SlSl (w : World) (v : Value) (l : List (Sp × Int)) : Prop := ∃ a cap, v = .slice a l.length cap ∧ (0 < l.length → ∃ b off, a = some ⟨b, off, none⟩ ∧ SlsAt w b off l)
theorem SlSl.below {w w' : World} {v : Value} {l : List (Sp × Int)} (h : SlSl w v l) (hb : Below w.heap.size w w') : SlSl w' v l := by
  obtain ⟨a, cap, rfl, h⟩ := h
  exact ⟨a, cap, rfl, fun h0 => by obtain ⟨b, off, e, hs⟩ := h h0; exact ⟨b, off, e, hs.below hb⟩⟩
/-- A seal to be looked at, and what is left of it (so many times the base's fourth). -/
structure It where
  key : Sp
  t : ByteArray
  R : Sp
  S : Int
  e : Int
def It.ok (x : It) : Prop := ∃ a r, x.key = sq a ∧ x.R = sq r ∧ x.e = 4 * x.S + -(r + a * askN x.R x.key x.t.data.toList) ∧ x.t.size ≤ 60 ∧ 0 ≤ x.S ∧ x.S < 1013
theorem boff_e (key R Z : Sp) (t : ByteArray) (S e : Int) (w : World) (hF : FarAt w) (h : Hid (It.ok ⟨key, t, R, S, e⟩)) (hZ : Hid (sq e = Z)) :
    Calls Tryd.prog 96 #[spV key, .string t, slV R S] w fun e w' => e = .returned (spV Z) ∧ Below w.heap.size w w' := by
  obtain ⟨a, r, ha, hr, he, hz, s0, s1⟩ := h.out
  simp only at ha hr he hz s0 s1
  have oR : Ok R := ok_of hr
  have oK : Ok key := ok_of ha
  refine sealOff_ok key R _ _ (sq (r + a * askN R key t.data.toList)) _ Z a _ S t w hF oK oR hz rfl ha rfl rfl ?_ rfl ?_ (sq_ok _) (sq_ok _) (sq_ok _) (turned_ok (sq_ok _)).1
  · show _ = _; rw [hr, sq_add]
  · show _ = _; rw [sq_neg, sq_add, ← hZ.out, he]
theorem chk_e (key R : Sp) (t : ByteArray) (S e : Int) (w : World) (hF : FarAt w) (h : Hid (It.ok ⟨key, t, R, S, e⟩)) :
    Calls Tryd.prog 95 #[spV key, .string t, slV R S] w fun e w' => e = .returned .nilIface ∧ Below w.heap.size w w' := by
  obtain ⟨a, r, ha, hr, he, hz, s0, s1⟩ := h.out
  exact sealCheck_ok key R S t w hF (ok_of ha) (ok_of hr) hz s0 s1
theorem vfy_e (key R : Sp) (t : ByteArray) (S e : Int) (b : Bool) (w : World) (hF : FarAt w) (h : Hid (It.ok ⟨key, t, R, S, e⟩)) (hb : Hid ((sq e).far = b)) :
    Calls Tryd.prog 97 #[spV key, .string t, slV R S] w fun e w' => e = .returned (.tuple #[.bool b, .nilIface]) ∧ Below w.heap.size w w' := by
  obtain ⟨a, r, ha, hr, he, hz, s0, s1⟩ := h.out
  simp only at ha hr he hz s0 s1
  exact verify_e key R a r _ S b t w hF hz s0 s1 ha hr rfl (by rw [← he]; exact hb)
set_option maxHeartbeats 1000000 in
theorem bready_e (n : Nat) (a1 a2 a3 : Option Addr) (c1 c2 c3 : Nat) (w : World) (h : n ≤ 12) :
    Calls Tryd.prog 94 #[.slice a1 n c1, .slice a2 n c2, .slice a3 n c3] w fun e w' => e = .returned .nilIface ∧ Below w.heap.size w w' := by
  have hd : decide ((12 : Int) < (n : Int)) = false := by rw [decide_eq_false_iff_not]; omega
  go_enter Tryd.func94, Tryd.ntmps94
  go_wp2
  go_ret
  exact ⟨rfl, Below.refl _ _⟩
set_option maxHeartbeats 8000000 in
theorem bverify_e (L : List It) (ws : List Int) (v1 v2 v3 v4 : Value) (B : Bool) (w : World) (hF : FarAt w) (hl : L.length ≤ 12) (hw : ws.length = L.length) (hok : ∀ i (h : i < L.length), It.ok L[i]) (hwo : ∀ i (h : i < ws.length), 1 ≤ ws[i] ∧ ws[i] < 1013)
    (h1 : SpSl w v1 (L.map (·.key))) (h2 : StrSl w v2 (L.map (·.t))) (h3 : SlSl w v3 (L.map fun x => (x.R, x.S))) (h4 : IntSl w v4 ws) (hB : Hid ((sq (dot (L.map (·.e)) ws)).far = B)) :
    Calls Tryd.prog 32 #[v1, v2, v3, v4] w fun e w' => e = .returned (.tuple #[.bool B, .nilIface]) ∧ Below w.heap.size w w' := by
  obtain ⟨a1, c1, rfl, h1⟩ := h1
  obtain ⟨a2, c2, rfl, h2⟩ := h2
  obtain ⟨a3, c3, rfl, h3⟩ := h3
  obtain ⟨a4, c4, rfl, h4⟩ := h4
  rw [hw]
  simp only [List.length_map] at h1 h2 h3 ⊢
  have hE := Lib.hid (fun n (h : n < L.length) => dot_snoc (L.map (·.e)) ws n (by simpa using h) (by omega))
  replace hok := Lib.hid hok
  replace hwo := Lib.hid hwo
  replace hw := Lib.hid hw
  replace h1 := Lib.hid h1
  replace h2 := Lib.hid h2
  replace h3 := Lib.hid h3
  replace h4 := Lib.hid h4
  replace hF := Lib.hid hF
  go_enter Tryd.func32, Tryd.ntmps32
  go_wp2_with fail
  refine (bready_e L.length a1 a2 a3 c1 c2 c3 w hl).mono ?_; rintro e w1 ⟨rfl, hb1⟩
  have hB1 := Lib.hid hb1
  have hF1 := Lib.hid (hF.out.below hb1)
  have i1 := Lib.hid (fun hp => by obtain ⟨b, off, e, hs⟩ := h1.out hp; exact (⟨b, off, e, hs.below hb1⟩ : ∃ b off, a1 = some ⟨b, off, none⟩ ∧ SpotsAt w1 b off (L.map (·.key))))
  have i2 := Lib.hid (fun hp => by obtain ⟨b, off, e, hs⟩ := h2.out hp; exact (⟨b, off, e, hs.below hb1⟩ : ∃ b off, a2 = some ⟨b, off, none⟩ ∧ StrsAt w1 b off (L.map (·.t))))
  have i3 := Lib.hid (fun hp => by obtain ⟨b, off, e, hs⟩ := h3.out hp; exact (⟨b, off, e, hs.below hb1⟩ : ∃ b off, a3 = some ⟨b, off, none⟩ ∧ SlsAt w1 b off (L.map fun x => (x.R, x.S))))
  have i4 := Lib.hid (fun hp => by obtain ⟨b, off, e, hs⟩ := h4.out hp; exact (⟨b, off, e, hs.below hb1⟩ : ∃ b off, a4 = some ⟨b, off, none⟩ ∧ IntsAt w1 b off ws))
  clear h1 h2 h3 h4 hF hb1
  obtain ⟨q0, q1, q2, ql⟩ := hF1.out
  go_wp2
  clear q0 q1 q2 ql
  have hO := Lib.hid (SpAt.fresh w1 0 0 true 25)
  have hB2 := Lib.hid (below_alloc w1 (.cells #[.int .i64 0, .int .i64 0, .bool true] 25))
  generalize w1.alloc (.cells #[.int .i64 0, .int .i64 0, .bool true] 25) = w2 at *
  go_loopw [31] (fun i wr => ∃ n : Nat, n ≤ L.length ∧ i = .int .i64 n ∧ SpAt wr w1.heap.size (sq (dot ((L.map (·.e)).take n) ws)) ∧ Below w1.heap.size w1 wr) (fun i _ => L.length - (intOf i).toNat)
  case atStart => exact ⟨0, Nat.zero_le _, rfl, by rw [List.take_zero, dot_nil, sq_zero]; exact hO.out, hB2.out⟩
  case round =>
    clear hO hB2
    obtain ⟨n, hn, rfl, hP, hb⟩ := hrel
    replace hP := Lib.hid hP
    replace hb := Lib.hid hb
    by_cases hlt : n < L.length
    · obtain ⟨b1, o1, rfl, l1⟩ := i1.out (by simpa using (by omega : 0 < L.length))
      obtain ⟨b2, o2, rfl, l2⟩ := i2.out (by simpa using (by omega : 0 < L.length))
      obtain ⟨b3, o3, rfl, l3⟩ := i3.out (by simpa using (by omega : 0 < L.length))
      obtain ⟨b4, o4, rfl, l4⟩ := i4.out (by omega)
      have hd := hE.out n hlt
      have hok1 := hok.out n hlt
      obtain ⟨y1, y2⟩ := hwo.out n (by rw [hw.out]; exact hlt)
      have l1 := Lib.hid l1
      have l2 := Lib.hid l2
      have l3 := Lib.hid l3
      have l4 := Lib.hid l4
      have hA : Hid (∀ w', Below w1.heap.size w1 w' → w'.cell? ⟨b1, o1 + n * 3, none⟩ = some (.int .i64 L[n].key.x) ∧ w'.cell? ⟨b1, o1 + n * 3 + 1, none⟩ = some (.int .i64 L[n].key.y) ∧ w'.cell? ⟨b1, o1 + n * 3 + 2, none⟩ = some (.bool L[n].key.far) ∧
          w'.cell? ⟨b2, o2 + n, none⟩ = some (.string L[n].t) ∧ w'.cell? ⟨b3, o3 + n * 4, none⟩ = some (.int .i64 L[n].R.x) ∧ w'.cell? ⟨b3, o3 + n * 4 + 1, none⟩ = some (.int .i64 L[n].R.y) ∧ w'.cell? ⟨b3, o3 + n * 4 + 2, none⟩ = some (.bool L[n].R.far) ∧ w'.cell? ⟨b3, o3 + n * 4 + 3, none⟩ = some (.int .i64 L[n].S) ∧
          w'.cell? ⟨b4, o4 + n, none⟩ = some (.int .i64 (ws[n]'(by rw [hw.out]; exact hlt))) ∧ b1 < w'.heap.size ∧ b2 < w'.heap.size ∧ b3 < w'.heap.size ∧ b4 < w'.heap.size) := Lib.hid (fun w' hb => by
        have k1 := l1.out.below hb
        have k2 := l2.out.below hb
        have k3 := l3.out.below hb
        have k4 := l4.out.below hb
        have e1 := k1.cx n (by simpa using hlt)
        have e2 := k1.cy n (by simpa using hlt)
        have e3 := k1.cf n (by simpa using hlt)
        have e4 := k2.c n (by simpa using hlt)
        have e5 := k3.cx n (by simpa using hlt)
        have e6 := k3.cy n (by simpa using hlt)
        have e7 := k3.cf n (by simpa using hlt)
        have e8 := k3.cs n (by simpa using hlt)
        have e9 := k4.c n (by rw [hw.out]; exact hlt)
        simp only [List.getElem_map] at e1 e2 e3 e4 e5 e6 e7 e8 e9
        exact ⟨e1, e2, e3, e4, e5, e6, e7, e8, e9, k1.lt, k2.lt, k3.lt, k4.lt⟩)
      rw [List.getElem_map] at hd
      clear l1 l2 l3 l4
      generalize L[n] = I at *
      obtain ⟨A, t, R, S, f⟩ := I
      simp only at hA hd y1 y2
      generalize ws[n] = c at *
      replace hok1 := Lib.hid hok1
      obtain ⟨Z, hZ⟩ : ∃ Z, sq f = Z := ⟨_, rfl⟩
      obtain ⟨C, hC⟩ : ∃ C, sq (f * c) = C := ⟨_, rfl⟩
      obtain ⟨D, hD⟩ : ∃ D, sSum (sq (dot ((L.map (·.e)).take n) ws)) C = D := ⟨_, rfl⟩
      have oP := sq_ok (dot ((L.map (·.e)).take n) ws)
      have hDe : Hid (sq (dot ((L.map (·.e)).take (n + 1)) ws) = D) := Lib.hid (by rw [hd, ← sq_add, hC]; exact hD)
      clear hd
      generalize sq (dot ((L.map (·.e)).take n) ws) = P at *
      have oC : Ok C := by rw [← hC]; exact sq_ok _
      replace hZ := Lib.hid hZ
      replace hC := Lib.hid hC
      replace hD := Lib.hid hD
      have hZ' := Lib.hid hZ.out.symm
      obtain ⟨e1, e2, e3, e4, e5, e6, e7, e8, e9, g1, g2, g3, g4⟩ := hA.out wr hb.out
      have hFr := Lib.hid (hF1.out.below hb.out)
      go_wp2_with fail
      refine wp_region_grow Tryd.mixed (by kernel_rfl) ?_
      repeat (quiet_step ((go_at_call 95; exact grow_of (chk_e A R t S f _ (hFr.out.below (below_seq (below_alloc _ _) (Grew.h _))) hok1))))
      refine wpQuiet_nil ?_
      intro _ hw'
      obtain ⟨x, rfl⟩ := hw'
      clear e1 e2 e3 e4 e5 e6 e7 e8 e9 g1 g2 g3 g4
      have hx := Lib.hid (below_seq (below_alloc _ _) x.h)
      have hk := (SpAt.fresh wr A.x A.y A.far 25).below x.h
      have hby := Lib.hid (below_seq hb.out hx.out)
      have hPy := Lib.hid (hP.out.below hx.out)
      have hFy := Lib.hid (hFr.out.below hx.out)
      have zy := hx.out.size
      obtain ⟨e1, e2, e3, e4, e5, e6, e7, e8, e9, g1, g2, g3, g4⟩ := hA.out _ hby.out
      obtain ⟨k0, k1, k2, -, -, -, kl⟩ := hk
      clear hA hFr hP hx hb
      generalize hyw : x.w = y at *
      clear hyw x
      go_wp2_with fail
      refine (secret_y c _ y1 y2).mono ?_; rintro e w' ⟨rfl, rfl⟩
      obtain ⟨p0, p1, p2, p3, p4, p5, pl⟩ := hPy.out
      go_wp2_with fail
      refine wp_region_grow_tail 17 Tryd.mixed (by kernel_rfl) ?_
      simp only [List.take_succ_cons, List.take_zero, List.drop_succ_cons, List.drop_zero]
      repeat (quiet_step (first | (go_at_call 96; exact grow_of (boff_e A R Z t S f _ (hFy.out.below (Grew.h _)) hok1 hZ)) | (go_at_call 78; exact grow_of (of_e Z C f c _ (hFy.out.below (Grew.h _)) hZ' hC)) | (go_at_call 83; exact grow_of (sum_e P C D _ (hFy.out.below (Grew.h _)) oP oC hD))))
      refine wpQuiet_nil ?_
      intro _ hw'
      obtain ⟨x, rfl⟩ := hw'
      have hx := Lib.hid x.h
      have hP2 := hPy.out.below hx.out
      clear p0 p1 p2 p3 p4 p5 pl e1 e2 e3 e4 e5 e6 e7 e8 e9
      obtain ⟨p0, p1, p2, p3, p4, p5, p6⟩ := hP2
      go_wp2
      go_roundw
      case rel => exact ⟨n + 1, by omega, by go_num, by rw [hDe.out]; exact (hPy.out.below hx.out).set3 D, set3_below (below_seq hby.out hx.out) (Nat.le_refl _)⟩
      case measure => simp [intOf]; omega
    · obtain rfl : n = L.length := by omega
      have hPJ : (L.map (·.e)).take L.length = L.map (·.e) := List.take_of_length_le (by simp)
      rw [hPJ] at hP
      obtain ⟨J, hJ⟩ : ∃ J, sq (dot (L.map (·.e)) ws) = J := ⟨_, rfl⟩
      rw [hJ] at hP hB
      obtain ⟨p0, p1, p2, -, -, -, -⟩ := hP.out
      rw [hB.out] at p2
      clear hPJ hJ
      have hBr := Lib.hid (below_seq hB1.out hb.out)
      go_wp2
      go_ret2
      exact ⟨rfl, hBr.out⟩
end Go.Proofs.YtfnifdmnbccblaaDoor
namespace Go.Proofs.YtfnifdmnbccblaaDoor
open Go.RowKit Go.WideShapes Go.ChangeShapes Go.Deep
/-- A value that is a slice of strings, none of them too long. -/
def StrsV (w : World) (v : Value) : Prop := ∃ l : List ByteArray, StrSl w v l ∧ l.length ≤ 9223372036854775807 ∧ ∀ s ∈ l, s.size ≤ 140737488351232
section
variable {H : Type} {enc : TypeId × Value → H} {P : Program} {w : World} {base : Nat} {spare : Nat → Bool} {held : Bool}
theorem weightsIn {e : TypeId} : ∀ {l : List (DataW H)} {d : DataW H}, d ∈ l → ∀ n ∈ d.weights P e, n ∈ DataW.weightsAll P e l
  | [], _, hd, _, _ => absurd hd List.not_mem_nil
  | x :: l, d, hd, n, hn => by
    simp only [DataW.weightsAll, List.mem_append]
    rcases List.mem_cons.1 hd with rfl | h
    · exact .inl hn
    · exact .inr (weightsIn h n hn)
theorem open_strl {r : Reach} {b0 : Nat} {t e : TypeId} {v : Value} {d : DataW H} {ps : List MemPlace} {ts : List TypeId} {ds : List (DataW H)} {j : Nat} (ht : P.underlying t = some (.slice e)) (he : P.underlying e = some .string) (hc : P.cellsOf e = 1)
    (hv : Value.okWide P w r b0 t v) (h : DataW.Trod enc P w base spare held t v d ps) (hsz : (DataW.weightsEach P ts ds).all (· ≤ reachBytes) = true) (hj : ts[j]? = some t) (hd : ds[j]? = some d) :
    StrsV w v := by
  obtain ⟨a, len, cap, rfl⟩ := okWide_slice ht hv
  obtain ⟨fuel, hf⟩ := h
  rcases ChangeShapes.open_strings ht he hc hf with ⟨hn, -⟩ | ⟨a', len', cap', ss, hcs, hb, hl, hm, hzl, hx, hcell, hw⟩
  · simp [Value.cells] at hn; obtain ⟨rfl, rfl, rfl⟩ := hn
    exact ⟨[], ⟨none, 0, rfl, fun h => absurd h (Nat.lt_irrefl 0)⟩, by decide, fun s h => absurd h List.not_mem_nil⟩
  · simp [Value.cells] at hcs; obtain ⟨rfl, rfl, rfl⟩ := hcs
    by_cases hz : len = 0
    · subst hz
      exact ⟨[], ⟨_, _, rfl, fun h => absurd h (Nat.lt_irrefl 0)⟩, by decide, fun s h => absurd h List.not_mem_nil⟩
    have hlm : len ≤ ss.length := by rw [hzl]; split <;> omega
    have hle : (ss.take len).length = len := by rw [List.length_take]; omega
    obtain ⟨b, off, sp⟩ := a'
    obtain rfl : sp = none := spotless (b := b) (off := off) (by simpa [Addr.add] using hcell 0 (by omega))
    simp only [add_none] at hcell
    unfold maxLen at hm
    refine ⟨ss.take len, ⟨_, cap, by rw [hle], fun _ => ⟨b, off, rfl, World.block_lt_of_cell? w _ (hcell 0 (by omega)), fun i hi => ?_⟩⟩, by omega, fun s hs => ?_⟩
    · have := hcell i (by omega)
      rw [this, List.getElem_take, List.getD_eq_getElem?_getD, List.getElem?_eq_getElem (by omega)]; rfl
    · simp only [Prod.mk.injEq] at hx
      obtain ⟨rfl, -⟩ := hx
      have hmem : (DataW.lit (.string s.data.toList) : DataW H) ∈ strs (ss.take len) := List.mem_map.mpr ⟨s, hs, rfl⟩
      have := List.all_eq_true.1 hsz _ (DataW.weights_mem_each hj hd s.data.toList.length (by
        simp only [DataW.weights, ht, List.mem_cons, List.mem_append]
        exact .inr (.inl (weightsIn hmem _ (by simp [DataW.weights])))))
      have h9 : s.data.toList.length ≤ reachBytes := of_decide_eq_true this
      simpa [reachBytes] using h9
end
end Go.Proofs.YtfnifdmnbccblaaDoor
namespace Go.Proofs.YtfnifdmnbccblaaDoor
open Go.RowKit
set_option maxRecDepth 100000
set_option linter.unusedVariables false
set_option linter.unusedSimpArgs false
theorem mul_q {c x : Int} (c0 : 0 ≤ c) (c1 : c < 1013) (x0 : 1 ≤ x) (x1 : x < 1013) : 0 ≤ c * x ∧ c * x ≤ 1024144 := by
  refine ⟨Int.mul_nonneg c0 (by omega), ?_⟩
  have : c * x ≤ 1012 * 1012 := Int.mul_le_mul (by omega) (by omega) (by omega) (by decide)
  omega
theorem tmod_q (n : Int) : -1012 ≤ n.tmod 1013 ∧ n.tmod 1013 ≤ 1012 := by
  have h1 := Int.tmod_lt_of_pos n (b := 1013) (by decide)
  have h2 := Int.lt_tmod_of_pos n (b := 1013) (by decide)
  omega
theorem tmod_qe (n : Int) : n.tmod 1013 % 1013 = n % 1013 := by
  have := Int.mul_tdiv_add_tmod n 1013; omega
set_option maxHeartbeats 1000000 in
theorem refMod_q (n : Int) (w : World) (n0 : -9223372036854775808 ≤ n) (n1 : n ≤ 9223372036854775807) : Calls Tryd.prog 42 #[.int .i64 n, .int .i64 1013] w fun e w' => e = .returned (.int .i64 (n % 1013)) ∧ w = w' := by
  have hb := tmod_q n
  obtain ⟨hb1, hb2⟩ := hb
  have he := Lib.hid (tmod_qe n)
  by_cases h : n.tmod 1013 < 0
  · go_enter Tryd.func42, Tryd.ntmps42
    go_wp2
    go_ret
    exact ⟨ret_int (by have := he.out; omega), rfl⟩
  · go_enter Tryd.func42, Tryd.ntmps42
    go_wp2
    go_ret
    exact ⟨ret_int (by have := he.out; omega), rfl⟩
end Go.Proofs.YtfnifdmnbccblaaDoor
namespace Go.Proofs.YtfnifdmnbccblaaDoor
open Go.RowKit
set_option maxRecDepth 100000
set_option linter.unusedVariables false
set_option linter.unusedSimpArgs false
theorem zeta_mod (n : Nat) : zeta.pow n = zeta.pow (n % 1013) := by
  have : n = 1013 * (n / 1013) + n % 1013 := by omega
  conv => lhs; rw [this]
  rw [Z.pow_add, Z.pow_mul, zeta_whole, Z.one_pow, Z.one_mul]
/-- The power of zeta, of any number. -/
def zp (n : Int) : Z := zeta.pow (n % 1013).toNat
theorem zp_nat {n : Int} (h : 0 ≤ n) : zeta.pow n.toNat = zp n := by
  unfold zp; rw [zeta_mod]; congr 1; omega
theorem zp_eq {n m : Int} (h : n % 1013 = m % 1013) : zp n = zp m := by unfold zp; rw [h]
theorem zp_mul (n m : Int) : (zp n).mul (zp m) = zp (n + m) := by
  unfold zp; rw [← Z.pow_add, zeta_mod]; congr 1; omega
theorem zp_pow (a n : Int) (h : 0 ≤ n) : (zp a).pow n.toNat = zp (a * n) := by
  have e : ((((a % 1013).toNat * n.toNat) % 1013 : Nat) : Int) = (a * n) % 1013 := by
    rw [Int.natCast_emod, Int.natCast_mul, show (((a % 1013).toNat : Nat) : Int) = a % 1013 by omega, show ((n.toNat : Nat) : Int) = n by omega]
    show (a % 1013 * n) % 1013 = (a * n) % 1013
    rw [Int.mul_emod, Int.emod_emod_of_dvd _ (Int.dvd_refl _), ← Int.mul_emod]
  unfold zp; rw [← Z.pow_mul, zeta_mod]; congr 1
  generalize (a * n) % 1013 = k at *
  omega
theorem zp_norm (n : Int) : (zp n).norm = 1 := by unfold zp; rw [Z.norm_pow, zeta_norm, fone_pow]
theorem zp_one : zp 1 = zeta := by unfold zp; exact Z.pow_one _
attribute [irreducible] zp
theorem pair_e (a b : Sp) (i j : Int) (z : Z) (w : World) (hF : FarAt w) (hO : OneAt w) (ha : Hid (Cnt a i)) (hb : Hid (Cnt b j)) (hz : Hid (zp (i * j) = z)) : Calls Tryd.prog 20 #[spV a, spV b] w fun e w' => e = .returned (.tuple #[twR z, .nilIface]) ∧ Below w.heap.size w w' :=
  pair_y a b i j z w hF hO ha.out hb.out (by show _ = _; rw [zp_nat (Int.mul_nonneg ha.out.2.1 hb.out.2.1)]; exact hz.out)
theorem pair_base (w : World) (hF : FarAt w) (hO : OneAt w) : Calls Tryd.prog 20 #[spV ⟨1189, 3667, false⟩, spV ⟨1189, 3667, false⟩] w fun e w' => e = .returned (.tuple #[.agg #[.int .i64 2824, .int .i64 4013], .nilIface]) ∧ Below w.heap.size w w' :=
  pair_e _ _ 1 1 zeta w hF hO ⟨sq_4.symm, by omega, by omega⟩ ⟨sq_4.symm, by omega, by omega⟩ zp_one
theorem mul_e (y z V : Z) (w : World) (h : Hid (y.mul z = V)) : Calls Tryd.prog 91 #[twR y, twR z] w fun e w' => e = .returned (twR V) ∧ Below w.heap.size w w' := by
  have := mul_z y z w; rw [h.out] at this; exact this
/-- A pair that is refused. -/
def PairNo (a b : Sp) (E : Int) : Prop := ∀ w : World, FarAt w → Calls Tryd.prog 20 #[spV a, spV b] w fun e w' => e = .returned (.tuple #[.agg #[.int .i64 0, .int .i64 0], .iface 118 (.int .i64 E)]) ∧ Below w.heap.size w w'
theorem pair_cases (a b : Sp) : (∃ i j, Cnt a i ∧ Cnt b j) ∨ ∃ E, PairNo a b E := by
  by_cases ca : sCheck a = 0
  case neg => exact .inr ⟨_, fun w hF => pair_n a b _ w (fun w1 hb => ready_bad a b _ w1 (hF.below hb) 0 (by omega) (fun i _ h => absurd h (by omega)) rfl ca)⟩
  have oa := (ok_iff _).mp ca
  by_cases cb : sCheck b = 0
  case neg => exact .inr ⟨_, fun w hF => pair_n a b _ w (fun w1 hb => ready_bad a b _ w1 (hF.below hb) 1 (by omega) (ok_first a b oa) rfl cb)⟩
  have ob := (ok_iff _).mp cb
  obtain ⟨u, -, -, eu⟩ := sq_all oa
  obtain ⟨v, -, -, ev⟩ := sq_all ob
  cases fu : (sq (u * 1013)).far
  · exact .inr ⟨3, fun w hF => pair_n a b _ w (fun w1 hb => ready_in a b u v w1 (hF.below hb) eu ev fu)⟩
  cases fv : (sq (v * 1013)).far
  · exact .inr ⟨3, fun w hF => pair_n a b _ w (fun w1 hb => ready_in2 a b u v w1 (hF.below hb) eu ev fu fv)⟩
  obtain ⟨i, hi⟩ := cnt_of fu
  obtain ⟨j, hj⟩ := cnt_of fv
  exact .inl ⟨i, j, eu ▸ hi, ev ▸ hj⟩
theorem cnt_ok {a : Sp} {i : Int} (h : Cnt a i) : Ok a := ok_of h.1
theorem cnt_mod (i : Int) : Cnt (sq (4 * i)) (i % 1013) := ⟨sq_eq_iff.mpr (by omega), by omega, by omega⟩
end Go.Proofs.YtfnifdmnbccblaaDoor
namespace Go.Proofs.YtfnifdmnbccblaaDoor
attribute [local semireducible] Z.pow
/-- The document's steps: the first is a doubling (twice the spot itself), then addings. -/
def refOps : List Bool := false :: List.replicate 1010 true
theorem refOps_good : cgood 1 refOps = true := by decide +kernel
theorem refOps_a : agood 1 refOps = true := by decide +kernel
def xK (k : Nat) : Nat := Nat.mod (Nat.shiftRight tabC (Nat.mul 24 k)) 4096
def yK (k : Nat) : Nat := Nat.mod (Nat.shiftRight tabC (Nat.add (Nat.mul 24 k) 12)) 4096
/-- One adding, packed: p + 4096 q. -/
def aPack (xm ym p q x y : Nat) : Nat :=
  (fun d => (fun c e => Nat.add (Nat.mod (Nat.add (Nat.mul p c) (Nat.mul (Nat.sub 4051 q) e)) 4051) (Nat.mul 4096 (Nat.mod (Nat.add (Nat.mul p e) (Nat.mul q c)) 4051)))
    (Nat.mod (Nat.add (Nat.mul (Nat.add y (Nat.sub 4051 ym)) (Nat.add 1189 x)) (Nat.mul (Nat.sub 4051 y) d)) 4051) (Nat.mod (Nat.mul d 3667) 4051)) (Nat.add x (Nat.sub 4051 xm))
def aRun (a xm ym : Nat) (n : Nat) : Nat → Nat → Nat := Nat.rec (motive := fun _ => Nat → Nat → Nat) (fun _ s => s) (fun _ ih k s => ih (Nat.mod (Nat.add k a) 4052) (aPack xm ym (Nat.mod s 4096) (Nat.div s 4096) (xK k) (yK k))) n
theorem aRun_succ (a xm ym n k s : Nat) : aRun a xm ym (n + 1) k s = aRun a xm ym n ((k + a) % 4052) (aPack xm ym (s % 4096) (s / 4096) (cx k) (cy k)) := rfl
theorem aPack_e (a p q k : Nat) : aPack (cx a) (cy a) p q (cx k) (cy k) = (qm2 (p, q) (nlA k a)).1 + 4096 * (qm2 (p, q) (nlA k a)).2 := rfl
theorem aRun_ok (a : Nat) : ∀ (n k p q : Nat), p < 4096 → q < 4096 → ((List.replicate n true).foldl (nstep a) ((p, q), k)).1 = (aRun a (cx a) (cy a) n k (p + 4096 * q) % 4096, aRun a (cx a) (cy a) n k (p + 4096 * q) / 4096)
  | 0, k, p, q, hp, hq => by
    show (p, q) = ((p + 4096 * q) % 4096, (p + 4096 * q) / 4096)
    exact Prod.ext (by show p = _; omega) (by show q = _; omega)
  | n + 1, k, p, q, hp, hq => by
    rw [List.replicate_succ, List.foldl_cons, aRun_succ, show (p + 4096 * q) % 4096 = p by omega, show (p + 4096 * q) / 4096 = q by omega, aPack_e]
    have h1 : (qm2 (p, q) (nlA k a)).1 < 4096 := Nat.lt_trans (Nat.mod_lt _ (by decide)) (by decide : 4051 < 4096)
    have h2 : (qm2 (p, q) (nlA k a)).2 < 4096 := Nat.lt_trans (Nat.mod_lt _ (by decide)) (by decide : 4051 < 4096)
    rw [← aRun_ok a n ((k + a) % 4052) _ _ h1 h2]
    rfl
def aStart (a : Nat) : Nat := (qm2 (qm2 (1, 0) (1, 0)) (nlD a)).1 + 4096 * (qm2 (qm2 (1, 0) (1, 0)) (nlD a)).2
def fastF (a : Nat) : Nat := aRun a (xK a) (yK a) 1010 (Nat.mod (Nat.add a a) 4052) (aStart a)
def fastAt (a : Nat) (z : Nat × Nat) : Bool := (fun f => eqP (fourth (f % 4096, (4051 - f / 4096) % 4051)) (qm2 (fourth (f % 4096, f / 4096)) z)) (fastF a)
theorem nrun_ref (a : Nat) : (nrun a refOps).1 = (fastF a % 4096, fastF a / 4096) := by
  have h1 : (qm2 (qm2 (1, 0) (1, 0)) (nlD a)).1 < 4096 := Nat.lt_trans (Nat.mod_lt _ (by decide)) (by decide : 4051 < 4096)
  have h2 : (qm2 (qm2 (1, 0) (1, 0)) (nlD a)).2 < 4096 := Nat.lt_trans (Nat.mod_lt _ (by decide)) (by decide : 4051 < 4096)
  have h := aRun_ok a 1010 ((a + a) % 4052) _ _ h1 h2
  show (refOps.foldl (nstep a) ((1, 0), a)).1 = _
  rw [refOps, List.foldl_cons]
  exact h
theorem fastAt_e (a : Nat) (z : Nat × Nat) : pairAt refOps a z = fastAt a z := by
  unfold pairAt fastAt
  rw [nrun_ref]
def chkF : Nat → Nat → Nat × Nat → Nat × Nat → Bool
  | 0, _, z, y => eqP z y
  | n + 1, i, z, y => fastAt (4 * i) z && chkF n (i + 1) (qm2 z (2824, 4013)) y
/-- What is known of one multiple of the base. -/
def RefAt (i : Nat) : Prop := ∃ y : Nat × Nat, pairAt refOps (4 * i) y = true ∧ zn y = zeta.pow i
theorem chkF_at : ∀ (n i : Nat) (z y : Nat × Nat), z.2 ≤ 4051 → zn z = zeta.pow i → chkF n i z y = true → (∀ j, j < n → RefAt (i + j)) ∧ zn y = zeta.pow (i + n)
  | 0, i, z, y, hz, he, h => ⟨fun j hj => absurd hj (Nat.not_lt_zero _), by rw [← eqP_ok h]; exact he⟩
  | n + 1, i, z, y, hz, he, h => by
    simp only [chkF, Bool.and_eq_true] at h
    have q := qm2_ok z (2824, 4013) hz
    have hs : zn (qm2 z (2824, 4013)) = zeta.pow (i + 1) := by rw [q.2, he]; rfl
    obtain ⟨h1, h2⟩ := chkF_at n (i + 1) _ y q.1 hs h.2
    refine ⟨fun j hj => ?_, by rw [h2]; congr 1; omega⟩
    match j with
    | 0 => exact ⟨z, by rw [fastAt_e]; exact h.1, he⟩
    | j + 1 => have := h1 j (by omega); rw [show i + 1 + j = i + (j + 1) by omega] at this; exact this
theorem rk0 : chkF 92 1 (2824, 4013) (2375, 2063) = true := by decide +kernel
theorem rk1 : chkF 92 93 (2375, 2063) (755, 2717) = true := by decide +kernel
theorem rk2 : chkF 92 185 (755, 2717) (2140, 3749) = true := by decide +kernel
theorem rk3 : chkF 92 277 (2140, 3749) (3860, 3579) = true := by decide +kernel
theorem rk4 : chkF 92 369 (3860, 3579) (581, 1745) = true := by decide +kernel
theorem rk5 : chkF 92 461 (581, 1745) (2646, 364) = true := by decide +kernel
theorem rk6 : chkF 92 553 (2646, 364) (1131, 3356) = true := by decide +kernel
theorem rk7 : chkF 92 645 (1131, 3356) (2642, 1838) = true := by decide +kernel
theorem rk8 : chkF 92 737 (2642, 1838) (3374, 3504) = true := by decide +kernel
theorem rk9 : chkF 92 829 (3374, 3504) (1170, 2349) = true := by decide +kernel
theorem rk10 : chkF 92 921 (1170, 2349) (1, 0) = true := by decide +kernel
theorem ref_all {i : Nat} (h1 : 1 ≤ i) (h2 : i ≤ 1012) : RefAt i := by
  have e0 : zn (2824, 4013) = zeta.pow 1 := (Z.one_mul _).symm
  obtain ⟨a0, e1⟩ := chkF_at 92 1 (2824, 4013) _ (by decide) e0 rk0
  obtain ⟨a1, e2⟩ := chkF_at 92 93 (2375, 2063) _ (by decide) e1 rk1
  obtain ⟨a2, e3⟩ := chkF_at 92 185 (755, 2717) _ (by decide) e2 rk2
  obtain ⟨a3, e4⟩ := chkF_at 92 277 (2140, 3749) _ (by decide) e3 rk3
  obtain ⟨a4, e5⟩ := chkF_at 92 369 (3860, 3579) _ (by decide) e4 rk4
  obtain ⟨a5, e6⟩ := chkF_at 92 461 (581, 1745) _ (by decide) e5 rk5
  obtain ⟨a6, e7⟩ := chkF_at 92 553 (2646, 364) _ (by decide) e6 rk6
  obtain ⟨a7, e8⟩ := chkF_at 92 645 (1131, 3356) _ (by decide) e7 rk7
  obtain ⟨a8, e9⟩ := chkF_at 92 737 (2642, 1838) _ (by decide) e8 rk8
  obtain ⟨a9, e10⟩ := chkF_at 92 829 (3374, 3504) _ (by decide) e9 rk9
  obtain ⟨a10, e11⟩ := chkF_at 92 921 (1170, 2349) _ (by decide) e10 rk10
  by_cases c0 : i < 93
  · have := a0 (i - 1) (by omega); rw [show 1 + (i - 1) = i by omega] at this; exact this
  by_cases c1 : i < 185
  · have := a1 (i - 93) (by omega); rw [show 93 + (i - 93) = i by omega] at this; exact this
  by_cases c2 : i < 277
  · have := a2 (i - 185) (by omega); rw [show 185 + (i - 185) = i by omega] at this; exact this
  by_cases c3 : i < 369
  · have := a3 (i - 277) (by omega); rw [show 277 + (i - 277) = i by omega] at this; exact this
  by_cases c4 : i < 461
  · have := a4 (i - 369) (by omega); rw [show 369 + (i - 369) = i by omega] at this; exact this
  by_cases c5 : i < 553
  · have := a5 (i - 461) (by omega); rw [show 461 + (i - 461) = i by omega] at this; exact this
  by_cases c6 : i < 645
  · have := a6 (i - 553) (by omega); rw [show 553 + (i - 553) = i by omega] at this; exact this
  by_cases c7 : i < 737
  · have := a7 (i - 645) (by omega); rw [show 645 + (i - 645) = i by omega] at this; exact this
  by_cases c8 : i < 829
  · have := a8 (i - 737) (by omega); rw [show 737 + (i - 737) = i by omega] at this; exact this
  by_cases c9 : i < 921
  · have := a9 (i - 829) (by omega); rw [show 829 + (i - 829) = i by omega] at this; exact this
  by_cases c10 : i < 1013
  · have := a10 (i - 921) (by omega); rw [show 921 + (i - 921) = i by omega] at this; exact this
  omega
theorem zR_base {i : Nat} (h1 : 1 ≤ i) (h2 : i ≤ 1012) : zP refOps (sq (4 * (i : Int))) (sq 4) = zeta.pow i := by
  obtain ⟨y, y1, y2⟩ := ref_all h1 h2
  have e : 4 * i % 4052 = 4 * i := Nat.mod_eq_of_lt (by omega)
  rw [← e] at y1
  rw [pairAt_ok (by omega) refOps_good refOps_a y1, y2]
theorem zR_all {i j : Nat} (h1 : 1 ≤ i) (h2 : i ≤ 1012) (h3 : 1 ≤ j) (h4 : j ≤ 1012) : zP refOps (sq (4 * (i : Int))) (sq (4 * (j : Int))) = zeta.pow (i * j) := by
  rw [zP_lin (by omega) refOps_good j h3 h4, zR_base h1 h2, Z.pow_mul]
/-- The document's loop. -/
theorem mrun_ref (a b : Sp) : (mrun a b (List.replicate 1012 true)).1 = zM refOps a b := by
  have e : mstep a b (.one, a) true = mstep a b (.one, a) false := by simp only [mstep, if_true, Bool.false_eq_true, if_false, Z.one_mul]
  have l : refOps ++ [true] = false :: List.replicate 1011 true := by
    rw [show (List.replicate 1011 true : List Bool) = List.replicate 1010 true ++ [true] from List.replicate_succ']; rfl
  unfold zM mrun
  rw [l, List.replicate_succ, List.foldl_cons, List.foldl_cons, e]
end Go.Proofs.YtfnifdmnbccblaaDoor
namespace Go.Proofs.YtfnifdmnbccblaaDoor
open Go.RowKit
set_option maxRecDepth 100000
set_option linter.unusedVariables false
set_option linter.unusedSimpArgs false
theorem ord_dvd {u n : Int} (d : Int) (h1 : 1 ≤ n) (hn : (sq (u * n)).far = true) (hm : ∀ j : Int, 1 ≤ j → j < n → (sq (u * j)).far = false) : (sq (u * d)).far = true ↔ d % n = 0 := by
  have a := sq_far.mp hn
  constructor
  · intro h
    have b := sq_far.mp h
    by_cases e : d % n = 0
    · exact e
    · exfalso
      have r0 : 0 ≤ d % n := Int.emod_nonneg _ (by omega)
      have r1 : d % n < n := Int.emod_lt_of_pos _ (by omega)
      have k := hm (d % n) (by omega) r1
      have e3 : (u * (d % n)) % 4052 = 0 := by
        have e2 : u * (d % n) = u * d - u * n * (d / n) := by rw [Int.emod_def, Int.mul_sub, Int.mul_assoc]
        obtain ⟨x, hx⟩ := Int.dvd_of_emod_eq_zero a
        obtain ⟨y, hy⟩ := Int.dvd_of_emod_eq_zero b
        rw [e2, hx, hy, Int.mul_assoc, ← Int.mul_sub]; exact Int.mul_emod_right _ _
      rw [sq_far.mpr e3] at k; exact Bool.noConfusion k
  · intro h
    apply sq_far.mpr
    obtain ⟨x, hx⟩ := Int.dvd_of_emod_eq_zero a
    obtain ⟨y, hy⟩ := Int.dvd_of_emod_eq_zero h
    rw [hy, ← Int.mul_assoc, hx, Int.mul_assoc]; exact Int.mul_emod_right _ _
def dNat (m : Nat) : Bool := 4052 % m != 0 || m == 1 || m == 2 || m == 4 || m == 1013 || m == 2026 || m == 4052
theorem d_0 : allB dNat 0 2000 = true := by decide +kernel
theorem d_1 : allB dNat 2000 2053 = true := by decide +kernel
theorem div_52 {n : Int} (h1 : 1 ≤ n) (h : 4052 % n = 0) : n = 1 ∨ n = 2 ∨ n = 4 ∨ n = 1013 ∨ n = 2026 ∨ n = 4052 := by
  have hd : n ≤ 4052 := Int.le_of_dvd (by decide) (Int.dvd_of_emod_eq_zero h)
  have key : dNat n.toNat = true := by
    by_cases c : n < 2000
    · exact allB_at dNat 0 2000 d_0 n.toNat (by omega) (by omega)
    · exact allB_at dNat 2000 2053 d_1 n.toNat (by omega) (by omega)
  have hz : (4052 % n.toNat : Nat) = 0 := by
    have : ((4052 % n.toNat : Nat) : Int) = 0 := by rw [Int.natCast_emod, Int.toNat_of_nonneg (by omega)]; exact h
    omega
  unfold dNat at key
  rw [hz] at key
  simp at key
  omega
theorem ord_is {u n : Int} (h1 : 1 ≤ n) (hn : (sq (u * n)).far = true) (hm : ∀ j : Int, 1 ≤ j → j < n → (sq (u * j)).far = false) : n = ordOf u := by
  have dv := fun d => ord_dvd (u := u) d h1 hn hm
  have full : (sq (u * 4052)).far = true := sq_far.mpr (Int.mul_emod_left _ _)
  have six := div_52 h1 ((dv 4052).mp full)
  unfold ordOf
  simp only [dv]
  rcases six with rfl | rfl | rfl | rfl | rfl | rfl <;> decide
set_option maxHeartbeats 1000000 in
theorem refIn_e (a : Sp) (u : Int) (b : Bool) (w : World) (ha : Hid (a = sq u)) (h : Hid ((sq (u * 1013)).far = b)) : Calls Tryd.prog 84 #[spV a] w fun e w' => e = .returned (.bool b) ∧ Below w.heap.size w w' := by
  subst h
  go_enter Tryd.func84, Tryd.ntmps84
  go_wp2_with fail
  refine (refTimes_e a _ u 1013 _ (by omega) (by omega) ha rfl).mono ?_; rintro e w1 ⟨rfl, hb⟩
  obtain ⟨hc1, hf1⟩ := bcell hb
  have z1 := hb.size
  try simp only [World.size_alloc, World.size_setCell, World.size_drew] at z1
  have s1_0 : w.heap.size < w1.heap.size := by omega
  have hB1 : Below w.heap.size w w1 := below_seq (by repeat (first | exact Below.refl _ _ | refine balloc ?_ _ | refine Below.drew ?_ | refine below_drewN ?_ _ | refine below_set ?_ (by first | omega | (dsimp only; omega)) _)) hb
  clear hb
  go_wp2
  go_ret
  exact ⟨rfl, (by repeat (first | exact hB1 | exact Below.refl _ _ | refine balloc ?_ _ | refine Below.drew ?_ | refine below_drewN ?_ _ | refine below_set ?_ (by first | omega | (dsimp only; omega)) _))⟩
theorem refBase_k (w : World) : Calls Tryd.prog 71 #[] w fun e w' => e = .returned (spV ⟨1189, 3667, false⟩) ∧ Below w.heap.size w w' := by
  have := refBase_c w; rw [sq_4] at this; exact this
end Go.Proofs.YtfnifdmnbccblaaDoor
namespace Go.Proofs.YtfnifdmnbccblaaDoor
open Go.RowKit
set_option maxRecDepth 100000
set_option linter.unusedVariables false
set_option linter.unusedSimpArgs false
theorem zR_cnt {a b : Sp} {i j : Int} (ha : Cnt a i) (hb : Cnt b j) (fa : a.far = false) (fb : b.far = false) : zP refOps a b = zeta.pow (i * j).toNat := by
  obtain ⟨rfl, i0, i1⟩ := ha
  obtain ⟨rfl, j0, j1⟩ := hb
  have hi : i ≠ 0 := fun e => by rw [e] at fa; rw [sq_far.mpr (by decide)] at fa; cases fa
  have hj : j ≠ 0 := fun e => by rw [e] at fb; rw [sq_far.mpr (by decide)] at fb; cases fb
  have := zR_all (i := i.toNat) (j := j.toNat) (by omega) (by omega) (by omega) (by omega)
  rw [show ((i.toNat : Nat) : Int) = i by omega, show ((j.toNat : Nat) : Int) = j by omega] at this
  rw [this]; congr 1
  have e : ((i.toNat * j.toNat : Nat) : Int) = i * j := by rw [Int.natCast_mul, show ((i.toNat : Nat) : Int) = i by omega, show ((j.toNat : Nat) : Int) = j by omega]
  omega
set_option maxHeartbeats 1000000 in
theorem refPair_farl (a b : Sp) (w : World) (h : a.far = true) : Calls Tryd.prog 19 #[spV a, spV b] w fun e w' => e = .returned (.agg #[.int .i64 1, .int .i64 0]) ∧ Below w.heap.size w w' := by
  obtain ⟨x, y, f⟩ := a; obtain ⟨u, v, g⟩ := b
  subst h
  go_enter Tryd.func19, Tryd.ntmps19
  go_wp2
  refine bodyPost_ret (v := .agg #[.int .i64 1, .int .i64 0]) (by simp [results, Tryd.results19, go_sem]) rfl ⟨rfl, (by repeat (first | exact Below.refl _ _ | refine balloc ?_ _ | refine Below.drew ?_ | refine below_drewN ?_ _ | refine below_set ?_ (by first | omega | (dsimp only; omega)) _))⟩
set_option maxHeartbeats 1000000 in
theorem refPair_farr (a b : Sp) (w : World) (h0 : a.far = false) (h : b.far = true) : Calls Tryd.prog 19 #[spV a, spV b] w fun e w' => e = .returned (.agg #[.int .i64 1, .int .i64 0]) ∧ Below w.heap.size w w' := by
  obtain ⟨x, y, f⟩ := a; obtain ⟨u, v, g⟩ := b
  subst h; subst h0
  go_enter Tryd.func19, Tryd.ntmps19
  go_wp2
  refine bodyPost_ret (v := .agg #[.int .i64 1, .int .i64 0]) (by simp [results, Tryd.results19, go_sem]) rfl ⟨rfl, (by repeat (first | exact Below.refl _ _ | refine balloc ?_ _ | refine Below.drew ?_ | refine below_drewN ?_ _ | refine below_set ?_ (by first | omega | (dsimp only; omega)) _))⟩
/-- The number of a line, as the document reckons it. -/
theorem ref_line {t a b : Sp} {s : Int} (hs : sSlope t a = some s) (hb : 0 ≤ b.y ∧ b.y < 4051) : (s * (b.x + t.x) - t.y) % 4051 = fz (zLine t a b).re ∧ b.y = fz (zLine t a b).im := by
  have h := line_alg t b s hb
  have e : zLine t a b = ⟨fi s * (fi b.x + fi t.x) - fi t.y, fi b.y⟩ := by unfold zLine; rw [hs]
  rw [e]
  refine ⟨?_, h.2⟩
  rw [← h.1]
  unfold pSub pMul
  omega
theorem mrun_snoc (a b : Sp) (n : Nat) : mrun a b (List.replicate (n + 1) true) = mstep a b (mrun a b (List.replicate n true)) true := by
  unfold mrun
  rw [List.replicate_succ', List.foldl_append]; rfl
theorem mrun_sp {i : Int} {b : Sp} : ∀ n : Nat, (mrun (sq (4 * i)) b (List.replicate n true)).2 = sq (4 * i * ((n + 1 : Nat) : Int))
  | 0 => by show sq (4 * i) = _; congr 1; simp
  | n + 1 => by
    rw [mrun_snoc]
    show sSum (mrun (sq (4 * i)) b (List.replicate n true)).2 (sq (4 * i)) = _
    rw [mrun_sp n, sq_add]; congr 1
    rw [Int.natCast_add, Int.natCast_add, Int.natCast_add, Int.mul_add, Int.mul_add, Int.mul_add]; simp
set_option maxHeartbeats 8000000 in
theorem refPair_c (a b : Sp) (i : Int) (w : World) (hi : i % 1013 ≠ 0) (hai : Hid (a = sq (4 * i))) (ha : Ok a) (hb : Ok b) (fa : a.far = false) (fb : b.far = false) : Calls Tryd.prog 19 #[spV a, spV b] w fun e w' => e = .returned (twR (zP refOps a b)) ∧ Below w.heap.size w w' := by
  have hstep := Lib.hid (mrun_snoc a b)
  have hT : Hid (∀ n, (mrun a b (List.replicate n true)).2 = sq (4 * i * ((n + 1 : Nat) : Int))) := Lib.hid (fun n => by rw [hai.out]; exact mrun_sp n)
  have h0 : Hid (mrun a b (List.replicate 0 true) = (.one, a)) := Lib.hid rfl
  have hend : Hid ((mrun a b (List.replicate 1012 true)).1.pow (16200 : Int).toNat = zP refOps a b) := Lib.hid (by rw [mrun_ref]; rfl)
  have hfar : Hid (∀ n : Nat, n < 1012 → (mrun a b (List.replicate n true)).2.far = false) := Lib.hid (fun n hn => by rw [hT.out]; exact far_k hi (by omega) (by omega))
  have hok : Hid (∀ n : Nat, Ok (mrun a b (List.replicate n true)).2) := Lib.hid (fun n => by rw [hT.out]; exact sq_ok _)
  obtain ⟨M, hM⟩ : ∃ M : Nat → Z × Sp, ∀ n, mrun a b (List.replicate n true) = M n := ⟨_, fun n => rfl⟩
  simp only [hM] at hstep h0 hend hfar hok
  clear hM hai hT
  obtain ⟨ax, ay, af⟩ := a
  obtain ⟨bx, by', bf⟩ := b
  simp only at fa fb
  subst fa fb
  go_enter Tryd.func19, Tryd.ntmps19
  go_wp2_with fail
  have m0 : PMem w (((((w.alloc (.cells #[.int .i64 ax, .int .i64 ay, .bool false] 25)).alloc (.cells #[.int .i64 bx, .int .i64 by', .bool false] 25)).alloc (.cells #[.int .i64 0, .int .i64 0] 40)).alloc (.cells #[.int .i64 1, .int .i64 0] 40)).alloc (.cells #[.int .i64 ax, .int .i64 ay, .bool false] 25)) (w.heap.size + 1 + 1 + 1) (w.heap.size + 1 + 1 + 1 + 1) ⟨ax, ay, false⟩ ⟨bx, by', false⟩ .one ⟨ax, ay, false⟩ := by
    refine ⟨?_, ?_, ?_, TwAt.zero_of (by go_simp) (by go_simp) (by go_simp) (by go_simp) (by simp only [World.size_alloc]; omega), TwAt.one_of (by go_simp) (by go_simp) (by go_simp) (by go_simp) (by simp only [World.size_alloc]; omega), ?_, by omega, by omega, by omega⟩
    · exact balloc (balloc (balloc (balloc (below_alloc _ _) _) _) _) _
    · exact ⟨by go_simp, by go_simp, by go_simp, by go_simp, by go_simp, by go_simp, by simp only [World.size_alloc]; omega⟩
    · exact ⟨by go_simp, by go_simp, by go_simp, by go_simp, by go_simp, by go_simp, by simp only [World.size_alloc]; omega⟩
    · exact ⟨by go_simp, by go_simp, by go_simp, by go_simp, by go_simp, by go_simp, by simp only [World.size_alloc]; omega⟩
  replace m0 := Lib.hid m0
  generalize ((((w.alloc (.cells #[.int .i64 ax, .int .i64 ay, .bool false] 25)).alloc (.cells #[.int .i64 bx, .int .i64 by', .bool false] 25)).alloc (.cells #[.int .i64 0, .int .i64 0] 40)).alloc (.cells #[.int .i64 1, .int .i64 0] 40)).alloc (.cells #[.int .i64 ax, .int .i64 ay, .bool false] 25) = w0 at *
  have ha' := Lib.hid ha
  have hb' := Lib.hid hb
  clear ha hb
  go_loopw [7, 8, 9] (fun s7 s8 s9 wr => ∃ n : Nat, n ≤ 1012 ∧ s7 = .int .i64 ((n : Int) + 1) ∧ PMem w wr (w.heap.size + 1 + 1 + 1) (w.heap.size + 1 + 1 + 1 + 1) ⟨ax, ay, false⟩ ⟨bx, by', false⟩ (M n).1 (M n).2) (fun s7 _ _ _ => (1013 - intOf s7).toNat)
  case atStart => exact ⟨0, by omega, rfl, by rw [h0.out]; exact m0.out⟩
  case round =>
    clear m0 h0
    obtain ⟨n, hn, rfl, m⟩ := hrel
    have m := Lib.hid m
    by_cases hlt : n < 1012
    · have ht := hok.out n
      have ft := hfar.out n hlt
      have hst := hstep.out n
      clear hstep hok hfar hend
      generalize hMn : M n = mn at *
      obtain ⟨f, tx, ty, tf⟩ := mn
      simp only at ft ht
      subst ft
      replace m : Hid (PMem w wr (w.heap.size + 1 + 1 + 1) (w.heap.size + 1 + 1 + 1 + 1) ⟨ax, ay, false⟩ ⟨bx, by', false⟩ f ⟨tx, ty, false⟩) := m
      replace hst := Lib.hid hst
      clear hMn
      cases hs : sSlope ⟨tx, ty, false⟩ ⟨ax, ay, false⟩ with
      | none =>
        have hM1 : Hid (M (n + 1) = (f, sSum ⟨tx, ty, false⟩ ⟨ax, ay, false⟩)) := Lib.hid (by
          rw [hst.out]
          show (f.mul (zLine ⟨tx, ty, false⟩ ⟨ax, ay, false⟩ ⟨bx, by', false⟩), _) = _
          rw [show zLine ⟨tx, ty, false⟩ ⟨ax, ay, false⟩ ⟨bx, by', false⟩ = .one by unfold zLine; rw [hs], Z.mul_one])
        obtain ⟨bel, ⟨a0, a1, a2, fa0, fa1, fa2, al⟩, ⟨b0, b1, b2, fb0, fb1, fb2, bl⟩, ⟨r0, r1, fr0, fr1, rl⟩, ⟨g0, g1, fg0, fg1, gl⟩, ⟨h0', h1', h2', fh0, fh1, fh2, hl⟩, hg, hh, ne⟩ := m.out
        go_wp2_with fail
        refine (refSlope_n ⟨tx, ty, false⟩ ⟨ax, ay, false⟩ ht ha'.out hs _).mono ?_; rintro e w1 ⟨rfl, hb1⟩
        have m1 := m.out.below hb1
        have n1 := Lib.hid m1
        clear bel a0 a1 a2 fa0 fa1 fa2 al b0 b1 b2 fb0 fb1 fb2 bl r0 r1 fr0 fr1 rl g0 g1 fg0 fg1 gl h0' h1' h2' fh0 fh1 fh2 hl hg hh ne
        clear hb1 m
        obtain ⟨bel, ⟨a0, a1, a2, fa0, fa1, fa2, al⟩, ⟨b0, b1, b2, fb0, fb1, fb2, bl⟩, ⟨r0, r1, fr0, fr1, rl⟩, ⟨g0, g1, fg0, fg1, gl⟩, ⟨h0', h1', h2', fh0, fh1, fh2, hl⟩, hg, hh, ne⟩ := m1
        go_wp2_with fail
        refine (refAdd_e ⟨tx, ty, false⟩ ⟨ax, ay, false⟩ _ _ ht ha'.out (Lib.hid rfl)).mono ?_; rintro e w3 ⟨rfl, hb3⟩
        have m3 := n1.out.below hb3
        have n3 := Lib.hid m3
        clear bel a0 a1 a2 fa0 fa1 fa2 al b0 b1 b2 fb0 fb1 fb2 bl r0 r1 fr0 fr1 rl g0 g1 fg0 fg1 gl h0' h1' h2' fh0 fh1 fh2 hl hg hh ne
        clear hb3 n1
        generalize hS : sSum ⟨tx, ty, false⟩ ⟨ax, ay, false⟩ = S at *
        obtain ⟨bel, ⟨a0, a1, a2, fa0, fa1, fa2, al⟩, ⟨b0, b1, b2, fb0, fb1, fb2, bl⟩, ⟨r0, r1, fr0, fr1, rl⟩, ⟨g0, g1, fg0, fg1, gl⟩, ⟨h0', h1', h2', fh0, fh1, fh2, hl⟩, hg, hh, ne⟩ := m3
        go_wp2
        go_roundw
        case rel => exact ⟨n + 1, by omega, by go_num, by rw [hM1.out]; exact n3.out.setH S⟩
        case measure => simp [intOf]; omega
      | some sl =>
        obtain ⟨V, hV⟩ : ∃ V, f.mul (zLine ⟨tx, ty, false⟩ ⟨ax, ay, false⟩ ⟨bx, by', false⟩) = V := ⟨_, rfl⟩
        have hM1 : Hid (M (n + 1) = (V, sSum ⟨tx, ty, false⟩ ⟨ax, ay, false⟩)) := Lib.hid (by rw [hst.out, ← hV]; rfl)
        have hl := ref_line (b := ⟨bx, by', false⟩) hs ⟨hb'.out.y0, hb'.out.y1⟩
        obtain ⟨s0, s1⟩ := slope_bd _ _ _ hs
        have t0 := ht.x0
        have t1 := ht.x1
        have t2 := ht.y0
        have t3 := ht.y1
        have u0 := hb'.out.x0
        have u1 := hb'.out.x1
        simp only at hl t0 t1 t2 t3 u0 u1
        have p0 : 0 ≤ sl * (bx + tx) := Int.mul_nonneg s0 (by omega)
        have p1 : sl * (bx + tx) ≤ 4050 * 8100 := Int.mul_le_mul (by omega) (by omega) (by omega) (by omega)
        have v0 : IntKind.i64.wrap (bx + tx) = bx + tx := IntWalk.i64_in _ (by omega)
        have v1 : IntKind.i64.wrap (sl * (bx + tx)) = sl * (bx + tx) := IntWalk.i64_in _ (by omega)
        have v2 : IntKind.i64.wrap (sl * (bx + tx) - ty) = sl * (bx + tx) - ty := IntWalk.i64_in _ (by omega)
        obtain ⟨V1, hV1⟩ : ∃ v, (sl * (bx + tx) - ty) % 4051 = v := ⟨_, rfl⟩
        rw [hV1] at hl
        have hMod := Lib.hid (fun (w : World) => ((refMod_e (sl * (bx + tx) - ty) 4051 V1 w (by omega) (by omega) (by omega) (by omega) (Lib.hid hV1)).mono fun e w' h => (⟨h.1, h.2 ▸ Below.refl _ _⟩ : e = .returned (.int .i64 V1) ∧ Below w.heap.size w w')))
        have hTM : Hid (∀ w : World, Calls Tryd.prog 23 #[.agg #[.int .i64 (fz f.re), .int .i64 (fz f.im)], .agg #[.int .i64 V1, .int .i64 by']] w fun e w' => e = .returned (twR V) ∧ Below w.heap.size w w') := Lib.hid (fun w => by
          have h := refTwinMul_e f (zLine ⟨tx, ty, false⟩ ⟨ax, ay, false⟩ ⟨bx, by', false⟩) V w (Lib.hid hV)
          rw [show twR (zLine ⟨tx, ty, false⟩ ⟨ax, ay, false⟩ ⟨bx, by', false⟩) = .agg #[.int .i64 V1, .int .i64 by'] by unfold twR; rw [← hl.1, ← hl.2]] at h
          exact h)
        replace hl := Lib.hid hl
        replace hV := Lib.hid hV
        replace hV1 := Lib.hid hV1
        obtain ⟨bel, ⟨a0, a1, a2, fa0, fa1, fa2, al⟩, ⟨b0, b1, b2, fb0, fb1, fb2, bl⟩, ⟨r0, r1, fr0, fr1, rl⟩, ⟨g0, g1, fg0, fg1, gl⟩, ⟨h0', h1', h2', fh0, fh1, fh2, hl⟩, hg, hh, ne⟩ := m.out
        go_wp2_with fail
        refine (refSlope_y ⟨tx, ty, false⟩ ⟨ax, ay, false⟩ sl ht ha'.out hs _).mono ?_; rintro e w1 ⟨rfl, hb1⟩
        have m1 := m.out.below hb1
        have n1 := Lib.hid m1
        clear bel a0 a1 a2 fa0 fa1 fa2 al b0 b1 b2 fb0 fb1 fb2 bl r0 r1 fr0 fr1 rl g0 g1 fg0 fg1 gl h0' h1' h2' fh0 fh1 fh2 hl hg hh ne
        clear hb1 m
        obtain ⟨bel, ⟨a0, a1, a2, fa0, fa1, fa2, al⟩, ⟨b0, b1, b2, fb0, fb1, fb2, bl⟩, ⟨r0, r1, fr0, fr1, rl⟩, ⟨g0, g1, fg0, fg1, gl⟩, ⟨h0', h1', h2', fh0, fh1, fh2, hl⟩, hg, hh, ne⟩ := m1
        go_wp2_with fail
        refine wp_region_grow_tail 16 Tryd.mixed (by kernel_rfl) ?_
        simp only [List.take_succ_cons, List.take_zero, List.drop_succ_cons, List.drop_zero]
        repeat (quiet_step ((first | (go_at_call 42; exact grow_of (hMod.out _)) | (go_at_call 23; exact grow_of (hTM.out _)))))
        refine wpQuiet_nil ?_
        intro _ hw'
        obtain ⟨x2, rfl⟩ := hw'
        have m2 := n1.out.below x2.h
        have n2 := Lib.hid (m2.setG V)
        clear bel a0 a1 a2 fa0 fa1 fa2 al b0 b1 b2 fb0 fb1 fb2 bl r0 r1 fr0 fr1 rl g0 g1 fg0 fg1 gl h0' h1' h2' fh0 fh1 fh2 hl hg hh ne
        clear n1
        obtain ⟨bel, ⟨a0, a1, a2, fa0, fa1, fa2, al⟩, ⟨b0, b1, b2, fb0, fb1, fb2, bl⟩, ⟨r0, r1, fr0, fr1, rl⟩, ⟨g0, g1, fg0, fg1, gl⟩, ⟨h0', h1', h2', fh0, fh1, fh2, hl⟩, hg, hh, ne⟩ := m2
        go_wp2_with fail
        refine (refAdd_e ⟨tx, ty, false⟩ ⟨ax, ay, false⟩ _ _ ht ha'.out (Lib.hid rfl)).mono ?_; rintro e w3 ⟨rfl, hb3⟩
        have m3 := n2.out.below hb3
        have n3 := Lib.hid m3
        clear bel a0 a1 a2 fa0 fa1 fa2 al b0 b1 b2 fb0 fb1 fb2 bl r0 r1 fr0 fr1 rl g0 g1 fg0 fg1 gl h0' h1' h2' fh0 fh1 fh2 hl hg hh ne
        clear hb3 n2
        generalize hS : sSum ⟨tx, ty, false⟩ ⟨ax, ay, false⟩ = S at *
        obtain ⟨bel, ⟨a0, a1, a2, fa0, fa1, fa2, al⟩, ⟨b0, b1, b2, fb0, fb1, fb2, bl⟩, ⟨r0, r1, fr0, fr1, rl⟩, ⟨g0, g1, fg0, fg1, gl⟩, ⟨h0', h1', h2', fh0, fh1, fh2, hl⟩, hg, hh, ne⟩ := m3
        go_wp2
        go_roundw
        case rel => exact ⟨n + 1, by omega, by go_num, by rw [hM1.out]; exact n3.out.setH S⟩
        case measure => simp [intOf]; omega
    · obtain rfl : n = 1012 := by omega
      have he := hend
      generalize hf : (M 1012).1 = f at *
      generalize (M 1012).2 = t at *
      obtain ⟨bel, ⟨a0, a1, a2, fa0, fa1, fa2, al⟩, ⟨b0, b1, b2, fb0, fb1, fb2, bl⟩, ⟨r0, r1, fr0, fr1, rl⟩, ⟨g0, g1, fg0, fg1, gl⟩, ⟨h0', h1', h2', fh0, fh1, fh2, hl⟩, hg, hh, ne⟩ := m.out
      go_wp2_with fail
      refine (refTwinPower_e f _ 16200 _ (by omega) (by omega) he).mono ?_; rintro e w1 ⟨rfl, hb1⟩
      have m1 := m.out.below hb1
      clear bel a0 a1 a2 fa0 fa1 fa2 al b0 b1 b2 fb0 fb1 fb2 bl r0 r1 fr0 fr1 rl g0 g1 fg0 fg1 gl h0' h1' h2' fh0 fh1 fh2 hl hg hh ne
      clear hb1
      obtain ⟨bel, ⟨a0, a1, a2, fa0, fa1, fa2, al⟩, ⟨b0, b1, b2, fb0, fb1, fb2, bl⟩, ⟨r0, r1, fr0, fr1, rl⟩, ⟨g0, g1, fg0, fg1, gl⟩, ⟨h0', h1', h2', fh0, fh1, fh2, hl⟩, hg, hh, ne⟩ := m1
      generalize hV : zP refOps ⟨ax, ay, false⟩ ⟨bx, by', false⟩ = V at *
      go_wp2
      have k := set2_cell (w := w1) (x := .int .i64 (fz V.re)) (y := .int .i64 (fz V.im)) r0 r1
      refine bodyPost_ret (v := twR V) (by simp [results, Tryd.results19, go_sem, k.1, k.2]) rfl ⟨by rw [hV], set2_below bel (by omega)⟩
end Go.Proofs.YtfnifdmnbccblaaDoor
namespace Go.Proofs.YtfnifdmnbccblaaDoor
open Go.RowKit
set_option maxRecDepth 100000
set_option linter.unusedVariables false
set_option linter.unusedSimpArgs false
theorem of_z (a b : Sp) (i j : Int) (z : Z) (w : World) (hF : FarAt w) (hO : OneAt w) (ha : Hid (Cnt a i)) (hb : Hid (Cnt b j)) (hz : Hid (zp (i * j) = z)) : Calls Tryd.prog 88 #[spV a, spV b] w fun e w' => e = .returned (twR z) ∧ Below w.heap.size w w' := by
  have := pairOf_z a b i j w hF hO ha.out hb.out
  rw [zp_nat (Int.mul_nonneg ha.out.2.1 hb.out.2.1), hz.out] at this; exact this
set_option maxHeartbeats 2000000 in
theorem same_y (a b c d : Sp) (i j k l : Int) (z : Z) (w : World) (hF : FarAt w) (hO : OneAt w) (ha : Hid (Cnt a i)) (hb : Hid (Cnt b j)) (hc : Hid (Cnt c k)) (hd : Hid (Cnt d l)) (h1 : Hid (zp (i * j) = z)) (h2 : Hid (zp (k * l) = z)) : Calls Tryd.prog 22 #[spV a, spV b, spV c, spV d] w fun e w' => e = .returned (.tuple #[.bool true, .nilIface]) ∧ Below w.heap.size w w' := by
  go_enter Tryd.func22, Tryd.ntmps22
  go_wp2_with fail
  refine (ready_ok a b (4 * i) (4 * j) _ (hF.below (by repeat (first | exact Below.refl _ _ | refine balloc ?_ _ | refine Below.drew ?_ | refine below_drewN ?_ _ | refine below_set ?_ (by first | omega | (dsimp only; omega)) _))) ha.out.1 hb.out.1 (sq_far.mpr (by omega)) (sq_far.mpr (by omega))).mono ?_; rintro e w1 ⟨rfl, hb⟩
  obtain ⟨hc1, hf1⟩ := bcell hb
  have z1 := hb.size
  try simp only [World.size_alloc, World.size_setCell, World.size_drew] at z1
  have s1_0 : w.heap.size < w1.heap.size := by omega
  have s1_1 : w.heap.size + 1 < w1.heap.size := by omega
  have s1_2 : w.heap.size + 1 + 1 < w1.heap.size := by omega
  have s1_3 : w.heap.size + 1 + 1 + 1 < w1.heap.size := by omega
  have hB1 : Below w.heap.size w w1 := below_seq (by repeat (first | exact Below.refl _ _ | refine balloc ?_ _ | refine Below.drew ?_ | refine below_drewN ?_ _ | refine below_set ?_ (by first | omega | (dsimp only; omega)) _)) hb
  clear hb
  go_wp2_with fail
  refine (ready_ok c d (4 * k) (4 * l) _ (hF.below (by repeat (first | exact hB1 | exact Below.refl _ _ | refine balloc ?_ _ | refine Below.drew ?_ | refine below_drewN ?_ _ | refine below_set ?_ (by first | omega | (dsimp only; omega)) _))) hc.out.1 hd.out.1 (sq_far.mpr (by omega)) (sq_far.mpr (by omega))).mono ?_; rintro e w2 ⟨rfl, hb⟩
  obtain ⟨hc2, hf2⟩ := bcell hb
  have z2 := hb.size
  try simp only [World.size_alloc, World.size_setCell, World.size_drew] at z2
  have s2_0 : w.heap.size < w2.heap.size := by omega
  have s2_1 : w.heap.size + 1 < w2.heap.size := by omega
  have s2_2 : w.heap.size + 1 + 1 < w2.heap.size := by omega
  have s2_3 : w.heap.size + 1 + 1 + 1 < w2.heap.size := by omega
  have hB2 : Below w.heap.size w w2 := below_seq (by repeat (first | exact hB1 | exact Below.refl _ _ | refine balloc ?_ _ | refine Below.drew ?_ | refine below_drewN ?_ _ | refine below_set ?_ (by first | omega | (dsimp only; omega)) _)) hb
  clear hb
  go_wp2_with fail
  refine wp_region_grow Tryd.mixed (by kernel_rfl) ?_
  repeat (quiet_step ((first | (go_at_call_of 88 a.x; exact grow_of (of_z a b i j z _ (hF.below (below_seq (by repeat (first | exact hB2 | exact Below.refl _ _ | refine balloc ?_ _ | refine Below.drew ?_ | refine below_drewN ?_ _ | refine below_set ?_ (by first | omega | (dsimp only; omega)) _)) (Grew.h _))) (hO.below (below_seq (by repeat (first | exact hB2 | exact Below.refl _ _ | refine balloc ?_ _ | refine Below.drew ?_ | refine below_drewN ?_ _ | refine below_set ?_ (by first | omega | (dsimp only; omega)) _)) (Grew.h _))) ha hb h1)) | (go_at_call 88; exact grow_of (of_z c d k l z _ (hF.below (below_seq (by repeat (first | exact hB2 | exact Below.refl _ _ | refine balloc ?_ _ | refine Below.drew ?_ | refine below_drewN ?_ _ | refine below_set ?_ (by first | omega | (dsimp only; omega)) _)) (Grew.h _))) (hO.below (below_seq (by repeat (first | exact hB2 | exact Below.refl _ _ | refine balloc ?_ _ | refine Below.drew ?_ | refine below_drewN ?_ _ | refine below_set ?_ (by first | omega | (dsimp only; omega)) _)) (Grew.h _))) hc hd h2)))))
  refine wpQuiet_nil ?_
  intro _ hw'
  obtain ⟨x3, rfl⟩ := hw'
  have z3 := x3.h.size
  try simp only [World.size_alloc, World.size_setCell, World.size_drew] at z3
  have s3_0 : w.heap.size < x3.w.heap.size := by omega
  have s3_1 : w.heap.size + 1 < x3.w.heap.size := by omega
  have s3_2 : w.heap.size + 1 + 1 < x3.w.heap.size := by omega
  have s3_3 : w.heap.size + 1 + 1 + 1 < x3.w.heap.size := by omega
  have hB3 : Below w.heap.size w x3.w := below_seq (by repeat (first | exact hB2 | exact Below.refl _ _ | refine balloc ?_ _ | refine Below.drew ?_ | refine below_drewN ?_ _ | refine below_set ?_ (by first | omega | (dsimp only; omega)) _)) x3.h
  go_wp2
  go_ret2
  exact ⟨rfl, (by repeat (first | exact hB3 | exact Below.refl _ _ | refine balloc ?_ _ | refine Below.drew ?_ | refine below_drewN ?_ _ | refine below_set ?_ (by first | omega | (dsimp only; omega)) _))⟩
theorem TwAt.fresh (w : World) (z : Z) (t : TypeId) : TwAt (w.alloc (.cells #[.int .i64 (fz z.re), .int .i64 (fz z.im)] t)) w.heap.size z := ⟨by go_simp, by go_simp, by go_simp, by go_simp, by simp⟩
def prodN (e : Nat → Int) : Nat → Int
  | 0 => 0
  | k+1 => prodN e k + e k
theorem prod_next (f g : Nat → Int) (k : Nat) : (zp (prodN (fun k => f k * g k) k)).mul (zp (f k * g k)) = zp (prodN (fun k => f k * g k) (k + 1)) := zp_mul _ _
theorem zp_zero : zp 0 = .one := by rw [← zp_nat (by omega)]; exact Z.pow_zero _
set_option maxHeartbeats 4000000 in
theorem product_y (L M : List Sp) (f g : Nat → Int) (b1 o1 c1 b2 o2 c2 : Nat) (w : World) (hF : FarAt w) (hO : OneAt w) (hl : L.length ≤ 12) (hm : M.length = L.length) (hL : SpotsAt w b1 o1 L) (hM : SpotsAt w b2 o2 M)
    (h : Hid (∀ k (h1 : k < L.length) (h2 : k < M.length), Cnt L[k] (f k) ∧ Cnt M[k] (g k))) :
    Calls Tryd.prog 24 #[.slice (some ⟨b1, o1, none⟩) L.length c1, .slice (some ⟨b2, o2, none⟩) M.length c2] w fun e w' => e = .returned (.tuple #[twR (zp (prodN (fun k => f k * g k) L.length)), .nilIface]) ∧ Below w.heap.size w w' := by
  have hF' := Lib.hid hF
  have hO' := Lib.hid hO
  have hL' := Lib.hid hL
  have hM' := Lib.hid hM
  have hm' := Lib.hid hm
  have hd : decide ((12 : Int) < (L.length : Int)) = false := by rw [decide_eq_false_iff_not]; omega
  have hz0 := Lib.hid zp_zero
  obtain ⟨q0, q1, ql⟩ := hO
  have q2 : 0 < w.heap.size := Nat.lt_of_le_of_lt (Nat.zero_le _) ql
  clear hF hL hM
  rw [hm]
  clear hm
  go_enter Tryd.func24, Tryd.ntmps24
  go_wp2
  have t0 : TwAt ((w.alloc (.cells #[.int .i64 0, .int .i64 0] 40)).alloc (.cells #[.int .i64 1, .int .i64 0] 40)) w.heap.size ⟨0, 0⟩ := TwAt.zero_of (by go_simp) (by go_simp) (by go_simp) (by go_simp) (by simp; omega)
  have t1 : TwAt ((w.alloc (.cells #[.int .i64 0, .int .i64 0] 40)).alloc (.cells #[.int .i64 1, .int .i64 0] 40)) (w.heap.size + 1) .one := TwAt.one_of (by go_simp) (by go_simp) (by go_simp) (by go_simp) (by simp)
  have tb := balloc (below_alloc w (.cells #[.int .i64 0, .int .i64 0] 40)) (.cells #[.int .i64 1, .int .i64 0] 40)
  have t0 := Lib.hid t0
  have t1 := Lib.hid t1
  have tb := Lib.hid tb
  clear q0 q1 ql q2 hd
  generalize (w.alloc (.cells #[.int .i64 0, .int .i64 0] 40)).alloc (.cells #[.int .i64 1, .int .i64 0] 40) = w0 at *
  go_loopw [33] (fun i wr => ∃ n : Nat, n ≤ L.length ∧ i = .int .i64 n ∧ TwAt wr w.heap.size ⟨0, 0⟩ ∧ TwAt wr (w.heap.size + 1) (zp (prodN (fun k => f k * g k) n)) ∧ Below w.heap.size w wr) (fun i _ => L.length - (intOf i).toNat)
  case atStart => exact ⟨0, Nat.zero_le _, rfl, t0.out, (by show TwAt w0 _ (zp 0); rw [hz0.out]; exact t1.out), tb.out⟩
  case round =>
    clear t0 t1 tb
    obtain ⟨n, hn, rfl, hr, ho, hB⟩ := hrel
    replace hr := Lib.hid hr
    replace ho := Lib.hid ho
    by_cases hlt : n < L.length
    · have hlt2 : n < M.length := by rw [hm'.out]; exact hlt
      have hc := Lib.hid (h.out n hlt hlt2)
      have hsL := hL'.out.below hB
      have hsM := hM'.out.below hB
      have l1 := hsL.cx n hlt
      have l2 := hsL.cy n hlt
      have l3 := hsL.cf n hlt
      have m1 := hsM.cx n hlt2
      have m2 := hsM.cy n hlt2
      have m3 := hsM.cf n hlt2
      have ml := hsM.lt
      clear hsL hsM
      generalize hA : L[n] = A at *
      generalize hC : M[n] = C at *
      clear hA hC
      have hB1 := Lib.hid hB
      go_upto_region 9 with fail
      go_cut [9, 10] from 38 to 54 (fun s9 s10 wx => ∃ k : Nat, s9 = .pointer (some ⟨k, 0, none⟩) ∧ s10 = .nilIface ∧ TwAt wx k (zp (f n * g n)) ∧ TwAt wx w.heap.size ⟨0, 0⟩ ∧ TwAt wx (w.heap.size + 1) (zp (prodN (fun k => f k * g k) n)) ∧ Below w.heap.size w wx ∧ w.heap.size + 1 < k)
      case first =>
        have hrl := hr.out.lt
        have hol := ho.out.lt
        go_region_with (first | (go_at_call 20; refine (pair_e A C (f n) (g n) _ _ (hF'.out.below (by repeat (first | exact hB1.out | refine balloc ?_ _ | refine Below.drew ?_))) (hO'.out.below (by repeat (first | exact hB1.out | refine balloc ?_ _ | refine Below.drew ?_))) hc.out.1 hc.out.2 rfl).mono ?_; rintro e w1 ⟨rfl, hb⟩; obtain ⟨hcc, hff⟩ := bcell hb))
        all_goals
          go_wp2_with fail
          go_meet
          have hbA : Below wr.heap.size wr w1 := below_seq (by repeat (first | exact Below.refl _ _ | refine balloc ?_ _ | refine Below.drew ?_)) hb
          have hB2 := below_seq hB1.out hbA
          have hr1 := hr.out.below hbA
          have ho1 := ho.out.below hbA
          have hsz := hbA.size
          first
          | exact ⟨_, rfl, rfl, TwAt.fresh _ _ _, hr1.below (below_alloc _ _), ho1.below (below_alloc _ _), balloc hB2 _, by omega⟩
          | exact ⟨_, rfl, rfl, ((TwAt.zero_of (by go_simp) (by go_simp) (by go_simp) (by go_simp) (by simp)).below hb).set2 _, (hr1.other _ (by omega)).other _ (by omega), (ho1.other _ (by omega)).other _ (by omega), set2_below hB2 (by omega), by omega⟩
      case rest =>
        clear hr ho hB1 hB l1 l2 l3 m1 m2 m3 ml
        obtain ⟨k, rfl, rfl, hk, hr, ho, hB, hlk⟩ := hcut
        have hkl := hk.lt
        have hol := ho.lt
        replace hr := Lib.hid hr
        replace hk := Lib.hid hk
        replace ho := Lib.hid ho
        obtain ⟨k0, k1, kf0, kf1, -⟩ := hk.out
        obtain ⟨o0, o1, of0, of1, -⟩ := ho.out
        have hm := Lib.hid (prod_next f g n)
        generalize hP : zp (f n * g n) = P at *
        generalize hQ : zp (prodN (fun k => f k * g k) n) = Q at *
        clear hP hQ
        go_wp2_with fail
        refine (mul_e Q P _ _ hm).mono ?_; rintro e w2 ⟨rfl, hb⟩
        have hr2 := hr.out.below hb
        have ho2 := ho.out.below hb
        have hB2 := below_seq hB hb
        have hz2 := hb.size
        have ho2' := Lib.hid ho2
        obtain ⟨p0, p1, pf0, pf1, pl⟩ := ho2
        clear hb o0 o1 of0 of1 k0 k1 kf0 kf1 hk ho
        generalize hV : zp (prodN (fun k => f k * g k) (n + 1)) = V at *
        replace hV := Lib.hid hV
        go_wp2
        go_roundw
        case rel => exact ⟨n + 1, by omega, by go_num, (hr2.other _ (by omega)).other _ (by omega), by rw [hV.out]; exact ho2'.out.set2 _, set2_below hB2 (by omega)⟩
        case measure => simp [intOf]; omega
    · have hn2 : n = L.length := by omega
      have ho2 := ho.out
      rw [hn2] at ho2
      obtain ⟨r0, r1, rf0, rf1, rl⟩ := hr.out
      obtain ⟨p0, p1, pf0, pf1, pl⟩ := ho2
      generalize hV : zp (prodN (fun k => f k * g k) L.length) = V at *
      go_wp2
      have k := set2_cell (w := wr) (x := .int .i64 (fz V.re)) (y := .int .i64 (fz V.im)) r0 r1
      refine bodyPost_ret (v := .tuple #[twR V, .nilIface]) (by simp [results, Tryd.results24, go_sem, k.1, k.2]) rfl ⟨rfl, set2_below hB (by omega)⟩
theorem product_e (L M : List Sp) (f g : Nat → Int) (b1 o1 c1 b2 o2 c2 : Nat) (T : Z) (w : World) (hF : FarAt w) (hO : OneAt w) (hl : L.length ≤ 12) (hm : M.length = L.length) (hL : SpotsAt w b1 o1 L) (hM : SpotsAt w b2 o2 M)
    (h : Hid (∀ k (h1 : k < L.length) (h2 : k < M.length), Cnt L[k] (f k) ∧ Cnt M[k] (g k))) (hT : Hid (zp (prodN (fun k => f k * g k) L.length) = T)) :
    Calls Tryd.prog 24 #[.slice (some ⟨b1, o1, none⟩) L.length c1, .slice (some ⟨b2, o2, none⟩) M.length c2] w fun e w' => e = .returned (.tuple #[twR T, .nilIface]) ∧ Below w.heap.size w w' := by
  have := product_y L M f g b1 o1 c1 b2 o2 c2 w hF hO hl hm hL hM h; rw [hT.out] at this; exact this
end Go.Proofs.YtfnifdmnbccblaaDoor
namespace Go.Proofs.YtfnifdmnbccblaaDoor
open Go.RowKit
set_option maxRecDepth 100000
set_option linter.unusedVariables false
set_option linter.unusedSimpArgs false
set_option maxHeartbeats 1000000 in
theorem refSpot_x0 (x y : Int) (f : Bool) (w : World) (h : x < 0) : Calls Tryd.prog 36 #[.agg #[.int .i64 x, .int .i64 y, .bool f]] w fun e w' => e = .returned (.int .i64 1) ∧ Below w.heap.size w w' := by
  go_enter Tryd.func36, Tryd.ntmps36
  go_wp2
  go_ret
  exact ⟨rfl, (by repeat (first | exact Below.refl _ _ | refine balloc ?_ _ | refine Below.drew ?_ | refine below_drewN ?_ _ | refine below_set ?_ (by first | omega | (dsimp only; omega)) _))⟩
set_option maxHeartbeats 1000000 in
theorem refSpot_x1 (x y : Int) (f : Bool) (w : World) (h0 : 0 ≤ x) (h : 4051 ≤ x) : Calls Tryd.prog 36 #[.agg #[.int .i64 x, .int .i64 y, .bool f]] w fun e w' => e = .returned (.int .i64 1) ∧ Below w.heap.size w w' := by
  go_enter Tryd.func36, Tryd.ntmps36
  go_wp2
  go_ret
  exact ⟨rfl, (by repeat (first | exact Below.refl _ _ | refine balloc ?_ _ | refine Below.drew ?_ | refine below_drewN ?_ _ | refine below_set ?_ (by first | omega | (dsimp only; omega)) _))⟩
set_option maxHeartbeats 1000000 in
theorem refSpot_y0 (x y : Int) (f : Bool) (w : World) (h0 : 0 ≤ x) (h : x < 4051) (k : y < 0) : Calls Tryd.prog 36 #[.agg #[.int .i64 x, .int .i64 y, .bool f]] w fun e w' => e = .returned (.int .i64 1) ∧ Below w.heap.size w w' := by
  go_enter Tryd.func36, Tryd.ntmps36
  go_wp2
  go_ret
  exact ⟨rfl, (by repeat (first | exact Below.refl _ _ | refine balloc ?_ _ | refine Below.drew ?_ | refine below_drewN ?_ _ | refine below_set ?_ (by first | omega | (dsimp only; omega)) _))⟩
set_option maxHeartbeats 1000000 in
theorem refSpot_y1 (x y : Int) (f : Bool) (w : World) (h0 : 0 ≤ x) (h : x < 4051) (k0 : 0 ≤ y) (k : 4051 ≤ y) : Calls Tryd.prog 36 #[.agg #[.int .i64 x, .int .i64 y, .bool f]] w fun e w' => e = .returned (.int .i64 1) ∧ Below w.heap.size w w' := by
  go_enter Tryd.func36, Tryd.ntmps36
  go_wp2
  go_ret
  exact ⟨rfl, (by repeat (first | exact Below.refl _ _ | refine balloc ?_ _ | refine Below.drew ?_ | refine below_drewN ?_ _ | refine below_set ?_ (by first | omega | (dsimp only; omega)) _))⟩
set_option maxHeartbeats 1000000 in
theorem refSpot_f1 (x y : Int) (w : World) (h0 : 0 ≤ x) (h : x < 4051) (k0 : 0 ≤ y) (k : y < 4051) (hx : (x != 0) = true) : Calls Tryd.prog 36 #[.agg #[.int .i64 x, .int .i64 y, .bool true]] w fun e w' => e = .returned (.int .i64 1) ∧ Below w.heap.size w w' := by
  go_enter Tryd.func36, Tryd.ntmps36
  go_wp2
  go_ret
  exact ⟨rfl, (by repeat (first | exact Below.refl _ _ | refine balloc ?_ _ | refine Below.drew ?_ | refine below_drewN ?_ _ | refine below_set ?_ (by first | omega | (dsimp only; omega)) _))⟩
set_option maxHeartbeats 1000000 in
theorem refSpot_f2 (x y : Int) (w : World) (h0 : 0 ≤ x) (h : x < 4051) (k0 : 0 ≤ y) (k : y < 4051) (hx : (x != 0) = false) (hy : (y != 0) = true) : Calls Tryd.prog 36 #[.agg #[.int .i64 x, .int .i64 y, .bool true]] w fun e w' => e = .returned (.int .i64 1) ∧ Below w.heap.size w w' := by
  go_enter Tryd.func36, Tryd.ntmps36
  go_wp2
  go_ret
  exact ⟨rfl, (by repeat (first | exact Below.refl _ _ | refine balloc ?_ _ | refine Below.drew ?_ | refine below_drewN ?_ _ | refine below_set ?_ (by first | omega | (dsimp only; omega)) _))⟩
set_option maxHeartbeats 1000000 in
theorem refSpot_f3 (w : World) : Calls Tryd.prog 36 #[.agg #[.int .i64 0, .int .i64 0, .bool true]] w fun e w' => e = .returned (.int .i64 0) ∧ Below w.heap.size w w' := by
  go_enter Tryd.func36, Tryd.ntmps36
  go_wp2
  go_ret
  exact ⟨rfl, (by repeat (first | exact Below.refl _ _ | refine balloc ?_ _ | refine Below.drew ?_ | refine below_drewN ?_ _ | refine below_set ?_ (by first | omega | (dsimp only; omega)) _))⟩
set_option maxHeartbeats 1000000 in
theorem refSpot_n0 (x y H : Int) (w : World) (h0 : 0 ≤ x) (h : x < 4051) (k0 : 0 ≤ y) (k : y < 4051) (p0 : 0 ≤ y * y) (p1 : y * y ≤ 16402500) (q0 : 0 ≤ x * x) (q1 : x * x ≤ 16402500) (r0 : 0 ≤ x * x % 4051 * x) (r1 : x * x % 4051 * x ≤ 16402500) (hq : (y * y % 4051 != (x * x % 4051 * x + x) % 4051) = false) : Calls Tryd.prog 36 #[.agg #[.int .i64 x, .int .i64 y, .bool false]] w fun e w' => e = .returned (.int .i64 0) ∧ Below w.heap.size w w' := by
  go_enter Tryd.func36, Tryd.ntmps36
  go_wp2
  go_ret
  exact ⟨rfl, (by repeat (first | exact Below.refl _ _ | refine balloc ?_ _ | refine Below.drew ?_ | refine below_drewN ?_ _ | refine below_set ?_ (by first | omega | (dsimp only; omega)) _))⟩
set_option maxHeartbeats 1000000 in
theorem refSpot_n3 (x y H : Int) (w : World) (h0 : 0 ≤ x) (h : x < 4051) (k0 : 0 ≤ y) (k : y < 4051) (p0 : 0 ≤ y * y) (p1 : y * y ≤ 16402500) (q0 : 0 ≤ x * x) (q1 : x * x ≤ 16402500) (r0 : 0 ≤ x * x % 4051 * x) (r1 : x * x % 4051 * x ≤ 16402500) (hq : (y * y % 4051 != (x * x % 4051 * x + x) % 4051) = true) : Calls Tryd.prog 36 #[.agg #[.int .i64 x, .int .i64 y, .bool false]] w fun e w' => e = .returned (.int .i64 3) ∧ Below w.heap.size w w' := by
  go_enter Tryd.func36, Tryd.ntmps36
  go_wp2
  go_ret
  exact ⟨rfl, (by repeat (first | exact Below.refl _ _ | refine balloc ?_ _ | refine Below.drew ?_ | refine below_drewN ?_ _ | refine below_set ?_ (by first | omega | (dsimp only; omega)) _))⟩
theorem ins_no {x : Int} (h : ¬ (0 ≤ x ∧ x < 4051)) : inside x = false := by
  cases e : inside x
  · rfl
  · exact absurd (ins_iff.mp e) h
theorem refSpot_c (s : Sp) (w : World) : Calls Tryd.prog 36 #[spV s] w fun e w' => e = .returned (.int .i64 (sCheck s)) ∧ Below w.heap.size w w' := by
  obtain ⟨x, y, f⟩ := s
  by_cases hx : 0 ≤ x ∧ x < 4051
  case neg =>
    have e : sCheck ⟨x, y, f⟩ = 1 := by unfold sCheck; rw [if_pos]; simp [ins_no hx]
    rw [e]
    by_cases c : x < 0
    · exact refSpot_x0 x y f w c
    · exact refSpot_x1 x y f w (by omega) (by omega)
  by_cases hy : 0 ≤ y ∧ y < 4051
  case neg =>
    have e : sCheck ⟨x, y, f⟩ = 1 := by unfold sCheck; rw [if_pos]; simp [ins_no hy]
    rw [e]
    by_cases c : y < 0
    · exact refSpot_y0 x y f w hx.1 hx.2 c
    · exact refSpot_y1 x y f w hx.1 hx.2 (by omega) (by omega)
  have ix := ins_iff.mpr hx
  have iy := ins_iff.mpr hy
  cases f
  · have b := lift_bd hx.1 hx.2
    have by' := sq_bd hy.1 hy.2
    have eh : (x * x % 4051 * x + x) % 4051 = height x := by rw [← height_ref, Int.emod_emod_of_dvd _ (Int.dvd_refl _)]
    by_cases c : pMul y y = height x
    · have e : sCheck ⟨x, y, false⟩ = 0 := by unfold sCheck; simp [ix, iy, c]
      rw [e]
      exact refSpot_n0 x y 0 w hx.1 hx.2 hy.1 hy.2 by'.1 by'.2 b.1.1 b.1.2 b.2.1 b.2.2 (by rw [eh, ← c]; unfold pMul; simp)
    · have e : sCheck ⟨x, y, false⟩ = 3 := by unfold sCheck; simp [ix, iy, c]
      rw [e]
      exact refSpot_n3 x y 0 w hx.1 hx.2 hy.1 hy.2 by'.1 by'.2 b.1.1 b.1.2 b.2.1 b.2.2 (by rw [eh]; simp; unfold pMul at c; exact c)
  · by_cases c : x = 0
    · subst c
      by_cases d : y = 0
      · subst d
        exact refSpot_f3 w
      · have e : sCheck ⟨0, y, true⟩ = 1 := by unfold sCheck; rw [if_pos]; simp [iy, ix, Sp.beq, sFar, d]
        rw [e]
        exact refSpot_f2 0 y w hx.1 hx.2 hy.1 hy.2 (by simp) (by simpa using d)
    · have e : sCheck ⟨x, y, true⟩ = 1 := by unfold sCheck; rw [if_pos]; simp [iy, ix, Sp.beq, sFar, c]
      rw [e]
      exact refSpot_f1 x y w hx.1 hx.2 hy.1 hy.2 (by simpa using c)
theorem refSpot_e (s : Sp) (n : Int) (w : World) (h : Hid (sCheck s = n)) : Calls Tryd.prog 36 #[spV s] w fun e w' => e = .returned (.int .i64 n) ∧ Below w.heap.size w w' := by
  have := refSpot_c s w; rw [h.out] at this; exact this
theorem check_v (s : Sp) (n : Int) (w : World) (hF : FarAt w) (h : Hid (sCheck s = n)) (h0 : n ≠ 0) : Calls Tryd.prog 82 #[spV s] w fun e w' => e = .returned (.iface 118 (.int .i64 n)) ∧ Below w.heap.size w w' := by
  have := check_bad s w hF (by rw [h.out]; exact h0); rw [h.out] at this; exact this
end Go.Proofs.YtfnifdmnbccblaaDoor
namespace Go.Proofs.YtfnifdmnbccblaaDoor
open Go.RowKit
set_option maxRecDepth 100000
set_option linter.unusedVariables false
set_option linter.unusedSimpArgs false
/-- Two numbers of the greater field held against each other by ==. -/
def twB (x y u v : Int) : Bool := x == u && y == v
theorem twin_if (x y u v : Int) (w : World) : (if x = u then if y = v then Result.ok (Value.bool true) w else Result.ok (Value.bool false) w else Result.ok (Value.bool false) w) = .ok (.bool (twB x y u v)) w := by
  unfold twB
  by_cases hx : x = u <;> by_cases hy : y = v <;> simp [hx, hy]
set_option maxHeartbeats 1000000 in
theorem eql_twin (x y u v : Int) (w : World) : (Go.binOp .eql 40 (.agg #[.int .i64 x, .int .i64 y]) (.agg #[.int .i64 u, .int .i64 v])).run Tryd.prog w = .ok (.bool (twB x y u v)) w := by
  go_simp
  exact twin_if x y u v w
attribute [go_sem ↓] eql_twin
@[go_sem] theorem twB_self (x y : Int) : twB x y x y = true := by unfold twB; simp
theorem twB_z {z z' : Z} {b : Bool} (h : twB (fz z.re) (fz z.im) (fz z'.re) (fz z'.im) = b) : b = true ↔ z = z' := by
  subst h
  constructor
  · intro h
    simp only [twB, Bool.and_eq_true, beq_iff_eq] at h
    rw [← zi_fz z, ← zi_fz z', h.1, h.2]
  · rintro rfl
    exact twB_self _ _
theorem refPair_e (a b : Sp) (i j : Int) (z : Z) (w : World) (ha : Hid (Cnt a i)) (hb : Hid (Cnt b j)) (hz : Hid (zp (i * j) = z)) : Calls Tryd.prog 19 #[spV a, spV b] w fun e w' => e = .returned (twR z) ∧ Below w.heap.size w w' := by
  have hz1 := hz.out
  rw [← zp_nat (Int.mul_nonneg ha.out.2.1 hb.out.2.1)] at hz1
  rw [← hz1]
  cases fa : a.far
  · cases fb : b.far
    · rw [← zR_cnt ha.out hb.out fa fb]
      have hi : i % 1013 ≠ 0 := fun e => by
        have := ha.out.1; rw [this, sq_far.mpr (by omega)] at fa; cases fa
      exact refPair_c a b i w hi (Lib.hid ha.out.1) (ok_of ha.out.1) (ok_of hb.out.1) fa fb
    · have : j = 0 := by have := hb.out.1; rw [this] at fb; have := sq_far.mp fb; have := hb.out.2; omega
      rw [this, Int.mul_zero, show (0 : Int).toNat = 0 from rfl, Z.pow_zero, twR_one]
      exact refPair_farr a b w fa fb
  · have : i = 0 := by have := ha.out.1; rw [this] at fa; have := sq_far.mp fa; have := ha.out.2; omega
    rw [this, Int.zero_mul, show (0 : Int).toNat = 0 from rfl, Z.pow_zero, twR_one]
    exact refPair_farl a b w fa
set_option maxHeartbeats 1000000 in
theorem refTwo_a (a b : Sp) (E : Int) (w : World) (h : Hid (sCheck a = E)) (hE : (E == 0) = false) : Calls Tryd.prog 18 #[spV a, spV b] w fun e w' => e = .returned (.int .i64 E) ∧ Below w.heap.size w w' := by
  have hE2 : (E != 0) = true := by rw [bne, hE]; rfl
  go_enter Tryd.func18, Tryd.ntmps18
  go_wp2_with fail
  refine (refSpot_e a E _ h).mono ?_; rintro e w1 ⟨rfl, hb⟩
  obtain ⟨hc1, hf1⟩ := bcell hb
  have z1 := hb.size
  try simp only [World.size_alloc, World.size_setCell, World.size_drew] at z1
  have s1_0 : w.heap.size < w1.heap.size := by omega
  have s1_1 : w.heap.size + 1 < w1.heap.size := by omega
  have hB1 : Below w.heap.size w w1 := below_seq (by repeat (first | exact Below.refl _ _ | refine balloc ?_ _ | refine Below.drew ?_ | refine below_drewN ?_ _ | refine below_set ?_ (by first | omega | (dsimp only; omega)) _)) hb
  clear hb
  go_wp2
  go_ret
  exact ⟨rfl, (by repeat (first | exact hB1 | exact Below.refl _ _ | refine balloc ?_ _ | refine Below.drew ?_ | refine below_drewN ?_ _ | refine below_set ?_ (by first | omega | (dsimp only; omega)) _))⟩
set_option maxHeartbeats 1000000 in
theorem refTwo_b (a b : Sp) (E : Int) (w : World) (h0 : Hid (sCheck a = 0)) (h : Hid (sCheck b = E)) (hE : (E == 0) = false) : Calls Tryd.prog 18 #[spV a, spV b] w fun e w' => e = .returned (.int .i64 E) ∧ Below w.heap.size w w' := by
  have hE2 : (E != 0) = true := by rw [bne, hE]; rfl
  go_enter Tryd.func18, Tryd.ntmps18
  go_wp2_with fail
  refine (refSpot_e a 0 _ h0).mono ?_; rintro e w1 ⟨rfl, hb⟩
  obtain ⟨hc1, hf1⟩ := bcell hb
  have z1 := hb.size
  try simp only [World.size_alloc, World.size_setCell, World.size_drew] at z1
  have s1_0 : w.heap.size < w1.heap.size := by omega
  have s1_1 : w.heap.size + 1 < w1.heap.size := by omega
  have hB1 : Below w.heap.size w w1 := below_seq (by repeat (first | exact Below.refl _ _ | refine balloc ?_ _ | refine Below.drew ?_ | refine below_drewN ?_ _ | refine below_set ?_ (by first | omega | (dsimp only; omega)) _)) hb
  clear hb
  go_wp2_with fail
  refine (refSpot_e b E _ h).mono ?_; rintro e w2 ⟨rfl, hb⟩
  obtain ⟨hc2, hf2⟩ := bcell hb
  have z2 := hb.size
  try simp only [World.size_alloc, World.size_setCell, World.size_drew] at z2
  have s2_0 : w.heap.size < w2.heap.size := by omega
  have s2_1 : w.heap.size + 1 < w2.heap.size := by omega
  have hB2 : Below w.heap.size w w2 := below_seq (by repeat (first | exact hB1 | exact Below.refl _ _ | refine balloc ?_ _ | refine Below.drew ?_ | refine below_drewN ?_ _ | refine below_set ?_ (by first | omega | (dsimp only; omega)) _)) hb
  clear hb
  go_wp2
  go_ret
  exact ⟨rfl, (by repeat (first | exact hB2 | exact Below.refl _ _ | refine balloc ?_ _ | refine Below.drew ?_ | refine below_drewN ?_ _ | refine below_set ?_ (by first | omega | (dsimp only; omega)) _))⟩
set_option maxHeartbeats 1000000 in
theorem refTwo_y (a b : Sp) (u v : Int) (x y : Bool) (E : Int) (w : World) (ha : Hid (a = sq u)) (hb' : Hid (b = sq v)) (hx : Hid ((sq (u * 1013)).far = x)) (hy : Hid ((sq (v * 1013)).far = y)) (hE : Hid (E = if x && y then 0 else 3)) : Calls Tryd.prog 18 #[spV a, spV b] w fun e w' => e = .returned (.int .i64 E) ∧ Below w.heap.size w w' := by
  have ca : Hid (sCheck a = 0) := Lib.hid ((ok_iff _).mpr (ok_of ha.out))
  have cb : Hid (sCheck b = 0) := Lib.hid ((ok_iff _).mpr (ok_of hb'.out))
  cases x <;> cases y
  all_goals
    have hE' := hE.out
    simp only [Bool.and_self, Bool.and_true, Bool.and_false, Bool.false_eq_true, if_false, if_true] at hE'
    subst hE'
    clear hE
  · skip
    go_enter Tryd.func18, Tryd.ntmps18
    go_wp2_with fail
    refine (refSpot_e a 0 _ ca).mono ?_; rintro e w1 ⟨rfl, hb⟩
    obtain ⟨hc1, hf1⟩ := bcell hb
    have z1 := hb.size
    try simp only [World.size_alloc, World.size_setCell, World.size_drew] at z1
    have s1_0 : w.heap.size < w1.heap.size := by omega
    have s1_1 : w.heap.size + 1 < w1.heap.size := by omega
    have hB1 : Below w.heap.size w w1 := below_seq (by repeat (first | exact Below.refl _ _ | refine balloc ?_ _ | refine Below.drew ?_ | refine below_drewN ?_ _ | refine below_set ?_ (by first | omega | (dsimp only; omega)) _)) hb
    clear hb
    go_wp2_with fail
    refine (refSpot_e b 0 _ cb).mono ?_; rintro e w2 ⟨rfl, hb⟩
    obtain ⟨hc2, hf2⟩ := bcell hb
    have z2 := hb.size
    try simp only [World.size_alloc, World.size_setCell, World.size_drew] at z2
    have s2_0 : w.heap.size < w2.heap.size := by omega
    have s2_1 : w.heap.size + 1 < w2.heap.size := by omega
    have hB2 : Below w.heap.size w w2 := below_seq (by repeat (first | exact hB1 | exact Below.refl _ _ | refine balloc ?_ _ | refine Below.drew ?_ | refine below_drewN ?_ _ | refine below_set ?_ (by first | omega | (dsimp only; omega)) _)) hb
    clear hb
    go_wp2_with fail
    refine (refIn_e a u false _ ha hx).mono ?_; rintro e w3 ⟨rfl, hb⟩
    obtain ⟨hc3, hf3⟩ := bcell hb
    have z3 := hb.size
    try simp only [World.size_alloc, World.size_setCell, World.size_drew] at z3
    have s3_0 : w.heap.size < w3.heap.size := by omega
    have s3_1 : w.heap.size + 1 < w3.heap.size := by omega
    have hB3 : Below w.heap.size w w3 := below_seq (by repeat (first | exact hB2 | exact Below.refl _ _ | refine balloc ?_ _ | refine Below.drew ?_ | refine below_drewN ?_ _ | refine below_set ?_ (by first | omega | (dsimp only; omega)) _)) hb
    clear hb
    go_wp2_with fail
    refine (refIn_e b v false _ hb' hy).mono ?_; rintro e w4 ⟨rfl, hb⟩
    obtain ⟨hc4, hf4⟩ := bcell hb
    have z4 := hb.size
    try simp only [World.size_alloc, World.size_setCell, World.size_drew] at z4
    have s4_0 : w.heap.size < w4.heap.size := by omega
    have s4_1 : w.heap.size + 1 < w4.heap.size := by omega
    have hB4 : Below w.heap.size w w4 := below_seq (by repeat (first | exact hB3 | exact Below.refl _ _ | refine balloc ?_ _ | refine Below.drew ?_ | refine below_drewN ?_ _ | refine below_set ?_ (by first | omega | (dsimp only; omega)) _)) hb
    clear hb
    go_wp2
    go_ret
    exact ⟨rfl, (by repeat (first | exact hB4 | exact Below.refl _ _ | refine balloc ?_ _ | refine Below.drew ?_ | refine below_drewN ?_ _ | refine below_set ?_ (by first | omega | (dsimp only; omega)) _))⟩
  · skip
    go_enter Tryd.func18, Tryd.ntmps18
    go_wp2_with fail
    refine (refSpot_e a 0 _ ca).mono ?_; rintro e w1 ⟨rfl, hb⟩
    obtain ⟨hc1, hf1⟩ := bcell hb
    have z1 := hb.size
    try simp only [World.size_alloc, World.size_setCell, World.size_drew] at z1
    have s1_0 : w.heap.size < w1.heap.size := by omega
    have s1_1 : w.heap.size + 1 < w1.heap.size := by omega
    have hB1 : Below w.heap.size w w1 := below_seq (by repeat (first | exact Below.refl _ _ | refine balloc ?_ _ | refine Below.drew ?_ | refine below_drewN ?_ _ | refine below_set ?_ (by first | omega | (dsimp only; omega)) _)) hb
    clear hb
    go_wp2_with fail
    refine (refSpot_e b 0 _ cb).mono ?_; rintro e w2 ⟨rfl, hb⟩
    obtain ⟨hc2, hf2⟩ := bcell hb
    have z2 := hb.size
    try simp only [World.size_alloc, World.size_setCell, World.size_drew] at z2
    have s2_0 : w.heap.size < w2.heap.size := by omega
    have s2_1 : w.heap.size + 1 < w2.heap.size := by omega
    have hB2 : Below w.heap.size w w2 := below_seq (by repeat (first | exact hB1 | exact Below.refl _ _ | refine balloc ?_ _ | refine Below.drew ?_ | refine below_drewN ?_ _ | refine below_set ?_ (by first | omega | (dsimp only; omega)) _)) hb
    clear hb
    go_wp2_with fail
    refine (refIn_e a u false _ ha hx).mono ?_; rintro e w3 ⟨rfl, hb⟩
    obtain ⟨hc3, hf3⟩ := bcell hb
    have z3 := hb.size
    try simp only [World.size_alloc, World.size_setCell, World.size_drew] at z3
    have s3_0 : w.heap.size < w3.heap.size := by omega
    have s3_1 : w.heap.size + 1 < w3.heap.size := by omega
    have hB3 : Below w.heap.size w w3 := below_seq (by repeat (first | exact hB2 | exact Below.refl _ _ | refine balloc ?_ _ | refine Below.drew ?_ | refine below_drewN ?_ _ | refine below_set ?_ (by first | omega | (dsimp only; omega)) _)) hb
    clear hb
    go_wp2_with fail
    refine (refIn_e b v true _ hb' hy).mono ?_; rintro e w4 ⟨rfl, hb⟩
    obtain ⟨hc4, hf4⟩ := bcell hb
    have z4 := hb.size
    try simp only [World.size_alloc, World.size_setCell, World.size_drew] at z4
    have s4_0 : w.heap.size < w4.heap.size := by omega
    have s4_1 : w.heap.size + 1 < w4.heap.size := by omega
    have hB4 : Below w.heap.size w w4 := below_seq (by repeat (first | exact hB3 | exact Below.refl _ _ | refine balloc ?_ _ | refine Below.drew ?_ | refine below_drewN ?_ _ | refine below_set ?_ (by first | omega | (dsimp only; omega)) _)) hb
    clear hb
    go_wp2
    go_ret
    exact ⟨rfl, (by repeat (first | exact hB4 | exact Below.refl _ _ | refine balloc ?_ _ | refine Below.drew ?_ | refine below_drewN ?_ _ | refine below_set ?_ (by first | omega | (dsimp only; omega)) _))⟩
  · skip
    go_enter Tryd.func18, Tryd.ntmps18
    go_wp2_with fail
    refine (refSpot_e a 0 _ ca).mono ?_; rintro e w1 ⟨rfl, hb⟩
    obtain ⟨hc1, hf1⟩ := bcell hb
    have z1 := hb.size
    try simp only [World.size_alloc, World.size_setCell, World.size_drew] at z1
    have s1_0 : w.heap.size < w1.heap.size := by omega
    have s1_1 : w.heap.size + 1 < w1.heap.size := by omega
    have hB1 : Below w.heap.size w w1 := below_seq (by repeat (first | exact Below.refl _ _ | refine balloc ?_ _ | refine Below.drew ?_ | refine below_drewN ?_ _ | refine below_set ?_ (by first | omega | (dsimp only; omega)) _)) hb
    clear hb
    go_wp2_with fail
    refine (refSpot_e b 0 _ cb).mono ?_; rintro e w2 ⟨rfl, hb⟩
    obtain ⟨hc2, hf2⟩ := bcell hb
    have z2 := hb.size
    try simp only [World.size_alloc, World.size_setCell, World.size_drew] at z2
    have s2_0 : w.heap.size < w2.heap.size := by omega
    have s2_1 : w.heap.size + 1 < w2.heap.size := by omega
    have hB2 : Below w.heap.size w w2 := below_seq (by repeat (first | exact hB1 | exact Below.refl _ _ | refine balloc ?_ _ | refine Below.drew ?_ | refine below_drewN ?_ _ | refine below_set ?_ (by first | omega | (dsimp only; omega)) _)) hb
    clear hb
    go_wp2_with fail
    refine (refIn_e a u true _ ha hx).mono ?_; rintro e w3 ⟨rfl, hb⟩
    obtain ⟨hc3, hf3⟩ := bcell hb
    have z3 := hb.size
    try simp only [World.size_alloc, World.size_setCell, World.size_drew] at z3
    have s3_0 : w.heap.size < w3.heap.size := by omega
    have s3_1 : w.heap.size + 1 < w3.heap.size := by omega
    have hB3 : Below w.heap.size w w3 := below_seq (by repeat (first | exact hB2 | exact Below.refl _ _ | refine balloc ?_ _ | refine Below.drew ?_ | refine below_drewN ?_ _ | refine below_set ?_ (by first | omega | (dsimp only; omega)) _)) hb
    clear hb
    go_wp2_with fail
    refine (refIn_e b v false _ hb' hy).mono ?_; rintro e w4 ⟨rfl, hb⟩
    obtain ⟨hc4, hf4⟩ := bcell hb
    have z4 := hb.size
    try simp only [World.size_alloc, World.size_setCell, World.size_drew] at z4
    have s4_0 : w.heap.size < w4.heap.size := by omega
    have s4_1 : w.heap.size + 1 < w4.heap.size := by omega
    have hB4 : Below w.heap.size w w4 := below_seq (by repeat (first | exact hB3 | exact Below.refl _ _ | refine balloc ?_ _ | refine Below.drew ?_ | refine below_drewN ?_ _ | refine below_set ?_ (by first | omega | (dsimp only; omega)) _)) hb
    clear hb
    go_wp2
    go_ret
    exact ⟨rfl, (by repeat (first | exact hB4 | exact Below.refl _ _ | refine balloc ?_ _ | refine Below.drew ?_ | refine below_drewN ?_ _ | refine below_set ?_ (by first | omega | (dsimp only; omega)) _))⟩
  · skip
    go_enter Tryd.func18, Tryd.ntmps18
    go_wp2_with fail
    refine (refSpot_e a 0 _ ca).mono ?_; rintro e w1 ⟨rfl, hb⟩
    obtain ⟨hc1, hf1⟩ := bcell hb
    have z1 := hb.size
    try simp only [World.size_alloc, World.size_setCell, World.size_drew] at z1
    have s1_0 : w.heap.size < w1.heap.size := by omega
    have s1_1 : w.heap.size + 1 < w1.heap.size := by omega
    have hB1 : Below w.heap.size w w1 := below_seq (by repeat (first | exact Below.refl _ _ | refine balloc ?_ _ | refine Below.drew ?_ | refine below_drewN ?_ _ | refine below_set ?_ (by first | omega | (dsimp only; omega)) _)) hb
    clear hb
    go_wp2_with fail
    refine (refSpot_e b 0 _ cb).mono ?_; rintro e w2 ⟨rfl, hb⟩
    obtain ⟨hc2, hf2⟩ := bcell hb
    have z2 := hb.size
    try simp only [World.size_alloc, World.size_setCell, World.size_drew] at z2
    have s2_0 : w.heap.size < w2.heap.size := by omega
    have s2_1 : w.heap.size + 1 < w2.heap.size := by omega
    have hB2 : Below w.heap.size w w2 := below_seq (by repeat (first | exact hB1 | exact Below.refl _ _ | refine balloc ?_ _ | refine Below.drew ?_ | refine below_drewN ?_ _ | refine below_set ?_ (by first | omega | (dsimp only; omega)) _)) hb
    clear hb
    go_wp2_with fail
    refine (refIn_e a u true _ ha hx).mono ?_; rintro e w3 ⟨rfl, hb⟩
    obtain ⟨hc3, hf3⟩ := bcell hb
    have z3 := hb.size
    try simp only [World.size_alloc, World.size_setCell, World.size_drew] at z3
    have s3_0 : w.heap.size < w3.heap.size := by omega
    have s3_1 : w.heap.size + 1 < w3.heap.size := by omega
    have hB3 : Below w.heap.size w w3 := below_seq (by repeat (first | exact hB2 | exact Below.refl _ _ | refine balloc ?_ _ | refine Below.drew ?_ | refine below_drewN ?_ _ | refine below_set ?_ (by first | omega | (dsimp only; omega)) _)) hb
    clear hb
    go_wp2_with fail
    refine (refIn_e b v true _ hb' hy).mono ?_; rintro e w4 ⟨rfl, hb⟩
    obtain ⟨hc4, hf4⟩ := bcell hb
    have z4 := hb.size
    try simp only [World.size_alloc, World.size_setCell, World.size_drew] at z4
    have s4_0 : w.heap.size < w4.heap.size := by omega
    have s4_1 : w.heap.size + 1 < w4.heap.size := by omega
    have hB4 : Below w.heap.size w w4 := below_seq (by repeat (first | exact hB3 | exact Below.refl _ _ | refine balloc ?_ _ | refine Below.drew ?_ | refine below_drewN ?_ _ | refine below_set ?_ (by first | omega | (dsimp only; omega)) _)) hb
    clear hb
    go_wp2
    go_ret
    exact ⟨rfl, (by repeat (first | exact hB4 | exact Below.refl _ _ | refine balloc ?_ _ | refine Below.drew ?_ | refine below_drewN ?_ _ | refine below_set ?_ (by first | omega | (dsimp only; omega)) _))⟩
/-- Two that may be paired, or the fault. -/
def TwoIs (a b : Sp) (E : Int) : Prop := (∀ w : World, Calls Tryd.prog 18 #[spV a, spV b] w fun e w' => e = .returned (.int .i64 E) ∧ Below w.heap.size w w') ∧
  ((E = 0 ∧ ∃ i j, Cnt a i ∧ Cnt b j) ∨ (E ≠ 0 ∧ ∀ w : World, FarAt w → Calls Tryd.prog 87 #[spV a, spV b] w fun e w' => e = .returned (.iface 118 (.int .i64 E)) ∧ Below w.heap.size w w'))
theorem two_is (a b : Sp) : ∃ E, TwoIs a b E := by
  by_cases ca : sCheck a = 0
  case neg => exact ⟨_, fun w => refTwo_a a b _ w (Lib.hid rfl) (by simpa using ca), .inr ⟨ca, fun w hF => ready_bad a b _ w hF 0 (by omega) (fun i _ h => absurd h (by omega)) rfl ca⟩⟩
  have oa := (ok_iff _).mp ca
  by_cases cb : sCheck b = 0
  case neg => exact ⟨_, fun w => refTwo_b a b _ w (Lib.hid ca) (Lib.hid rfl) (by simpa using cb), .inr ⟨cb, fun w hF => ready_bad a b _ w hF 1 (by omega) (ok_first a b oa) rfl cb⟩⟩
  have ob := (ok_iff _).mp cb
  obtain ⟨u, -, -, eu⟩ := sq_all oa
  obtain ⟨v, -, -, ev⟩ := sq_all ob
  cases fu : (sq (u * 1013)).far
  · refine ⟨3, fun w => refTwo_y a b u v _ _ 3 w (Lib.hid eu) (Lib.hid ev) (Lib.hid fu) (Lib.hid rfl) (Lib.hid (by simp)), .inr ⟨by decide, fun w hF => ready_in a b u v w hF eu ev fu⟩⟩
  cases fv : (sq (v * 1013)).far
  · exact ⟨3, fun w => refTwo_y a b u v _ _ 3 w (Lib.hid eu) (Lib.hid ev) (Lib.hid fu) (Lib.hid fv) (Lib.hid (by simp)), .inr ⟨by decide, fun w hF => ready_in2 a b u v w hF eu ev fu fv⟩⟩
  obtain ⟨i, hi⟩ := cnt_of fu
  obtain ⟨j, hj⟩ := cnt_of fv
  exact ⟨0, fun w => refTwo_y a b u v _ _ 0 w (Lib.hid eu) (Lib.hid ev) (Lib.hid fu) (Lib.hid fv) (Lib.hid (by simp)), .inl ⟨rfl, i, j, by rw [eu]; exact hi, by rw [ev]; exact hj⟩⟩
/- Two and two, refused. -/
set_option maxHeartbeats 2000000 in
theorem same_n1 (a b c d : Sp) (E : Int) (w : World) (hF : FarAt w) (h : Hid (∀ w : World, FarAt w → Calls Tryd.prog 87 #[spV a, spV b] w fun e w' => e = .returned (.iface 118 (.int .i64 E)) ∧ Below w.heap.size w w')) : Calls Tryd.prog 22 #[spV a, spV b, spV c, spV d] w fun e w' => e = .returned (.tuple #[.bool false, .iface 118 (.int .i64 E)]) ∧ Below w.heap.size w w' := by
  go_enter Tryd.func22, Tryd.ntmps22
  go_wp2_with fail
  refine (h.out _ (hF.below (by repeat (first | exact Below.refl _ _ | refine balloc ?_ _ | refine Below.drew ?_ | refine below_drewN ?_ _ | refine below_set ?_ (by first | omega | (dsimp only; omega)) _)))).mono ?_; rintro e w1 ⟨rfl, hb⟩
  obtain ⟨hc1, hf1⟩ := bcell hb
  have z1 := hb.size
  try simp only [World.size_alloc, World.size_setCell, World.size_drew] at z1
  have s1_0 : w.heap.size < w1.heap.size := by omega
  have s1_1 : w.heap.size + 1 < w1.heap.size := by omega
  have s1_2 : w.heap.size + 1 + 1 < w1.heap.size := by omega
  have s1_3 : w.heap.size + 1 + 1 + 1 < w1.heap.size := by omega
  have hB1 : Below w.heap.size w w1 := below_seq (by repeat (first | exact Below.refl _ _ | refine balloc ?_ _ | refine Below.drew ?_ | refine below_drewN ?_ _ | refine below_set ?_ (by first | omega | (dsimp only; omega)) _)) hb
  clear hb
  go_wp2
  go_ret2
  exact ⟨rfl, (by repeat (first | exact hB1 | exact Below.refl _ _ | refine balloc ?_ _ | refine Below.drew ?_ | refine below_drewN ?_ _ | refine below_set ?_ (by first | omega | (dsimp only; omega)) _))⟩
set_option maxHeartbeats 2000000 in
theorem same_n2 (a b c d : Sp) (i j E : Int) (w : World) (hF : FarAt w) (ha : Hid (Cnt a i)) (hb' : Hid (Cnt b j)) (h : Hid (∀ w : World, FarAt w → Calls Tryd.prog 87 #[spV c, spV d] w fun e w' => e = .returned (.iface 118 (.int .i64 E)) ∧ Below w.heap.size w w')) : Calls Tryd.prog 22 #[spV a, spV b, spV c, spV d] w fun e w' => e = .returned (.tuple #[.bool false, .iface 118 (.int .i64 E)]) ∧ Below w.heap.size w w' := by
  go_enter Tryd.func22, Tryd.ntmps22
  go_wp2_with fail
  refine (ready_ok a b (4 * i) (4 * j) _ (hF.below (by repeat (first | exact Below.refl _ _ | refine balloc ?_ _ | refine Below.drew ?_ | refine below_drewN ?_ _ | refine below_set ?_ (by first | omega | (dsimp only; omega)) _))) ha.out.1 hb'.out.1 (sq_far.mpr (by omega)) (sq_far.mpr (by omega))).mono ?_; rintro e w1 ⟨rfl, hb⟩
  obtain ⟨hc1, hf1⟩ := bcell hb
  have z1 := hb.size
  try simp only [World.size_alloc, World.size_setCell, World.size_drew] at z1
  have s1_0 : w.heap.size < w1.heap.size := by omega
  have s1_1 : w.heap.size + 1 < w1.heap.size := by omega
  have s1_2 : w.heap.size + 1 + 1 < w1.heap.size := by omega
  have s1_3 : w.heap.size + 1 + 1 + 1 < w1.heap.size := by omega
  have hB1 : Below w.heap.size w w1 := below_seq (by repeat (first | exact Below.refl _ _ | refine balloc ?_ _ | refine Below.drew ?_ | refine below_drewN ?_ _ | refine below_set ?_ (by first | omega | (dsimp only; omega)) _)) hb
  clear hb
  go_wp2_with fail
  refine (h.out _ (hF.below (by repeat (first | exact hB1 | exact Below.refl _ _ | refine balloc ?_ _ | refine Below.drew ?_ | refine below_drewN ?_ _ | refine below_set ?_ (by first | omega | (dsimp only; omega)) _)))).mono ?_; rintro e w2 ⟨rfl, hb⟩
  obtain ⟨hc2, hf2⟩ := bcell hb
  have z2 := hb.size
  try simp only [World.size_alloc, World.size_setCell, World.size_drew] at z2
  have s2_0 : w.heap.size < w2.heap.size := by omega
  have s2_1 : w.heap.size + 1 < w2.heap.size := by omega
  have s2_2 : w.heap.size + 1 + 1 < w2.heap.size := by omega
  have s2_3 : w.heap.size + 1 + 1 + 1 < w2.heap.size := by omega
  have hB2 : Below w.heap.size w w2 := below_seq (by repeat (first | exact hB1 | exact Below.refl _ _ | refine balloc ?_ _ | refine Below.drew ?_ | refine below_drewN ?_ _ | refine below_set ?_ (by first | omega | (dsimp only; omega)) _)) hb
  clear hb
  go_wp2
  go_ret2
  exact ⟨rfl, (by repeat (first | exact hB2 | exact Below.refl _ _ | refine balloc ?_ _ | refine Below.drew ?_ | refine below_drewN ?_ _ | refine below_set ?_ (by first | omega | (dsimp only; omega)) _))⟩
set_option maxHeartbeats 2000000 in
theorem same_b (a b c d : Sp) (i j k l : Int) (z z' : Z) (B : Bool) (w : World) (hF : FarAt w) (hO : OneAt w) (ha : Hid (Cnt a i)) (hb' : Hid (Cnt b j)) (hc : Hid (Cnt c k)) (hd : Hid (Cnt d l)) (h1 : Hid (zp (i * j) = z)) (h2 : Hid (zp (k * l) = z')) (hB : Hid (twB (fz z.re) (fz z.im) (fz z'.re) (fz z'.im) = B)) : Calls Tryd.prog 22 #[spV a, spV b, spV c, spV d] w fun e w' => e = .returned (.tuple #[.bool B, .nilIface]) ∧ Below w.heap.size w w' := by
  have k1 : Hid (∀ w : World, FarAt w → OneAt w → Calls Tryd.prog 88 #[spV a, spV b] w fun e w' => e = .returned (.agg #[.int .i64 (fz z.re), .int .i64 (fz z.im)]) ∧ Below w.heap.size w w') := Lib.hid (fun w hF hO => of_z a b i j z w hF hO ha hb' h1)
  have k2 : Hid (∀ w : World, FarAt w → OneAt w → Calls Tryd.prog 88 #[spV c, spV d] w fun e w' => e = .returned (.agg #[.int .i64 (fz z'.re), .int .i64 (fz z'.im)]) ∧ Below w.heap.size w w') := Lib.hid (fun w hF hO => of_z c d k l z' w hF hO hc hd h2)
  have hB' := hB.out
  clear hB h1 h2
  generalize fz z.re = x1 at *
  generalize fz z.im = y1 at *
  generalize fz z'.re = x2 at *
  generalize fz z'.im = y2 at *
  go_enter Tryd.func22, Tryd.ntmps22
  go_wp2_with fail
  refine (ready_ok a b (4 * i) (4 * j) _ (hF.below (by repeat (first | exact Below.refl _ _ | refine balloc ?_ _ | refine Below.drew ?_ | refine below_drewN ?_ _ | refine below_set ?_ (by first | omega | (dsimp only; omega)) _))) ha.out.1 hb'.out.1 (sq_far.mpr (by omega)) (sq_far.mpr (by omega))).mono ?_; rintro e w1 ⟨rfl, hb⟩
  obtain ⟨hc1, hf1⟩ := bcell hb
  have z1 := hb.size
  try simp only [World.size_alloc, World.size_setCell, World.size_drew] at z1
  have s1_0 : w.heap.size < w1.heap.size := by omega
  have s1_1 : w.heap.size + 1 < w1.heap.size := by omega
  have s1_2 : w.heap.size + 1 + 1 < w1.heap.size := by omega
  have s1_3 : w.heap.size + 1 + 1 + 1 < w1.heap.size := by omega
  have hB1 : Below w.heap.size w w1 := below_seq (by repeat (first | exact Below.refl _ _ | refine balloc ?_ _ | refine Below.drew ?_ | refine below_drewN ?_ _ | refine below_set ?_ (by first | omega | (dsimp only; omega)) _)) hb
  clear hb
  go_wp2_with fail
  refine (ready_ok c d (4 * k) (4 * l) _ (hF.below (by repeat (first | exact hB1 | exact Below.refl _ _ | refine balloc ?_ _ | refine Below.drew ?_ | refine below_drewN ?_ _ | refine below_set ?_ (by first | omega | (dsimp only; omega)) _))) hc.out.1 hd.out.1 (sq_far.mpr (by omega)) (sq_far.mpr (by omega))).mono ?_; rintro e w2 ⟨rfl, hb⟩
  obtain ⟨hc2, hf2⟩ := bcell hb
  have z2 := hb.size
  try simp only [World.size_alloc, World.size_setCell, World.size_drew] at z2
  have s2_0 : w.heap.size < w2.heap.size := by omega
  have s2_1 : w.heap.size + 1 < w2.heap.size := by omega
  have s2_2 : w.heap.size + 1 + 1 < w2.heap.size := by omega
  have s2_3 : w.heap.size + 1 + 1 + 1 < w2.heap.size := by omega
  have hB2 : Below w.heap.size w w2 := below_seq (by repeat (first | exact hB1 | exact Below.refl _ _ | refine balloc ?_ _ | refine Below.drew ?_ | refine below_drewN ?_ _ | refine below_set ?_ (by first | omega | (dsimp only; omega)) _)) hb
  clear hb
  go_wp2_with fail
  refine wp_region_grow Tryd.mixed (by kernel_rfl) ?_
  repeat (quiet_step ((first | (go_at_call_of 88 a.x; exact grow_of (k1.out _ (hF.below (below_seq (by repeat (first | exact hB2 | exact Below.refl _ _ | refine balloc ?_ _ | refine Below.drew ?_ | refine below_drewN ?_ _ | refine below_set ?_ (by first | omega | (dsimp only; omega)) _)) (Grew.h _))) (hO.below (below_seq (by repeat (first | exact hB2 | exact Below.refl _ _ | refine balloc ?_ _ | refine Below.drew ?_ | refine below_drewN ?_ _ | refine below_set ?_ (by first | omega | (dsimp only; omega)) _)) (Grew.h _))))) | (go_at_call 88; exact grow_of (k2.out _ (hF.below (below_seq (by repeat (first | exact hB2 | exact Below.refl _ _ | refine balloc ?_ _ | refine Below.drew ?_ | refine below_drewN ?_ _ | refine below_set ?_ (by first | omega | (dsimp only; omega)) _)) (Grew.h _))) (hO.below (below_seq (by repeat (first | exact hB2 | exact Below.refl _ _ | refine balloc ?_ _ | refine Below.drew ?_ | refine below_drewN ?_ _ | refine below_set ?_ (by first | omega | (dsimp only; omega)) _)) (Grew.h _))))))))
  refine wpQuiet_nil ?_
  intro _ hw'
  obtain ⟨x3, rfl⟩ := hw'
  have z3 := x3.h.size
  try simp only [World.size_alloc, World.size_setCell, World.size_drew] at z3
  have s3_0 : w.heap.size < x3.w.heap.size := by omega
  have s3_1 : w.heap.size + 1 < x3.w.heap.size := by omega
  have s3_2 : w.heap.size + 1 + 1 < x3.w.heap.size := by omega
  have s3_3 : w.heap.size + 1 + 1 + 1 < x3.w.heap.size := by omega
  have hB3 : Below w.heap.size w x3.w := below_seq (by repeat (first | exact hB2 | exact Below.refl _ _ | refine balloc ?_ _ | refine Below.drew ?_ | refine below_drewN ?_ _ | refine below_set ?_ (by first | omega | (dsimp only; omega)) _)) x3.h
  go_wp2
  go_ret2
  exact ⟨rfl, (by repeat (first | exact hB3 | exact Below.refl _ _ | refine balloc ?_ _ | refine Below.drew ?_ | refine below_drewN ?_ _ | refine below_set ?_ (by first | omega | (dsimp only; omega)) _))⟩
end Go.Proofs.YtfnifdmnbccblaaDoor
namespace Go.Proofs.YtfnifdmnbccblaaDoor
open Go.RowKit
set_option maxRecDepth 100000
set_option linter.unusedVariables false
set_option linter.unusedSimpArgs false
set_option maxHeartbeats 4000000 in
theorem product_core (L M : List Sp) (f g : Nat → Int) (kk : Nat) (E : Int) (a1 a2 : Option Addr) (c1 c2 : Nat) (R : Value) (w : World) (hF : FarAt w) (hO : OneAt w) (hl : L.length ≤ 12) (hm : M.length = L.length) (hL : 0 < L.length → ∃ b1 o1, a1 = some ⟨b1, o1, none⟩ ∧ SpotsAt w b1 o1 L) (hM : 0 < M.length → ∃ b2 o2, a2 = some ⟨b2, o2, none⟩ ∧ SpotsAt w b2 o2 M)
    (h : Hid (∀ k (h1 : k < L.length) (h2 : k < M.length), k < kk → Cnt L[k] (f k) ∧ Cnt M[k] (g k))) (hkk : kk ≤ L.length) (hbad : Hid (∀ (h1 : kk < L.length) (h2 : kk < M.length), ∀ w : World, FarAt w → Calls Tryd.prog 87 #[spV L[kk], spV M[kk]] w fun e w' => e = .returned (.iface 118 (.int .i64 E)) ∧ Below w.heap.size w w'))
    (hR0 : Hid (kk < L.length → R = .tuple #[.agg #[.int .i64 0, .int .i64 0], .iface 118 (.int .i64 E)])) (hR1 : Hid (kk = L.length → R = .tuple #[twR (zp (prodN (fun k => f k * g k) L.length)), .nilIface])) :
    Calls Tryd.prog 24 #[.slice a1 L.length c1, .slice a2 M.length c2] w fun e w' => e = .returned R ∧ Below w.heap.size w w' := by
  have hF' := Lib.hid hF
  have hO' := Lib.hid hO
  have hL' := Lib.hid hL
  have hM' := Lib.hid hM
  have hm' := Lib.hid hm
  have hd : decide ((12 : Int) < (L.length : Int)) = false := by rw [decide_eq_false_iff_not]; omega
  have hz0 := Lib.hid zp_zero
  obtain ⟨q0, q1, ql⟩ := hO
  have q2 : 0 < w.heap.size := Nat.lt_of_le_of_lt (Nat.zero_le _) ql
  clear hF hL hM
  rw [hm]
  clear hm
  go_enter Tryd.func24, Tryd.ntmps24
  go_wp2
  have t0 : TwAt ((w.alloc (.cells #[.int .i64 0, .int .i64 0] 40)).alloc (.cells #[.int .i64 1, .int .i64 0] 40)) w.heap.size ⟨0, 0⟩ := TwAt.zero_of (by go_simp) (by go_simp) (by go_simp) (by go_simp) (by simp; omega)
  have t1 : TwAt ((w.alloc (.cells #[.int .i64 0, .int .i64 0] 40)).alloc (.cells #[.int .i64 1, .int .i64 0] 40)) (w.heap.size + 1) .one := TwAt.one_of (by go_simp) (by go_simp) (by go_simp) (by go_simp) (by simp)
  have tb := balloc (below_alloc w (.cells #[.int .i64 0, .int .i64 0] 40)) (.cells #[.int .i64 1, .int .i64 0] 40)
  have t0 := Lib.hid t0
  have t1 := Lib.hid t1
  have tb := Lib.hid tb
  clear q0 q1 ql q2 hd
  generalize (w.alloc (.cells #[.int .i64 0, .int .i64 0] 40)).alloc (.cells #[.int .i64 1, .int .i64 0] 40) = w0 at *
  go_loopw [33] (fun i wr => ∃ n : Nat, n ≤ L.length ∧ n ≤ kk ∧ i = .int .i64 n ∧ TwAt wr w.heap.size ⟨0, 0⟩ ∧ TwAt wr (w.heap.size + 1) (zp (prodN (fun k => f k * g k) n)) ∧ Below w.heap.size w wr) (fun i _ => L.length - (intOf i).toNat)
  case atStart => exact ⟨0, Nat.zero_le _, Nat.zero_le _, rfl, t0.out, (by show TwAt w0 _ (zp 0); rw [hz0.out]; exact t1.out), tb.out⟩
  case round =>
    clear t0 t1 tb
    obtain ⟨n, hn, hnk, rfl, hr, ho, hB⟩ := hrel
    replace hr := Lib.hid hr
    replace ho := Lib.hid ho
    by_cases hlt : n < L.length
    · have hlt2 : n < M.length := by rw [hm'.out]; exact hlt
      obtain ⟨b1, o1, rfl, hsL0⟩ := hL'.out (by omega)
      obtain ⟨b2, o2, rfl, hsM0⟩ := hM'.out (by omega)
      have hsL := hsL0.below hB
      have hsM := hsM0.below hB
      have hgood := Lib.hid (h.out n hlt hlt2)
      have hbadn : Hid (n = kk → ∀ w : World, FarAt w → Calls Tryd.prog 87 #[spV L[n], spV M[n]] w fun e w' => e = .returned (.iface 118 (.int .i64 E)) ∧ Below w.heap.size w w') := Lib.hid (fun e => by subst e; exact hbad.out hlt hlt2)
      have l1 := hsL.cx n hlt
      have l2 := hsL.cy n hlt
      have l3 := hsL.cf n hlt
      have m1 := hsM.cx n hlt2
      have m2 := hsM.cy n hlt2
      have m3 := hsM.cf n hlt2
      have ml := hsM.lt
      clear hsL hsM hsL0 hsM0 hbad h
      generalize hA : L[n] = A at *
      generalize hC : M[n] = C at *
      clear hA hC
      by_cases hlk : n < kk
      · have hc := Lib.hid (hgood.out hlk)
        clear hgood hbadn hR0 hR1
        have hB1 := Lib.hid hB
        go_upto_region 9 with fail
        go_cut [9, 10] from 38 to 54 (fun s9 s10 wx => ∃ k : Nat, s9 = .pointer (some ⟨k, 0, none⟩) ∧ s10 = .nilIface ∧ TwAt wx k (zp (f n * g n)) ∧ TwAt wx w.heap.size ⟨0, 0⟩ ∧ TwAt wx (w.heap.size + 1) (zp (prodN (fun k => f k * g k) n)) ∧ Below w.heap.size w wx ∧ w.heap.size + 1 < k)
        case first =>
          have hrl := hr.out.lt
          have hol := ho.out.lt
          go_region_with (first | (go_at_call 20; refine (pair_e A C (f n) (g n) _ _ (hF'.out.below (by repeat (first | exact hB1.out | refine balloc ?_ _ | refine Below.drew ?_))) (hO'.out.below (by repeat (first | exact hB1.out | refine balloc ?_ _ | refine Below.drew ?_))) hc.out.1 hc.out.2 rfl).mono ?_; rintro e w1 ⟨rfl, hb⟩; obtain ⟨hcc, hff⟩ := bcell hb))
          all_goals
            go_wp2_with fail
            go_meet
            have hbA : Below wr.heap.size wr w1 := below_seq (by repeat (first | exact Below.refl _ _ | refine balloc ?_ _ | refine Below.drew ?_)) hb
            have hB2 := below_seq hB1.out hbA
            have hr1 := hr.out.below hbA
            have ho1 := ho.out.below hbA
            have hsz := hbA.size
            first
            | exact ⟨_, rfl, rfl, TwAt.fresh _ _ _, hr1.below (below_alloc _ _), ho1.below (below_alloc _ _), balloc hB2 _, by omega⟩
            | exact ⟨_, rfl, rfl, ((TwAt.zero_of (by go_simp) (by go_simp) (by go_simp) (by go_simp) (by simp)).below hb).set2 _, (hr1.other _ (by omega)).other _ (by omega), (ho1.other _ (by omega)).other _ (by omega), set2_below hB2 (by omega), by omega⟩
        case rest =>
          clear hr ho hB1 hB l1 l2 l3 m1 m2 m3 ml
          obtain ⟨k, rfl, rfl, hk, hr, ho, hB, hlk⟩ := hcut
          have hkl := hk.lt
          have hol := ho.lt
          replace hr := Lib.hid hr
          replace hk := Lib.hid hk
          replace ho := Lib.hid ho
          obtain ⟨k0, k1, kf0, kf1, -⟩ := hk.out
          obtain ⟨o0, o1, of0, of1, -⟩ := ho.out
          have hm := Lib.hid (prod_next f g n)
          generalize hP : zp (f n * g n) = P at *
          generalize hQ : zp (prodN (fun k => f k * g k) n) = Q at *
          clear hP hQ
          go_wp2_with fail
          refine (mul_e Q P _ _ hm).mono ?_; rintro e w2 ⟨rfl, hb⟩
          have hr2 := hr.out.below hb
          have ho2 := ho.out.below hb
          have hB2 := below_seq hB hb
          have hz2 := hb.size
          have ho2' := Lib.hid ho2
          obtain ⟨p0, p1, pf0, pf1, pl⟩ := ho2
          clear hb o0 o1 of0 of1 k0 k1 kf0 kf1 hk ho
          generalize hV : zp (prodN (fun k => f k * g k) (n + 1)) = V at *
          replace hV := Lib.hid hV
          go_wp2
          go_roundw
          case rel => exact ⟨n + 1, by omega, by omega, by go_num, (hr2.other _ (by omega)).other _ (by omega), by rw [hV.out]; exact ho2'.out.set2 _, set2_below hB2 (by omega)⟩
          case measure => simp [intOf]; omega
      · obtain rfl : n = kk := by omega
        have hre := hbadn.out rfl
        have hR := hR0.out hlt
        have hpn := Lib.hid (fun (w1 : World) hF1 => pair_n A C E w1 (Lib.hid fun w2 hb2 => hre w2 (FarAt.below hF1 hb2)))
        clear hgood hbadn hre hR0 hR1
        have hB1 := Lib.hid hB
        go_upto_region 9 with fail
        go_cut [9, 10] from 38 to 54 (fun s9 s10 wx => s10 = .iface 118 (.int .i64 E) ∧ TwAt wx w.heap.size ⟨0, 0⟩ ∧ Below w.heap.size w wx)
        case first =>
          have hrl := hr.out.lt
          have hol := ho.out.lt
          go_region_with (first | (go_at_call 20; refine (hpn.out _ (hF'.out.below (by repeat (first | exact hB1.out | refine balloc ?_ _ | refine Below.drew ?_)))).mono ?_; rintro e w1 ⟨rfl, hb⟩; obtain ⟨hcc, hff⟩ := bcell hb))
          all_goals
            go_wp2_with fail
            go_meet
            have hbA : Below wr.heap.size wr w1 := below_seq (by repeat (first | exact Below.refl _ _ | refine balloc ?_ _ | refine Below.drew ?_)) hb
            have hB2 := below_seq hB1.out hbA
            have hr1 := hr.out.below hbA
            have hsz := hbA.size
            first
            | exact ⟨rfl, hr1.below (below_alloc _ _), balloc hB2 _⟩
            | exact ⟨rfl, (hr1.other _ (by omega)).other _ (by omega), set2_below hB2 (by omega)⟩
        case rest =>
          clear hr ho hB1 hB l1 l2 l3 m1 m2 m3 ml
          obtain ⟨rfl, hr, hB⟩ := hcut
          obtain ⟨r0, r1, rf0, rf1, rl⟩ := hr
          go_wp2
          have k := set2_cell (w := wc) (x := .int .i64 0) (y := .int .i64 0) r0 r1
          refine bodyPost_ret (v := .tuple #[.agg #[.int .i64 0, .int .i64 0], .iface 118 (.int .i64 E)]) (by simp [results, Tryd.results24, go_sem, k.1, k.2]) rfl ⟨by first | rfl | rw [hR], set2_below hB (by omega)⟩
    · have hn2 : n = L.length := by omega
      have ho2 := ho.out
      rw [hn2] at ho2
      obtain ⟨r0, r1, rf0, rf1, rl⟩ := hr.out
      obtain ⟨p0, p1, pf0, pf1, pl⟩ := ho2
      generalize hV : zp (prodN (fun k => f k * g k) L.length) = V at *
      go_wp2
      have k := set2_cell (w := wr) (x := .int .i64 (fz V.re)) (y := .int .i64 (fz V.im)) r0 r1
      refine bodyPost_ret (v := .tuple #[twR V, .nilIface]) (by simp [results, Tryd.results24, go_sem, k.1, k.2]) rfl ⟨by rw [hR1.out (by omega)], set2_below hB (by omega)⟩
set_option maxHeartbeats 2000000 in
theorem product_full1 (n m : Nat) (a1 a2 : Option Addr) (c1 c2 : Nat) (w : World) (h : 12 < n) (hn : n ≤ 9223372036854775807) (hm : m ≤ 9223372036854775807) :
    Calls Tryd.prog 24 #[.slice a1 n c1, .slice a2 m c2] w fun e w' => e = .returned (.tuple #[.agg #[.int .i64 0, .int .i64 0], .iface 118 (.int .i64 4)]) ∧ Below w.heap.size w w' := by
  go_enter Tryd.func24, Tryd.ntmps24
  go_wp2
  refine bodyPost_ret (v := .tuple #[.agg #[.int .i64 0, .int .i64 0], .iface 118 (.int .i64 4)]) (by simp [results, Tryd.results24, go_sem]) rfl ⟨rfl, below_alloc _ _⟩
set_option maxHeartbeats 2000000 in
theorem product_full2 (n m : Nat) (a1 a2 : Option Addr) (c1 c2 : Nat) (w : World) (h0 : n ≤ 12) (h : 12 < m) (hm : m ≤ 9223372036854775807) :
    Calls Tryd.prog 24 #[.slice a1 n c1, .slice a2 m c2] w fun e w' => e = .returned (.tuple #[.agg #[.int .i64 0, .int .i64 0], .iface 118 (.int .i64 4)]) ∧ Below w.heap.size w w' := by
  have g1 : decide ((12 : Int) < (n : Int)) = false := by rw [decide_eq_false_iff_not]; omega
  go_enter Tryd.func24, Tryd.ntmps24
  go_wp2
  refine bodyPost_ret (v := .tuple #[.agg #[.int .i64 0, .int .i64 0], .iface 118 (.int .i64 4)]) (by simp [results, Tryd.results24, go_sem]) rfl ⟨rfl, below_alloc _ _⟩
set_option maxHeartbeats 2000000 in
theorem product_shape (n m : Nat) (a1 a2 : Option Addr) (c1 c2 : Nat) (w : World) (h0 : n ≤ 12) (h1 : m ≤ 12) (hne : n ≠ m) :
    Calls Tryd.prog 24 #[.slice a1 n c1, .slice a2 m c2] w fun e w' => e = .returned (.tuple #[.agg #[.int .i64 0, .int .i64 0], .iface 118 (.int .i64 3)]) ∧ Below w.heap.size w w' := by
  have g1 : decide ((12 : Int) < (n : Int)) = false := by rw [decide_eq_false_iff_not]; omega
  have g2 : decide ((12 : Int) < (m : Int)) = false := by rw [decide_eq_false_iff_not]; omega
  have g3 : ((n : Int) != (m : Int)) = true := by rw [bne_iff_ne]; omega
  go_enter Tryd.func24, Tryd.ntmps24
  go_wp2
  refine bodyPost_ret (v := .tuple #[.agg #[.int .i64 0, .int .i64 0], .iface 118 (.int .i64 3)]) (by simp [results, Tryd.results24, go_sem]) rfl ⟨rfl, below_alloc _ _⟩
end Go.Proofs.YtfnifdmnbccblaaDoor
namespace Go.Proofs.YtfnifdmnbccblaaDoor
open Go.RowKit
set_option maxRecDepth 100000
set_option linter.unusedVariables false
set_option linter.unusedSimpArgs false
theorem hashSpot_e (t : ByteArray) (H : Sp) (w : World) (hF : FarAt w) (hs : t.size ≤ 140737488351232) (h : Hid (hSpot t.data.toList = H)) : Calls Tryd.prog 15 #[.string t] w fun e w' => e = .returned (spV H) ∧ Below w.heap.size w w' := by
  have := hashSpot_c t w hF hs; rw [h.out] at this; exact this
set_option maxHeartbeats 1000000 in
theorem short_y (x j : Int) (t : ByteArray) (H S : Sp) (w : World) (hF : FarAt w) (x1 : 1 ≤ x) (x2 : x < 1013) (hz : t.size ≤ 60) (hH : Hid (hSpot t.data.toList = H)) (hu : Hid (H = sq (4 * j))) (hS : Hid (sq (4 * j * x) = S)) : Calls Tryd.prog 13 #[.int .i64 x, .string t] w fun e w' => e = .returned (.tuple #[spV S, .nilIface]) ∧ Below w.heap.size w w' := by
  go_enter Tryd.func13, Tryd.ntmps13
  go_wp2_with fail
  refine (secret_y x _ x1 x2).mono ?_; rintro e w' ⟨rfl, rfl⟩
  go_wp2_with fail
  refine (text_y t _ hz).mono ?_; rintro e w' ⟨rfl, rfl⟩
  go_wp2_with fail
  refine (hashSpot_e t H _ (hF.below (by repeat (first | exact Below.refl _ _ | refine balloc ?_ _ | refine Below.drew ?_ | refine below_drewN ?_ _ | refine below_set ?_ (by first | omega | (dsimp only; omega)) _))) (by omega) hH).mono ?_; rintro e w1 ⟨rfl, hb⟩
  obtain ⟨hc1, hf1⟩ := bcell hb
  have z1 := hb.size
  try simp only [World.size_alloc, World.size_setCell, World.size_drew] at z1
  have s1_0 : w.heap.size < w1.heap.size := by omega
  have hB1 : Below w.heap.size w w1 := below_seq (by repeat (first | exact Below.refl _ _ | refine balloc ?_ _ | refine Below.drew ?_ | refine below_drewN ?_ _ | refine below_set ?_ (by first | omega | (dsimp only; omega)) _)) hb
  clear hb
  go_wp2_with fail
  refine (of_e H S (4 * j) x _ (hF.below (by repeat (first | exact hB1 | exact Below.refl _ _ | refine balloc ?_ _ | refine Below.drew ?_ | refine below_drewN ?_ _ | refine below_set ?_ (by first | omega | (dsimp only; omega)) _))) hu hS).mono ?_; rintro e w2 ⟨rfl, hb⟩
  obtain ⟨hc2, hf2⟩ := bcell hb
  have z2 := hb.size
  try simp only [World.size_alloc, World.size_setCell, World.size_drew] at z2
  have s2_0 : w.heap.size < w2.heap.size := by omega
  have hB2 : Below w.heap.size w w2 := below_seq (by repeat (first | exact hB1 | exact Below.refl _ _ | refine balloc ?_ _ | refine Below.drew ?_ | refine below_drewN ?_ _ | refine below_set ?_ (by first | omega | (dsimp only; omega)) _)) hb
  clear hb
  have r0 : w2.cell? ⟨w.heap.size, 0, none⟩ = some (.int .i64 0) := by go_simp
  have r1 : w2.cell? ⟨w.heap.size, 1, none⟩ = some (.int .i64 0) := by go_simp
  have r2 : w2.cell? ⟨w.heap.size, 2, none⟩ = some (.bool false) := by go_simp
  go_wp2
  have k := set3_cell (w := w2) (x := .int .i64 (S).x) (y := .int .i64 (S).y) (z := .bool (S).far) r0 r1 r2
  refine bodyPost_ret (v := .tuple #[spV (S), .nilIface]) (by simp [results, Tryd.results13, go_sem, k.1, k.2.1, k.2.2]) rfl ⟨rfl, set3_below (by repeat (first | exact hB2 | exact Below.refl _ _ | refine balloc ?_ _ | refine Below.drew ?_ | refine below_drewN ?_ _ | refine below_set ?_ (by first | omega | (dsimp only; omega)) _)) (by omega)⟩
set_option maxHeartbeats 1000000 in
theorem short_n1 (x : Int) (t : ByteArray) (w : World) (h : ¬ (1 ≤ x ∧ x < 1013)) : Calls Tryd.prog 13 #[.int .i64 x, .string t] w fun e w' => e = .returned (.tuple #[spV ⟨0, 0, false⟩, .iface 118 (.int .i64 1)]) ∧ Below w.heap.size w w' := by
  go_enter Tryd.func13, Tryd.ntmps13
  go_wp2_with fail
  refine (secret_n x _ h).mono ?_; rintro e w' ⟨rfl, rfl⟩
  go_wp2
  refine bodyPost_ret (v := .tuple #[spV ⟨0, 0, false⟩, .iface 118 (.int .i64 1)]) (by simp [results, Tryd.results13, go_sem]) rfl ⟨rfl, (by repeat (first | exact Below.refl _ _ | refine balloc ?_ _ | refine Below.drew ?_ | refine below_drewN ?_ _ | refine below_set ?_ (by first | omega | (dsimp only; omega)) _))⟩
set_option maxHeartbeats 1000000 in
theorem short_n2 (x : Int) (t : ByteArray) (w : World) (x1 : 1 ≤ x) (x2 : x < 1013) (h : 60 < t.size) (hz : t.size ≤ 140737488351232) : Calls Tryd.prog 13 #[.int .i64 x, .string t] w fun e w' => e = .returned (.tuple #[spV ⟨0, 0, false⟩, .iface 118 (.int .i64 4)]) ∧ Below w.heap.size w w' := by
  go_enter Tryd.func13, Tryd.ntmps13
  go_wp2_with fail
  refine (secret_y x _ x1 x2).mono ?_; rintro e w' ⟨rfl, rfl⟩
  go_wp2_with fail
  refine (text_n t _ h hz).mono ?_; rintro e w' ⟨rfl, rfl⟩
  go_wp2
  refine bodyPost_ret (v := .tuple #[spV ⟨0, 0, false⟩, .iface 118 (.int .i64 4)]) (by simp [results, Tryd.results13, go_sem]) rfl ⟨rfl, (by repeat (first | exact Below.refl _ _ | refine balloc ?_ _ | refine Below.drew ?_ | refine below_drewN ?_ _ | refine below_set ?_ (by first | omega | (dsimp only; omega)) _))⟩
/-- A short seal, whatever comes of it. -/
def ShortIs (x : Int) (t : ByteArray) (S : Sp) (E : Value) : Prop := ∀ w : World, FarAt w → Calls Tryd.prog 13 #[.int .i64 x, .string t] w fun e w' => e = .returned (.tuple #[spV S, E]) ∧ Below w.heap.size w w'
theorem short_n (x : Int) (t : ByteArray) (hz : t.size ≤ 140737488351232) (h : ¬ (1 ≤ x ∧ x < 1013 ∧ t.size ≤ 60)) : ∃ E : Int, ShortIs x t ⟨0, 0, false⟩ (.iface 118 (.int .i64 E)) := by
  by_cases hx : 1 ≤ x ∧ x < 1013
  · exact ⟨4, fun w _ => short_n2 x t w hx.1 hx.2 (by omega) hz⟩
  · exact ⟨1, fun w _ => short_n1 x t w hx⟩
theorem short_is (x : Int) (t : ByteArray) (hz : t.size ≤ 140737488351232) : (∃ S E, ShortIs x t S E) := by
  by_cases h : 1 ≤ x ∧ x < 1013 ∧ t.size ≤ 60
  · obtain ⟨j, j1, j2, e⟩ := hSpot_four t.data.toList
    exact ⟨_, _, fun w hF => short_y x j t _ _ w hF h.1 h.2.1 h.2.2 rfl e rfl⟩
  · obtain ⟨E, hE⟩ := short_n x t hz h
    exact ⟨_, _, hE⟩
end Go.Proofs.YtfnifdmnbccblaaDoor
namespace Go.Proofs.YtfnifdmnbccblaaDoor
open Go.RowKit
set_option maxRecDepth 100000
set_option linter.unusedVariables false
set_option linter.unusedSimpArgs false
set_option maxHeartbeats 2000000 in
theorem shortVerify_y (key sig H : Sp) (j s k : Int) (z : Z) (t : ByteArray) (w : World) (hF : FarAt w) (hO : OneAt w) (hz : t.size ≤ 60) (hH : Hid (hSpot t.data.toList = H)) (cH : Hid (Cnt H j)) (cS : Hid (Cnt sig s)) (cK : Hid (Cnt key k)) (cG : Hid (Cnt ⟨1189, 3667, false⟩ 1)) (h1 : Hid (zp (s * 1) = z)) (h2 : Hid (zp (j * k) = z)) : Calls Tryd.prog 14 #[spV key, .string t, spV sig] w fun e w' => e = .returned (.tuple #[.bool true, .nilIface]) ∧ Below w.heap.size w w' := by
  go_enter Tryd.func14, Tryd.ntmps14
  go_wp2_with fail
  refine (text_y t _ hz).mono ?_; rintro e w' ⟨rfl, rfl⟩
  go_wp2_with fail
  refine wp_region_grow Tryd.mixed (by kernel_rfl) ?_
  repeat (quiet_step ((first | (go_at_call 79; exact grow_of (base_k _ (hF.below (below_seq (by repeat (first | exact Below.refl _ _ | refine balloc ?_ _ | refine Below.drew ?_ | refine below_drewN ?_ _ | refine below_set ?_ (by first | omega | (dsimp only; omega)) _)) (Grew.h _))))) | (go_at_call 15; exact grow_of (hashSpot_e t H _ (hF.below (below_seq (by repeat (first | exact Below.refl _ _ | refine balloc ?_ _ | refine Below.drew ?_ | refine below_drewN ?_ _ | refine below_set ?_ (by first | omega | (dsimp only; omega)) _)) (Grew.h _))) (by omega) hH)) | (go_at_call 22; exact grow_of (same_y sig ⟨1189, 3667, false⟩ H key s 1 j k z _ (hF.below (below_seq (by repeat (first | exact Below.refl _ _ | refine balloc ?_ _ | refine Below.drew ?_ | refine below_drewN ?_ _ | refine below_set ?_ (by first | omega | (dsimp only; omega)) _)) (Grew.h _))) (hO.below (below_seq (by repeat (first | exact Below.refl _ _ | refine balloc ?_ _ | refine Below.drew ?_ | refine below_drewN ?_ _ | refine below_set ?_ (by first | omega | (dsimp only; omega)) _)) (Grew.h _))) cS cG cH cK h1 h2)))))
  refine wpQuiet_nil ?_
  intro _ hw'
  obtain ⟨x1, rfl⟩ := hw'
  have z1 := x1.h.size
  try simp only [World.size_alloc, World.size_setCell, World.size_drew] at z1
  have s1_0 : w.heap.size < x1.w.heap.size := by omega
  have s1_1 : w.heap.size + 1 < x1.w.heap.size := by omega
  have hB1 : Below w.heap.size w x1.w := below_seq (by repeat (first | exact Below.refl _ _ | refine balloc ?_ _ | refine Below.drew ?_ | refine below_drewN ?_ _ | refine below_set ?_ (by first | omega | (dsimp only; omega)) _)) x1.h
  go_wp2
  go_ret2
  exact ⟨rfl, (by repeat (first | exact hB1 | exact Below.refl _ _ | refine balloc ?_ _ | refine Below.drew ?_ | refine below_drewN ?_ _ | refine below_set ?_ (by first | omega | (dsimp only; omega)) _))⟩
/-- Sums, as far as the first n. -/
def sumF (f : Nat → Int) : Nat → Int
  | 0 => 0
  | k+1 => sumF f k + f k
set_option maxHeartbeats 1000000 in
theorem join_nil (a : Option Addr) (cap : Nat) (w : World) (hF : FarAt w) : Calls Tryd.prog 16 #[.slice a 0 cap] w fun e w' => e = .returned (.tuple #[spV ⟨0, 0, true⟩, .nilIface]) ∧ Below w.heap.size w w' := by
  obtain ⟨q0, q1, q2, ql⟩ := hF
  go_enter Tryd.func16, Tryd.ntmps16
  go_wp2
  refine wp_loop_rounds 1 ?_
  rw [rounds_succ]
  go_wp2
  refine bodyPost_ret (v := .tuple #[spV ⟨0, 0, true⟩, .nilIface]) (by simp [results, Tryd.results16, go_sem]) rfl ⟨rfl, ?_⟩
  repeat (first | exact Below.refl _ _ | refine balloc ?_ _ | refine Below.drew ?_ | refine below_set ?_ (by simp) _)
set_option maxHeartbeats 4000000 in
theorem join_y (L : List Sp) (f : Nat → Int) (b o c : Nat) (w : World) (hF : FarAt w) (hl : L.length ≤ 12) (hL : SpotsAt w b o L) (h : Hid (∀ k (h1 : k < L.length), L[k] = sq (f k))) :
    Calls Tryd.prog 16 #[.slice (some ⟨b, o, none⟩) L.length c] w fun e w' => e = .returned (.tuple #[spV (sq (sumF f L.length)), .nilIface]) ∧ Below w.heap.size w w' := by
  have hF' := Lib.hid hF
  have hL' := Lib.hid hL
  have hd : decide ((12 : Int) < (L.length : Int)) = false := by rw [decide_eq_false_iff_not]; omega
  obtain ⟨q0, q1, q2, ql⟩ := hF
  clear hL
  go_enter Tryd.func16, Tryd.ntmps16
  go_wp2
  have t0 : SpAt ((w.alloc (.cells #[.int .i64 0, .int .i64 0, .bool false] 25)).alloc (.cells #[.int .i64 0, .int .i64 0, .bool true] 25)) w.heap.size ⟨0, 0, false⟩ := (SpAt.fresh _ _ _ _ _).alloc _
  have t1 : SpAt ((w.alloc (.cells #[.int .i64 0, .int .i64 0, .bool false] 25)).alloc (.cells #[.int .i64 0, .int .i64 0, .bool true] 25)) (w.heap.size + 1) ⟨0, 0, true⟩ := SpAt.fresh1 _ _ _ _ _ _
  have tb := balloc (below_alloc w (.cells #[.int .i64 0, .int .i64 0, .bool false] 25)) (.cells #[.int .i64 0, .int .i64 0, .bool true] 25)
  replace t0 := Lib.hid t0
  replace t1 := Lib.hid t1
  replace tb := Lib.hid tb
  clear q0 q1 q2 ql hd
  generalize (w.alloc (.cells #[.int .i64 0, .int .i64 0, .bool false] 25)).alloc (.cells #[.int .i64 0, .int .i64 0, .bool true] 25) = w0 at *
  go_loopw [16] (fun i wr => ∃ n : Nat, n ≤ L.length ∧ i = .int .i64 n ∧ SpAt wr w.heap.size ⟨0, 0, false⟩ ∧ SpAt wr (w.heap.size + 1) (sq (sumF f n)) ∧ Below w.heap.size w wr) (fun i _ => L.length - (intOf i).toNat)
  case atStart => exact ⟨0, Nat.zero_le _, rfl, t0.out, (by show SpAt w0 _ (sq 0); rw [sq_zero]; exact t1.out), tb.out⟩
  case round =>
    clear t0 t1 tb
    obtain ⟨n, hn, rfl, hr, ho, hB⟩ := hrel
    have hol := ho.lt
    have hrl := hr.lt
    replace hr := Lib.hid hr
    replace ho := Lib.hid ho
    by_cases hlt : n < L.length
    · have hsL := hL'.out.below hB
      have l1 := hsL.cx n hlt
      have l2 := hsL.cy n hlt
      have l3 := hsL.cf n hlt
      have oA : Ok L[n] := by rw [h.out n hlt]; exact sq_ok _
      have hs : Hid (sSum (sq (sumF f n)) L[n] = sq (sumF f (n + 1))) := by show _ = _; rw [h.out n hlt, sq_add]; rfl
      clear hsL
      generalize hA : L[n] = A at *
      clear hA
      go_wp2_with fail
      refine (check_ok A _ (hF'.out.below (balloc hB _)) oA).mono ?_; rintro e w1 ⟨rfl, hb⟩
      have hB1 := below_seq (balloc hB _) hb
      have hr1 := (hr.out.alloc _).below hb
      have ho1 := (ho.out.alloc _).below hb
      have ha1 := (SpAt.fresh wr A.x A.y A.far 25).below hb
      obtain ⟨a0, a1, a2, -, -, -, al⟩ := ha1
      have hz := hb.size
      have ho1' := Lib.hid ho1
      have hr1' := Lib.hid hr1
      obtain ⟨o0, o1, o2, of0, of1, of2, ol⟩ := ho1
      clear hr ho hB hb hr1 l1 l2 l3
      have oS : Ok (sq (sumF f n)) := sq_ok _
      generalize hS : sq (sumF f n) = S at *
      go_wp2_with fail
      refine (sum_e S A _ _ (hF'.out.below hB1) oS oA hs).mono ?_; rintro e w2 ⟨rfl, hb⟩
      have hB2 := below_seq hB1 hb
      have hr2 := hr1'.out.below hb
      have ho2 := ho1'.out.below hb
      have ho2' := Lib.hid ho2
      clear a0 a1 a2 al o0 o1 o2 of0 of1 of2 hb
      obtain ⟨o0, o1, o2, of0, of1, of2, ol2⟩ := ho2
      generalize hV : sq (sumF f (n + 1)) = V at *
      replace hV := Lib.hid hV
      go_wp2
      go_roundw
      case rel => exact ⟨n + 1, by omega, by go_num, hr2.set3o (by omega) _ _ _, by rw [hV.out]; exact ho2'.out.set3 _, set3_below hB2 (by omega)⟩
      case measure => simp [intOf]; omega
    · have hn2 : n = L.length := by omega
      have ho2 := ho.out
      rw [hn2] at ho2
      obtain ⟨r0, r1, r2, rf0, rf1, rf2, rl⟩ := hr.out
      obtain ⟨p0, p1, p2, pf0, pf1, pf2, pl⟩ := ho2
      generalize hV : sq (sumF f L.length) = V at *
      go_wp2
      have k := set3_cell (w := wr) (x := .int .i64 V.x) (y := .int .i64 V.y) (z := .bool V.far) r0 r1 r2
      refine bodyPost_ret (v := .tuple #[spV V, .nilIface]) (by simp [results, Tryd.results16, go_sem, k.1, k.2.1, k.2.2]) rfl ⟨rfl, set3_below hB (by omega)⟩
theorem join_e (L : List Sp) (f : Nat → Int) (b o c : Nat) (S : Sp) (w : World) (hF : FarAt w) (hl : L.length ≤ 12) (hL : SpotsAt w b o L) (h : Hid (∀ k (h1 : k < L.length), L[k] = sq (f k))) (hS : Hid (sq (sumF f L.length) = S)) :
    Calls Tryd.prog 16 #[.slice (some ⟨b, o, none⟩) L.length c] w fun e w' => e = .returned (.tuple #[spV S, .nilIface]) ∧ Below w.heap.size w w' := by
  have := join_y L f b o c w hF hl hL h; rw [hS.out] at this; exact this
end Go.Proofs.YtfnifdmnbccblaaDoor
namespace Go.Proofs.YtfnifdmnbccblaaDoor
open Go.RowKit
set_option maxRecDepth 100000
set_option linter.unusedVariables false
set_option linter.unusedSimpArgs false
set_option maxHeartbeats 1000000 in
theorem right_y (R : Sp) (S : Int) (w : World) (hF : FarAt w) (hR : Ok R) (s0 : 0 ≤ S) (s1 : S < 1013) : Calls Tryd.prog 99 #[slV R S] w fun e w' => e = .returned .nilIface ∧ Below w.heap.size w w' := by
  go_enter Tryd.func99, Tryd.ntmps99
  go_wp2_with fail
  refine (check_ok R _ (hF.below (by repeat (first | exact Below.refl _ _ | refine balloc ?_ _ | refine Below.drew ?_ | refine below_drewN ?_ _ | refine below_set ?_ (by first | omega | (dsimp only; omega)) _))) hR).mono ?_; rintro e w1 ⟨rfl, hb⟩
  obtain ⟨hc1, hf1⟩ := bcell hb
  have z1 := hb.size
  try simp only [World.size_alloc, World.size_setCell, World.size_drew] at z1
  have s1_0 : w.heap.size < w1.heap.size := by omega
  have hB1 : Below w.heap.size w w1 := below_seq (by repeat (first | exact Below.refl _ _ | refine balloc ?_ _ | refine Below.drew ?_ | refine below_drewN ?_ _ | refine below_set ?_ (by first | omega | (dsimp only; omega)) _)) hb
  clear hb
  go_wp2_with fail
  refine (rest_y S _ s0 s1).mono ?_; rintro e w' ⟨rfl, rfl⟩
  go_wp2
  go_ret
  exact ⟨rfl, (by repeat (first | exact hB1 | exact Below.refl _ _ | refine balloc ?_ _ | refine Below.drew ?_ | refine below_drewN ?_ _ | refine below_set ?_ (by first | omega | (dsimp only; omega)) _))⟩
set_option maxHeartbeats 1000000 in
theorem fill_y (R : Sp) (S t T : Int) (w : World) (hF : FarAt w) (hR : Ok R) (s0 : 0 ≤ S) (s1 : S < 1013) (t0 : 0 ≤ t) (t1 : t < 1013) (hT : (S + t) % 1013 = T) : Calls Tryd.prog 41 #[slV R S, .int .i64 t] w fun e w' => e = .returned (.tuple #[slV R T, .nilIface]) ∧ Below w.heap.size w w' := by
  subst hT
  go_enter Tryd.func41, Tryd.ntmps41
  go_wp2_with fail
  refine (right_y R S _ (hF.below (by repeat (first | exact Below.refl _ _ | refine balloc ?_ _ | refine Below.drew ?_ | refine below_drewN ?_ _ | refine below_set ?_ (by first | omega | (dsimp only; omega)) _))) hR s0 s1).mono ?_; rintro e w1 ⟨rfl, hb⟩
  obtain ⟨hc1, hf1⟩ := bcell hb
  have z1 := hb.size
  try simp only [World.size_alloc, World.size_setCell, World.size_drew] at z1
  have s1_0 : w.heap.size < w1.heap.size := by omega
  have s1_1 : w.heap.size + 1 < w1.heap.size := by omega
  have hB1 : Below w.heap.size w w1 := below_seq (by repeat (first | exact Below.refl _ _ | refine balloc ?_ _ | refine Below.drew ?_ | refine below_drewN ?_ _ | refine below_set ?_ (by first | omega | (dsimp only; omega)) _)) hb
  clear hb
  go_wp2_with fail
  refine (rest_y t _ t0 t1).mono ?_; rintro e w' ⟨rfl, rfl⟩
  have r0 : w1.cell? ⟨w.heap.size + 1, 0, none⟩ = some (.int .i64 0) := by go_simp
  have r1 : w1.cell? ⟨w.heap.size + 1, 1, none⟩ = some (.int .i64 0) := by go_simp
  have r2 : w1.cell? ⟨w.heap.size + 1, 2, none⟩ = some (.bool false) := by go_simp
  have r3 : w1.cell? ⟨w.heap.size + 1, 3, none⟩ = some (.int .i64 0) := by go_simp
  go_wp2
  have k := set4_cell (w := w1) (x := .int .i64 R.x) (y := .int .i64 R.y) (z := .bool R.far) (p := .int .i64 ((S + t) % 1013)) r0 r1 r2 r3
  refine bodyPost_ret (v := .tuple #[slV R ((S + t) % 1013), .nilIface]) (by simp [results, Tryd.results41, go_sem, k.1, k.2.1, k.2.2.1, k.2.2.2]) rfl ⟨rfl, set4_below (by repeat (first | exact hB1 | exact Below.refl _ _ | refine balloc ?_ _ | refine Below.drew ?_ | refine below_drewN ?_ _ | refine below_set ?_ (by first | omega | (dsimp only; omega)) _)) (by omega)⟩
set_option maxHeartbeats 1000000 in
theorem fill_n (R : Sp) (S t : Int) (w : World) (hF : FarAt w) (hR : Ok R) (s0 : 0 ≤ S) (s1 : S < 1013) (h : ¬ (0 ≤ t ∧ t < 1013)) : Calls Tryd.prog 41 #[slV R S, .int .i64 t] w fun e w' => e = .returned (.tuple #[slV ⟨0, 0, false⟩ 0, .iface 118 (.int .i64 1)]) ∧ Below w.heap.size w w' := by
  go_enter Tryd.func41, Tryd.ntmps41
  go_wp2_with fail
  refine (right_y R S _ (hF.below (by repeat (first | exact Below.refl _ _ | refine balloc ?_ _ | refine Below.drew ?_ | refine below_drewN ?_ _ | refine below_set ?_ (by first | omega | (dsimp only; omega)) _))) hR s0 s1).mono ?_; rintro e w1 ⟨rfl, hb⟩
  obtain ⟨hc1, hf1⟩ := bcell hb
  have z1 := hb.size
  try simp only [World.size_alloc, World.size_setCell, World.size_drew] at z1
  have s1_0 : w.heap.size < w1.heap.size := by omega
  have s1_1 : w.heap.size + 1 < w1.heap.size := by omega
  have hB1 : Below w.heap.size w w1 := below_seq (by repeat (first | exact Below.refl _ _ | refine balloc ?_ _ | refine Below.drew ?_ | refine below_drewN ?_ _ | refine below_set ?_ (by first | omega | (dsimp only; omega)) _)) hb
  clear hb
  go_wp2_with fail
  refine (rest_n t _ h).mono ?_; rintro e w' ⟨rfl, rfl⟩
  have r0 : w1.cell? ⟨w.heap.size + 1, 0, none⟩ = some (.int .i64 0) := by go_simp
  have r1 : w1.cell? ⟨w.heap.size + 1, 1, none⟩ = some (.int .i64 0) := by go_simp
  have r2 : w1.cell? ⟨w.heap.size + 1, 2, none⟩ = some (.bool false) := by go_simp
  have r3 : w1.cell? ⟨w.heap.size + 1, 3, none⟩ = some (.int .i64 0) := by go_simp
  go_wp2
  have k := set4_cell (w := w1) (x := .int .i64 0) (y := .int .i64 0) (z := .bool false) (p := .int .i64 0) r0 r1 r2 r3
  refine bodyPost_ret (v := .tuple #[slV ⟨0, 0, false⟩ 0, .iface 118 (.int .i64 1)]) (by simp [results, Tryd.results41, go_sem, k.1, k.2.1, k.2.2.1, k.2.2.2]) rfl ⟨rfl, set4_below (by repeat (first | exact hB1 | exact Below.refl _ _ | refine balloc ?_ _ | refine Below.drew ?_ | refine below_drewN ?_ _ | refine below_set ?_ (by first | omega | (dsimp only; omega)) _)) (by omega)⟩
set_option maxHeartbeats 1000000 in
theorem find2_y (R : Sp) (S T n : Int) (w : World) (hF : FarAt w) (hR : Ok R) (s0 : 0 ≤ S) (s1 : S < 1013) (t0 : 0 ≤ T) (t1 : T < 1013) (hn : (T - S + 1013) % 1013 = n) : Calls Tryd.prog 43 #[slV R S, slV R T] w fun e w' => e = .returned (.tuple #[.int .i64 n, .nilIface]) ∧ Below w.heap.size w w' := by
  subst hn
  go_enter Tryd.func43, Tryd.ntmps43
  go_wp2_with fail
  refine (all_ok [R, R] _ 0 2 _ (hF.below (by repeat (first | exact Below.refl _ _ | refine balloc ?_ _ | refine Below.drew ?_ | refine below_drewN ?_ _ | refine below_set ?_ (by first | omega | (dsimp only; omega)) _))) (by simp) (spots_two R R _ _ (by simp) (by go_simp) (by go_simp) (by go_simp) (by go_simp) (by go_simp) (by go_simp)) (ok_two hR hR)).mono ?_; rintro e w1 ⟨rfl, hb⟩
  obtain ⟨hc1, hf1⟩ := bcell hb
  have z1 := hb.size
  try simp only [World.size_alloc, World.size_setCell, World.size_drew] at z1
  have s1_0 : w.heap.size < w1.heap.size := by omega
  have s1_1 : w.heap.size + 1 < w1.heap.size := by omega
  have s1_2 : w.heap.size + 1 + 1 < w1.heap.size := by omega
  have hB1 : Below w.heap.size w w1 := below_seq (by repeat (first | exact Below.refl _ _ | refine balloc ?_ _ | refine Below.drew ?_ | refine below_drewN ?_ _ | refine below_set ?_ (by first | omega | (dsimp only; omega)) _)) hb
  clear hb
  go_wp2_with fail
  refine (rest_y S _ s0 s1).mono ?_; rintro e w' ⟨rfl, rfl⟩
  go_wp2_with fail
  refine (rest_y T _ t0 t1).mono ?_; rintro e w' ⟨rfl, rfl⟩
  go_wp2
  go_ret2
  exact ⟨rfl, (by repeat (first | exact hB1 | exact Below.refl _ _ | refine balloc ?_ _ | refine Below.drew ?_ | refine below_drewN ?_ _ | refine below_set ?_ (by first | omega | (dsimp only; omega)) _))⟩
set_option maxHeartbeats 1000000 in
theorem find2_n (R Q : Sp) (S T : Int) (w : World) (hF : FarAt w) (hR : Ok R) (hQ : Ok Q) (hne : Sp.beq R Q = false) (s0 : 0 ≤ S) (s1 : S < 1013) (t0 : 0 ≤ T) (t1 : T < 1013) : Calls Tryd.prog 43 #[slV R S, slV Q T] w fun e w' => e = .returned (.tuple #[.int .i64 0, .iface 118 (.int .i64 3)]) ∧ Below w.heap.size w w' := by
  go_enter Tryd.func43, Tryd.ntmps43
  go_wp2_with fail
  refine (all_ok [R, Q] _ 0 2 _ (hF.below (by repeat (first | exact Below.refl _ _ | refine balloc ?_ _ | refine Below.drew ?_ | refine below_drewN ?_ _ | refine below_set ?_ (by first | omega | (dsimp only; omega)) _))) (by simp) (spots_two R Q _ _ (by simp) (by go_simp) (by go_simp) (by go_simp) (by go_simp) (by go_simp) (by go_simp)) (ok_two hR hQ)).mono ?_; rintro e w1 ⟨rfl, hb⟩
  obtain ⟨hc1, hf1⟩ := bcell hb
  have z1 := hb.size
  try simp only [World.size_alloc, World.size_setCell, World.size_drew] at z1
  have s1_0 : w.heap.size < w1.heap.size := by omega
  have s1_1 : w.heap.size + 1 < w1.heap.size := by omega
  have s1_2 : w.heap.size + 1 + 1 < w1.heap.size := by omega
  have hB1 : Below w.heap.size w w1 := below_seq (by repeat (first | exact Below.refl _ _ | refine balloc ?_ _ | refine Below.drew ?_ | refine below_drewN ?_ _ | refine below_set ?_ (by first | omega | (dsimp only; omega)) _)) hb
  clear hb
  go_wp2_with fail
  refine (rest_y S _ s0 s1).mono ?_; rintro e w' ⟨rfl, rfl⟩
  go_wp2_with fail
  refine (rest_y T _ t0 t1).mono ?_; rintro e w' ⟨rfl, rfl⟩
  go_wp2
  go_ret2
  exact ⟨rfl, (by repeat (first | exact hB1 | exact Below.refl _ _ | refine balloc ?_ _ | refine Below.drew ?_ | refine below_drewN ?_ _ | refine below_set ?_ (by first | omega | (dsimp only; omega)) _))⟩
set_option maxHeartbeats 2000000 in
theorem acheck_y (key T R O Z : Sp) (S : Int) (b : Bool) (t : ByteArray) (w : World) (hF : FarAt w) (hk : Ok key) (hT : Ok T) (hR : Ok R) (hz : t.size ≤ 60) (s0 : 0 ≤ S) (s1 : S < 1013)
    (hO : Hid (∀ w1 : World, FarAt w1 → Calls Tryd.prog 96 #[spV key, .string t, slV R S] w1 fun e w' => e = .returned (spV O) ∧ Below w1.heap.size w1 w')) (oO : Ok O) (hZ : Hid (sSum O T = Z)) (hb : Z.far = b) :
    Calls Tryd.prog 39 #[spV key, spV T, .string t, slV R S] w fun e w' => e = .returned (.tuple #[.bool b, .nilIface]) ∧ Below w.heap.size w w' := by
  subst hb
  go_enter Tryd.func39, Tryd.ntmps39
  go_wp2_with fail
  refine (sealCheck_ok key R S t _ (hF.below (by repeat (first | exact Below.refl _ _ | refine balloc ?_ _ | refine Below.drew ?_ | refine below_drewN ?_ _ | refine below_set ?_ (by first | omega | (dsimp only; omega)) _))) hk hR hz s0 s1).mono ?_; rintro e w1 ⟨rfl, hb⟩
  obtain ⟨hc1, hf1⟩ := bcell hb
  have z1 := hb.size
  try simp only [World.size_alloc, World.size_setCell, World.size_drew] at z1
  have s1_0 : w.heap.size < w1.heap.size := by omega
  have s1_1 : w.heap.size + 1 < w1.heap.size := by omega
  have s1_2 : w.heap.size + 1 + 1 < w1.heap.size := by omega
  have hB1 : Below w.heap.size w w1 := below_seq (by repeat (first | exact Below.refl _ _ | refine balloc ?_ _ | refine Below.drew ?_ | refine below_drewN ?_ _ | refine below_set ?_ (by first | omega | (dsimp only; omega)) _)) hb
  clear hb
  go_wp2_with fail
  refine (check_ok T _ (hF.below (by repeat (first | exact hB1 | exact Below.refl _ _ | refine balloc ?_ _ | refine Below.drew ?_ | refine below_drewN ?_ _ | refine below_set ?_ (by first | omega | (dsimp only; omega)) _))) hT).mono ?_; rintro e w2 ⟨rfl, hb⟩
  obtain ⟨hc2, hf2⟩ := bcell hb
  have z2 := hb.size
  try simp only [World.size_alloc, World.size_setCell, World.size_drew] at z2
  have s2_0 : w.heap.size < w2.heap.size := by omega
  have s2_1 : w.heap.size + 1 < w2.heap.size := by omega
  have s2_2 : w.heap.size + 1 + 1 < w2.heap.size := by omega
  have hB2 : Below w.heap.size w w2 := below_seq (by repeat (first | exact hB1 | exact Below.refl _ _ | refine balloc ?_ _ | refine Below.drew ?_ | refine below_drewN ?_ _ | refine below_set ?_ (by first | omega | (dsimp only; omega)) _)) hb
  clear hb
  go_wp2_with fail
  refine wp_region_grow Tryd.mixed (by kernel_rfl) ?_
  repeat (quiet_step ((first | (go_at_call 96; exact grow_of (hO.out _ (hF.below (below_seq (by repeat (first | exact hB2 | exact Below.refl _ _ | refine balloc ?_ _ | refine Below.drew ?_ | refine below_drewN ?_ _ | refine below_set ?_ (by first | omega | (dsimp only; omega)) _)) (Grew.h _))))) | (go_at_call 83; exact grow_of (sum_e O T Z _ (hF.below (below_seq (by repeat (first | exact hB2 | exact Below.refl _ _ | refine balloc ?_ _ | refine Below.drew ?_ | refine below_drewN ?_ _ | refine below_set ?_ (by first | omega | (dsimp only; omega)) _)) (Grew.h _))) oO hT hZ)))))
  refine wpQuiet_nil ?_
  intro _ hw'
  obtain ⟨x3, rfl⟩ := hw'
  have z3 := x3.h.size
  try simp only [World.size_alloc, World.size_setCell, World.size_drew] at z3
  have s3_0 : w.heap.size < x3.w.heap.size := by omega
  have s3_1 : w.heap.size + 1 < x3.w.heap.size := by omega
  have s3_2 : w.heap.size + 1 + 1 < x3.w.heap.size := by omega
  have hB3 : Below w.heap.size w x3.w := below_seq (by repeat (first | exact hB2 | exact Below.refl _ _ | refine balloc ?_ _ | refine Below.drew ?_ | refine below_drewN ?_ _ | refine below_set ?_ (by first | omega | (dsimp only; omega)) _)) x3.h
  go_wp2
  go_ret2
  exact ⟨rfl, (by repeat (first | exact hB3 | exact Below.refl _ _ | refine balloc ?_ _ | refine Below.drew ?_ | refine below_drewN ?_ _ | refine below_set ?_ (by first | omega | (dsimp only; omega)) _))⟩
/-- What seal.Off comes to. -/
theorem off_e (key R : Sp) (a r c S : Int) (t : ByteArray) (hz : t.size ≤ 60) (ha : Hid (key = sq a)) (hr : Hid (R = sq r)) (hc : Hid (askN R key t.data.toList = c)) (w : World) (hF : FarAt w) :
    Calls Tryd.prog 96 #[spV key, .string t, slV R S] w fun e w' => e = .returned (spV (sq (4 * S + -(r + a * c)))) ∧ Below w.heap.size w w' := by
  have oR : Ok R := ok_of hr.out
  have oK : Ok key := ok_of ha.out
  refine sealOff_ok key R _ _ (sq (r + a * c)) _ (sq (4 * S + -(r + a * c))) a c S t w hF oK oR hz hc ha rfl rfl ?_ rfl ?_ (sq_ok _) (sq_ok _) (sq_ok _) (turned_ok (sq_ok _)).1
  · show _ = _; rw [hr.out, sq_add]
  · show _ = _; rw [sq_neg, sq_add]
theorem acheck_e (key T R : Sp) (a r u c S : Int) (b : Bool) (t : ByteArray) (w : World) (hF : FarAt w) (hz : t.size ≤ 60) (s0 : 0 ≤ S) (s1 : S < 1013) (ha : Hid (key = sq a)) (hr : Hid (R = sq r)) (hu : Hid (T = sq u)) (hc : Hid (askN R key t.data.toList = c)) (hb : Hid ((sq (4 * S + -(r + a * c) + u)).far = b)) :
    Calls Tryd.prog 39 #[spV key, spV T, .string t, slV R S] w fun e w' => e = .returned (.tuple #[.bool b, .nilIface]) ∧ Below w.heap.size w w' := by
  refine acheck_y key T R _ _ S b t w hF (ok_of ha.out) (ok_of hu.out) (ok_of hr.out) hz s0 s1 (fun w1 h1 => off_e key R a r c S t hz ha hr hc w1 h1) (sq_ok _) (by show _ = _; rw [hu.out, sq_add]) hb.out
set_option maxHeartbeats 1000000 in
theorem pre_n1 (x k : Int) (T : Sp) (t : ByteArray) (w : World) (h : ¬ (1 ≤ x ∧ x < 1013)) : Calls Tryd.prog 38 #[.int .i64 x, .int .i64 k, spV T, .string t] w fun e w' => e = .returned (.tuple #[slV ⟨0, 0, false⟩ 0, .iface 118 (.int .i64 1)]) ∧ Below w.heap.size w w' := by
  go_enter Tryd.func38, Tryd.ntmps38
  go_wp2_with fail
  refine (secret_n x _ h).mono ?_; rintro e w' ⟨rfl, rfl⟩
  go_wp2
  refine bodyPost_ret (v := .tuple #[slV ⟨0, 0, false⟩ 0, .iface 118 (.int .i64 1)]) (by simp [results, Tryd.results38, go_sem]) rfl ⟨rfl, (by repeat (first | exact Below.refl _ _ | refine balloc ?_ _ | refine Below.drew ?_ | refine below_drewN ?_ _ | refine below_set ?_ (by first | omega | (dsimp only; omega)) _))⟩
set_option maxHeartbeats 1000000 in
theorem pre_n2 (x k : Int) (T : Sp) (t : ByteArray) (w : World) (x1 : 1 ≤ x) (x2 : x < 1013) (h : ¬ (1 ≤ k ∧ k < 1013)) : Calls Tryd.prog 38 #[.int .i64 x, .int .i64 k, spV T, .string t] w fun e w' => e = .returned (.tuple #[slV ⟨0, 0, false⟩ 0, .iface 118 (.int .i64 1)]) ∧ Below w.heap.size w w' := by
  go_enter Tryd.func38, Tryd.ntmps38
  go_wp2_with fail
  refine (secret_y x _ x1 x2).mono ?_; rintro e w' ⟨rfl, rfl⟩
  go_wp2_with fail
  refine (secret_n k _ h).mono ?_; rintro e w' ⟨rfl, rfl⟩
  go_wp2
  refine bodyPost_ret (v := .tuple #[slV ⟨0, 0, false⟩ 0, .iface 118 (.int .i64 1)]) (by simp [results, Tryd.results38, go_sem]) rfl ⟨rfl, (by repeat (first | exact Below.refl _ _ | refine balloc ?_ _ | refine Below.drew ?_ | refine below_drewN ?_ _ | refine below_set ?_ (by first | omega | (dsimp only; omega)) _))⟩
set_option maxHeartbeats 1000000 in
theorem pre_n3 (x k : Int) (T : Sp) (t : ByteArray) (w : World) (hF : FarAt w) (x1 : 1 ≤ x) (x2 : x < 1013) (k1 : 1 ≤ k) (k2 : k < 1013) (hT : Ok T) (h : 60 < t.size) (hz : t.size ≤ 140737488351232) : Calls Tryd.prog 38 #[.int .i64 x, .int .i64 k, spV T, .string t] w fun e w' => e = .returned (.tuple #[slV ⟨0, 0, false⟩ 0, .iface 118 (.int .i64 4)]) ∧ Below w.heap.size w w' := by
  go_enter Tryd.func38, Tryd.ntmps38
  go_wp2_with fail
  refine (secret_y x _ x1 x2).mono ?_; rintro e w' ⟨rfl, rfl⟩
  go_wp2_with fail
  refine (secret_y k _ k1 k2).mono ?_; rintro e w' ⟨rfl, rfl⟩
  go_wp2_with fail
  refine (check_ok T _ (hF.below (by repeat (first | exact Below.refl _ _ | refine balloc ?_ _ | refine Below.drew ?_ | refine below_drewN ?_ _ | refine below_set ?_ (by first | omega | (dsimp only; omega)) _))) hT).mono ?_; rintro e w1 ⟨rfl, hb⟩
  obtain ⟨hc1, hf1⟩ := bcell hb
  have z1 := hb.size
  try simp only [World.size_alloc, World.size_setCell, World.size_drew] at z1
  have s1_0 : w.heap.size < w1.heap.size := by omega
  have s1_1 : w.heap.size + 1 < w1.heap.size := by omega
  have hB1 : Below w.heap.size w w1 := below_seq (by repeat (first | exact Below.refl _ _ | refine balloc ?_ _ | refine Below.drew ?_ | refine below_drewN ?_ _ | refine below_set ?_ (by first | omega | (dsimp only; omega)) _)) hb
  clear hb
  go_wp2_with fail
  refine (text_n t _ h hz).mono ?_; rintro e w' ⟨rfl, rfl⟩
  have r0 : w1.cell? ⟨w.heap.size + 1, 0, none⟩ = some (.int .i64 0) := by go_simp
  have r1 : w1.cell? ⟨w.heap.size + 1, 1, none⟩ = some (.int .i64 0) := by go_simp
  have r2 : w1.cell? ⟨w.heap.size + 1, 2, none⟩ = some (.bool false) := by go_simp
  have r3 : w1.cell? ⟨w.heap.size + 1, 3, none⟩ = some (.int .i64 0) := by go_simp
  go_wp2
  have k := set4_cell (w := w1) (x := .int .i64 0) (y := .int .i64 0) (z := .bool false) (p := .int .i64 0) r0 r1 r2 r3
  refine bodyPost_ret (v := .tuple #[slV ⟨0, 0, false⟩ 0, .iface 118 (.int .i64 4)]) (by simp [results, Tryd.results38, go_sem, k.1, k.2.1, k.2.2.1, k.2.2.2]) rfl ⟨rfl, set4_below (by repeat (first | exact hB1 | exact Below.refl _ _ | refine balloc ?_ _ | refine Below.drew ?_ | refine below_drewN ?_ _ | refine below_set ?_ (by first | omega | (dsimp only; omega)) _)) (by omega)⟩
theorem SpAt.zero_of {w : World} {b : Nat} (h0 : w.cell? ⟨b, 0, none⟩ = some (.int .i64 0)) (h1 : w.cell? ⟨b, 1, none⟩ = some (.int .i64 0)) (h2 : w.cell? ⟨b, 2, none⟩ = some (.bool false)) (f0 : w.frozen? ⟨b, 0, none⟩ = false) (f1 : w.frozen? ⟨b, 1, none⟩ = false) (f2 : w.frozen? ⟨b, 2, none⟩ = false) (hl : b < w.heap.size) : SpAt w b ⟨0, 0, false⟩ := ⟨h0, h1, h2, f0, f1, f2, hl⟩
end Go.Proofs.YtfnifdmnbccblaaDoor
namespace Go.Proofs.YtfnifdmnbccblaaDoor
open Go.RowKit
set_option maxRecDepth 100000
set_option linter.unusedVariables false
set_option linter.unusedSimpArgs false
theorem hav_ {P Q : Prop} (h : P) (k : P → Q) : Q := k h
set_option maxHeartbeats 4000000 in
theorem pre_core (x k : Int) (T B R K : Sp) (c S : Int) (t : ByteArray) (w : World) (hF : FarAt w) (x1 : 1 ≤ x) (x2 : x < 1013) (k1 : 1 ≤ k) (k2 : k < 1013) (hz : t.size ≤ 60) (hT : Ok T) (hB : Hid (sq (4 * k) = B)) (oB : Ok B) (hR : Hid (sSum B T = R)) (oR : Ok R) (hK : Hid (sq (4 * x) = K)) (oK : Ok K) (hc : Hid (askN R K t.data.toList = c)) (e1 : IntKind.i64.wrap (c * x) = c * x) (e2 : IntKind.i64.wrap (k + c * x) = k + c * x) (e3 : (k + c * x).tmod 1013 = S) :
    Calls Tryd.prog 38 #[.int .i64 x, .int .i64 k, spV T, .string t] w fun e w' => e = .returned (.tuple #[slV R S, .nilIface]) ∧ Below w.heap.size w w' := by
  go_enter Tryd.func38, Tryd.ntmps38
  go_wp2_with fail
  refine (secret_y x _ x1 x2).mono ?_; rintro e w' ⟨rfl, rfl⟩
  go_wp2_with fail
  refine (secret_y k _ k1 k2).mono ?_; rintro e w' ⟨rfl, rfl⟩
  go_wp2_with fail
  refine (check_ok T _ (hF.below (by repeat (first | exact Below.refl _ _ | refine balloc ?_ _ | refine Below.drew ?_ | refine below_drewN ?_ _ | refine below_set ?_ (by first | omega | (dsimp only; omega)) _))) hT).mono ?_; rintro e w1 ⟨rfl, hb⟩
  obtain ⟨hc1, hf1⟩ := bcell hb
  have z1 := hb.size
  try simp only [World.size_alloc, World.size_setCell, World.size_drew] at z1
  have s1_0 : w.heap.size < w1.heap.size := by omega
  have s1_1 : w.heap.size + 1 < w1.heap.size := by omega
  have hB1 : Below w.heap.size w w1 := below_seq (by repeat (first | exact Below.refl _ _ | refine balloc ?_ _ | refine Below.drew ?_ | refine below_drewN ?_ _ | refine below_set ?_ (by first | omega | (dsimp only; omega)) _)) hb
  clear hb
  go_wp2_with fail
  refine (text_y t _ hz).mono ?_; rintro e w' ⟨rfl, rfl⟩
  go_upto_region 8 with fail
  have hFa : FarAt w1 := hF.below hB1
  have t0 : w1.cell? ⟨w.heap.size, 0, none⟩ = some (.int .i64 T.x) := by go_simp
  have t1 : w1.cell? ⟨w.heap.size, 1, none⟩ = some (.int .i64 T.y) := by go_simp
  have t2 : w1.cell? ⟨w.heap.size, 2, none⟩ = some (.bool T.far) := by go_simp
  go_cut [11] (fun s11 wx => ∃ b : Nat, s11 = .pointer (some ⟨b, 0, none⟩) ∧ SpAt wx b R ∧ w1.heap.size ≤ b ∧ Below w1.heap.size w1 wx)
  case first =>
    go_region_with (first | (go_at_call 76; refine (by_e k B _ (hFa.below (by repeat (first | exact Below.refl _ _ | refine balloc ?_ _ | refine Below.drew ?_))) hB).mono ?_; rintro e wa ⟨rfl, ha⟩; have hwa : Below w1.heap.size w1 wa := below_seq (by repeat (first | exact Below.refl _ _ | refine balloc ?_ _ | refine Below.drew ?_)) ha; have hza := hwa.size; have sA0 : w.heap.size < wa.heap.size := Nat.lt_of_lt_of_le s1_0 hza; have ta0 := ((bcell hwa).1 _ 0 s1_0).trans t0; have ta1 := ((bcell hwa).1 _ 1 s1_0).trans t1; have ta2 := ((bcell hwa).1 _ 2 s1_0).trans t2; (first | (refine hav_ (P := SpAt wa w1.heap.size ⟨0, 0, false⟩) (SpAt.below (SpAt.fresh _ _ _ _ _) ha) (fun kA => ?_)) | (refine hav_ (P := SpAt wa w1.heap.size ⟨0, 0, false⟩) (SpAt.below (SpAt.drew (SpAt.fresh _ _ _ _ _)) ha) (fun kA => ?_)) | skip)) | (go_at_call 83; refine (sum_e B T R _ ((hFa.below hwa).below (by repeat (first | exact Below.refl _ _ | refine balloc ?_ _ | refine Below.drew ?_))) oB hT hR).mono ?_; rintro e wb ⟨rfl, hb⟩; have hwb : Below wa.heap.size wa wb := below_seq (by repeat (first | exact Below.refl _ _ | refine balloc ?_ _ | refine Below.drew ?_)) hb; have hzb := hwb.size; have sB0 : w.heap.size < wb.heap.size := Nat.lt_of_lt_of_le sA0 hzb; (first | (have kB := kA.below hwb; obtain ⟨b0, b1, b2, b3, b4, b5, b6⟩ := kA.below hwb) | skip); (first | (refine hav_ (P := SpAt wb wa.heap.size ⟨0, 0, false⟩) (SpAt.below (SpAt.fresh _ _ _ _ _) hb) (fun kC => ?_); obtain ⟨c0, c1, c2, c3, c4, c5, c6⟩ := kC) | (refine hav_ (P := SpAt wb wa.heap.size ⟨0, 0, false⟩) (SpAt.below (SpAt.drew (SpAt.fresh _ _ _ _ _)) hb) (fun kC => ?_); obtain ⟨c0, c1, c2, c3, c4, c5, c6⟩ := kC) | skip)))
    all_goals
      go_wp2_with fail
      go_meet
      have hB2 := below_seq hwa hwb
      first
      | exact ⟨_, rfl, SpAt.fresh _ _ _ _ _, by omega, balloc hB2 _⟩
      | exact ⟨_, rfl, kB.set3 R, by omega, set3_below hB2 (by omega)⟩
      | exact ⟨_, rfl, (SpAt.zero_of (by assumption) (by assumption) (by assumption) (by assumption) (by assumption) (by assumption) (by assumption)).set3 R, by omega, set3_below hB2 (by omega)⟩
  case rest =>
    obtain ⟨b, rfl, hb, hl, hw⟩ := hcut
    have hz2 := hw.size
    have hB2 : Below w.heap.size w wc := below_seq hB1 hw
    obtain ⟨hc2, hf2⟩ := bcell hw
    obtain ⟨b0, b1, b2, b3, b4, b5, b6⟩ := hb
    have s2_0 : w.heap.size < wc.heap.size := by omega
    have s2_1 : w.heap.size + 1 < wc.heap.size := by omega
    have n2_0 : w.heap.size + 1 < b := by omega
    go_wp2_with fail
    refine wp_region_grow_tail 12 Tryd.mixed (by kernel_rfl) ?_
    simp only [List.take_succ_cons, List.take_zero, List.drop_succ_cons, List.drop_zero]
    repeat (quiet_step ((first | (go_at_call 76; exact grow_of (by_e x K _ (hF.below (below_seq (by repeat (first | exact hB2 | exact Below.refl _ _ | refine balloc ?_ _ | refine Below.drew ?_ | refine below_drewN ?_ _ | refine below_set ?_ (by first | omega | (dsimp only; omega)) _)) (Grew.h _))) hK)) | (go_at_call 98; exact grow_of (ask_e R K t c _ oR oK hz hc)))))
    refine wpQuiet_nil ?_
    intro _ hw'
    obtain ⟨x3, rfl⟩ := hw'
    have z3 := x3.h.size
    try simp only [World.size_alloc, World.size_setCell, World.size_drew] at z3
    have s3_0 : w.heap.size < x3.w.heap.size := by omega
    have s3_1 : w.heap.size + 1 < x3.w.heap.size := by omega
    have hB3 : Below w.heap.size w x3.w := below_seq (by repeat (first | exact hB2 | exact Below.refl _ _ | refine balloc ?_ _ | refine Below.drew ?_ | refine below_drewN ?_ _ | refine below_set ?_ (by first | omega | (dsimp only; omega)) _)) x3.h
    have r0 : x3.w.cell? ⟨w.heap.size + 1, 0, none⟩ = some (.int .i64 0) := by go_simp
    have r1 : x3.w.cell? ⟨w.heap.size + 1, 1, none⟩ = some (.int .i64 0) := by go_simp
    have r2 : x3.w.cell? ⟨w.heap.size + 1, 2, none⟩ = some (.bool false) := by go_simp
    have r3 : x3.w.cell? ⟨w.heap.size + 1, 3, none⟩ = some (.int .i64 0) := by go_simp
    clear e1 e2 e3
    go_wp2
    have k := set4_cell (w := x3.w) (x := .int .i64 R.x) (y := .int .i64 R.y) (z := .bool R.far) (p := .int .i64 S) r0 r1 r2 r3
    refine bodyPost_ret (v := .tuple #[slV R S, .nilIface]) (by simp [results, Tryd.results38, go_sem, k.1, k.2.1, k.2.2.1, k.2.2.2]) rfl ⟨rfl, set4_below (by repeat (first | exact hB3 | exact Below.refl _ _ | refine balloc ?_ _ | refine Below.drew ?_ | refine below_drewN ?_ _ | refine below_set ?_ (by first | omega | (dsimp only; omega)) _)) (by omega)⟩
/-- A seal that lacks the secret of T = sq u. -/
theorem pre_e (x k u : Int) (T R K : Sp) (c S : Int) (t : ByteArray) (w : World) (hF : FarAt w) (x1 : 1 ≤ x) (x2 : x < 1013) (k1 : 1 ≤ k) (k2 : k < 1013) (hz : t.size ≤ 60) (hu : Hid (T = sq u)) (hR : Hid (sq (4 * k + u) = R)) (hK : Hid (sq (4 * x) = K)) (hc : Hid (askN R K t.data.toList = c)) (hS : Hid ((k + c * x) % 1013 = S)) :
    Calls Tryd.prog 38 #[.int .i64 x, .int .i64 k, spV T, .string t] w fun e w' => e = .returned (.tuple #[slV R S, .nilIface]) ∧ Below w.heap.size w w' := by
  have hb := askN_bd R K t.data.toList
  rw [hc.out] at hb
  have hm := mul_q hb.1 hb.2 x1 x2
  exact pre_core x k T (sq (4 * k)) R K c S t w hF x1 x2 k1 k2 hz (ok_of hu.out) rfl (sq_ok _) (by show _ = _; rw [hu.out, sq_add]; exact hR.out) (ok_of hR.out.symm) hK (ok_of hK.out.symm) hc (IntWalk.i64_in _ (by omega)) (IntWalk.i64_in _ (by omega)) (by rw [Int.tmod_eq_emod_of_nonneg (by omega)]; exact hS.out)
theorem pre_n (x k : Int) (T : Sp) (t : ByteArray) (hT : Ok T) (hz : t.size ≤ 140737488351232) (h : ¬ (1 ≤ x ∧ x < 1013 ∧ 1 ≤ k ∧ k < 1013 ∧ t.size ≤ 60)) : ∃ E : Int, ∀ w : World, FarAt w → Calls Tryd.prog 38 #[.int .i64 x, .int .i64 k, spV T, .string t] w fun e w' => e = .returned (.tuple #[slV ⟨0, 0, false⟩ 0, .iface 118 (.int .i64 E)]) ∧ Below w.heap.size w w' := by
  by_cases hx : 1 ≤ x ∧ x < 1013
  · by_cases hk : 1 ≤ k ∧ k < 1013
    · exact ⟨4, fun w hF => pre_n3 x k T t w hF hx.1 hx.2 hk.1 hk.2 hT (by omega) hz⟩
    · exact ⟨1, fun w _ => pre_n2 x k T t w hx.1 hx.2 hk⟩
  · exact ⟨1, fun w _ => pre_n1 x k T t w hx⟩
end Go.Proofs.YtfnifdmnbccblaaDoor
namespace Go.Proofs.YtfnifdmnbccblaaDoor
open Go.RowKit
set_option maxRecDepth 100000
set_option linter.unusedVariables false
set_option linter.unusedSimpArgs false
set_option maxHeartbeats 2000000 in
theorem sverify_4 (key sig : Sp) (t : ByteArray) (w : World) (h : 60 < t.size) (hz : t.size ≤ 140737488351232) : Calls Tryd.prog 14 #[spV key, .string t, spV sig] w fun e w' => e = .returned (.tuple #[.bool false, .iface 118 (.int .i64 4)]) ∧ Below w.heap.size w w' := by
  go_enter Tryd.func14, Tryd.ntmps14
  go_wp2_with fail
  refine (text_n t _ h hz).mono ?_; rintro e w' ⟨rfl, rfl⟩
  go_wp2
  go_ret2
  exact ⟨rfl, (by repeat (first | exact Below.refl _ _ | refine balloc ?_ _ | refine Below.drew ?_ | refine below_drewN ?_ _ | refine below_set ?_ (by first | omega | (dsimp only; omega)) _))⟩
set_option maxHeartbeats 2000000 in
theorem sverify_c (key sig H : Sp) (t : ByteArray) (B : Bool) (E : Value) (w : World) (hF : FarAt w) (hz : t.size ≤ 60) (hH : Hid (hSpot t.data.toList = H)) (kS : Hid (∀ w1 : World, Below w.heap.size w w1 → Calls Tryd.prog 22 #[spV sig, spV ⟨1189, 3667, false⟩, spV H, spV key] w1 fun e w' => e = .returned (.tuple #[.bool B, E]) ∧ Below w1.heap.size w1 w')) :
    Calls Tryd.prog 14 #[spV key, .string t, spV sig] w fun e w' => e = .returned (.tuple #[.bool B, E]) ∧ Below w.heap.size w w' := by
  go_enter Tryd.func14, Tryd.ntmps14
  go_wp2_with fail
  refine (text_y t _ hz).mono ?_; rintro e w' ⟨rfl, rfl⟩
  go_wp2_with fail
  refine wp_region_grow Tryd.mixed (by kernel_rfl) ?_
  repeat (quiet_step ((first | (go_at_call 79; exact grow_of (base_k _ (hF.below (below_seq (by repeat (first | exact Below.refl _ _ | refine balloc ?_ _ | refine Below.drew ?_ | refine below_drewN ?_ _ | refine below_set ?_ (by first | omega | (dsimp only; omega)) _)) (Grew.h _))))) | (go_at_call 15; exact grow_of (hashSpot_e t H _ (hF.below (below_seq (by repeat (first | exact Below.refl _ _ | refine balloc ?_ _ | refine Below.drew ?_ | refine below_drewN ?_ _ | refine below_set ?_ (by first | omega | (dsimp only; omega)) _)) (Grew.h _))) (by omega) hH)) | (go_at_call 22; exact grow_of (kS.out _ (below_seq (by repeat (first | exact Below.refl _ _ | refine balloc ?_ _ | refine Below.drew ?_ | refine below_drewN ?_ _ | refine below_set ?_ (by first | omega | (dsimp only; omega)) _)) (Grew.h _)))))))
  refine wpQuiet_nil ?_
  intro _ hw'
  obtain ⟨x1, rfl⟩ := hw'
  have z1 := x1.h.size
  try simp only [World.size_alloc, World.size_setCell, World.size_drew] at z1
  have s1_0 : w.heap.size < x1.w.heap.size := by omega
  have s1_1 : w.heap.size + 1 < x1.w.heap.size := by omega
  have hB1 : Below w.heap.size w x1.w := below_seq (by repeat (first | exact Below.refl _ _ | refine balloc ?_ _ | refine Below.drew ?_ | refine below_drewN ?_ _ | refine below_set ?_ (by first | omega | (dsimp only; omega)) _)) x1.h
  go_wp2
  go_ret2
  exact ⟨rfl, (by repeat (first | exact hB1 | exact Below.refl _ _ | refine balloc ?_ _ | refine Below.drew ?_ | refine below_drewN ?_ _ | refine below_set ?_ (by first | omega | (dsimp only; omega)) _))⟩
set_option maxHeartbeats 1000000 in
theorem sall_full1 (n m : Nat) (a0 a1 : Option Addr) (c0 c1 : Nat) (sig : Sp) (w : World) (h : 12 < n) (hn : n ≤ 9223372036854775807) (hm : m ≤ 9223372036854775807) :
    Calls Tryd.prog 17 #[.slice a0 n c0, .slice a1 m c1, spV sig] w fun e w' => e = .returned (.tuple #[.bool false, .iface 118 (.int .i64 4)]) ∧ Below w.heap.size w w' := by
  go_enter Tryd.func17, Tryd.ntmps17
  go_wp2
  go_ret2
  exact ⟨rfl, (by repeat (first | exact Below.refl _ _ | refine balloc ?_ _ | refine Below.drew ?_ | refine below_drewN ?_ _ | refine below_set ?_ (by first | omega | (dsimp only; omega)) _))⟩
set_option maxHeartbeats 1000000 in
theorem sall_full2 (n m : Nat) (a0 a1 : Option Addr) (c0 c1 : Nat) (sig : Sp) (w : World) (h0 : n ≤ 12) (h : 12 < m) (hm : m ≤ 9223372036854775807) :
    Calls Tryd.prog 17 #[.slice a0 n c0, .slice a1 m c1, spV sig] w fun e w' => e = .returned (.tuple #[.bool false, .iface 118 (.int .i64 4)]) ∧ Below w.heap.size w w' := by
  have g1 : decide ((12 : Int) < (n : Int)) = false := by rw [decide_eq_false_iff_not]; omega
  go_enter Tryd.func17, Tryd.ntmps17
  go_wp2
  go_ret2
  exact ⟨rfl, (by repeat (first | exact Below.refl _ _ | refine balloc ?_ _ | refine Below.drew ?_ | refine below_drewN ?_ _ | refine below_set ?_ (by first | omega | (dsimp only; omega)) _))⟩
set_option maxHeartbeats 1000000 in
theorem sall_shape (n m : Nat) (a0 a1 : Option Addr) (c0 c1 : Nat) (sig : Sp) (w : World) (h0 : n ≤ 12) (h1 : m ≤ 12) (hne : n ≠ m) :
    Calls Tryd.prog 17 #[.slice a0 n c0, .slice a1 m c1, spV sig] w fun e w' => e = .returned (.tuple #[.bool false, .iface 118 (.int .i64 3)]) ∧ Below w.heap.size w w' := by
  have g1 : decide ((12 : Int) < (n : Int)) = false := by rw [decide_eq_false_iff_not]; omega
  have g2 : decide ((12 : Int) < (m : Int)) = false := by rw [decide_eq_false_iff_not]; omega
  have g3 : ((n : Int) != (m : Int)) = true := by rw [bne_iff_ne]; omega
  go_enter Tryd.func17, Tryd.ntmps17
  go_wp2
  go_ret2
  exact ⟨rfl, (by repeat (first | exact Below.refl _ _ | refine balloc ?_ _ | refine Below.drew ?_ | refine below_drewN ?_ _ | refine below_set ?_ (by first | omega | (dsimp only; omega)) _))⟩
theorem TwZ (w : World) (t : TypeId) : TwAt (w.alloc (.cells #[.int .i64 0, .int .i64 0] t)) w.heap.size ⟨0, 0⟩ := TwAt.zero_of (by go_simp) (by go_simp) (by go_simp) (by go_simp) (by simp)
theorem TwD {w : World} {b : Nat} {z : Z} (h : TwAt w b z) : TwAt w.drew b z := h.below (Below.refl _ _).drew
/-- What is told of a list of texts: their spots. -/
def hSpots (Ts : List ByteArray) : List Sp := Ts.map fun t => hSpot t.data.toList
theorem hSpots_get (Ts : List ByteArray) (i : Nat) (h : i < Ts.length) (h' : i < (hSpots Ts).length) : (hSpots Ts)[i] = hSpot Ts[i].data.toList := List.getElem_map (fun t : ByteArray => hSpot t.data.toList)
theorem hSpots_len (Ts : List ByteArray) : (hSpots Ts).length = Ts.length := List.length_map _
set_option maxHeartbeats 8000000 in
theorem sall_core (n0 : Nat) (a0 : Option Addr) (c0 : Nat) (Ts : List ByteArray) (a1 : Option Addr) (c1 : Nat) (sig : Sp) (q : Nat) (R : Value) (w : World) (hF : FarAt w) (hn : n0 = Ts.length) (h12 : Ts.length ≤ 12) (hT : 0 < Ts.length → ∃ b off, a1 = some ⟨b, off, none⟩ ∧ StrsAt w b off Ts) (hq : q ≤ Ts.length)
    (hgood : Hid (∀ i (h : i < Ts.length), i < q → Ts[i].size ≤ 60)) (hbad : Hid (∀ h : q < Ts.length, 60 < Ts[q].size ∧ Ts[q].size ≤ 140737488351232))
    (hR0 : Hid (q < Ts.length → R = .tuple #[.bool false, .iface 118 (.int .i64 4)]))
    (hR1 : Hid (q = Ts.length → (∃ EP : Int, (∀ w1 : World, Below w.heap.size w w1 → Calls Tryd.prog 20 #[spV sig, spV ⟨1189, 3667, false⟩] w1 fun e w' => e = .returned (.tuple #[.agg #[.int .i64 0, .int .i64 0], .iface 118 (.int .i64 EP)]) ∧ Below w1.heap.size w1 w') ∧ R = .tuple #[.bool false, .iface 118 (.int .i64 EP)]) ∨
      (∃ P0 P1 : Int, (∀ w1 : World, Below w.heap.size w w1 → Calls Tryd.prog 20 #[spV sig, spV ⟨1189, 3667, false⟩] w1 fun e w' => e = .returned (.tuple #[.agg #[.int .i64 P0, .int .i64 P1], .nilIface]) ∧ Below w1.heap.size w1 w') ∧
        ((∃ EQ : Int, (∀ (w1 : World) (v : Value), Below w.heap.size w w1 → SpSl w1 v (hSpots Ts) → Calls Tryd.prog 24 #[v, .slice a0 n0 c0] w1 fun e w' => e = .returned (.tuple #[.agg #[.int .i64 0, .int .i64 0], .iface 118 (.int .i64 EQ)]) ∧ Below w1.heap.size w1 w') ∧ R = .tuple #[.bool false, .iface 118 (.int .i64 EQ)]) ∨
          (∃ Q0 Q1 : Int, (∀ (w1 : World) (v : Value), Below w.heap.size w w1 → SpSl w1 v (hSpots Ts) → Calls Tryd.prog 24 #[v, .slice a0 n0 c0] w1 fun e w' => e = .returned (.tuple #[.agg #[.int .i64 Q0, .int .i64 Q1], .nilIface]) ∧ Below w1.heap.size w1 w') ∧ R = .tuple #[.bool (twB P0 P1 Q0 Q1), .nilIface]))))) :
    Calls Tryd.prog 17 #[.slice a0 n0 c0, .slice a1 Ts.length c1, spV sig] w fun e w' => e = .returned R ∧ Below w.heap.size w w' := by
  have hd : decide ((12 : Int) < (Ts.length : Int)) = false := by rw [decide_eq_false_iff_not]; omega
  have hd2 : ((Ts.length : Int) != (Ts.length : Int)) = false := by simp
  have hHl := hSpots_len Ts
  have hHg : Hid (∀ i (h : i < Ts.length) (h' : i < (hSpots Ts).length), (hSpots Ts)[i] = hSpot Ts[i].data.toList) := Lib.hid (hSpots_get Ts)
  generalize hSpots Ts = Hs at *
  subst hn
  replace hT := Lib.hid hT
  have hF' := Lib.hid hF
  go_enter Tryd.func17, Tryd.ntmps17
  go_wp2
  have s0 : (w.alloc (.cells #[.int .i64 sig.x, .int .i64 sig.y, .bool sig.far] 25)).cell? ⟨w.heap.size, 0, none⟩ = some (.int .i64 sig.x) := by go_simp
  have s1 : (w.alloc (.cells #[.int .i64 sig.x, .int .i64 sig.y, .bool sig.far] 25)).cell? ⟨w.heap.size, 1, none⟩ = some (.int .i64 sig.y) := by go_simp
  have s2 : (w.alloc (.cells #[.int .i64 sig.x, .int .i64 sig.y, .bool sig.far] 25)).cell? ⟨w.heap.size, 2, none⟩ = some (.bool sig.far) := by go_simp
  have sl : w.heap.size < (w.alloc (.cells #[.int .i64 sig.x, .int .i64 sig.y, .bool sig.far] 25)).heap.size := by simp
  have hB0 := below_alloc w (.cells #[.int .i64 sig.x, .int .i64 sig.y, .bool sig.far] 25)
  generalize w.alloc (.cells #[.int .i64 sig.x, .int .i64 sig.y, .bool sig.far] 25) = w0 at *
  replace s0 := Lib.hid s0
  replace s1 := Lib.hid s1
  replace s2 := Lib.hid s2
  replace hB0 := Lib.hid hB0
  replace hHl := Lib.hid hHl
  clear hF hd hd2
  go_loopw [8, 33] (fun v i wr => ∃ n : Nat, n ≤ Ts.length ∧ n ≤ q ∧ i = .int .i64 n ∧ wr.ownsRow w0.heap.size 25 3 v n (spCells (Hs.take n)) ∧ Below w0.heap.size w0 wr) (fun _ i _ => Ts.length - (intOf i).toNat)
  case atStart => exact ⟨0, Nat.zero_le _, Nat.zero_le _, rfl, World.ownsRow_nil _ _ _ _, Below.refl _ _⟩
  case round =>
    obtain ⟨n, hn, hnq, rfl, hown, hb⟩ := hrel
    have hBr := below_seq hB0.out hb
    by_cases hlt : n < Ts.length
    · obtain ⟨b, off, rfl, hs⟩ := hT.out (by omega)
      have l1 := (hs.below hBr).c n hlt
      have l2 := (hs.below hBr).lt
      have hHi := hHg.out n hlt (by have := hHl.out; omega)
      have hsn := take_snoc Hs n (by have := hHl.out; omega)
      rw [hHi] at hsn
      have hg := Lib.hid (hgood.out n hlt)
      have hbd : Hid (n = q → 60 < Ts[n].size ∧ Ts[n].size ≤ 140737488351232) := Lib.hid (fun e => by subst e; exact hbad.out hlt)
      have htl : (Hs.take n).length = n := by rw [List.length_take]; have := hHl.out; omega
      have hlr := hb.size
      have hR0' := Lib.hid (fun e : n = q => hR0.out (by omega))
      clear hs hHg hgood hbad hR0 hR1 hHi
      generalize Ts[n] = T at *
      obtain ⟨H, hH⟩ : ∃ H, hSpot T.data.toList = H := ⟨_, rfl⟩
      rw [hH] at hsn
      replace hH := Lib.hid hH
      replace hsn := Lib.hid hsn
      replace htl := Lib.hid htl
      by_cases hnq2 : n < q
      · have ht60 := hg.out hnq2
        have hFr := hF'.out.below hBr
        clear hg hbd hR0'
        replace hown := Lib.hid hown
        replace hb := Lib.hid hb
        go_wp2_with fail
        refine (text_y T _ ht60).mono ?_; rintro e w' ⟨rfl, rfl⟩
        go_wp2_with fail
        refine (hashSpot_e T H _ hFr (by omega) hH).mono ?_; rintro e w2 ⟨rfl, hb2⟩
        have ow2 := Lib.hid (own_below hown.out hb2)
        have hB2 := Lib.hid (below_seq hb.out hb2)
        have hs2 := hb2.size
        clear hown hb hb2 l1 l2 hFr hBr
        go_wp2_with (first | (at_builtin; refine wpl_append_spot rfl _ _ _ rfl (by kernel_rfl) w0.heap.size _ (Hs.take n) n rfl (ow2.out.alloc _) htl.out (by omega) (by simp only [World.size_alloc]; omega) w2.heap.size H rfl (by go_simp) (by go_simp) (by go_simp) ?_; intro v' w3 hown' hgrow hbel hloc; replace hown' := Lib.hid hown'; replace hbel := Lib.hid (hbel w0 (balloc hB2.out _)); clear hgrow hloc ow2 hB2) | fail)
        go_wp2
        go_roundw
        case rel => exact ⟨n + 1, by omega, by omega, by go_num, by rw [hsn.out]; exact hown'.out, hbel.out⟩
        case measure => simp [intOf]; omega
      · obtain rfl : n = q := by omega
        obtain ⟨t1, t2⟩ := hbd.out rfl
        have hR := hR0'.out rfl
        subst hR
        clear hg hbd hR0'
        go_wp2_with fail
        refine (text_n T _ t1 t2).mono ?_; rintro e w' ⟨rfl, rfl⟩
        go_wp2
        go_ret2
        exact ⟨rfl, hBr⟩
    · obtain rfl : n = Ts.length := by omega
      have hqe : q = Ts.length := by omega
      have hSp := own_spots (by have := hown; rw [List.take_of_length_le (by have := hHl.out; omega)] at this; exact this) hHl.out.symm
      have hcs := hR1.out hqe
      have t0 := ((bcell hb).1 _ 0 sl).trans s0.out
      have t1 := ((bcell hb).1 _ 1 sl).trans s1.out
      have t2 := ((bcell hb).1 _ 2 sl).trans s2.out
      have t3 : w.heap.size < wr.heap.size := Nat.lt_of_lt_of_le sl hb.size
      have hFr := Lib.hid (hF'.out.below hBr)
      replace hSp := Lib.hid hSp
      replace hcs := Lib.hid hcs
      replace hBr := Lib.hid hBr
      clear hown hb hR0 hR1 hgood hbad hHg hT
      rcases hcs.out with ⟨EP, kP, rfl⟩ | ⟨P0, P1, kP, hQ⟩
      · replace kP := Lib.hid kP
        clear hcs
        go_upto_region 13 with fail
        go_cut [11, 12] from 47 to 52 (fun s11 s12 wx => s12 = .iface 118 (.int .i64 EP) ∧ Below w.heap.size w wx)
        case first =>
          go_region_with (first | (go_at_call 79; refine (base_k _ (hFr.out.below (by repeat (first | exact Below.refl _ _ | refine balloc ?_ _ | refine Below.drew ?_)))).mono ?_; rintro e wa ⟨rfl, hba⟩; have hwa : Below wr.heap.size wr wa := below_seq (by repeat (first | exact Below.refl _ _ | refine balloc ?_ _ | refine Below.drew ?_)) hba; have hza := hwa.size; have u0 := ((bcell hwa).1 _ 0 t3).trans t0; have u1 := ((bcell hwa).1 _ 1 t3).trans t1; have u2 := ((bcell hwa).1 _ 2 t3).trans t2; have u3 : w.heap.size < wa.heap.size := Nat.lt_of_lt_of_le t3 hza; (first | (refine hav_ (P := TwAt wa wr.heap.size ⟨0, 0⟩) (TwAt.below (TwZ _ _) hba) (fun kA => ?_)) | (refine hav_ (P := TwAt wa wr.heap.size ⟨0, 0⟩) (TwAt.below (TwD (TwZ _ _)) hba) (fun kA => ?_)) | skip)) | (go_at_call 20; refine (kP.out _ (below_seq (below_seq hBr.out hwa) (by repeat (first | exact Below.refl _ _ | refine balloc ?_ _ | refine Below.drew ?_)))).mono ?_; rintro e wb ⟨rfl, hbb⟩; have hwb : Below wa.heap.size wa wb := below_seq (by repeat (first | exact Below.refl _ _ | refine balloc ?_ _ | refine Below.drew ?_)) hbb; have hzb := hwb.size; (first | (have kB := kA.below hwb; obtain ⟨b0, b1, b2, b3, b4⟩ := kA.below hwb) | skip); (first | (refine hav_ (P := TwAt wb wa.heap.size ⟨0, 0⟩) (TwAt.below (TwZ _ _) hbb) (fun kC => ?_); obtain ⟨d0, d1, d2, d3, d4⟩ := kC) | (refine hav_ (P := TwAt wb wa.heap.size ⟨0, 0⟩) (TwAt.below (TwD (TwZ _ _)) hbb) (fun kC => ?_); obtain ⟨d0, d1, d2, d3, d4⟩ := kC) | skip)))
          all_goals
            go_wp2_with fail
            go_meet
            have hbb' := below_seq hwa hwb
            first
            | exact ⟨rfl, balloc (below_seq hBr.out hbb') _⟩
            | exact ⟨rfl, set2_below (below_seq hBr.out hbb') (by omega)⟩
        case rest =>
          obtain ⟨rfl, hBx⟩ := hcut
          clear t0 t1 t2 t3
          go_wp2
          go_ret2
          exact ⟨rfl, hBx⟩
      · replace kP := Lib.hid kP
        replace hQ := Lib.hid hQ
        clear hcs
        go_upto_region 13 with fail
        go_cut [11, 12] from 47 to 52 (fun s11 s12 wx => ∃ p : Nat, s11 = .pointer (some ⟨p, 0, none⟩) ∧ s12 = .nilIface ∧ wx.cell? ⟨p, 0, none⟩ = some (.int .i64 P0) ∧ wx.cell? ⟨p, 1, none⟩ = some (.int .i64 P1) ∧ p < wx.heap.size ∧ Below wr.heap.size wr wx)
        case first =>
          go_region_with (first | (go_at_call 79; refine (base_k _ (hFr.out.below (by repeat (first | exact Below.refl _ _ | refine balloc ?_ _ | refine Below.drew ?_)))).mono ?_; rintro e wa ⟨rfl, hba⟩; have hwa : Below wr.heap.size wr wa := below_seq (by repeat (first | exact Below.refl _ _ | refine balloc ?_ _ | refine Below.drew ?_)) hba; have hza := hwa.size; have u0 := ((bcell hwa).1 _ 0 t3).trans t0; have u1 := ((bcell hwa).1 _ 1 t3).trans t1; have u2 := ((bcell hwa).1 _ 2 t3).trans t2; have u3 : w.heap.size < wa.heap.size := Nat.lt_of_lt_of_le t3 hza; (first | (refine hav_ (P := TwAt wa wr.heap.size ⟨0, 0⟩) (TwAt.below (TwZ _ _) hba) (fun kA => ?_)) | (refine hav_ (P := TwAt wa wr.heap.size ⟨0, 0⟩) (TwAt.below (TwD (TwZ _ _)) hba) (fun kA => ?_)) | skip)) | (go_at_call 20; refine (kP.out _ (below_seq (below_seq hBr.out hwa) (by repeat (first | exact Below.refl _ _ | refine balloc ?_ _ | refine Below.drew ?_)))).mono ?_; rintro e wb ⟨rfl, hbb⟩; have hwb : Below wa.heap.size wa wb := below_seq (by repeat (first | exact Below.refl _ _ | refine balloc ?_ _ | refine Below.drew ?_)) hbb; have hzb := hwb.size; (first | (have kB := kA.below hwb; obtain ⟨b0, b1, b2, b3, b4⟩ := kA.below hwb) | skip); (first | (refine hav_ (P := TwAt wb wa.heap.size ⟨0, 0⟩) (TwAt.below (TwZ _ _) hbb) (fun kC => ?_); obtain ⟨d0, d1, d2, d3, d4⟩ := kC) | (refine hav_ (P := TwAt wb wa.heap.size ⟨0, 0⟩) (TwAt.below (TwD (TwZ _ _)) hbb) (fun kC => ?_); obtain ⟨d0, d1, d2, d3, d4⟩ := kC) | skip)))
          all_goals
            go_wp2_with fail
            go_meet
            have hbb' := below_seq hwa hwb
            first
            | exact ⟨_, rfl, rfl, by go_simp, by go_simp, by simp, balloc hbb' _⟩
            | exact ⟨_, rfl, rfl, (set2_cell b0 b1).1, (set2_cell b0 b1).2, by (simp only [World.size_setCell]; exact b4), set2_below hbb' (by omega)⟩
            | exact ⟨_, rfl, rfl, (set2_cell d0 d1).1, (set2_cell d0 d1).2, by (simp only [World.size_setCell]; exact d4), set2_below hbb' (by omega)⟩
        case rest =>
          obtain ⟨p, rfl, rfl, p0, p1, pl, hBx⟩ := hcut
          clear t0 t1 t2 t3
          have hSx := Lib.hid (hSp.out.below hBx)
          have hBw := Lib.hid (below_seq hBr.out hBx)
          rcases hQ.out with ⟨EQ, kQ, rfl⟩ | ⟨Q0, Q1, kQ, rfl⟩
          · replace kQ := Lib.hid kQ
            clear hQ
            go_wp2_with fail
            refine (kQ.out _ _ hBw.out hSx.out).mono ?_; rintro e wy ⟨rfl, hby⟩
            have hBy := Lib.hid (below_seq hBw.out hby)
            clear hby p0 p1 pl
            go_wp2
            go_ret2
            exact ⟨rfl, balloc hBy.out _⟩
          · replace kQ := Lib.hid kQ
            clear hQ
            go_wp2_with fail
            refine (kQ.out _ _ hBw.out hSx.out).mono ?_; rintro e wy ⟨rfl, hby⟩
            have hBy := Lib.hid (below_seq hBw.out hby)
            have y0 := ((bcell hby).1 _ 0 pl).trans p0
            have y1 := ((bcell hby).1 _ 1 pl).trans p1
            have yl := Nat.lt_of_lt_of_le pl hby.size
            clear hby p0 p1 pl
            go_wp2
            go_ret2
            exact ⟨rfl, balloc hBy.out _⟩
end Go.Proofs.YtfnifdmnbccblaaDoor
namespace Go.Proofs.YtfnifdmnbccblaaDoor
open Go.RowKit
set_option maxRecDepth 100000
set_option linter.unusedVariables false
set_option linter.unusedSimpArgs false
set_option maxHeartbeats 4000000 in
theorem join_core (L : List Sp) (f : Nat → Int) (kk : Nat) (E : Int) (a1 : Option Addr) (c : Nat) (R : Value) (w : World) (hF : FarAt w) (hl : L.length ≤ 12) (hL : 0 < L.length → ∃ b o, a1 = some ⟨b, o, none⟩ ∧ SpotsAt w b o L) (h : Hid (∀ k (h1 : k < L.length), k < kk → L[k] = sq (f k))) (hkk : kk ≤ L.length) (hbad : Hid (∀ h : kk < L.length, sCheck L[kk] = E ∧ E ≠ 0))
    (hR0 : Hid (kk < L.length → R = .tuple #[spV ⟨0, 0, false⟩, .iface 118 (.int .i64 E)])) (hR1 : Hid (kk = L.length → R = .tuple #[spV (sq (sumF f L.length)), .nilIface])) :
    Calls Tryd.prog 16 #[.slice a1 L.length c] w fun e w' => e = .returned R ∧ Below w.heap.size w w' := by
  have hF' := Lib.hid hF
  have hL' := Lib.hid hL
  have hd : decide ((12 : Int) < (L.length : Int)) = false := by rw [decide_eq_false_iff_not]; omega
  obtain ⟨q0, q1, q2, ql⟩ := hF
  clear hL
  go_enter Tryd.func16, Tryd.ntmps16
  go_wp2
  have t0 : SpAt ((w.alloc (.cells #[.int .i64 0, .int .i64 0, .bool false] 25)).alloc (.cells #[.int .i64 0, .int .i64 0, .bool true] 25)) w.heap.size ⟨0, 0, false⟩ := (SpAt.fresh _ _ _ _ _).alloc _
  have t1 : SpAt ((w.alloc (.cells #[.int .i64 0, .int .i64 0, .bool false] 25)).alloc (.cells #[.int .i64 0, .int .i64 0, .bool true] 25)) (w.heap.size + 1) ⟨0, 0, true⟩ := SpAt.fresh1 _ _ _ _ _ _
  have tb := balloc (below_alloc w (.cells #[.int .i64 0, .int .i64 0, .bool false] 25)) (.cells #[.int .i64 0, .int .i64 0, .bool true] 25)
  replace t0 := Lib.hid t0
  replace t1 := Lib.hid t1
  replace tb := Lib.hid tb
  clear q0 q1 q2 ql hd
  generalize (w.alloc (.cells #[.int .i64 0, .int .i64 0, .bool false] 25)).alloc (.cells #[.int .i64 0, .int .i64 0, .bool true] 25) = w0 at *
  go_loopw [16] (fun i wr => ∃ n : Nat, n ≤ L.length ∧ n ≤ kk ∧ i = .int .i64 n ∧ SpAt wr w.heap.size ⟨0, 0, false⟩ ∧ SpAt wr (w.heap.size + 1) (sq (sumF f n)) ∧ Below w.heap.size w wr) (fun i _ => L.length - (intOf i).toNat)
  case atStart => exact ⟨0, Nat.zero_le _, Nat.zero_le _, rfl, t0.out, (by show SpAt w0 _ (sq 0); rw [sq_zero]; exact t1.out), tb.out⟩
  case round =>
    clear t0 t1 tb
    obtain ⟨n, hn, hnk, rfl, hr, ho, hB⟩ := hrel
    have hol := ho.lt
    have hrl := hr.lt
    replace hr := Lib.hid hr
    replace ho := Lib.hid ho
    by_cases hlt : n < L.length
    · obtain ⟨b, o, rfl, hs0⟩ := hL'.out (by omega)
      have hsL := hs0.below hB
      have l1 := hsL.cx n hlt
      have l2 := hsL.cy n hlt
      have l3 := hsL.cf n hlt
      by_cases hlk : n < kk
      · have oA : Ok L[n] := by rw [h.out n hlt hlk]; exact sq_ok _
        have hs : Hid (sSum (sq (sumF f n)) L[n] = sq (sumF f (n + 1))) := by show _ = _; rw [h.out n hlt hlk, sq_add]; rfl
        clear hsL hs0
        generalize hA : L[n] = A at *
        clear hA
        go_wp2_with fail
        refine (check_ok A _ (hF'.out.below (balloc hB _)) oA).mono ?_; rintro e w1 ⟨rfl, hb⟩
        have hB1 := below_seq (balloc hB _) hb
        have hr1 := (hr.out.alloc _).below hb
        have ho1 := (ho.out.alloc _).below hb
        have ha1 := (SpAt.fresh wr A.x A.y A.far 25).below hb
        obtain ⟨a0, a1, a2, -, -, -, al⟩ := ha1
        have hz := hb.size
        have ho1' := Lib.hid ho1
        have hr1' := Lib.hid hr1
        obtain ⟨o0, o1, o2, of0, of1, of2, ol⟩ := ho1
        clear hr ho hB hb hr1 l1 l2 l3
        have oS : Ok (sq (sumF f n)) := sq_ok _
        generalize hS : sq (sumF f n) = S at *
        go_wp2_with fail
        refine (sum_e S A _ _ (hF'.out.below hB1) oS oA hs).mono ?_; rintro e w2 ⟨rfl, hb⟩
        have hB2 := below_seq hB1 hb
        have hr2 := hr1'.out.below hb
        have ho2 := ho1'.out.below hb
        have ho2' := Lib.hid ho2
        clear a0 a1 a2 al o0 o1 o2 of0 of1 of2 hb
        obtain ⟨o0, o1, o2, of0, of1, of2, ol2⟩ := ho2
        generalize hV : sq (sumF f (n + 1)) = V at *
        replace hV := Lib.hid hV
        go_wp2
        go_roundw
        case rel => exact ⟨n + 1, by omega, by omega, by go_num, hr2.set3o (by omega) _ _ _, by rw [hV.out]; exact ho2'.out.set3 _, set3_below hB2 (by omega)⟩
        case measure => simp [intOf]; omega
      · obtain rfl : n = kk := by omega
        obtain ⟨hc, hE⟩ := hbad.out hlt
        have hR := hR0.out hlt
        subst hR
        clear hsL hs0 h hbad hR0 hR1
        generalize L[n] = A at *
        replace hc := Lib.hid hc
        go_wp2_with fail
        refine (check_v A E _ (hF'.out.below (balloc hB _)) hc hE).mono ?_; rintro e w1 ⟨rfl, hb⟩
        have hB1 := below_seq (balloc hB _) hb
        have hr1 := (hr.out.alloc _).below hb
        clear hr ho hB hb l1 l2 l3
        obtain ⟨r0, r1, r2, rf0, rf1, rf2, rl⟩ := hr1
        go_wp2
        have k := set3_cell (w := w1) (x := .int .i64 0) (y := .int .i64 0) (z := .bool false) r0 r1 r2
        refine bodyPost_ret (v := .tuple #[spV ⟨0, 0, false⟩, .iface 118 (.int .i64 E)]) (by simp [results, Tryd.results16, go_sem, k.1, k.2.1, k.2.2]) rfl ⟨rfl, set3_below hB1 (by omega)⟩
    · have hn2 : n = L.length := by omega
      have ho2 := ho.out
      rw [hn2] at ho2
      obtain ⟨r0, r1, r2, rf0, rf1, rf2, rl⟩ := hr.out
      obtain ⟨p0, p1, p2, pf0, pf1, pf2, pl⟩ := ho2
      generalize hV : sq (sumF f L.length) = V at *
      go_wp2
      have k := set3_cell (w := wr) (x := .int .i64 V.x) (y := .int .i64 V.y) (z := .bool V.far) r0 r1 r2
      refine bodyPost_ret (v := .tuple #[spV V, .nilIface]) (by simp [results, Tryd.results16, go_sem, k.1, k.2.1, k.2.2]) rfl ⟨by rw [hR1.out (by omega)], set3_below hB (by omega)⟩
set_option maxHeartbeats 1000000 in
theorem join_full (n : Nat) (a1 : Option Addr) (c : Nat) (w : World) (h : 12 < n) (hn : n ≤ 9223372036854775807) :
    Calls Tryd.prog 16 #[.slice a1 n c] w fun e w' => e = .returned (.tuple #[spV ⟨0, 0, false⟩, .iface 118 (.int .i64 4)]) ∧ Below w.heap.size w w' := by
  go_enter Tryd.func16, Tryd.ntmps16
  go_wp2
  refine bodyPost_ret (v := .tuple #[spV ⟨0, 0, false⟩, .iface 118 (.int .i64 4)]) (by simp [results, Tryd.results16, go_sem]) rfl ⟨rfl, below_alloc _ _⟩
set_option maxHeartbeats 4000000 in
theorem rJoin_c (L : List Sp) (f : Nat → Int) (a1 : Option Addr) (c : Nat) (w : World) (hl : L.length ≤ 12) (hL : 0 < L.length → ∃ b o, a1 = some ⟨b, o, none⟩ ∧ SpotsAt w b o L) (h : Hid (∀ k (h1 : k < L.length), L[k] = sq (f k))) :
    Calls Tryd.prog 72 #[.slice a1 L.length c] w fun e w' => e = .returned (spV (sq (sumF f L.length))) ∧ Below w.heap.size w w' := by
  have hL' := Lib.hid hL
  clear hL
  go_enter Tryd.func72, Tryd.ntmps72
  go_wp2
  have t0 : SpAt ((w.alloc (.cells #[.int .i64 0, .int .i64 0, .bool false] 25)).alloc (.cells #[.int .i64 0, .int .i64 0, .bool true] 25)) w.heap.size ⟨0, 0, false⟩ := (SpAt.fresh _ _ _ _ _).alloc _
  have t1 : SpAt ((w.alloc (.cells #[.int .i64 0, .int .i64 0, .bool false] 25)).alloc (.cells #[.int .i64 0, .int .i64 0, .bool true] 25)) (w.heap.size + 1) ⟨0, 0, true⟩ := SpAt.fresh1 _ _ _ _ _ _
  have tb := balloc (below_alloc w (.cells #[.int .i64 0, .int .i64 0, .bool false] 25)) (.cells #[.int .i64 0, .int .i64 0, .bool true] 25)
  replace t0 := Lib.hid t0
  replace t1 := Lib.hid t1
  replace tb := Lib.hid tb
  generalize (w.alloc (.cells #[.int .i64 0, .int .i64 0, .bool false] 25)).alloc (.cells #[.int .i64 0, .int .i64 0, .bool true] 25) = w0 at *
  go_loopw [4] (fun i wr => ∃ n : Nat, n ≤ L.length ∧ i = .int .i64 n ∧ SpAt wr w.heap.size ⟨0, 0, false⟩ ∧ SpAt wr (w.heap.size + 1) (sq (sumF f n)) ∧ Below w.heap.size w wr) (fun i _ => L.length - (intOf i).toNat)
  case atStart => exact ⟨0, Nat.zero_le _, rfl, t0.out, (by show SpAt w0 _ (sq 0); rw [sq_zero]; exact t1.out), tb.out⟩
  case round =>
    clear t0 t1 tb
    obtain ⟨n, hn, rfl, hr, ho, hB⟩ := hrel
    replace hr := Lib.hid hr
    replace ho := Lib.hid ho
    by_cases hlt : n < L.length
    · obtain ⟨b, o, rfl, hs0⟩ := hL'.out (by omega)
      have hsL := hs0.below hB
      have l1 := hsL.cx n hlt
      have l2 := hsL.cy n hlt
      have l3 := hsL.cf n hlt
      have l4 := hsL.lt
      have oA : Ok L[n] := by rw [h.out n hlt]; exact sq_ok _
      have hs : Hid (sSum (sq (sumF f n)) L[n] = sq (sumF f (n + 1))) := by show _ = _; rw [h.out n hlt, sq_add]; rfl
      clear hsL hs0
      generalize hA : L[n] = A at *
      clear hA
      have oS : Ok (sq (sumF f n)) := sq_ok _
      generalize hS : sq (sumF f n) = S at *
      obtain ⟨V, hV⟩ : ∃ V, sq (sumF f (n + 1)) = V := ⟨_, rfl⟩
      rw [hV] at hs
      replace hV := Lib.hid hV
      obtain ⟨o0, o1, o2, of0, of1, of2, ol⟩ := ho.out
      go_wp2_with fail
      refine wp_region_grow_tail 6 Tryd.mixed (by kernel_rfl) ?_
      simp only [List.take_succ_cons, List.take_zero, List.drop_succ_cons, List.drop_zero]
      repeat (quiet_step ((go_at_call 30; exact grow_of (refAdd_e S A V _ oS oA hs))))
      refine wpQuiet_nil ?_
      intro _ hw'
      obtain ⟨x5, rfl⟩ := hw'
      have hB5 := Lib.hid (below_seq hB x5.h)
      have hr5 := Lib.hid (hr.out.below x5.h)
      have ho5 := Lib.hid (ho.out.below x5.h)
      clear o0 o1 o2 of0 of1 of2 ol l1 l2 l3 l4 hB hr ho hS
      generalize hyw : x5.w = w5 at *
      clear hyw x5
      obtain ⟨o0, o1, o2, of0, of1, of2, ol⟩ := ho5.out
      go_wp2
      go_roundw
      case rel => exact ⟨n + 1, by omega, by go_num, hr5.out.set3o (by omega) _ _ _, by rw [hV.out]; exact ho5.out.set3 _, set3_below hB5.out (by omega)⟩
      case measure => simp [intOf]; omega
    · have hn2 : n = L.length := by omega
      have ho2 := ho.out
      rw [hn2] at ho2
      obtain ⟨r0, r1, r2, rf0, rf1, rf2, rl⟩ := hr.out
      obtain ⟨p0, p1, p2, pf0, pf1, pf2, pl⟩ := ho2
      generalize hV : sq (sumF f L.length) = V at *
      go_wp2
      have k := set3_cell (w := wr) (x := .int .i64 V.x) (y := .int .i64 V.y) (z := .bool V.far) r0 r1 r2
      refine bodyPost_ret (v := spV V) (by simp [results, Tryd.results72, go_sem, k.1, k.2.1, k.2.2]) rfl ⟨by rw [← hV], set3_below hB (by omega)⟩
set_option maxHeartbeats 4000000 in
theorem rPairs_c (L M : List Sp) (f g : Nat → Int) (a1 a2 : Option Addr) (c1 c2 : Nat) (w : World) (hl : L.length ≤ 12) (hm : M.length = L.length) (hL : 0 < L.length → ∃ b1 o1, a1 = some ⟨b1, o1, none⟩ ∧ SpotsAt w b1 o1 L) (hM : 0 < M.length → ∃ b2 o2, a2 = some ⟨b2, o2, none⟩ ∧ SpotsAt w b2 o2 M)
    (h : Hid (∀ k (h1 : k < L.length) (h2 : k < M.length), Cnt L[k] (f k) ∧ Cnt M[k] (g k))) :
    Calls Tryd.prog 73 #[.slice a1 L.length c1, .slice a2 M.length c2] w fun e w' => e = .returned (twR (zp (prodN (fun k => f k * g k) L.length))) ∧ Below w.heap.size w w' := by
  have hL' := Lib.hid hL
  have hM' := Lib.hid hM
  have hm' := Lib.hid hm
  have hz0 := Lib.hid zp_zero
  clear hL hM
  rw [hm]
  clear hm
  go_enter Tryd.func73, Tryd.ntmps73
  go_wp2
  have t0 : TwAt ((w.alloc (.cells #[.int .i64 0, .int .i64 0] 40)).alloc (.cells #[.int .i64 1, .int .i64 0] 40)) w.heap.size ⟨0, 0⟩ := TwAt.zero_of (by go_simp) (by go_simp) (by go_simp) (by go_simp) (by simp; omega)
  have t1 : TwAt ((w.alloc (.cells #[.int .i64 0, .int .i64 0] 40)).alloc (.cells #[.int .i64 1, .int .i64 0] 40)) (w.heap.size + 1) .one := TwAt.one_of (by go_simp) (by go_simp) (by go_simp) (by go_simp) (by simp)
  have tb := balloc (below_alloc w (.cells #[.int .i64 0, .int .i64 0] 40)) (.cells #[.int .i64 1, .int .i64 0] 40)
  have t0 := Lib.hid t0
  have t1 := Lib.hid t1
  have tb := Lib.hid tb
  generalize (w.alloc (.cells #[.int .i64 0, .int .i64 0] 40)).alloc (.cells #[.int .i64 1, .int .i64 0] 40) = w0 at *
  go_loopw [6] (fun i wr => ∃ n : Nat, n ≤ L.length ∧ i = .int .i64 n ∧ TwAt wr w.heap.size ⟨0, 0⟩ ∧ TwAt wr (w.heap.size + 1) (zp (prodN (fun k => f k * g k) n)) ∧ Below w.heap.size w wr) (fun i _ => L.length - (intOf i).toNat)
  case atStart => exact ⟨0, Nat.zero_le _, rfl, t0.out, (by show TwAt w0 _ (zp 0); rw [hz0.out]; exact t1.out), tb.out⟩
  case round =>
    clear t0 t1 tb hz0
    obtain ⟨n, hn, rfl, hr, ho, hB⟩ := hrel
    replace hr := Lib.hid hr
    replace ho := Lib.hid ho
    by_cases hlt : n < L.length
    · have hlt2 : n < M.length := by rw [hm'.out]; exact hlt
      obtain ⟨b1, o1, rfl, hsL0⟩ := hL'.out (by omega)
      obtain ⟨b2, o2, rfl, hsM0⟩ := hM'.out (by omega)
      have hsL := hsL0.below hB
      have hsM := hsM0.below hB
      have hc := h.out n hlt hlt2
      have l1 := hsL.cx n hlt
      have l2 := hsL.cy n hlt
      have l3 := hsL.cf n hlt
      have l4 := hsL.lt
      have m1 := hsM.cx n hlt2
      have m2 := hsM.cy n hlt2
      have m3 := hsM.cf n hlt2
      have m4 := hsM.lt
      clear hsL hsM hsL0 hsM0
      generalize hA : L[n] = A at *
      generalize hC : M[n] = C at *
      clear hA hC
      have cA := Lib.hid hc.1
      have cC := Lib.hid hc.2
      have hm := Lib.hid (prod_next f g n)
      generalize hP : zp (f n * g n) = P at *
      generalize hQ : zp (prodN (fun k => f k * g k) n) = Q at *
      obtain ⟨V, hV⟩ : ∃ V, zp (prodN (fun k => f k * g k) (n + 1)) = V := ⟨_, rfl⟩
      rw [hV] at hm
      replace hP := Lib.hid hP
      replace hV := Lib.hid hV
      clear hQ hc
      obtain ⟨o0, o1', of0, of1, ol⟩ := ho.out
      go_wp2_with fail
      refine wp_region_grow_tail 11 Tryd.mixed (by kernel_rfl) ?_
      simp only [List.take_succ_cons, List.take_zero, List.drop_succ_cons, List.drop_zero]
      repeat (quiet_step ((first | (go_at_call 19; exact grow_of (refPair_e A C (f n) (g n) P _ cA cC hP)) | (go_at_call 23; exact grow_of (refTwinMul_e Q P V _ hm)))))
      refine wpQuiet_nil ?_
      intro _ hw'
      obtain ⟨x5, rfl⟩ := hw'
      have hB5 := Lib.hid (below_seq hB x5.h)
      have hr5 := Lib.hid (hr.out.below x5.h)
      have ho5 := Lib.hid (ho.out.below x5.h)
      clear o0 o1' of0 of1 ol l1 l2 l3 l4 m1 m2 m3 m4 hB hr ho
      generalize hyw : x5.w = w5 at *
      clear hyw x5
      obtain ⟨o0, o1', of0, of1, ol⟩ := ho5.out
      go_wp2
      go_roundw
      case rel => exact ⟨n + 1, by omega, by go_num, (hr5.out.other _ (by omega)).other _ (by omega), by rw [hV.out]; exact ho5.out.set2 _, set2_below hB5.out (by omega)⟩
      case measure => simp [intOf]; omega
    · have hn2 : n = L.length := by omega
      have ho2 := ho.out
      rw [hn2] at ho2
      obtain ⟨r0, r1, rf0, rf1, rl⟩ := hr.out
      obtain ⟨p0, p1, pf0, pf1, pl⟩ := ho2
      generalize hV : zp (prodN (fun k => f k * g k) L.length) = V at *
      go_wp2
      have k := set2_cell (w := wr) (x := .int .i64 (fz V.re)) (y := .int .i64 (fz V.im)) r0 r1
      refine bodyPost_ret (v := twR V) (by simp [results, Tryd.results73, go_sem, k.1, k.2]) rfl ⟨by rw [← hV], set2_below hB (by omega)⟩
end Go.Proofs.YtfnifdmnbccblaaDoor
namespace Go.Proofs.YtfnifdmnbccblaaDoor
abbrev Q := Fin 1013
def qE : Nat := 1011
def qinv (a : Q) : Q := ⟨a.val ^ qE % 1013, Nat.mod_lt _ (by decide)⟩
def qchk : Nat → Bool
  | 0 => true
  | k+1 => (k == 0 || (k * (k ^ qE % 1013) % 1013 == 1)) && qchk k
theorem qchk_ok : qchk 1013 = true := by decide +kernel
theorem qchk_at : ∀ n, qchk n = true → ∀ k, k < n → k ≠ 0 → k * (k ^ qE % 1013) % 1013 = 1
  | 0, _, _, hk, _ => absurd hk (Nat.not_lt_zero _)
  | n+1, h, k, hk, h0 => by
    simp only [qchk, Bool.and_eq_true, Bool.or_eq_true, beq_iff_eq] at h
    rcases Nat.lt_succ_iff_lt_or_eq.mp hk with h1 | h1
    · exact qchk_at n h.2 k h1 h0
    · subst h1; rcases h.1 with h2 | h2
      · exact absurd h2 h0
      · exact h2
theorem qmul_inv {a : Q} (h : a ≠ 0) : a * qinv a = 1 := by
  apply Fin.ext
  have := qchk_at 1013 qchk_ok a.val a.isLt (fun e => h (Fin.ext e))
  simpa [Fin.mul_def, qinv] using this
theorem qzero_or {a b : Q} (h : a * b = 0) : a = 0 ∨ b = 0 := by
  by_cases ha : a = 0
  · exact .inl ha
  · right; have h1 := qmul_inv ha
    have : qinv a * (a * b) = qinv a * 0 := by rw [h]
    grobner
theorem qcancel {a b c : Q} (hc : c ≠ 0) (h : c * a = c * b) : a = b := by
  have h1 := qmul_inv hc
  have : qinv c * (c * a) = qinv c * (c * b) := by rw [h]
  grobner
def qi (z : Int) : Q := ⟨(z % 1013).toNat, by omega⟩
theorem qi_val (z : Int) : ((qi z).val : Int) = z % 1013 := by simp only [qi]; omega
theorem qi_eq {a b : Int} : qi a = qi b ↔ a % 1013 = b % 1013 := by
  constructor
  · intro h; have := congrArg (fun x : Q => (x.val : Int)) h; simpa only [qi_val] using this
  · intro h; simp only [qi, h]
theorem qi_ext {a : Q} {z : Int} (h : (a.val : Int) = z % 1013) : a = qi z := by
  apply Fin.ext; have := qi_val z; omega
theorem qi_mod (z : Int) : qi (z % 1013) = qi z := qi_eq.mpr (by omega)
theorem qi_add (a b : Int) : qi (a + b) = qi a + qi b := by
  symm; apply qi_ext; rw [Fin.val_add]; have ha := qi_val a; have hb := qi_val b; omega
theorem qi_mul (a b : Int) : qi (a * b) = qi a * qi b := by
  symm; apply qi_ext; rw [Fin.val_mul]; have ha := qi_val a; have hb := qi_val b
  rw [Int.mul_emod, ← ha, ← hb]; simp
theorem qi_zero : qi 0 = 0 := rfl
theorem qi_one : qi 1 = 1 := rfl
theorem qi_neg (a : Int) : qi (-a) = - qi a := by
  have : qi (-a + a) = qi (-a) + qi a := qi_add _ _
  rw [show -a + a = 0 by omega, qi_zero] at this; grobner
theorem qi_sub (a b : Int) : qi (a - b) = qi a - qi b := by
  have := qi_add a (-b); rw [qi_neg] at this; rw [show a - b = a + -b by omega, this]; grobner
theorem qi_pow (a : Int) : ∀ n : Nat, qi (a ^ n) = qi a ^ n
  | 0 => by simp [qi_one]
  | n+1 => by rw [Int.pow_succ, qi_mul, qi_pow a n]; grobner
theorem qval_pow (a : Q) : ∀ n : Nat, (a ^ n).val = a.val ^ n % 1013
  | 0 => rfl
  | n+1 => by
    have : a ^ (n+1) = a ^ n * a := by grobner
    rw [this, Fin.val_mul, qval_pow a n, Nat.pow_succ, Nat.mod_mul_mod]
theorem qpowv (a : Q) (n : Nat) (h : a.val ^ n % 1013 < 1013) : (⟨a.val ^ n % 1013, h⟩ : Q) = a ^ n := Fin.ext (qval_pow a n).symm
theorem qinv_pow (a : Q) : qinv a = a ^ qE := qpowv a qE _
theorem qi_inj {a b : Int} (ha : 0 ≤ a ∧ a < 1013) (hb : 0 ≤ b ∧ b < 1013) (h : qi a = qi b) : a = b := by have := qi_eq.mp h; omega
theorem qi_ne {a : Int} (h1 : 1 ≤ a) (h2 : a < 1013) : qi a ≠ 0 := fun h => by
  have := qi_inj (by omega) (by omega) (h.trans qi_zero.symm); omega

/-- The weight of a place x among some. -/
def wt (x : Q) : List Q → Q
  | [] => 1
  | y :: l => if y = x then wt x l else y * qinv (y - x) * wt x l
def qsum (f : Q → Q) : List Q → Q
  | [] => 0
  | y :: l => f y + qsum f l
/-- What values, times the weights, add up to. -/
def lag (xs : List Q) (f : Q → Q) : Q := qsum (fun x => wt x xs * f x) xs
/-- A polynomial's value: the coefficient of the power 0 first. -/
def ev : List Q → Q → Q
  | [], _ => 0
  | c :: l, t => c + t * ev l t
/-- The quotient by (t - r). -/
def quo (r : Q) : List Q → List Q
  | [] => []
  | _ :: l => match l with
    | [] => []
    | _ => ev l r :: quo r l
theorem qsum_congr {f g : Q → Q} : ∀ {l : List Q}, (∀ x ∈ l, f x = g x) → qsum f l = qsum g l
  | [], _ => rfl
  | y :: l, h => by
    simp only [qsum]; rw [h y (by simp), qsum_congr fun x hx => h x (by simp [hx])]
theorem qsum_add (f g : Q → Q) : ∀ l : List Q, qsum (fun x => f x + g x) l = qsum f l + qsum g l
  | [] => by simp only [qsum]; grobner
  | y :: l => by simp only [qsum]; rw [qsum_add f g l]; grobner
theorem qsum_mul (c : Q) (f : Q → Q) : ∀ l : List Q, qsum (fun x => c * f x) l = c * qsum f l
  | [] => by simp only [qsum]; grobner
  | y :: l => by simp only [qsum]; rw [qsum_mul c f l]; grobner
theorem lag_add (xs : List Q) (f g : Q → Q) : lag xs (fun x => f x + g x) = lag xs f + lag xs g := by
  unfold lag; rw [← qsum_add]; exact qsum_congr fun x _ => by grobner
theorem lag_mul (xs : List Q) (c : Q) (f : Q → Q) : lag xs (fun x => c * f x) = c * lag xs f := by
  unfold lag; rw [← qsum_mul]; exact qsum_congr fun x _ => by grobner
theorem lag_congr {xs : List Q} {f g : Q → Q} (h : ∀ x ∈ xs, f x = g x) : lag xs f = lag xs g :=
  qsum_congr fun x hx => by rw [h x hx]
/-- The first place out. -/
theorem lag_out {x1 : Q} {xs : List Q} (h1 : x1 ∉ xs) (f : Q → Q) : lag (x1 :: xs) (fun x => (x - x1) * f x) = - x1 * lag xs f := by
  unfold lag
  rw [← qsum_mul]
  simp only [qsum]
  rw [show wt x1 (x1 :: xs) * ((x1 - x1) * f x1) = 0 by grobner]
  have : qsum (fun x => wt x (x1 :: xs) * ((x - x1) * f x)) xs = qsum (fun x => -x1 * (wt x xs * f x)) xs := by
    apply qsum_congr
    intro x hx
    have hne : x1 ≠ x := fun e => h1 (e ▸ hx)
    have e : wt x (x1 :: xs) = x1 * qinv (x1 - x) * wt x xs := by simp only [wt]; rw [if_neg hne]
    have hd : x1 - x ≠ 0 := fun e => hne (by grobner)
    have k := qmul_inv hd
    rw [e]
    generalize qinv (x1 - x) = i at *
    clear e hd hne hx h1
    grobner
  rw [this]; grobner
theorem wt_swap (x a b : Q) (l : List Q) : wt x (a :: b :: l) = wt x (b :: a :: l) := by
  simp only [wt]; split <;> split <;> grobner
theorem lag_swap (a b : Q) (l : List Q) (f : Q → Q) : lag (a :: b :: l) f = lag (b :: a :: l) f := by
  unfold lag
  have : qsum (fun x => wt x (a :: b :: l) * f x) (a :: b :: l) = qsum (fun x => wt x (b :: a :: l) * f x) (a :: b :: l) := qsum_congr fun x _ => by rw [wt_swap]
  rw [this]; simp only [qsum]; grobner
theorem lag_one : ∀ (n : Nat) (xs : List Q), xs.length = n + 1 → xs.Nodup → lag xs (fun _ => 1) = 1
  | 0, xs, hl, _ => by
    match xs, hl with
    | [a], _ => simp only [lag, qsum, wt, if_true]; grobner
  | n+1, xs, hl, hd => by
    match xs, hl with
    | a :: b :: l, hl =>
      have hab : a ∉ b :: l := (List.nodup_cons.mp hd).1
      have hd2 : (b :: a :: l).Nodup := by
        have := (List.nodup_cons.mp hd).2
        have := (List.nodup_cons.mp this)
        simp only [List.mem_cons, not_or] at hab
        refine List.nodup_cons.mpr ⟨?_, List.nodup_cons.mpr ⟨hab.2, this.2⟩⟩
        simp only [List.mem_cons, not_or]; exact ⟨fun e => hab.1 e.symm, this.1⟩
      have i1 := lag_one n (b :: l) (by simpa using hl) (List.nodup_cons.mp hd).2
      have i2 := lag_one n (a :: l) (by simpa using hl) (List.nodup_cons.mp hd2).2
      have o1 := lag_out hab (fun _ => 1)
      have o2 := lag_out (List.nodup_cons.mp hd2).1 (fun _ => 1)
      rw [i1] at o1; rw [i2, lag_swap] at o2
      have d : lag (a :: b :: l) (fun _ => (b - a) * 1) = (b - a) * 1 := by
        have e : lag (a :: b :: l) (fun _ => (b - a) * 1) = lag (a :: b :: l) (fun x => (x - a) * 1 + (-1) * ((x - b) * 1)) := lag_congr fun x _ => by grobner
        rw [e, lag_add, lag_mul, o1, o2]; grobner
      rw [lag_mul] at d
      refine qcancel (fun e => ?_) d
      exact hab (by have : a = b := by grobner
                    rw [this]; simp)
theorem ev_quo (r t : Q) : ∀ p : List Q, ev p t = ev p r + (t - r) * ev (quo r p) t
  | [] => by simp only [ev, quo]; grobner
  | [c] => by simp only [ev, quo]; grobner
  | c :: d :: l => by
    have ih := ev_quo r t (d :: l)
    show c + t * ev (d :: l) t = c + r * ev (d :: l) r + (t - r) * (ev (d :: l) r + t * ev (quo r (d :: l)) t)
    generalize ev (d :: l) t = A at *
    generalize ev (d :: l) r = B at *
    generalize ev (quo r (d :: l)) t = C at *
    subst ih; grobner
theorem quo_len (r : Q) : ∀ p : List Q, (quo r p).length = p.length - 1
  | [] => rfl
  | [_] => rfl
  | _ :: d :: l => by
    have := quo_len r (d :: l)
    show (quo r (d :: l)).length + 1 = _
    rw [this]; simp
/-- Any so many of them tell it (Lagrange, Shamir): of a polynomial of no more coefficients than places the values tell its value at 0. -/
theorem lag_ev : ∀ (xs : List Q) (p : List Q), xs ≠ [] → xs.Nodup → p.length ≤ xs.length → lag xs (ev p) = ev p 0
  | [], _, h, _, _ => absurd rfl h
  | [a], p, _, _, hp => by
    match p, hp with
    | [], _ => simp only [lag, qsum, wt, ev, if_true]; grobner
    | [c], _ => simp only [lag, qsum, wt, ev, if_true]; grobner
  | a :: b :: l, p, _, hd, hp => by
    have ih := lag_ev (b :: l) (quo a p) (by simp) (List.nodup_cons.mp hd).2 (by rw [quo_len]; simp only [List.length_cons] at hp ⊢; omega)
    have e : lag (a :: b :: l) (ev p) = lag (a :: b :: l) (fun x => ev p a * 1 + (x - a) * ev (quo a p) x) := lag_congr fun x _ => by
      rw [ev_quo a x p]; grobner
    rw [e, lag_add, lag_mul, lag_one (l.length + 1) _ (by simp) hd, lag_out (List.nodup_cons.mp hd).1, ih, ev_quo a 0 p]; grobner
end Go.Proofs.YtfnifdmnbccblaaDoor
namespace Go.Proofs.YtfnifdmnbccblaaDoor
theorem q_solve {h : Int} (d : Int) (h1 : 1 ≤ h) (h2 : h < 1013) : ∃ n : Int, 0 ≤ n ∧ n < 1013 ∧ (h * n) % 1013 = d % 1013 := by
  have hi := qmul_inv (qi_ne h1 h2)
  refine ⟨((qinv (qi h) * qi d).val : Int), by omega, by have := (qinv (qi h) * qi d).isLt; omega, ?_⟩
  apply qi_eq.mp
  have e : qi ((qinv (qi h) * qi d).val : Int) = qinv (qi h) * qi d := by
    symm; apply qi_ext; have := (qinv (qi h) * qi d).isLt; omega
  rw [qi_mul, e]
  generalize qinv (qi h) = i at *
  have : qi h * (i * qi d) = (qi h * i) * qi d := by grobner
  rw [this, hi]; grobner
theorem q_inj {h n m : Int} (h1 : 1 ≤ h) (h2 : h < 1013) (e : (h * n) % 1013 = (h * m) % 1013) : n % 1013 = m % 1013 := by
  have := qi_eq.mpr e
  rw [qi_mul, qi_mul] at this
  exact qi_eq.mp (qcancel (qi_ne h1 h2) this)
end Go.Proofs.YtfnifdmnbccblaaDoor
namespace Go.Proofs.YtfnifdmnbccblaaDoor
open Go.RowKit
set_option linter.unusedVariables false
/-- Two slices that own no block together. -/
def Ap (u v : Value) : Prop := ∀ g, u.ownBlock = some g → v.ownBlock ≠ some g
theorem Ap.symm {u v : Value} (h : Ap u v) : Ap v u := fun g hv hu => h g hu hv
theorem Ap.nil (v : Value) : Ap (.slice none 0 0) v := fun g h => by cases h
/-- What is appended to one leaves the other one. -/
theorem row_pair {w w' : World} {B e size n : Nat} {u u' v : Value} {ys : List Value} (hv : w.ownsRow B e size v n ys) (ha : Ap u v) (hg : w.grownBy w' u.ownBlock) (hl : u'.ownBlock = u.ownBlock ∨ u'.ownBlock = some w.heap.size) : w'.ownsRow B e size v n ys ∧ Ap u' v := by
  refine ⟨hv.kept hg ?_, fun g h1 h2 => ?_⟩
  · cases hvb : v.ownBlock with
    | none => exact .inl rfl
    | some k => exact .inr (fun e => ha k e.symm hvb)
  · rcases hl with e | e
    · exact ha g (e.symm.trans h1) h2
    · rw [e] at h1
      have := (hv.lt g h2).2
      cases h1
      exact Nat.lt_irrefl _ this
end Go.Proofs.YtfnifdmnbccblaaDoor
namespace Go.Proofs.YtfnifdmnbccblaaDoor
open Go.RowKit
set_option maxRecDepth 100000
set_option linter.unusedVariables false
set_option linter.unusedSimpArgs false
theorem zp_inj {n m : Int} (h : zp n = zp m) : n % 1013 = m % 1013 := by
  have h1 : zp (n - m) = .one := by
    have a := congrArg (fun z => Z.mul z (zp (-m))) h
    simp only [zp_mul] at a
    rw [show m + -m = 0 by omega, zp_zero, show n + -m = n - m by omega] at a
    exact a
  by_cases e : (n - m) % 1013 = 0
  · omega
  exfalso
  obtain ⟨k, k0, -, hk⟩ := q_solve (h := (n - m) % 1013) 1 (by omega) (by omega)
  have h2 := zp_pow (n - m) k k0
  rw [h1, Z.one_pow] at h2
  have h3 : zp ((n - m) * k) = zp 1 := zp_eq (by rw [Int.mul_emod, ← Int.emod_emod_of_dvd (n - m) (Int.dvd_refl 1013), ← Int.mul_emod]; exact hk)
  rw [h3, zp_one] at h2
  exact zeta_ne h2.symm
/-- The number of a text's spot. -/
noncomputable def jO (t : ByteArray) : Int := Classical.choose (hSpot_four t.data.toList)
theorem jO_spec (t : ByteArray) : 1 ≤ jO t ∧ jO t < 1013 ∧ hSpot t.data.toList = sq (4 * jO t) := Classical.choose_spec (hSpot_four t.data.toList)
/-- A secret and a text that may be sealed. -/
def okP (p : Int × ByteArray) : Prop := 1 ≤ p.1 ∧ p.1 < 1013 ∧ p.2.size ≤ 60
noncomputable def eS (p : Int × ByteArray) : Int := jO p.2 * p.1
noncomputable def sS (p : Int × ByteArray) : Sp := sq (4 * eS p)
def kS (p : Int × ByteArray) : Sp := sq (4 * p.1)
theorem eS_ne {p : Int × ByteArray} (h : okP p) : eS p % 1013 ≠ 0 := by
  obtain ⟨j1, j2, -⟩ := jO_spec p.2
  have := mul_i_ne (i := jO p.2) (k := p.1) (by omega) h.1 (by have := h.2.1; omega)
  unfold eS
  rw [Int.mul_assoc] at this
  generalize jO p.2 * p.1 = m at *
  omega
theorem sS_far {p : Int × ByteArray} (h : okP p) : (sS p).far = false := by
  have := eS_ne h
  unfold sS
  exact sq_far_false.mpr (by omega)
theorem sS_eq (p : Int × ByteArray) : sS p = sq (4 * jO p.2 * p.1) := by unfold sS eS; rw [Int.mul_assoc]
/-- Whether another spot is right: just if it is the seal. -/
theorem other_is (p : Int × ByteArray) (h : okP p) (o : Sp) : ∃ (B : Bool) (E : Value), ((∃ n : Int, E = .iface 118 (.int .i64 n) ∧ B = false) ∨ (E = .nilIface ∧ B = Sp.beq o (sS p))) ∧
    ∀ w : World, FarAt w → OneAt w → Calls Tryd.prog 14 #[spV (kS p), .string p.2, spV o] w fun e w' => e = .returned (.tuple #[.bool B, E]) ∧ Below w.heap.size w w' := by
  obtain ⟨j1, j2, hj⟩ := jO_spec p.2
  obtain ⟨E, hT, hc⟩ := two_is o ⟨1189, 3667, false⟩
  have cG : Cnt ⟨1189, 3667, false⟩ 1 := ⟨sq_4.symm, by omega, by omega⟩
  rcases hc with ⟨rfl, i, j, ci, cj⟩ | ⟨h0, hR⟩
  · have cH : Cnt (hSpot p.2.data.toList) (jO p.2) := ⟨hj, by omega, j2⟩
    have cK : Cnt (kS p) p.1 := ⟨rfl, by have := h.1; omega, h.2.1⟩
    refine ⟨_, .nilIface, .inr ⟨rfl, ?_⟩, fun w hF hO => sverify_c (kS p) o _ p.2 _ _ w hF h.2.2 (Lib.hid rfl) (Lib.hid fun w1 hb => same_b o _ _ (kS p) i 1 (jO p.2) p.1 _ _ _ w1 (hF.below hb) (hO.below hb) (Lib.hid ci) (Lib.hid cG) (Lib.hid cH) (Lib.hid cK) (Lib.hid rfl) (Lib.hid rfl) (Lib.hid rfl))⟩
    have hz := twB_z (z := zp (i * 1)) (z' := zp (jO p.2 * p.1)) rfl
    have he : zp (i * 1) = zp (jO p.2 * p.1) ↔ o = sS p := by
      rw [Int.mul_one]
      constructor
      · intro e
        have := zp_inj e
        rw [ci.1]; unfold sS eS
        exact sq_eq_iff.mpr (by omega)
      · intro e
        rw [ci.1] at e; unfold sS eS at e
        have := sq_eq_iff.mp e
        exact zp_eq (by omega)
    cases hb : Sp.beq o (sS p)
    · cases hB : twB (fz (zp (i * 1)).re) (fz (zp (i * 1)).im) (fz (zp (jO p.2 * p.1)).re) (fz (zp (jO p.2 * p.1)).im)
      · rfl
      · have := Sp.beq_iff.mpr (he.mp (hz.mp hB)); rw [hb] at this; cases this
    · exact hz.mpr (he.mpr (Sp.beq_iff.mp hb))
  · exact ⟨false, _, .inl ⟨E, rfl, rfl⟩, fun w hF hO => sverify_c (kS p) o _ p.2 _ _ w hF h.2.2 (Lib.hid rfl) (Lib.hid fun w1 hb => same_n1 o _ _ (kS p) E w1 (hF.below hb) (Lib.hid hR))⟩
/-- The seal itself is right. -/
theorem self_is (p : Int × ByteArray) (h : okP p) (w : World) (hF : FarAt w) (hO : OneAt w) : Calls Tryd.prog 14 #[spV (kS p), .string p.2, spV (sS p)] w fun e w' => e = .returned (.tuple #[.bool true, .nilIface]) ∧ Below w.heap.size w w' := by
  obtain ⟨j1, j2, hj⟩ := jO_spec p.2
  have cG : Cnt ⟨1189, 3667, false⟩ 1 := ⟨sq_4.symm, by omega, by omega⟩
  have cH : Cnt (hSpot p.2.data.toList) (jO p.2) := ⟨hj, by omega, j2⟩
  have cK : Cnt (kS p) p.1 := ⟨rfl, by have := h.1; omega, h.2.1⟩
  have cS : Cnt (sS p) (eS p % 1013) := ⟨by unfold sS; exact sq_eq_iff.mpr (by omega), by omega, by omega⟩
  exact shortVerify_y (kS p) (sS p) _ (jO p.2) _ p.1 (zp (eS p)) p.2 w hF hO h.2.2 (Lib.hid rfl) (Lib.hid cH) (Lib.hid cS) (Lib.hid cK) (Lib.hid cG) (Lib.hid (zp_eq (by omega))) (Lib.hid rfl)
theorem sign_is (p : Int × ByteArray) (h : okP p) (w : World) (hF : FarAt w) : Calls Tryd.prog 13 #[.int .i64 p.1, .string p.2] w fun e w' => e = .returned (.tuple #[spV (sS p), .nilIface]) ∧ Below w.heap.size w w' :=
  short_y p.1 (jO p.2) p.2 _ (sS p) w hF h.1 h.2.1 h.2.2 (Lib.hid rfl) (Lib.hid (jO_spec p.2).2.2) (Lib.hid (sS_eq p).symm)
/- Strings in a row of one's own. -/
theorem info_string : (Tryd.prog.info? 9).map (fun i => (i.zero, i.size, i.bytes)) = some (some (.string ⟨#[]⟩), 1, 16) := by kernel_rfl
theorem own_strs {w : World} {B e : Nat} {v : Value} {l : List ByteArray} {n : Nat} (h : w.ownsRow B e 1 v n (l.map Value.string)) (hn : n = l.length) : StrSl w v l := by
  subst hn
  obtain ⟨hl, h | ⟨g, cap, cur, rfl, hb, hg, hc, -, -, ht⟩⟩ := h
  · obtain ⟨rfl, h0⟩ := h
    exact ⟨none, 0, by rw [h0], fun hp => absurd h0 (by omega)⟩
  · refine ⟨_, _, rfl, fun _ => ⟨g, 0, rfl, (Array.getElem?_eq_some_iff.1 hg).1, fun i hi => ?_⟩⟩
    have k1 : (l.map Value.string)[i]? = some (.string l[i]) := by simp [hi]
    rw [cell_of_row w g _ cur e (0, 0) hg]
    simp only [Nat.zero_add]
    rw [← ht, List.getElem?_take, if_pos (by omega), Array.getElem?_toList] at k1
    assumption
theorem wpl_append_str {w : World} {ops : Array Oper} {rest : List Oper} {o : Oper} {a : Act} {Q : Exit → Act → World → Prop} (hgd : o.guard = none) (s x : Operand) (t : TypeId)
    (ho : o.op = .call { callee := .builtin .append, args := #[s, x], argTypes := #[t, t] }) (ht : Tryd.prog.underlying t = some (.slice 9)) (B : Nat) (v : Value) (l : List ByteArray) (n : Nat) (hs : a.eval s = v)
    (hown : w.ownsRow B 9 1 v n (l.map Value.string)) (hn : l.length = n) (hl : n ≤ 1000000) (hB : B ≤ w.heap.size) (g : Nat) (c : ByteArray) (hx : a.eval x = .slice (some ⟨g, 0, none⟩) 1 1)
    (h0 : w.cell? ⟨g, 0, none⟩ = some (.string c))
    (h : ∀ v' w', w'.ownsRow B 9 1 v' (n + 1) ((l ++ [c]).map Value.string) → w.grownBy w' v.ownBlock → (∀ a, Below B a w → Below B a w') → (v'.ownBlock = v.ownBlock ∨ v'.ownBlock = some w.heap.size) → wpList Tryd.prog ops Q rest (a.put o.dst v') w') :
    wpList Tryd.prog ops Q (o :: rest) a w := by
  obtain ⟨i0, hi, hz0, hz1, hz2⟩ := info_parts info_string
  refine wpList_append_own_at _ hgd s x _ ho B _ i0 _ 1 16 ht hi hz0 hz1 hz2 rfl (by decide) v n _ hs hown ⟨g, 0, none⟩ 1 1 [.string c] hx rfl ?_ ?_ (by unfold maxLen; omega) (by omega) hB ?_
  · intro j u hj
    have e : ∀ k, (⟨g, 0, none⟩ : Addr).add k = ⟨g, k, none⟩ := fun k => by rw [add_none, Nat.zero_add]
    rw [e]
    match j, hj with
    | 0, hj => cases hj; exact h0
  · intro u hu
    simp only [List.mem_cons, List.not_mem_nil, or_false] at hu
    subst hu; rfl
  · intro v' w' h3 h4 _ h6
    rw [show l.map Value.string ++ [.string c] = (l ++ [c]).map Value.string by simp] at h3
    exact h v' w' h3 h4 (fun a hb => Below.grown hb h4 hB (fun k hk => (hown.lt k hk).1)) h6
end Go.Proofs.YtfnifdmnbccblaaDoor
namespace Go.Proofs.YtfnifdmnbccblaaDoor
open Go.RowKit
set_option maxRecDepth 100000
set_option linter.unusedVariables false
set_option linter.unusedSimpArgs false
noncomputable def sumE (P : List (Int × ByteArray)) : Int := (P.map eS).sum
noncomputable def pAt (P : List (Int × ByteArray)) (i : Nat) : Int × ByteArray := P.getD i (0, ⟨#[]⟩)
theorem pAt_e {P : List (Int × ByteArray)} {i : Nat} (h : i < P.length) : pAt P i = P[i] := by unfold pAt; rw [List.getD_eq_getElem?_getD, List.getElem?_eq_getElem h]; rfl
theorem sum_take (P : List (Int × ByteArray)) : ∀ k, k ≤ P.length → ((P.take (k + 1)).map eS).sum = ((P.take k).map eS).sum + (if k < P.length then eS (pAt P k) else 0) := fun k hk => by
  by_cases h : k < P.length
  · rw [if_pos h, pAt_e h, take_snoc P k h, List.map_append, List.sum_append]; simp
  · rw [if_neg h, List.take_of_length_le (by omega), List.take_of_length_le (by omega)]; simp
theorem prod_sum (P : List (Int × ByteArray)) : ∀ k, k ≤ P.length → prodN (fun i => jO (pAt P i).2 * (pAt P i).1) k = ((P.take k).map eS).sum
  | 0, _ => rfl
  | k + 1, h => by
    rw [sum_take P k (by omega), if_pos (by omega), ← prod_sum P k (by omega)]; rfl
theorem sumF_sum (P : List (Int × ByteArray)) : ∀ k, k ≤ P.length → sumF (fun i => 4 * eS (pAt P i)) k = 4 * ((P.take k).map eS).sum
  | 0, _ => rfl
  | k + 1, h => by
    rw [sum_take P k (by omega), if_pos (by omega), Int.mul_add, ← sumF_sum P k (by omega)]; rfl
theorem sumE_take (P : List (Int × ByteArray)) : ((P.take P.length).map eS).sum = sumE P := by rw [List.take_length]; rfl
theorem jn_all (P : List (Int × ByteArray)) (h12 : P.length ≤ 12) (v : Value) (w : World) (hF : FarAt w) (hv : SpSl w v (P.map sS)) : Calls Tryd.prog 16 #[v] w fun e w' => e = .returned (.tuple #[spV (sq (4 * sumE P)), .nilIface]) ∧ Below w.heap.size w w' := by
  obtain ⟨a, c, rfl, h⟩ := hv
  refine join_core (P.map sS) (fun i => 4 * eS (pAt P i)) (P.map sS).length 0 a c _ w hF (by rw [List.length_map]; exact h12) h (Lib.hid fun k hk _ => ?_) (Nat.le_refl _) (Lib.hid fun h => absurd h (Nat.lt_irrefl _)) (Lib.hid fun h => absurd h (Nat.lt_irrefl _)) (Lib.hid fun _ => ?_)
  · rw [List.getElem_map, pAt_e (by rw [List.length_map] at hk; exact hk)]; rfl
  · rw [List.length_map, sumF_sum P _ (Nat.le_refl _), sumE_take]
theorem prod_all (P : List (Int × ByteArray)) (hP : ∀ p ∈ P, okP p) (h12 : P.length ≤ 12) (a1 : Option Addr) (c1 : Nat) {w : World} (i1 : 0 < (P.map kS).length → ∃ b o, a1 = some ⟨b, o, none⟩ ∧ SpotsAt w b o (P.map kS)) (hF : FarAt w) (hO : OneAt w) (w1 : World) (v : Value) (hb : Below w.heap.size w w1) (hv : SpSl w1 v (hSpots (P.map (·.2)))) :
    Calls Tryd.prog 24 #[v, .slice a1 (P.map kS).length c1] w1 fun e w' => e = .returned (.tuple #[twR (zp (sumE P)), .nilIface]) ∧ Below w1.heap.size w1 w' := by
  have hHl : (hSpots (P.map (·.2))).length = P.length := by rw [hSpots_len, List.length_map]
  have hsum : prodN (fun i => jO (pAt P i).2 * (pAt P i).1) P.length = sumE P := by rw [prod_sum P _ (Nat.le_refl _), sumE_take]
  have hc : ∀ i (h : i < (hSpots (P.map (·.2))).length) (h' : i < (P.map kS).length), Cnt (hSpots (P.map (·.2)))[i] (jO (pAt P i).2) ∧ Cnt (P.map kS)[i] (pAt P i).1 := fun i h h' => by
    have hi : i < P.length := by omega
    have hp := hP _ (List.getElem_mem hi)
    rw [hSpots_get _ i (by rw [List.length_map]; exact hi), List.getElem_map, List.getElem_map, pAt_e hi]
    obtain ⟨j1, j2, hj⟩ := jO_spec P[i].2
    exact ⟨⟨hj, by omega, j2⟩, ⟨rfl, by have := hp.1; omega, hp.2.1⟩⟩
  have hml : (P.map kS).length = (hSpots (P.map (·.2))).length := by rw [List.length_map, hHl]
  rw [← hHl] at hsum
  have i1' : 0 < (P.map kS).length → ∃ b o, a1 = some ⟨b, o, none⟩ ∧ SpotsAt w1 b o (P.map kS) := fun h => by obtain ⟨b, o, e, hs⟩ := i1 h; exact ⟨b, o, e, hs.below hb⟩
  have h12' : (hSpots (P.map (·.2))).length ≤ 12 := by omega
  generalize hSpots (P.map (·.2)) = Hs at *
  generalize P.map kS = M at *
  obtain ⟨av, cv, rfl, iv⟩ := hv
  exact product_core Hs M (fun i => jO (pAt P i).2) (fun i => (pAt P i).1) Hs.length 0 av a1 cv c1 (.tuple #[twR (zp (sumE P)), .nilIface]) w1 (hF.below hb) (hO.below hb) h12' hml iv i1' (Lib.hid fun i h h' _ => hc i h h') (Nat.le_refl _) (Lib.hid fun h => absurd h (Nat.lt_irrefl _)) (Lib.hid fun h => absurd h (Nat.lt_irrefl _)) (Lib.hid fun _ => by rw [hsum])
/-- All at once: right just if it is the sum. -/
theorem all_all (P : List (Int × ByteArray)) (hP : ∀ p ∈ P, okP p) (h12 : P.length ≤ 12) (m : Int) (B : Bool) (hB : B = true ↔ m % 1013 = sumE P % 1013) (v1 v2 : Value) (w : World) (hF : FarAt w) (hO : OneAt w) (i1 : SpSl w v1 (P.map kS)) (i2 : StrSl w v2 (P.map (·.2))) :
    Calls Tryd.prog 17 #[v1, v2, spV (sq (4 * m))] w fun e w' => e = .returned (.tuple #[.bool B, .nilIface]) ∧ Below w.heap.size w w' := by
  obtain ⟨a1, c1, rfl, i1⟩ := i1
  obtain ⟨a2, c2, rfl, i2⟩ := i2
  have hHl : (hSpots (P.map (·.2))).length = P.length := by rw [hSpots_len, List.length_map]
  have hsum : prodN (fun i => jO (pAt P i).2 * (pAt P i).1) P.length = sumE P := by rw [prod_sum P _ (Nat.le_refl _), sumE_take]
  have cG : Cnt ⟨1189, 3667, false⟩ 1 := ⟨sq_4.symm, by omega, by omega⟩
  have cM : Cnt (sq (4 * m)) (m % 1013) := ⟨sq_eq_iff.mpr (by omega), by omega, by omega⟩
  refine sall_core (P.map kS).length a1 c1 (P.map (·.2)) a2 c2 (sq (4 * m)) (P.map (·.2)).length _ w hF (by rw [List.length_map, List.length_map]) (by rw [List.length_map]; exact h12) i2 (Nat.le_refl _) (Lib.hid fun i hi _ => ?_) (Lib.hid fun h => absurd h (Nat.lt_irrefl _)) (Lib.hid fun h => absurd h (Nat.lt_irrefl _)) (Lib.hid fun _ => .inr ⟨_, _, fun w1 hb => pair_e _ _ (m % 1013) 1 _ w1 (hF.below hb) (hO.below hb) (Lib.hid cM) (Lib.hid cG) (Lib.hid rfl), .inr ⟨fz (zp (sumE P)).re, fz (zp (sumE P)).im, fun w1 v hb hv => ?_, ?_⟩⟩)
  · rw [List.getElem_map]; exact (hP _ (List.getElem_mem _)).2.2
  · exact prod_all P hP h12 a1 c1 i1 hF hO w1 v hb hv
  · have e := twB_z (z := zp (m % 1013 * 1)) (z' := zp (sumE P)) rfl
    have e2 : zp (m % 1013 * 1) = zp (sumE P) ↔ m % 1013 = sumE P % 1013 := ⟨fun h => by have := zp_inj h; omega, fun h => zp_eq (by omega)⟩
    have e3 : twB (fz (zp (m % 1013 * 1)).re) (fz (zp (m % 1013 * 1)).im) (fz (zp (sumE P)).re) (fz (zp (sumE P)).im) = B := by
      rw [Bool.eq_iff_iff, e, e2, hB]
    rw [e3]
end Go.Proofs.YtfnifdmnbccblaaDoor
