/- Texts of this claim, in one. -/
import Derived.Test.YtfnifdmnbccblaaDoorBs
import Derived.WalkKit
import Derived.ProofKit
import Derived.OpenShut
import Derived.Lib.SmallJoins
import Derived.Test.YtfnifdmnbccblaaDoorWy
import Derived.Deep.Slices
import Derived.Deep.Fields
import Derived.ChangeSame
import Derived.Test.YtfnifdmnbccblaaDoorRa
import Derived.Test.YtfnifdmnbccblaaDoorGt
import Derived.Test.YtfnifdmnbccblaaDoorWt
import Derived.Test.YtfnifdmnbccblaaDoorWv
import Derived.Laws.Entries
import Derived.Test.YtfnifdmnbccblaaDoorPz
import Derived.Test.YtfnifdmnbccblaaDoorPairE
import Derived.Test.YtfnifdmnbccblaaDoorRo
import Derived.Deep.DeepCutAuto
import Derived.Deep.RegionWith
import Derived.Test.YtfnifdmnbccblaaDoorRb
import Derived.Test.YtfnifdmnbccblaaDoorWs
import Derived.Maps.AppendAt
namespace Go.Proofs.YtfnifdmnbccblaaDoor
open Go.RowKit Go.WideShapes Go.ChangeShapes
section
variable {H : Type} {enc : TypeId × Value → H} {P : Program}
theorem trodAll_stays (hl : laidOutB P = true) {W W' : World} (hb : Below W.heap.size W W') {sp : Nat → Bool} :
    ∀ {ts : List TypeId} {vs : List Value} {ds : List (DataW H)} {ps : List MemPlace}, (ts.all fun t => P.readableRec t && decide (t < P.types.size)) = true → DataW.TrodAll enc P W 0 (fun _ => true) true ts vs ds ps →
      (∀ p ∈ ps, p.block < W.heap.size ∧ sp p.block = true) → DataW.TrodAll enc P W' 0 sp true ts vs ds ps
  | [], [], [], _, _, h, _ => h
  | [], [], _ :: _, _, _, h, _ => h.elim
  | [], _ :: _, _, _, _, h, _ => by cases ‹List (DataW H)› <;> exact h.elim
  | _ :: _, [], _, _, _, h, _ => h.elim
  | _ :: _, _ :: _, [], _, _, h, _ => h.elim
  | t :: ts, v :: vs, d :: ds, ps, ht, h, hp => by
    obtain ⟨p, q, h1, h2, rfl⟩ := h
    simp only [List.all_cons, Bool.and_eq_true, decide_eq_true_eq] at ht
    refine ⟨p, q, WideElems.Trod_stays hl ht.1.1 ht.1.2 h1 (fun x hx => hb.same (hp x (by simp [hx])).1) (fun x hx => (hp x (by simp [hx])).2), ?_, rfl⟩
    exact trodAll_stays hl hb (by simpa using ht.2) h2 (fun x hx => hp x (by simp [hx]))
theorem post_of_below {f : Func} {s : ChangeSpec} {apart fresh handsOn again : Bool} {W W' : World} {args : Array Value} {v : Value} {ds gs : List (DataW H)} {before pa pv : List MemPlace}
    (hW : DataW.Whole enc P f.params.toList s.vars apart W args.toList ds gs before)
    (hres : ∀ (b : Nat) (sp : Nat → Bool) (hd : Bool), DataW.TrodAll enc P W' b sp hd f.resultTypes.toList (v.resultList f.resultTypes.size) (s.fn H (ds ++ gs)).results [])
    (hargs : ∀ sp : Nat → Bool, (∀ p ∈ before, sp p.block = true) → DataW.TrodAll enc P W' 0 sp true f.params.toList args.toList (s.fn H (ds ++ gs)).args pa)
    (hvars : ∀ sp : Nat → Bool, (∀ p ∈ before, sp p.block = true) → DataW.TrodVars enc P W' sp s.vars (s.fn H (ds ++ gs)).vars pv)
    (hps : before = pa ++ pv) (hb : Below W.heap.size W W')
    (hok : ∀ (j : Nat) (t : TypeId) (r : Value), f.resultTypes[j]? = some t → (v.resultList f.resultTypes.size)[j]? = some r → Value.okWide P W' .any 0 t r) :
    s.post enc P f apart fresh handsOn again W args v W' := by
  have hlt : ∀ p ∈ before, p.block < W.heap.size := fun p hp => hW.lt p hp
  have hold : ∀ p ∈ before, (fun b => decide (b < W.heap.size)) p.block = true := fun p hp => by simpa using hlt p hp
  refine ⟨ds, gs, before, [], pa, pv, hW, hres _ _ _, hargs _ hold, hvars _ hold, World.keptBut_mono (fun p hp => ⟨hp, ?_⟩) (hb.frame (· ∈ before)), fun _ => ?_⟩
  · rw [hps, List.mem_append] at hp
    exact Or.inr hp
  · obtain ⟨_, _, _, _, _, hz, hn⟩ := hW
    refine ⟨hok, _, _, ([] ++ pa) ++ pv, ⟨[] ++ pa, pv, trodAll_append (hargs _ (fun _ _ => rfl)) (hres _ _ _), hvars _ (fun _ _ => rfl), rfl, ?_, ?_⟩, ?_⟩
    · intro b off hp
      have hin : MemPlace.cell b off ∈ before := by rw [hps]; simpa using hp
      rw [hb.frozen (hlt _ hin)]
      exact hz b off hin
    · intro ha
      have := hn ha
      rw [hps] at this
      simpa using this
    · intro p hp _
      rw [hps]
      simpa using hp
end
section
variable {H : Type} {enc : TypeId × Value → H} {P : Program} {w : World} {base : Nat} {spare : Nat → Bool} {held : Bool}
open Go.Joins Go.Deep
theorem open_two {r : Reach} {b0 : Nat} {t : TypeId} {f0 f1 : Field} {v : Value} {d : DataW H} {p : List MemPlace} (hs : P.underlying t = some (.struct #[f0, f1])) (hone : oneCellFields P #[f0, f1] = true) (hC : P.cellsOf t = 2)
    (h0 : P.underlying f0.type = some (.int .i64)) (h1 : P.underlying f1.type = some (.int .i64)) (hv : Value.okWide P w r b0 t v) (h : DataW.Trod enc P w base spare held t v d p) :
    ∃ a b : Int, v = .agg #[.int .i64 a, .int .i64 b] ∧ (Lit.int .i64 a).wf = true ∧ (Lit.int .i64 b).wf = true := by
  obtain ⟨c0, c1, y0, y1, m, rfl, rfl, rfl, hy0, hy1⟩ := open_agg2 hs hone hC hv h
  obtain ⟨a, e0, rfl, wa⟩ := DataW.trod_int h0 hy0
  obtain ⟨b, e1, rfl, wb⟩ := DataW.trod_int h1 hy1
  simp at e0 e1
  subst e0 e1
  exact ⟨a, b, rfl, wa, wb⟩
theorem open_spot {r : Reach} {b0 : Nat} {t : TypeId} {f0 f1 f2 : Field} {v : Value} {d : DataW H} {p : List MemPlace} (hs : P.underlying t = some (.struct #[f0, f1, f2])) (hone : oneCellFields P #[f0, f1, f2] = true) (hC : P.cellsOf t = 3)
    (h0 : P.underlying f0.type = some (.int .i64)) (h1 : P.underlying f1.type = some (.int .i64)) (h2 : P.underlying f2.type = some .bool) (hv : Value.okWide P w r b0 t v) (h : DataW.Trod enc P w base spare held t v d p) :
    ∃ (a b : Int) (f : Bool), v = .agg #[.int .i64 a, .int .i64 b, .bool f] ∧ (Lit.int .i64 a).wf = true ∧ (Lit.int .i64 b).wf = true := by
  obtain ⟨c0, c1, c2, y0, y1, y2, m, rfl, rfl, rfl, hy0, hy1, hy2⟩ := open_agg3 hs hone hC hv h
  obtain ⟨a, e0, rfl, wa⟩ := DataW.trod_int h0 hy0
  obtain ⟨b, e1, rfl, wb⟩ := DataW.trod_int h1 hy1
  obtain ⟨f, e2, rfl⟩ := DataW.trod_bool h2 hy2
  simp at e0 e1 e2
  subst e0 e1 e2
  exact ⟨a, b, f, rfl, wa, wb⟩
end
theorem Tryd.ownK : ownKnob Tryd.prog.godebug = none := by kernel_rfl
theorem Tryd.laidOutK : laidOutB Tryd.prog = true := by kernel_rfl
end Go.Proofs.YtfnifdmnbccblaaDoor
namespace Go.Proofs.YtfnifdmnbccblaaDoor
open Go.RowKit Go.WideShapes Go.ChangeShapes Go.Deep
section
variable {H : Type} {enc : TypeId × Value → H} {P : Program} {w : World} {base : Nat} {spare : Nat → Bool} {held : Bool}
theorem open_slice_fields {t e : TypeId} {fs : Array Field} {fuel : Nat} {cs : List Value} {x : DataW H × List MemPlace} (ht : P.underlying t = some (.slice e)) (he : P.underlying e = some (.struct fs))
    (hone : oneCellFields P fs = true) (hC : P.cellsOf e = fs.size) (h : DataW.trod enc P w base spare held fuel t cs = some x) :
    (cs = [.slice none 0 0] ∧ x = (.nil, [])) ∨
    ∃ (a : Addr) (len cap m : Nat) (D : Nat → DataW H) (Pl : Nat → List MemPlace), cs = [.slice (some a) len cap] ∧ base ≤ a.block ∧ len ≤ cap ∧ cap ≤ maxLen ∧ m = (if spare a.block then cap else len) ∧
      x = (.slice ((List.range len).map D) ((List.range (m - len)).map fun j => D (len + j)), MemPlace.row a (m * fs.size) ++ (List.range m).flatMap Pl) ∧
      ∀ i, i < m → ∃ (ys : List (DataW H × List MemPlace)) (n : Nat), D i = .agg (ys.map (·.1)) ∧ Pl i = ys.flatMap (·.2) ∧ ys.length = fs.size ∧
        ∀ (j : Nat) (f : Field), fs[j]? = some f → ∃ (v : Value) (y : DataW H × List MemPlace), w.cell? (a.add (i * fs.size + j)) = some v ∧ ys[j]? = some y ∧ DataW.trod enc P w base spare held n f.type [v] = some y := by
  rcases open_slice ht h with h0 | ⟨a, len, cap, m, n, D, Pl, hcs, hb, hl, hm, hmm, hx, hi⟩
  · exact .inl h0
  · refine .inr ⟨a, len, cap, m, D, Pl, hcs, hb, hl, hm, hmm, by rw [hC] at hx; exact hx, fun i him => ?_⟩
    obtain ⟨cs', hc, ht'⟩ := hi i him
    rw [hC] at hc
    obtain ⟨ys, n', hn', hy, hlen, hyl, hf⟩ := DataW.trod_struct he ht'
    obtain ⟨_, hcl, hat⟩ := World.cells?_some hc
    simp only [Prod.mk.injEq] at hy
    refine ⟨ys, n', hy.1, hy.2, hyl, fun j f hj => ?_⟩
    obtain ⟨ho, hk⟩ := hone_of hone j f hj
    have hjl : j < fs.size := (Array.getElem?_eq_some_iff.1 hj).1
    have hcell := hat j hjl
    have hv : cs'[j]? = some (cs'[j]'(by omega)) := List.getElem?_eq_getElem (by omega)
    have h1 := hf j f hj
    rw [ho, hk] at h1
    have hone' : (cs'.drop j).take 1 = [cs'[j]'(by omega)] := by
      rw [List.drop_eq_getElem_cons (by omega)]
      rfl
    rw [hone'] at h1
    have hys : ys[j]? = some (ys[j]'(by omega)) := List.getElem?_eq_getElem (by omega)
    refine ⟨_, _, ?_, hys, h1.trans hys⟩
    rw [← Go.Deep.add_add, hcell, hv]
theorem spotless {b off : Nat} {sp : Option Nat} {v : Value} (h : w.cell? ⟨b, off, sp⟩ = some v) : sp = none := by
  cases sp with
  | none => rfl
  | some s =>
    exfalso
    unfold World.cell? at h
    split at h <;> simp_all
theorem add_none (b off i : Nat) : Addr.add ⟨b, off, none⟩ i = ⟨b, off + i, none⟩ := by
  unfold Addr.add; split
  · rename_i h; rw [h]; rfl
  · rfl
instance : Inhabited Sp := ⟨⟨0, 0, false⟩⟩
/-- A value that is a slice of spots. -/
def SpotsV (w : World) (v : Value) : Prop := (∃ a cap, v = .slice a 0 cap) ∨ ∃ (b off cap : Nat) (l : List Sp), v = .slice (some ⟨b, off, none⟩) l.length cap ∧ 1 ≤ l.length ∧ l.length ≤ maxLen ∧ SpotsAt w b off l
theorem open_spots {r : Reach} {b0 : Nat} {t e : TypeId} {f0 f1 f2 : Field} {v : Value} {d : DataW H} {ps : List MemPlace} (ht : P.underlying t = some (.slice e)) (he : P.underlying e = some (.struct #[f0, f1, f2]))
    (hone : oneCellFields P #[f0, f1, f2] = true) (hC : P.cellsOf e = 3) (h0 : P.underlying f0.type = some (.int .i64)) (h1 : P.underlying f1.type = some (.int .i64)) (h2 : P.underlying f2.type = some .bool)
    (hv : Value.okWide P w r b0 t v) (h : DataW.Trod enc P w base spare held t v d ps) :
    SpotsV w v := by
  obtain ⟨a, len, cap, rfl⟩ := okWide_slice ht hv
  obtain ⟨fuel, hf⟩ := h
  rcases open_slice_fields ht he hone (by rw [hC]; rfl) hf with ⟨hn, -⟩ | ⟨a', len', cap', m, D, Pl, hcs, hb, hl, hm, hmm, hx, hi⟩
  · simp [Value.cells] at hn; obtain ⟨rfl, rfl, rfl⟩ := hn; exact .inl ⟨_, _, rfl⟩
  · simp [Value.cells] at hcs; obtain ⟨rfl, rfl, rfl⟩ := hcs
    by_cases hz : len = 0
    · subst hz; exact .inl ⟨_, _, rfl⟩
    have hlm : len ≤ m := by rw [hmm]; split <;> omega
    have each : ∀ i, i < len → ∃ s : Sp, w.cell? (a'.add (i * 3 + 0)) = some (.int .i64 s.x) ∧ w.cell? (a'.add (i * 3 + 1)) = some (.int .i64 s.y) ∧ w.cell? (a'.add (i * 3 + 2)) = some (.bool s.far) := by
      intro i hil
      obtain ⟨ys, n, -, -, -, hj⟩ := hi i (by omega)
      obtain ⟨v0, y0, c0, -, t0⟩ := hj 0 f0 rfl
      obtain ⟨v1, y1, c1, -, t1⟩ := hj 1 f1 rfl
      obtain ⟨v2, y2, c2, -, t2⟩ := hj 2 f2 rfl
      obtain ⟨x, e0, -, -⟩ := DataW.trod_int h0 t0
      obtain ⟨y, e1, -, -⟩ := DataW.trod_int h1 t1
      obtain ⟨f, e2, -⟩ := DataW.trod_bool h2 t2
      simp at e0 e1 e2
      subst e0 e1 e2
      exact ⟨⟨x, y, f⟩, c0, c1, c2⟩
    obtain ⟨S, hS⟩ := choose_lt each
    obtain ⟨b, off, sp⟩ := a'
    obtain rfl : sp = none := spotless (b := b) (off := off) (by simpa [Addr.add] using (hS 0 (by omega)).1)
    simp only [add_none] at hS
    refine .inr ⟨b, off, cap, (List.range len).map S, by simp, by simp; omega, by simp; omega, ⟨World.block_lt_of_cell? w _ (hS 0 (by omega)).1, ?_, ?_, ?_⟩⟩
    all_goals
      intro i hi
      simp only [List.length_map, List.length_range] at hi
      simp only [List.getElem_map, List.getElem_range]
    · exact (hS i hi).1
    · exact (hS i hi).2.1
    · exact (hS i hi).2.2
end
/-- A slice that holds these ints. -/
structure IntsAt (w : World) (b off : Nat) (l : List Int) : Prop where
  lt : b < w.heap.size
  c : ∀ i (h : i < l.length), w.cell? ⟨b, off + i, none⟩ = some (.int .i64 l[i])
theorem IntsAt.below {w w' : World} {b off : Nat} {l : List Int} (h : IntsAt w b off l) (hb : Below w.heap.size w w') : IntsAt w' b off l :=
  ⟨Nat.lt_of_lt_of_le h.lt hb.size, fun i hi => (hb.cell (p := ⟨b, off + i, none⟩) h.lt).trans (h.c i hi)⟩
/-- A value that is a slice of ints. -/
def IntsV (w : World) (v : Value) : Prop := (∃ a cap, v = .slice a 0 cap) ∨ ∃ (b off cap : Nat) (l : List Int), v = .slice (some ⟨b, off, none⟩) l.length cap ∧ 1 ≤ l.length ∧ l.length ≤ maxLen ∧ IntsAt w b off l ∧ ∀ n ∈ l, (Lit.int .i64 n).wf = true
section
variable {H : Type} {enc : TypeId × Value → H} {P : Program} {w : World} {base : Nat} {spare : Nat → Bool} {held : Bool}
theorem open_intl {r : Reach} {b0 : Nat} {t e : TypeId} {v : Value} {d : DataW H} {ps : List MemPlace} (ht : P.underlying t = some (.slice e)) (he : P.underlying e = some (.int .i64)) (hc : P.cellsOf e = 1)
    (hv : Value.okWide P w r b0 t v) (h : DataW.Trod enc P w base spare held t v d ps) :
    IntsV w v := by
  obtain ⟨a, len, cap, rfl⟩ := okWide_slice ht hv
  obtain ⟨fuel, hf⟩ := h
  rcases ChangeShapes.open_ints ht he hc hf with ⟨hn, -⟩ | ⟨a', len', cap', zs, hcs, hb, hl, hm, hzl, hx, hcell, hw⟩
  · simp [Value.cells] at hn; obtain ⟨rfl, rfl, rfl⟩ := hn; exact .inl ⟨_, _, rfl⟩
  · simp [Value.cells] at hcs; obtain ⟨rfl, rfl, rfl⟩ := hcs
    by_cases hz : len = 0
    · subst hz; exact .inl ⟨_, _, rfl⟩
    have hlm : len ≤ zs.length := by rw [hzl]; split <;> omega
    obtain ⟨b, off, sp⟩ := a'
    obtain rfl : sp = none := spotless (b := b) (off := off) (by simpa [Addr.add] using hcell 0 (by omega))
    simp only [add_none] at hcell
    have ht : (zs.take len).length = len := by rw [List.length_take]; omega
    refine .inr ⟨b, off, cap, zs.take len, by rw [ht], by omega, by omega, ⟨World.block_lt_of_cell? w _ (hcell 0 (by omega)), fun i hi => ?_⟩, fun n hn => hw n (List.mem_of_mem_take hn)⟩
    have := hcell i (by omega)
    rw [this, List.getElem_take, List.getD_eq_getElem?_getD, List.getElem?_eq_getElem (by omega)]; rfl
end
end Go.Proofs.YtfnifdmnbccblaaDoor
namespace Go.Proofs.YtfnifdmnbccblaaDoor
open Go.RowKit
set_option maxRecDepth 100000
set_option linter.unusedVariables false
set_option linter.unusedSimpArgs false
set_option maxHeartbeats 1000000 in
theorem refTwin_e (a b A B : Int) (w : World) (a0 : -9223372036854775808 ≤ a) (a1 : a ≤ 9223372036854775807) (b0 : -9223372036854775808 ≤ b) (b1 : b ≤ 9223372036854775807) (hA : Hid (a % 4051 = A)) (hB : Hid (b % 4051 = B)) : Calls Tryd.prog 90 #[.agg #[.int .i64 a, .int .i64 b]] w fun e w' => e = .returned (.agg #[.int .i64 A, .int .i64 B]) ∧ Below w.heap.size w w' := by
  go_enter Tryd.func90, Tryd.ntmps90
  go_wp2_with fail
  refine wp_region_grow_tail 7 Tryd.mixed (by kernel_rfl) ?_
  simp only [List.take_succ_cons, List.take_zero, List.drop_succ_cons, List.drop_zero]
  repeat (quiet_step ((first | (go_at_call_of 42 (Value.int .i64 a); exact grow_same (refMod_e a 4051 A _ a0 a1 (by omega) (by omega) hA)) | (go_at_call 42; exact grow_same (refMod_e b 4051 B _ b0 b1 (by omega) (by omega) hB)))))
  refine wpQuiet_nil ?_
  intro _ hw'
  obtain ⟨x1, rfl⟩ := hw'
  have z1 := x1.h.size
  try simp only [World.size_alloc, World.size_setCell, World.size_drew] at z1
  have s1_0 : w.heap.size < x1.w.heap.size := by omega
  have s1_1 : w.heap.size + 1 < x1.w.heap.size := by omega
  have hB1 : Below w.heap.size w x1.w := below_seq (by repeat (first | exact Below.refl _ _ | refine balloc ?_ _ | refine Below.drew ?_ | refine below_drewN ?_ _ | refine below_set ?_ (by first | omega | (dsimp only; omega)) _)) x1.h
  have r0 : x1.w.cell? ⟨w.heap.size + 1, 0, none⟩ = some (.int .i64 0) := by go_simp
  have r1 : x1.w.cell? ⟨w.heap.size + 1, 1, none⟩ = some (.int .i64 0) := by go_simp
  go_wp2
  have k := set2_cell (w := x1.w) (x := .int .i64 A) (y := .int .i64 B) r0 r1
  refine bodyPost_ret (v := .agg #[.int .i64 A, .int .i64 B]) (by simp [results, Tryd.results90, go_sem, k.1, k.2]) rfl ⟨rfl, set2_below (by repeat (first | exact hB1 | exact Below.refl _ _ | refine balloc ?_ _ | refine Below.drew ?_ | refine below_drewN ?_ _ | refine below_set ?_ (by first | omega | (dsimp only; omega)) _)) (by omega)⟩
set_option maxHeartbeats 2000000 in
theorem refTwinMul_core (a b c d R I : Int) (w : World) (a0 : 0 ≤ a) (a1 : a < 4051) (b0 : 0 ≤ b) (b1 : b < 4051) (u0 : 0 ≤ c) (u1 : c < 4051) (v0 : 0 ≤ d) (v1 : d < 4051) (p0 : 0 ≤ a * c) (p1 : a * c ≤ 16402500) (q0 : 0 ≤ b * d) (q1 : b * d ≤ 16402500) (r2 : 0 ≤ a * d) (r3 : a * d ≤ 16402500) (t0 : 0 ≤ b * c) (t1 : b * c ≤ 16402500) (ha : Hid (a % 4051 = a)) (hb2 : Hid (b % 4051 = b)) (hc : Hid (c % 4051 = c)) (hd : Hid (d % 4051 = d)) (hR : Hid ((a * c - b * d) % 4051 = R)) (hI : Hid ((a * d + b * c) % 4051 = I)) : Calls Tryd.prog 23 #[.agg #[.int .i64 a, .int .i64 b], .agg #[.int .i64 c, .int .i64 d]] w fun e w' => e = .returned (.agg #[.int .i64 R, .int .i64 I]) ∧ Below w.heap.size w w' := by
  have e0 : IntKind.i64.wrap (a * c) = a * c := IntWalk.i64_in _ (by omega)
  have e1 : IntKind.i64.wrap (b * d) = b * d := IntWalk.i64_in _ (by omega)
  have e2 : IntKind.i64.wrap (a * c - b * d) = a * c - b * d := IntWalk.i64_in _ (by omega)
  have e3 : IntKind.i64.wrap (a * d) = a * d := IntWalk.i64_in _ (by omega)
  have e4 : IntKind.i64.wrap (b * c) = b * c := IntWalk.i64_in _ (by omega)
  have e5 : IntKind.i64.wrap (a * d + b * c) = a * d + b * c := IntWalk.i64_in _ (by omega)
  go_enter Tryd.func23, Tryd.ntmps23
  go_wp2_with fail
  refine (refTwin_e a b a b _ (by omega) (by omega) (by omega) (by omega) ha hb2).mono ?_; rintro e w1 ⟨rfl, hb⟩
  obtain ⟨hc1, hf1⟩ := bcell hb
  have z1 := hb.size
  try simp only [World.size_alloc, World.size_setCell, World.size_drew] at z1
  have s1_0 : w.heap.size < w1.heap.size := by omega
  have s1_1 : w.heap.size + 1 < w1.heap.size := by omega
  have s1_2 : w.heap.size + 1 + 1 < w1.heap.size := by omega
  have hB1 : Below w.heap.size w w1 := below_seq (by repeat (first | exact Below.refl _ _ | refine balloc ?_ _ | refine Below.drew ?_ | refine below_drewN ?_ _ | refine below_set ?_ (by first | omega | (dsimp only; omega)) _)) hb
  clear hb
  go_wp2_with fail
  refine (refTwin_e c d c d _ (by omega) (by omega) (by omega) (by omega) hc hd).mono ?_; rintro e w2 ⟨rfl, hb⟩
  obtain ⟨hc2, hf2⟩ := bcell hb
  have z2 := hb.size
  try simp only [World.size_alloc, World.size_setCell, World.size_drew] at z2
  have s2_0 : w.heap.size < w2.heap.size := by omega
  have s2_1 : w.heap.size + 1 < w2.heap.size := by omega
  have s2_2 : w.heap.size + 1 + 1 < w2.heap.size := by omega
  have s2_3 : w1.heap.size < w2.heap.size := by omega
  have hB2 : Below w.heap.size w w2 := below_seq (by repeat (first | exact hB1 | exact Below.refl _ _ | refine balloc ?_ _ | refine Below.drew ?_ | refine below_drewN ?_ _ | refine below_set ?_ (by first | omega | (dsimp only; omega)) _)) hb
  clear hb
  go_wp2_with fail
  refine wp_region_grow_tail 25 Tryd.mixed (by kernel_rfl) ?_
  simp only [List.take_succ_cons, List.take_zero, List.drop_succ_cons, List.drop_zero]
  repeat (quiet_step ((first | (go_at_call_of 42 (Value.int .i64 (a * c - b * d)); exact grow_same (refMod_e (a * c - b * d) 4051 R _ (by omega) (by omega) (by omega) (by omega) hR)) | (go_at_call 42; exact grow_same (refMod_e (a * d + b * c) 4051 I _ (by omega) (by omega) (by omega) (by omega) hI)))))
  refine wpQuiet_nil ?_
  intro _ hw'
  obtain ⟨x3, rfl⟩ := hw'
  have z3 := x3.h.size
  try simp only [World.size_alloc, World.size_setCell, World.size_drew] at z3
  have s3_0 : w.heap.size < x3.w.heap.size := by omega
  have s3_1 : w.heap.size + 1 < x3.w.heap.size := by omega
  have s3_2 : w.heap.size + 1 + 1 < x3.w.heap.size := by omega
  have s3_3 : w1.heap.size < x3.w.heap.size := by omega
  have s3_4 : w2.heap.size < x3.w.heap.size := by omega
  have hB3 : Below w.heap.size w x3.w := below_seq (by repeat (first | exact hB2 | exact Below.refl _ _ | refine balloc ?_ _ | refine Below.drew ?_ | refine below_drewN ?_ _ | refine below_set ?_ (by first | omega | (dsimp only; omega)) _)) x3.h
  have m0 : x3.w.cell? ⟨w.heap.size + 1 + 1, 0, none⟩ = some (.int .i64 0) := by go_simp
  have m1 : x3.w.cell? ⟨w.heap.size + 1 + 1, 1, none⟩ = some (.int .i64 0) := by go_simp
  go_wp2
  have k := set2_cell (w := x3.w) (x := .int .i64 R) (y := .int .i64 I) m0 m1
  refine bodyPost_ret (v := .agg #[.int .i64 R, .int .i64 I]) (by simp [results, Tryd.results23, go_sem, k.1, k.2]) rfl ⟨rfl, set2_below (by repeat (first | exact hB3 | exact Below.refl _ _ | refine balloc ?_ _ | refine Below.drew ?_ | refine below_drewN ?_ _ | refine below_set ?_ (by first | omega | (dsimp only; omega)) _)) (by omega)⟩
theorem refTwinMul_c (y z : Z) (w : World) : Calls Tryd.prog 23 #[twR y, twR z] w fun e w' => e = .returned (twR (y.mul z)) ∧ Below w.heap.size w w' := by
  have ha := fz_lt y.re; have hb := fz_lt y.im; have hc := fz_lt z.re; have hd := fz_lt z.im
  have m1 := mul_bd ha hc; have m2 := mul_bd hb hd; have m3 := mul_bd ha hd; have m4 := mul_bd hb hc
  refine refTwinMul_core _ _ _ _ _ _ w ha.1 ha.2 hb.1 hb.2 hc.1 hc.2 hd.1 hd.2 m1.1 m1.2 m2.1 m2.2 m3.1 m3.2 m4.1 m4.2 (Int.emod_eq_of_lt ha.1 ha.2) (Int.emod_eq_of_lt hb.1 hb.2) (Int.emod_eq_of_lt hc.1 hc.2) (Int.emod_eq_of_lt hd.1 hd.2) ?_ ?_
  · show _ = fz (y.mul z).re
    refine fi_inj ⟨Int.emod_nonneg _ (by decide), Int.emod_lt_of_pos _ (by decide)⟩ (fz_lt _) ?_
    rw [fi_mod, fi_sub, fi_mul, fi_mul, fi_fz, fi_fz, fi_fz, fi_fz, fi_fz]; rfl
  · show _ = fz (y.mul z).im
    refine fi_inj ⟨Int.emod_nonneg _ (by decide), Int.emod_lt_of_pos _ (by decide)⟩ (fz_lt _) ?_
    rw [fi_mod, fi_add, fi_mul, fi_mul, fi_fz, fi_fz, fi_fz, fi_fz, fi_fz]; rfl
end Go.Proofs.YtfnifdmnbccblaaDoor
namespace Go.Proofs.YtfnifdmnbccblaaDoor
open Go.RowKit
set_option maxRecDepth 100000
set_option linter.unusedVariables false
set_option linter.unusedSimpArgs false
theorem refTwinMul_e (y z v : Z) (w : World) (h : Hid (y.mul z = v)) : Calls Tryd.prog 23 #[twR y, twR z] w fun e w' => e = .returned (twR v) ∧ Below w.heap.size w w' := by
  have := refTwinMul_c y z w; rw [h.out] at this; exact this
set_option maxHeartbeats 1000000 in
theorem refTwinPower_0 (a : Z) (w : World) : Calls Tryd.prog 86 #[twR a, .int .i64 0] w fun e w' => e = .returned (.agg #[.int .i64 1, .int .i64 0]) ∧ Below w.heap.size w w' := by
  go_enter Tryd.func86, Tryd.ntmps86
  go_wp2
  refine bodyPost_ret (v := .agg #[.int .i64 1, .int .i64 0]) (by simp [results, Tryd.results86, go_sem]) rfl ⟨rfl, ?_⟩
  repeat (first | exact Below.refl _ _ | refine Below.drew ?_ | refine balloc ?_ _ | refine below_set ?_ (by simp) _)
set_option maxHeartbeats 2000000 in
theorem refTwinPower_even (a H V : Z) (k : Int) (w : World) (k0 : 0 < k) (k1 : k ≤ 9223372036854775807) (hp : (k % 2 == 1) = false)
    (hr : Hid (∀ w : World, Calls Tryd.prog 86 #[twR a, .int .i64 (k / 2)] w fun e w' => e = .returned (twR H) ∧ Below w.heap.size w w')) (hV : Hid (H.mul H = V)) : Calls Tryd.prog 86 #[twR a, .int .i64 k] w fun e w' => e = .returned (twR V) ∧ Below w.heap.size w w' := by
  go_enter Tryd.func86, Tryd.ntmps86
  go_wp2_with fail
  refine (hr.out _).mono ?_; rintro e w1 ⟨rfl, hb⟩
  obtain ⟨hc1, hf1⟩ := bcell hb
  have z1 := hb.size
  try simp only [World.size_alloc, World.size_setCell, World.size_drew] at z1
  have s1_0 : w.heap.size < w1.heap.size := by omega
  have s1_1 : w.heap.size + 1 < w1.heap.size := by omega
  have hB1 : Below w.heap.size w w1 := below_seq (by repeat (first | exact Below.refl _ _ | refine balloc ?_ _ | refine Below.drew ?_ | refine below_drewN ?_ _ | refine below_set ?_ (by first | omega | (dsimp only; omega)) _)) hb
  clear hb
  have m1_0_0 : w1.cell? ⟨w.heap.size, 0, none⟩ = some (.int .i64 (fz a.re)) := by go_simp
  have m1_0_1 : w1.cell? ⟨w.heap.size, 1, none⟩ = some (.int .i64 (fz a.im)) := by go_simp
  have m1_1_0 : w1.cell? ⟨w.heap.size + 1, 0, none⟩ = some (.int .i64 0) := by go_simp
  have m1_1_1 : w1.cell? ⟨w.heap.size + 1, 1, none⟩ = some (.int .i64 0) := by go_simp
  go_wp2_with fail
  refine (refTwinMul_e H H V _ hV).mono ?_; rintro e w2 ⟨rfl, hb⟩
  obtain ⟨hc2, hf2⟩ := bcell hb
  have z2 := hb.size
  try simp only [World.size_alloc, World.size_setCell, World.size_drew] at z2
  have s2_0 : w.heap.size < w2.heap.size := by omega
  have s2_1 : w.heap.size + 1 < w2.heap.size := by omega
  have s2_2 : w1.heap.size < w2.heap.size := by omega
  have hB2 : Below w.heap.size w w2 := below_seq (by repeat (first | exact hB1 | exact Below.refl _ _ | refine balloc ?_ _ | refine Below.drew ?_ | refine below_drewN ?_ _ | refine below_set ?_ (by first | omega | (dsimp only; omega)) _)) hb
  clear hb
  have m2_0_0 : w2.cell? ⟨w.heap.size, 0, none⟩ = some (.int .i64 (fz a.re)) := by go_simp
  have m2_0_1 : w2.cell? ⟨w.heap.size, 1, none⟩ = some (.int .i64 (fz a.im)) := by go_simp
  have m2_1_0 : w2.cell? ⟨w.heap.size + 1, 0, none⟩ = some (.int .i64 0) := by go_simp
  have m2_1_1 : w2.cell? ⟨w.heap.size + 1, 1, none⟩ = some (.int .i64 0) := by go_simp
  have m2_2_0 : w2.cell? ⟨w1.heap.size, 0, none⟩ = some (.int .i64 (fz H.re)) := by go_simp
  have m2_2_1 : w2.cell? ⟨w1.heap.size, 1, none⟩ = some (.int .i64 (fz H.im)) := by go_simp
  clear m1_0_0 m1_0_1 m1_1_0 m1_1_1
  go_wp2
  have q0 := (set2_other (w := w2) (b := w1.heap.size) (c := w.heap.size + 1) (k := 0) (x := .int .i64 (fz V.re)) (y := .int .i64 (fz V.im)) (by omega)).trans m2_1_0
  have q1 := (set2_other (w := w2) (b := w1.heap.size) (c := w.heap.size + 1) (k := 1) (x := .int .i64 (fz V.re)) (y := .int .i64 (fz V.im)) (by omega)).trans m2_1_1
  have k := set2_cell (x := .int .i64 (fz V.re)) (y := .int .i64 (fz V.im)) q0 q1
  refine bodyPost_ret (v := twR V) (by simp [results, Tryd.results86, go_sem, k.1, k.2]) rfl ⟨rfl, set2_below (set2_below hB2 (by omega)) (by omega)⟩
set_option maxHeartbeats 2000000 in
theorem refTwinPower_odd (a H G V : Z) (k : Int) (w : World) (k0 : 0 < k) (k1 : k ≤ 9223372036854775807) (hp : (k % 2 == 1) = true)
    (hr : Hid (∀ w : World, Calls Tryd.prog 86 #[twR a, .int .i64 (k / 2)] w fun e w' => e = .returned (twR H) ∧ Below w.heap.size w w')) (hG : Hid (H.mul H = G)) (hV : Hid (G.mul a = V)) : Calls Tryd.prog 86 #[twR a, .int .i64 k] w fun e w' => e = .returned (twR V) ∧ Below w.heap.size w w' := by
  go_enter Tryd.func86, Tryd.ntmps86
  go_wp2_with fail
  refine (hr.out _).mono ?_; rintro e w1 ⟨rfl, hb⟩
  obtain ⟨hc1, hf1⟩ := bcell hb
  have z1 := hb.size
  try simp only [World.size_alloc, World.size_setCell, World.size_drew] at z1
  have s1_0 : w.heap.size < w1.heap.size := by omega
  have s1_1 : w.heap.size + 1 < w1.heap.size := by omega
  have hB1 : Below w.heap.size w w1 := below_seq (by repeat (first | exact Below.refl _ _ | refine balloc ?_ _ | refine Below.drew ?_ | refine below_drewN ?_ _ | refine below_set ?_ (by first | omega | (dsimp only; omega)) _)) hb
  clear hb
  have m1_0_0 : w1.cell? ⟨w.heap.size, 0, none⟩ = some (.int .i64 (fz a.re)) := by go_simp
  have m1_0_1 : w1.cell? ⟨w.heap.size, 1, none⟩ = some (.int .i64 (fz a.im)) := by go_simp
  have m1_1_0 : w1.cell? ⟨w.heap.size + 1, 0, none⟩ = some (.int .i64 0) := by go_simp
  have m1_1_1 : w1.cell? ⟨w.heap.size + 1, 1, none⟩ = some (.int .i64 0) := by go_simp
  go_wp2_with fail
  refine (refTwinMul_e H H G _ hG).mono ?_; rintro e w2 ⟨rfl, hb⟩
  obtain ⟨hc2, hf2⟩ := bcell hb
  have z2 := hb.size
  try simp only [World.size_alloc, World.size_setCell, World.size_drew] at z2
  have s2_0 : w.heap.size < w2.heap.size := by omega
  have s2_1 : w.heap.size + 1 < w2.heap.size := by omega
  have s2_2 : w1.heap.size < w2.heap.size := by omega
  have hB2 : Below w.heap.size w w2 := below_seq (by repeat (first | exact hB1 | exact Below.refl _ _ | refine balloc ?_ _ | refine Below.drew ?_ | refine below_drewN ?_ _ | refine below_set ?_ (by first | omega | (dsimp only; omega)) _)) hb
  clear hb
  have m2_0_0 : w2.cell? ⟨w.heap.size, 0, none⟩ = some (.int .i64 (fz a.re)) := by go_simp
  have m2_0_1 : w2.cell? ⟨w.heap.size, 1, none⟩ = some (.int .i64 (fz a.im)) := by go_simp
  have m2_1_0 : w2.cell? ⟨w.heap.size + 1, 0, none⟩ = some (.int .i64 0) := by go_simp
  have m2_1_1 : w2.cell? ⟨w.heap.size + 1, 1, none⟩ = some (.int .i64 0) := by go_simp
  have m2_2_0 : w2.cell? ⟨w1.heap.size, 0, none⟩ = some (.int .i64 (fz H.re)) := by go_simp
  have m2_2_1 : w2.cell? ⟨w1.heap.size, 1, none⟩ = some (.int .i64 (fz H.im)) := by go_simp
  clear m1_0_0 m1_0_1 m1_1_0 m1_1_1
  have kG := set2_cell (w := w2) (x := .int .i64 (fz G.re)) (y := .int .i64 (fz G.im)) m2_2_0 m2_2_1
  go_wp2_with fail
  refine (refTwinMul_e G a V _ hV).mono ?_; rintro e w3 ⟨rfl, hb⟩
  obtain ⟨hc3, hf3⟩ := bcell hb
  have z3 := hb.size
  try simp only [World.size_alloc, World.size_setCell, World.size_drew] at z3
  have s3_0 : w.heap.size < w3.heap.size := by omega
  have s3_1 : w.heap.size + 1 < w3.heap.size := by omega
  have s3_2 : w1.heap.size < w3.heap.size := by omega
  have hB3 : Below w.heap.size w w3 := below_seq (by repeat (first | exact hB2 | exact Below.refl _ _ | refine balloc ?_ _ | refine Below.drew ?_ | refine below_drewN ?_ _ | refine below_set ?_ (by first | omega | (dsimp only; omega)) _)) hb
  clear hb
  have m3_0_0 : w3.cell? ⟨w.heap.size, 0, none⟩ = some (.int .i64 (fz a.re)) := by go_simp
  have m3_0_1 : w3.cell? ⟨w.heap.size, 1, none⟩ = some (.int .i64 (fz a.im)) := by go_simp
  have m3_1_0 : w3.cell? ⟨w.heap.size + 1, 0, none⟩ = some (.int .i64 0) := by go_simp
  have m3_1_1 : w3.cell? ⟨w.heap.size + 1, 1, none⟩ = some (.int .i64 0) := by go_simp
  clear m2_0_0 m2_0_1 m2_1_0 m2_1_1 m2_2_0 m2_2_1
  have g0 := (hc3 w1.heap.size 0 (by simp only [set2_size]; omega)).trans kG.1
  have g1 := (hc3 w1.heap.size 1 (by simp only [set2_size]; omega)).trans kG.2
  go_wp2
  have q0 := (set2_other (w := w3) (b := w1.heap.size) (c := w.heap.size + 1) (k := 0) (x := .int .i64 (fz V.re)) (y := .int .i64 (fz V.im)) (by omega)).trans m3_1_0
  have q1 := (set2_other (w := w3) (b := w1.heap.size) (c := w.heap.size + 1) (k := 1) (x := .int .i64 (fz V.re)) (y := .int .i64 (fz V.im)) (by omega)).trans m3_1_1
  have k := set2_cell (x := .int .i64 (fz V.re)) (y := .int .i64 (fz V.im)) q0 q1
  refine bodyPost_ret (v := twR V) (by simp [results, Tryd.results86, go_sem, k.1, k.2]) rfl ⟨rfl, set2_below (set2_below hB3 (by omega)) (by omega)⟩
theorem zp_even (z : Z) (k : Int) (h0 : 0 ≤ k) (h : k % 2 = 0) : (z.pow (k / 2).toNat).mul (z.pow (k / 2).toNat) = z.pow k.toNat := by
  rw [← Z.pow_add]; congr 1; omega
theorem zp_odd (z : Z) (k : Int) (h0 : 0 ≤ k) (h : k % 2 = 1) : ((z.pow (k / 2).toNat).mul (z.pow (k / 2).toNat)).mul z = z.pow k.toNat := by
  rw [← Z.pow_add, ← Z.pow_succ]; congr 1; omega
theorem refTwinPower_n (a : Z) : ∀ (N : Nat) (k : Int) (w : World), k.toNat ≤ N → 0 ≤ k → k ≤ 9223372036854775807 → Calls Tryd.prog 86 #[twR a, .int .i64 k] w fun e w' => e = .returned (twR (a.pow k.toNat)) ∧ Below w.heap.size w w' := by
  have zero : ∀ w : World, Calls Tryd.prog 86 #[twR a, .int .i64 0] w fun e w' => e = .returned (twR (a.pow (0 : Int).toNat)) ∧ Below w.heap.size w w' := fun w => by
    have e : twR (a.pow (0 : Int).toNat) = .agg #[.int .i64 1, .int .i64 0] := by
      rw [show (0 : Int).toNat = 0 from rfl, Z.pow_zero]
      show Value.agg #[.int .i64 (fz Z.one.re), .int .i64 (fz Z.one.im)] = _
      have h1 : fz Z.one.re = 1 := by decide
      have h2 : fz Z.one.im = 0 := by decide
      rw [h1, h2]
    rw [e]; exact refTwinPower_0 a w
  intro N
  induction N with
  | zero =>
    intro k w hN k0 k1
    obtain rfl : k = 0 := by omega
    exact zero w
  | succ N ih =>
    intro k w hN k0 k1
    by_cases h0 : k = 0
    · subst h0; exact zero w
    · have r : ∀ w : World, Calls Tryd.prog 86 #[twR a, .int .i64 (k / 2)] w fun e w' => e = .returned (twR (a.pow (k / 2).toNat)) ∧ Below w.heap.size w w' := fun w => ih (k / 2) w (by omega) (by omega) (by omega)
      cases hp : (k % 2 == 1)
      · have hp' : k % 2 = 0 := by have : ¬ k % 2 = 1 := by simpa using hp
                                   omega
        exact refTwinPower_even a _ _ k w (by omega) k1 hp r (zp_even a k k0 hp')
      · have hp' : k % 2 = 1 := by simpa using hp
        exact refTwinPower_odd a _ _ _ k w (by omega) k1 hp r rfl (zp_odd a k k0 hp')
theorem refTwinPower_e (a V : Z) (k : Int) (w : World) (k0 : 0 ≤ k) (k1 : k ≤ 9223372036854775807) (h : Hid (a.pow k.toNat = V)) : Calls Tryd.prog 86 #[twR a, .int .i64 k] w fun e w' => e = .returned (twR V) ∧ Below w.heap.size w w' := by
  have := refTwinPower_n a _ k w (Nat.le_refl _) k0 k1; rw [h.out] at this; exact this
end Go.Proofs.YtfnifdmnbccblaaDoor
namespace Go.Proofs.YtfnifdmnbccblaaDoor
open Go.RowKit
set_option maxRecDepth 100000
set_option linter.unusedVariables false
set_option linter.unusedSimpArgs false
theorem zR_cnt {a b : Sp} {i j : Int} (ha : Cnt a i) (hb : Cnt b j) (fa : a.far = false) (fb : b.far = false) : zP refOps a b = zeta.pow (i * j).toNat := by
  obtain ⟨rfl, i0, i1⟩ := ha
  obtain ⟨rfl, j0, j1⟩ := hb
  have hi : i ≠ 0 := fun e => by rw [e] at fa; rw [sq_far.mpr (by decide)] at fa; cases fa
  have hj : j ≠ 0 := fun e => by rw [e] at fb; rw [sq_far.mpr (by decide)] at fb; cases fb
  have := zR_all (i := i.toNat) (j := j.toNat) (by omega) (by omega) (by omega) (by omega)
  rw [show ((i.toNat : Nat) : Int) = i by omega, show ((j.toNat : Nat) : Int) = j by omega] at this
  rw [this]; congr 1
  have e : ((i.toNat * j.toNat : Nat) : Int) = i * j := by rw [Int.natCast_mul, show ((i.toNat : Nat) : Int) = i by omega, show ((j.toNat : Nat) : Int) = j by omega]
  omega
set_option maxHeartbeats 1000000 in
theorem refPair_farl (a b : Sp) (w : World) (h : a.far = true) : Calls Tryd.prog 19 #[spV a, spV b] w fun e w' => e = .returned (.agg #[.int .i64 1, .int .i64 0]) ∧ Below w.heap.size w w' := by
  obtain ⟨x, y, f⟩ := a; obtain ⟨u, v, g⟩ := b
  subst h
  go_enter Tryd.func19, Tryd.ntmps19
  go_wp2
  refine bodyPost_ret (v := .agg #[.int .i64 1, .int .i64 0]) (by simp [results, Tryd.results19, go_sem]) rfl ⟨rfl, (by repeat (first | exact Below.refl _ _ | refine balloc ?_ _ | refine Below.drew ?_ | refine below_drewN ?_ _ | refine below_set ?_ (by first | omega | (dsimp only; omega)) _))⟩
set_option maxHeartbeats 1000000 in
theorem refPair_farr (a b : Sp) (w : World) (h0 : a.far = false) (h : b.far = true) : Calls Tryd.prog 19 #[spV a, spV b] w fun e w' => e = .returned (.agg #[.int .i64 1, .int .i64 0]) ∧ Below w.heap.size w w' := by
  obtain ⟨x, y, f⟩ := a; obtain ⟨u, v, g⟩ := b
  subst h; subst h0
  go_enter Tryd.func19, Tryd.ntmps19
  go_wp2
  refine bodyPost_ret (v := .agg #[.int .i64 1, .int .i64 0]) (by simp [results, Tryd.results19, go_sem]) rfl ⟨rfl, (by repeat (first | exact Below.refl _ _ | refine balloc ?_ _ | refine Below.drew ?_ | refine below_drewN ?_ _ | refine below_set ?_ (by first | omega | (dsimp only; omega)) _))⟩
/-- The number of a line, as the document reckons it. -/
theorem ref_line {t a b : Sp} {s : Int} (hs : sSlope t a = some s) (hb : 0 ≤ b.y ∧ b.y < 4051) : (s * (b.x + t.x) - t.y) % 4051 = fz (zLine t a b).re ∧ b.y = fz (zLine t a b).im := by
  have h := line_alg t b s hb
  have e : zLine t a b = ⟨fi s * (fi b.x + fi t.x) - fi t.y, fi b.y⟩ := by unfold zLine; rw [hs]
  rw [e]
  refine ⟨?_, h.2⟩
  rw [← h.1]
  unfold pSub pMul
  omega
theorem mrun_snoc (a b : Sp) (n : Nat) : mrun a b (List.replicate (n + 1) true) = mstep a b (mrun a b (List.replicate n true)) true := by
  unfold mrun
  rw [List.replicate_succ', List.foldl_append]; rfl
theorem mrun_sp {i : Int} {b : Sp} : ∀ n : Nat, (mrun (sq (4 * i)) b (List.replicate n true)).2 = sq (4 * i * ((n + 1 : Nat) : Int))
  | 0 => by show sq (4 * i) = _; congr 1; simp
  | n + 1 => by
    rw [mrun_snoc]
    show sSum (mrun (sq (4 * i)) b (List.replicate n true)).2 (sq (4 * i)) = _
    rw [mrun_sp n, sq_add]; congr 1
    rw [Int.natCast_add, Int.natCast_add, Int.natCast_add, Int.mul_add, Int.mul_add, Int.mul_add]; simp
set_option maxHeartbeats 8000000 in
theorem refPair_c (a b : Sp) (i : Int) (w : World) (hi : i % 1013 ≠ 0) (hai : Hid (a = sq (4 * i))) (ha : Ok a) (hb : Ok b) (fa : a.far = false) (fb : b.far = false) : Calls Tryd.prog 19 #[spV a, spV b] w fun e w' => e = .returned (twR (zP refOps a b)) ∧ Below w.heap.size w w' := by
  have hstep := Lib.hid (mrun_snoc a b)
  have hT : Hid (∀ n, (mrun a b (List.replicate n true)).2 = sq (4 * i * ((n + 1 : Nat) : Int))) := Lib.hid (fun n => by rw [hai.out]; exact mrun_sp n)
  have h0 : Hid (mrun a b (List.replicate 0 true) = (.one, a)) := Lib.hid rfl
  have hend : Hid ((mrun a b (List.replicate 1012 true)).1.pow (16200 : Int).toNat = zP refOps a b) := Lib.hid (by rw [mrun_ref]; rfl)
  have hfar : Hid (∀ n : Nat, n < 1012 → (mrun a b (List.replicate n true)).2.far = false) := Lib.hid (fun n hn => by rw [hT.out]; exact far_k hi (by omega) (by omega))
  have hok : Hid (∀ n : Nat, Ok (mrun a b (List.replicate n true)).2) := Lib.hid (fun n => by rw [hT.out]; exact sq_ok _)
  obtain ⟨M, hM⟩ : ∃ M : Nat → Z × Sp, ∀ n, mrun a b (List.replicate n true) = M n := ⟨_, fun n => rfl⟩
  simp only [hM] at hstep h0 hend hfar hok
  clear hM hai hT
  obtain ⟨ax, ay, af⟩ := a
  obtain ⟨bx, by', bf⟩ := b
  simp only at fa fb
  subst fa fb
  go_enter Tryd.func19, Tryd.ntmps19
  go_wp2_with fail
  have m0 : PMem w (((((w.alloc (.cells #[.int .i64 ax, .int .i64 ay, .bool false] 25)).alloc (.cells #[.int .i64 bx, .int .i64 by', .bool false] 25)).alloc (.cells #[.int .i64 0, .int .i64 0] 40)).alloc (.cells #[.int .i64 1, .int .i64 0] 40)).alloc (.cells #[.int .i64 ax, .int .i64 ay, .bool false] 25)) (w.heap.size + 1 + 1 + 1) (w.heap.size + 1 + 1 + 1 + 1) ⟨ax, ay, false⟩ ⟨bx, by', false⟩ .one ⟨ax, ay, false⟩ := by
    refine ⟨?_, ?_, ?_, TwAt.zero_of (by go_simp) (by go_simp) (by go_simp) (by go_simp) (by simp only [World.size_alloc]; omega), TwAt.one_of (by go_simp) (by go_simp) (by go_simp) (by go_simp) (by simp only [World.size_alloc]; omega), ?_, by omega, by omega, by omega⟩
    · exact balloc (balloc (balloc (balloc (below_alloc _ _) _) _) _) _
    · exact ⟨by go_simp, by go_simp, by go_simp, by go_simp, by go_simp, by go_simp, by simp only [World.size_alloc]; omega⟩
    · exact ⟨by go_simp, by go_simp, by go_simp, by go_simp, by go_simp, by go_simp, by simp only [World.size_alloc]; omega⟩
    · exact ⟨by go_simp, by go_simp, by go_simp, by go_simp, by go_simp, by go_simp, by simp only [World.size_alloc]; omega⟩
  replace m0 := Lib.hid m0
  generalize ((((w.alloc (.cells #[.int .i64 ax, .int .i64 ay, .bool false] 25)).alloc (.cells #[.int .i64 bx, .int .i64 by', .bool false] 25)).alloc (.cells #[.int .i64 0, .int .i64 0] 40)).alloc (.cells #[.int .i64 1, .int .i64 0] 40)).alloc (.cells #[.int .i64 ax, .int .i64 ay, .bool false] 25) = w0 at *
  have ha' := Lib.hid ha
  have hb' := Lib.hid hb
  clear ha hb
  go_loopw [7, 8, 9] (fun s7 s8 s9 wr => ∃ n : Nat, n ≤ 1012 ∧ s7 = .int .i64 ((n : Int) + 1) ∧ PMem w wr (w.heap.size + 1 + 1 + 1) (w.heap.size + 1 + 1 + 1 + 1) ⟨ax, ay, false⟩ ⟨bx, by', false⟩ (M n).1 (M n).2) (fun s7 _ _ _ => (1013 - intOf s7).toNat)
  case atStart => exact ⟨0, by omega, rfl, by rw [h0.out]; exact m0.out⟩
  case round =>
    clear m0 h0
    obtain ⟨n, hn, rfl, m⟩ := hrel
    have m := Lib.hid m
    by_cases hlt : n < 1012
    · have ht := hok.out n
      have ft := hfar.out n hlt
      have hst := hstep.out n
      clear hstep hok hfar hend
      generalize hMn : M n = mn at *
      obtain ⟨f, tx, ty, tf⟩ := mn
      simp only at ft ht
      subst ft
      replace m : Hid (PMem w wr (w.heap.size + 1 + 1 + 1) (w.heap.size + 1 + 1 + 1 + 1) ⟨ax, ay, false⟩ ⟨bx, by', false⟩ f ⟨tx, ty, false⟩) := m
      replace hst := Lib.hid hst
      clear hMn
      cases hs : sSlope ⟨tx, ty, false⟩ ⟨ax, ay, false⟩ with
      | none =>
        have hM1 : Hid (M (n + 1) = (f, sSum ⟨tx, ty, false⟩ ⟨ax, ay, false⟩)) := Lib.hid (by
          rw [hst.out]
          show (f.mul (zLine ⟨tx, ty, false⟩ ⟨ax, ay, false⟩ ⟨bx, by', false⟩), _) = _
          rw [show zLine ⟨tx, ty, false⟩ ⟨ax, ay, false⟩ ⟨bx, by', false⟩ = .one by unfold zLine; rw [hs], Z.mul_one])
        obtain ⟨bel, ⟨a0, a1, a2, fa0, fa1, fa2, al⟩, ⟨b0, b1, b2, fb0, fb1, fb2, bl⟩, ⟨r0, r1, fr0, fr1, rl⟩, ⟨g0, g1, fg0, fg1, gl⟩, ⟨h0', h1', h2', fh0, fh1, fh2, hl⟩, hg, hh, ne⟩ := m.out
        go_wp2_with fail
        refine (refSlope_n ⟨tx, ty, false⟩ ⟨ax, ay, false⟩ ht ha'.out hs _).mono ?_; rintro e w1 ⟨rfl, hb1⟩
        have m1 := m.out.below hb1
        have n1 := Lib.hid m1
        clear bel a0 a1 a2 fa0 fa1 fa2 al b0 b1 b2 fb0 fb1 fb2 bl r0 r1 fr0 fr1 rl g0 g1 fg0 fg1 gl h0' h1' h2' fh0 fh1 fh2 hl hg hh ne
        clear hb1 m
        obtain ⟨bel, ⟨a0, a1, a2, fa0, fa1, fa2, al⟩, ⟨b0, b1, b2, fb0, fb1, fb2, bl⟩, ⟨r0, r1, fr0, fr1, rl⟩, ⟨g0, g1, fg0, fg1, gl⟩, ⟨h0', h1', h2', fh0, fh1, fh2, hl⟩, hg, hh, ne⟩ := m1
        go_wp2_with fail
        refine (refAdd_e ⟨tx, ty, false⟩ ⟨ax, ay, false⟩ _ _ ht ha'.out (Lib.hid rfl)).mono ?_; rintro e w3 ⟨rfl, hb3⟩
        have m3 := n1.out.below hb3
        have n3 := Lib.hid m3
        clear bel a0 a1 a2 fa0 fa1 fa2 al b0 b1 b2 fb0 fb1 fb2 bl r0 r1 fr0 fr1 rl g0 g1 fg0 fg1 gl h0' h1' h2' fh0 fh1 fh2 hl hg hh ne
        clear hb3 n1
        generalize hS : sSum ⟨tx, ty, false⟩ ⟨ax, ay, false⟩ = S at *
        obtain ⟨bel, ⟨a0, a1, a2, fa0, fa1, fa2, al⟩, ⟨b0, b1, b2, fb0, fb1, fb2, bl⟩, ⟨r0, r1, fr0, fr1, rl⟩, ⟨g0, g1, fg0, fg1, gl⟩, ⟨h0', h1', h2', fh0, fh1, fh2, hl⟩, hg, hh, ne⟩ := m3
        go_wp2
        go_roundw
        case rel => exact ⟨n + 1, by omega, by go_num, by rw [hM1.out]; exact n3.out.setH S⟩
        case measure => simp [intOf]; omega
      | some sl =>
        obtain ⟨V, hV⟩ : ∃ V, f.mul (zLine ⟨tx, ty, false⟩ ⟨ax, ay, false⟩ ⟨bx, by', false⟩) = V := ⟨_, rfl⟩
        have hM1 : Hid (M (n + 1) = (V, sSum ⟨tx, ty, false⟩ ⟨ax, ay, false⟩)) := Lib.hid (by rw [hst.out, ← hV]; rfl)
        have hl := ref_line (b := ⟨bx, by', false⟩) hs ⟨hb'.out.y0, hb'.out.y1⟩
        obtain ⟨s0, s1⟩ := slope_bd _ _ _ hs
        have t0 := ht.x0
        have t1 := ht.x1
        have t2 := ht.y0
        have t3 := ht.y1
        have u0 := hb'.out.x0
        have u1 := hb'.out.x1
        simp only at hl t0 t1 t2 t3 u0 u1
        have p0 : 0 ≤ sl * (bx + tx) := Int.mul_nonneg s0 (by omega)
        have p1 : sl * (bx + tx) ≤ 4050 * 8100 := Int.mul_le_mul (by omega) (by omega) (by omega) (by omega)
        have v0 : IntKind.i64.wrap (bx + tx) = bx + tx := IntWalk.i64_in _ (by omega)
        have v1 : IntKind.i64.wrap (sl * (bx + tx)) = sl * (bx + tx) := IntWalk.i64_in _ (by omega)
        have v2 : IntKind.i64.wrap (sl * (bx + tx) - ty) = sl * (bx + tx) - ty := IntWalk.i64_in _ (by omega)
        obtain ⟨V1, hV1⟩ : ∃ v, (sl * (bx + tx) - ty) % 4051 = v := ⟨_, rfl⟩
        rw [hV1] at hl
        have hMod := Lib.hid (fun (w : World) => ((refMod_e (sl * (bx + tx) - ty) 4051 V1 w (by omega) (by omega) (by omega) (by omega) (Lib.hid hV1)).mono fun e w' h => (⟨h.1, h.2 ▸ Below.refl _ _⟩ : e = .returned (.int .i64 V1) ∧ Below w.heap.size w w')))
        have hTM : Hid (∀ w : World, Calls Tryd.prog 23 #[.agg #[.int .i64 (fz f.re), .int .i64 (fz f.im)], .agg #[.int .i64 V1, .int .i64 by']] w fun e w' => e = .returned (twR V) ∧ Below w.heap.size w w') := Lib.hid (fun w => by
          have h := refTwinMul_e f (zLine ⟨tx, ty, false⟩ ⟨ax, ay, false⟩ ⟨bx, by', false⟩) V w (Lib.hid hV)
          rw [show twR (zLine ⟨tx, ty, false⟩ ⟨ax, ay, false⟩ ⟨bx, by', false⟩) = .agg #[.int .i64 V1, .int .i64 by'] by unfold twR; rw [← hl.1, ← hl.2]] at h
          exact h)
        replace hl := Lib.hid hl
        replace hV := Lib.hid hV
        replace hV1 := Lib.hid hV1
        obtain ⟨bel, ⟨a0, a1, a2, fa0, fa1, fa2, al⟩, ⟨b0, b1, b2, fb0, fb1, fb2, bl⟩, ⟨r0, r1, fr0, fr1, rl⟩, ⟨g0, g1, fg0, fg1, gl⟩, ⟨h0', h1', h2', fh0, fh1, fh2, hl⟩, hg, hh, ne⟩ := m.out
        go_wp2_with fail
        refine (refSlope_y ⟨tx, ty, false⟩ ⟨ax, ay, false⟩ sl ht ha'.out hs _).mono ?_; rintro e w1 ⟨rfl, hb1⟩
        have m1 := m.out.below hb1
        have n1 := Lib.hid m1
        clear bel a0 a1 a2 fa0 fa1 fa2 al b0 b1 b2 fb0 fb1 fb2 bl r0 r1 fr0 fr1 rl g0 g1 fg0 fg1 gl h0' h1' h2' fh0 fh1 fh2 hl hg hh ne
        clear hb1 m
        obtain ⟨bel, ⟨a0, a1, a2, fa0, fa1, fa2, al⟩, ⟨b0, b1, b2, fb0, fb1, fb2, bl⟩, ⟨r0, r1, fr0, fr1, rl⟩, ⟨g0, g1, fg0, fg1, gl⟩, ⟨h0', h1', h2', fh0, fh1, fh2, hl⟩, hg, hh, ne⟩ := m1
        go_wp2_with fail
        refine wp_region_grow_tail 16 Tryd.mixed (by kernel_rfl) ?_
        simp only [List.take_succ_cons, List.take_zero, List.drop_succ_cons, List.drop_zero]
        repeat (quiet_step ((first | (go_at_call 42; exact grow_of (hMod.out _)) | (go_at_call 23; exact grow_of (hTM.out _)))))
        refine wpQuiet_nil ?_
        intro _ hw'
        obtain ⟨x2, rfl⟩ := hw'
        have m2 := n1.out.below x2.h
        have n2 := Lib.hid (m2.setG V)
        clear bel a0 a1 a2 fa0 fa1 fa2 al b0 b1 b2 fb0 fb1 fb2 bl r0 r1 fr0 fr1 rl g0 g1 fg0 fg1 gl h0' h1' h2' fh0 fh1 fh2 hl hg hh ne
        clear n1
        obtain ⟨bel, ⟨a0, a1, a2, fa0, fa1, fa2, al⟩, ⟨b0, b1, b2, fb0, fb1, fb2, bl⟩, ⟨r0, r1, fr0, fr1, rl⟩, ⟨g0, g1, fg0, fg1, gl⟩, ⟨h0', h1', h2', fh0, fh1, fh2, hl⟩, hg, hh, ne⟩ := m2
        go_wp2_with fail
        refine (refAdd_e ⟨tx, ty, false⟩ ⟨ax, ay, false⟩ _ _ ht ha'.out (Lib.hid rfl)).mono ?_; rintro e w3 ⟨rfl, hb3⟩
        have m3 := n2.out.below hb3
        have n3 := Lib.hid m3
        clear bel a0 a1 a2 fa0 fa1 fa2 al b0 b1 b2 fb0 fb1 fb2 bl r0 r1 fr0 fr1 rl g0 g1 fg0 fg1 gl h0' h1' h2' fh0 fh1 fh2 hl hg hh ne
        clear hb3 n2
        generalize hS : sSum ⟨tx, ty, false⟩ ⟨ax, ay, false⟩ = S at *
        obtain ⟨bel, ⟨a0, a1, a2, fa0, fa1, fa2, al⟩, ⟨b0, b1, b2, fb0, fb1, fb2, bl⟩, ⟨r0, r1, fr0, fr1, rl⟩, ⟨g0, g1, fg0, fg1, gl⟩, ⟨h0', h1', h2', fh0, fh1, fh2, hl⟩, hg, hh, ne⟩ := m3
        go_wp2
        go_roundw
        case rel => exact ⟨n + 1, by omega, by go_num, by rw [hM1.out]; exact n3.out.setH S⟩
        case measure => simp [intOf]; omega
    · obtain rfl : n = 1012 := by omega
      have he := hend
      generalize hf : (M 1012).1 = f at *
      generalize (M 1012).2 = t at *
      obtain ⟨bel, ⟨a0, a1, a2, fa0, fa1, fa2, al⟩, ⟨b0, b1, b2, fb0, fb1, fb2, bl⟩, ⟨r0, r1, fr0, fr1, rl⟩, ⟨g0, g1, fg0, fg1, gl⟩, ⟨h0', h1', h2', fh0, fh1, fh2, hl⟩, hg, hh, ne⟩ := m.out
      go_wp2_with fail
      refine (refTwinPower_e f _ 16200 _ (by omega) (by omega) he).mono ?_; rintro e w1 ⟨rfl, hb1⟩
      have m1 := m.out.below hb1
      clear bel a0 a1 a2 fa0 fa1 fa2 al b0 b1 b2 fb0 fb1 fb2 bl r0 r1 fr0 fr1 rl g0 g1 fg0 fg1 gl h0' h1' h2' fh0 fh1 fh2 hl hg hh ne
      clear hb1
      obtain ⟨bel, ⟨a0, a1, a2, fa0, fa1, fa2, al⟩, ⟨b0, b1, b2, fb0, fb1, fb2, bl⟩, ⟨r0, r1, fr0, fr1, rl⟩, ⟨g0, g1, fg0, fg1, gl⟩, ⟨h0', h1', h2', fh0, fh1, fh2, hl⟩, hg, hh, ne⟩ := m1
      generalize hV : zP refOps ⟨ax, ay, false⟩ ⟨bx, by', false⟩ = V at *
      go_wp2
      have k := set2_cell (w := w1) (x := .int .i64 (fz V.re)) (y := .int .i64 (fz V.im)) r0 r1
      refine bodyPost_ret (v := twR V) (by simp [results, Tryd.results19, go_sem, k.1, k.2]) rfl ⟨by rw [hV], set2_below bel (by omega)⟩
end Go.Proofs.YtfnifdmnbccblaaDoor
namespace Go.Proofs.YtfnifdmnbccblaaDoor
open Go.RowKit
set_option maxRecDepth 100000
set_option linter.unusedVariables false
set_option linter.unusedSimpArgs false
theorem of_z (a b : Sp) (i j : Int) (z : Z) (w : World) (hF : FarAt w) (hO : OneAt w) (ha : Hid (Cnt a i)) (hb : Hid (Cnt b j)) (hz : Hid (zp (i * j) = z)) : Calls Tryd.prog 88 #[spV a, spV b] w fun e w' => e = .returned (twR z) ∧ Below w.heap.size w w' := by
  have := pairOf_z a b i j w hF hO ha.out hb.out
  rw [zp_nat (Int.mul_nonneg ha.out.2.1 hb.out.2.1), hz.out] at this; exact this
set_option maxHeartbeats 2000000 in
theorem same_y (a b c d : Sp) (i j k l : Int) (z : Z) (w : World) (hF : FarAt w) (hO : OneAt w) (ha : Hid (Cnt a i)) (hb : Hid (Cnt b j)) (hc : Hid (Cnt c k)) (hd : Hid (Cnt d l)) (h1 : Hid (zp (i * j) = z)) (h2 : Hid (zp (k * l) = z)) : Calls Tryd.prog 22 #[spV a, spV b, spV c, spV d] w fun e w' => e = .returned (.tuple #[.bool true, .nilIface]) ∧ Below w.heap.size w w' := by
  go_enter Tryd.func22, Tryd.ntmps22
  go_wp2_with fail
  refine (ready_ok a b (4 * i) (4 * j) _ (hF.below (by repeat (first | exact Below.refl _ _ | refine balloc ?_ _ | refine Below.drew ?_ | refine below_drewN ?_ _ | refine below_set ?_ (by first | omega | (dsimp only; omega)) _))) ha.out.1 hb.out.1 (sq_far.mpr (by omega)) (sq_far.mpr (by omega))).mono ?_; rintro e w1 ⟨rfl, hb⟩
  obtain ⟨hc1, hf1⟩ := bcell hb
  have z1 := hb.size
  try simp only [World.size_alloc, World.size_setCell, World.size_drew] at z1
  have s1_0 : w.heap.size < w1.heap.size := by omega
  have s1_1 : w.heap.size + 1 < w1.heap.size := by omega
  have s1_2 : w.heap.size + 1 + 1 < w1.heap.size := by omega
  have s1_3 : w.heap.size + 1 + 1 + 1 < w1.heap.size := by omega
  have hB1 : Below w.heap.size w w1 := below_seq (by repeat (first | exact Below.refl _ _ | refine balloc ?_ _ | refine Below.drew ?_ | refine below_drewN ?_ _ | refine below_set ?_ (by first | omega | (dsimp only; omega)) _)) hb
  clear hb
  go_wp2_with fail
  refine (ready_ok c d (4 * k) (4 * l) _ (hF.below (by repeat (first | exact hB1 | exact Below.refl _ _ | refine balloc ?_ _ | refine Below.drew ?_ | refine below_drewN ?_ _ | refine below_set ?_ (by first | omega | (dsimp only; omega)) _))) hc.out.1 hd.out.1 (sq_far.mpr (by omega)) (sq_far.mpr (by omega))).mono ?_; rintro e w2 ⟨rfl, hb⟩
  obtain ⟨hc2, hf2⟩ := bcell hb
  have z2 := hb.size
  try simp only [World.size_alloc, World.size_setCell, World.size_drew] at z2
  have s2_0 : w.heap.size < w2.heap.size := by omega
  have s2_1 : w.heap.size + 1 < w2.heap.size := by omega
  have s2_2 : w.heap.size + 1 + 1 < w2.heap.size := by omega
  have s2_3 : w.heap.size + 1 + 1 + 1 < w2.heap.size := by omega
  have hB2 : Below w.heap.size w w2 := below_seq (by repeat (first | exact hB1 | exact Below.refl _ _ | refine balloc ?_ _ | refine Below.drew ?_ | refine below_drewN ?_ _ | refine below_set ?_ (by first | omega | (dsimp only; omega)) _)) hb
  clear hb
  go_wp2_with fail
  refine wp_region_grow Tryd.mixed (by kernel_rfl) ?_
  repeat (quiet_step ((first | (go_at_call_of 88 a.x; exact grow_of (of_z a b i j z _ (hF.below (below_seq (by repeat (first | exact hB2 | exact Below.refl _ _ | refine balloc ?_ _ | refine Below.drew ?_ | refine below_drewN ?_ _ | refine below_set ?_ (by first | omega | (dsimp only; omega)) _)) (Grew.h _))) (hO.below (below_seq (by repeat (first | exact hB2 | exact Below.refl _ _ | refine balloc ?_ _ | refine Below.drew ?_ | refine below_drewN ?_ _ | refine below_set ?_ (by first | omega | (dsimp only; omega)) _)) (Grew.h _))) ha hb h1)) | (go_at_call 88; exact grow_of (of_z c d k l z _ (hF.below (below_seq (by repeat (first | exact hB2 | exact Below.refl _ _ | refine balloc ?_ _ | refine Below.drew ?_ | refine below_drewN ?_ _ | refine below_set ?_ (by first | omega | (dsimp only; omega)) _)) (Grew.h _))) (hO.below (below_seq (by repeat (first | exact hB2 | exact Below.refl _ _ | refine balloc ?_ _ | refine Below.drew ?_ | refine below_drewN ?_ _ | refine below_set ?_ (by first | omega | (dsimp only; omega)) _)) (Grew.h _))) hc hd h2)))))
  refine wpQuiet_nil ?_
  intro _ hw'
  obtain ⟨x3, rfl⟩ := hw'
  have z3 := x3.h.size
  try simp only [World.size_alloc, World.size_setCell, World.size_drew] at z3
  have s3_0 : w.heap.size < x3.w.heap.size := by omega
  have s3_1 : w.heap.size + 1 < x3.w.heap.size := by omega
  have s3_2 : w.heap.size + 1 + 1 < x3.w.heap.size := by omega
  have s3_3 : w.heap.size + 1 + 1 + 1 < x3.w.heap.size := by omega
  have hB3 : Below w.heap.size w x3.w := below_seq (by repeat (first | exact hB2 | exact Below.refl _ _ | refine balloc ?_ _ | refine Below.drew ?_ | refine below_drewN ?_ _ | refine below_set ?_ (by first | omega | (dsimp only; omega)) _)) x3.h
  go_wp2
  go_ret2
  exact ⟨rfl, (by repeat (first | exact hB3 | exact Below.refl _ _ | refine balloc ?_ _ | refine Below.drew ?_ | refine below_drewN ?_ _ | refine below_set ?_ (by first | omega | (dsimp only; omega)) _))⟩
theorem TwAt.fresh (w : World) (z : Z) (t : TypeId) : TwAt (w.alloc (.cells #[.int .i64 (fz z.re), .int .i64 (fz z.im)] t)) w.heap.size z := ⟨by go_simp, by go_simp, by go_simp, by go_simp, by simp⟩
def prodN (e : Nat → Int) : Nat → Int
  | 0 => 0
  | k+1 => prodN e k + e k
theorem prod_next (f g : Nat → Int) (k : Nat) : (zp (prodN (fun k => f k * g k) k)).mul (zp (f k * g k)) = zp (prodN (fun k => f k * g k) (k + 1)) := zp_mul _ _
theorem zp_zero : zp 0 = .one := by rw [← zp_nat (by omega)]; exact Z.pow_zero _
set_option maxHeartbeats 4000000 in
theorem product_y (L M : List Sp) (f g : Nat → Int) (b1 o1 c1 b2 o2 c2 : Nat) (w : World) (hF : FarAt w) (hO : OneAt w) (hl : L.length ≤ 12) (hm : M.length = L.length) (hL : SpotsAt w b1 o1 L) (hM : SpotsAt w b2 o2 M)
    (h : Hid (∀ k (h1 : k < L.length) (h2 : k < M.length), Cnt L[k] (f k) ∧ Cnt M[k] (g k))) :
    Calls Tryd.prog 24 #[.slice (some ⟨b1, o1, none⟩) L.length c1, .slice (some ⟨b2, o2, none⟩) M.length c2] w fun e w' => e = .returned (.tuple #[twR (zp (prodN (fun k => f k * g k) L.length)), .nilIface]) ∧ Below w.heap.size w w' := by
  have hF' := Lib.hid hF
  have hO' := Lib.hid hO
  have hL' := Lib.hid hL
  have hM' := Lib.hid hM
  have hm' := Lib.hid hm
  have hd : decide ((12 : Int) < (L.length : Int)) = false := by rw [decide_eq_false_iff_not]; omega
  have hz0 := Lib.hid zp_zero
  obtain ⟨q0, q1, ql⟩ := hO
  have q2 : 0 < w.heap.size := Nat.lt_of_le_of_lt (Nat.zero_le _) ql
  clear hF hL hM
  rw [hm]
  clear hm
  go_enter Tryd.func24, Tryd.ntmps24
  go_wp2
  have t0 : TwAt ((w.alloc (.cells #[.int .i64 0, .int .i64 0] 40)).alloc (.cells #[.int .i64 1, .int .i64 0] 40)) w.heap.size ⟨0, 0⟩ := TwAt.zero_of (by go_simp) (by go_simp) (by go_simp) (by go_simp) (by simp; omega)
  have t1 : TwAt ((w.alloc (.cells #[.int .i64 0, .int .i64 0] 40)).alloc (.cells #[.int .i64 1, .int .i64 0] 40)) (w.heap.size + 1) .one := TwAt.one_of (by go_simp) (by go_simp) (by go_simp) (by go_simp) (by simp)
  have tb := balloc (below_alloc w (.cells #[.int .i64 0, .int .i64 0] 40)) (.cells #[.int .i64 1, .int .i64 0] 40)
  have t0 := Lib.hid t0
  have t1 := Lib.hid t1
  have tb := Lib.hid tb
  clear q0 q1 ql q2 hd
  generalize (w.alloc (.cells #[.int .i64 0, .int .i64 0] 40)).alloc (.cells #[.int .i64 1, .int .i64 0] 40) = w0 at *
  go_loopw [33] (fun i wr => ∃ n : Nat, n ≤ L.length ∧ i = .int .i64 n ∧ TwAt wr w.heap.size ⟨0, 0⟩ ∧ TwAt wr (w.heap.size + 1) (zp (prodN (fun k => f k * g k) n)) ∧ Below w.heap.size w wr) (fun i _ => L.length - (intOf i).toNat)
  case atStart => exact ⟨0, Nat.zero_le _, rfl, t0.out, (by show TwAt w0 _ (zp 0); rw [hz0.out]; exact t1.out), tb.out⟩
  case round =>
    clear t0 t1 tb
    obtain ⟨n, hn, rfl, hr, ho, hB⟩ := hrel
    replace hr := Lib.hid hr
    replace ho := Lib.hid ho
    by_cases hlt : n < L.length
    · have hlt2 : n < M.length := by rw [hm'.out]; exact hlt
      have hc := Lib.hid (h.out n hlt hlt2)
      have hsL := hL'.out.below hB
      have hsM := hM'.out.below hB
      have l1 := hsL.cx n hlt
      have l2 := hsL.cy n hlt
      have l3 := hsL.cf n hlt
      have m1 := hsM.cx n hlt2
      have m2 := hsM.cy n hlt2
      have m3 := hsM.cf n hlt2
      have ml := hsM.lt
      clear hsL hsM
      generalize hA : L[n] = A at *
      generalize hC : M[n] = C at *
      clear hA hC
      have hB1 := Lib.hid hB
      go_upto_region 9 with fail
      go_cut [9, 10] from 38 to 54 (fun s9 s10 wx => ∃ k : Nat, s9 = .pointer (some ⟨k, 0, none⟩) ∧ s10 = .nilIface ∧ TwAt wx k (zp (f n * g n)) ∧ TwAt wx w.heap.size ⟨0, 0⟩ ∧ TwAt wx (w.heap.size + 1) (zp (prodN (fun k => f k * g k) n)) ∧ Below w.heap.size w wx ∧ w.heap.size + 1 < k)
      case first =>
        have hrl := hr.out.lt
        have hol := ho.out.lt
        go_region_with (first | (go_at_call 20; refine (pair_e A C (f n) (g n) _ _ (hF'.out.below (by repeat (first | exact hB1.out | refine balloc ?_ _ | refine Below.drew ?_))) (hO'.out.below (by repeat (first | exact hB1.out | refine balloc ?_ _ | refine Below.drew ?_))) hc.out.1 hc.out.2 rfl).mono ?_; rintro e w1 ⟨rfl, hb⟩; obtain ⟨hcc, hff⟩ := bcell hb))
        all_goals
          go_wp2_with fail
          go_meet
          have hbA : Below wr.heap.size wr w1 := below_seq (by repeat (first | exact Below.refl _ _ | refine balloc ?_ _ | refine Below.drew ?_)) hb
          have hB2 := below_seq hB1.out hbA
          have hr1 := hr.out.below hbA
          have ho1 := ho.out.below hbA
          have hsz := hbA.size
          first
          | exact ⟨_, rfl, rfl, TwAt.fresh _ _ _, hr1.below (below_alloc _ _), ho1.below (below_alloc _ _), balloc hB2 _, by omega⟩
          | exact ⟨_, rfl, rfl, ((TwAt.zero_of (by go_simp) (by go_simp) (by go_simp) (by go_simp) (by simp)).below hb).set2 _, (hr1.other _ (by omega)).other _ (by omega), (ho1.other _ (by omega)).other _ (by omega), set2_below hB2 (by omega), by omega⟩
      case rest =>
        clear hr ho hB1 hB l1 l2 l3 m1 m2 m3 ml
        obtain ⟨k, rfl, rfl, hk, hr, ho, hB, hlk⟩ := hcut
        have hkl := hk.lt
        have hol := ho.lt
        replace hr := Lib.hid hr
        replace hk := Lib.hid hk
        replace ho := Lib.hid ho
        obtain ⟨k0, k1, kf0, kf1, -⟩ := hk.out
        obtain ⟨o0, o1, of0, of1, -⟩ := ho.out
        have hm := Lib.hid (prod_next f g n)
        generalize hP : zp (f n * g n) = P at *
        generalize hQ : zp (prodN (fun k => f k * g k) n) = Q at *
        clear hP hQ
        go_wp2_with fail
        refine (mul_e Q P _ _ hm).mono ?_; rintro e w2 ⟨rfl, hb⟩
        have hr2 := hr.out.below hb
        have ho2 := ho.out.below hb
        have hB2 := below_seq hB hb
        have hz2 := hb.size
        have ho2' := Lib.hid ho2
        obtain ⟨p0, p1, pf0, pf1, pl⟩ := ho2
        clear hb o0 o1 of0 of1 k0 k1 kf0 kf1 hk ho
        generalize hV : zp (prodN (fun k => f k * g k) (n + 1)) = V at *
        replace hV := Lib.hid hV
        go_wp2
        go_roundw
        case rel => exact ⟨n + 1, by omega, by go_num, (hr2.other _ (by omega)).other _ (by omega), by rw [hV.out]; exact ho2'.out.set2 _, set2_below hB2 (by omega)⟩
        case measure => simp [intOf]; omega
    · have hn2 : n = L.length := by omega
      have ho2 := ho.out
      rw [hn2] at ho2
      obtain ⟨r0, r1, rf0, rf1, rl⟩ := hr.out
      obtain ⟨p0, p1, pf0, pf1, pl⟩ := ho2
      generalize hV : zp (prodN (fun k => f k * g k) L.length) = V at *
      go_wp2
      have k := set2_cell (w := wr) (x := .int .i64 (fz V.re)) (y := .int .i64 (fz V.im)) r0 r1
      refine bodyPost_ret (v := .tuple #[twR V, .nilIface]) (by simp [results, Tryd.results24, go_sem, k.1, k.2]) rfl ⟨rfl, set2_below hB (by omega)⟩
theorem product_e (L M : List Sp) (f g : Nat → Int) (b1 o1 c1 b2 o2 c2 : Nat) (T : Z) (w : World) (hF : FarAt w) (hO : OneAt w) (hl : L.length ≤ 12) (hm : M.length = L.length) (hL : SpotsAt w b1 o1 L) (hM : SpotsAt w b2 o2 M)
    (h : Hid (∀ k (h1 : k < L.length) (h2 : k < M.length), Cnt L[k] (f k) ∧ Cnt M[k] (g k))) (hT : Hid (zp (prodN (fun k => f k * g k) L.length) = T)) :
    Calls Tryd.prog 24 #[.slice (some ⟨b1, o1, none⟩) L.length c1, .slice (some ⟨b2, o2, none⟩) M.length c2] w fun e w' => e = .returned (.tuple #[twR T, .nilIface]) ∧ Below w.heap.size w w' := by
  have := product_y L M f g b1 o1 c1 b2 o2 c2 w hF hO hl hm hL hM h; rw [hT.out] at this; exact this
end Go.Proofs.YtfnifdmnbccblaaDoor
namespace Go.Proofs.YtfnifdmnbccblaaDoor
open Go.RowKit
set_option maxRecDepth 100000
set_option linter.unusedVariables false
set_option linter.unusedSimpArgs false
set_option maxHeartbeats 1000000 in
theorem refSpot_x0 (x y : Int) (f : Bool) (w : World) (h : x < 0) : Calls Tryd.prog 36 #[.agg #[.int .i64 x, .int .i64 y, .bool f]] w fun e w' => e = .returned (.int .i64 1) ∧ Below w.heap.size w w' := by
  go_enter Tryd.func36, Tryd.ntmps36
  go_wp2
  go_ret
  exact ⟨rfl, (by repeat (first | exact Below.refl _ _ | refine balloc ?_ _ | refine Below.drew ?_ | refine below_drewN ?_ _ | refine below_set ?_ (by first | omega | (dsimp only; omega)) _))⟩
set_option maxHeartbeats 1000000 in
theorem refSpot_x1 (x y : Int) (f : Bool) (w : World) (h0 : 0 ≤ x) (h : 4051 ≤ x) : Calls Tryd.prog 36 #[.agg #[.int .i64 x, .int .i64 y, .bool f]] w fun e w' => e = .returned (.int .i64 1) ∧ Below w.heap.size w w' := by
  go_enter Tryd.func36, Tryd.ntmps36
  go_wp2
  go_ret
  exact ⟨rfl, (by repeat (first | exact Below.refl _ _ | refine balloc ?_ _ | refine Below.drew ?_ | refine below_drewN ?_ _ | refine below_set ?_ (by first | omega | (dsimp only; omega)) _))⟩
set_option maxHeartbeats 1000000 in
theorem refSpot_y0 (x y : Int) (f : Bool) (w : World) (h0 : 0 ≤ x) (h : x < 4051) (k : y < 0) : Calls Tryd.prog 36 #[.agg #[.int .i64 x, .int .i64 y, .bool f]] w fun e w' => e = .returned (.int .i64 1) ∧ Below w.heap.size w w' := by
  go_enter Tryd.func36, Tryd.ntmps36
  go_wp2
  go_ret
  exact ⟨rfl, (by repeat (first | exact Below.refl _ _ | refine balloc ?_ _ | refine Below.drew ?_ | refine below_drewN ?_ _ | refine below_set ?_ (by first | omega | (dsimp only; omega)) _))⟩
set_option maxHeartbeats 1000000 in
theorem refSpot_y1 (x y : Int) (f : Bool) (w : World) (h0 : 0 ≤ x) (h : x < 4051) (k0 : 0 ≤ y) (k : 4051 ≤ y) : Calls Tryd.prog 36 #[.agg #[.int .i64 x, .int .i64 y, .bool f]] w fun e w' => e = .returned (.int .i64 1) ∧ Below w.heap.size w w' := by
  go_enter Tryd.func36, Tryd.ntmps36
  go_wp2
  go_ret
  exact ⟨rfl, (by repeat (first | exact Below.refl _ _ | refine balloc ?_ _ | refine Below.drew ?_ | refine below_drewN ?_ _ | refine below_set ?_ (by first | omega | (dsimp only; omega)) _))⟩
set_option maxHeartbeats 1000000 in
theorem refSpot_f1 (x y : Int) (w : World) (h0 : 0 ≤ x) (h : x < 4051) (k0 : 0 ≤ y) (k : y < 4051) (hx : (x != 0) = true) : Calls Tryd.prog 36 #[.agg #[.int .i64 x, .int .i64 y, .bool true]] w fun e w' => e = .returned (.int .i64 1) ∧ Below w.heap.size w w' := by
  go_enter Tryd.func36, Tryd.ntmps36
  go_wp2
  go_ret
  exact ⟨rfl, (by repeat (first | exact Below.refl _ _ | refine balloc ?_ _ | refine Below.drew ?_ | refine below_drewN ?_ _ | refine below_set ?_ (by first | omega | (dsimp only; omega)) _))⟩
set_option maxHeartbeats 1000000 in
theorem refSpot_f2 (x y : Int) (w : World) (h0 : 0 ≤ x) (h : x < 4051) (k0 : 0 ≤ y) (k : y < 4051) (hx : (x != 0) = false) (hy : (y != 0) = true) : Calls Tryd.prog 36 #[.agg #[.int .i64 x, .int .i64 y, .bool true]] w fun e w' => e = .returned (.int .i64 1) ∧ Below w.heap.size w w' := by
  go_enter Tryd.func36, Tryd.ntmps36
  go_wp2
  go_ret
  exact ⟨rfl, (by repeat (first | exact Below.refl _ _ | refine balloc ?_ _ | refine Below.drew ?_ | refine below_drewN ?_ _ | refine below_set ?_ (by first | omega | (dsimp only; omega)) _))⟩
set_option maxHeartbeats 1000000 in
theorem refSpot_f3 (w : World) : Calls Tryd.prog 36 #[.agg #[.int .i64 0, .int .i64 0, .bool true]] w fun e w' => e = .returned (.int .i64 0) ∧ Below w.heap.size w w' := by
  go_enter Tryd.func36, Tryd.ntmps36
  go_wp2
  go_ret
  exact ⟨rfl, (by repeat (first | exact Below.refl _ _ | refine balloc ?_ _ | refine Below.drew ?_ | refine below_drewN ?_ _ | refine below_set ?_ (by first | omega | (dsimp only; omega)) _))⟩
set_option maxHeartbeats 1000000 in
theorem refSpot_n0 (x y H : Int) (w : World) (h0 : 0 ≤ x) (h : x < 4051) (k0 : 0 ≤ y) (k : y < 4051) (p0 : 0 ≤ y * y) (p1 : y * y ≤ 16402500) (q0 : 0 ≤ x * x) (q1 : x * x ≤ 16402500) (r0 : 0 ≤ x * x % 4051 * x) (r1 : x * x % 4051 * x ≤ 16402500) (hq : (y * y % 4051 != (x * x % 4051 * x + x) % 4051) = false) : Calls Tryd.prog 36 #[.agg #[.int .i64 x, .int .i64 y, .bool false]] w fun e w' => e = .returned (.int .i64 0) ∧ Below w.heap.size w w' := by
  go_enter Tryd.func36, Tryd.ntmps36
  go_wp2
  go_ret
  exact ⟨rfl, (by repeat (first | exact Below.refl _ _ | refine balloc ?_ _ | refine Below.drew ?_ | refine below_drewN ?_ _ | refine below_set ?_ (by first | omega | (dsimp only; omega)) _))⟩
set_option maxHeartbeats 1000000 in
theorem refSpot_n3 (x y H : Int) (w : World) (h0 : 0 ≤ x) (h : x < 4051) (k0 : 0 ≤ y) (k : y < 4051) (p0 : 0 ≤ y * y) (p1 : y * y ≤ 16402500) (q0 : 0 ≤ x * x) (q1 : x * x ≤ 16402500) (r0 : 0 ≤ x * x % 4051 * x) (r1 : x * x % 4051 * x ≤ 16402500) (hq : (y * y % 4051 != (x * x % 4051 * x + x) % 4051) = true) : Calls Tryd.prog 36 #[.agg #[.int .i64 x, .int .i64 y, .bool false]] w fun e w' => e = .returned (.int .i64 3) ∧ Below w.heap.size w w' := by
  go_enter Tryd.func36, Tryd.ntmps36
  go_wp2
  go_ret
  exact ⟨rfl, (by repeat (first | exact Below.refl _ _ | refine balloc ?_ _ | refine Below.drew ?_ | refine below_drewN ?_ _ | refine below_set ?_ (by first | omega | (dsimp only; omega)) _))⟩
theorem ins_no {x : Int} (h : ¬ (0 ≤ x ∧ x < 4051)) : inside x = false := by
  cases e : inside x
  · rfl
  · exact absurd (ins_iff.mp e) h
theorem refSpot_c (s : Sp) (w : World) : Calls Tryd.prog 36 #[spV s] w fun e w' => e = .returned (.int .i64 (sCheck s)) ∧ Below w.heap.size w w' := by
  obtain ⟨x, y, f⟩ := s
  by_cases hx : 0 ≤ x ∧ x < 4051
  case neg =>
    have e : sCheck ⟨x, y, f⟩ = 1 := by unfold sCheck; rw [if_pos]; simp [ins_no hx]
    rw [e]
    by_cases c : x < 0
    · exact refSpot_x0 x y f w c
    · exact refSpot_x1 x y f w (by omega) (by omega)
  by_cases hy : 0 ≤ y ∧ y < 4051
  case neg =>
    have e : sCheck ⟨x, y, f⟩ = 1 := by unfold sCheck; rw [if_pos]; simp [ins_no hy]
    rw [e]
    by_cases c : y < 0
    · exact refSpot_y0 x y f w hx.1 hx.2 c
    · exact refSpot_y1 x y f w hx.1 hx.2 (by omega) (by omega)
  have ix := ins_iff.mpr hx
  have iy := ins_iff.mpr hy
  cases f
  · have b := lift_bd hx.1 hx.2
    have by' := sq_bd hy.1 hy.2
    have eh : (x * x % 4051 * x + x) % 4051 = height x := by rw [← height_ref, Int.emod_emod_of_dvd _ (Int.dvd_refl _)]
    by_cases c : pMul y y = height x
    · have e : sCheck ⟨x, y, false⟩ = 0 := by unfold sCheck; simp [ix, iy, c]
      rw [e]
      exact refSpot_n0 x y 0 w hx.1 hx.2 hy.1 hy.2 by'.1 by'.2 b.1.1 b.1.2 b.2.1 b.2.2 (by rw [eh, ← c]; unfold pMul; simp)
    · have e : sCheck ⟨x, y, false⟩ = 3 := by unfold sCheck; simp [ix, iy, c]
      rw [e]
      exact refSpot_n3 x y 0 w hx.1 hx.2 hy.1 hy.2 by'.1 by'.2 b.1.1 b.1.2 b.2.1 b.2.2 (by rw [eh]; simp; unfold pMul at c; exact c)
  · by_cases c : x = 0
    · subst c
      by_cases d : y = 0
      · subst d
        exact refSpot_f3 w
      · have e : sCheck ⟨0, y, true⟩ = 1 := by unfold sCheck; rw [if_pos]; simp [iy, ix, Sp.beq, sFar, d]
        rw [e]
        exact refSpot_f2 0 y w hx.1 hx.2 hy.1 hy.2 (by simp) (by simpa using d)
    · have e : sCheck ⟨x, y, true⟩ = 1 := by unfold sCheck; rw [if_pos]; simp [iy, ix, Sp.beq, sFar, c]
      rw [e]
      exact refSpot_f1 x y w hx.1 hx.2 hy.1 hy.2 (by simpa using c)
theorem refSpot_e (s : Sp) (n : Int) (w : World) (h : Hid (sCheck s = n)) : Calls Tryd.prog 36 #[spV s] w fun e w' => e = .returned (.int .i64 n) ∧ Below w.heap.size w w' := by
  have := refSpot_c s w; rw [h.out] at this; exact this
theorem check_v (s : Sp) (n : Int) (w : World) (hF : FarAt w) (h : Hid (sCheck s = n)) (h0 : n ≠ 0) : Calls Tryd.prog 82 #[spV s] w fun e w' => e = .returned (.iface 118 (.int .i64 n)) ∧ Below w.heap.size w w' := by
  have := check_bad s w hF (by rw [h.out]; exact h0); rw [h.out] at this; exact this
end Go.Proofs.YtfnifdmnbccblaaDoor
namespace Go.Proofs.YtfnifdmnbccblaaDoor
open Go.RowKit
set_option maxRecDepth 100000
set_option linter.unusedVariables false
set_option linter.unusedSimpArgs false
/-- Two numbers of the greater field held against each other by ==. -/
def twB (x y u v : Int) : Bool := x == u && y == v
theorem twin_if (x y u v : Int) (w : World) : (if x = u then if y = v then Result.ok (Value.bool true) w else Result.ok (Value.bool false) w else Result.ok (Value.bool false) w) = .ok (.bool (twB x y u v)) w := by
  unfold twB
  by_cases hx : x = u <;> by_cases hy : y = v <;> simp [hx, hy]
set_option maxHeartbeats 1000000 in
theorem eql_twin (x y u v : Int) (w : World) : (Go.binOp .eql 40 (.agg #[.int .i64 x, .int .i64 y]) (.agg #[.int .i64 u, .int .i64 v])).run Tryd.prog w = .ok (.bool (twB x y u v)) w := by
  go_simp
  exact twin_if x y u v w
attribute [go_sem ↓] eql_twin
@[go_sem] theorem twB_self (x y : Int) : twB x y x y = true := by unfold twB; simp
theorem twB_z {z z' : Z} {b : Bool} (h : twB (fz z.re) (fz z.im) (fz z'.re) (fz z'.im) = b) : b = true ↔ z = z' := by
  subst h
  constructor
  · intro h
    simp only [twB, Bool.and_eq_true, beq_iff_eq] at h
    rw [← zi_fz z, ← zi_fz z', h.1, h.2]
  · rintro rfl
    exact twB_self _ _
theorem refPair_e (a b : Sp) (i j : Int) (z : Z) (w : World) (ha : Hid (Cnt a i)) (hb : Hid (Cnt b j)) (hz : Hid (zp (i * j) = z)) : Calls Tryd.prog 19 #[spV a, spV b] w fun e w' => e = .returned (twR z) ∧ Below w.heap.size w w' := by
  have hz1 := hz.out
  rw [← zp_nat (Int.mul_nonneg ha.out.2.1 hb.out.2.1)] at hz1
  rw [← hz1]
  cases fa : a.far
  · cases fb : b.far
    · rw [← zR_cnt ha.out hb.out fa fb]
      have hi : i % 1013 ≠ 0 := fun e => by
        have := ha.out.1; rw [this, sq_far.mpr (by omega)] at fa; cases fa
      exact refPair_c a b i w hi (Lib.hid ha.out.1) (ok_of ha.out.1) (ok_of hb.out.1) fa fb
    · have : j = 0 := by have := hb.out.1; rw [this] at fb; have := sq_far.mp fb; have := hb.out.2; omega
      rw [this, Int.mul_zero, show (0 : Int).toNat = 0 from rfl, Z.pow_zero, twR_one]
      exact refPair_farr a b w fa fb
  · have : i = 0 := by have := ha.out.1; rw [this] at fa; have := sq_far.mp fa; have := ha.out.2; omega
    rw [this, Int.zero_mul, show (0 : Int).toNat = 0 from rfl, Z.pow_zero, twR_one]
    exact refPair_farl a b w fa
set_option maxHeartbeats 1000000 in
theorem refTwo_a (a b : Sp) (E : Int) (w : World) (h : Hid (sCheck a = E)) (hE : (E == 0) = false) : Calls Tryd.prog 18 #[spV a, spV b] w fun e w' => e = .returned (.int .i64 E) ∧ Below w.heap.size w w' := by
  have hE2 : (E != 0) = true := by rw [bne, hE]; rfl
  go_enter Tryd.func18, Tryd.ntmps18
  go_wp2_with fail
  refine (refSpot_e a E _ h).mono ?_; rintro e w1 ⟨rfl, hb⟩
  obtain ⟨hc1, hf1⟩ := bcell hb
  have z1 := hb.size
  try simp only [World.size_alloc, World.size_setCell, World.size_drew] at z1
  have s1_0 : w.heap.size < w1.heap.size := by omega
  have s1_1 : w.heap.size + 1 < w1.heap.size := by omega
  have hB1 : Below w.heap.size w w1 := below_seq (by repeat (first | exact Below.refl _ _ | refine balloc ?_ _ | refine Below.drew ?_ | refine below_drewN ?_ _ | refine below_set ?_ (by first | omega | (dsimp only; omega)) _)) hb
  clear hb
  go_wp2
  go_ret
  exact ⟨rfl, (by repeat (first | exact hB1 | exact Below.refl _ _ | refine balloc ?_ _ | refine Below.drew ?_ | refine below_drewN ?_ _ | refine below_set ?_ (by first | omega | (dsimp only; omega)) _))⟩
set_option maxHeartbeats 1000000 in
theorem refTwo_b (a b : Sp) (E : Int) (w : World) (h0 : Hid (sCheck a = 0)) (h : Hid (sCheck b = E)) (hE : (E == 0) = false) : Calls Tryd.prog 18 #[spV a, spV b] w fun e w' => e = .returned (.int .i64 E) ∧ Below w.heap.size w w' := by
  have hE2 : (E != 0) = true := by rw [bne, hE]; rfl
  go_enter Tryd.func18, Tryd.ntmps18
  go_wp2_with fail
  refine (refSpot_e a 0 _ h0).mono ?_; rintro e w1 ⟨rfl, hb⟩
  obtain ⟨hc1, hf1⟩ := bcell hb
  have z1 := hb.size
  try simp only [World.size_alloc, World.size_setCell, World.size_drew] at z1
  have s1_0 : w.heap.size < w1.heap.size := by omega
  have s1_1 : w.heap.size + 1 < w1.heap.size := by omega
  have hB1 : Below w.heap.size w w1 := below_seq (by repeat (first | exact Below.refl _ _ | refine balloc ?_ _ | refine Below.drew ?_ | refine below_drewN ?_ _ | refine below_set ?_ (by first | omega | (dsimp only; omega)) _)) hb
  clear hb
  go_wp2_with fail
  refine (refSpot_e b E _ h).mono ?_; rintro e w2 ⟨rfl, hb⟩
  obtain ⟨hc2, hf2⟩ := bcell hb
  have z2 := hb.size
  try simp only [World.size_alloc, World.size_setCell, World.size_drew] at z2
  have s2_0 : w.heap.size < w2.heap.size := by omega
  have s2_1 : w.heap.size + 1 < w2.heap.size := by omega
  have hB2 : Below w.heap.size w w2 := below_seq (by repeat (first | exact hB1 | exact Below.refl _ _ | refine balloc ?_ _ | refine Below.drew ?_ | refine below_drewN ?_ _ | refine below_set ?_ (by first | omega | (dsimp only; omega)) _)) hb
  clear hb
  go_wp2
  go_ret
  exact ⟨rfl, (by repeat (first | exact hB2 | exact Below.refl _ _ | refine balloc ?_ _ | refine Below.drew ?_ | refine below_drewN ?_ _ | refine below_set ?_ (by first | omega | (dsimp only; omega)) _))⟩
set_option maxHeartbeats 1000000 in
theorem refTwo_y (a b : Sp) (u v : Int) (x y : Bool) (E : Int) (w : World) (ha : Hid (a = sq u)) (hb' : Hid (b = sq v)) (hx : Hid ((sq (u * 1013)).far = x)) (hy : Hid ((sq (v * 1013)).far = y)) (hE : Hid (E = if x && y then 0 else 3)) : Calls Tryd.prog 18 #[spV a, spV b] w fun e w' => e = .returned (.int .i64 E) ∧ Below w.heap.size w w' := by
  have ca : Hid (sCheck a = 0) := Lib.hid ((ok_iff _).mpr (ok_of ha.out))
  have cb : Hid (sCheck b = 0) := Lib.hid ((ok_iff _).mpr (ok_of hb'.out))
  cases x <;> cases y
  all_goals
    have hE' := hE.out
    simp only [Bool.and_self, Bool.and_true, Bool.and_false, Bool.false_eq_true, if_false, if_true] at hE'
    subst hE'
    clear hE
  · skip
    go_enter Tryd.func18, Tryd.ntmps18
    go_wp2_with fail
    refine (refSpot_e a 0 _ ca).mono ?_; rintro e w1 ⟨rfl, hb⟩
    obtain ⟨hc1, hf1⟩ := bcell hb
    have z1 := hb.size
    try simp only [World.size_alloc, World.size_setCell, World.size_drew] at z1
    have s1_0 : w.heap.size < w1.heap.size := by omega
    have s1_1 : w.heap.size + 1 < w1.heap.size := by omega
    have hB1 : Below w.heap.size w w1 := below_seq (by repeat (first | exact Below.refl _ _ | refine balloc ?_ _ | refine Below.drew ?_ | refine below_drewN ?_ _ | refine below_set ?_ (by first | omega | (dsimp only; omega)) _)) hb
    clear hb
    go_wp2_with fail
    refine (refSpot_e b 0 _ cb).mono ?_; rintro e w2 ⟨rfl, hb⟩
    obtain ⟨hc2, hf2⟩ := bcell hb
    have z2 := hb.size
    try simp only [World.size_alloc, World.size_setCell, World.size_drew] at z2
    have s2_0 : w.heap.size < w2.heap.size := by omega
    have s2_1 : w.heap.size + 1 < w2.heap.size := by omega
    have hB2 : Below w.heap.size w w2 := below_seq (by repeat (first | exact hB1 | exact Below.refl _ _ | refine balloc ?_ _ | refine Below.drew ?_ | refine below_drewN ?_ _ | refine below_set ?_ (by first | omega | (dsimp only; omega)) _)) hb
    clear hb
    go_wp2_with fail
    refine (refIn_e a u false _ ha hx).mono ?_; rintro e w3 ⟨rfl, hb⟩
    obtain ⟨hc3, hf3⟩ := bcell hb
    have z3 := hb.size
    try simp only [World.size_alloc, World.size_setCell, World.size_drew] at z3
    have s3_0 : w.heap.size < w3.heap.size := by omega
    have s3_1 : w.heap.size + 1 < w3.heap.size := by omega
    have hB3 : Below w.heap.size w w3 := below_seq (by repeat (first | exact hB2 | exact Below.refl _ _ | refine balloc ?_ _ | refine Below.drew ?_ | refine below_drewN ?_ _ | refine below_set ?_ (by first | omega | (dsimp only; omega)) _)) hb
    clear hb
    go_wp2_with fail
    refine (refIn_e b v false _ hb' hy).mono ?_; rintro e w4 ⟨rfl, hb⟩
    obtain ⟨hc4, hf4⟩ := bcell hb
    have z4 := hb.size
    try simp only [World.size_alloc, World.size_setCell, World.size_drew] at z4
    have s4_0 : w.heap.size < w4.heap.size := by omega
    have s4_1 : w.heap.size + 1 < w4.heap.size := by omega
    have hB4 : Below w.heap.size w w4 := below_seq (by repeat (first | exact hB3 | exact Below.refl _ _ | refine balloc ?_ _ | refine Below.drew ?_ | refine below_drewN ?_ _ | refine below_set ?_ (by first | omega | (dsimp only; omega)) _)) hb
    clear hb
    go_wp2
    go_ret
    exact ⟨rfl, (by repeat (first | exact hB4 | exact Below.refl _ _ | refine balloc ?_ _ | refine Below.drew ?_ | refine below_drewN ?_ _ | refine below_set ?_ (by first | omega | (dsimp only; omega)) _))⟩
  · skip
    go_enter Tryd.func18, Tryd.ntmps18
    go_wp2_with fail
    refine (refSpot_e a 0 _ ca).mono ?_; rintro e w1 ⟨rfl, hb⟩
    obtain ⟨hc1, hf1⟩ := bcell hb
    have z1 := hb.size
    try simp only [World.size_alloc, World.size_setCell, World.size_drew] at z1
    have s1_0 : w.heap.size < w1.heap.size := by omega
    have s1_1 : w.heap.size + 1 < w1.heap.size := by omega
    have hB1 : Below w.heap.size w w1 := below_seq (by repeat (first | exact Below.refl _ _ | refine balloc ?_ _ | refine Below.drew ?_ | refine below_drewN ?_ _ | refine below_set ?_ (by first | omega | (dsimp only; omega)) _)) hb
    clear hb
    go_wp2_with fail
    refine (refSpot_e b 0 _ cb).mono ?_; rintro e w2 ⟨rfl, hb⟩
    obtain ⟨hc2, hf2⟩ := bcell hb
    have z2 := hb.size
    try simp only [World.size_alloc, World.size_setCell, World.size_drew] at z2
    have s2_0 : w.heap.size < w2.heap.size := by omega
    have s2_1 : w.heap.size + 1 < w2.heap.size := by omega
    have hB2 : Below w.heap.size w w2 := below_seq (by repeat (first | exact hB1 | exact Below.refl _ _ | refine balloc ?_ _ | refine Below.drew ?_ | refine below_drewN ?_ _ | refine below_set ?_ (by first | omega | (dsimp only; omega)) _)) hb
    clear hb
    go_wp2_with fail
    refine (refIn_e a u false _ ha hx).mono ?_; rintro e w3 ⟨rfl, hb⟩
    obtain ⟨hc3, hf3⟩ := bcell hb
    have z3 := hb.size
    try simp only [World.size_alloc, World.size_setCell, World.size_drew] at z3
    have s3_0 : w.heap.size < w3.heap.size := by omega
    have s3_1 : w.heap.size + 1 < w3.heap.size := by omega
    have hB3 : Below w.heap.size w w3 := below_seq (by repeat (first | exact hB2 | exact Below.refl _ _ | refine balloc ?_ _ | refine Below.drew ?_ | refine below_drewN ?_ _ | refine below_set ?_ (by first | omega | (dsimp only; omega)) _)) hb
    clear hb
    go_wp2_with fail
    refine (refIn_e b v true _ hb' hy).mono ?_; rintro e w4 ⟨rfl, hb⟩
    obtain ⟨hc4, hf4⟩ := bcell hb
    have z4 := hb.size
    try simp only [World.size_alloc, World.size_setCell, World.size_drew] at z4
    have s4_0 : w.heap.size < w4.heap.size := by omega
    have s4_1 : w.heap.size + 1 < w4.heap.size := by omega
    have hB4 : Below w.heap.size w w4 := below_seq (by repeat (first | exact hB3 | exact Below.refl _ _ | refine balloc ?_ _ | refine Below.drew ?_ | refine below_drewN ?_ _ | refine below_set ?_ (by first | omega | (dsimp only; omega)) _)) hb
    clear hb
    go_wp2
    go_ret
    exact ⟨rfl, (by repeat (first | exact hB4 | exact Below.refl _ _ | refine balloc ?_ _ | refine Below.drew ?_ | refine below_drewN ?_ _ | refine below_set ?_ (by first | omega | (dsimp only; omega)) _))⟩
  · skip
    go_enter Tryd.func18, Tryd.ntmps18
    go_wp2_with fail
    refine (refSpot_e a 0 _ ca).mono ?_; rintro e w1 ⟨rfl, hb⟩
    obtain ⟨hc1, hf1⟩ := bcell hb
    have z1 := hb.size
    try simp only [World.size_alloc, World.size_setCell, World.size_drew] at z1
    have s1_0 : w.heap.size < w1.heap.size := by omega
    have s1_1 : w.heap.size + 1 < w1.heap.size := by omega
    have hB1 : Below w.heap.size w w1 := below_seq (by repeat (first | exact Below.refl _ _ | refine balloc ?_ _ | refine Below.drew ?_ | refine below_drewN ?_ _ | refine below_set ?_ (by first | omega | (dsimp only; omega)) _)) hb
    clear hb
    go_wp2_with fail
    refine (refSpot_e b 0 _ cb).mono ?_; rintro e w2 ⟨rfl, hb⟩
    obtain ⟨hc2, hf2⟩ := bcell hb
    have z2 := hb.size
    try simp only [World.size_alloc, World.size_setCell, World.size_drew] at z2
    have s2_0 : w.heap.size < w2.heap.size := by omega
    have s2_1 : w.heap.size + 1 < w2.heap.size := by omega
    have hB2 : Below w.heap.size w w2 := below_seq (by repeat (first | exact hB1 | exact Below.refl _ _ | refine balloc ?_ _ | refine Below.drew ?_ | refine below_drewN ?_ _ | refine below_set ?_ (by first | omega | (dsimp only; omega)) _)) hb
    clear hb
    go_wp2_with fail
    refine (refIn_e a u true _ ha hx).mono ?_; rintro e w3 ⟨rfl, hb⟩
    obtain ⟨hc3, hf3⟩ := bcell hb
    have z3 := hb.size
    try simp only [World.size_alloc, World.size_setCell, World.size_drew] at z3
    have s3_0 : w.heap.size < w3.heap.size := by omega
    have s3_1 : w.heap.size + 1 < w3.heap.size := by omega
    have hB3 : Below w.heap.size w w3 := below_seq (by repeat (first | exact hB2 | exact Below.refl _ _ | refine balloc ?_ _ | refine Below.drew ?_ | refine below_drewN ?_ _ | refine below_set ?_ (by first | omega | (dsimp only; omega)) _)) hb
    clear hb
    go_wp2_with fail
    refine (refIn_e b v false _ hb' hy).mono ?_; rintro e w4 ⟨rfl, hb⟩
    obtain ⟨hc4, hf4⟩ := bcell hb
    have z4 := hb.size
    try simp only [World.size_alloc, World.size_setCell, World.size_drew] at z4
    have s4_0 : w.heap.size < w4.heap.size := by omega
    have s4_1 : w.heap.size + 1 < w4.heap.size := by omega
    have hB4 : Below w.heap.size w w4 := below_seq (by repeat (first | exact hB3 | exact Below.refl _ _ | refine balloc ?_ _ | refine Below.drew ?_ | refine below_drewN ?_ _ | refine below_set ?_ (by first | omega | (dsimp only; omega)) _)) hb
    clear hb
    go_wp2
    go_ret
    exact ⟨rfl, (by repeat (first | exact hB4 | exact Below.refl _ _ | refine balloc ?_ _ | refine Below.drew ?_ | refine below_drewN ?_ _ | refine below_set ?_ (by first | omega | (dsimp only; omega)) _))⟩
  · skip
    go_enter Tryd.func18, Tryd.ntmps18
    go_wp2_with fail
    refine (refSpot_e a 0 _ ca).mono ?_; rintro e w1 ⟨rfl, hb⟩
    obtain ⟨hc1, hf1⟩ := bcell hb
    have z1 := hb.size
    try simp only [World.size_alloc, World.size_setCell, World.size_drew] at z1
    have s1_0 : w.heap.size < w1.heap.size := by omega
    have s1_1 : w.heap.size + 1 < w1.heap.size := by omega
    have hB1 : Below w.heap.size w w1 := below_seq (by repeat (first | exact Below.refl _ _ | refine balloc ?_ _ | refine Below.drew ?_ | refine below_drewN ?_ _ | refine below_set ?_ (by first | omega | (dsimp only; omega)) _)) hb
    clear hb
    go_wp2_with fail
    refine (refSpot_e b 0 _ cb).mono ?_; rintro e w2 ⟨rfl, hb⟩
    obtain ⟨hc2, hf2⟩ := bcell hb
    have z2 := hb.size
    try simp only [World.size_alloc, World.size_setCell, World.size_drew] at z2
    have s2_0 : w.heap.size < w2.heap.size := by omega
    have s2_1 : w.heap.size + 1 < w2.heap.size := by omega
    have hB2 : Below w.heap.size w w2 := below_seq (by repeat (first | exact hB1 | exact Below.refl _ _ | refine balloc ?_ _ | refine Below.drew ?_ | refine below_drewN ?_ _ | refine below_set ?_ (by first | omega | (dsimp only; omega)) _)) hb
    clear hb
    go_wp2_with fail
    refine (refIn_e a u true _ ha hx).mono ?_; rintro e w3 ⟨rfl, hb⟩
    obtain ⟨hc3, hf3⟩ := bcell hb
    have z3 := hb.size
    try simp only [World.size_alloc, World.size_setCell, World.size_drew] at z3
    have s3_0 : w.heap.size < w3.heap.size := by omega
    have s3_1 : w.heap.size + 1 < w3.heap.size := by omega
    have hB3 : Below w.heap.size w w3 := below_seq (by repeat (first | exact hB2 | exact Below.refl _ _ | refine balloc ?_ _ | refine Below.drew ?_ | refine below_drewN ?_ _ | refine below_set ?_ (by first | omega | (dsimp only; omega)) _)) hb
    clear hb
    go_wp2_with fail
    refine (refIn_e b v true _ hb' hy).mono ?_; rintro e w4 ⟨rfl, hb⟩
    obtain ⟨hc4, hf4⟩ := bcell hb
    have z4 := hb.size
    try simp only [World.size_alloc, World.size_setCell, World.size_drew] at z4
    have s4_0 : w.heap.size < w4.heap.size := by omega
    have s4_1 : w.heap.size + 1 < w4.heap.size := by omega
    have hB4 : Below w.heap.size w w4 := below_seq (by repeat (first | exact hB3 | exact Below.refl _ _ | refine balloc ?_ _ | refine Below.drew ?_ | refine below_drewN ?_ _ | refine below_set ?_ (by first | omega | (dsimp only; omega)) _)) hb
    clear hb
    go_wp2
    go_ret
    exact ⟨rfl, (by repeat (first | exact hB4 | exact Below.refl _ _ | refine balloc ?_ _ | refine Below.drew ?_ | refine below_drewN ?_ _ | refine below_set ?_ (by first | omega | (dsimp only; omega)) _))⟩
/-- Two that may be paired, or the fault. -/
def TwoIs (a b : Sp) (E : Int) : Prop := (∀ w : World, Calls Tryd.prog 18 #[spV a, spV b] w fun e w' => e = .returned (.int .i64 E) ∧ Below w.heap.size w w') ∧
  ((E = 0 ∧ ∃ i j, Cnt a i ∧ Cnt b j) ∨ (E ≠ 0 ∧ ∀ w : World, FarAt w → Calls Tryd.prog 87 #[spV a, spV b] w fun e w' => e = .returned (.iface 118 (.int .i64 E)) ∧ Below w.heap.size w w'))
theorem two_is (a b : Sp) : ∃ E, TwoIs a b E := by
  by_cases ca : sCheck a = 0
  case neg => exact ⟨_, fun w => refTwo_a a b _ w (Lib.hid rfl) (by simpa using ca), .inr ⟨ca, fun w hF => ready_bad a b _ w hF 0 (by omega) (fun i _ h => absurd h (by omega)) rfl ca⟩⟩
  have oa := (ok_iff _).mp ca
  by_cases cb : sCheck b = 0
  case neg => exact ⟨_, fun w => refTwo_b a b _ w (Lib.hid ca) (Lib.hid rfl) (by simpa using cb), .inr ⟨cb, fun w hF => ready_bad a b _ w hF 1 (by omega) (ok_first a b oa) rfl cb⟩⟩
  have ob := (ok_iff _).mp cb
  obtain ⟨u, -, -, eu⟩ := sq_all oa
  obtain ⟨v, -, -, ev⟩ := sq_all ob
  cases fu : (sq (u * 1013)).far
  · refine ⟨3, fun w => refTwo_y a b u v _ _ 3 w (Lib.hid eu) (Lib.hid ev) (Lib.hid fu) (Lib.hid rfl) (Lib.hid (by simp)), .inr ⟨by decide, fun w hF => ready_in a b u v w hF eu ev fu⟩⟩
  cases fv : (sq (v * 1013)).far
  · exact ⟨3, fun w => refTwo_y a b u v _ _ 3 w (Lib.hid eu) (Lib.hid ev) (Lib.hid fu) (Lib.hid fv) (Lib.hid (by simp)), .inr ⟨by decide, fun w hF => ready_in2 a b u v w hF eu ev fu fv⟩⟩
  obtain ⟨i, hi⟩ := cnt_of fu
  obtain ⟨j, hj⟩ := cnt_of fv
  exact ⟨0, fun w => refTwo_y a b u v _ _ 0 w (Lib.hid eu) (Lib.hid ev) (Lib.hid fu) (Lib.hid fv) (Lib.hid (by simp)), .inl ⟨rfl, i, j, by rw [eu]; exact hi, by rw [ev]; exact hj⟩⟩
/- Two and two, refused. -/
set_option maxHeartbeats 2000000 in
theorem same_n1 (a b c d : Sp) (E : Int) (w : World) (hF : FarAt w) (h : Hid (∀ w : World, FarAt w → Calls Tryd.prog 87 #[spV a, spV b] w fun e w' => e = .returned (.iface 118 (.int .i64 E)) ∧ Below w.heap.size w w')) : Calls Tryd.prog 22 #[spV a, spV b, spV c, spV d] w fun e w' => e = .returned (.tuple #[.bool false, .iface 118 (.int .i64 E)]) ∧ Below w.heap.size w w' := by
  go_enter Tryd.func22, Tryd.ntmps22
  go_wp2_with fail
  refine (h.out _ (hF.below (by repeat (first | exact Below.refl _ _ | refine balloc ?_ _ | refine Below.drew ?_ | refine below_drewN ?_ _ | refine below_set ?_ (by first | omega | (dsimp only; omega)) _)))).mono ?_; rintro e w1 ⟨rfl, hb⟩
  obtain ⟨hc1, hf1⟩ := bcell hb
  have z1 := hb.size
  try simp only [World.size_alloc, World.size_setCell, World.size_drew] at z1
  have s1_0 : w.heap.size < w1.heap.size := by omega
  have s1_1 : w.heap.size + 1 < w1.heap.size := by omega
  have s1_2 : w.heap.size + 1 + 1 < w1.heap.size := by omega
  have s1_3 : w.heap.size + 1 + 1 + 1 < w1.heap.size := by omega
  have hB1 : Below w.heap.size w w1 := below_seq (by repeat (first | exact Below.refl _ _ | refine balloc ?_ _ | refine Below.drew ?_ | refine below_drewN ?_ _ | refine below_set ?_ (by first | omega | (dsimp only; omega)) _)) hb
  clear hb
  go_wp2
  go_ret2
  exact ⟨rfl, (by repeat (first | exact hB1 | exact Below.refl _ _ | refine balloc ?_ _ | refine Below.drew ?_ | refine below_drewN ?_ _ | refine below_set ?_ (by first | omega | (dsimp only; omega)) _))⟩
set_option maxHeartbeats 2000000 in
theorem same_n2 (a b c d : Sp) (i j E : Int) (w : World) (hF : FarAt w) (ha : Hid (Cnt a i)) (hb' : Hid (Cnt b j)) (h : Hid (∀ w : World, FarAt w → Calls Tryd.prog 87 #[spV c, spV d] w fun e w' => e = .returned (.iface 118 (.int .i64 E)) ∧ Below w.heap.size w w')) : Calls Tryd.prog 22 #[spV a, spV b, spV c, spV d] w fun e w' => e = .returned (.tuple #[.bool false, .iface 118 (.int .i64 E)]) ∧ Below w.heap.size w w' := by
  go_enter Tryd.func22, Tryd.ntmps22
  go_wp2_with fail
  refine (ready_ok a b (4 * i) (4 * j) _ (hF.below (by repeat (first | exact Below.refl _ _ | refine balloc ?_ _ | refine Below.drew ?_ | refine below_drewN ?_ _ | refine below_set ?_ (by first | omega | (dsimp only; omega)) _))) ha.out.1 hb'.out.1 (sq_far.mpr (by omega)) (sq_far.mpr (by omega))).mono ?_; rintro e w1 ⟨rfl, hb⟩
  obtain ⟨hc1, hf1⟩ := bcell hb
  have z1 := hb.size
  try simp only [World.size_alloc, World.size_setCell, World.size_drew] at z1
  have s1_0 : w.heap.size < w1.heap.size := by omega
  have s1_1 : w.heap.size + 1 < w1.heap.size := by omega
  have s1_2 : w.heap.size + 1 + 1 < w1.heap.size := by omega
  have s1_3 : w.heap.size + 1 + 1 + 1 < w1.heap.size := by omega
  have hB1 : Below w.heap.size w w1 := below_seq (by repeat (first | exact Below.refl _ _ | refine balloc ?_ _ | refine Below.drew ?_ | refine below_drewN ?_ _ | refine below_set ?_ (by first | omega | (dsimp only; omega)) _)) hb
  clear hb
  go_wp2_with fail
  refine (h.out _ (hF.below (by repeat (first | exact hB1 | exact Below.refl _ _ | refine balloc ?_ _ | refine Below.drew ?_ | refine below_drewN ?_ _ | refine below_set ?_ (by first | omega | (dsimp only; omega)) _)))).mono ?_; rintro e w2 ⟨rfl, hb⟩
  obtain ⟨hc2, hf2⟩ := bcell hb
  have z2 := hb.size
  try simp only [World.size_alloc, World.size_setCell, World.size_drew] at z2
  have s2_0 : w.heap.size < w2.heap.size := by omega
  have s2_1 : w.heap.size + 1 < w2.heap.size := by omega
  have s2_2 : w.heap.size + 1 + 1 < w2.heap.size := by omega
  have s2_3 : w.heap.size + 1 + 1 + 1 < w2.heap.size := by omega
  have hB2 : Below w.heap.size w w2 := below_seq (by repeat (first | exact hB1 | exact Below.refl _ _ | refine balloc ?_ _ | refine Below.drew ?_ | refine below_drewN ?_ _ | refine below_set ?_ (by first | omega | (dsimp only; omega)) _)) hb
  clear hb
  go_wp2
  go_ret2
  exact ⟨rfl, (by repeat (first | exact hB2 | exact Below.refl _ _ | refine balloc ?_ _ | refine Below.drew ?_ | refine below_drewN ?_ _ | refine below_set ?_ (by first | omega | (dsimp only; omega)) _))⟩
set_option maxHeartbeats 2000000 in
theorem same_b (a b c d : Sp) (i j k l : Int) (z z' : Z) (B : Bool) (w : World) (hF : FarAt w) (hO : OneAt w) (ha : Hid (Cnt a i)) (hb' : Hid (Cnt b j)) (hc : Hid (Cnt c k)) (hd : Hid (Cnt d l)) (h1 : Hid (zp (i * j) = z)) (h2 : Hid (zp (k * l) = z')) (hB : Hid (twB (fz z.re) (fz z.im) (fz z'.re) (fz z'.im) = B)) : Calls Tryd.prog 22 #[spV a, spV b, spV c, spV d] w fun e w' => e = .returned (.tuple #[.bool B, .nilIface]) ∧ Below w.heap.size w w' := by
  have k1 : Hid (∀ w : World, FarAt w → OneAt w → Calls Tryd.prog 88 #[spV a, spV b] w fun e w' => e = .returned (.agg #[.int .i64 (fz z.re), .int .i64 (fz z.im)]) ∧ Below w.heap.size w w') := Lib.hid (fun w hF hO => of_z a b i j z w hF hO ha hb' h1)
  have k2 : Hid (∀ w : World, FarAt w → OneAt w → Calls Tryd.prog 88 #[spV c, spV d] w fun e w' => e = .returned (.agg #[.int .i64 (fz z'.re), .int .i64 (fz z'.im)]) ∧ Below w.heap.size w w') := Lib.hid (fun w hF hO => of_z c d k l z' w hF hO hc hd h2)
  have hB' := hB.out
  clear hB h1 h2
  generalize fz z.re = x1 at *
  generalize fz z.im = y1 at *
  generalize fz z'.re = x2 at *
  generalize fz z'.im = y2 at *
  go_enter Tryd.func22, Tryd.ntmps22
  go_wp2_with fail
  refine (ready_ok a b (4 * i) (4 * j) _ (hF.below (by repeat (first | exact Below.refl _ _ | refine balloc ?_ _ | refine Below.drew ?_ | refine below_drewN ?_ _ | refine below_set ?_ (by first | omega | (dsimp only; omega)) _))) ha.out.1 hb'.out.1 (sq_far.mpr (by omega)) (sq_far.mpr (by omega))).mono ?_; rintro e w1 ⟨rfl, hb⟩
  obtain ⟨hc1, hf1⟩ := bcell hb
  have z1 := hb.size
  try simp only [World.size_alloc, World.size_setCell, World.size_drew] at z1
  have s1_0 : w.heap.size < w1.heap.size := by omega
  have s1_1 : w.heap.size + 1 < w1.heap.size := by omega
  have s1_2 : w.heap.size + 1 + 1 < w1.heap.size := by omega
  have s1_3 : w.heap.size + 1 + 1 + 1 < w1.heap.size := by omega
  have hB1 : Below w.heap.size w w1 := below_seq (by repeat (first | exact Below.refl _ _ | refine balloc ?_ _ | refine Below.drew ?_ | refine below_drewN ?_ _ | refine below_set ?_ (by first | omega | (dsimp only; omega)) _)) hb
  clear hb
  go_wp2_with fail
  refine (ready_ok c d (4 * k) (4 * l) _ (hF.below (by repeat (first | exact hB1 | exact Below.refl _ _ | refine balloc ?_ _ | refine Below.drew ?_ | refine below_drewN ?_ _ | refine below_set ?_ (by first | omega | (dsimp only; omega)) _))) hc.out.1 hd.out.1 (sq_far.mpr (by omega)) (sq_far.mpr (by omega))).mono ?_; rintro e w2 ⟨rfl, hb⟩
  obtain ⟨hc2, hf2⟩ := bcell hb
  have z2 := hb.size
  try simp only [World.size_alloc, World.size_setCell, World.size_drew] at z2
  have s2_0 : w.heap.size < w2.heap.size := by omega
  have s2_1 : w.heap.size + 1 < w2.heap.size := by omega
  have s2_2 : w.heap.size + 1 + 1 < w2.heap.size := by omega
  have s2_3 : w.heap.size + 1 + 1 + 1 < w2.heap.size := by omega
  have hB2 : Below w.heap.size w w2 := below_seq (by repeat (first | exact hB1 | exact Below.refl _ _ | refine balloc ?_ _ | refine Below.drew ?_ | refine below_drewN ?_ _ | refine below_set ?_ (by first | omega | (dsimp only; omega)) _)) hb
  clear hb
  go_wp2_with fail
  refine wp_region_grow Tryd.mixed (by kernel_rfl) ?_
  repeat (quiet_step ((first | (go_at_call_of 88 a.x; exact grow_of (k1.out _ (hF.below (below_seq (by repeat (first | exact hB2 | exact Below.refl _ _ | refine balloc ?_ _ | refine Below.drew ?_ | refine below_drewN ?_ _ | refine below_set ?_ (by first | omega | (dsimp only; omega)) _)) (Grew.h _))) (hO.below (below_seq (by repeat (first | exact hB2 | exact Below.refl _ _ | refine balloc ?_ _ | refine Below.drew ?_ | refine below_drewN ?_ _ | refine below_set ?_ (by first | omega | (dsimp only; omega)) _)) (Grew.h _))))) | (go_at_call 88; exact grow_of (k2.out _ (hF.below (below_seq (by repeat (first | exact hB2 | exact Below.refl _ _ | refine balloc ?_ _ | refine Below.drew ?_ | refine below_drewN ?_ _ | refine below_set ?_ (by first | omega | (dsimp only; omega)) _)) (Grew.h _))) (hO.below (below_seq (by repeat (first | exact hB2 | exact Below.refl _ _ | refine balloc ?_ _ | refine Below.drew ?_ | refine below_drewN ?_ _ | refine below_set ?_ (by first | omega | (dsimp only; omega)) _)) (Grew.h _))))))))
  refine wpQuiet_nil ?_
  intro _ hw'
  obtain ⟨x3, rfl⟩ := hw'
  have z3 := x3.h.size
  try simp only [World.size_alloc, World.size_setCell, World.size_drew] at z3
  have s3_0 : w.heap.size < x3.w.heap.size := by omega
  have s3_1 : w.heap.size + 1 < x3.w.heap.size := by omega
  have s3_2 : w.heap.size + 1 + 1 < x3.w.heap.size := by omega
  have s3_3 : w.heap.size + 1 + 1 + 1 < x3.w.heap.size := by omega
  have hB3 : Below w.heap.size w x3.w := below_seq (by repeat (first | exact hB2 | exact Below.refl _ _ | refine balloc ?_ _ | refine Below.drew ?_ | refine below_drewN ?_ _ | refine below_set ?_ (by first | omega | (dsimp only; omega)) _)) x3.h
  go_wp2
  go_ret2
  exact ⟨rfl, (by repeat (first | exact hB3 | exact Below.refl _ _ | refine balloc ?_ _ | refine Below.drew ?_ | refine below_drewN ?_ _ | refine below_set ?_ (by first | omega | (dsimp only; omega)) _))⟩
end Go.Proofs.YtfnifdmnbccblaaDoor
namespace Go.Proofs.YtfnifdmnbccblaaDoor
open Go.RowKit
set_option maxRecDepth 100000
set_option linter.unusedVariables false
set_option linter.unusedSimpArgs false
set_option maxHeartbeats 4000000 in
theorem product_core (L M : List Sp) (f g : Nat → Int) (kk : Nat) (E : Int) (a1 a2 : Option Addr) (c1 c2 : Nat) (R : Value) (w : World) (hF : FarAt w) (hO : OneAt w) (hl : L.length ≤ 12) (hm : M.length = L.length) (hL : 0 < L.length → ∃ b1 o1, a1 = some ⟨b1, o1, none⟩ ∧ SpotsAt w b1 o1 L) (hM : 0 < M.length → ∃ b2 o2, a2 = some ⟨b2, o2, none⟩ ∧ SpotsAt w b2 o2 M)
    (h : Hid (∀ k (h1 : k < L.length) (h2 : k < M.length), k < kk → Cnt L[k] (f k) ∧ Cnt M[k] (g k))) (hkk : kk ≤ L.length) (hbad : Hid (∀ (h1 : kk < L.length) (h2 : kk < M.length), ∀ w : World, FarAt w → Calls Tryd.prog 87 #[spV L[kk], spV M[kk]] w fun e w' => e = .returned (.iface 118 (.int .i64 E)) ∧ Below w.heap.size w w'))
    (hR0 : Hid (kk < L.length → R = .tuple #[.agg #[.int .i64 0, .int .i64 0], .iface 118 (.int .i64 E)])) (hR1 : Hid (kk = L.length → R = .tuple #[twR (zp (prodN (fun k => f k * g k) L.length)), .nilIface])) :
    Calls Tryd.prog 24 #[.slice a1 L.length c1, .slice a2 M.length c2] w fun e w' => e = .returned R ∧ Below w.heap.size w w' := by
  have hF' := Lib.hid hF
  have hO' := Lib.hid hO
  have hL' := Lib.hid hL
  have hM' := Lib.hid hM
  have hm' := Lib.hid hm
  have hd : decide ((12 : Int) < (L.length : Int)) = false := by rw [decide_eq_false_iff_not]; omega
  have hz0 := Lib.hid zp_zero
  obtain ⟨q0, q1, ql⟩ := hO
  have q2 : 0 < w.heap.size := Nat.lt_of_le_of_lt (Nat.zero_le _) ql
  clear hF hL hM
  rw [hm]
  clear hm
  go_enter Tryd.func24, Tryd.ntmps24
  go_wp2
  have t0 : TwAt ((w.alloc (.cells #[.int .i64 0, .int .i64 0] 40)).alloc (.cells #[.int .i64 1, .int .i64 0] 40)) w.heap.size ⟨0, 0⟩ := TwAt.zero_of (by go_simp) (by go_simp) (by go_simp) (by go_simp) (by simp; omega)
  have t1 : TwAt ((w.alloc (.cells #[.int .i64 0, .int .i64 0] 40)).alloc (.cells #[.int .i64 1, .int .i64 0] 40)) (w.heap.size + 1) .one := TwAt.one_of (by go_simp) (by go_simp) (by go_simp) (by go_simp) (by simp)
  have tb := balloc (below_alloc w (.cells #[.int .i64 0, .int .i64 0] 40)) (.cells #[.int .i64 1, .int .i64 0] 40)
  have t0 := Lib.hid t0
  have t1 := Lib.hid t1
  have tb := Lib.hid tb
  clear q0 q1 ql q2 hd
  generalize (w.alloc (.cells #[.int .i64 0, .int .i64 0] 40)).alloc (.cells #[.int .i64 1, .int .i64 0] 40) = w0 at *
  go_loopw [33] (fun i wr => ∃ n : Nat, n ≤ L.length ∧ n ≤ kk ∧ i = .int .i64 n ∧ TwAt wr w.heap.size ⟨0, 0⟩ ∧ TwAt wr (w.heap.size + 1) (zp (prodN (fun k => f k * g k) n)) ∧ Below w.heap.size w wr) (fun i _ => L.length - (intOf i).toNat)
  case atStart => exact ⟨0, Nat.zero_le _, Nat.zero_le _, rfl, t0.out, (by show TwAt w0 _ (zp 0); rw [hz0.out]; exact t1.out), tb.out⟩
  case round =>
    clear t0 t1 tb
    obtain ⟨n, hn, hnk, rfl, hr, ho, hB⟩ := hrel
    replace hr := Lib.hid hr
    replace ho := Lib.hid ho
    by_cases hlt : n < L.length
    · have hlt2 : n < M.length := by rw [hm'.out]; exact hlt
      obtain ⟨b1, o1, rfl, hsL0⟩ := hL'.out (by omega)
      obtain ⟨b2, o2, rfl, hsM0⟩ := hM'.out (by omega)
      have hsL := hsL0.below hB
      have hsM := hsM0.below hB
      have hgood := Lib.hid (h.out n hlt hlt2)
      have hbadn : Hid (n = kk → ∀ w : World, FarAt w → Calls Tryd.prog 87 #[spV L[n], spV M[n]] w fun e w' => e = .returned (.iface 118 (.int .i64 E)) ∧ Below w.heap.size w w') := Lib.hid (fun e => by subst e; exact hbad.out hlt hlt2)
      have l1 := hsL.cx n hlt
      have l2 := hsL.cy n hlt
      have l3 := hsL.cf n hlt
      have m1 := hsM.cx n hlt2
      have m2 := hsM.cy n hlt2
      have m3 := hsM.cf n hlt2
      have ml := hsM.lt
      clear hsL hsM hsL0 hsM0 hbad h
      generalize hA : L[n] = A at *
      generalize hC : M[n] = C at *
      clear hA hC
      by_cases hlk : n < kk
      · have hc := Lib.hid (hgood.out hlk)
        clear hgood hbadn hR0 hR1
        have hB1 := Lib.hid hB
        go_upto_region 9 with fail
        go_cut [9, 10] from 38 to 54 (fun s9 s10 wx => ∃ k : Nat, s9 = .pointer (some ⟨k, 0, none⟩) ∧ s10 = .nilIface ∧ TwAt wx k (zp (f n * g n)) ∧ TwAt wx w.heap.size ⟨0, 0⟩ ∧ TwAt wx (w.heap.size + 1) (zp (prodN (fun k => f k * g k) n)) ∧ Below w.heap.size w wx ∧ w.heap.size + 1 < k)
        case first =>
          have hrl := hr.out.lt
          have hol := ho.out.lt
          go_region_with (first | (go_at_call 20; refine (pair_e A C (f n) (g n) _ _ (hF'.out.below (by repeat (first | exact hB1.out | refine balloc ?_ _ | refine Below.drew ?_))) (hO'.out.below (by repeat (first | exact hB1.out | refine balloc ?_ _ | refine Below.drew ?_))) hc.out.1 hc.out.2 rfl).mono ?_; rintro e w1 ⟨rfl, hb⟩; obtain ⟨hcc, hff⟩ := bcell hb))
          all_goals
            go_wp2_with fail
            go_meet
            have hbA : Below wr.heap.size wr w1 := below_seq (by repeat (first | exact Below.refl _ _ | refine balloc ?_ _ | refine Below.drew ?_)) hb
            have hB2 := below_seq hB1.out hbA
            have hr1 := hr.out.below hbA
            have ho1 := ho.out.below hbA
            have hsz := hbA.size
            first
            | exact ⟨_, rfl, rfl, TwAt.fresh _ _ _, hr1.below (below_alloc _ _), ho1.below (below_alloc _ _), balloc hB2 _, by omega⟩
            | exact ⟨_, rfl, rfl, ((TwAt.zero_of (by go_simp) (by go_simp) (by go_simp) (by go_simp) (by simp)).below hb).set2 _, (hr1.other _ (by omega)).other _ (by omega), (ho1.other _ (by omega)).other _ (by omega), set2_below hB2 (by omega), by omega⟩
        case rest =>
          clear hr ho hB1 hB l1 l2 l3 m1 m2 m3 ml
          obtain ⟨k, rfl, rfl, hk, hr, ho, hB, hlk⟩ := hcut
          have hkl := hk.lt
          have hol := ho.lt
          replace hr := Lib.hid hr
          replace hk := Lib.hid hk
          replace ho := Lib.hid ho
          obtain ⟨k0, k1, kf0, kf1, -⟩ := hk.out
          obtain ⟨o0, o1, of0, of1, -⟩ := ho.out
          have hm := Lib.hid (prod_next f g n)
          generalize hP : zp (f n * g n) = P at *
          generalize hQ : zp (prodN (fun k => f k * g k) n) = Q at *
          clear hP hQ
          go_wp2_with fail
          refine (mul_e Q P _ _ hm).mono ?_; rintro e w2 ⟨rfl, hb⟩
          have hr2 := hr.out.below hb
          have ho2 := ho.out.below hb
          have hB2 := below_seq hB hb
          have hz2 := hb.size
          have ho2' := Lib.hid ho2
          obtain ⟨p0, p1, pf0, pf1, pl⟩ := ho2
          clear hb o0 o1 of0 of1 k0 k1 kf0 kf1 hk ho
          generalize hV : zp (prodN (fun k => f k * g k) (n + 1)) = V at *
          replace hV := Lib.hid hV
          go_wp2
          go_roundw
          case rel => exact ⟨n + 1, by omega, by omega, by go_num, (hr2.other _ (by omega)).other _ (by omega), by rw [hV.out]; exact ho2'.out.set2 _, set2_below hB2 (by omega)⟩
          case measure => simp [intOf]; omega
      · obtain rfl : n = kk := by omega
        have hre := hbadn.out rfl
        have hR := hR0.out hlt
        have hpn := Lib.hid (fun (w1 : World) hF1 => pair_n A C E w1 (Lib.hid fun w2 hb2 => hre w2 (FarAt.below hF1 hb2)))
        clear hgood hbadn hre hR0 hR1
        have hB1 := Lib.hid hB
        go_upto_region 9 with fail
        go_cut [9, 10] from 38 to 54 (fun s9 s10 wx => s10 = .iface 118 (.int .i64 E) ∧ TwAt wx w.heap.size ⟨0, 0⟩ ∧ Below w.heap.size w wx)
        case first =>
          have hrl := hr.out.lt
          have hol := ho.out.lt
          go_region_with (first | (go_at_call 20; refine (hpn.out _ (hF'.out.below (by repeat (first | exact hB1.out | refine balloc ?_ _ | refine Below.drew ?_)))).mono ?_; rintro e w1 ⟨rfl, hb⟩; obtain ⟨hcc, hff⟩ := bcell hb))
          all_goals
            go_wp2_with fail
            go_meet
            have hbA : Below wr.heap.size wr w1 := below_seq (by repeat (first | exact Below.refl _ _ | refine balloc ?_ _ | refine Below.drew ?_)) hb
            have hB2 := below_seq hB1.out hbA
            have hr1 := hr.out.below hbA
            have hsz := hbA.size
            first
            | exact ⟨rfl, hr1.below (below_alloc _ _), balloc hB2 _⟩
            | exact ⟨rfl, (hr1.other _ (by omega)).other _ (by omega), set2_below hB2 (by omega)⟩
        case rest =>
          clear hr ho hB1 hB l1 l2 l3 m1 m2 m3 ml
          obtain ⟨rfl, hr, hB⟩ := hcut
          obtain ⟨r0, r1, rf0, rf1, rl⟩ := hr
          go_wp2
          have k := set2_cell (w := wc) (x := .int .i64 0) (y := .int .i64 0) r0 r1
          refine bodyPost_ret (v := .tuple #[.agg #[.int .i64 0, .int .i64 0], .iface 118 (.int .i64 E)]) (by simp [results, Tryd.results24, go_sem, k.1, k.2]) rfl ⟨by first | rfl | rw [hR], set2_below hB (by omega)⟩
    · have hn2 : n = L.length := by omega
      have ho2 := ho.out
      rw [hn2] at ho2
      obtain ⟨r0, r1, rf0, rf1, rl⟩ := hr.out
      obtain ⟨p0, p1, pf0, pf1, pl⟩ := ho2
      generalize hV : zp (prodN (fun k => f k * g k) L.length) = V at *
      go_wp2
      have k := set2_cell (w := wr) (x := .int .i64 (fz V.re)) (y := .int .i64 (fz V.im)) r0 r1
      refine bodyPost_ret (v := .tuple #[twR V, .nilIface]) (by simp [results, Tryd.results24, go_sem, k.1, k.2]) rfl ⟨by rw [hR1.out (by omega)], set2_below hB (by omega)⟩
set_option maxHeartbeats 2000000 in
theorem product_full1 (n m : Nat) (a1 a2 : Option Addr) (c1 c2 : Nat) (w : World) (h : 12 < n) (hn : n ≤ 9223372036854775807) (hm : m ≤ 9223372036854775807) :
    Calls Tryd.prog 24 #[.slice a1 n c1, .slice a2 m c2] w fun e w' => e = .returned (.tuple #[.agg #[.int .i64 0, .int .i64 0], .iface 118 (.int .i64 4)]) ∧ Below w.heap.size w w' := by
  go_enter Tryd.func24, Tryd.ntmps24
  go_wp2
  refine bodyPost_ret (v := .tuple #[.agg #[.int .i64 0, .int .i64 0], .iface 118 (.int .i64 4)]) (by simp [results, Tryd.results24, go_sem]) rfl ⟨rfl, below_alloc _ _⟩
set_option maxHeartbeats 2000000 in
theorem product_full2 (n m : Nat) (a1 a2 : Option Addr) (c1 c2 : Nat) (w : World) (h0 : n ≤ 12) (h : 12 < m) (hm : m ≤ 9223372036854775807) :
    Calls Tryd.prog 24 #[.slice a1 n c1, .slice a2 m c2] w fun e w' => e = .returned (.tuple #[.agg #[.int .i64 0, .int .i64 0], .iface 118 (.int .i64 4)]) ∧ Below w.heap.size w w' := by
  have g1 : decide ((12 : Int) < (n : Int)) = false := by rw [decide_eq_false_iff_not]; omega
  go_enter Tryd.func24, Tryd.ntmps24
  go_wp2
  refine bodyPost_ret (v := .tuple #[.agg #[.int .i64 0, .int .i64 0], .iface 118 (.int .i64 4)]) (by simp [results, Tryd.results24, go_sem]) rfl ⟨rfl, below_alloc _ _⟩
set_option maxHeartbeats 2000000 in
theorem product_shape (n m : Nat) (a1 a2 : Option Addr) (c1 c2 : Nat) (w : World) (h0 : n ≤ 12) (h1 : m ≤ 12) (hne : n ≠ m) :
    Calls Tryd.prog 24 #[.slice a1 n c1, .slice a2 m c2] w fun e w' => e = .returned (.tuple #[.agg #[.int .i64 0, .int .i64 0], .iface 118 (.int .i64 3)]) ∧ Below w.heap.size w w' := by
  have g1 : decide ((12 : Int) < (n : Int)) = false := by rw [decide_eq_false_iff_not]; omega
  have g2 : decide ((12 : Int) < (m : Int)) = false := by rw [decide_eq_false_iff_not]; omega
  have g3 : ((n : Int) != (m : Int)) = true := by rw [bne_iff_ne]; omega
  go_enter Tryd.func24, Tryd.ntmps24
  go_wp2
  refine bodyPost_ret (v := .tuple #[.agg #[.int .i64 0, .int .i64 0], .iface 118 (.int .i64 3)]) (by simp [results, Tryd.results24, go_sem]) rfl ⟨rfl, below_alloc _ _⟩
end Go.Proofs.YtfnifdmnbccblaaDoor
namespace Go.Proofs.YtfnifdmnbccblaaDoor
open Go.RowKit
set_option linter.unusedVariables false
theorem own_below {w w' : World} {B e size n : Nat} {v : Value} {xs : List Value} (h : w.ownsRow B e size v n xs) (hb : Below w.heap.size w w') : w'.ownsRow B e size v n xs := by
  refine ⟨h.1, ?_⟩
  rcases h.2 with hn | ⟨g, cap, cur, rfl, hg, hgg, rest⟩
  · exact .inl hn
  · exact .inr ⟨g, cap, cur, rfl, hg, by rw [hb.block g (Array.getElem?_eq_some_iff.1 hgg).1]; exact hgg, rest⟩
/-- The cells of some spots. -/
def spCells : List Sp → List Value
  | [] => []
  | s :: l => .int .i64 s.x :: .int .i64 s.y :: .bool s.far :: spCells l
theorem spCells_len : ∀ l : List Sp, (spCells l).length = l.length * 3
  | [] => rfl
  | s :: l => by simp only [spCells, List.length_cons, spCells_len l]; omega
theorem spCells_snoc : ∀ (l : List Sp) (s : Sp), spCells (l ++ [s]) = spCells l ++ [.int .i64 s.x, .int .i64 s.y, .bool s.far]
  | [], _ => rfl
  | t :: l, s => by simp only [List.cons_append, spCells, spCells_snoc l s]
theorem spCells_get : ∀ (l : List Sp) (i : Nat) (h : i < l.length), (spCells l)[i * 3]? = some (.int .i64 l[i].x) ∧ (spCells l)[i * 3 + 1]? = some (.int .i64 l[i].y) ∧ (spCells l)[i * 3 + 2]? = some (.bool l[i].far)
  | [], _, h => absurd h (Nat.not_lt_zero _)
  | s :: l, 0, _ => ⟨rfl, rfl, rfl⟩
  | s :: l, i + 1, h => by
    have := spCells_get l i (by simpa using h)
    rw [Nat.add_mul]
    exact this
/-- A value that is a slice of these spots. -/
def SpSl (w : World) (v : Value) (l : List Sp) : Prop := ∃ a cap, v = .slice a l.length cap ∧ (0 < l.length → ∃ b off, a = some ⟨b, off, none⟩ ∧ SpotsAt w b off l)
/-- A value that is a slice of these ints. -/
def IntSl (w : World) (v : Value) (l : List Int) : Prop := ∃ a cap, v = .slice a l.length cap ∧ (0 < l.length → ∃ b off, a = some ⟨b, off, none⟩ ∧ IntsAt w b off l)
theorem SpSl.below {w w' : World} {v : Value} {l : List Sp} (h : SpSl w v l) (hb : Below w.heap.size w w') : SpSl w' v l := by
  obtain ⟨a, cap, rfl, h⟩ := h
  exact ⟨a, cap, rfl, fun h0 => by obtain ⟨b, off, e, hs⟩ := h h0; exact ⟨b, off, e, hs.below hb⟩⟩
theorem IntSl.below {w w' : World} {v : Value} {l : List Int} (h : IntSl w v l) (hb : Below w.heap.size w w') : IntSl w' v l := by
  obtain ⟨a, cap, rfl, h⟩ := h
  exact ⟨a, cap, rfl, fun h0 => by obtain ⟨b, off, e, hs⟩ := h h0; exact ⟨b, off, e, hs.below hb⟩⟩
theorem own_spots {w : World} {B e : Nat} {v : Value} {l : List Sp} {n : Nat} (h : w.ownsRow B e 3 v n (spCells l)) (hn : n = l.length) : SpSl w v l := by
  subst hn
  obtain ⟨hl, h | ⟨g, cap, cur, rfl, hb, hg, hc, -, -, ht⟩⟩ := h
  · obtain ⟨rfl, h0⟩ := h
    exact ⟨none, 0, by rw [h0], fun hp => absurd h0 (by omega)⟩
  · refine ⟨_, _, rfl, fun _ => ⟨g, 0, rfl, (Array.getElem?_eq_some_iff.1 hg).1, fun i hi => ?_, fun i hi => ?_, fun i hi => ?_⟩⟩
    all_goals
      obtain ⟨k1, k2, k3⟩ := spCells_get l i hi
      rw [cell_of_row w g _ cur e (0, 0) hg]
      simp only [Nat.zero_add]
      rw [← ht, List.getElem?_take, if_pos (by omega), Array.getElem?_toList] at k1 k2 k3
      assumption
theorem own_ints {w : World} {B e : Nat} {v : Value} {l : List Int} {n : Nat} (h : w.ownsRow B e 1 v n (l.map (Value.int .i64))) (hn : n = l.length) : IntSl w v l := by
  subst hn
  obtain ⟨hl, h | ⟨g, cap, cur, rfl, hb, hg, hc, -, -, ht⟩⟩ := h
  · obtain ⟨rfl, h0⟩ := h
    exact ⟨none, 0, by rw [h0], fun hp => absurd h0 (by omega)⟩
  · refine ⟨_, _, rfl, fun _ => ⟨g, 0, rfl, (Array.getElem?_eq_some_iff.1 hg).1, fun i hi => ?_⟩⟩
    have k1 : (l.map (Value.int .i64))[i]? = some (.int .i64 l[i]) := by simp [hi]
    rw [cell_of_row w g _ cur e (0, 0) hg]
    simp only [Nat.zero_add]
    rw [← ht, List.getElem?_take, if_pos (by omega), Array.getElem?_toList] at k1
    assumption
/-- Of a slice of ints that is handed in: what it holds. -/
theorem IntsV.sl {w : World} {v : Value} (h : IntsV w v) : ∃ l : List Int, IntSl w v l ∧ l.length ≤ 9223372036854775807 ∧ ∀ n ∈ l, (Lit.int .i64 n).wf = true := by
  rcases h with ⟨a, cap, rfl⟩ | ⟨b, off, cap, l, rfl, h1, h2, h3, h4⟩
  · exact ⟨[], ⟨a, cap, rfl, fun h => absurd h (Nat.lt_irrefl 0)⟩, by decide, fun n h => by cases h⟩
  · exact ⟨l, ⟨_, cap, rfl, fun _ => ⟨b, off, rfl, h3⟩⟩, by unfold maxLen at h2; omega, h4⟩
/-- Of a slice of spots that is handed in: what it holds. -/
theorem SpotsV.sl {w : World} {v : Value} (h : SpotsV w v) : ∃ l : List Sp, SpSl w v l ∧ l.length ≤ 9223372036854775807 := by
  rcases h with ⟨a, cap, rfl⟩ | ⟨b, off, cap, l, rfl, h1, h2, h3⟩
  · exact ⟨[], ⟨a, cap, rfl, fun h => absurd h (Nat.lt_irrefl 0)⟩, by decide⟩
  · exact ⟨l, ⟨_, cap, rfl, fun _ => ⟨b, off, rfl, h3⟩⟩, by unfold maxLen at h2; omega⟩
theorem SpSl.made (w : World) (l : List Sp) (k n cap : Nat) (cs : Array Value) (t : TypeId) (hk : k = w.heap.size) (hc : cs = (spCells l).toArray) (hn : n = l.length) : SpSl (w.alloc (.cells cs t)) (.slice (some ⟨k, 0, none⟩) n cap) l := by
  subst hk hc hn
  refine ⟨_, _, rfl, fun _ => ⟨w.heap.size, 0, rfl, by simp, fun i hi => ?_, fun i hi => ?_, fun i hi => ?_⟩⟩
  all_goals
    obtain ⟨k1, k2, k3⟩ := spCells_get l i hi
    rw [cell_of_row _ w.heap.size _ (spCells l).toArray t (0, 0) (heap_alloc_new w _)]
    simp only [Nat.zero_add, List.getElem?_toArray]
    assumption
theorem IntSl.made (w : World) (l : List Int) (k n cap : Nat) (cs : Array Value) (t : TypeId) (hk : k = w.heap.size) (hc : cs = (l.map (Value.int .i64)).toArray) (hn : n = l.length) : IntSl (w.alloc (.cells cs t)) (.slice (some ⟨k, 0, none⟩) n cap) l := by
  subst hk hc hn
  refine ⟨_, _, rfl, fun _ => ⟨w.heap.size, 0, rfl, by simp, fun i hi => ?_⟩⟩
  have k1 : (l.map (Value.int .i64))[i]? = some (.int .i64 l[i]) := by simp [hi]
  rw [cell_of_row _ w.heap.size _ (l.map (Value.int .i64)).toArray t (0, 0) (heap_alloc_new w _)]
  simp only [Nat.zero_add, List.getElem?_toArray]
  assumption
theorem info_spot : (Tryd.prog.info? 25).map (fun i => (i.zero, i.size, i.bytes)) = some (some (.agg #[.int .i64 0, .int .i64 0, .bool false]), 3, 24) := by kernel_rfl
theorem info_int : (Tryd.prog.info? 3).map (fun i => (i.zero, i.size, i.bytes)) = some (some (.int .i64 0), 1, 8) := by kernel_rfl
theorem wpl_append_spot {w : World} {ops : Array Oper} {rest : List Oper} {o : Oper} {a : Act} {Q : Exit → Act → World → Prop} (hgd : o.guard = none) (s x : Operand) (t : TypeId)
    (ho : o.op = .call { callee := .builtin .append, args := #[s, x], argTypes := #[t, t] }) (ht : Tryd.prog.underlying t = some (.slice 25)) (B : Nat) (v : Value) (l : List Sp) (n : Nat) (hs : a.eval s = v)
    (hown : w.ownsRow B 25 3 v n (spCells l)) (hn : l.length = n) (hl : n ≤ 1000000) (hB : B ≤ w.heap.size) (g : Nat) (c : Sp) (hx : a.eval x = .slice (some ⟨g, 0, none⟩) 1 1)
    (h0 : w.cell? ⟨g, 0, none⟩ = some (.int .i64 c.x)) (h1 : w.cell? ⟨g, 1, none⟩ = some (.int .i64 c.y)) (h2 : w.cell? ⟨g, 2, none⟩ = some (.bool c.far))
    (h : ∀ v' w', w'.ownsRow B 25 3 v' (n + 1) (spCells (l ++ [c])) → w.grownBy w' v.ownBlock → (∀ a, Below B a w → Below B a w') → (v'.ownBlock = v.ownBlock ∨ v'.ownBlock = some w.heap.size) → wpList Tryd.prog ops Q rest (a.put o.dst v') w') :
    wpList Tryd.prog ops Q (o :: rest) a w := by
  obtain ⟨i0, hi, hz0, hz1, hz2⟩ := info_parts info_spot
  refine wpList_append_own_at _ hgd s x _ ho B _ i0 _ 3 24 ht hi hz0 hz1 hz2 rfl (by decide) v n _ hs hown ⟨g, 0, none⟩ 1 1 [.int .i64 c.x, .int .i64 c.y, .bool c.far] hx rfl ?_ ?_ (by unfold maxLen; omega) (by omega) hB ?_
  · intro j u hj
    have e : ∀ k, (⟨g, 0, none⟩ : Addr).add k = ⟨g, k, none⟩ := fun k => by rw [add_none, Nat.zero_add]
    rw [e]
    match j, hj with
    | 0, hj => cases hj; exact h0
    | 1, hj => cases hj; exact h1
    | 2, hj => cases hj; exact h2
  · intro u hu
    simp only [List.mem_cons, List.not_mem_nil, or_false] at hu
    rcases hu with rfl | rfl | rfl <;> rfl
  · intro v' w' h3 h4 _ h6
    rw [← spCells_snoc] at h3
    exact h v' w' h3 h4 (fun a hb => Below.grown hb h4 hB (fun k hk => (hown.lt k hk).1)) h6
theorem wpl_append_int {w : World} {ops : Array Oper} {rest : List Oper} {o : Oper} {a : Act} {Q : Exit → Act → World → Prop} (hgd : o.guard = none) (s x : Operand) (t : TypeId)
    (ho : o.op = .call { callee := .builtin .append, args := #[s, x], argTypes := #[t, t] }) (ht : Tryd.prog.underlying t = some (.slice 3)) (B : Nat) (v : Value) (l : List Int) (n : Nat) (hs : a.eval s = v)
    (hown : w.ownsRow B 3 1 v n (l.map (Value.int .i64))) (hn : l.length = n) (hl : n ≤ 1000000) (hB : B ≤ w.heap.size) (g : Nat) (c : Int) (hx : a.eval x = .slice (some ⟨g, 0, none⟩) 1 1)
    (h0 : w.cell? ⟨g, 0, none⟩ = some (.int .i64 c))
    (h : ∀ v' w', w'.ownsRow B 3 1 v' (n + 1) ((l ++ [c]).map (Value.int .i64)) → w.grownBy w' v.ownBlock → (∀ a, Below B a w → Below B a w') → (v'.ownBlock = v.ownBlock ∨ v'.ownBlock = some w.heap.size) → wpList Tryd.prog ops Q rest (a.put o.dst v') w') :
    wpList Tryd.prog ops Q (o :: rest) a w := by
  obtain ⟨i0, hi, hz0, hz1, hz2⟩ := info_parts info_int
  refine wpList_append_own_at _ hgd s x _ ho B _ i0 _ 1 8 ht hi hz0 hz1 hz2 rfl (by decide) v n _ hs hown ⟨g, 0, none⟩ 1 1 [.int .i64 c] hx rfl ?_ ?_ (by unfold maxLen; omega) (by omega) hB ?_
  · intro j u hj
    have e : ∀ k, (⟨g, 0, none⟩ : Addr).add k = ⟨g, k, none⟩ := fun k => by rw [add_none, Nat.zero_add]
    rw [e]
    match j, hj with
    | 0, hj => cases hj; exact h0
  · intro u hu
    simp only [List.mem_cons, List.not_mem_nil, or_false] at hu
    subst hu; rfl
  · intro v' w' h3 h4 _ h6
    rw [show l.map (Value.int .i64) ++ [.int .i64 c] = (l ++ [c]).map (Value.int .i64) by simp] at h3
    exact h v' w' h3 h4 (fun a hb => Below.grown hb h4 hB (fun k hk => (hown.lt k hk).1)) h6
end Go.Proofs.YtfnifdmnbccblaaDoor
