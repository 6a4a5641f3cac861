/- Texts of this claim, in one; the lower half. -/
import Derived.Test.YtebomakihdjllaaDoorBka
import Derived.Maps.AppendAt
import Derived.Deep.AppendSrc
import Derived.Test.YtebomakihdjllaaDoorOw
import Derived.Test.YtebomakihdjllaaDoorSf
import Derived.Test.YtebomakihdjllaaDoorSe
import Derived.Deep.DeepCutAuto
import Derived.Test.YtebomakihdjllaaDoorEq
import Derived.Test.YtebomakihdjllaaDoorKe
import Derived.Deep.RegionWith
import Derived.Test.YtebomakihdjllaaDoorHa
import Derived.Test.YtebomakihdjllaaDoorRb
import Derived.Test.YtebomakihdjllaaDoorWs
import Derived.Laws.Entries
import Derived.Test.YtebomakihdjllaaDoorPr
import Derived.Test.YtebomakihdjllaaDoorCyc
import Derived.Test.YtebomakihdjllaaDoorWl
import Derived.Test.YtebomakihdjllaaDoorLf
import Derived.Test.YtebomakihdjllaaDoorRd
import Derived.Test.YtebomakihdjllaaDoorRo
namespace Go.Proofs.YtebomakihdjllaaDoor
open Go.RowKit
set_option maxRecDepth 100000
set_option linter.unusedVariables false
set_option linter.unusedSimpArgs false
/-- What an append leaves. -/
def AppRun (w : World) (t tx : TypeId) (B e size : Nat) (v x : Value) (n : Nat) (ys : List Value) : Prop :=
  ∀ ty : TypeId, ∃ v' w', (Builtin.append_ #[t, tx] ty #[v, x]).run Tryd.prog w = .ok v' w' ∧ w'.ownsRow B e size v' n ys ∧ w.grownBy w' v.ownBlock ∧ (v'.ownBlock = v.ownBlock ∨ v'.ownBlock = some w.heap.size)
theorem AppRun.spots {w : World} {B : Nat} {v : Value} {l m : List Sp} {n : Nat} {a : Option Addr} {c : Nat} (hown : w.ownsRow B 23 3 v n (spCells l)) (hm : 0 < m.length → ∃ b o, a = some ⟨b, o, none⟩ ∧ SpotsAt w b o m) (hB : B ≤ w.heap.size) (hn : n ≤ 1000000) (hml : m.length ≤ 1000000) :
    AppRun w 31 31 B 23 3 v (.slice a m.length c) (n + m.length) (spCells l ++ spCells m) := by
  intro ty
  obtain ⟨i0, hi, hz0, hz1, hz2⟩ := info_parts info_spot
  cases a with
  | none =>
    have h0 : m.length = 0 := by
      by_cases h0 : 0 < m.length
      · obtain ⟨b, o, e, -⟩ := hm h0; cases e
      · omega
    obtain rfl := List.length_eq_zero_iff.mp h0
    refine ⟨v, w, ?_, by simpa [spCells] using hown, ⟨rfl, rfl, rfl, Nat.le_refl _, fun _ _ _ => rfl⟩, .inl rfl⟩
    have ht := Tryd.underlying31
    rcases hown.2 with ⟨rfl, rfl⟩ | ⟨g, cap, cur, rfl, _, _, hnc, _⟩
    · simp [Builtin.append_, run_underlying ht, sizeOf, typeInfo, hi, Builtin.lenOf, Builtin.firstCells]
    · simp [Builtin.append_, run_underlying ht, sizeOf, typeInfo, hi, Builtin.lenOf, Builtin.firstCells, hnc, storeCells]
  | some ad =>
    obtain ⟨v', w', h1, h2, h3, h4, h5⟩ := run_append_own_at w B 31 ty 23 i0 (.agg #[.int .i64 0, .int .i64 0, .bool false]) 3 24 Tryd.underlying31 hi hz0 hz1 hz2 rfl (by decide) v n (spCells l) hown ad m.length c (spCells m) (spCells_len m) (fun j u hj => by
      have hjn := (List.getElem?_eq_some_iff.1 hj).1
      rw [spCells_len] at hjn
      obtain ⟨b, o, e, hs⟩ := hm (by omega)
      cases e
      rw [add_none]
      exact hs.cells j u hj) (spCells_one m) (by unfold maxLen; omega) (by omega) hB
    exact ⟨v', w', h1, h2, h3, h5⟩
theorem spCells_app : ∀ l m : List Sp, spCells l ++ spCells m = spCells (l ++ m)
  | [], _ => rfl
  | s :: l, m => by simp only [List.cons_append, spCells, spCells_app l m]
theorem info_bool : (Tryd.prog.info? 4).map (fun i => (i.zero, i.size, i.bytes)) = some (some (.bool false), 1, 1) := by kernel_rfl
theorem zeroCells_one (z : Value) (n : Nat) : (Builtin.zeroCells #[z] n) = Array.replicate n z := by
  apply Array.ext
  · simp [Builtin.zeroCells]
  · intro i h1 h2
    simp [Builtin.zeroCells, Nat.mod_one]
section
variable (w : World)
theorem run_zeros_grow (base : Option Addr) (n cap m : Nat) (olds : List Value) (ty : TypeId) (hold : (Builtin.firstCells 1 n (.slice base n cap)).run Tryd.prog w.drew = .ok olds.toArray w.drew) (hg : cap < n + m) (hm : 0 < m) (h1 : n ≤ 1000000) (h2 : m ≤ 1000000) :
    (Builtin.append_ #[62, 3] ty #[.slice base n cap, .int .i64 (m : Int)]).run Tryd.prog w =
      .ok (.slice (some ⟨w.heap.size, 0, none⟩) (n + m) (grownCap w (n + m) cap 4)) (w.drew.alloc (.cells ((olds ++ List.replicate m (Value.bool false)).toArray ++ Builtin.zeroCells #[.bool false] (grownCap w (n + m) cap 4 - (n + m))) 4)) := by
  obtain ⟨i0, hi, hz0, hz1, hz2⟩ := info_parts info_bool
  have ht := Tryd.underlying62
  have hti := Tryd.underlying3
  have hwrap : IntKind.i64.wrap (m : Int) = m := by rw [IntKind.wrap_i64]; omega
  have hneg : ¬ ((m : Int) < 0) := by omega
  have hbig : ¬ ((281474976710656 : Int) < (m : Int)) := by omega
  have hn : ¬ (n + m ≤ cap) := by omega
  have h63' : ¬ (9223372036854775807 < ((n : Int) + (m : Int))) := by omega
  have hfit : Builtin.nextslicecap (n + m) cap * 1 ≤ 281474976710656 := growslice_fits (by omega) (by omega)
  have h48' : ¬ (281474976710656 < Builtin.nextslicecap (n + m) cap) := by omega
  have hz : (Builtin.zeroCells #[Value.bool false] m) = (List.replicate m (Value.bool false)).toArray := by rw [zeroCells_one]; simp
  have hm0 : ¬ (m = 0) := by omega
  simp [Builtin.append_, run_underlying ht, run_underlying hti, sizeOf, typeInfo, zeroValue, hi, hz0, hz1, hz2, asInt, hwrap, hneg, hbig, hn, h63', h48', Question.forced, hold, newRow, grownCap, hm0, hz, Value.cells, asIntOf]
  try (congr 2; apply Array.ext'; simp [List.append_assoc])
theorem run_zeros_room (g n cap m : Nat) (cur : Array Value) (ty : TypeId) (hg : w.heap[g]? = some (.cells cur 4 (0, 0))) (hroom : n + m ≤ cap) (hfit : n + m ≤ cur.size) (h1 : n ≤ 1000000) (h2 : m ≤ 1000000) :
    (Builtin.append_ #[62, 3] ty #[.slice (some ⟨g, 0, none⟩) n cap, .int .i64 (m : Int)]).run Tryd.prog w =
      .ok (.slice (some ⟨g, 0, none⟩) (n + m) cap) (w.setRow g (cur.toList.take n ++ List.replicate m (Value.bool false) ++ cur.toList.drop (n + m)).toArray) := by
  obtain ⟨i0, hi, hz0, hz1, hz2⟩ := info_parts info_bool
  have ht := Tryd.underlying62
  have hti := Tryd.underlying3
  have hwrap : IntKind.i64.wrap (m : Int) = m := by rw [IntKind.wrap_i64]; omega
  have hneg : ¬ ((m : Int) < 0) := by omega
  have hbig : ¬ ((281474976710656 : Int) < (m : Int)) := by omega
  have hz : (Builtin.zeroCells #[Value.bool false] m) = (List.replicate m (Value.bool false)).toArray := by rw [zeroCells_one]; simp
  have hst := run_storeCells_at Tryd.prog g n 4 (List.replicate m (Value.bool false)) 0 cur w hg (by simpa using hfit) (fun u hu => by rw [List.eq_of_mem_replicate hu]; rfl)
  simp only [Nat.add_zero, List.length_replicate] at hst
  by_cases hm0 : m = 0
  · subst hm0
    have hw0 : IntKind.i64.wrap 0 = 0 := by rw [IntKind.wrap_i64]; omega
    simp only [List.replicate_zero, Nat.add_zero] at hst
    have hroom0 : n ≤ cap := hroom
    simp [Builtin.append_, run_underlying ht, run_underlying hti, sizeOf, typeInfo, zeroValue, hi, hz0, hz1, hz2, asInt, hw0, hroom0, Value.cells, asIntOf, Addr.add_lit, hst]
  · simp [Builtin.append_, run_underlying ht, run_underlying hti, sizeOf, typeInfo, zeroValue, hi, hz0, hz1, hz2, asInt, hwrap, hneg, hbig, hroom, hm0, hz, Value.cells, asIntOf, Addr.add_lit, hst]
end
/-- That many zeros, as an append of made ones. -/
theorem AppRun.zeros {w : World} {B : Nat} {v : Value} {G : List Bool} {n : Nat} (m : Nat) (hown : w.ownsRow B 4 1 v n (G.map .bool)) (hB : B ≤ w.heap.size) (hn : n ≤ 1000000) (hml : m ≤ 1000000) :
    AppRun w 62 3 B 4 1 v (.int .i64 (m : Int)) (n + m) ((G ++ List.replicate m false).map .bool) := by
  intro ty
  obtain ⟨i0, hi, hz0, hz1, hz2⟩ := info_parts info_bool
  have ht := Tryd.underlying62
  have hti := Tryd.underlying3
  have hwrap : IntKind.i64.wrap (m : Int) = m := by rw [IntKind.wrap_i64]; omega
  have hneg : ¬ ((m : Int) < 0) := by omega
  have hbig : ¬ ((281474976710656 : Int) < (m : Int) * (1 : Int)) := by omega
  have hz : (Builtin.zeroCells #[Value.bool false] m) = (List.replicate m (Value.bool false)).toArray := by rw [zeroCells_one]; simp
  have hmap : (G ++ List.replicate m false).map Value.bool = G.map Value.bool ++ List.replicate m (Value.bool false) := by rw [List.map_append, List.map_replicate]
  rw [hmap]
  have hlen : (G.map Value.bool ++ List.replicate m (Value.bool false)).length = n + m := by have := hown.1; simp at this; simp; omega
  have hGn : (G.map Value.bool).length = n := by have := hown.1; simpa using this
  have grown : ∀ (old : Nat) (row : Option Nat), (w.drew.alloc (.cells ((G.map Value.bool ++ List.replicate m (Value.bool false)).toArray ++ Builtin.zeroCells #[Value.bool false] (grownCap w (n + m) old 4 - (n + m))) 4)).ownsRow B 4 1 (.slice (some ⟨w.heap.size, 0, none⟩) (n + m) (grownCap w (n + m) old 4)) (n + m) (G.map Value.bool ++ List.replicate m (Value.bool false)) ∧
      w.grownBy (w.drew.alloc (.cells ((G.map Value.bool ++ List.replicate m (Value.bool false)).toArray ++ Builtin.zeroCells #[Value.bool false] (grownCap w (n + m) old 4 - (n + m))) 4)) row := by
    intro old row
    have hge := grownCap_ge w (n + m) old 4
    have hcm : grownCap w (n + m) old 4 ≤ maxLen := grownCap_le_maxLen w (n + m) old 4 (by unfold maxLen; omega)
    refine ⟨⟨by omega, .inr ⟨w.heap.size, _, _, rfl, hB, heap_alloc_new w.drew _, hge, hcm, ?_, ?_⟩⟩, ⟨rfl, rfl, rfl, by simp, fun k hk _ => (World.grownBy_alloc w.drew _ none).block k hk (by simp)⟩⟩
    · rw [zeroCells_one, Array.size_append, List.size_toArray, Array.size_replicate, hlen]; omega
    · rw [Array.toList_append, Nat.mul_one, ← hlen]; exact List.take_left
  rcases hown.2 with ⟨rfl, rfl⟩ | ⟨g, cap, cur, rfl, hbg, hg, hnc, hcm, hcs, htake⟩
  · have hG : G = [] := List.eq_nil_of_length_eq_zero (by simpa using hGn)
    subst hG
    by_cases hm : m = 0
    · subst hm
      have hw0 : IntKind.i64.wrap 0 = 0 := by rw [IntKind.wrap_i64]; omega
      refine ⟨.slice none 0 0, w, ?_, World.ownsRow_nil w B _ 1, ⟨rfl, rfl, rfl, Nat.le_refl _, fun _ _ _ => rfl⟩, .inl rfl⟩
      simp [Builtin.append_, run_underlying ht, run_underlying hti, sizeOf, typeInfo, zeroValue, hi, hz0, hz1, hz2, asInt, asIntOf, hw0]
    · have hr := run_zeros_grow w none 0 0 m [] ty (by simp [Builtin.firstCells]) (by omega) (by omega) (by omega) hml
      have hgr := grown 0 (Value.ownBlock (.slice none 0 0))
      exact ⟨_, _, hr, hgr.1, hgr.2, .inr rfl⟩
  · by_cases hroom : n + m ≤ cap
    · have hr := run_zeros_room w g n cap m cur ty hg hroom (by omega) (by omega) hml
      refine ⟨_, _, hr, ⟨by omega, .inr ⟨g, cap, _, rfl, hbg, setRow_heap w g cur _ _ _ hg, hroom, hcm, ?_, ?_⟩⟩, ⟨rfl, rfl, rfl, by simp, fun k _ hk => setRow_other w g k _ (fun e => hk (by simp [Value.ownBlock, e]))⟩, .inl rfl⟩
      · simp only [List.size_toArray, List.length_append, List.length_take, List.length_drop, Array.length_toList, List.length_replicate]
        omega
      · rw [Nat.mul_one] at htake ⊢
        rw [htake, ← hlen]
        exact List.take_left
    · have holds := hown.cells (g := g) rfl
      have hr := run_zeros_grow w (some ⟨g, 0, none⟩) n cap m (G.map Value.bool) ty (run_firstCells_some w.drew 1 n ⟨g, 0, none⟩ n cap (G.map Value.bool) (by omega) (by simpa using holds)) (by omega) (by omega) (by omega) hml
      have hgr := grown cap (Value.ownBlock (.slice (some ⟨g, 0, none⟩) n cap))
      exact ⟨_, _, hr, hgr.1, hgr.2, .inr rfl⟩
section
variable {ops : Array Oper} {o : Oper} {a : Act} {w : World} {K : Act → World → Prop} {Q : Exit → Act → World → Prop} {E : Prop} {rest : List Oper}
/-- An append, at a walk's step. -/
theorem wpl_app {t tx : TypeId} {B e size n : Nat} {v x : Value} {ys : List Value} (hgd : o.guard = none) (s y : Operand) (ho : o.op = .call { callee := .builtin .append, args := #[s, y], argTypes := #[t, tx] }) (hr : AppRun w t tx B e size v x n ys) (hs : a.eval s = v) (hx : a.eval y = x)
    (h : ∀ v' w', w'.ownsRow B e size v' n ys → w.grownBy w' v.ownBlock → (v'.ownBlock = v.ownBlock ∨ v'.ownBlock = some w.heap.size) → wpList Tryd.prog ops Q rest (a.put o.dst v') w') :
    wpList Tryd.prog ops Q (o :: rest) a w := by
  refine wpList_plain hgd fun K hK => ?_
  obtain ⟨v', w', h1, h2, h3, h4⟩ := hr o.type
  unfold Oper.wp execOp
  simp only [ho, resolve, invoke, builtin, Sem.run_bind, Sem.run_pure, Result.andThen_ok, List.map_toArray, List.map_cons, List.map_nil, hs, hx, h1]
  exact hK _ _ (h v' w' h2 h3 h4)
/-- An append, at a step of a region that draws its order. -/
theorem step_app {t tx : TypeId} {B e size n : Nat} {v x : Value} {ys : List Value} (hgd : o.guard = none) (s y : Operand) (ho : o.op = .call { callee := .builtin .append, args := #[s, y], argTypes := #[t, tx] }) (hr : AppRun w t tx B e size v x n ys) (hs : a.eval s = v) (hx : a.eval y = x)
    (h : ∀ v' w', w'.ownsRow B e size v' n ys → w.grownBy w' v.ownBlock → (v'.ownBlock = v.ownBlock ∨ v'.ownBlock = some w.heap.size) → K (a.put o.dst v') w') :
    if Region.wanted o (yielded ops a.tmps) = true then Oper.wp Tryd.prog o a w K Q else E := by
  have hw : Region.wanted o (yielded ops a.tmps) = true := by simp [Region.wanted, hgd]
  rw [if_pos hw]
  obtain ⟨v', w', h1, h2, h3, h4⟩ := hr o.type
  unfold Oper.wp execOp
  simp only [ho, resolve, invoke, builtin, Sem.run_bind, Sem.run_pure, Result.andThen_ok, List.map_toArray, List.map_cons, List.map_nil, hs, hx, h1]
  exact h v' w' h2 h3 h4
end
end Go.Proofs.YtebomakihdjllaaDoor
namespace Go.Proofs.YtebomakihdjllaaDoor
open Go.RowKit
set_option linter.unusedVariables false
/-- Two slices that own no block together. -/
def Ap (u v : Value) : Prop := ∀ g, u.ownBlock = some g → v.ownBlock ≠ some g
theorem Ap.symm {u v : Value} (h : Ap u v) : Ap v u := fun g hv hu => h g hu hv
theorem Ap.nil (v : Value) : Ap (.slice none 0 0) v := fun g h => by cases h
/-- What is appended to one leaves the other one. -/
theorem row_pair {w w' : World} {B e size n : Nat} {u u' v : Value} {ys : List Value} (hv : w.ownsRow B e size v n ys) (ha : Ap u v) (hg : w.grownBy w' u.ownBlock) (hl : u'.ownBlock = u.ownBlock ∨ u'.ownBlock = some w.heap.size) : w'.ownsRow B e size v n ys ∧ Ap u' v := by
  refine ⟨hv.kept hg ?_, fun g h1 h2 => ?_⟩
  · cases hvb : v.ownBlock with
    | none => exact .inl rfl
    | some k => exact .inr (fun e => ha k e.symm hvb)
  · rcases hl with e | e
    · exact ha g (e.symm.trans h1) h2
    · rw [e] at h1
      have := (hv.lt g h2).2
      cases h1
      exact Nat.lt_irrefl _ this
end Go.Proofs.YtebomakihdjllaaDoor
namespace Go.Proofs.YtebomakihdjllaaDoor
open Go.RowKit
set_option maxRecDepth 100000
set_option linter.unusedVariables false
set_option linter.unusedSimpArgs false
/-- Truths that lie from a place on. -/
structure BolsAt (w : World) (b off : Nat) (l : List Bool) : Prop where
  lt : b < w.heap.size
  c : ∀ i (h : i < l.length), w.cell? ⟨b, off + i, none⟩ = some (.bool l[i])
theorem BolsAt.below {w w' : World} {b off : Nat} {l : List Bool} (h : BolsAt w b off l) (hb : Below w.heap.size w w') : BolsAt w' b off l :=
  ⟨Nat.lt_of_lt_of_le h.lt hb.size, fun i hi => (hb.cell (p := ⟨b, off + i, none⟩) h.lt).trans (h.c i hi)⟩
def BolSl (w : World) (v : Value) (l : List Bool) : Prop := ∃ a cap, v = .slice a l.length cap ∧ (0 < l.length → ∃ b off, a = some ⟨b, off, none⟩ ∧ BolsAt w b off l)
theorem BolSl.below {w w' : World} {v : Value} {l : List Bool} (h : BolSl w v l) (hb : Below w.heap.size w w') : BolSl w' v l := by
  obtain ⟨a, cap, rfl, h⟩ := h
  exact ⟨a, cap, rfl, fun h0 => by obtain ⟨b, off, e, hs⟩ := h h0; exact ⟨b, off, e, hs.below hb⟩⟩
theorem own_bols {w : World} {B e : Nat} {v : Value} {l : List Bool} {n : Nat} (h : w.ownsRow B e 1 v n (l.map Value.bool)) (hn : n = l.length) : BolSl w v l := by
  subst hn
  obtain ⟨hl, h | ⟨g, cap, cur, rfl, hb, hg, hc, -, -, ht⟩⟩ := h
  · obtain ⟨rfl, h0⟩ := h
    exact ⟨none, 0, by rw [h0], fun hp => absurd h0 (by omega)⟩
  · refine ⟨_, _, rfl, fun _ => ⟨g, 0, rfl, (Array.getElem?_eq_some_iff.1 hg).1, fun i hi => ?_⟩⟩
    have k1 : (l.map Value.bool)[i]? = some (.bool l[i]) := by simp [hi]
    rw [cell_of_row w g _ cur e (0, 0) hg]
    simp only [Nat.zero_add]
    rw [← ht, List.getElem?_take, if_pos (by omega), Array.getElem?_toList] at k1
    assumption
/-- A book that lies in a block: its coins (by number) and which of them are gone. -/
structure BkV (w : World) (B p : Nat) (vc vg : Value) (N : List Int) (G : List Bool) : Prop where
  c0 : w.cell? ⟨p, 0, none⟩ = some vc
  c1 : w.cell? ⟨p, 1, none⟩ = some vg
  f0 : w.frozen? ⟨p, 0, none⟩ = false
  f1 : w.frozen? ⟨p, 1, none⟩ = false
  lt : p < w.heap.size
  bp : B ≤ p
  rc : w.ownsRow B 23 3 vc N.length (spCells (N.map qS))
  rg : w.ownsRow B 4 1 vg N.length (G.map Value.bool)
  ln : G.length = N.length
  ap : Ap vc vg
  nc : vc.ownBlock ≠ some p
  ng : vg.ownBlock ≠ some p
def BkAt (w : World) (B p : Nat) (N : List Int) (G : List Bool) : Prop := ∃ vc vg, BkV w B p vc vg N G
theorem own_slB {w : World} {B e size n : Nat} {v : Value} {xs : List Value} (h : w.ownsRow B e size v n xs) : ∃ a cap, v = .slice a n cap := by
  rcases h.2 with ⟨rfl, h0⟩ | ⟨g, cap, cur, rfl, -⟩
  · exact ⟨none, 0, by rw [h0]⟩
  · exact ⟨_, _, rfl⟩
theorem own_base {w : World} {B B' e size n : Nat} {v : Value} {xs : List Value} (h : w.ownsRow B' e size v n xs) (hB : B ≤ B') : w.ownsRow B e size v n xs := by
  refine ⟨h.1, ?_⟩
  rcases h.2 with hn | ⟨g, cap, cur, rfl, hg, rest⟩
  · exact .inl hn
  · exact .inr ⟨g, cap, cur, rfl, Nat.le_trans hB hg, rest⟩
theorem own_keep {w w' : World} {B e size n : Nat} {v : Value} {xs : List Value} (h : w.ownsRow B e size v n xs) (hk : ∀ k, v.ownBlock = some k → w'.heap[k]? = w.heap[k]?) : w'.ownsRow B e size v n xs := by
  refine ⟨h.1, ?_⟩
  rcases h.2 with hn | ⟨g, cap, cur, rfl, hg, hgg, rest⟩
  · exact .inl hn
  · exact .inr ⟨g, cap, cur, rfl, hg, by rw [hk g rfl]; exact hgg, rest⟩
/-- It stays, where its blocks stay. -/
theorem BkV.keep {w w' : World} {B p : Nat} {vc vg : Value} {N : List Int} {G : List Bool} (h : BkV w B p vc vg N G) (hs : w.heap.size ≤ w'.heap.size) (hk : ∀ k, k = p ∨ vc.ownBlock = some k ∨ vg.ownBlock = some k → w'.heap[k]? = w.heap[k]?) : BkV w' B p vc vg N G :=
  ⟨(World.cell?_of_block (hk p (.inl rfl))).trans h.c0, (World.cell?_of_block (hk p (.inl rfl))).trans h.c1, (World.frozen?_of_block (hk p (.inl rfl))).trans h.f0, (World.frozen?_of_block (hk p (.inl rfl))).trans h.f1, Nat.lt_of_lt_of_le h.lt hs, h.bp,
    own_keep h.rc (fun k e => hk k (.inr (.inl e))), own_keep h.rg (fun k e => hk k (.inr (.inr e))), h.ln, h.ap, h.nc, h.ng⟩
theorem BkV.blk {w : World} {B p : Nat} {vc vg : Value} {N : List Int} {G : List Bool} (h : BkV w B p vc vg N G) (k : Nat) (hk : k = p ∨ vc.ownBlock = some k ∨ vg.ownBlock = some k) : B ≤ k ∧ k < w.heap.size := by
  rcases hk with rfl | hk | hk
  · exact ⟨h.bp, h.lt⟩
  · exact h.rc.lt k hk
  · exact h.rg.lt k hk
theorem BkV.below {w w' : World} {B p : Nat} {vc vg : Value} {N : List Int} {G : List Bool} (h : BkV w B p vc vg N G) (hb : Below w.heap.size w w') : BkV w' B p vc vg N G :=
  h.keep hb.size fun k hk => hb.block k (h.blk k hk).2
theorem BkAt.below {w w' : World} {B p : Nat} {N : List Int} {G : List Bool} (h : BkAt w B p N G) (hb : Below w.heap.size w w') : BkAt w' B p N G := by
  obtain ⟨vc, vg, h⟩ := h; exact ⟨vc, vg, h.below hb⟩
theorem BkV.sp {w : World} {B p : Nat} {vc vg : Value} {N : List Int} {G : List Bool} (h : BkV w B p vc vg N G) : SpSl w vc (N.map qS) := own_spots h.rc (by rw [List.length_map])
theorem BkV.bo {w : World} {B p : Nat} {vc vg : Value} {N : List Int} {G : List Bool} (h : BkV w B p vc vg N G) : BolSl w vg G := own_bols h.rg h.ln.symm
theorem BkV.box {w : World} {B : Nat} {vc vg : Value} {N : List Int} {G : List Bool} (t : TypeId) (rc : w.ownsRow B 23 3 vc N.length (spCells (N.map qS))) (rg : w.ownsRow B 4 1 vg N.length (G.map Value.bool)) (ln : G.length = N.length) (ap : Ap vc vg) (hB : B ≤ w.heap.size) (p : Nat) (hp : p = w.heap.size) :
    BkV (w.alloc (.cells #[vc, vg] t)) B p vc vg N G := by
  subst hp
  exact ⟨by go_simp, by go_simp, by go_simp, by go_simp, by simp, hB, rc.alloc _, rg.alloc _, ln, ap, fun e => Nat.lt_irrefl _ (rc.lt _ e).2, fun e => Nat.lt_irrefl _ (rg.lt _ e).2⟩
theorem mk_bols (n : Nat) (h : n ≤ 1000000) : ∀ w : World, (Instr.makeSlice 62 (.int .i64 (n : Int)) (.int .i64 (n : Int))).run Tryd.prog w = .ok (.slice (some ⟨w.heap.size, 0, none⟩) n n) (w.alloc (.cells (madeCells #[.bool false] n) 4)) := by
  intro w
  obtain ⟨i0, hi, hz0, hz1, hz2⟩ := info_parts info_bool
  have := run_makeSlice (P := Tryd.prog) w 62 4 i0 (.bool false) Tryd.underlying62 hi hz0 .i64 .i64 n n (by omega) (Int.le_refl _) (by rw [hz1]; simp; omega) (by rw [hz2]; omega) (by omega)
  rw [hz1, Nat.mul_one] at this
  simpa [Value.cells] using this
theorem own_made (w : World) (B n : Nat) (hB : B ≤ w.heap.size) (hn : n ≤ 1000000) : (w.alloc (.cells (madeCells #[.bool false] n) 4)).ownsRow B 4 1 (.slice (some ⟨w.heap.size, 0, none⟩) n n) n ((List.replicate n false).map Value.bool) := by
  have := World.ownsRow_lit (base := B) (e := 4) (size := 1) w (madeCells #[.bool false] n) n hB (by unfold maxLen; omega) (by rw [size_madeCells, Nat.mul_one])
  rw [toList_madeCells_one] at this
  rw [List.map_replicate]; exact this
set_option maxHeartbeats 4000000 in
theorem bnew_y (N : List Int) (a : Option Addr) (c : Nat) (w : World) (hn : N.length ≤ 12) (hF : FarAt w) (hL : 0 < (N.map qS).length → ∃ b o, a = some ⟨b, o, none⟩ ∧ SpotsAt w b o (N.map qS)) :
    Calls Tryd.prog 7 #[.slice a N.length c] w fun e w' => ∃ p, e = .returned (.tuple #[.pointer (some ⟨p, 0, none⟩), .nilIface]) ∧ BkAt w' w.heap.size p N (List.replicate N.length false) ∧ Below w.heap.size w w' := by
  have hl : (N.map qS).length = N.length := List.length_map _
  have hck := bcheck_core (N.map qS) (N.map qS).length .nilIface a c w hF (by omega) hL (Lib.hid fun k h1 _ => ⟨_, List.getElem_map _⟩) (Nat.le_refl _) (Lib.hid fun h => absurd h (Nat.lt_irrefl _)) (Lib.hid fun h => absurd h (Nat.lt_irrefl _)) (Lib.hid fun _ => rfl)
  have hcl := fun (w1 : World) (hb : Below w.heap.size w w1) => cloneS_c (N.map qS) a c w1 (by omega) (fun h => by obtain ⟨b, o, e, hs⟩ := hL h; exact ⟨b, o, e, hs.below hb⟩)
  rw [hl] at hck
  simp only [hl] at hcl
  replace hck := Lib.hid hck
  replace hcl := Lib.hid hcl
  have hmk := mk_bols N.length (by omega)
  clear hL hF
  go_enter Tryd.func7, Tryd.ntmps7
  go_wp2_with fail
  refine hck.out.mono ?_; rintro e w1 ⟨rfl, hb1⟩
  replace hb1 := Lib.hid hb1
  clear hck
  go_upto_region 4 with fail
  go_region_with (first | (go_at_call 35; refine (hcl.out _ (by repeat (first | exact hb1.out | refine balloc ?_ _ | refine Below.drew ?_))).mono ?_; rintro e wb ⟨vo, rfl, hown, hbb⟩; obtain ⟨av, cv, rfl⟩ := own_slB hown; replace hown := Lib.hid hown; replace hbb := Lib.hid hbb))
  · have hsz : w.heap.size ≤ w1.heap.size := hb1.out.size
    have hbz : w1.heap.size ≤ wb.heap.size := hbb.out.size
    have hbB : Below w.heap.size w wb := below_seq hb1.out.drew hbb.out
    go_wp2
    go_ret2
    refine ⟨_, rfl, ⟨_, _, BkV.box _ ((own_base hown.out hsz).alloc _) (own_made wb w.heap.size N.length (by omega) (by omega)) (by simp) (fun g h1 h2 => ?_) (by simp; omega) _ (by simp)⟩, balloc (balloc hbB _) _⟩
    have h3 := (hown.out.lt g h1).2
    simp [Value.ownBlock] at h2
    omega
  · have hsz : w.heap.size ≤ w1.heap.size := hb1.out.size
    have hbz := hbb.out.size
    have hbB : Below w.heap.size w wb := below_seq (balloc hb1.out.drew _) hbb.out
    have hmd := own_made w1.drew w.heap.size N.length hsz (by omega)
    have hmd2 := own_below hmd hbb.out
    simp at hbz
    go_wp2
    go_ret2
    refine ⟨_, rfl, ⟨_, _, BkV.box _ (own_base hown.out (by simp; omega)) hmd2 (by simp) (fun g h1 h2 => ?_) (by omega) _ rfl⟩, balloc hbB _⟩
    have h3 := (hown.out.lt g h1).1
    simp [Value.ownBlock] at h2 h3
    omega
/-- A book is not made of coins that are refused. -/
theorem bnew_n (n : Nat) (E : Value) (a : Option Addr) (c : Nat) (w : World) (hE : ∃ k : Int, E = .iface 69 (.int .i64 k)) (hck : Calls Tryd.prog 34 #[.slice a n c] w fun e w' => e = .returned E ∧ Below w.heap.size w w') :
    Calls Tryd.prog 7 #[.slice a n c] w fun e w' => e = .returned (.tuple #[.pointer none, E]) ∧ Below w.heap.size w w' := by
  obtain ⟨k, rfl⟩ := hE
  replace hck := Lib.hid hck
  go_enter Tryd.func7, Tryd.ntmps7
  go_wp2_with fail
  refine hck.out.mono ?_; rintro e w1 ⟨rfl, hb1⟩
  clear hck
  go_wp2
  go_ret2
  exact ⟨rfl, hb1⟩
end Go.Proofs.YtebomakihdjllaaDoor
namespace Go.Proofs.YtebomakihdjllaaDoor
open Go.RowKit
set_option maxRecDepth 100000
set_option linter.unusedVariables false
set_option linter.unusedSimpArgs false
/-- The fault of a coin that is to go, behind those that went before. -/
def gErrB (G : List Bool) (pre : List Int) (g : Int) : Int := if g < 0 ∨ (G.length : Int) ≤ g then 1 else if G.getD g.toNat true = true then 6 else if g ∈ pre then 7 else 0
/-- What goes: its number, turned. -/
def outN (N gl : List Int) : Int := -(gl.map fun g => N.getD g.toNat 0).sum
theorem outN_snoc (N gl : List Int) (g : Int) : outN N (gl ++ [g]) = outN N gl + -(N.getD g.toNat 0) := by
  unfold outN; rw [List.map_append, List.sum_append]; simp; omega
theorem outN_nil (N : List Int) : outN N [] = 0 := rfl
theorem qS_add (a b : Int) : sSum (qS a) (qS b) = qS (a + b) := by unfold qS; rw [sq_add]; congr 1; omega
theorem qS_neg (a : Int) : sTurned (qS a) = qS (-a) := by unfold qS; rw [sq_neg]; congr 1; omega
theorem qS_zero : qS 0 = ⟨0, 0, true⟩ := sq_zero
theorem take_snocI (l : List Int) (k : Nat) (h : k < l.length) : l.take (k + 1) = l.take k ++ [l[k]] := by
  rw [List.take_add_one, List.getElem?_eq_getElem h]; rfl
theorem sumB_snoc (l : List Int) (k : Nat) (h : k < l.length) : (l.take (k + 1)).sum = (l.take k).sum + l[k] := by
  rw [take_snocI l k h, List.sum_append]; simp
theorem IntsAt.take {w : World} {b o : Nat} {l : List Int} (h : IntsAt w b o l) (n : Nat) : IntsAt w b o (l.take n) :=
  ⟨h.lt, fun i hi => by rw [List.getElem_take]; exact h.c i (by rw [List.length_take] at hi; omega)⟩
set_option maxHeartbeats 16000000 in
theorem bex_core (N : List Int) (G : List Bool) (B p : Nat) (gl : List Int) (C : List Sp) (a0 a1 : Option Addr) (c0 c1 : Nat) (kk : Nat) (E : Int) (V R : Value) (w : World) (hF : FarAt w) (hBk : BkAt w B p N G) (hNl : N.length ≤ 1000000) (hgl : gl.length ≤ 9223372036854775807) (hc0 : gl.length ≤ c0) (hc0' : c0 ≤ 9223372036854775807)
    (h0 : 0 < gl.length → ∃ b o, a0 = some ⟨b, o, none⟩ ∧ IntsAt w b o gl) (h1 : 0 < C.length → ∃ b o, a1 = some ⟨b, o, none⟩ ∧ SpotsAt w b o C) (hCl : C.length ≤ 9223372036854775807)
    (hkk : kk ≤ gl.length) (hgood : ∀ i (h : i < gl.length), i < kk → gErrB G (gl.take i) gl[i] = 0) (hbad : ∀ h : kk < gl.length, gErrB G (gl.take kk) gl[kk] = E ∧ E ≠ 0)
    (hck : Hid (∀ w1 : World, Below w.heap.size w w1 → Calls Tryd.prog 34 #[.slice a1 C.length c1] w1 fun e w' => e = .returned V ∧ Below w1.heap.size w1 w'))
    (hR0 : Hid (kk < gl.length → R = .tuple #[spV ⟨0, 0, false⟩, .iface 69 (.int .i64 E)]))
    (hR1 : Hid (kk = gl.length → (∃ k, V = .iface 69 (.int .i64 k) ∧ R = .tuple #[spV ⟨0, 0, false⟩, V]) ∨ (V = .nilIface ∧ ∃ M : List Int, C = M.map qS ∧ R = .tuple #[spV (qS (outN N gl + M.sum)), .nilIface]))) :
    Calls Tryd.prog 9 #[.pointer (some ⟨p, 0, none⟩), .slice a0 gl.length c0, .slice a1 C.length c1] w fun e w' => e = .returned R ∧ Below w.heap.size w w' := by
  obtain ⟨vc, vg, hBk⟩ := hBk
  obtain ⟨ac, cc, rfl⟩ := own_slB hBk.rc
  obtain ⟨ag, cg, rfl⟩ := own_slB hBk.rg
  have hNs : 0 < N.length → ∃ b o, ac = some ⟨b, o, none⟩ ∧ SpotsAt w b o (N.map qS) := fun h => by
    obtain ⟨a, c, e, hs⟩ := hBk.sp
    simp only [Value.slice.injEq] at e
    obtain ⟨rfl, -, -⟩ := e
    exact hs (by rw [List.length_map]; exact h)
  have hGs : 0 < N.length → ∃ b o, ag = some ⟨b, o, none⟩ ∧ BolsAt w b o G := fun h => by
    obtain ⟨a, c, e, hs⟩ := hBk.bo
    simp only [Value.slice.injEq] at e
    obtain ⟨rfl, -, -⟩ := e
    exact hs (by rw [hBk.ln]; exact h)
  have hGl := hBk.ln
  have p0 := hBk.c0
  have p1 := hBk.c1
  have hp := hBk.lt
  have hcp := Lib.hid (fun (w' : World) (hb : Below w.heap.size w w') => (⟨((bcell hb).1 _ 0 hp).trans p0, ((bcell hb).1 _ 1 hp).trans p1, Nat.lt_of_lt_of_le hp hb.size⟩ : w'.cell? ⟨p, 0, none⟩ = some (.slice ac N.length cc) ∧ w'.cell? ⟨p, 1, none⟩ = some (.slice ag N.length cg) ∧ p < w'.heap.size))
  clear hBk p0 p1
  replace h0 := Lib.hid h0
  replace h1 := Lib.hid h1
  replace hNs := Lib.hid hNs
  replace hGs := Lib.hid hGs
  replace hgood := Lib.hid hgood
  replace hbad := Lib.hid hbad
  have hF' := Lib.hid hF
  obtain ⟨q0, q1, q2, ql⟩ := hF
  go_enter Tryd.func9, Tryd.ntmps9
  go_wp2
  have t0 : SpAt ((w.alloc (.cells #[.int .i64 0, .int .i64 0, .bool false] 23)).alloc (.cells #[.int .i64 0, .int .i64 0, .bool true] 23)) w.heap.size ⟨0, 0, false⟩ := (SpAt.fresh _ _ _ _ _).alloc _
  have t1 : SpAt ((w.alloc (.cells #[.int .i64 0, .int .i64 0, .bool false] 23)).alloc (.cells #[.int .i64 0, .int .i64 0, .bool true] 23)) (w.heap.size + 1) ⟨0, 0, true⟩ := SpAt.fresh1 _ _ _ _ _ _
  have tb := balloc (below_alloc w (.cells #[.int .i64 0, .int .i64 0, .bool false] 23)) (.cells #[.int .i64 0, .int .i64 0, .bool true] 23)
  replace t0 := Lib.hid t0
  replace t1 := Lib.hid t1
  replace tb := Lib.hid tb
  clear q0 q1 q2 ql
  generalize (w.alloc (.cells #[.int .i64 0, .int .i64 0, .bool false] 23)).alloc (.cells #[.int .i64 0, .int .i64 0, .bool true] 23) = w0 at *
  go_loopw [17] (fun i wr => ∃ n : Nat, n ≤ gl.length ∧ n ≤ kk ∧ i = .int .i64 n ∧ SpAt wr w.heap.size ⟨0, 0, false⟩ ∧ SpAt wr (w.heap.size + 1) (qS (outN N (gl.take n))) ∧ Below w.heap.size w wr) (fun i _ => gl.length - (intOf i).toNat)
  case atStart => exact ⟨0, Nat.zero_le _, Nat.zero_le _, rfl, t0.out, (by show SpAt w0 _ (qS 0); rw [qS_zero]; exact t1.out), tb.out⟩
  case round =>
    clear t0 t1 tb
    obtain ⟨n, hn, hnk, rfl, hr, ho, hB⟩ := hrel
    have hol := ho.lt
    have hrl := hr.lt
    replace hr := Lib.hid hr
    replace ho := Lib.hid ho
    replace hB := Lib.hid hB
    by_cases hlt : n < gl.length
    · obtain ⟨b0, o0, rfl, hs0⟩ := h0.out (by omega)
      have hsI := hs0.below hB.out
      have l1 := hsI.c n hlt
      have l2 := hsI.lt
      obtain ⟨r0, r1, r2⟩ := hcp.out _ hB.out
      have hgd := Lib.hid (hgood.out n hlt)
      have hbn : n = kk → gErrB G (gl.take n) gl[n] = E ∧ E ≠ 0 := fun e => by subst e; exact hbad.out hlt
      replace hbn := Lib.hid hbn
      have hRn := Lib.hid (fun e : n = kk => hR0.out (by omega))
      have hsn := Lib.hid (take_snocI gl n hlt)
      have hst := Lib.hid (hsI.take n)
      have htl : (gl.take n).length = n := by rw [List.length_take]; omega
      clear hsI hs0 hgood hbad hR0 hR1 h1 hck
      generalize gl[n] = g at *
      generalize gl.take n = pre at *
      by_cases hrg : g < 0 ∨ (N.length : Int) ≤ g
      · have hE : gErrB G pre g = 1 := if_pos (by rw [hGl]; exact hrg)
        have hnk2 : n = kk := by
          by_cases e : n = kk
          · exact e
          · have := hgd.out (by omega); omega
        obtain ⟨e1, -⟩ := hbn.out hnk2
        have hR := hRn.out hnk2
        obtain rfl : E = 1 := by omega
        clear hgd hbn hRn hnk2 hE e1 hNs hGs hsn hst
        obtain ⟨k0, k1, k2, kf0, kf1, kf2, kl⟩ := hr.out
        rcases hrg with hrg | hrg
        · have d1 : decide (g < 0) = true := decide_eq_true hrg
          go_wp2
          have k := set3_cell (w := wr) (x := .int .i64 0) (y := .int .i64 0) (z := .bool false) k0 k1 k2
          refine bodyPost_ret (v := .tuple #[spV ⟨0, 0, false⟩, .iface 69 (.int .i64 1)]) (by simp [results, Tryd.results9, go_sem, k.1, k.2.1, k.2.2]) rfl ⟨by first | rfl | rw [hR], set3_below hB.out (Nat.le_refl _)⟩
        · have d1 : decide (g < 0) = false := decide_eq_false (by omega)
          have d2 : decide ((N.length : Int) ≤ g) = true := decide_eq_true hrg
          go_wp2
          have k := set3_cell (w := wr) (x := .int .i64 0) (y := .int .i64 0) (z := .bool false) k0 k1 k2
          refine bodyPost_ret (v := .tuple #[spV ⟨0, 0, false⟩, .iface 69 (.int .i64 1)]) (by simp [results, Tryd.results9, go_sem, k.1, k.2.1, k.2.2]) rfl ⟨by first | rfl | rw [hR], set3_below hB.out (Nat.le_refl _)⟩
      · obtain ⟨j, rfl⟩ : ∃ j : Nat, g = (j : Int) := ⟨g.toNat, by omega⟩
        have hj : j < N.length := by omega
        have d1 : decide ((j : Int) < 0) = false := decide_eq_false (by omega)
        have d2 : decide ((N.length : Int) ≤ (j : Int)) = false := decide_eq_false (by omega)
        have hjG : j < G.length := by rw [hGl]; exact hj
        obtain ⟨bg, og, rfl, hsG⟩ := hGs.out (by omega)
        have g1 := (hsG.below hB.out).c j hjG
        have g2 := (hsG.below hB.out).lt
        have hgE : gErrB G pre (j : Int) = if G[j] = true then 6 else if (j : Int) ∈ pre then 7 else 0 := by
          unfold gErrB
          rw [if_neg (by rw [hGl]; exact hrg), Int.toNat_natCast, List.getD_eq_getElem?_getD, List.getElem?_eq_getElem hjG]; rfl
        rw [hgE] at hgd hbn
        clear hgE hsG hGs hrg
        generalize G[j] = gj at *
        cases gj
        · have hCn := contains_c pre (j : Int) (some ⟨b0, o0, none⟩) c0 wr (decide ((j : Int) ∈ pre)) decide_eq_true_iff (by omega) (fun _ => ⟨b0, o0, rfl, hst.out⟩)
          rw [htl] at hCn
          replace hCn := Lib.hid hCn
          have d3 : (n : Int) ≤ (c0 : Int) := by omega
          by_cases hmem : (j : Int) ∈ pre
          · have hnk2 : n = kk := by
              by_cases e : n = kk
              · exact e
              · have := hgd.out (by omega); rw [if_neg (by simp), if_pos hmem] at this; omega
            obtain ⟨e1, -⟩ := hbn.out hnk2
            have hR := hRn.out hnk2
            obtain rfl : E = 7 := by rw [if_neg (by simp), if_pos hmem] at e1; exact e1.symm
            rw [decide_eq_true hmem] at hCn
            clear hgd hbn hRn hnk2 e1 hNs hsn hst hmem
            obtain ⟨k0, k1, k2, kf0, kf1, kf2, kl⟩ := hr.out
            go_wp2_with fail
            refine hCn.out.mono ?_; rintro e w' ⟨rfl, rfl⟩
            clear hCn
            go_wp2
            have k := set3_cell (w := wr) (x := .int .i64 0) (y := .int .i64 0) (z := .bool false) k0 k1 k2
            refine bodyPost_ret (v := .tuple #[spV ⟨0, 0, false⟩, .iface 69 (.int .i64 7)]) (by simp [results, Tryd.results9, go_sem, k.1, k.2.1, k.2.2]) rfl ⟨by first | rfl | rw [hR], set3_below hB.out (Nat.le_refl _)⟩
          · have hnk2 : n < kk := by
              by_cases e : n = kk
              · obtain ⟨e1, e2⟩ := hbn.out e
                rw [if_neg (by simp), if_neg hmem] at e1
                exact absurd e1.symm e2
              · omega
            rw [decide_eq_false hmem] at hCn
            have hsn1 : Hid (qS (outN N (gl.take (n + 1))) = sSum (qS (outN N pre)) (qS (-N[j]))) := by
              show _ = _
              rw [hsn.out, outN_snoc, qS_add, Int.toNat_natCast, List.getD_eq_getElem?_getD, List.getElem?_eq_getElem hj]; rfl
            obtain ⟨bc, oc, rfl, hsN⟩ := hNs.out (by omega)
            have hjm : j < (N.map qS).length := by rw [List.length_map]; exact hj
            have m1 := (hsN.below hB.out).cx j hjm
            have m2 := (hsN.below hB.out).cy j hjm
            have m3 := (hsN.below hB.out).cf j hjm
            have m4 := (hsN.below hB.out).lt
            rw [List.getElem_map] at m1 m2 m3
            have hT := Lib.hid (qS_neg N[j])
            clear hgd hbn hRn hNs hsn hst hmem hsN
            have oK := qS_ok N[j]
            have oT := qS_ok (-N[j])
            have oS := qS_ok (outN N pre)
            generalize qS N[j] = K at *
            generalize qS (-N[j]) = T at *
            generalize qS (outN N pre) = S at *
            generalize hD : qS (outN N (gl.take (n + 1))) = D at *
            replace hD := Lib.hid hD
            have hD2 : Hid (sSum S T = D) := Lib.hid hsn1.out.symm
            clear hsn1
            obtain ⟨o0', o1', o2', of0, of1, of2, ol⟩ := ho.out
            have hFr := Lib.hid (hF'.out.below hB.out)
            go_wp2_with fail
            refine hCn.out.mono ?_; rintro e w' ⟨rfl, rfl⟩
            clear hCn
            go_upto_region 11 with fail
            refine wp_region_grow_tail 10 Tryd.mixed (by kernel_rfl) ?_
            simp only [List.take_succ_cons, List.take_zero, List.drop_succ_cons, List.drop_zero]
            repeat (quiet_step (first | (go_at_call 39; exact grow_of (turned_e K T _ oK hT)) | (go_at_call 38; exact grow_of (sum_e S T D _ (hFr.out.below (Grew.h _)) oS oT hD2))))
            refine wpQuiet_nil ?_
            intro _ hw'
            obtain ⟨x, rfl⟩ := hw'
            have hr2 := hr.out.below x.h
            have ho2 := ho.out.below x.h
            have ho2' := Lib.hid ho2
            have hB2 := Lib.hid (below_seq hB.out x.h)
            clear l1 l2 r0 r1 r2 g1 g2 m1 m2 m3 m4 o0' o1' o2' of0 of1 of2 ol
            obtain ⟨o0', o1', o2', of0, of1, of2, ol⟩ := ho2
            go_wp2
            go_roundw
            case rel => exact ⟨n + 1, by omega, by omega, by go_num, hr2.set3o (by omega) _ _ _, by rw [hD.out]; exact ho2'.out.set3 _, set3_below hB2.out (by omega)⟩
            case measure => simp [intOf]; omega
        · have hnk2 : n = kk := by
            by_cases e : n = kk
            · exact e
            · have := hgd.out (by omega); simp at this
          obtain ⟨e1, -⟩ := hbn.out hnk2
          have hR := hRn.out hnk2
          obtain rfl : E = 6 := by rw [if_pos rfl] at e1; exact e1.symm
          clear hgd hbn hRn hnk2 e1 hNs hsn hst
          obtain ⟨k0, k1, k2, kf0, kf1, kf2, kl⟩ := hr.out
          go_wp2
          have k := set3_cell (w := wr) (x := .int .i64 0) (y := .int .i64 0) (z := .bool false) k0 k1 k2
          refine bodyPost_ret (v := .tuple #[spV ⟨0, 0, false⟩, .iface 69 (.int .i64 6)]) (by simp [results, Tryd.results9, go_sem, k.1, k.2.1, k.2.2]) rfl ⟨by first | rfl | rw [hR], set3_below hB.out (Nat.le_refl _)⟩
    · obtain rfl : n = gl.length := by omega
      have hR := hR1.out (by omega)
      rw [List.take_of_length_le (Nat.le_refl _)] at ho
      clear hR0 hR1 hgood hbad hNs hGs
      replace hR := Lib.hid hR
      have hc1 := Lib.hid (hck.out _ hB.out)
      clear hck
      go_wp2_with fail
      refine hc1.out.mono ?_; rintro e w1 ⟨rfl, hb1⟩
      have hB1 := Lib.hid (below_seq hB.out hb1)
      have hr1 := Lib.hid (hr.out.below hb1)
      have ho1 := Lib.hid (ho.out.below hb1)
      clear hc1 hB hr ho hb1 hcp
      rcases hR.out with ⟨k, rfl, rfl⟩ | ⟨rfl, M, rfl, rfl⟩
      · obtain ⟨k0, k1, k2, kf0, kf1, kf2, kl⟩ := hr1.out
        go_wp2
        have kk' := set3_cell (w := w1) (x := .int .i64 0) (y := .int .i64 0) (z := .bool false) k0 k1 k2
        refine bodyPost_ret (v := .tuple #[spV ⟨0, 0, false⟩, .iface 69 (.int .i64 k)]) (by simp [results, Tryd.results9, go_sem, kk'.1, kk'.2.1, kk'.2.2]) rfl ⟨rfl, set3_below hB1.out (Nat.le_refl _)⟩
      · clear hR
        rw [List.length_map] at h1 hCl
        simp only [List.length_map]
        go_wp2
        go_loopw [73] (fun i wr => ∃ n : Nat, n ≤ M.length ∧ i = .int .i64 n ∧ SpAt wr w.heap.size ⟨0, 0, false⟩ ∧ SpAt wr (w.heap.size + 1) (qS (outN N gl + (M.take n).sum)) ∧ Below w.heap.size w wr) (fun i _ => M.length - (intOf i).toNat)
        case atStart => exact ⟨0, Nat.zero_le _, rfl, hr1.out, (by rw [List.take_zero, List.sum_nil, Int.add_zero]; exact ho1.out), hB1.out⟩
        case round =>
          clear hr1 ho1 hB1
          obtain ⟨n, hn, rfl, hr, ho, hB⟩ := hrel
          have hol := ho.lt
          have hrl := hr.lt
          replace hr := Lib.hid hr
          replace ho := Lib.hid ho
          replace hB := Lib.hid hB
          by_cases hlt : n < M.length
          · obtain ⟨b1, o1, rfl, hs0⟩ := h1.out (by omega)
            have hsL := hs0.below hB.out
            have hjm : n < (M.map qS).length := by rw [List.length_map]; exact hlt
            have l1 := hsL.cx n hjm
            have l2 := hsL.cy n hjm
            have l3 := hsL.cf n hjm
            have l4 := hsL.lt
            rw [List.getElem_map] at l1 l2 l3
            have hsn1 : Hid (qS (outN N gl + (M.take (n + 1)).sum) = sSum (qS (outN N gl + (M.take n).sum)) (qS M[n])) := by
              show _ = _
              rw [qS_add, sumB_snoc M n hlt, Int.add_assoc]
            have oA := qS_ok M[n]
            have oS := qS_ok (outN N gl + (M.take n).sum)
            clear hsL hs0
            generalize qS M[n] = A at *
            generalize qS (outN N gl + (M.take n).sum) = S at *
            generalize hD : qS (outN N gl + (M.take (n + 1)).sum) = D at *
            replace hD := Lib.hid hD
            have hD2 : Hid (sSum S A = D) := Lib.hid hsn1.out.symm
            clear hsn1
            obtain ⟨o0', o1', o2', of0, of1, of2, ol⟩ := ho.out
            go_wp2_with fail
            refine (sum_e S A D _ (hF'.out.below (balloc hB.out _)) oS oA hD2).mono ?_; rintro e w2 ⟨rfl, hb2⟩
            have hr2 := (hr.out.alloc _).below hb2
            have ho2 := (ho.out.alloc _).below hb2
            have ho2' := Lib.hid ho2
            have hB2 := Lib.hid (below_seq (balloc hB.out _) hb2)
            clear l1 l2 l3 l4 o0' o1' o2' of0 of1 of2 ol hb2
            obtain ⟨o0', o1', o2', of0, of1, of2, ol⟩ := ho2
            go_wp2
            go_roundw
            case rel => exact ⟨n + 1, by omega, by go_num, hr2.set3o (by omega) _ _ _, by rw [hD.out]; exact ho2'.out.set3 _, set3_below hB2.out (by omega)⟩
            case measure => simp [intOf]; omega
          · have hne2 : n = M.length := by omega
            rw [hne2, List.take_of_length_le (Nat.le_refl _)] at ho
            obtain ⟨k0, k1, k2, kf0, kf1, kf2, kl⟩ := hr.out
            obtain ⟨o0', o1', o2', of0, of1, of2, ol⟩ := ho.out
            generalize hDe : qS (outN N gl + M.sum) = D at *
            replace hDe := Lib.hid hDe
            go_wp2
            have kk' := set3_cell (w := wr) (x := .int .i64 D.x) (y := .int .i64 D.y) (z := .bool D.far) k0 k1 k2
            refine bodyPost_ret (v := .tuple #[spV D, .nilIface]) (by simp [results, Tryd.results9, go_sem, kk'.1, kk'.2.1, kk'.2.2]) rfl ⟨by rw [hDe.out], set3_below hB.out (Nat.le_refl _)⟩
end Go.Proofs.YtebomakihdjllaaDoor
namespace Go.Proofs.YtebomakihdjllaaDoor
/-- Of two lists the sum of the products. -/
def dot : List Int → List Int → Int
  | u :: us, c :: cs => u * c + dot us cs
  | _, _ => 0
theorem dot_nil (cs : List Int) : dot [] cs = 0 := by cases cs <;> rfl
theorem dot_snoc : ∀ (us cs : List Int) (n : Nat) (h1 : n < us.length) (h2 : n < cs.length), dot (us.take (n + 1)) cs = dot (us.take n) cs + us[n] * cs[n]
  | [], _, _, h, _ => absurd h (Nat.not_lt_zero _)
  | _ :: _, [], _, _, h => absurd h (Nat.not_lt_zero _)
  | u :: us, c :: cs, 0, _, _ => by simp [dot, dot_nil]
  | u :: us, c :: cs, n + 1, h1, h2 => by
    have := dot_snoc us cs n (by simpa using h1) (by simpa using h2)
    simp only [List.take_succ_cons, dot, List.getElem_cons_succ] at this ⊢
    omega
theorem dot_four : ∀ us cs : List Int, dot (us.map (4 * ·)) cs = 4 * dot us cs
  | [], cs => by simp [dot_nil]
  | _ :: _, [] => by simp [dot]
  | u :: us, c :: cs => by simp only [List.map_cons, dot, dot_four us cs, Int.mul_add, Int.mul_assoc]
/-- The number of each key. -/
def cfs (l : List Sp) : List Int := l.map fun k => hnum (lsB l.length l ++ sBytes k).data.toList
theorem cfs_len (l : List Sp) : (cfs l).length = l.length := by simp [cfs]
theorem cfs_bd (l : List Sp) (i : Nat) (h : i < (cfs l).length) : 0 ≤ (cfs l)[i] ∧ (cfs l)[i] < 1013 := by simp only [cfs, List.getElem_map]; exact hnum_bd _
theorem cfs_get (l : List Sp) (i : Nat) (h : i < l.length) : (cfs l)[i]'(by rw [cfs_len]; exact h) = hnum (lsB l.length l ++ sBytes l[i]).data.toList := by simp only [cfs, List.getElem_map]
/-- Is it a number to sign with. -/
def okB (n : Int) : Bool := decide (1 ≤ n ∧ n < 1013)
/-- What is wrong with those that sign; 0: nothing. -/
def groupF (xs ks : List Int) (n : Nat) : Int := if 12 < xs.length then 4 else if xs.length ≠ ks.length then 3 else if xs.all okB && ks.all okB then (if 60 < n then 4 else 0) else 1
theorem all_at {l : List Int} (h : ∀ i (h : i < l.length), okB l[i] = true) : l.all okB = true := by
  rw [List.all_eq_true]
  intro x hx
  obtain ⟨i, hi, rfl⟩ := List.mem_iff_getElem.mp hx
  exact h i hi
theorem not_all {l : List Int} {i : Nat} (h : i < l.length) (hb : okB l[i] = false) : l.all okB = false := by
  rw [List.all_eq_false]
  exact ⟨l[i], List.getElem_mem h, by rw [hb]; decide⟩
theorem all_get {l : List Int} (h : l.all okB = true) (i : Nat) (hi : i < l.length) : okB l[i] = true := List.all_eq_true.mp h _ (List.getElem_mem hi)
theorem sum_snoc : ∀ (l : List Int) (n : Nat) (h : n < l.length), (l.take (n + 1)).sum = (l.take n).sum + l[n]
  | [], _, h => absurd h (Nat.not_lt_zero _)
  | a :: l, 0, _ => by simp
  | a :: l, n + 1, h => by
    have := sum_snoc l n (by simpa using h)
    simp only [List.take_succ_cons, List.sum_cons, List.getElem_cons_succ] at this ⊢
    omega
theorem sum_bd (l : List Int) (h : ∀ i (h : i < l.length), 1 ≤ l[i] ∧ l[i] < 1013) : ∀ n, n ≤ l.length → 0 ≤ (l.take n).sum ∧ (l.take n).sum ≤ 1012 * n
  | 0, _ => by simp
  | n + 1, hn => by
    have := sum_bd l h n (by omega)
    have := h n (by omega)
    rw [sum_snoc l n (by omega)]
    omega
theorem turn_step (s a c x : Int) : (s + a * c % 1013 * x) % 1013 = (s + a * (x * c)) % 1013 := by
  rw [Int.add_emod, Int.mul_emod (a * c % 1013) x, Int.emod_emod, ← Int.mul_emod, ← Int.add_emod, Int.mul_assoc, Int.mul_comm c x]
/-- One round more of the sum. -/
theorem turn_go {s K a D x c : Int} (h : s % 1013 = (K + a * D) % 1013) : (s + a * c % 1013 * x) % 1013 = (K + a * (D + x * c)) % 1013 := by
  rw [turn_step, Int.mul_add]
  omega
end Go.Proofs.YtebomakihdjllaaDoor
namespace Go.Proofs.YtebomakihdjllaaDoor
open Go.RowKit
set_option maxRecDepth 100000
set_option linter.unusedVariables false
set_option linter.unusedSimpArgs false
theorem okB_y {n : Int} (h : okB n = true) : 1 ≤ n ∧ n < 1013 := of_decide_eq_true h
theorem okB_n {n : Int} (h : okB n = false) : ¬ (1 ≤ n ∧ n < 1013) := of_decide_eq_false h
theorem list_sl (l : List Sp) (v : Value) (w : World) (hF : FarAt w) (hl : l.length ≤ 12) (hs : SpSl w v l) (hok : ∀ z ∈ l, Ok z) :
    Calls Tryd.prog 46 #[v] w fun e w' => e = .returned (.tuple #[.string (lsB l.length l), .nilIface]) ∧ Below w.heap.size w w' := by
  obtain ⟨a, cap, rfl, hs⟩ := hs
  cases l with
  | nil => exact list_zero a cap w
  | cons s l =>
    obtain ⟨b, off, rfl, hs'⟩ := hs (Nat.succ_pos _)
    exact list_ok (s :: l) b off cap w hF hl hs' (fun i h => hok _ (List.getElem_mem h))
theorem hashNumber_n (s : ByteArray) (n : Int) (w : World) (hs : s.size ≤ 9223372036854775807) (h : Hid (hnum s.data.toList = n)) : Calls Tryd.prog 47 #[.string s] w fun e w' => e = .returned (.int .i64 n) ∧ Below w.heap.size w w' := by
  rw [← h.out]; exact hashNumber_c s w hs
end Go.Proofs.YtebomakihdjllaaDoor
namespace Go.Proofs.YtebomakihdjllaaDoor
open Go.RowKit
set_option maxRecDepth 100000
set_option linter.unusedVariables false
set_option linter.unusedSimpArgs false
/-- The second base is four times so many. -/
def hJn : Nat := ((List.range 1013).find? fun (j : Nat) => Sp.beq (hSpot [115, 101, 99, 111, 110, 100]) (sq (4 * (j : Int)))).getD 0
def hJ : Int := hJn
theorem hJ_spec : 1 ≤ hJ ∧ hJ < 1013 ∧ hSpot [115, 101, 99, 111, 110, 100] = sq (4 * hJ) := by
  obtain ⟨j, j0, j1, e⟩ := hSpot_four [115, 101, 99, 111, 110, 100]
  have key : hJn < 1013 ∧ hSpot [115, 101, 99, 111, 110, 100] = sq (4 * (hJn : Int)) := by
    unfold hJn
    cases hf : (List.range 1013).find? fun (j : Nat) => Sp.beq (hSpot [115, 101, 99, 111, 110, 100]) (sq (4 * (j : Int))) with
    | none =>
      exfalso
      have := List.find?_eq_none.mp hf j.toNat (List.mem_range.mpr (by omega))
      rw [e, show ((j.toNat : Nat) : Int) = j by omega] at this
      exact this (Sp.beq_refl _)
    | some n =>
      have h1 := List.find?_some hf
      have h2 := List.mem_range.mp (List.mem_of_find?_eq_some hf)
      exact ⟨h2, Sp.beq_iff.mp h1⟩
  refine ⟨?_, by unfold hJ; omega, key.2⟩
  have h := key.2
  rw [e] at h
  have := sq_eq_iff.mp h
  unfold hJ; omega
attribute [irreducible] hJn
set_option maxHeartbeats 1000000 in
theorem second_c (w : World) (hF : FarAt w) : Calls Tryd.prog 42 #[] w fun e w' => e = .returned (spV (sq (4 * hJ))) ∧ Below w.heap.size w w' := by
  go_enter Tryd.func42, Tryd.ntmps42
  go_wp2_with fail
  refine (hashSpot_c ⟨#[115, 101, 99, 111, 110, 100]⟩ _ (hF.below (by repeat (first | exact Below.refl _ _ | refine balloc ?_ _ | refine Below.drew ?_ | refine below_drewN ?_ _ | refine below_set ?_ (by first | omega | (dsimp only; omega)) _))) (by show 6 ≤ _; omega)).mono ?_; rintro e w1 ⟨rfl, hb⟩
  rw [show hSpot (⟨#[115, 101, 99, 111, 110, 100]⟩ : ByteArray).data.toList = sq (4 * hJ) from hJ_spec.2.2]
  obtain ⟨hc1, hf1⟩ := bcell hb
  have z1 := hb.size
  try simp only [World.size_alloc, World.size_setCell, World.size_drew] at z1
  have s1_0 : w.heap.size < w1.heap.size := by omega
  have hB1 : Below w.heap.size w w1 := below_seq (by repeat (first | exact Below.refl _ _ | refine balloc ?_ _ | refine Below.drew ?_ | refine below_drewN ?_ _ | refine below_set ?_ (by first | omega | (dsimp only; omega)) _)) hb
  clear hb
  have r0 : w1.cell? ⟨w.heap.size, 0, none⟩ = some (.int .i64 0) := by go_simp
  have r1 : w1.cell? ⟨w.heap.size, 1, none⟩ = some (.int .i64 0) := by go_simp
  have r2 : w1.cell? ⟨w.heap.size, 2, none⟩ = some (.bool false) := by go_simp
  go_wp2
  have k := set3_cell (w := w1) (x := .int .i64 (sq (4 * hJ)).x) (y := .int .i64 (sq (4 * hJ)).y) (z := .bool (sq (4 * hJ)).far) r0 r1 r2
  refine bodyPost_ret (v := spV (sq (4 * hJ))) (by simp [results, Tryd.results42, go_sem, k.1, k.2.1, k.2.2]) rfl ⟨rfl, set3_below (by repeat (first | exact hB1 | exact Below.refl _ _ | refine balloc ?_ _ | refine Below.drew ?_ | refine below_drewN ?_ _ | refine below_set ?_ (by first | omega | (dsimp only; omega)) _)) (by omega)⟩
set_option maxHeartbeats 1000000 in
theorem hideOf_c (v r : Int) (w : World) (hF : FarAt w) : Calls Tryd.prog 33 #[.int .i64 v, .int .i64 r] w fun e w' => e = .returned (spV (sq (4 * v + 4 * hJ * r))) ∧ Below w.heap.size w w' := by
  have hs := Lib.hid (sq_add (4 * v) (4 * hJ * r))
  go_enter Tryd.func33, Tryd.ntmps33
  go_wp2_with fail
  refine (by_c v _ (hF.below (by repeat (first | exact Below.refl _ _ | refine balloc ?_ _ | refine Below.drew ?_ | refine below_drewN ?_ _ | refine below_set ?_ (by first | omega | (dsimp only; omega)) _)))).mono ?_; rintro e w1 ⟨rfl, hb⟩
  obtain ⟨hc1, hf1⟩ := bcell hb
  have z1 := hb.size
  try simp only [World.size_alloc, World.size_setCell, World.size_drew] at z1
  have s1_0 : w.heap.size < w1.heap.size := by omega
  have hB1 : Below w.heap.size w w1 := below_seq (by repeat (first | exact Below.refl _ _ | refine balloc ?_ _ | refine Below.drew ?_ | refine below_drewN ?_ _ | refine below_set ?_ (by first | omega | (dsimp only; omega)) _)) hb
  clear hb
  go_wp2_with fail
  refine (second_c _ (hF.below (by repeat (first | exact hB1 | exact Below.refl _ _ | refine balloc ?_ _ | refine Below.drew ?_ | refine below_drewN ?_ _ | refine below_set ?_ (by first | omega | (dsimp only; omega)) _)))).mono ?_; rintro e w2 ⟨rfl, hb⟩
  obtain ⟨hc2, hf2⟩ := bcell hb
  have z2 := hb.size
  try simp only [World.size_alloc, World.size_setCell, World.size_drew] at z2
  have s2_0 : w.heap.size < w2.heap.size := by omega
  have hB2 : Below w.heap.size w w2 := below_seq (by repeat (first | exact hB1 | exact Below.refl _ _ | refine balloc ?_ _ | refine Below.drew ?_ | refine below_drewN ?_ _ | refine below_set ?_ (by first | omega | (dsimp only; omega)) _)) hb
  clear hb
  go_wp2_with fail
  refine (timesOf_c (4 * hJ) r _ (hF.below (by repeat (first | exact hB2 | exact Below.refl _ _ | refine balloc ?_ _ | refine Below.drew ?_ | refine below_drewN ?_ _ | refine below_set ?_ (by first | omega | (dsimp only; omega)) _)))).mono ?_; rintro e w3 ⟨rfl, hb⟩
  obtain ⟨hc3, hf3⟩ := bcell hb
  have z3 := hb.size
  try simp only [World.size_alloc, World.size_setCell, World.size_drew] at z3
  have s3_0 : w.heap.size < w3.heap.size := by omega
  have hB3 : Below w.heap.size w w3 := below_seq (by repeat (first | exact hB2 | exact Below.refl _ _ | refine balloc ?_ _ | refine Below.drew ?_ | refine below_drewN ?_ _ | refine below_set ?_ (by first | omega | (dsimp only; omega)) _)) hb
  clear hb
  go_wp2_with fail
  refine (sum_e _ _ _ _ (hF.below (by repeat (first | exact hB3 | exact Below.refl _ _ | refine balloc ?_ _ | refine Below.drew ?_ | refine below_drewN ?_ _ | refine below_set ?_ (by first | omega | (dsimp only; omega)) _))) (sq_ok _) (sq_ok _) hs).mono ?_; rintro e w4 ⟨rfl, hb⟩
  obtain ⟨hc4, hf4⟩ := bcell hb
  have z4 := hb.size
  try simp only [World.size_alloc, World.size_setCell, World.size_drew] at z4
  have s4_0 : w.heap.size < w4.heap.size := by omega
  have hB4 : Below w.heap.size w w4 := below_seq (by repeat (first | exact hB3 | exact Below.refl _ _ | refine balloc ?_ _ | refine Below.drew ?_ | refine below_drewN ?_ _ | refine below_set ?_ (by first | omega | (dsimp only; omega)) _)) hb
  clear hb
  have r0 : w4.cell? ⟨w.heap.size, 0, none⟩ = some (.int .i64 0) := by go_simp
  have r1 : w4.cell? ⟨w.heap.size, 1, none⟩ = some (.int .i64 0) := by go_simp
  have r2 : w4.cell? ⟨w.heap.size, 2, none⟩ = some (.bool false) := by go_simp
  go_wp2
  have k := set3_cell (w := w4) (x := .int .i64 (sq (4 * v + 4 * hJ * r)).x) (y := .int .i64 (sq (4 * v + 4 * hJ * r)).y) (z := .bool (sq (4 * v + 4 * hJ * r)).far) r0 r1 r2
  refine bodyPost_ret (v := spV (sq (4 * v + 4 * hJ * r))) (by simp [results, Tryd.results33, go_sem, k.1, k.2.1, k.2.2]) rfl ⟨rfl, set3_below (by repeat (first | exact hB4 | exact Below.refl _ _ | refine balloc ?_ _ | refine Below.drew ?_ | refine below_drewN ?_ _ | refine below_set ?_ (by first | omega | (dsimp only; omega)) _)) (by omega)⟩
set_option maxHeartbeats 1000000 in
theorem hide_y (v r : Int) (C : Sp) (w : World) (hF : FarAt w) (v0 : 0 ≤ v) (v1 : v < 1013) (r0 : 0 ≤ r) (r1 : r < 1013) (hC : Hid (sq (4 * v + 4 * hJ * r) = C)) : Calls Tryd.prog 6 #[.int .i64 v, .int .i64 r] w fun e w' => e = .returned (.tuple #[spV C, .nilIface]) ∧ Below w.heap.size w w' := by
  go_enter Tryd.func6, Tryd.ntmps6
  go_wp2_with fail
  refine (rest_y v _ v0 v1).mono ?_; rintro e w' ⟨rfl, rfl⟩
  go_wp2_with fail
  refine (rest_y r _ r0 r1).mono ?_; rintro e w' ⟨rfl, rfl⟩
  clear r0 r1 v0 v1
  go_wp2_with fail
  refine (hideOf_c v r _ (hF.below (by repeat (first | exact Below.refl _ _ | refine balloc ?_ _ | refine Below.drew ?_ | refine below_drewN ?_ _ | refine below_set ?_ (by first | omega | (dsimp only; omega)) _)))).mono ?_; rintro e w1 ⟨rfl, hb⟩
  rw [hC.out]
  obtain ⟨hc1, hf1⟩ := bcell hb
  have z1 := hb.size
  try simp only [World.size_alloc, World.size_setCell, World.size_drew] at z1
  have s1_0 : w.heap.size < w1.heap.size := by omega
  have hB1 : Below w.heap.size w w1 := below_seq (by repeat (first | exact Below.refl _ _ | refine balloc ?_ _ | refine Below.drew ?_ | refine below_drewN ?_ _ | refine below_set ?_ (by first | omega | (dsimp only; omega)) _)) hb
  clear hb
  have r0 : w1.cell? ⟨w.heap.size, 0, none⟩ = some (.int .i64 0) := by go_simp
  have r1 : w1.cell? ⟨w.heap.size, 1, none⟩ = some (.int .i64 0) := by go_simp
  have r2 : w1.cell? ⟨w.heap.size, 2, none⟩ = some (.bool false) := by go_simp
  go_wp2
  have k := set3_cell (w := w1) (x := .int .i64 (C).x) (y := .int .i64 (C).y) (z := .bool (C).far) r0 r1 r2
  refine bodyPost_ret (v := .tuple #[spV (C), .nilIface]) (by simp [results, Tryd.results6, go_sem, k.1, k.2.1, k.2.2]) rfl ⟨rfl, set3_below (by repeat (first | exact hB1 | exact Below.refl _ _ | refine balloc ?_ _ | refine Below.drew ?_ | refine below_drewN ?_ _ | refine below_set ?_ (by first | omega | (dsimp only; omega)) _)) (by omega)⟩
set_option maxHeartbeats 1000000 in
theorem hide_n1 (v r : Int) (w : World) (h : ¬ (0 ≤ v ∧ v < 1013)) : Calls Tryd.prog 6 #[.int .i64 v, .int .i64 r] w fun e w' => e = .returned (.tuple #[spV ⟨0, 0, false⟩, .iface 69 (.int .i64 1)]) ∧ Below w.heap.size w w' := by
  go_enter Tryd.func6, Tryd.ntmps6
  go_wp2_with fail
  refine (rest_n v _ h).mono ?_; rintro e w' ⟨rfl, rfl⟩
  go_wp2
  refine bodyPost_ret (v := .tuple #[spV ⟨0, 0, false⟩, .iface 69 (.int .i64 1)]) (by simp [results, Tryd.results6, go_sem]) rfl ⟨rfl, (by repeat (first | exact Below.refl _ _ | refine balloc ?_ _ | refine Below.drew ?_ | refine below_drewN ?_ _ | refine below_set ?_ (by first | omega | (dsimp only; omega)) _))⟩
set_option maxHeartbeats 1000000 in
theorem hide_n2 (v r : Int) (w : World) (v0 : 0 ≤ v) (v1 : v < 1013) (h : ¬ (0 ≤ r ∧ r < 1013)) : Calls Tryd.prog 6 #[.int .i64 v, .int .i64 r] w fun e w' => e = .returned (.tuple #[spV ⟨0, 0, false⟩, .iface 69 (.int .i64 1)]) ∧ Below w.heap.size w w' := by
  go_enter Tryd.func6, Tryd.ntmps6
  go_wp2_with fail
  refine (rest_y v _ v0 v1).mono ?_; rintro e w' ⟨rfl, rfl⟩
  go_wp2_with fail
  refine (rest_n r _ h).mono ?_; rintro e w' ⟨rfl, rfl⟩
  go_wp2
  refine bodyPost_ret (v := .tuple #[spV ⟨0, 0, false⟩, .iface 69 (.int .i64 1)]) (by simp [results, Tryd.results6, go_sem]) rfl ⟨rfl, (by repeat (first | exact Below.refl _ _ | refine balloc ?_ _ | refine Below.drew ?_ | refine below_drewN ?_ _ | refine below_set ?_ (by first | omega | (dsimp only; omega)) _))⟩
theorem hide_n (v r : Int) (w : World) (h : ¬ (0 ≤ v ∧ v < 1013 ∧ 0 ≤ r ∧ r < 1013)) : Calls Tryd.prog 6 #[.int .i64 v, .int .i64 r] w fun e w' => e = .returned (.tuple #[spV ⟨0, 0, false⟩, .iface 69 (.int .i64 1)]) ∧ Below w.heap.size w w' := by
  by_cases hv : 0 ≤ v ∧ v < 1013
  · exact hide_n2 v r w hv.1 hv.2 (by omega)
  · exact hide_n1 v r w hv
end Go.Proofs.YtebomakihdjllaaDoor
namespace Go.Proofs.YtebomakihdjllaaDoor
open Go.RowKit
set_option maxRecDepth 100000
set_option linter.unusedVariables false
set_option linter.unusedSimpArgs false
@[go_sem] theorem field_far4 (x y : Value) (f : Bool) (w : World) : Sem.run Tryd.prog (Instr.field 23 (.agg #[x, y, .bool f]) 2) w = .ok (.bool f) w := by kernel_rfl
end Go.Proofs.YtebomakihdjllaaDoor
namespace Go.Proofs.YtebomakihdjllaaDoor
open Go.RowKit
set_option maxRecDepth 100000
set_option linter.unusedVariables false
set_option linter.unusedSimpArgs false
theorem mul_q {c x : Int} (c0 : 0 ≤ c) (c1 : c < 1013) (x0 : 1 ≤ x) (x1 : x < 1013) : 0 ≤ c * x ∧ c * x ≤ 1024144 := by
  refine ⟨Int.mul_nonneg c0 (by omega), ?_⟩
  have : c * x ≤ 1012 * 1012 := Int.mul_le_mul (by omega) (by omega) (by omega) (by decide)
  omega
theorem tmod_q (n : Int) : -1012 ≤ n.tmod 1013 ∧ n.tmod 1013 ≤ 1012 := by
  have h1 := Int.tmod_lt_of_pos n (b := 1013) (by decide)
  have h2 := Int.lt_tmod_of_pos n (b := 1013) (by decide)
  omega
theorem tmod_qe (n : Int) : n.tmod 1013 % 1013 = n % 1013 := by
  have := Int.mul_tdiv_add_tmod n 1013; omega
set_option maxHeartbeats 1000000 in
theorem refMod_q (n : Int) (w : World) (n0 : -9223372036854775808 ≤ n) (n1 : n ≤ 9223372036854775807) : Calls Tryd.prog 11 #[.int .i64 n, .int .i64 1013] w fun e w' => e = .returned (.int .i64 (n % 1013)) ∧ w = w' := by
  have hb := tmod_q n
  obtain ⟨hb1, hb2⟩ := hb
  have he := Lib.hid (tmod_qe n)
  by_cases h : n.tmod 1013 < 0
  · go_enter Tryd.func11, Tryd.ntmps11
    go_wp2
    go_ret
    exact ⟨ret_int (by have := he.out; omega), rfl⟩
  · go_enter Tryd.func11, Tryd.ntmps11
    go_wp2
    go_ret
    exact ⟨ret_int (by have := he.out; omega), rfl⟩
end Go.Proofs.YtebomakihdjllaaDoor
namespace Go.Proofs.YtebomakihdjllaaDoor
open Go.RowKit
set_option maxRecDepth 100000
set_option linter.unusedVariables false
set_option linter.unusedSimpArgs false
theorem SpAt.zero_of {w : World} {b : Nat} (h0 : w.cell? ⟨b, 0, none⟩ = some (.int .i64 0)) (h1 : w.cell? ⟨b, 1, none⟩ = some (.int .i64 0)) (h2 : w.cell? ⟨b, 2, none⟩ = some (.bool false)) (f0 : w.frozen? ⟨b, 0, none⟩ = false) (f1 : w.frozen? ⟨b, 1, none⟩ = false) (f2 : w.frozen? ⟨b, 2, none⟩ = false) (hl : b < w.heap.size) : SpAt w b ⟨0, 0, false⟩ := ⟨h0, h1, h2, f0, f1, f2, hl⟩
end Go.Proofs.YtebomakihdjllaaDoor
namespace Go.Proofs.YtebomakihdjllaaDoor
open Go.RowKit
set_option maxRecDepth 100000
set_option linter.unusedVariables false
set_option linter.unusedSimpArgs false
theorem hav_ {P Q : Prop} (h : P) (k : P → Q) : Q := k h
end Go.Proofs.YtebomakihdjllaaDoor
namespace Go.Proofs.YtebomakihdjllaaDoor
open Go.RowKit
set_option maxRecDepth 100000
set_option linter.unusedVariables false
set_option linter.unusedSimpArgs false
def flatS : List Sp → List Value
  | [] => []
  | s :: l => .int .i64 s.x :: .int .i64 s.y :: .bool s.far :: flatS l
theorem flatS_at : ∀ (l : List Sp) (i : Nat) (h : i < l.length), (flatS l)[i * 3]? = some (.int .i64 l[i].x) ∧ (flatS l)[i * 3 + 1]? = some (.int .i64 l[i].y) ∧ (flatS l)[i * 3 + 2]? = some (.bool l[i].far)
  | [], i, h => absurd h (by simp)
  | s :: l, 0, _ => ⟨rfl, rfl, rfl⟩
  | s :: l, i+1, h => by
    have := flatS_at l i (by simpa using h)
    rw [Nat.succ_mul]
    exact this
theorem spots_fresh (w : World) (l : List Sp) (t : TypeId) : SpotsAt (w.alloc (.cells (flatS l).toArray t)) w.heap.size 0 l := by
  have c : ∀ k, (w.alloc (.cells (flatS l).toArray t)).cell? ⟨w.heap.size, k, none⟩ = (flatS l)[k]? := fun k => by rw [World.cell?_alloc_at _ _ _ _ (by simp)]; simp
  refine ⟨by simp, fun i h => ?_, fun i h => ?_, fun i h => ?_⟩
  · rw [Nat.zero_add, c]; exact (flatS_at l i h).1
  · rw [Nat.zero_add, c]; exact (flatS_at l i h).2.1
  · rw [Nat.zero_add, c]; exact (flatS_at l i h).2.2
theorem spots_at (w : World) (l : List Sp) (k : Nat) (cs : Array Value) (t : TypeId) (hk : k = w.heap.size) (hc : cs = (flatS l).toArray) : SpotsAt (w.alloc (.cells cs t)) k 0 l := by
  subst hk hc; exact spots_fresh w l t
theorem ok_all {l : List Sp} (h : ∀ s ∈ l, Ok s) : ∀ i (hi : i < l.length), Ok l[i] := fun i hi => h _ (List.getElem_mem hi)
/-- The challenge of five spots. -/
def ask5 (l : List Sp) : Int := hnum (lsB 5 l).data.toList
theorem ask5_bd (l : List Sp) : 0 ≤ ask5 l ∧ ask5 l < 1013 := hnum_bd _
end Go.Proofs.YtebomakihdjllaaDoor
namespace Go.Proofs.YtebomakihdjllaaDoor
open Go.RowKit
set_option maxRecDepth 100000
set_option linter.unusedVariables false
set_option linter.unusedSimpArgs false
set_option maxHeartbeats 1000000 in
theorem refSpot_x0 (x y : Int) (f : Bool) (w : World) (h : x < 0) : Calls Tryd.prog 16 #[.agg #[.int .i64 x, .int .i64 y, .bool f]] w fun e w' => e = .returned (.int .i64 1) ∧ Below w.heap.size w w' := by
  go_enter Tryd.func16, Tryd.ntmps16
  go_wp2
  go_ret
  exact ⟨rfl, (by repeat (first | exact Below.refl _ _ | refine balloc ?_ _ | refine Below.drew ?_ | refine below_drewN ?_ _ | refine below_set ?_ (by first | omega | (dsimp only; omega)) _))⟩
set_option maxHeartbeats 1000000 in
theorem refSpot_x1 (x y : Int) (f : Bool) (w : World) (h0 : 0 ≤ x) (h : 4051 ≤ x) : Calls Tryd.prog 16 #[.agg #[.int .i64 x, .int .i64 y, .bool f]] w fun e w' => e = .returned (.int .i64 1) ∧ Below w.heap.size w w' := by
  go_enter Tryd.func16, Tryd.ntmps16
  go_wp2
  go_ret
  exact ⟨rfl, (by repeat (first | exact Below.refl _ _ | refine balloc ?_ _ | refine Below.drew ?_ | refine below_drewN ?_ _ | refine below_set ?_ (by first | omega | (dsimp only; omega)) _))⟩
set_option maxHeartbeats 1000000 in
theorem refSpot_y0 (x y : Int) (f : Bool) (w : World) (h0 : 0 ≤ x) (h : x < 4051) (k : y < 0) : Calls Tryd.prog 16 #[.agg #[.int .i64 x, .int .i64 y, .bool f]] w fun e w' => e = .returned (.int .i64 1) ∧ Below w.heap.size w w' := by
  go_enter Tryd.func16, Tryd.ntmps16
  go_wp2
  go_ret
  exact ⟨rfl, (by repeat (first | exact Below.refl _ _ | refine balloc ?_ _ | refine Below.drew ?_ | refine below_drewN ?_ _ | refine below_set ?_ (by first | omega | (dsimp only; omega)) _))⟩
set_option maxHeartbeats 1000000 in
theorem refSpot_y1 (x y : Int) (f : Bool) (w : World) (h0 : 0 ≤ x) (h : x < 4051) (k0 : 0 ≤ y) (k : 4051 ≤ y) : Calls Tryd.prog 16 #[.agg #[.int .i64 x, .int .i64 y, .bool f]] w fun e w' => e = .returned (.int .i64 1) ∧ Below w.heap.size w w' := by
  go_enter Tryd.func16, Tryd.ntmps16
  go_wp2
  go_ret
  exact ⟨rfl, (by repeat (first | exact Below.refl _ _ | refine balloc ?_ _ | refine Below.drew ?_ | refine below_drewN ?_ _ | refine below_set ?_ (by first | omega | (dsimp only; omega)) _))⟩
set_option maxHeartbeats 1000000 in
theorem refSpot_f1 (x y : Int) (w : World) (h0 : 0 ≤ x) (h : x < 4051) (k0 : 0 ≤ y) (k : y < 4051) (hx : (x != 0) = true) : Calls Tryd.prog 16 #[.agg #[.int .i64 x, .int .i64 y, .bool true]] w fun e w' => e = .returned (.int .i64 1) ∧ Below w.heap.size w w' := by
  go_enter Tryd.func16, Tryd.ntmps16
  go_wp2
  go_ret
  exact ⟨rfl, (by repeat (first | exact Below.refl _ _ | refine balloc ?_ _ | refine Below.drew ?_ | refine below_drewN ?_ _ | refine below_set ?_ (by first | omega | (dsimp only; omega)) _))⟩
set_option maxHeartbeats 1000000 in
theorem refSpot_f2 (x y : Int) (w : World) (h0 : 0 ≤ x) (h : x < 4051) (k0 : 0 ≤ y) (k : y < 4051) (hx : (x != 0) = false) (hy : (y != 0) = true) : Calls Tryd.prog 16 #[.agg #[.int .i64 x, .int .i64 y, .bool true]] w fun e w' => e = .returned (.int .i64 1) ∧ Below w.heap.size w w' := by
  go_enter Tryd.func16, Tryd.ntmps16
  go_wp2
  go_ret
  exact ⟨rfl, (by repeat (first | exact Below.refl _ _ | refine balloc ?_ _ | refine Below.drew ?_ | refine below_drewN ?_ _ | refine below_set ?_ (by first | omega | (dsimp only; omega)) _))⟩
set_option maxHeartbeats 1000000 in
theorem refSpot_f3 (w : World) : Calls Tryd.prog 16 #[.agg #[.int .i64 0, .int .i64 0, .bool true]] w fun e w' => e = .returned (.int .i64 0) ∧ Below w.heap.size w w' := by
  go_enter Tryd.func16, Tryd.ntmps16
  go_wp2
  go_ret
  exact ⟨rfl, (by repeat (first | exact Below.refl _ _ | refine balloc ?_ _ | refine Below.drew ?_ | refine below_drewN ?_ _ | refine below_set ?_ (by first | omega | (dsimp only; omega)) _))⟩
set_option maxHeartbeats 1000000 in
theorem refSpot_n0 (x y H : Int) (w : World) (h0 : 0 ≤ x) (h : x < 4051) (k0 : 0 ≤ y) (k : y < 4051) (p0 : 0 ≤ y * y) (p1 : y * y ≤ 16402500) (q0 : 0 ≤ x * x) (q1 : x * x ≤ 16402500) (r0 : 0 ≤ x * x % 4051 * x) (r1 : x * x % 4051 * x ≤ 16402500) (hq : (y * y % 4051 != (x * x % 4051 * x + x) % 4051) = false) : Calls Tryd.prog 16 #[.agg #[.int .i64 x, .int .i64 y, .bool false]] w fun e w' => e = .returned (.int .i64 0) ∧ Below w.heap.size w w' := by
  go_enter Tryd.func16, Tryd.ntmps16
  go_wp2
  go_ret
  exact ⟨rfl, (by repeat (first | exact Below.refl _ _ | refine balloc ?_ _ | refine Below.drew ?_ | refine below_drewN ?_ _ | refine below_set ?_ (by first | omega | (dsimp only; omega)) _))⟩
set_option maxHeartbeats 1000000 in
theorem refSpot_n3 (x y H : Int) (w : World) (h0 : 0 ≤ x) (h : x < 4051) (k0 : 0 ≤ y) (k : y < 4051) (p0 : 0 ≤ y * y) (p1 : y * y ≤ 16402500) (q0 : 0 ≤ x * x) (q1 : x * x ≤ 16402500) (r0 : 0 ≤ x * x % 4051 * x) (r1 : x * x % 4051 * x ≤ 16402500) (hq : (y * y % 4051 != (x * x % 4051 * x + x) % 4051) = true) : Calls Tryd.prog 16 #[.agg #[.int .i64 x, .int .i64 y, .bool false]] w fun e w' => e = .returned (.int .i64 3) ∧ Below w.heap.size w w' := by
  go_enter Tryd.func16, Tryd.ntmps16
  go_wp2
  go_ret
  exact ⟨rfl, (by repeat (first | exact Below.refl _ _ | refine balloc ?_ _ | refine Below.drew ?_ | refine below_drewN ?_ _ | refine below_set ?_ (by first | omega | (dsimp only; omega)) _))⟩
theorem ins_no {x : Int} (h : ¬ (0 ≤ x ∧ x < 4051)) : inside x = false := by
  cases e : inside x
  · rfl
  · exact absurd (ins_iff.mp e) h
theorem refSpot_c (s : Sp) (w : World) : Calls Tryd.prog 16 #[spV s] w fun e w' => e = .returned (.int .i64 (sCheck s)) ∧ Below w.heap.size w w' := by
  obtain ⟨x, y, f⟩ := s
  by_cases hx : 0 ≤ x ∧ x < 4051
  case neg =>
    have e : sCheck ⟨x, y, f⟩ = 1 := by unfold sCheck; rw [if_pos]; simp [ins_no hx]
    rw [e]
    by_cases c : x < 0
    · exact refSpot_x0 x y f w c
    · exact refSpot_x1 x y f w (by omega) (by omega)
  by_cases hy : 0 ≤ y ∧ y < 4051
  case neg =>
    have e : sCheck ⟨x, y, f⟩ = 1 := by unfold sCheck; rw [if_pos]; simp [ins_no hy]
    rw [e]
    by_cases c : y < 0
    · exact refSpot_y0 x y f w hx.1 hx.2 c
    · exact refSpot_y1 x y f w hx.1 hx.2 (by omega) (by omega)
  have ix := ins_iff.mpr hx
  have iy := ins_iff.mpr hy
  cases f
  · have b := lift_bd hx.1 hx.2
    have by' := sq_bd hy.1 hy.2
    have eh : (x * x % 4051 * x + x) % 4051 = height x := by rw [← height_ref, Int.emod_emod_of_dvd _ (Int.dvd_refl _)]
    by_cases c : pMul y y = height x
    · have e : sCheck ⟨x, y, false⟩ = 0 := by unfold sCheck; simp [ix, iy, c]
      rw [e]
      exact refSpot_n0 x y 0 w hx.1 hx.2 hy.1 hy.2 by'.1 by'.2 b.1.1 b.1.2 b.2.1 b.2.2 (by rw [eh, ← c]; unfold pMul; simp)
    · have e : sCheck ⟨x, y, false⟩ = 3 := by unfold sCheck; simp [ix, iy, c]
      rw [e]
      exact refSpot_n3 x y 0 w hx.1 hx.2 hy.1 hy.2 by'.1 by'.2 b.1.1 b.1.2 b.2.1 b.2.2 (by rw [eh]; simp; unfold pMul at c; exact c)
  · by_cases c : x = 0
    · subst c
      by_cases d : y = 0
      · subst d
        exact refSpot_f3 w
      · have e : sCheck ⟨0, y, true⟩ = 1 := by unfold sCheck; rw [if_pos]; simp [iy, ix, Sp.beq, sFar, d]
        rw [e]
        exact refSpot_f2 0 y w hx.1 hx.2 hy.1 hy.2 (by simp) (by simpa using d)
    · have e : sCheck ⟨x, y, true⟩ = 1 := by unfold sCheck; rw [if_pos]; simp [iy, ix, Sp.beq, sFar, c]
      rw [e]
      exact refSpot_f1 x y w hx.1 hx.2 hy.1 hy.2 (by simpa using c)
theorem refSpot_e (s : Sp) (n : Int) (w : World) (h : Hid (sCheck s = n)) : Calls Tryd.prog 16 #[spV s] w fun e w' => e = .returned (.int .i64 n) ∧ Below w.heap.size w w' := by
  have := refSpot_c s w; rw [h.out] at this; exact this
theorem check_v (s : Sp) (n : Int) (w : World) (hF : FarAt w) (h : Hid (sCheck s = n)) (h0 : n ≠ 0) : Calls Tryd.prog 43 #[spV s] w fun e w' => e = .returned (.iface 69 (.int .i64 n)) ∧ Below w.heap.size w w' := by
  have := check_bad s w hF (by rw [h.out]; exact h0); rw [h.out] at this; exact this
end Go.Proofs.YtebomakihdjllaaDoor
namespace Go.Proofs.YtebomakihdjllaaDoor
open Go.RowKit
set_option maxRecDepth 100000
set_option linter.unusedVariables false
set_option linter.unusedSimpArgs false
theorem all_v (l : List Sp) (b off cap : Nat) (w : World) (hF : FarAt w) (hl : l.length ≤ 1000000) (hs : SpotsAt w b off l) (k : Nat) (hk : k < l.length) (n : Int) (h : Hid (∀ i (h : i < l.length), i < k → Ok l[i])) (hn : Hid (sCheck l[k] = n)) (h0 : n ≠ 0) :
    Calls Tryd.prog 53 #[.slice (some ⟨b, off, none⟩) l.length cap] w fun e w' => e = .returned (.iface 69 (.int .i64 n)) ∧ Below w.heap.size w w' := by
  have := all_bad l b off cap w hF hl hs k hk h.out (by rw [hn.out]; exact h0); rw [hn.out] at this; exact this
theorem none_ok (l : List Sp) : Hid (∀ i (h : i < l.length), i < 0 → Ok l[i]) := fun i _ hi => absurd hi (Nat.not_lt_zero _)
theorem one_ok (a : Sp) (l : List Sp) (ha : Ok a) : Hid (∀ i (h : i < (a :: l).length), i < 1 → Ok (a :: l)[i]) := fun i hi hlt => by
  obtain rfl : i = 0 := by omega
  exact ha
theorem two_ok (a b : Sp) (l : List Sp) (ha : Ok a) (hb : Ok b) : Hid (∀ i (h : i < (a :: b :: l).length), i < 2 → Ok (a :: b :: l)[i]) := fun i hi hlt => by
  have : i = 0 ∨ i = 1 := by omega
  rcases this with rfl | rfl <;> assumption
/-- The fault of what is to be verified. -/
def sealF (key R : Sp) (S : Int) (z : Nat) : Int := if 60 < z then 4 else if sCheck key ≠ 0 then sCheck key else if sCheck R ≠ 0 then sCheck R else if 0 ≤ S ∧ S < 1013 then 0 else 1
theorem sealF_zero {key R : Sp} {S : Int} {z : Nat} (h : sealF key R S z = 0) : z ≤ 60 ∧ Ok key ∧ Ok R ∧ 0 ≤ S ∧ S < 1013 := by
  unfold sealF at h
  split at h
  · exact absurd h (by decide)
  · split at h
    · contradiction
    · split at h
      · contradiction
      · split at h
        · rename_i h1 h2 h3 h4
          exact ⟨by omega, (ok_iff _).mp (by simpa using h2), (ok_iff _).mp (by simpa using h3), h4.1, h4.2⟩
        · exact absurd h (by decide)
end Go.Proofs.YtebomakihdjllaaDoor
namespace Go.Proofs.YtebomakihdjllaaDoor
open Go.RowKit
set_option maxRecDepth 100000
set_option linter.unusedVariables false
set_option linter.unusedSimpArgs false
theorem list_v (l : List Sp) (b off cap : Nat) (w : World) (hF : FarAt w) (hl : l.length ≤ 12) (hs : SpotsAt w b off l) (k : Nat) (hk : k < l.length) (n : Int) (h : Hid (∀ i (h : i < l.length), i < k → Ok l[i])) (hn : Hid (sCheck l[k] = n)) (h0 : n ≠ 0) :
    Calls Tryd.prog 46 #[.slice (some ⟨b, off, none⟩) l.length cap] w fun e w' => e = .returned (.tuple #[.string ⟨#[]⟩, .iface 69 (.int .i64 n)]) ∧ Below w.heap.size w w' := by
  have := list_bad l b off cap w hF hl hs k hk h.out (by rw [hn.out]; exact h0); rw [hn.out] at this; exact this
end Go.Proofs.YtebomakihdjllaaDoor
namespace Go.Proofs.YtebomakihdjllaaDoor
open Go.RowKit
set_option maxRecDepth 100000
set_option linter.unusedVariables false
set_option linter.unusedSimpArgs false
/-- The challenge's number. -/
noncomputable def bAsk (a b : Sp) : Int := hnum (lsB 2 [a, b]).data.toList
theorem bAsk_bd (a b : Sp) : 0 ≤ bAsk a b ∧ bAsk a b < 1013 := hnum_bd _
set_option maxHeartbeats 4000000 in
theorem bask_core (a b : Sp) (S : ByteArray) (R : Value) (w : World) (hz : S.size ≤ 100) (V : Value)
    (kL : Hid (∀ w1 v, Below w.heap.size w w1 → SpSl w1 v [a, b] → Calls Tryd.prog 46 #[v] w1 fun e w' => e = .returned (.tuple #[.string S, V]) ∧ Below w1.heap.size w1 w'))
    (hR : (∃ k, V = .iface 69 (.int .i64 k) ∧ R = .tuple #[.int .i64 0, V]) ∨ (V = .nilIface ∧ R = .tuple #[.int .i64 (hnum S.data.toList), .nilIface])) :
    Calls Tryd.prog 18 #[spV a, spV b] w fun e w' => e = .returned R ∧ Below w.heap.size w w' := by
  go_enter Tryd.func18, Tryd.ntmps18
  go_wp2_with fail
  have hm := SpSl.made ((w.alloc (.cells #[.int .i64 a.x, .int .i64 a.y, .bool a.far] 23)).alloc (.cells #[.int .i64 b.x, .int .i64 b.y, .bool b.far] 23)) [a, b] (w.heap.size + 1 + 1) 2 2 #[.int .i64 a.x, .int .i64 a.y, .bool a.far, .int .i64 b.x, .int .i64 b.y, .bool b.far] 23 (by simp) rfl rfl
  have hb := balloc (balloc (below_alloc w (.cells #[.int .i64 a.x, .int .i64 a.y, .bool a.far] 23)) (.cells #[.int .i64 b.x, .int .i64 b.y, .bool b.far] 23)) (.cells #[.int .i64 a.x, .int .i64 a.y, .bool a.far, .int .i64 b.x, .int .i64 b.y, .bool b.far] 23)
  refine (kL.out _ _ hb hm).mono ?_; rintro e w1 ⟨rfl, hb1⟩
  have hB1 := below_seq hb hb1
  clear hb hm hb1 kL
  rcases hR with ⟨k, rfl, rfl⟩ | ⟨rfl, rfl⟩
  · go_wp2
    go_ret2
    exact ⟨rfl, hB1⟩
  · go_wp2_with fail
    refine (hashNumber_c S _ (by omega)).mono ?_; rintro e w2 ⟨rfl, hb2⟩
    go_wp2
    go_ret2
    exact ⟨rfl, below_seq hB1 hb2⟩
theorem two_oks {a b : Sp} (oa : Ok a) (ob : Ok b) : ∀ z ∈ [a, b], Ok z := fun z h => by
  simp only [List.mem_cons, List.not_mem_nil, or_false] at h
  rcases h with rfl | rfl
  · exact oa
  · exact ob
theorem bask_y (a b : Sp) (c : Int) (w : World) (hF : FarAt w) (oa : Ok a) (ob : Ok b) (hc : Hid (bAsk a b = c)) : Calls Tryd.prog 18 #[spV a, spV b] w fun e w' => e = .returned (.tuple #[.int .i64 c, .nilIface]) ∧ Below w.heap.size w w' := by
  rw [← hc.out]
  exact bask_core a b (lsB 2 [a, b]) _ w (Nat.le_trans (lsB_size 2 [a, b]) (by simp)) .nilIface (Lib.hid fun w1 v hb hv => list_sl [a, b] v w1 (hF.below hb) (by simp) hv (two_oks oa ob)) (.inr ⟨rfl, rfl⟩)
theorem bask_n1 (a b : Sp) (E : Int) (w : World) (hF : FarAt w) (ha : Hid (sCheck a = E)) (h0 : E ≠ 0) : Calls Tryd.prog 18 #[spV a, spV b] w fun e w' => e = .returned (.tuple #[.int .i64 0, .iface 69 (.int .i64 E)]) ∧ Below w.heap.size w w' := by
  refine bask_core a b ⟨#[]⟩ _ w (by decide) (.iface 69 (.int .i64 E)) (Lib.hid fun w1 v hb hv => ?_) (.inl ⟨E, rfl, rfl⟩)
  obtain ⟨av, cv, rfl, h⟩ := hv
  obtain ⟨bb, o, rfl, hs⟩ := h (by simp)
  exact list_v [a, b] bb o cv w1 (hF.below hb) (by simp) hs 0 (by simp) E (Lib.hid fun i _ h => absurd h (Nat.not_lt_zero _)) ha h0
theorem bask_n2 (a b : Sp) (E : Int) (w : World) (hF : FarAt w) (oa : Ok a) (ha : Hid (sCheck b = E)) (h0 : E ≠ 0) : Calls Tryd.prog 18 #[spV a, spV b] w fun e w' => e = .returned (.tuple #[.int .i64 0, .iface 69 (.int .i64 E)]) ∧ Below w.heap.size w w' := by
  refine bask_core a b ⟨#[]⟩ _ w (by decide) (.iface 69 (.int .i64 E)) (Lib.hid fun w1 v hb hv => ?_) (.inl ⟨E, rfl, rfl⟩)
  obtain ⟨av, cv, rfl, h⟩ := hv
  obtain ⟨bb, o, rfl, hs⟩ := h (by simp)
  exact list_v [a, b] bb o cv w1 (hF.below hb) (by simp) hs 1 (by simp) E (Lib.hid fun i _ h => (by obtain rfl : i = 0 := (by omega); exact oa)) ha h0
set_option maxHeartbeats 4000000 in
theorem bclose_y (r k : Int) (e P : Sp) (c S : Int) (w : World) (hF : FarAt w) (r0 : 0 ≤ r) (r1 : r < 1013) (k0 : 1 ≤ k) (k1 : k < 1013) (oe : Ok e) (hP : Hid (sq (4 * hJ * k) = P)) (hc : Hid (bAsk P e = c)) (hS : (k + c * r) % 1013 = S) :
    Calls Tryd.prog 10 #[.int .i64 r, .int .i64 k, spV e] w fun e w' => e = .returned (.tuple #[slV P S, .nilIface]) ∧ Below w.heap.size w w' := by
  have oP : Ok P := by rw [← hP.out]; exact sq_ok _
  have hcb := bAsk_bd P e
  rw [hc.out] at hcb
  have hm0 : 0 ≤ c * r := Int.mul_nonneg hcb.1 r0
  have hm1 : c * r ≤ 1012 * 1012 := Int.mul_le_mul (by omega) (by omega) r0 (by omega)
  have e1 : IntKind.i64.wrap (c * r) = c * r := by rw [IntKind.wrap_i64]; omega
  have e2 : IntKind.i64.wrap (k + c * r) = k + c * r := by rw [IntKind.wrap_i64]; omega
  have e3 : (k + c * r).tmod 1013 = S := by rw [Int.tmod_eq_emod_of_nonneg (by omega)]; exact hS
  clear hm0 hm1 hS
  go_enter Tryd.func10, Tryd.ntmps10
  go_wp2_with fail
  refine (rest_y r _ r0 r1).mono ?_; rintro e' w' ⟨rfl, rfl⟩
  go_wp2_with fail
  refine (secret_y k _ k0 k1).mono ?_; rintro e' w' ⟨rfl, rfl⟩
  go_wp2_with fail
  refine (second_c _ (hF.below (by repeat (first | exact Below.refl _ _ | refine balloc ?_ _ | refine Below.drew ?_ | refine below_drewN ?_ _ | refine below_set ?_ (by first | omega | (dsimp only; omega)) _)))).mono ?_; rintro e w1 ⟨rfl, hb⟩
  obtain ⟨hc1, hf1⟩ := bcell hb
  have z1 := hb.size
  try simp only [World.size_alloc, World.size_setCell, World.size_drew] at z1
  have s1_0 : w.heap.size < w1.heap.size := by omega
  have s1_1 : w.heap.size + 1 < w1.heap.size := by omega
  have hB1 : Below w.heap.size w w1 := below_seq (by repeat (first | exact Below.refl _ _ | refine balloc ?_ _ | refine Below.drew ?_ | refine below_drewN ?_ _ | refine below_set ?_ (by first | omega | (dsimp only; omega)) _)) hb
  clear hb
  have m1_0_0 : w1.cell? ⟨w.heap.size, 0, none⟩ = some (.int .i64 e.x) := by go_simp
  have m1_0_1 : w1.cell? ⟨w.heap.size, 1, none⟩ = some (.int .i64 e.y) := by go_simp
  have m1_0_2 : w1.cell? ⟨w.heap.size, 2, none⟩ = some (.bool e.far) := by go_simp
  go_wp2_with fail
  refine (of_e (sq (4 * hJ)) P (4 * hJ) k _ (hF.below (by repeat (first | exact hB1 | exact Below.refl _ _ | refine balloc ?_ _ | refine Below.drew ?_ | refine below_drewN ?_ _ | refine below_set ?_ (by first | omega | (dsimp only; omega)) _))) (Lib.hid rfl) hP).mono ?_; rintro e w2 ⟨rfl, hb⟩
  obtain ⟨hc2, hf2⟩ := bcell hb
  have z2 := hb.size
  try simp only [World.size_alloc, World.size_setCell, World.size_drew] at z2
  have s2_0 : w.heap.size < w2.heap.size := by omega
  have s2_1 : w.heap.size + 1 < w2.heap.size := by omega
  have hB2 : Below w.heap.size w w2 := below_seq (by repeat (first | exact hB1 | exact Below.refl _ _ | refine balloc ?_ _ | refine Below.drew ?_ | refine below_drewN ?_ _ | refine below_set ?_ (by first | omega | (dsimp only; omega)) _)) hb
  clear hb
  have m2_0_0 : w2.cell? ⟨w.heap.size, 0, none⟩ = some (.int .i64 e.x) := by go_simp
  have m2_0_1 : w2.cell? ⟨w.heap.size, 1, none⟩ = some (.int .i64 e.y) := by go_simp
  have m2_0_2 : w2.cell? ⟨w.heap.size, 2, none⟩ = some (.bool e.far) := by go_simp
  clear m1_0_0 m1_0_1 m1_0_2
  go_wp2_with fail
  refine (bask_y P e c _ (hF.below (by repeat (first | exact hB2 | exact Below.refl _ _ | refine balloc ?_ _ | refine Below.drew ?_ | refine below_drewN ?_ _ | refine below_set ?_ (by first | omega | (dsimp only; omega)) _))) oP oe hc).mono ?_; rintro e w3 ⟨rfl, hb⟩
  obtain ⟨hc3, hf3⟩ := bcell hb
  have z3 := hb.size
  try simp only [World.size_alloc, World.size_setCell, World.size_drew] at z3
  have s3_0 : w.heap.size < w3.heap.size := by omega
  have s3_1 : w.heap.size + 1 < w3.heap.size := by omega
  have s3_2 : w2.heap.size < w3.heap.size := by omega
  have hB3 : Below w.heap.size w w3 := below_seq (by repeat (first | exact hB2 | exact Below.refl _ _ | refine balloc ?_ _ | refine Below.drew ?_ | refine below_drewN ?_ _ | refine below_set ?_ (by first | omega | (dsimp only; omega)) _)) hb
  clear hb
  have m3_0_0 : w3.cell? ⟨w.heap.size, 0, none⟩ = some (.int .i64 e.x) := by go_simp
  have m3_0_1 : w3.cell? ⟨w.heap.size, 1, none⟩ = some (.int .i64 e.y) := by go_simp
  have m3_0_2 : w3.cell? ⟨w.heap.size, 2, none⟩ = some (.bool e.far) := by go_simp
  clear m2_0_0 m2_0_1 m2_0_2
  have r0 : w3.cell? ⟨w.heap.size + 1, 0, none⟩ = some (.int .i64 0) := by go_simp
  have r1 : w3.cell? ⟨w.heap.size + 1, 1, none⟩ = some (.int .i64 0) := by go_simp
  have r2 : w3.cell? ⟨w.heap.size + 1, 2, none⟩ = some (.bool false) := by go_simp
  have r3 : w3.cell? ⟨w.heap.size + 1, 3, none⟩ = some (.int .i64 0) := by go_simp
  go_wp2
  have k := set4_cell (w := w3) (x := .int .i64 P.x) (y := .int .i64 P.y) (z := .bool P.far) (p := .int .i64 S) r0 r1 r2 r3
  refine bodyPost_ret (v := .tuple #[slV P S, .nilIface]) (by simp [results, Tryd.results10, go_sem, k.1, k.2.1, k.2.2.1, k.2.2.2]) rfl ⟨rfl, set4_below (by repeat (first | exact hB3 | exact Below.refl _ _ | refine balloc ?_ _ | refine Below.drew ?_ | refine below_drewN ?_ _ | refine below_set ?_ (by first | omega | (dsimp only; omega)) _)) (by omega)⟩
set_option maxHeartbeats 1000000 in
theorem bclose_n1 (r k : Int) (e : Sp) (w : World) (h : ¬ (0 ≤ r ∧ r < 1013)) :
    Calls Tryd.prog 10 #[.int .i64 r, .int .i64 k, spV e] w fun e w' => e = .returned (.tuple #[slV ⟨0, 0, false⟩ 0, .iface 69 (.int .i64 1)]) ∧ Below w.heap.size w w' := by
  go_enter Tryd.func10, Tryd.ntmps10
  go_wp2_with fail
  refine (rest_n r _ h).mono ?_; rintro e' w' ⟨rfl, rfl⟩
  go_wp2
  refine bodyPost_ret (v := .tuple #[slV ⟨0, 0, false⟩ 0, .iface 69 (.int .i64 1)]) (by simp [results, Tryd.results10, go_sem]) rfl ⟨rfl, (by repeat (first | exact Below.refl _ _ | refine balloc ?_ _ | refine Below.drew ?_ | refine below_drewN ?_ _ | refine below_set ?_ (by first | omega | (dsimp only; omega)) _))⟩
set_option maxHeartbeats 1000000 in
theorem bclose_n2 (r k : Int) (e : Sp) (w : World) (r0 : 0 ≤ r) (r1 : r < 1013) (h : ¬ (1 ≤ k ∧ k < 1013)) :
    Calls Tryd.prog 10 #[.int .i64 r, .int .i64 k, spV e] w fun e w' => e = .returned (.tuple #[slV ⟨0, 0, false⟩ 0, .iface 69 (.int .i64 1)]) ∧ Below w.heap.size w w' := by
  go_enter Tryd.func10, Tryd.ntmps10
  go_wp2_with fail
  refine (rest_y r _ r0 r1).mono ?_; rintro e' w' ⟨rfl, rfl⟩
  go_wp2_with fail
  refine (secret_n k _ h).mono ?_; rintro e' w' ⟨rfl, rfl⟩
  go_wp2
  refine bodyPost_ret (v := .tuple #[slV ⟨0, 0, false⟩ 0, .iface 69 (.int .i64 1)]) (by simp [results, Tryd.results10, go_sem]) rfl ⟨rfl, (by repeat (first | exact Below.refl _ _ | refine balloc ?_ _ | refine Below.drew ?_ | refine below_drewN ?_ _ | refine below_set ?_ (by first | omega | (dsimp only; omega)) _))⟩
theorem bclose_n (r k : Int) (e : Sp) (w : World) (h : ¬ (0 ≤ r ∧ r < 1013 ∧ 1 ≤ k ∧ k < 1013)) :
    Calls Tryd.prog 10 #[.int .i64 r, .int .i64 k, spV e] w fun e w' => e = .returned (.tuple #[slV ⟨0, 0, false⟩ 0, .iface 69 (.int .i64 1)]) ∧ Below w.heap.size w w' := by
  by_cases hr : 0 ≤ r ∧ r < 1013
  · exact bclose_n2 r k e w hr.1 hr.2 (fun hk => h ⟨hr.1, hr.2, hk.1, hk.2⟩)
  · exact bclose_n1 r k e w hr
set_option maxHeartbeats 4000000 in
theorem bclose_v (r k : Int) (e P : Sp) (E : Int) (w : World) (hF : FarAt w) (r0 : 0 ≤ r) (r1 : r < 1013) (k0 : 1 ≤ k) (k1 : k < 1013) (he : Hid (sCheck e = E)) (hE : E ≠ 0) (hP : Hid (sq (4 * hJ * k) = P)) :
    Calls Tryd.prog 10 #[.int .i64 r, .int .i64 k, spV e] w fun e w' => e = .returned (.tuple #[slV ⟨0, 0, false⟩ 0, .iface 69 (.int .i64 E)]) ∧ Below w.heap.size w w' := by
  have oP : Ok P := by rw [← hP.out]; exact sq_ok _
  go_enter Tryd.func10, Tryd.ntmps10
  go_wp2_with fail
  refine (rest_y r _ r0 r1).mono ?_; rintro e' w' ⟨rfl, rfl⟩
  go_wp2_with fail
  refine (secret_y k _ k0 k1).mono ?_; rintro e' w' ⟨rfl, rfl⟩
  go_wp2_with fail
  refine (second_c _ (hF.below (by repeat (first | exact Below.refl _ _ | refine balloc ?_ _ | refine Below.drew ?_ | refine below_drewN ?_ _ | refine below_set ?_ (by first | omega | (dsimp only; omega)) _)))).mono ?_; rintro e w1 ⟨rfl, hb⟩
  obtain ⟨hc1, hf1⟩ := bcell hb
  have z1 := hb.size
  try simp only [World.size_alloc, World.size_setCell, World.size_drew] at z1
  have s1_0 : w.heap.size < w1.heap.size := by omega
  have s1_1 : w.heap.size + 1 < w1.heap.size := by omega
  have hB1 : Below w.heap.size w w1 := below_seq (by repeat (first | exact Below.refl _ _ | refine balloc ?_ _ | refine Below.drew ?_ | refine below_drewN ?_ _ | refine below_set ?_ (by first | omega | (dsimp only; omega)) _)) hb
  clear hb
  have m1_0_0 : w1.cell? ⟨w.heap.size, 0, none⟩ = some (.int .i64 e.x) := by go_simp
  have m1_0_1 : w1.cell? ⟨w.heap.size, 1, none⟩ = some (.int .i64 e.y) := by go_simp
  have m1_0_2 : w1.cell? ⟨w.heap.size, 2, none⟩ = some (.bool e.far) := by go_simp
  go_wp2_with fail
  refine (of_e (sq (4 * hJ)) P (4 * hJ) k _ (hF.below (by repeat (first | exact hB1 | exact Below.refl _ _ | refine balloc ?_ _ | refine Below.drew ?_ | refine below_drewN ?_ _ | refine below_set ?_ (by first | omega | (dsimp only; omega)) _))) (Lib.hid rfl) hP).mono ?_; rintro e w2 ⟨rfl, hb⟩
  obtain ⟨hc2, hf2⟩ := bcell hb
  have z2 := hb.size
  try simp only [World.size_alloc, World.size_setCell, World.size_drew] at z2
  have s2_0 : w.heap.size < w2.heap.size := by omega
  have s2_1 : w.heap.size + 1 < w2.heap.size := by omega
  have hB2 : Below w.heap.size w w2 := below_seq (by repeat (first | exact hB1 | exact Below.refl _ _ | refine balloc ?_ _ | refine Below.drew ?_ | refine below_drewN ?_ _ | refine below_set ?_ (by first | omega | (dsimp only; omega)) _)) hb
  clear hb
  have m2_0_0 : w2.cell? ⟨w.heap.size, 0, none⟩ = some (.int .i64 e.x) := by go_simp
  have m2_0_1 : w2.cell? ⟨w.heap.size, 1, none⟩ = some (.int .i64 e.y) := by go_simp
  have m2_0_2 : w2.cell? ⟨w.heap.size, 2, none⟩ = some (.bool e.far) := by go_simp
  clear m1_0_0 m1_0_1 m1_0_2
  go_wp2_with fail
  refine (bask_n2 P e E _ (hF.below (by repeat (first | exact hB2 | exact Below.refl _ _ | refine balloc ?_ _ | refine Below.drew ?_ | refine below_drewN ?_ _ | refine below_set ?_ (by first | omega | (dsimp only; omega)) _))) oP he hE).mono ?_; rintro e w3 ⟨rfl, hb⟩
  obtain ⟨hc3, hf3⟩ := bcell hb
  have z3 := hb.size
  try simp only [World.size_alloc, World.size_setCell, World.size_drew] at z3
  have s3_0 : w.heap.size < w3.heap.size := by omega
  have s3_1 : w.heap.size + 1 < w3.heap.size := by omega
  have s3_2 : w2.heap.size < w3.heap.size := by omega
  have hB3 : Below w.heap.size w w3 := below_seq (by repeat (first | exact hB2 | exact Below.refl _ _ | refine balloc ?_ _ | refine Below.drew ?_ | refine below_drewN ?_ _ | refine below_set ?_ (by first | omega | (dsimp only; omega)) _)) hb
  clear hb
  have m3_0_0 : w3.cell? ⟨w.heap.size, 0, none⟩ = some (.int .i64 e.x) := by go_simp
  have m3_0_1 : w3.cell? ⟨w.heap.size, 1, none⟩ = some (.int .i64 e.y) := by go_simp
  have m3_0_2 : w3.cell? ⟨w.heap.size, 2, none⟩ = some (.bool e.far) := by go_simp
  clear m2_0_0 m2_0_1 m2_0_2
  have r0 : w3.cell? ⟨w.heap.size + 1, 0, none⟩ = some (.int .i64 0) := by go_simp
  have r1 : w3.cell? ⟨w.heap.size + 1, 1, none⟩ = some (.int .i64 0) := by go_simp
  have r2 : w3.cell? ⟨w.heap.size + 1, 2, none⟩ = some (.bool false) := by go_simp
  have r3 : w3.cell? ⟨w.heap.size + 1, 3, none⟩ = some (.int .i64 0) := by go_simp
  go_wp2
  have k := set4_cell (w := w3) (x := .int .i64 0) (y := .int .i64 0) (z := .bool false) (p := .int .i64 0) r0 r1 r2 r3
  refine bodyPost_ret (v := .tuple #[slV ⟨0, 0, false⟩ 0, .iface 69 (.int .i64 E)]) (by simp [results, Tryd.results10, go_sem, k.1, k.2.1, k.2.2.1, k.2.2.2]) rfl ⟨rfl, set4_below (by repeat (first | exact hB3 | exact Below.refl _ _ | refine balloc ?_ _ | refine Below.drew ?_ | refine below_drewN ?_ _ | refine below_set ?_ (by first | omega | (dsimp only; omega)) _)) (by omega)⟩
end Go.Proofs.YtebomakihdjllaaDoor
namespace Go.Proofs.YtebomakihdjllaaDoor
structure Z where
  re : F
  im : F
theorem Z.ext' {a b : Z} (h1 : a.re = b.re) (h2 : a.im = b.im) : a = b := by cases a; cases b; simp only at h1 h2; subst h1 h2; rfl
def Z.one : Z := ⟨1, 0⟩
def Z.mul (a b : Z) : Z := ⟨a.re * b.re - a.im * b.im, a.re * b.im + a.im * b.re⟩
def Z.add (a b : Z) : Z := ⟨a.re + b.re, a.im + b.im⟩
def Z.conj (a : Z) : Z := ⟨a.re, -a.im⟩
def Z.norm (a : Z) : F := a.re * a.re + a.im * a.im
def Z.of (a : F) : Z := ⟨a, 0⟩
def Z.pow (a : Z) : Nat → Z
  | 0 => .one
  | n+1 => (a.pow n).mul a
theorem Z.mul_comm (a b : Z) : a.mul b = b.mul a := Z.ext' (by simp only [Z.mul]; grobner) (by simp only [Z.mul]; grobner)
theorem Z.mul_assoc (a b c : Z) : (a.mul b).mul c = a.mul (b.mul c) := Z.ext' (by simp only [Z.mul]; grobner) (by simp only [Z.mul]; grobner)
theorem Z.mul_left_comm (a b c : Z) : a.mul (b.mul c) = b.mul (a.mul c) := by rw [← Z.mul_assoc, Z.mul_comm a b, Z.mul_assoc]
theorem Z.mul_one (a : Z) : a.mul .one = a := Z.ext' (by simp only [Z.mul, Z.one]; grobner) (by simp only [Z.mul, Z.one]; grobner)
theorem Z.one_mul (a : Z) : Z.one.mul a = a := by rw [Z.mul_comm, Z.mul_one]
theorem Z.mul_add (a b c : Z) : a.mul (b.add c) = (a.mul b).add (a.mul c) := Z.ext' (by simp only [Z.mul, Z.add]; grobner) (by simp only [Z.mul, Z.add]; grobner)
theorem Z.conj_mul (a b : Z) : (a.mul b).conj = a.conj.mul b.conj := Z.ext' (by simp only [Z.mul, Z.conj]; grobner) (by simp only [Z.mul, Z.conj]; grobner)
theorem Z.conj_conj (a : Z) : a.conj.conj = a := Z.ext' rfl (by simp only [Z.conj]; grobner)
theorem Z.mul_conj (a : Z) : a.mul a.conj = .of a.norm := Z.ext' (by simp only [Z.mul, Z.conj, Z.norm, Z.of]; grobner) (by simp only [Z.mul, Z.conj, Z.of]; grobner)
theorem Z.norm_mul (a b : Z) : (a.mul b).norm = a.norm * b.norm := by simp only [Z.mul, Z.norm]; grobner
theorem Z.norm_conj (a : Z) : a.conj.norm = a.norm := by simp only [Z.conj, Z.norm]; grobner
theorem Z.norm_of (a : F) : (Z.of a).norm = a * a := by simp only [Z.of, Z.norm]; grobner
theorem Z.of_mul (a b : F) : (Z.of a).mul (.of b) = .of (a * b) := Z.ext' (by simp only [Z.mul, Z.of]; grobner) (by simp only [Z.mul, Z.of]; grobner)
theorem Z.norm_zero {a : Z} (h : a.norm = 0) : a.re = 0 ∧ a.im = 0 := by
  have key : ∀ x y : F, x * x + y * y = 0 → y = 0 := fun x y e => by
    by_cases hy : y = 0
    · exact hy
    · exfalso
      have h1 := mul_inv hy
      refine neg_one_nonsq (x * inv y) ?_
      have e2 : x * inv y * (x * inv y) = (x * x) * (inv y * inv y) := by grobner
      have e3 : x * x = - (y * y) := by grobner
      rw [e2, e3, show -(y*y) * (inv y * inv y) = -((y * inv y) * (y * inv y)) by grobner, h1]; grobner
  have h' : a.re * a.re + a.im * a.im = 0 := h
  exact ⟨key a.im a.re (by grobner), key a.re a.im h'⟩
theorem Z.pow_add (a : Z) (m : Nat) : ∀ n, a.pow (m + n) = (a.pow m).mul (a.pow n)
  | 0 => (Z.mul_one _).symm
  | n+1 => by show (a.pow (m + n)).mul a = _; rw [Z.pow_add a m n, Z.mul_assoc]; rfl
theorem Z.pow_mul (a : Z) (m : Nat) : ∀ n, a.pow (m * n) = (a.pow m).pow n
  | 0 => rfl
  | n+1 => by rw [Nat.mul_succ, Z.pow_add, Z.pow_mul a m n]; rfl
theorem Z.mul_pow (a b : Z) : ∀ n, (a.mul b).pow n = (a.pow n).mul (b.pow n)
  | 0 => (Z.mul_one _).symm
  | n+1 => by
    show ((a.mul b).pow n).mul (a.mul b) = ((a.pow n).mul a).mul ((b.pow n).mul b)
    rw [Z.mul_pow a b n]
    simp only [Z.mul_assoc, Z.mul_left_comm, Z.mul_comm]
theorem Z.one_pow : ∀ n, Z.one.pow n = .one
  | 0 => rfl
  | n+1 => by show (Z.one.pow n).mul .one = _; rw [Z.mul_one, Z.one_pow n]
theorem Z.conj_pow (a : Z) : ∀ n, (a.pow n).conj = a.conj.pow n
  | 0 => Z.ext' rfl (by show -(0 : F) = 0; decide)
  | n+1 => by show ((a.pow n).mul a).conj = _; rw [Z.conj_mul, Z.conj_pow a n]; rfl
theorem Z.of_pow (a : F) : ∀ n : Nat, (Z.of a).pow n = .of (a ^ n)
  | 0 => Z.ext' (by show (1 : F) = a ^ 0; grobner) rfl
  | n+1 => by show ((Z.of a).pow n).mul (.of a) = _; rw [Z.of_pow a n, Z.of_mul]; congr 1
theorem Z.norm_pow (a : Z) : ∀ n : Nat, (a.pow n).norm = a.norm ^ n
  | 0 => by show Z.one.norm = a.norm ^ 0; rw [show Z.one.norm = 1 by decide]; grobner
  | n+1 => by show ((a.pow n).mul a).norm = _; rw [Z.norm_mul, Z.norm_pow a n]; grobner

/-- t + i to the power 4052 is t t + 1, by the kernel, at each t. -/
def qm (a b c d : Nat) : Nat × Nat := ((a * c + (4051 - b) * d) % 4051, (a * d + b * c) % 4051)
def qsq (p : Nat × Nat) : Nat × Nat := qm p.1 p.2 p.1 p.2
def qmul (t : Nat) (p : Nat × Nat) : Nat × Nat := qm p.1 p.2 t 1
def qpow (t : Nat) : Nat × Nat :=
  -- 4052 = 111111010100
  qsq (qsq (qmul t (qsq (qsq (qmul t (qsq (qsq (qmul t (qsq (qmul t (qsq (qmul t (qsq (qmul t (qsq (qmul t (qsq (t, 1))))))))))))))))))
def qok (t : Nat) : Bool := match qpow t with | (a, b) => Nat.beq a ((t * t + 1) % 4051) && Nat.beq b 0
def qall : Nat → Bool
  | 0 => true
  | k+1 => qok k && qall k
theorem qall_ok : qall 4051 = true := by decide +kernel
def eNorm : Nat := 4052
def zn (p : Nat × Nat) : Z := ⟨fi p.1, fi p.2⟩
theorem qm_ok (a b c d : Nat) (hb : b ≤ 4051) : zn (qm a b c d) = (zn (a, b)).mul (zn (c, d)) := by
  have e : fi ((4051 - b : Nat) : Int) = - fi (b : Int) := by rw [← fi_neg]; exact fi_eq.mpr (by omega)
  apply Z.ext'
  · show fi (((a * c + (4051 - b) * d) % 4051 : Nat) : Int) = fi a * fi c - fi b * fi d
    rw [Int.natCast_emod, show ((4051 : Nat) : Int) = 4051 from rfl, fi_mod, Int.natCast_add, Int.natCast_mul, Int.natCast_mul, fi_add, fi_mul, fi_mul, e]; grobner
  · show fi (((a * d + b * c) % 4051 : Nat) : Int) = fi a * fi d + fi b * fi c
    rw [Int.natCast_emod, show ((4051 : Nat) : Int) = 4051 from rfl, fi_mod, Int.natCast_add, Int.natCast_mul, Int.natCast_mul, fi_add, fi_mul, fi_mul]
theorem qm_le (a b c d : Nat) : (qm a b c d).2 ≤ 4051 := by show (a * d + b * c) % 4051 ≤ 4051; omega
theorem qsq_ok (p : Nat × Nat) (n : Nat) (z : Z) (h : p.2 ≤ 4051 ∧ zn p = z.pow n) : (qsq p).2 ≤ 4051 ∧ zn (qsq p) = z.pow (n + n) :=
  ⟨qm_le _ _ _ _, by unfold qsq; rw [qm_ok _ _ _ _ h.1, Z.pow_add, ← h.2]⟩
theorem qmul_ok (t : Nat) (p : Nat × Nat) (n : Nat) (h : p.2 ≤ 4051 ∧ zn p = (zn (t, 1)).pow n) : (qmul t p).2 ≤ 4051 ∧ zn (qmul t p) = (zn (t, 1)).pow (n + 1) :=
  ⟨qm_le _ _ _ _, by unfold qmul; rw [qm_ok _ _ _ _ h.1]; show (zn p).mul _ = _; rw [h.2]; rfl⟩
theorem qpow_ok (t : Nat) : zn (qpow t) = (zn (t, 1)).pow eNorm := by
  have h0 : (t, 1).2 ≤ 4051 ∧ zn (t, 1) = (zn (t, 1)).pow 1 := ⟨(by show 1 ≤ 4051; decide), (Z.one_mul _).symm⟩
  have h1 := qmul_ok t _ _ (qsq_ok _ _ _ h0)
  have h2 := qmul_ok t _ _ (qsq_ok _ _ _ h1)
  have h3 := qmul_ok t _ _ (qsq_ok _ _ _ h2)
  have h4 := qmul_ok t _ _ (qsq_ok _ _ _ h3)
  have h5 := qmul_ok t _ _ (qsq_ok _ _ _ h4)
  have h6 := qmul_ok t _ _ (qsq_ok _ _ _ (qsq_ok _ _ _ h5))
  have h7 := qmul_ok t _ _ (qsq_ok _ _ _ (qsq_ok _ _ _ h6))
  exact (qsq_ok _ _ _ (qsq_ok _ _ _ h7)).2
theorem qall_at : ∀ n, qall n = true → ∀ k, k < n → qok k = true
  | 0, _, _, hk => absurd hk (Nat.not_lt_zero _)
  | n+1, h, k, hk => by
    simp only [qall, Bool.and_eq_true] at h
    rcases Nat.lt_succ_iff_lt_or_eq.mp hk with h1 | h1
    · exact qall_at n h.2 k h1
    · subst h1; exact h.1
theorem frob_ti (t : F) : (Z.mk t 1).pow eNorm = .of ((Z.mk t 1).norm) := by
  have h := qall_at 4051 qall_ok t.val t.isLt
  have e := qpow_ok t.val
  have et : fi (t.val : Int) = t := fi_fz t
  have e1 : zn (t.val, 1) = Z.mk t 1 := Z.ext' et rfl
  rw [e1] at e
  rw [← e]
  unfold qok at h
  generalize qpow t.val = p at *
  obtain ⟨a, b⟩ := p
  simp only [Bool.and_eq_true, Nat.beq_eq] at h
  obtain ⟨ha, hb⟩ := h
  subst ha hb
  apply Z.ext'
  · show fi (((t.val * t.val + 1) % 4051 : Nat) : Int) = t * t + 1 * 1
    rw [Int.natCast_emod, show ((4051 : Nat) : Int) = 4051 from rfl, fi_mod, Int.natCast_add, Int.natCast_mul, fi_add, fi_mul, et]; rfl
  · rfl
theorem fpow_inv {a : F} (h : a ≠ 0) : a ^ (eInv + 1) = 1 := by
  have h1 : a ^ (eInv + 1) = a ^ eInv * a := by grobner
  rw [h1, ← inv_pow]; exact inv_mul h
theorem fpow_4052 (a : F) : a ^ eNorm = a * a := by
  by_cases h : a = 0
  · subst h
    have : (0:F) ^ (eInv + 3) = 0 ^ (eInv + 2) * 0 := by grobner
    rw [show eNorm = eInv + 3 from rfl, this]; grobner
  · have : a ^ (eInv + 3) = a ^ (eInv + 1) * (a * a) := by grobner
    rw [show eNorm = eInv + 3 from rfl, this, fpow_inv h]; grobner
/-- z to the power 4052 is its norm. -/
theorem frob_norm (z : Z) : z.pow eNorm = .of z.norm := by
  by_cases hb : z.im = 0
  · have e : z = .of z.re := Z.ext' rfl hb
    rw [e, Z.of_pow, Z.norm_of, fpow_4052]
  · have e : z = (Z.of z.im).mul ⟨z.re * inv z.im, 1⟩ := by
      have := mul_inv hb
      apply Z.ext'
      · show z.re = z.im * (z.re * inv z.im) - 0 * 1
        rw [show z.im * (z.re * inv z.im) - 0 * 1 = z.re * (z.im * inv z.im) by grobner, this]; grobner
      · show z.im = z.im * 1 + 0 * (z.re * inv z.im); grobner
    generalize (z.re * inv z.im) = t at e
    rw [e, Z.mul_pow, frob_ti, Z.of_pow, Z.of_mul, Z.norm_mul, Z.norm_of, fpow_4052]
/-- The pair of two numbers. -/
def zi (a b : Int) : Z := ⟨fi a, fi b⟩
theorem zi_fz (z : Z) : zi (fz z.re) (fz z.im) = z := Z.ext' (fi_fz _) (fi_fz _)
theorem fz_eq {a : Int} {x : F} (h0 : 0 ≤ a ∧ a < 4051) (h : fi a = x) : a = fz x := by rw [← h, fz_fi]; omega
theorem fz_inj {x y : F} (h : fz x = fz y) : x = y := by rw [← fi_fz x, h, fi_fz]
theorem zmul_re (a b c d : Int) : pSub (pMul a c) (pMul b d) = fz ((zi a b).mul (zi c d)).re := fz_eq (r_pSub _ _) (by rw [fi_pSub, fi_pMul, fi_pMul]; rfl)
theorem zmul_im (a b c d : Int) : pAdd (pMul a d) (pMul b c) = fz ((zi a b).mul (zi c d)).im := fz_eq (r_pAdd _ _) (by rw [fi_pAdd, fi_pMul, fi_pMul]; rfl)
theorem zadd_re (a b c d : Int) : pAdd a c = fz ((zi a b).add (zi c d)).re := fz_eq (r_pAdd _ _) (by rw [fi_pAdd]; rfl)
theorem zadd_im (a b c d : Int) : pAdd b d = fz ((zi a b).add (zi c d)).im := fz_eq (r_pAdd _ _) (by rw [fi_pAdd]; rfl)
theorem zof_re (a b : Int) : pOf a = fz (zi a b).re := fz_eq (r_pOf _) (by rw [pOf, fi_mod]; rfl)
theorem zof_im (a b : Int) : pOf b = fz (zi a b).im := fz_eq (r_pOf _) (by rw [pOf, fi_mod]; rfl)
theorem zconj_im (a b : Int) : pSub 0 b = fz (zi a b).conj.im := fz_eq (r_pSub _ _) (by rw [fi_pSub, fi_zero]; show 0 - fi b = - fi b; grobner)
theorem zconj_re (a b : Int) : pOf a = fz (zi a b).conj.re := fz_eq (r_pOf _) (by rw [pOf, fi_mod]; rfl)
theorem znorm (a b : Int) : pAdd (pMul a a) (pMul b b) = fz (zi a b).norm := fz_eq (r_pAdd _ _) (by rw [fi_pAdd, fi_pMul, fi_pMul]; rfl)
theorem zpow_half (z : Z) (n : Int) (h : 0 ≤ n) : z.pow n.toNat = ((z.mul z).pow (n / 2).toNat).mul (z.pow (n % 2).toNat) := by
  have f : ∀ k : Nat, (z.mul z).pow k = z.pow (k + k) := fun k => by
    induction k with
    | zero => rfl
    | succ k ih => show ((z.mul z).pow k).mul (z.mul z) = _; rw [ih, show k + 1 + (k + 1) = k + k + 1 + 1 by omega]; show _ = ((z.pow (k + k)).mul z).mul z; rw [Z.mul_assoc]
  rw [f, ← Z.pow_add]; congr 1; omega
/-- What holds at the head of the loop of twin.Power. -/
def ZAt (s z o : Z) (n : Int) : Prop := 0 ≤ n ∧ n ≤ 9223372036854775807 ∧ o.mul (z.pow n.toNat) = s
theorem zAt_odd {s z o : Z} {n : Int} (h : ZAt s z o n) (hb : n % 2 = 1) : ZAt s (z.mul z) (o.mul z) (n / 2) := by
  obtain ⟨h1, h2, h3⟩ := h
  refine ⟨by omega, by omega, ?_⟩
  rw [← h3, zpow_half z n h1, hb, show (1 : Int).toNat = 1 from rfl, show z.pow 1 = z from Z.one_mul _, Z.mul_assoc, Z.mul_comm ((z.mul z).pow _) z]
theorem zAt_even {s z o : Z} {n : Int} (h : ZAt s z o n) (hb : n % 2 = 0) : ZAt s (z.mul z) o (n / 2) := by
  obtain ⟨h1, h2, h3⟩ := h
  refine ⟨by omega, by omega, ?_⟩
  rw [← h3, zpow_half z n h1, hb, show (0 : Int).toNat = 0 from rfl, show z.pow 0 = .one from rfl, Z.mul_one]
theorem zAt_end {s z o : Z} {n : Int} (h : ZAt s z o n) (hn : n ≤ 0) : o = s := by
  obtain ⟨h1, _, h3⟩ := h
  have : n = 0 := by omega
  rw [← h3, this, show (0 : Int).toNat = 0 from rfl, show z.pow 0 = .one from rfl, Z.mul_one]
theorem zAt_start (z : Z) (n : Int) (h : 0 ≤ n) (h2 : n ≤ 9223372036854775807) : ZAt (z.pow n.toNat) z .one n := ⟨h, h2, Z.one_mul _⟩
theorem zAt_bd {s z o : Z} {n : Int} (h : ZAt s z o n) : 0 ≤ n ∧ n ≤ 9223372036854775807 := ⟨h.1, h.2.1⟩
theorem zi_two : (zi 0 1).pow (2 : Int).toNat = ⟨4050, 0⟩ := Z.ext' (by decide +kernel) (by decide +kernel)
theorem zi_ii : (zi 0 1).mul (zi 0 1) = ⟨4050, 0⟩ := Z.ext' (by decide +kernel) (by decide +kernel)
theorem zpow_frob (z : Z) : z.pow (4051 : Int).toNat = z.conj := by
  by_cases h : z.norm = 0
  · obtain ⟨h1, h2⟩ := Z.norm_zero h
    have e : z = .of 0 := Z.ext' h1 h2
    rw [e, show (4051 : Int).toNat = eInv + 2 from rfl, Z.of_pow]
    have : (0 : F) ^ (eInv + 2) = 0 ^ (eInv + 1) * 0 := by grobner
    rw [this]; exact Z.ext' (by show (0 : F) ^ (eInv + 1) * 0 = 0; grobner) (by show (0 : F) = -0; decide)
  · have e := frob_norm z
    rw [← Z.mul_conj, show eNorm = (4051 : Int).toNat + 1 from rfl] at e
    have e2 : (z.pow (4051 : Int).toNat).mul z = z.mul z.conj := e
    have k : (z.mul z.conj).mul (.of (inv z.norm)) = .one := by rw [Z.mul_conj, Z.of_mul, mul_inv h]; rfl
    have e3 := congrArg (fun x => x.mul (z.conj.mul (.of (inv z.norm)))) e2
    have l : ∀ x : Z, (x.mul z).mul (z.conj.mul (.of (inv z.norm))) = x := fun x => by
      rw [Z.mul_assoc, ← Z.mul_assoc z, k, Z.mul_one]
    rw [Z.mul_comm z z.conj] at e3
    have e4 : ((z.pow (4051 : Int).toNat).mul z).mul (z.conj.mul (.of (inv z.norm))) = (z.conj.mul z).mul (z.conj.mul (.of (inv z.norm))) := e3
    rw [l, l] at e4; exact e4
theorem fz_zero_iff {x : F} : fz x = 0 ↔ x = 0 := ⟨fun h => fz_inj (h.trans (by decide)), fun h => by rw [h]; decide⟩
theorem znorm_mul (a b : Z) : fz (a.mul b).norm = pMul (fz a.norm) (fz b.norm) := (fz_eq (r_pMul _ _) (by rw [fi_pMul, fi_fz, fi_fz, Z.norm_mul])).symm
theorem zmul_conj_re (a : Z) : fz (a.mul a.conj).re = fz a.norm := by rw [Z.mul_conj]; rfl
theorem zmul_conj_im (a : Z) : fz (a.mul a.conj).im = 0 := by rw [Z.mul_conj]; show fz (0 : F) = 0; decide
theorem znorm_ne {a : Z} (h : a.norm ≠ 0) : pOf (fz a.norm) ≠ 0 := fun e => h (fz_zero_iff.mp (by
  have := fz_lt a.norm; unfold pOf at e; omega))
theorem zinv {a : Z} (h : a.norm ≠ 0) : a.mul (a.conj.mul (zi (pInv (fz a.norm)) 0)) = .one := by
  rw [← Z.mul_assoc, Z.mul_conj]
  have : zi (pInv (fz a.norm)) 0 = .of (inv a.norm) := Z.ext' (by show fi (pInv (fz a.norm)) = _; rw [fi_pInv, fi_fz]; rfl) rfl
  rw [this, Z.of_mul, mul_inv h]; rfl
theorem Z.pow_zero (a : Z) : a.pow 0 = .one := rfl
theorem Z.pow_succ (a : Z) (n : Nat) : a.pow (n + 1) = (a.pow n).mul a := rfl
theorem Z.pow_one (a : Z) : a.pow 1 = a := Z.one_mul _
attribute [irreducible] Z.pow
end Go.Proofs.YtebomakihdjllaaDoor
namespace Go.Proofs.YtebomakihdjllaaDoor
theorem recip_prod (x1 x2 x3 e1 e2 e3 a b c d : F) (h1 : x1+x2+x3 = e1) (h2 : x1*x2+x1*x3+x2*x3 = e2) (h3 : x1*x2*x3 = e3) :
    ((Z.mk (a*x1-c) (b*x1-d)).mul (Z.mk (a*x2-c) (b*x2-d))).mul (Z.mk (a*x3-c) (b*x3-d)) =
      ⟨(a*(a*a-b*b) - b*(2*a*b))*e3 - ((a*a-b*b)*c-2*a*b*d)*e2 + (a*(c*c-d*d) - b*(2*c*d))*e1 - (c*(c*c-d*d)-d*(2*c*d)),
       (a*(2*a*b)+b*(a*a-b*b))*e3 - ((a*a-b*b)*d+2*a*b*c)*e2 + (a*(2*c*d)+b*(c*c-d*d))*e1 - (c*(2*c*d)+d*(c*c-d*d))⟩ := by
  subst h1 h2 h3
  apply Z.ext'
  · simp only [Z.mul]; grobner
  · simp only [Z.mul]; grobner
/-- The value of a line with slope l, over the field, at the turned place of (x, y); of one with slope s, among the turned ones, at (t, u). -/
def lv (l v x y : F) : Z := ⟨l * x - v, y⟩
def mv (s n t u : F) : Z := ⟨u, s * t - n⟩
theorem recip (x1 x2 x3 s n t1 t2 t3 l v : F) (h1 : x1+x2+x3 = s*s) (h2 : x1*x2+x1*x3+x2*x3 = 1-2*s*n) (h3 : x1*x2*x3 = n*n)
    (k1 : t1+t2+t3 = l*l) (k2 : t1*t2+t1*t3+t2*t3 = 1-2*l*v) (k3 : t1*t2*t3 = v*v) :
    ((lv l v x1 (s*x1+n)).mul (lv l v x2 (s*x2+n))).mul (lv l v x3 (-(s*x3+n))).conj = ((mv s n t1 (l*t1+v)).mul (mv s n t2 (l*t2+v))).mul (mv s n t3 (-(l*t3+v))).conj := by
  have a := recip_prod x1 x2 x3 _ _ _ l s v (-n) h1 h2 h3
  have b := recip_prod t1 t2 t3 _ _ _ l s (-v) n k1 k2 k3
  have ea : ∀ x : F, lv l v x (s*x+n) = Z.mk (l*x-v) (s*x- -n) := fun x => Z.ext' rfl (by simp only [lv]; grobner)
  have ea3 : (lv l v x3 (-(s*x3+n))).conj = Z.mk (l*x3-v) (s*x3- -n) := Z.ext' rfl (by simp only [lv, Z.conj]; grobner)
  have eb : ∀ t : F, mv s n t (l*t+v) = Z.mk (l*t- -v) (s*t-n) := fun t => Z.ext' (by simp only [mv]; grobner) rfl
  have eb3 : (mv s n t3 (-(l*t3+v))).conj = (Z.of (-1)).mul (Z.mk (l*t3- -v) (s*t3-n)) := Z.ext' (by simp only [mv, Z.conj, Z.of, Z.mul]; grobner) (by simp only [mv, Z.conj, Z.of, Z.mul]; grobner)
  rw [ea x1, ea x2, ea3, a, eb, eb, eb3, Z.mul_left_comm, b]
  clear a b ea ea3 eb eb3 h1 h2 h3 k1 k2 k3
  apply Z.ext'
  · simp only [Z.mul, Z.of]; grobner
  · simp only [Z.mul, Z.of]; grobner
/-- What a slope says of two spots and their sum. -/
structure LineOf (a b : Sp) (l v : F) : Prop where
  ya : fi a.y = l * fi a.x + v
  yb : fi b.y = l * fi b.x + v
  yc : fi (sSum a b).y = -(l * fi (sSum a b).x + v)
  far : (sSum a b).far = false
  e1 : fi a.x + fi b.x + fi (sSum a b).x = l * l
  e2 : fi a.x * fi b.x + fi a.x * fi (sSum a b).x + fi b.x * fi (sSum a b).x = 1 - 2 * l * v
  e3 : fi a.x * fi b.x * fi (sSum a b).x = v * v
theorem third_line {a b : Sp} {s : Int} (hs : sSum a b = sThird a b s) (hl : fi s * (fi a.x - fi b.x) = fi a.y - fi b.y)
    (h : fi a.x*fi b.x+fi a.x*(fi s*fi s-(fi a.x+fi b.x))+fi b.x*(fi s*fi s-(fi a.x+fi b.x)) = 1-2*fi s*(fi a.y-fi s*fi a.x) ∧ fi a.x*fi b.x*(fi s*fi s-(fi a.x+fi b.x)) = (fi a.y-fi s*fi a.x)*(fi a.y-fi s*fi a.x)) :
    LineOf a b (fi s) (fi a.y - fi s * fi a.x) := by
  have ex : fi (sThird a b s).x = fi s*fi s-(fi a.x+fi b.x) := by
    show fi (pSub (pMul s s) (a.x + b.x)) = _
    rw [fi_pSub, fi_pMul, fi_add]
  have ey : fi (sThird a b s).y = -(fi s * (fi s*fi s-(fi a.x+fi b.x)) + (fi a.y - fi s * fi a.x)) := by
    show fi (pSub (pMul s (pSub a.x (sThird a b s).x)) a.y) = _
    rw [fi_pSub, fi_pMul, fi_pSub, ex]; grobner
  refine ⟨by grobner, by grobner, by rw [hs, ex, ey], by rw [hs]; rfl, by rw [hs, ex]; grobner, by rw [hs, ex]; exact h.1, by rw [hs, ex]; exact h.2⟩
theorem slope_line {a b : Sp} {s : Int} (ha : Ok a) (hb : Ok b) (fa : a.far = false) (fb : b.far = false) (hs : sSlope a b = some s) :
    LineOf a b (fi s) (fi a.y - fi s * fi a.x) := by
  have es : sSum a b = sThird a b s := by unfold sSum; rw [fa, fb, hs]; rfl
  have oa := ha.on fa; have ob := hb.on fb
  unfold sSlope at hs
  by_cases hx : a.x ≠ b.x
  · rw [if_pos hx] at hs
    have hne : fi a.x - fi b.x ≠ 0 := fun h => hx (fi_inj ⟨ha.x0, ha.x1⟩ ⟨hb.x0, hb.x1⟩ (by grobner))
    have e := Option.some.inj hs
    have hl : fi s * (fi a.x - fi b.x) = fi a.y - fi b.y := by
      rw [← e, fi_pMul, fi_pInv, fi_pSub, fi_pSub]
      have := inv_mul hne
      rw [show (fi a.y - fi b.y) * inv (fi a.x - fi b.x) * (fi a.x - fi b.x) = (fi a.y - fi b.y) * (inv (fi a.x - fi b.x) * (fi a.x - fi b.x)) by grobner, this]; grobner
    exact third_line es hl (chord_rel hne oa ob hl)
  · rw [if_neg hx] at hs
    by_cases hy : a.y ≠ b.y ∨ a.y = 0
    · rw [if_pos hy] at hs; cases hs
    · rw [if_neg hy] at hs
      have e := Option.some.inj hs
      have hy' : a.y = b.y ∧ a.y ≠ 0 := by omega
      have hne : 2 * fi a.y ≠ 0 := mul_ne two_ne (fun h => hy'.2 ((fi_zero_iff ⟨ha.y0, ha.y1⟩).mp h))
      have hl : fi s * (2 * fi a.y) = 3 * (fi a.x * fi a.x) + 1 := by
        rw [← e, fi_pMul, fi_pInv, fi_add, fi_pMul, fi_pMul, fi_mul]
        have h2 : fi 2 = 2 := rfl
        have h3 : fi 3 = 3 := rfl
        rw [h2, h3, fi_one]
        have := inv_mul hne
        rw [show (3 * (fi a.x * fi a.x) + 1) * inv (2 * fi a.y) * (2 * fi a.y) = (3 * (fi a.x * fi a.x) + 1) * (inv (2 * fi a.y) * (2 * fi a.y)) by grobner, this]; grobner
      have : b = a := Sp.ext' (Decidable.of_not_not hx).symm hy'.1.symm (fb.trans fa.symm)
      subst this
      exact third_line es (by grobner) (tangent_rel oa hl)
theorem slope_none {a b : Sp} (fa : a.far = false) (fb : b.far = false) (h : (sSum a b).far = false) : ∃ s, sSlope a b = some s := by
  cases e : sSlope a b with
  | none => exfalso; unfold sSum at h; rw [fa, fb, e] at h; cases h
  | some s => exact ⟨s, rfl⟩
/-- A line's value, as the program reckons it. -/
def zLine (a b t : Sp) : Z := match sSlope a b with
  | none => .one
  | some s => ⟨fi s * (fi t.x + fi a.x) - fi a.y, fi t.y⟩
theorem zLine_lv {a b t : Sp} {s : Int} (h : sSlope a b = some s) : zLine a b t = lv (fi s) (fi a.y - fi s * fi a.x) (fi t.x) (fi t.y) := by
  unfold zLine; rw [h]; exact Z.ext' (by simp only [lv]; grobner) rfl
/-- What one step of Miller's adds, of b, of c and of their sum. -/
theorem step_recip {a b T U : Sp} {s n : F} (hT : Ok T) (hU : Ok U) (fT : T.far = false) (fU : U.far = false) (fS : (sSum T U).far = false) (hl : LineOf a b s n) :
    ((zLine T U a).mul (zLine T U b)).mul (zLine T U (sSum a b)).conj =
      ((mv s n (fi T.x) (fi T.y)).mul (mv s n (fi U.x) (fi U.y))).mul (mv s n (fi (sSum T U).x) (fi (sSum T U).y)).conj := by
  obtain ⟨l, hs⟩ := slope_none fT fU fS
  have k := slope_line hT hU fT fU hs
  rw [zLine_lv hs, zLine_lv hs, zLine_lv hs, hl.ya, hl.yb, hl.yc, k.yb, k.yc]
  have := recip _ _ _ s n _ _ _ (fi l) (fi T.y - fi l * fi T.x) hl.e1 hl.e2 hl.e3 k.e1 k.e2 k.e3
  rw [this]
  have e : fi l * fi T.x + (fi T.y - fi l * fi T.x) = fi T.y := by grobner
  rw [e]
end Go.Proofs.YtebomakihdjllaaDoor
namespace Go.Proofs.YtebomakihdjllaaDoor
/-- One step: false: the number is squared, times the line that touches, the spot doubled; true: times the line through the spot and a, which is added. -/
def mstep (a b : Sp) (st : Z × Sp) (o : Bool) : Z × Sp :=
  if o then (st.1.mul (zLine st.2 a b), sSum st.2 a) else ((st.1.mul st.1).mul (zLine st.2 st.2 b), sSum st.2 st.2)
def mrun (a b : Sp) (ops : List Bool) : Z × Sp := ops.foldl (mstep a b) (.one, a)
def cstep (k : Nat) (o : Bool) : Nat := if o then k + 1 else k + k
/-- All that is met on the way is below 1013. -/
def cgood : Nat → List Bool → Bool
  | k, [] => Nat.beq k 1012
  | k, o :: l => Nat.ble (cstep k o) 1012 && cgood (cstep k o) l
theorem fi_y_ne {s : Sp} (h : Ok s) (hf : s.far = false) (h2 : (sSum s s).far = false) : fi s.y ≠ 0 := fun e => by
  have hy := (fi_zero_iff ⟨h.y0, h.y1⟩).mp e
  have : sSlope s s = none := by unfold sSlope; rw [if_neg (by simp), if_pos (Or.inr hy)]
  unfold sSum at h2; rw [hf, this] at h2; cases h2
theorem sq_far_false {a : Int} : (sq a).far = false ↔ a % 4052 ≠ 0 := by
  have := @sq_far a
  cases h : (sq a).far
  · rw [h] at this; simp at this; simp [this]
  · rw [h] at this; simp at this; simp [this]
theorem of_swap (r : F) (a b : Z) : (a.mul (.of r)).mul b = (Z.of r).mul (a.mul b) := by rw [Z.mul_comm a, Z.mul_assoc]
theorem norm_mv {s n t u : F} (h : u ≠ 0) : (mv s n t u).norm ≠ 0 := fun e => h (Z.norm_zero e).1
section
variable (i : Int) (b c : Sp) (s n : F)
/-- The value at so many times the first spot. -/
def mk' (k : Nat) : Z := mv s n (fi (sq (4 * i * k)).x) (fi (sq (4 * i * k)).y)
theorem mul_i_ne {i k : Int} (hi : i % 1013 ≠ 0) (h1 : 1 ≤ k) (h2 : k ≤ 1012) : (4 * i * k) % 4052 ≠ 0 := by
  intro h
  have h4 : (4 * (i * k)) % (4 * 1013) = 0 := by rw [← Int.mul_assoc]; exact h
  rw [Int.mul_emod_mul_of_pos _ _ (by decide)] at h4
  have h3 : (i * k) % 1013 = 0 := by omega
  have d : 1013 ∣ i.natAbs * k.natAbs := by rw [← Int.natAbs_mul]; exact Int.natAbs_dvd_natAbs.mpr (Int.dvd_of_emod_eq_zero h3)
  have p : Nat.Coprime 1013 k.natAbs := by
    have g : ∀ m : Nat, m < 1012 → Nat.gcd 1013 (m + 1) = 1 := by decide +kernel
    have e : k.natAbs = (k.natAbs - 1) + 1 := by omega
    unfold Nat.Coprime; rw [e]; exact g _ (by omega)
  have := Nat.Coprime.dvd_of_dvd_mul_right p d
  exact hi (by omega)
theorem far_k {i : Int} {k : Nat} (hi : i % 1013 ≠ 0) (h1 : 1 ≤ k) (h2 : k ≤ 1012) : (sq (4 * i * k)).far = false :=
  sq_far_false.mpr (mul_i_ne hi (by omega) (by omega))
theorem y_k {i : Int} {k : Nat} (hi : i % 1013 ≠ 0) (h1 : 1 ≤ k) (h2 : k ≤ 1012) : fi (sq (4 * i * k)).y ≠ 0 := by
  refine fi_y_ne (sq_ok _) (far_k hi h1 h2) ?_
  rw [sq_add]
  refine sq_far_false.mpr fun h => ?_
  have h3 := mul_i_ne (i := i) (k := k) hi (by omega) (by omega)
  rw [Int.mul_assoc] at h h3
  generalize i * (k : Int) = m at *
  omega
def Good (k : Nat) (fb fc fd : Z) : Prop := ∃ r : F, r ≠ 0 ∧ (fb.mul fc).mul fd.conj = (Z.of r).mul (((mk' i s n 1).pow k).mul (mk' i s n k).conj)
theorem good_start (hi : i % 1013 ≠ 0) : Good i s n 1 .one .one .one := by
  refine ⟨inv (mk' i s n 1).norm, fun h => ?_, ?_⟩
  · have := mul_inv (norm_mv (s := s) (n := n) (t := fi (sq (4 * i * (1 : Nat))).x) (y_k (k := 1) hi (by decide) (by decide)))
    have e : (mk' i s n 1).norm * inv (mk' i s n 1).norm = 1 := this
    rw [h] at e; exact one_ne (by rw [← e]; grobner)
  · have h1 : ((mk' i s n 1).pow 1).mul (mk' i s n 1).conj = .of (mk' i s n 1).norm := by
      rw [← Z.mul_conj, Z.pow_one]
    have e : inv (mk' i s n 1).norm * (mk' i s n 1).norm = 1 := inv_mul (norm_mv (y_k (k := 1) hi (by decide) (by decide)))
    rw [h1, Z.of_mul, e]
    exact Z.ext' (by decide) (by decide)
instance : Std.Associative Z.mul := ⟨Z.mul_assoc⟩
instance : Std.Commutative Z.mul := ⟨Z.mul_comm⟩
theorem dbl_alg (a b c x y z : Z) : (((a.mul a).mul x).mul ((b.mul b).mul y)).mul ((c.mul c).mul z) = (((a.mul b).mul c).mul ((a.mul b).mul c)).mul ((x.mul y).mul z) := by ac_rfl
theorem add_alg (a b c x y z : Z) : ((a.mul x).mul (b.mul y)).mul (c.mul z) = ((a.mul b).mul c).mul ((x.mul y).mul z) := by ac_rfl
theorem dbl_alg2 (r p t u v : Z) : ((r.mul (p.mul u)).mul (r.mul (p.mul u))).mul ((t.mul t).mul v) = ((r.mul r).mul ((t.mul u).mul (t.mul u))).mul ((p.mul p).mul v) := by ac_rfl
theorem add_alg2 (r p m t u v : Z) : (r.mul (p.mul u)).mul ((t.mul m).mul v) = (r.mul (t.mul u)).mul ((p.mul m).mul v) := by ac_rfl
theorem good_step {i : Int} {b c : Sp} {s n : F} (hi : i % 1013 ≠ 0) (hl : LineOf b c s n) {k : Nat} {o : Bool} (h1 : 1 ≤ k) (hk : k ≤ 1012) (h2 : cstep k o ≤ 1012) {fb fc fd : Z} (h : Good i s n k fb fc fd) :
    Good i s n (cstep k o) (mstep (sq (4 * i)) b (fb, sq (4 * i * k)) o).1 (mstep (sq (4 * i)) c (fc, sq (4 * i * k)) o).1 (mstep (sq (4 * i)) (sSum b c) (fd, sq (4 * i * k)) o).1 := by
  obtain ⟨r, hr, h⟩ := h
  have hn : (mk' i s n k).norm ≠ 0 := norm_mv (y_k hi h1 hk)
  have hc : (mk' i s n k).mul (mk' i s n k).conj = .of (mk' i s n k).norm := Z.mul_conj _
  cases o
  · simp only [cstep, Bool.false_eq_true, if_false] at h2
    have e : sSum (sq (4 * i * k)) (sq (4 * i * k)) = sq (4 * i * ((k + k : Nat) : Int)) := by rw [sq_add]; congr 1; rw [Int.natCast_add, Int.mul_add]
    have st := step_recip (sq_ok _) (sq_ok _) (far_k hi h1 hk) (far_k hi h1 hk) (by rw [e]; exact far_k hi (by omega) h2) hl
    rw [e] at st
    refine ⟨r * r * ((mk' i s n k).norm * (mk' i s n k).norm), mul_ne (mul_ne hr hr) (mul_ne hn hn), ?_⟩
    simp only [mstep, cstep, Bool.false_eq_true, if_false]
    rw [Z.conj_mul, Z.conj_mul, dbl_alg, h, st]
    show (((Z.of r).mul (((mk' i s n 1).pow k).mul (mk' i s n k).conj)).mul ((Z.of r).mul (((mk' i s n 1).pow k).mul (mk' i s n k).conj))).mul (((mk' i s n k).mul (mk' i s n k)).mul (mk' i s n (k + k)).conj) = _
    rw [dbl_alg2, hc, Z.of_mul, Z.of_mul, Z.of_mul, Z.pow_add]
  · simp only [cstep, if_true] at h2
    have e : sSum (sq (4 * i * k)) (sq (4 * i)) = sq (4 * i * ((k + 1 : Nat) : Int)) := by rw [sq_add]; congr 1; rw [Int.natCast_add, Int.mul_add]; simp
    have e1 : sq (4 * i) = sq (4 * i * (1 : Nat)) := by congr 1; simp
    have st := step_recip (sq_ok _) (sq_ok (4 * i)) (far_k hi h1 hk) (by rw [e1]; exact far_k hi (by decide) (by decide)) (by rw [e]; exact far_k hi (by omega) h2) hl
    rw [e] at st
    refine ⟨r * (mk' i s n k).norm, mul_ne hr hn, ?_⟩
    simp only [mstep, cstep, if_true]
    rw [Z.conj_mul, add_alg, h, st]
    have em : mv s n (fi (sq (4 * i)).x) (fi (sq (4 * i)).y) = mk' i s n 1 := by unfold mk'; rw [← e1]
    rw [em]
    show ((Z.of r).mul (((mk' i s n 1).pow k).mul (mk' i s n k).conj)).mul (((mk' i s n k).mul (mk' i s n 1)).mul (mk' i s n (k + 1)).conj) = _
    rw [add_alg2, hc, Z.of_mul, ← Z.pow_succ]
theorem cstep_ge {k : Nat} {o : Bool} (h : 1 ≤ k) : 1 ≤ cstep k o := by cases o <;> simp only [cstep] <;> simp <;> omega
theorem mstep_sp {i : Int} {b : Sp} {f : Z} {k : Nat} {o : Bool} : (mstep (sq (4 * i)) b (f, sq (4 * i * k)) o).2 = sq (4 * i * (cstep k o : Nat)) := by
  cases o
  · simp only [mstep, cstep, Bool.false_eq_true, if_false]; rw [sq_add]; congr 1; rw [Int.natCast_add, Int.mul_add]
  · simp only [mstep, cstep, if_true]; rw [sq_add]; congr 1; rw [Int.natCast_add, Int.mul_add]; simp
theorem good_run {i : Int} {b c : Sp} {s n : F} (hi : i % 1013 ≠ 0) (hl : LineOf b c s n) : ∀ (ops : List Bool) (k : Nat) (fb fc fd : Z), 1 ≤ k → k ≤ 1012 → cgood k ops = true → Good i s n k fb fc fd →
    Good i s n 1012 (ops.foldl (mstep (sq (4 * i)) b) (fb, sq (4 * i * k))).1 (ops.foldl (mstep (sq (4 * i)) c) (fc, sq (4 * i * k))).1 (ops.foldl (mstep (sq (4 * i)) (sSum b c)) (fd, sq (4 * i * k))).1
  | [], k, fb, fc, fd, _, _, hg, h => by
    simp only [cgood, Nat.beq_eq] at hg; subst hg; exact h
  | o :: l, k, fb, fc, fd, h1, hk, hg, h => by
    simp only [cgood, Bool.and_eq_true, Nat.ble_eq] at hg
    have g := good_step hi hl h1 hk hg.1 h
    have r := good_run hi hl l (cstep k o) _ _ _ (cstep_ge h1) hg.1 hg.2 g
    simp only [List.foldl_cons]
    have pe : ∀ (x : Sp) (f : Z), mstep (sq (4 * i)) x (f, sq (4 * i * k)) o = ((mstep (sq (4 * i)) x (f, sq (4 * i * k)) o).1, sq (4 * i * (cstep k o : Nat))) := fun x f => Prod.ext rfl mstep_sp
    rw [pe b, pe c, pe (sSum b c)]
    exact r
def e16200 : Nat := 4050 * 4
theorem ppow_add (a : F) (m : Nat) : ∀ n, a ^ (m + n) = a ^ m * a ^ n
  | 0 => by grobner
  | n+1 => by
    have h1 : a ^ (m + (n + 1)) = a ^ (m + n) * a := by rw [← Nat.add_assoc]; grobner
    have h2 : a ^ (n + 1) = a ^ n * a := by grobner
    rw [h1, h2, ppow_add a m n]; grobner
theorem ppow_mul (a : F) (m : Nat) : ∀ n, a ^ (m * n) = (a ^ m) ^ n
  | 0 => by rw [Nat.mul_zero]; grobner
  | n+1 => by
    have h2 : (a ^ m) ^ (n + 1) = (a ^ m) ^ n * a ^ m := by grobner
    rw [Nat.mul_succ, ppow_add, h2, ppow_mul a m n]
theorem pone_pow : ∀ n : Nat, (1 : F) ^ n = 1
  | 0 => by grobner
  | n+1 => by have : (1 : F) ^ (n+1) = 1 ^ n * 1 := by grobner
              rw [this, pone_pow n]; grobner
theorem pof_e {r : F} (h : r ≠ 0) : (Z.of r).pow e16200 = .one := by
  rw [Z.of_pow, show e16200 = (eInv + 1) * 4 from rfl, ppow_mul, fpow_inv h, pone_pow]; rfl
theorem whole_e {z : Z} (h : z.norm ≠ 0) : (z.pow 1013).pow e16200 = .one := by
  rw [← Z.pow_mul, show 1013 * e16200 = eNorm * (eInv + 1) from rfl, Z.pow_mul, frob_norm, Z.of_pow, fpow_inv h]; rfl
theorem conj_e {z : Z} (h : z.norm ≠ 0) : (z.pow e16200).mul (z.pow e16200).conj = .one := by
  rw [Z.mul_conj, Z.norm_pow, show e16200 = (eInv + 1) * 4 from rfl, ppow_mul, fpow_inv h, pone_pow]; rfl
end
end Go.Proofs.YtebomakihdjllaaDoor
namespace Go.Proofs.YtebomakihdjllaaDoor
attribute [local semireducible] Z.pow
theorem norm_one : Z.one.norm = 1 := by decide
theorem norm_line {a b t : Sp} (h : fi t.y ≠ 0) : (zLine a b t).norm ≠ 0 := by
  unfold zLine
  split
  · rw [norm_one]; decide
  · exact fun e => h (Z.norm_zero e).2
theorem norm_mstep {a b : Sp} (h : fi b.y ≠ 0) {st : Z × Sp} (hs : st.1.norm ≠ 0) (o : Bool) : (mstep a b st o).1.norm ≠ 0 := by
  cases o
  · simp only [mstep, Bool.false_eq_true, if_false]; rw [Z.norm_mul, Z.norm_mul]; exact mul_ne (mul_ne hs hs) (norm_line h)
  · simp only [mstep, if_true]; rw [Z.norm_mul]; exact mul_ne hs (norm_line h)
theorem norm_run {a b : Sp} (h : fi b.y ≠ 0) : ∀ (ops : List Bool) (st : Z × Sp), st.1.norm ≠ 0 → (ops.foldl (mstep a b) st).1.norm ≠ 0
  | [], _, hs => hs
  | o :: l, st, hs => by rw [List.foldl_cons]; exact norm_run h l _ (norm_mstep h hs o)
theorem run_sp {i : Int} {b : Sp} : ∀ (ops : List Bool) (k : Nat) (f : Z), cgood k ops = true → (ops.foldl (mstep (sq (4 * i)) b) (f, sq (4 * i * k))).2 = sq (4 * i * (1012 : Nat))
  | [], k, f, hg => by simp only [cgood, Nat.beq_eq] at hg; subst hg; rfl
  | o :: l, k, f, hg => by
    simp only [cgood, Bool.and_eq_true] at hg
    rw [List.foldl_cons, show mstep (sq (4 * i)) b (f, sq (4 * i * k)) o = ((mstep (sq (4 * i)) b (f, sq (4 * i * k)) o).1, sq (4 * i * (cstep k o : Nat))) from Prod.ext rfl mstep_sp]
    exact run_sp l _ _ hg.2
theorem sq_1012 (i : Int) : sq (4 * i * (1012 : Nat)) = sTurned (sq (4 * i)) := by
  rw [sq_neg]; exact sq_eq_iff.mpr (by omega)
theorem line_last {i : Int} (hi : i % 1013 ≠ 0) (b : Sp) : zLine (sq (4 * i * (1012 : Nat))) (sq (4 * i)) b = .one := by
  unfold zLine
  have : sSlope (sq (4 * i * (1012 : Nat))) (sq (4 * i)) = none := by
    cases e : sSlope (sq (4 * i * (1012 : Nat))) (sq (4 * i)) with
    | none => rfl
    | some s =>
      exfalso
      have e1 : sq (4 * i) = sq (4 * i * (1 : Nat)) := by congr 1; simp
      have f1 : (sq (4 * i)).far = false := by rw [e1]; exact far_k hi (by decide) (by decide)
      have f2 := far_k (i := i) (k := 1012) hi (by decide) (by decide)
      have h := (slope_line (sq_ok _) (sq_ok _) f2 f1 e).far
      rw [sq_add] at h
      have : (sq (4 * i * (1012 : Nat) + 4 * i)).far = true := sq_far.mpr (by omega)
      rw [this] at h; cases h
  rw [this]
/-- Miller's number along a chain, before the last power; 'ops' ends with the last adding. -/
def zM (ops : List Bool) (a b : Sp) : Z := (mrun a b (ops ++ [true])).1
theorem zM_eq {i : Int} (hi : i % 1013 ≠ 0) {ops : List Bool} (hg : cgood 1 ops = true) (b : Sp) : zM ops (sq (4 * i)) b = (mrun (sq (4 * i)) b ops).1 := by
  unfold zM mrun
  rw [List.foldl_append]
  have e1 : sq (4 * i) = sq (4 * i * (1 : Nat)) := by congr 1; simp
  have e : (ops.foldl (mstep (sq (4 * i)) b) (.one, sq (4 * i))).2 = sq (4 * i * (1012 : Nat)) := by
    conv => lhs; rw [show (Z.one, sq (4 * i)) = (Z.one, sq (4 * i * (1 : Nat))) by rw [← e1]]
    exact run_sp ops 1 _ hg
  simp only [List.foldl_cons, List.foldl_nil, mstep, if_true]
  rw [e, line_last hi, Z.mul_one]
def zP (ops : List Bool) (a b : Sp) : Z := (zM ops a b).pow e16200
theorem zP_sum {i : Int} (hi : i % 1013 ≠ 0) {ops : List Bool} (hg : cgood 1 ops = true) {b c : Sp} (hb : Ok b) (hc : Ok c) (fb : b.far = false) (fc : c.far = false) (fs : (sSum b c).far = false) (yd : fi (sSum b c).y ≠ 0) :
    (zP ops (sq (4 * i)) b).mul (zP ops (sq (4 * i)) c) = zP ops (sq (4 * i)) (sSum b c) := by
  obtain ⟨l, hs⟩ := slope_none fb fc fs
  have hl := slope_line hb hc fb fc hs
  have e1 : sq (4 * i) = sq (4 * i * (1 : Nat)) := by congr 1; simp
  have g := good_run hi hl ops 1 _ _ _ (by decide) (by decide) hg (good_start i _ _ hi)
  have em : ∀ x, (ops.foldl (mstep (sq (4 * i)) x) (.one, sq (4 * i * (1 : Nat)))).1 = zM ops (sq (4 * i)) x := fun x => by
    rw [zM_eq hi hg, mrun]; conv => rhs; rw [show (Z.one, sq (4 * i)) = (Z.one, sq (4 * i * (1 : Nat))) by rw [← e1]]
  rw [em, em, em] at g
  obtain ⟨r, hr, g⟩ := g
  have y1 := y_k (i := i) (k := 1) hi (by decide) (by decide)
  have ec : (mk' i (fi l) (fi b.y - fi l * fi b.x) 1012).conj = (Z.of (-1)).mul (mk' i (fi l) (fi b.y - fi l * fi b.x) 1) := by
    have ex : fi (sq (4 * i * (1012 : Nat))).x = fi (sq (4 * i * (1 : Nat))).x := by rw [sq_1012, ← e1]; rfl
    have ey : fi (sq (4 * i * (1012 : Nat))).y = - fi (sq (4 * i * (1 : Nat))).y := by
      rw [sq_1012, ← e1]; show fi ((-(sq (4 * i)).y) % 4051) = _; rw [fi_mod, fi_neg]
    unfold mk' mv
    rw [ex, ey]
    apply Z.ext'
    · simp only [Z.conj, Z.of, Z.mul]; grobner
    · simp only [Z.conj, Z.of, Z.mul]; grobner
  rw [ec] at g
  generalize hM : mk' i (fi l) (fi b.y - fi l * fi b.x) 1 = M at *
  have hMn : M.norm ≠ 0 := by rw [← hM]; exact norm_mv y1
  have g2 : ((zM ops (sq (4 * i)) b).mul (zM ops (sq (4 * i)) c)).mul (zM ops (sq (4 * i)) (sSum b c)).conj = (Z.of (-r)).mul (M.pow 1013) := by
    rw [g, show Z.of (-r) = (Z.of r).mul (.of (-1)) by rw [Z.of_mul]; congr 1; grobner, show M.pow 1013 = (M.pow 1012).mul M from rfl]
    ac_rfl
  have hr' : -r ≠ 0 := fun h => hr (by grobner)
  have k := congrArg (fun z => Z.pow z e16200) g2
  simp only [Z.mul_pow] at k
  rw [pof_e hr', whole_e hMn, Z.one_mul, ← Z.conj_pow] at k
  have nd : (zM ops (sq (4 * i)) (sSum b c)).norm ≠ 0 := by
    unfold zM mrun; exact norm_run yd _ _ (by rw [norm_one]; decide)
  have w := conj_e nd
  show ((zM ops (sq (4 * i)) b).pow e16200).mul ((zM ops (sq (4 * i)) c).pow e16200) = (zM ops (sq (4 * i)) (sSum b c)).pow e16200
  have k2 := congrArg (fun z => z.mul ((zM ops (sq (4 * i)) (sSum b c)).pow e16200)) k
  rw [Z.one_mul, Z.mul_assoc, Z.mul_comm (((zM ops (sq (4 * i)) (sSum b c)).pow e16200).conj), w, Z.mul_one] at k2
  exact k2
theorem pfour_far {j : Int} (h : j % 1013 ≠ 0) : (sq (4 * j)).far = false := sq_far_false.mpr (by omega)
theorem four_y {j : Int} (h : j % 1013 ≠ 0) : fi (sq (4 * j)).y ≠ 0 := by
  have := y_k (i := j) (k := 1) h (by decide) (by decide)
  rw [show (4 * j * ((1 : Nat) : Int)) = 4 * j by simp] at this; exact this
/-- Of j times the base it is the power j. -/
theorem zP_lin {i : Int} (hi : i % 1013 ≠ 0) {ops : List Bool} (hg : cgood 1 ops = true) : ∀ j : Nat, 1 ≤ j → j ≤ 1012 → zP ops (sq (4 * i)) (sq (4 * j)) = (zP ops (sq (4 * i)) (sq 4)).pow j
  | 0, h, _ => by omega
  | 1, _, _ => (Z.one_mul _).symm
  | j+2, _, h => by
    have ih := zP_lin hi hg (j+1) (by omega) (by omega)
    show _ = ((zP ops (sq (4 * i)) (sq 4)).pow (j+1)).mul (zP ops (sq (4 * i)) (sq 4))
    rw [← ih]
    have e : sSum (sq (4 * ((j+1 : Nat) : Int))) (sq 4) = sq (4 * ((j + 2 : Nat) : Int)) := by rw [sq_add]; exact sq_eq_iff.mpr (by omega)
    rw [← e]
    exact (zP_sum hi hg (sq_ok _) (sq_ok 4) (pfour_far (by omega)) (show (sq 4).far = false from pfour_far (j := 1) (by decide)) (by rw [e]; exact pfour_far (by omega)) (by rw [e]; exact four_y (by omega))).symm
theorem zM_norm {i : Int} {ops : List Bool} {j : Int} (hj : j % 1013 ≠ 0) : (zM ops (sq i) (sq (4 * j))).norm ≠ 0 := by
  unfold zM mrun; exact norm_run (four_y hj) _ _ (by rw [norm_one]; decide)
theorem zP_whole {i : Int} {ops : List Bool} {j : Int} (hj : j % 1013 ≠ 0) : (zP ops (sq i) (sq (4 * j))).pow 1013 = .one := by
  have := whole_e (zM_norm (i := i) (ops := ops) hj)
  unfold zP; rw [← Z.pow_mul, Nat.mul_comm, Z.pow_mul]; exact this
theorem zP_norm {i : Int} {ops : List Bool} {j : Int} (hj : j % 1013 ≠ 0) : (zP ops (sq i) (sq (4 * j))).norm = 1 := by
  unfold zP; rw [Z.norm_pow, show e16200 = (eInv + 1) * 4 from rfl, ppow_mul, fpow_inv (zM_norm hj), pone_pow]
def goOps : List Bool := [false, true, false, true, false, true, false, true, false, true, false, false, true, false, false]
theorem goOps_good : cgood 1 goOps = true := by decide
end Go.Proofs.YtebomakihdjllaaDoor
namespace Go.Proofs.YtebomakihdjllaaDoor
attribute [local semireducible] Z.pow
def nlD (k : Nat) : Nat × Nat :=
  let x := cx k; let y := cy k
  (((3 * x * x + 1) * (1189 + x) + 2 * y * (4051 - y)) % 4051, (2 * y * 3667) % 4051)
def nlA (k m : Nat) : Nat × Nat :=
  let x := cx k; let y := cy k; let d := x + (4051 - cx m)
  (((y + (4051 - cy m)) * (1189 + x) + (4051 - y) * d) % 4051, (d * 3667) % 4051)
def qm2 (p q : Nat × Nat) : Nat × Nat := qm p.1 p.2 q.1 q.2
def nstep (a : Nat) (st : (Nat × Nat) × Nat) (o : Bool) : (Nat × Nat) × Nat :=
  match o with
  | true => (qm2 st.1 (nlA st.2 a), (st.2 + a) % 4052)
  | false => (qm2 (qm2 st.1 st.1) (nlD st.2), (st.2 + st.2) % 4052)
def nrun (a : Nat) (ops : List Bool) : (Nat × Nat) × Nat := ops.foldl (nstep a) ((1, 0), a)
def fourth (p : Nat × Nat) : Nat × Nat := qm2 (qm2 p p) (qm2 p p)
def eqP (p q : Nat × Nat) : Bool := Nat.beq p.1 q.1 && Nat.beq p.2 q.2
def pairAt (ops : List Bool) (a : Nat) (z : Nat × Nat) : Bool :=
  let f := (nrun a ops).1
  eqP (fourth (f.1, (4051 - f.2) % 4051)) (qm2 (fourth f) z)
def chkP (ops : List Bool) : Nat → Nat → Nat × Nat → Bool
  | 0, _, _ => true
  | n+1, i, z => pairAt ops (4 * i) z && chkP ops n (i + 1) (qm2 z (2824, 4013))
theorem chkP_go : chkP goOps 1012 1 (2824, 4013) = true := by decide +kernel
theorem cT {k : Nat} (h1 : 1 ≤ k) (h2 : k < 4052) : fi (sp k).x = fi (cx k : Int) ∧ fi (sp k).y = fi (cy k : Int) ∧ (sp k).far = false ∧ cx k < 4051 ∧ cy k < 4051 := by
  have e := sp_table h1 (by omega)
  have o := sp_ok k
  rw [e] at o ⊢
  have a := o.x1; have b := o.y1
  exact ⟨rfl, rfl, rfl, by simp only [cSp] at a; omega, by simp only [cSp] at b; omega⟩
theorem base_xy : fi (sq 4).x = 1189 ∧ fi (sq 4).y = 3667 := by
  have e : sq 4 = cSp 4 := (sq_nat 4).trans (sp_table (by decide) (by decide))
  rw [e]; exact ⟨by decide +kernel, by decide +kernel⟩
theorem sub_fi {a b : Nat} (h : b ≤ 4051) : fi ((a + (4051 - b) : Nat) : Int) = fi (a : Int) - fi (b : Int) := by
  rw [← fi_sub]; exact fi_eq.mpr (by omega)
theorem neg_fi {b : Nat} (h : b ≤ 4051) : fi ((4051 - b : Nat) : Int) = - fi (b : Int) := by
  rw [← fi_neg]; exact fi_eq.mpr (by omega)
theorem mod_fi (a : Nat) : fi ((a % 4051 : Nat) : Int) = fi (a : Int) := fi_eq.mpr (by omega)
theorem nlA_ok {k m : Nat} (k1 : 1 ≤ k) (k2 : k < 4052) (m1 : 1 ≤ m) (m2 : m < 4052) (hx : (sp k).x ≠ (sp m).x) :
    ∃ r : F, r ≠ 0 ∧ zn (nlA k m) = (Z.of r).mul (zLine (sp k) (sp m) (sq 4)) := by
  obtain ⟨a1, a2, _, a4, a5⟩ := cT k1 k2
  obtain ⟨b1, b2, _, b4, b5⟩ := cT m1 m2
  have ok := sp_ok k; have om := sp_ok m
  have hne : fi (sp k).x - fi (sp m).x ≠ 0 := fun h => hx (fi_inj ⟨ok.x0, ok.x1⟩ ⟨om.x0, om.x1⟩ (by grobner))
  refine ⟨_, hne, ?_⟩
  have hs : sSlope (sp k) (sp m) = some (pMul (pSub (sp k).y (sp m).y) (pInv (pSub (sp k).x (sp m).x))) := by unfold sSlope; rw [if_pos hx]
  have hl : (fi (sp k).x - fi (sp m).x) * fi (pMul (pSub (sp k).y (sp m).y) (pInv (pSub (sp k).x (sp m).x))) = fi (sp k).y - fi (sp m).y := by
    rw [fi_pMul, fi_pInv, fi_pSub, fi_pSub]
    have := inv_mul hne
    rw [show (fi (sp k).x - fi (sp m).x) * ((fi (sp k).y - fi (sp m).y) * inv (fi (sp k).x - fi (sp m).x)) = (fi (sp k).y - fi (sp m).y) * (inv (fi (sp k).x - fi (sp m).x) * (fi (sp k).x - fi (sp m).x)) by grobner, this]; grobner
  unfold zLine
  rw [hs]
  simp only
  generalize fi (pMul (pSub (sp k).y (sp m).y) (pInv (pSub (sp k).x (sp m).x))) = s at *
  rw [base_xy.1, base_xy.2]
  apply Z.ext'
  · show fi (((cy k + (4051 - cy m)) * (1189 + cx k) + (4051 - cy k) * (cx k + (4051 - cx m))) % 4051 : Nat) = (fi (sp k).x - fi (sp m).x) * (s * (1189 + fi (sp k).x) - fi (sp k).y) - 0 * 3667
    rw [mod_fi, Int.natCast_add, Int.natCast_mul, Int.natCast_mul, fi_add, fi_mul, fi_mul, sub_fi (by omega), sub_fi (by omega), neg_fi (by omega), Int.natCast_add, fi_add, ← a1, ← a2, ← b1, ← b2, show fi ((1189 : Nat) : Int) = 1189 from rfl, ← hl]
    clear hl hs hne hx; grobner
  · show fi (((cx k + (4051 - cx m)) * 3667) % 4051 : Nat) = (fi (sp k).x - fi (sp m).x) * 3667 + 0 * _
    rw [mod_fi, Int.natCast_mul, fi_mul, sub_fi (by omega), ← a1, ← b1, show fi ((3667 : Nat) : Int) = 3667 from rfl]
    clear hl hs hne hx; grobner
theorem nlD_ok {k : Nat} (k1 : 1 ≤ k) (k2 : k < 4052) (hy : fi (sp k).y ≠ 0) :
    ∃ r : F, r ≠ 0 ∧ zn (nlD k) = (Z.of r).mul (zLine (sp k) (sp k) (sq 4)) := by
  obtain ⟨a1, a2, _, a4, a5⟩ := cT k1 k2
  have hy0 : ¬ ((sp k).y ≠ (sp k).y ∨ (sp k).y = 0) := fun h => h.elim (fun h => h rfl) (fun h => hy (by rw [h]; rfl))
  have hne : 2 * fi (sp k).y ≠ 0 := mul_ne two_ne hy
  refine ⟨_, hne, ?_⟩
  have hs : sSlope (sp k) (sp k) = some (pMul (pMul 3 (pMul (sp k).x (sp k).x) + 1) (pInv (2 * (sp k).y))) := by unfold sSlope; rw [if_neg (fun h => h rfl), if_neg hy0]
  have hl : 2 * fi (sp k).y * fi (pMul (pMul 3 (pMul (sp k).x (sp k).x) + 1) (pInv (2 * (sp k).y))) = 3 * (fi (sp k).x * fi (sp k).x) + 1 := by
    rw [fi_pMul, fi_pInv, fi_add, fi_pMul, fi_pMul, fi_mul]
    have h2 : fi 2 = 2 := rfl
    have h3 : fi 3 = 3 := rfl
    rw [h2, h3, fi_one]
    have := inv_mul hne
    rw [show 2 * fi (sp k).y * ((3 * (fi (sp k).x * fi (sp k).x) + 1) * inv (2 * fi (sp k).y)) = (3 * (fi (sp k).x * fi (sp k).x) + 1) * (inv (2 * fi (sp k).y) * (2 * fi (sp k).y)) by grobner, this]; grobner
  unfold zLine
  rw [hs]
  simp only
  generalize fi (pMul (pMul 3 (pMul (sp k).x (sp k).x) + 1) (pInv (2 * (sp k).y))) = s at *
  rw [base_xy.1, base_xy.2]
  apply Z.ext'
  · show fi (((3 * cx k * cx k + 1) * (1189 + cx k) + 2 * cy k * (4051 - cy k)) % 4051 : Nat) = (2 * fi (sp k).y) * (s * (1189 + fi (sp k).x) - fi (sp k).y) - 0 * 3667
    rw [mod_fi, Int.natCast_add, Int.natCast_mul, Int.natCast_mul, Int.natCast_mul, fi_add, fi_mul, fi_mul, fi_mul, neg_fi (by omega), Int.natCast_add, Int.natCast_add, Int.natCast_mul, Int.natCast_mul, fi_add, fi_add, fi_mul, fi_mul, ← a1, ← a2, show fi ((1189 : Nat) : Int) = 1189 from rfl, show fi ((1 : Nat) : Int) = 1 from rfl, show fi ((2 : Nat) : Int) = 2 from rfl, show fi ((3 : Nat) : Int) = 3 from rfl]
    rw [show 3 * fi (sp k).x * fi (sp k).x + 1 = 3 * (fi (sp k).x * fi (sp k).x) + 1 by grobner, ← hl]
    clear hl hs hne hy hy0; grobner
  · show fi ((2 * cy k * 3667) % 4051 : Nat) = (2 * fi (sp k).y) * 3667 + 0 * _
    rw [mod_fi, Int.natCast_mul, Int.natCast_mul, fi_mul, fi_mul, ← a2, show fi ((3667 : Nat) : Int) = 3667 from rfl, show fi ((2 : Nat) : Int) = 2 from rfl]
    clear hl hs hne hy hy0; grobner
theorem xne {a b : Sp} (fa : a.far = false) (fb : b.far = false) (h : a ≠ b) (fs : (sSum a b).far = false) : a.x ≠ b.x := fun e => by
  obtain ⟨s, hs⟩ := slope_none fa fb fs
  unfold sSlope at hs
  rw [if_neg (fun k => k e)] at hs
  by_cases hy : a.y ≠ b.y ∨ a.y = 0
  · rw [if_pos hy] at hs; cases hs
  · exact h (Sp.ext' e (by omega) (fa.trans fb.symm))
/-- An adding comes at no sooner than twice. -/
def agood : Nat → List Bool → Bool
  | _, [] => true
  | k, o :: l => (!o || Nat.ble 2 k) && agood (cstep k o) l
def NR (i k : Nat) (n : (Nat × Nat) × Nat) (st : Z × Sp) : Prop :=
  n.2 = (4 * i * k) % 4052 ∧ n.1.2 ≤ 4051 ∧ st.2 = sq (4 * (i : Int) * k) ∧ ∃ r : F, r ≠ 0 ∧ zn n.1 = (Z.of r).mul st.1
theorem sq_sp (i k : Nat) : sq (4 * (i : Int) * k) = sp ((4 * i * k) % 4052) := by
  rw [sp_mod, ← sq_nat]; congr 1
theorem qm2_ok (p q : Nat × Nat) (h : p.2 ≤ 4051) : (qm2 p q).2 ≤ 4051 ∧ zn (qm2 p q) = (zn p).mul (zn q) := ⟨qm_le _ _ _ _, qm_ok _ _ _ _ h⟩
theorem alg_a (r s : F) (f l : Z) : ((Z.of r).mul f).mul ((Z.of s).mul l) = (Z.of (r * s)).mul (f.mul l) := by
  rw [← Z.of_mul]; ac_rfl
theorem NR_step {i k : Nat} {o : Bool} (hi : (i : Int) % 1013 ≠ 0) (h1 : 1 ≤ k) (hk : k ≤ 1012) (h2 : cstep k o ≤ 1012) (ho : (!o || Nat.ble 2 k) = true) {n : (Nat × Nat) × Nat} {st : Z × Sp}
    (h : NR i k n st) : NR i (cstep k o) (nstep (4 * i % 4052) n o) (mstep (sq (4 * (i : Int))) (sq 4) st o) := by
  obtain ⟨n1, n2, n3, r, hr, n4⟩ := h
  have hf := far_k hi h1 hk
  have hp : 1 ≤ (4 * i * k) % 4052 := by
    have := mul_i_ne (i := i) (k := k) hi (by omega) (by omega)
    have c : ((4 * i * k : Nat) : Int) = 4 * (i : Int) * (k : Int) := by rw [Int.natCast_mul, Int.natCast_mul]; rfl
    rw [← c] at this
    omega
  obtain ⟨⟨p, q⟩, kk⟩ := n
  obtain ⟨f, T⟩ := st
  simp only at n1 n2 n3 n4
  subst n1 n3
  cases o
  · simp only [cstep, Bool.false_eq_true, if_false] at h2 ⊢
    have e : sSum (sq (4 * (i : Int) * k)) (sq (4 * (i : Int) * k)) = sq (4 * (i : Int) * ((k + k : Nat) : Int)) := by rw [sq_add]; congr 1; rw [Int.natCast_add, Int.mul_add]
    have ay := y_k hi h1 hk
    rw [sq_sp] at ay
    obtain ⟨s, hs, nl⟩ := nlD_ok hp (Nat.mod_lt _ (by decide)) ay
    have q1 := qm2_ok (p, q) (p, q) n2
    have q2 := qm2_ok (qm2 (p, q) (p, q)) (nlD ((4 * i * k) % 4052)) q1.1
    refine ⟨?_, q2.1, ?_, r * r * s, mul_ne (mul_ne hr hr) hs, ?_⟩
    · show ((4 * i * k) % 4052 + (4 * i * k) % 4052) % 4052 = (4 * i * (k + k)) % 4052
      rw [Nat.mul_add]; omega
    · simp only [mstep, Bool.false_eq_true, if_false]; exact e
    · show zn (qm2 (qm2 (p, q) (p, q)) (nlD ((4 * i * k) % 4052))) = _
      rw [q2.2, q1.2, nl, n4]
      simp only [mstep, Bool.false_eq_true, if_false]
      rw [sq_sp, alg_a, alg_a]
  · simp only [cstep, if_true] at h2 ⊢
    simp only [Bool.not_true, Bool.false_or, Nat.ble_eq] at ho
    have e1 : sq (4 * (i : Int)) = sq (4 * (i : Int) * (1 : Nat)) := by congr 1; simp
    have e : sSum (sq (4 * (i : Int) * k)) (sq (4 * (i : Int))) = sq (4 * (i : Int) * ((k + 1 : Nat) : Int)) := by rw [sq_add, show 4 * (i : Int) * ((k + 1 : Nat) : Int) = 4 * (i : Int) * k + 4 * (i : Int) by rw [Int.natCast_add, Int.mul_add, Int.natCast_one, Int.mul_one]]
    have fa : (sq (4 * (i : Int))).far = false := by rw [e1]; exact far_k hi (by decide) (by decide)
    have ne : sq (4 * (i : Int) * k) ≠ sq (4 * (i : Int)) := fun h => by
      have := sq_eq_iff.mp h
      have w := mul_i_ne (i := i) (k := (k : Int) - 1) hi (by omega) (by omega)
      rw [Int.mul_sub] at w
      simp only [Int.mul_one] at w
      omega
    have hx := xne hf fa ne (by rw [e]; exact far_k hi (by omega) h2)
    have hm : sq (4 * (i : Int)) = sp ((4 * i) % 4052) := by have := sq_sp i 1; rw [e1, this, Nat.mul_one]
    have hp2 : 1 ≤ (4 * i) % 4052 := by omega
    rw [sq_sp, hm] at hx
    obtain ⟨s, hs, nl⟩ := nlA_ok hp (Nat.mod_lt _ (by decide)) hp2 (Nat.mod_lt _ (by decide)) hx
    have q2 := qm2_ok (p, q) (nlA ((4 * i * k) % 4052) (4 * i % 4052)) n2
    refine ⟨?_, q2.1, ?_, r * s, mul_ne hr hs, ?_⟩
    · show ((4 * i * k) % 4052 + 4 * i % 4052) % 4052 = (4 * i * (k + 1)) % 4052
      rw [Nat.mul_add]; omega
    · simp only [mstep, if_true]; exact e
    · show zn (qm2 (p, q) (nlA ((4 * i * k) % 4052) (4 * i % 4052))) = _
      rw [q2.2, nl, n4]
      simp only [mstep, if_true]
      rw [sq_sp, hm, alg_a]
theorem NR_run {i : Nat} (hi : (i : Int) % 1013 ≠ 0) : ∀ (ops : List Bool) (k : Nat) (n : (Nat × Nat) × Nat) (st : Z × Sp), 1 ≤ k → k ≤ 1012 → cgood k ops = true → agood k ops = true → NR i k n st →
    NR i 1012 (ops.foldl (nstep (4 * i % 4052)) n) (ops.foldl (mstep (sq (4 * (i : Int))) (sq 4)) st)
  | [], k, _, _, _, _, hg, _, h => by simp only [cgood, Nat.beq_eq] at hg; subst hg; exact h
  | o :: l, k, n, st, h1, hk, hg, ha, h => by
    simp only [cgood, Bool.and_eq_true, Nat.ble_eq] at hg
    simp only [agood, Bool.and_eq_true] at ha
    exact NR_run hi l _ _ _ (cstep_ge h1) hg.1 hg.2 ha.2 (NR_step hi h1 hk hg.1 ha.1 h)
theorem cancelZ {a b c : Z} (hc : c.norm ≠ 0) (h : a.mul c = b.mul c) : a = b := by
  have e : (c.mul c.conj).mul (.of (inv c.norm)) = .one := by rw [Z.mul_conj, Z.of_mul, mul_inv hc]; rfl
  have := congrArg (fun z => z.mul (c.conj.mul (.of (inv c.norm)))) h
  have k : ∀ x : Z, (x.mul c).mul (c.conj.mul (.of (inv c.norm))) = x := fun x => by
    rw [show (x.mul c).mul (c.conj.mul (.of (inv c.norm))) = x.mul ((c.mul c.conj).mul (.of (inv c.norm))) by ac_rfl, e, Z.mul_one]
  rw [← k a, ← k b]; exact this
/-- The last power by what is turned. -/
theorem pow_conj {f z : Z} (hf : f.norm ≠ 0) (h : f.conj.pow 4 = (f.pow 4).mul z) : f.pow e16200 = z := by
  have a : (f.pow eNorm) = f.mul f.conj := by rw [frob_norm, Z.mul_conj]
  have b : (f.pow 4050).mul f = f.conj := by
    apply cancelZ hf
    rw [Z.mul_comm f.conj, ← a]; rfl
  have c : (f.pow e16200).mul (f.pow 4) = f.conj.pow 4 := by
    rw [← b, Z.mul_pow, ← Z.pow_mul]; rfl
  have n4 : (f.pow 4).norm ≠ 0 := by
    have : (f.pow 4) = (((Z.one.mul f).mul f).mul f).mul f := rfl
    rw [this, Z.one_mul, Z.norm_mul, Z.norm_mul, Z.norm_mul]; exact mul_ne (mul_ne (mul_ne hf hf) hf) hf
  apply cancelZ n4
  rw [c, h, Z.mul_comm]
theorem fourth_ok (p : Nat × Nat) (h : p.2 ≤ 4051) : zn (fourth p) = (zn p).pow 4 ∧ (fourth p).2 ≤ 4051 := by
  have a := qm2_ok p p h
  have b := qm2_ok (qm2 p p) (qm2 p p) a.1
  refine ⟨?_, b.1⟩
  unfold fourth
  rw [b.2, a.2]
  show _ = (((Z.one.mul (zn p)).mul (zn p)).mul (zn p)).mul (zn p)
  rw [Z.one_mul]; ac_rfl
theorem eqP_ok {p q : Nat × Nat} (h : eqP p q = true) : p = q := by
  simp only [eqP, Bool.and_eq_true, Nat.beq_eq] at h; exact Prod.ext h.1 h.2
theorem pairAt_ok {i : Nat} (hi : (i : Int) % 1013 ≠ 0) {ops : List Bool} (hg : cgood 1 ops = true) (ha : agood 1 ops = true) {z : Nat × Nat} (h : pairAt ops (4 * i % 4052) z = true) : zP ops (sq (4 * (i : Int))) (sq 4) = zn z := by
  have h0 : NR i 1 ((1, 0), 4 * i % 4052) (.one, sq (4 * (i : Int))) := ⟨by rw [Nat.mul_one], (by show 0 ≤ 4051; decide), by congr 1; simp, 1, one_ne, by rw [Z.mul_one]; rfl⟩
  obtain ⟨_, n2, _, r, hr, n4⟩ := NR_run hi ops 1 _ _ (by decide) (by decide) hg ha h0
  have hz := eqP_ok h
  unfold pairAt at h
  have e : zP ops (sq (4 * (i : Int))) (sq 4) = (mrun (sq (4 * (i : Int))) (sq 4) ops).1.pow e16200 := by unfold zP; rw [zM_eq hi hg]
  have nn : (mrun (sq (4 * (i : Int))) (sq 4) ops).1.norm ≠ 0 := by
    rw [← zM_eq hi hg]; exact zM_norm (j := 1) (by decide)
  change zn (nrun (4 * i % 4052) ops).1 = (Z.of r).mul (mrun (sq (4 * (i : Int))) (sq 4) ops).1 at n4
  change (nrun (4 * i % 4052) ops).1.2 ≤ 4051 at n2
  rw [e]
  generalize (mrun (sq (4 * (i : Int))) (sq 4) ops).1 = f at *
  generalize (nrun (4 * i % 4052) ops).1 = p at *
  have ef : (zn p).pow e16200 = f.pow e16200 := by rw [n4, Z.mul_pow, pof_e hr, Z.one_mul]
  rw [← ef]
  have hpn : (zn p).norm ≠ 0 := by rw [n4, Z.norm_mul, Z.norm_of]; exact mul_ne (mul_ne hr hr) nn
  apply pow_conj hpn
  have c : zn (p.1, (4051 - p.2) % 4051) = (zn p).conj := Z.ext' rfl (by
    show fi ((4051 - p.2) % 4051 : Nat) = - fi (p.2 : Int)
    rw [mod_fi, neg_fi n2])
  have l := fourth_ok (p.1, (4051 - p.2) % 4051) (by show (4051 - p.2) % 4051 ≤ 4051; omega)
  have r2 := fourth_ok p n2
  have m := qm2_ok (fourth p) z r2.2
  rw [← c, ← l.1, hz, m.2, r2.1]
theorem chkP_at (ops : List Bool) : ∀ (n i : Nat) (z : Nat × Nat), z.2 ≤ 4051 → chkP ops n i z = true → ∀ j, j < n → ∃ y : Nat × Nat, pairAt ops (4 * (i + j)) y = true ∧ zn y = (zn z).mul ((zn (2824, 4013)).pow j)
  | 0, _, _, _, _, _, hj => absurd hj (Nat.not_lt_zero _)
  | n+1, i, z, hz, h, j, hj => by
    simp only [chkP, Bool.and_eq_true] at h
    match j with
    | 0 => exact ⟨z, h.1, (Z.mul_one _).symm⟩
    | j+1 =>
      have q := qm2_ok z (2824, 4013) hz
      obtain ⟨y, y1, y2⟩ := chkP_at ops n (i+1) _ q.1 h.2 j (by omega)
      refine ⟨y, by rw [show i + (j + 1) = i + 1 + j by omega]; exact y1, ?_⟩
      rw [y2, q.2]
      show _ = (zn z).mul (((zn (2824, 4013)).pow j).mul (zn (2824, 4013)))
      ac_rfl
/-- The pair of the base and itself. -/
def zeta : Z := zn (2824, 4013)
theorem zP_base {ops : List Bool} (hg : cgood 1 ops = true) (ha : agood 1 ops = true) (hc : chkP ops 1012 1 (2824, 4013) = true) {i : Nat} (h1 : 1 ≤ i) (h2 : i ≤ 1012) : zP ops (sq (4 * (i : Int))) (sq 4) = zeta.pow i := by
  obtain ⟨y, y1, y2⟩ := chkP_at ops 1012 1 _ (by decide) hc (i - 1) (by omega)
  rw [show 1 + (i - 1) = i by omega] at y1
  have e : 4 * i % 4052 = 4 * i := Nat.mod_eq_of_lt (by omega)
  rw [← e] at y1
  rw [pairAt_ok (by omega) hg ha y1, y2, Z.mul_comm, show zeta.pow i = zeta.pow ((i - 1) + 1) by congr 1; omega]; rfl
theorem zP_all {ops : List Bool} (hg : cgood 1 ops = true) (ha : agood 1 ops = true) (hc : chkP ops 1012 1 (2824, 4013) = true) {i j : Nat} (h1 : 1 ≤ i) (h2 : i ≤ 1012) (h3 : 1 ≤ j) (h4 : j ≤ 1012) :
    zP ops (sq (4 * (i : Int))) (sq (4 * (j : Int))) = zeta.pow (i * j) := by
  rw [zP_lin (by omega) hg j h3 h4, zP_base hg ha hc h1 h2, Z.pow_mul]
theorem zeta_ne : zeta ≠ .one := fun h => by
  have := congrArg Z.re h; exact absurd this (by decide +kernel)
theorem zeta_whole : zeta.pow 1013 = .one := by
  have h := zP_base goOps_good (by decide) chkP_go (i := 1) (by decide) (by decide)
  have w := zP_whole (i := 4 * 1) (ops := goOps) (j := 1) (by decide)
  have e : zeta.pow 1 = zeta := Z.one_mul _
  rw [e] at h
  rw [← h]; exact w
theorem zeta_norm : zeta.norm = 1 := by decide +kernel
end Go.Proofs.YtebomakihdjllaaDoor
namespace Go.Proofs.YtebomakihdjllaaDoor
open Go.RowKit
set_option maxRecDepth 100000
set_option linter.unusedVariables false
set_option linter.unusedSimpArgs false
def LiftIs (x : Int) (L : Sp) (E : Value) : Prop := ∀ w : World, Calls Tryd.prog 78 #[.int .i64 x] w fun e w' => e = .returned (.tuple #[spV L, E]) ∧ Below w.heap.size w w'
theorem wrap_two (c d : UInt8) : IntKind.i64.wrap (IntKind.i64.wrap (IntKind.i64.wrap (c.toNat : Int) * 256) + IntKind.i64.wrap (d.toNat : Int)) = (c.toNat : Int) * 256 + (d.toNat : Int) := by
  have := c.toNat_lt; have := d.toNat_lt
  rw [IntWalk.i64_in (c.toNat : Int) (by omega), IntWalk.i64_in (d.toNat : Int) (by omega), IntWalk.i64_in ((c.toNat : Int) * 256) (by omega), IntWalk.i64_in _ (by omega)]
/-- What Unpack makes of three bytes whose place lifts to L, with error E. -/
def unS (c0 : UInt8) (L : Sp) : Sp := if c0.toNat = 2 then sTurned L else L
end Go.Proofs.YtebomakihdjllaaDoor
namespace Go.Proofs.YtebomakihdjllaaDoor
open Go.RowKit
set_option maxRecDepth 100000
set_option linter.unusedVariables false
set_option linter.unusedSimpArgs false
def unpackR : List UInt8 → Option Sp
  | [c] => if c = 0 then some sFar else none
  | [c0, c1, c2] => if inside ((c1.toNat : Int) * 256 + (c2.toNat : Int)) = true ∧ isSq (height ((c1.toNat : Int) * 256 + (c2.toNat : Int))) = true then
      (if ((sBytes (unS c0 (lifted ((c1.toNat : Int) * 256 + (c2.toNat : Int))))).toList == [c0, c1, c2]) = true then some (unS c0 (lifted ((c1.toNat : Int) * 256 + (c2.toNat : Int)))) else none) else none
  | _ => none
theorem unpackR_three (c0 c1 c2 : UInt8) : unpackR [c0, c1, c2] = if inside ((c1.toNat : Int) * 256 + (c2.toNat : Int)) = true ∧ isSq (height ((c1.toNat : Int) * 256 + (c2.toNat : Int))) = true then
      (if ((sBytes (unS c0 (lifted ((c1.toNat : Int) * 256 + (c2.toNat : Int))))).toList == [c0, c1, c2]) = true then some (unS c0 (lifted ((c1.toNat : Int) * 256 + (c2.toNat : Int)))) else none) else none := rfl
def unV : Option Sp → Value
  | some s => .tuple #[spV s, .nilIface]
  | none => .tuple #[spV ⟨0, 0, false⟩, .iface 69 (.int .i64 2)]
end Go.Proofs.YtebomakihdjllaaDoor
namespace Go.Proofs.YtebomakihdjllaaDoor
open Go.RowKit
set_option maxRecDepth 100000
set_option linter.unusedVariables false
set_option linter.unusedSimpArgs false
/-- Two bytes of a place are it again. -/
theorem two_bytes {x : Int} (h0 : 0 ≤ x) (h1 : x < 4051) : ((UInt8.ofNat (x / 256).toNat).toNat : Int) * 256 + ((UInt8.ofNat (x % 256).toNat).toNat : Int) = x := by
  rw [UInt8.toNat_ofNat', UInt8.toNat_ofNat']; omega
theorem sBytes_far {s : Sp} (hf : s.far = true) : (sBytes s).data.toList = [0] := by unfold sBytes; rw [if_pos hf]
theorem sBytes_big {s : Sp} (hf : s.far = false) (hy : pOf (-s.y) < s.y) : (sBytes s).data.toList = [2, UInt8.ofNat (s.x / 256).toNat, UInt8.ofNat (s.x % 256).toNat] := by
  unfold sBytes; rw [if_neg (by rw [hf]; decide), if_pos hy, strOfNums_data]; rfl
theorem sBytes_small {s : Sp} (hf : s.far = false) (hy : ¬ pOf (-s.y) < s.y) : (sBytes s).data.toList = [1, UInt8.ofNat (s.x / 256).toNat, UInt8.ofNat (s.x % 256).toNat] := by
  unfold sBytes; rw [if_neg (by rw [hf]; decide), if_neg hy, strOfNums_data]; rfl
theorem unpack_sBytes {s : Sp} (h : Ok s) : unpackR (sBytes s).data.toList = some s := by
  cases hf : s.far
  · have hx := two_bytes h.x0 h.x1
    have hs := ok_isSq h hf
    by_cases hy : pOf (-s.y) < s.y
    · rw [sBytes_big hf hy, unpackR_three, hx, if_pos ⟨h.ins, hs⟩]
      have e : unS 2 (lifted s.x) = s := by unfold unS; rw [if_pos (by decide)]; exact (lifted_gt h hf hy).symm
      rw [e, if_pos]; rw [ByteArray.toList_eq, sBytes_big hf hy]; simp
    · rw [sBytes_small hf hy, unpackR_three, hx, if_pos ⟨h.ins, hs⟩]
      have e : unS 1 (lifted s.x) = s := by unfold unS; rw [if_neg (by decide)]; exact (lifted_le h hf (by omega)).symm
      rw [e, if_pos]; rw [ByteArray.toList_eq, sBytes_small hf hy]; simp
  · rw [sBytes_far hf]; show (if (0 : UInt8) = 0 then some sFar else none) = some s
    rw [if_pos rfl, h.far_eq hf]
theorem unpack_some {l : List UInt8} {s : Sp} (h : unpackR l = some s) : Ok s ∧ (sBytes s).data.toList = l := by
  match l, h with
  | [c], h =>
    have h : (if c = 0 then some sFar else none) = some s := h
    split at h
    · rename_i e; cases h; exact ⟨ok_far, by rw [sBytes_far rfl, e]⟩
    · cases h
  | [c0, c1, c2], h =>
    rw [unpackR_three] at h
    split at h
    · rename_i hi
      split at h
      · rename_i he
        have hl := lifted_ok hi.1 hi.2
        rw [ByteArray.toList_eq] at he
        cases h
        refine ⟨?_, by simpa using he⟩
        unfold unS; split
        · exact (turned_ok hl).1
        · exact hl
      · cases h
    · cases h
  | [], h => cases h
  | [_, _], h => cases h
  | _ :: _ :: _ :: _ :: _, h => cases h
theorem bytes_ext {a b : ByteArray} (h : a.data.toList = b.data.toList) : a = b := by
  obtain ⟨⟨x⟩⟩ := a; obtain ⟨⟨y⟩⟩ := b; simp only at h; rw [h]
theorem sBytes_inj {s t : Sp} (hs : Ok s) (ht : Ok t) (h : sBytes s = sBytes t) : s = t := by
  have := unpack_sBytes hs; rw [h, unpack_sBytes ht] at this; exact (Option.some.inj this).symm
end Go.Proofs.YtebomakihdjllaaDoor
namespace Go.Proofs.YtebomakihdjllaaDoor
open Go.RowKit
set_option maxRecDepth 100000
set_option linter.unusedVariables false
set_option linter.unusedSimpArgs false
set_option maxHeartbeats 1000000 in
theorem refBytes_far (x y : Int) (w : World) : Calls Tryd.prog 66 #[.agg #[.int .i64 x, .int .i64 y, .bool true]] w fun e w' => e = .returned (.string ⟨#[0]⟩) ∧ Below w.heap.size w w' := by
  go_enter Tryd.func66, Tryd.ntmps66
  go_wp2
  go_ret
  exact ⟨rfl, (by repeat (first | exact Below.refl _ _ | refine balloc ?_ _ | refine Below.drew ?_ | refine below_drewN ?_ _ | refine below_set ?_ (by first | omega | (dsimp only; omega)) _))⟩
set_option maxHeartbeats 1000000 in
theorem refBytes_big (x y : Int) (w : World) (x0 : 0 ≤ x) (x1 : x < 4051) (y0 : 0 ≤ y) (y1 : y < 4051) (h : 4051 < 2 * y) : Calls Tryd.prog 66 #[.agg #[.int .i64 x, .int .i64 y, .bool false]] w fun e w' => e = .returned (.string (strOfNums [2, x / 256, x % 256])) ∧ Below w.heap.size w w' := by
  have hcv := conv3 ((w.alloc (.cells #[.int .i64 x, .int .i64 y, .bool false] 23)).alloc (.cells #[.int .u8 2, .int .u8 (x / 256), .int .u8 (x % 256)] 5)) (w.heap.size + 1) 2 (x / 256) (x % 256) (by go_simp) (by go_simp) (by go_simp)
  go_enter Tryd.func66, Tryd.ntmps66
  go_wp2
  go_ret
  exact ⟨rfl, balloc (below_alloc _ _) _⟩
set_option maxHeartbeats 1000000 in
theorem refBytes_small (x y : Int) (w : World) (x0 : 0 ≤ x) (x1 : x < 4051) (y0 : 0 ≤ y) (y1 : y < 4051) (h : ¬ 4051 < 2 * y) : Calls Tryd.prog 66 #[.agg #[.int .i64 x, .int .i64 y, .bool false]] w fun e w' => e = .returned (.string (strOfNums [1, x / 256, x % 256])) ∧ Below w.heap.size w w' := by
  have hcv := conv3 ((w.alloc (.cells #[.int .i64 x, .int .i64 y, .bool false] 23)).alloc (.cells #[.int .u8 1, .int .u8 (x / 256), .int .u8 (x % 256)] 5)) (w.heap.size + 1) 1 (x / 256) (x % 256) (by go_simp) (by go_simp) (by go_simp)
  go_enter Tryd.func66, Tryd.ntmps66
  go_wp2
  go_ret
  exact ⟨rfl, balloc (below_alloc _ _) _⟩
theorem big_iff {y : Int} (y0 : 0 ≤ y) (y1 : y < 4051) : pOf (-y) < y ↔ 4051 < 2 * y := by
  by_cases h : y = 0
  · subst h; unfold pOf; decide
  · have e : pOf (-y) = 4051 - y := by
      unfold pOf
      rw [show -y = (4051 - y) + 4051 * (-1) by omega, Int.add_mul_emod_self_left]
      exact Int.emod_eq_of_lt (by omega) (by omega)
    rw [e]; omega
theorem refBytes_c (s : Sp) (w : World) (h : Ok s) : Calls Tryd.prog 66 #[spV s] w fun e w' => e = .returned (.string (sBytes s)) ∧ Below w.heap.size w w' := by
  have x0 := h.x0; have x1 := h.x1; have y0 := h.y0; have y1 := h.y1
  obtain ⟨x, y, f⟩ := s
  simp only at x0 x1 y0 y1
  cases f
  · by_cases hy : pOf (-y) < y
    · have e : sBytes ⟨x, y, false⟩ = strOfNums [2, x / 256, x % 256] := by simp [sBytes, hy]
      rw [e]; exact refBytes_big x y w x0 x1 y0 y1 ((big_iff y0 y1).mp hy)
    · have e : sBytes ⟨x, y, false⟩ = strOfNums [1, x / 256, x % 256] := by simp [sBytes, hy]
      rw [e]; exact refBytes_small x y w x0 x1 y0 y1 (fun c => hy ((big_iff y0 y1).mpr c))
  · exact refBytes_far x y w
theorem refBytes_e (s : Sp) (B : ByteArray) (w : World) (h : Ok s) (hB : Hid (sBytes s = B)) : Calls Tryd.prog 66 #[spV s] w fun e w' => e = .returned (.string B) ∧ Below w.heap.size w w' := by
  have := refBytes_c s w h; rw [hB.out] at this; exact this
set_option maxHeartbeats 1000000 in
theorem refList_nil (a : Option Addr) (cap : Nat) (w : World) : Calls Tryd.prog 45 #[.slice a 0 cap] w fun e w' => e = .returned (.string (strOfNums [0])) ∧ Below w.heap.size w w' := by
  have hcv := conv1 (w.alloc (.cells #[.int .u8 0] 5)) w.heap.size 0 (by go_simp)
  go_enter Tryd.func45, Tryd.ntmps45
  go_wp2
  refine wp_loop_rounds 1 ?_
  rw [rounds_succ]
  go_wp2
  go_ret
  exact ⟨rfl, below_alloc _ _⟩
set_option maxHeartbeats 1000000 in
theorem refList_ok (l : List Sp) (b off cap : Nat) (w : World) (hl : l.length ≤ 12) (hs : SpotsAt w b off l) (h : Hid (∀ i (h : i < l.length), Ok l[i])) :
    Calls Tryd.prog 45 #[.slice (some ⟨b, off, none⟩) l.length cap] w fun e w' => e = .returned (.string (lsB l.length l)) ∧ Below w.heap.size w w' := by
  have hcv := conv1 (w.alloc (.cells #[.int .u8 l.length] 5)) w.heap.size l.length (by go_simp)
  go_enter Tryd.func45, Tryd.ntmps45
  go_wp2
  have hss := Lib.hid (hs.below (below_alloc w (.cells #[.int .u8 l.length] 5)))
  have hBs := Lib.hid (below_alloc w (.cells #[.int .u8 l.length] 5))
  clear hcv hs
  generalize w.alloc (.cells #[.int .u8 l.length] 5) = w0 at *
  go_loopw [4, 5] (fun o i wr => ∃ n : Nat, n ≤ l.length ∧ i = .int .i64 n ∧ o = .string (lsB l.length (l.take n)) ∧ Below w0.heap.size w0 wr) (fun _ i _ => l.length - (intOf i).toNat)
  case atStart => exact ⟨0, Nat.zero_le _, rfl, rfl, Below.refl _ _⟩
  case round =>
    obtain ⟨n, hn, rfl, rfl, hb⟩ := hrel
    have hsr := hss.out.below hb
    by_cases hlt : n < l.length
    · have h1 := hsr.cx n hlt
      have h2 := hsr.cy n hlt
      have h3 := hsr.cf n hlt
      clear hsr
      have ho := h.out n hlt
      have hsn := Lib.hid (lsB_snoc l.length l n hlt)
      go_wp2_with fail
      refine (refBytes_c l[n] _ ho).mono ?_; rintro e w1 ⟨rfl, hb1⟩
      clear h1 h2 h3 ho
      have hz1 := lsB_size l.length (l.take n)
      have hz2 := sBytes_size l[n]
      have hz3 : (l.take n).length ≤ 12 := by rw [List.length_take]; omega
      have hz4 : (lsB l.length (l.take n)).size ≤ 37 := by omega
      clear hz1 hz3
      go_wp2
      go_roundw
      case rel => exact ⟨n + 1, by omega, by go_num, by rw [hsn.out], below_seq hb hb1⟩
      case measure => simp [intOf]; omega
    · have ht : Hid (l.take n = l) := List.take_of_length_le (by omega)
      go_wp2
      go_ret
      exact ⟨ret_string (by rw [ht.out]), below_seq hBs.out hb⟩
end Go.Proofs.YtebomakihdjllaaDoor
namespace Go.Proofs.YtebomakihdjllaaDoor
open Go.RowKit
set_option maxRecDepth 100000
set_option linter.unusedVariables false
set_option linter.unusedSimpArgs false
set_option maxHeartbeats 1000000 in
theorem refLong_c (s : ByteArray) (w : World) (hs : s.size ≤ 9223372036854775807) : Calls Tryd.prog 65 #[.string s] w fun e w' => e = .returned (.int .i64 (lng s.data.toList)) ∧ Below w.heap.size w w' := by
  have hlen : s.data.toList.length = s.size := rfl
  have HL := Lib.hid hlen; clear hlen
  go_enter Tryd.func65, Tryd.ntmps65
  go_wp2
  go_loop [3, 4] (fun n i => ∃ k : Nat, k ≤ s.size ∧ i = .int .i64 k ∧ n = .int .i64 (lng (s.data.toList.take k))) (fun _ i => s.size - (intOf i).toNat)
  case atStart => exact ⟨0, Nat.zero_le _, rfl, by rw [List.take_zero, lng_nil]⟩
  case round =>
    obtain ⟨k, hk, rfl, rfl⟩ := hrel
    have h1 := (lng_bd (s.data.toList.take k)).1
    have h2 := (lng_bd (s.data.toList.take k)).2
    by_cases hlt : k < s.size
    · have ht : Hid (lng (s.data.toList.take (k + 1)) = (lng (s.data.toList.take k) * 263 + ((s[k]'hlt).toNat : Int) + 1) % 1000003) := lng_take s.data.toList k (by have := HL.out; omega)
      have h3 : (s[k]'hlt).toNat < 256 := UInt8.toNat_lt _
      go_wp2
      go_round
      case rel => exact ⟨k + 1, by omega, by go_num, by rw [ht.out]⟩
      case measure => simp [intOf]; omega
    · go_wp2
      go_ret
      exact ⟨ret_int (by rw [List.take_of_length_le (by have := HL.out; omega)]), (by repeat (first | exact Below.refl _ _ | refine balloc ?_ _ | refine Below.drew ?_ | refine below_drewN ?_ _ | refine below_set ?_ (by first | omega | (dsimp only; omega)) _))⟩
theorem refNumber_c (s : ByteArray) (w : World) (hs : s.size ≤ 9223372036854775807) : Calls Tryd.prog 44 #[.string s] w fun e w' => e = .returned (.int .i64 (hnum s.data.toList)) ∧ Below w.heap.size w w' := by
  have h1 := (lng_bd s.data.toList).1
  have h2 := (lng_bd s.data.toList).2
  go_enter Tryd.func44, Tryd.ntmps44
  go_wp2_with fail
  refine (refLong_c s _ hs).mono ?_; rintro e w1 ⟨rfl, hb⟩
  obtain ⟨hc1, hf1⟩ := bcell hb
  have z1 := hb.size
  try simp only [World.size_alloc, World.size_setCell, World.size_drew] at z1
  have hB1 : Below w.heap.size w w1 := below_seq (by repeat (first | exact Below.refl _ _ | refine balloc ?_ _ | refine Below.drew ?_ | refine below_drewN ?_ _ | refine below_set ?_ (by first | omega | (dsimp only; omega)) _)) hb
  clear hb
  go_wp2
  go_ret
  exact ⟨rfl, (by repeat (first | exact hB1 | exact Below.refl _ _ | refine balloc ?_ _ | refine Below.drew ?_ | refine below_drewN ?_ _ | refine below_set ?_ (by first | omega | (dsimp only; omega)) _))⟩
set_option maxHeartbeats 1000000 in
theorem refOf_c (s : ByteArray) (w : World) (hF : FarAt w) (hs : s.size ≤ 140737488351232) : Calls Tryd.prog 49 #[.string s] w fun e w' => e = .returned (spV (hSpot s.data.toList)) ∧ Below w.heap.size w w' := by
  have hF' := Lib.hid hF
  clear hF
  go_enter Tryd.func49, Tryd.ntmps49
  go_wp2
  go_loopw [3] (fun i wr => ∃ k : Nat, k ≤ 256 ∧ i = .int .i64 k ∧ hGo s.data.toList (256 - k) k = hSpot s.data.toList ∧ SpAt wr w.heap.size ⟨0, 0, false⟩ ∧ Below w.heap.size w wr) (fun i _ => 256 - (intOf i).toNat)
  case atStart => exact ⟨0, by omega, rfl, rfl, SpAt.fresh _ _ _ _ _, below_alloc _ _⟩
  case round =>
    obtain ⟨k, hk, rfl, hgo, hr, hB⟩ := hrel
    have hgo := Lib.hid hgo
    by_cases hlt : k < 256
    · have hcv := conv1 (wr.alloc (.cells #[.int .u8 k] 5)) wr.heap.size k (by go_simp)
      have hsz := strOf1 (k : Int)
      have htb := Lib.hid (text_byte s k)
      have hl0 := (lng_bd (s.data.toList ++ [UInt8.ofNat k])).1
      have hl1 := (lng_bd (s.data.toList ++ [UInt8.ofNat k])).2
      go_wp2_with fail
      refine (refLong_c _ _ (by rw [ByteArray.size_append]; omega)).mono ?_; rintro e w1 ⟨rfl, hb⟩
      rw [htb.out]
      have hr1 := (hr.alloc _).below hb
      have hB1 := below_seq (balloc hB _) hb
      clear hr hb hB hcv
      go_wp2_with fail
      change Calls _ _ #[.int .i64 (hX s.data.toList k)] _ _
      cases hq : isSq (height (hX s.data.toList k))
      · refine (refLift_n _ _ (hX_in _ _) hq).mono ?_; rintro e w2 ⟨rfl, hb⟩
        have hr2 := hr1.below hb
        have hB2 := below_seq hB1 hb
        have hm := Lib.hid (hGo_miss hlt (Or.inl hq))
        clear hr1 hb hB1 hl0 hl1 hq
        go_wp2
        go_roundw
        case rel => exact ⟨k + 1, by omega, by go_num, by rw [← hm.out]; exact hgo.out, hr2.alloc _, balloc hB2 _⟩
        case measure => simp [intOf]; omega
      · refine (refLift_y _ (lifted (hX s.data.toList k)) _ (hX_in _ _) hq rfl).mono ?_; rintro e w2 ⟨rfl, hb⟩
        have hr2 := hr1.below hb
        have hB2 := below_seq hB1 hb
        have hok := lifted_ok (hX_in s.data.toList k) hq
        have hQ := Lib.hid hq
        clear hr1 hb hB1 hl0 hl1 hq
        generalize hL : lifted (hX s.data.toList k) = L at *
        have hL := Lib.hid hL
        go_wp2_with fail
        refine (refFour_c L _ hok).mono ?_; rintro e w3 ⟨rfl, hb⟩
        have hr3 := (hr2.alloc _).below hb
        have hB3 := below_seq (balloc hB2 _) hb
        clear hr2 hb hB2 hok
        cases hf : (sFour L).far
        · have hm : Hid (sFour L = hSpot s.data.toList) := by
            show _ = _
            rw [← hgo.out, hGo_hit hlt hQ.out (by rw [hL.out]; exact hf), hL.out]
          obtain ⟨r0, r1, r2, fr0, fr1, fr2, hrl⟩ := hr3
          generalize hS : sFour L = S at *
          have hS := Lib.hid hS
          go_wp2
          have k := set3_cell (w := w3) (x := .int .i64 S.x) (y := .int .i64 S.y) (z := .bool false) r0 r1 r2
          refine bodyPost_ret (v := spV S) (by simp [results, Tryd.results49, go_sem, k.1, k.2.1, k.2.2, hf, hrl]) rfl ⟨by rw [hm.out], balloc (set3_below hB3 (by omega)) _⟩
        · have hm := Lib.hid (hGo_miss hlt (Or.inr (by rw [hL.out]; exact hf)))
          go_wp2
          go_roundw
          case rel => exact ⟨k + 1, by omega, by go_num, by rw [← hm.out]; exact hgo.out, hr3.alloc _, balloc hB3 _⟩
          case measure => simp [intOf]; omega
    · obtain rfl : k = 256 := by omega
      have hm : Hid (sq 4 = hSpot s.data.toList) := by show _ = _; rw [← hgo.out, hGo_end]
      go_wp2_with fail
      refine (refBase_c _).mono ?_; rintro e w1 ⟨rfl, hb⟩
      have hr1 := hr.below hb
      have hB1 := below_seq hB hb
      clear hr hb hB
      obtain ⟨r0, r1, r2, fr0, fr1, fr2, hrl⟩ := hr1
      go_wp2
      have k := set3_cell (w := w1) (x := .int .i64 (sq 4).x) (y := .int .i64 (sq 4).y) (z := .bool (sq 4).far) r0 r1 r2
      refine bodyPost_ret (v := spV (sq 4)) (by simp [results, Tryd.results49, go_sem, k.1, k.2.1, k.2.2]) rfl ⟨by rw [hm.out], set3_below hB1 (by omega)⟩
end Go.Proofs.YtebomakihdjllaaDoor
namespace Go.Proofs.YtebomakihdjllaaDoor
open Go.RowKit
set_option maxRecDepth 100000
set_option linter.unusedVariables false
set_option linter.unusedSimpArgs false
set_option maxHeartbeats 400000 in
theorem rSecret_y (n : Int) (w : World) (h1 : 1 ≤ n) (h2 : n < 1013) : Calls Tryd.prog 20 #[.int .i64 n] w fun e w' => e = .returned (.bool true) ∧ w = w' := by
  go_enter Tryd.func20, Tryd.ntmps20
  go_wp2
  go_ret
  exact ⟨rfl, rfl⟩
set_option maxHeartbeats 400000 in
theorem rSecret_n (n : Int) (w : World) (h : ¬ (1 ≤ n ∧ n < 1013)) : Calls Tryd.prog 20 #[.int .i64 n] w fun e w' => e = .returned (.bool false) ∧ w = w' := by
  by_cases h1 : 1 ≤ n
  · have h2 : ¬ n < 1013 := fun c => h ⟨h1, c⟩
    clear h
    go_enter Tryd.func20, Tryd.ntmps20
    go_wp2
    go_ret
    exact ⟨rfl, rfl⟩
  · clear h
    go_enter Tryd.func20, Tryd.ntmps20
    go_wp2
    go_ret
    exact ⟨rfl, rfl⟩
set_option maxHeartbeats 400000 in
theorem rRest_y (n : Int) (w : World) (h1 : 0 ≤ n) (h2 : n < 1013) : Calls Tryd.prog 19 #[.int .i64 n] w fun e w' => e = .returned (.bool true) ∧ w = w' := by
  go_enter Tryd.func19, Tryd.ntmps19
  go_wp2
  go_ret
  exact ⟨rfl, rfl⟩
set_option maxHeartbeats 400000 in
theorem rRest_n (n : Int) (w : World) (h : ¬ (0 ≤ n ∧ n < 1013)) : Calls Tryd.prog 19 #[.int .i64 n] w fun e w' => e = .returned (.bool false) ∧ w = w' := by
  by_cases h1 : 0 ≤ n
  · have h2 : ¬ n < 1013 := fun c => h ⟨h1, c⟩
    clear h
    go_enter Tryd.func19, Tryd.ntmps19
    go_wp2
    go_ret
    exact ⟨rfl, rfl⟩
  · clear h
    go_enter Tryd.func19, Tryd.ntmps19
    go_wp2
    go_ret
    exact ⟨rfl, rfl⟩
/-- Both, as Booleans. -/
def secB (n : Int) : Bool := decide (1 ≤ n ∧ n < 1013)
def resB (n : Int) : Bool := decide (0 ≤ n ∧ n < 1013)
theorem rSecret_b (n : Int) (b : Bool) (w : World) (h : Hid (secB n = b)) : Calls Tryd.prog 20 #[.int .i64 n] w fun e w' => e = .returned (.bool b) ∧ w = w' := by
  rw [← h.out]; unfold secB
  by_cases c : 1 ≤ n ∧ n < 1013
  · rw [decide_eq_true c]; exact rSecret_y n w c.1 c.2
  · rw [decide_eq_false c]; exact rSecret_n n w c
theorem rRest_b (n : Int) (b : Bool) (w : World) (h : Hid (resB n = b)) : Calls Tryd.prog 19 #[.int .i64 n] w fun e w' => e = .returned (.bool b) ∧ w = w' := by
  rw [← h.out]; unfold resB
  by_cases c : 0 ≤ n ∧ n < 1013
  · rw [decide_eq_true c]; exact rRest_y n w c.1 c.2
  · rw [decide_eq_false c]; exact rRest_n n w c
theorem refTimes_b (n : Int) (c : Sp) (w : World) (n0 : -9223372036854775808 ≤ n) (n1 : n ≤ 9223372036854775807) (h : Hid (sq (4 * n) = c)) : Calls Tryd.prog 21 #[spV ⟨1189, 3667, false⟩, .int .i64 n] w fun e w' => e = .returned (spV c) ∧ Below w.heap.size w w' :=
  refTimes_e ⟨1189, 3667, false⟩ c 4 n w n0 n1 sq_4.symm h
end Go.Proofs.YtebomakihdjllaaDoor
