/- Appending to a row of one's own: a whole slice of coins, or that many zeros; at a walk's step or at a step of a region that draws its order. -/
import Derived.Test.YtjjmelhhalomaaaGreatDoorBka
import Derived.Maps.AppendAt
import Derived.Deep.AppendSrc
namespace Go.Proofs.YtjjmelhhalomaaaGreatDoor
open Go.RowKit
set_option maxRecDepth 100000
set_option linter.unusedVariables false
set_option linter.unusedSimpArgs false
/-- What an append leaves. -/
def AppRun (w : World) (t tx : TypeId) (B e size : Nat) (v x : Value) (n : Nat) (ys : List Value) : Prop :=
  ∀ ty : TypeId, ∃ v' w', (Builtin.append_ #[t, tx] ty #[v, x]).run Tryz.prog w = .ok v' w' ∧ w'.ownsRow B e size v' n ys ∧ w.grownBy w' v.ownBlock ∧ (v'.ownBlock = v.ownBlock ∨ v'.ownBlock = some w.heap.size)
theorem AppRun.spots {w : World} {B : Nat} {v : Value} {l m : List Sp} {n : Nat} {a : Option Addr} {c : Nat} (hown : w.ownsRow B 28 3 v n (spCells l)) (hm : 0 < m.length → ∃ b o, a = some ⟨b, o, none⟩ ∧ SpotsAt w b o m) (hB : B ≤ w.heap.size) (hn : n ≤ 1000000) (hml : m.length ≤ 1000000) :
    AppRun w 38 38 B 28 3 v (.slice a m.length c) (n + m.length) (spCells l ++ spCells m) := by
  intro ty
  obtain ⟨i0, hi, hz0, hz1, hz2⟩ := info_parts info_spot
  cases a with
  | none =>
    have h0 : m.length = 0 := by
      by_cases h0 : 0 < m.length
      · obtain ⟨b, o, e, -⟩ := hm h0; cases e
      · omega
    obtain rfl := List.length_eq_zero_iff.mp h0
    refine ⟨v, w, ?_, by simpa [spCells] using hown, ⟨rfl, rfl, rfl, Nat.le_refl _, fun _ _ _ => rfl⟩, .inl rfl⟩
    have ht := Tryz.underlying38
    rcases hown.2 with ⟨rfl, rfl⟩ | ⟨g, cap, cur, rfl, _, _, hnc, _⟩
    · simp [Builtin.append_, run_underlying ht, sizeOf, typeInfo, hi, Builtin.lenOf, Builtin.firstCells]
    · simp [Builtin.append_, run_underlying ht, sizeOf, typeInfo, hi, Builtin.lenOf, Builtin.firstCells, hnc, storeCells]
  | some ad =>
    obtain ⟨v', w', h1, h2, h3, h4, h5⟩ := run_append_own_at w B 38 ty 28 i0 (.agg #[.int .i64 0, .int .i64 0, .bool false]) 3 24 Tryz.underlying38 hi hz0 hz1 hz2 rfl (by decide) v n (spCells l) hown ad m.length c (spCells m) (spCells_len m) (fun j u hj => by
      have hjn := (List.getElem?_eq_some_iff.1 hj).1
      rw [spCells_len] at hjn
      obtain ⟨b, o, e, hs⟩ := hm (by omega)
      cases e
      rw [add_none]
      exact hs.cells j u hj) (spCells_one m) (by unfold maxLen; omega) (by omega) hB
    exact ⟨v', w', h1, h2, h3, h5⟩
theorem spCells_app : ∀ l m : List Sp, spCells l ++ spCells m = spCells (l ++ m)
  | [], _ => rfl
  | s :: l, m => by simp only [List.cons_append, spCells, spCells_app l m]
theorem info_bool : (Tryz.prog.info? 4).map (fun i => (i.zero, i.size, i.bytes)) = some (some (.bool false), 1, 1) := by kernel_rfl
theorem zeroCells_one (z : Value) (n : Nat) : (Builtin.zeroCells #[z] n) = Array.replicate n z := by
  apply Array.ext
  · simp [Builtin.zeroCells]
  · intro i h1 h2
    simp [Builtin.zeroCells, Nat.mod_one]
section
variable (w : World)
theorem run_zeros_grow (base : Option Addr) (n cap m : Nat) (olds : List Value) (ty : TypeId) (hold : (Builtin.firstCells 1 n (.slice base n cap)).run Tryz.prog w.drew = .ok olds.toArray w.drew) (hg : cap < n + m) (hm : 0 < m) (h1 : n ≤ 1000000) (h2 : m ≤ 1000000) :
    (Builtin.append_ #[88, 3] ty #[.slice base n cap, .int .i64 (m : Int)]).run Tryz.prog w =
      .ok (.slice (some ⟨w.heap.size, 0, none⟩) (n + m) (grownCap w (n + m) cap 4)) (w.drew.alloc (.cells ((olds ++ List.replicate m (Value.bool false)).toArray ++ Builtin.zeroCells #[.bool false] (grownCap w (n + m) cap 4 - (n + m))) 4)) := by
  obtain ⟨i0, hi, hz0, hz1, hz2⟩ := info_parts info_bool
  have ht := Tryz.underlying88
  have hti := Tryz.underlying3
  have hwrap : IntKind.i64.wrap (m : Int) = m := by rw [IntKind.wrap_i64]; omega
  have hneg : ¬ ((m : Int) < 0) := by omega
  have hbig : ¬ ((281474976710656 : Int) < (m : Int)) := by omega
  have hn : ¬ (n + m ≤ cap) := by omega
  have h63' : ¬ (9223372036854775807 < ((n : Int) + (m : Int))) := by omega
  have hfit : Builtin.nextslicecap (n + m) cap * 1 ≤ 281474976710656 := growslice_fits (by omega) (by omega)
  have h48' : ¬ (281474976710656 < Builtin.nextslicecap (n + m) cap) := by omega
  have hz : (Builtin.zeroCells #[Value.bool false] m) = (List.replicate m (Value.bool false)).toArray := by rw [zeroCells_one]; simp
  have hm0 : ¬ (m = 0) := by omega
  simp [Builtin.append_, run_underlying ht, run_underlying hti, sizeOf, typeInfo, zeroValue, hi, hz0, hz1, hz2, asInt, hwrap, hneg, hbig, hn, h63', h48', Question.forced, hold, newRow, grownCap, hm0, hz, Value.cells, asIntOf]
  try (congr 2; apply Array.ext'; simp [List.append_assoc])
theorem run_zeros_room (g n cap m : Nat) (cur : Array Value) (ty : TypeId) (hg : w.heap[g]? = some (.cells cur 4 (0, 0))) (hroom : n + m ≤ cap) (hfit : n + m ≤ cur.size) (h1 : n ≤ 1000000) (h2 : m ≤ 1000000) :
    (Builtin.append_ #[88, 3] ty #[.slice (some ⟨g, 0, none⟩) n cap, .int .i64 (m : Int)]).run Tryz.prog w =
      .ok (.slice (some ⟨g, 0, none⟩) (n + m) cap) (w.setRow g (cur.toList.take n ++ List.replicate m (Value.bool false) ++ cur.toList.drop (n + m)).toArray) := by
  obtain ⟨i0, hi, hz0, hz1, hz2⟩ := info_parts info_bool
  have ht := Tryz.underlying88
  have hti := Tryz.underlying3
  have hwrap : IntKind.i64.wrap (m : Int) = m := by rw [IntKind.wrap_i64]; omega
  have hneg : ¬ ((m : Int) < 0) := by omega
  have hbig : ¬ ((281474976710656 : Int) < (m : Int)) := by omega
  have hz : (Builtin.zeroCells #[Value.bool false] m) = (List.replicate m (Value.bool false)).toArray := by rw [zeroCells_one]; simp
  have hst := run_storeCells_at Tryz.prog g n 4 (List.replicate m (Value.bool false)) 0 cur w hg (by simpa using hfit) (fun u hu => by rw [List.eq_of_mem_replicate hu]; rfl)
  simp only [Nat.add_zero, List.length_replicate] at hst
  by_cases hm0 : m = 0
  · subst hm0
    have hw0 : IntKind.i64.wrap 0 = 0 := by rw [IntKind.wrap_i64]; omega
    simp only [List.replicate_zero, Nat.add_zero] at hst
    have hroom0 : n ≤ cap := hroom
    simp [Builtin.append_, run_underlying ht, run_underlying hti, sizeOf, typeInfo, zeroValue, hi, hz0, hz1, hz2, asInt, hw0, hroom0, Value.cells, asIntOf, Addr.add_lit, hst]
  · simp [Builtin.append_, run_underlying ht, run_underlying hti, sizeOf, typeInfo, zeroValue, hi, hz0, hz1, hz2, asInt, hwrap, hneg, hbig, hroom, hm0, hz, Value.cells, asIntOf, Addr.add_lit, hst]
end
/-- That many zeros, as an append of made ones. -/
theorem AppRun.zeros {w : World} {B : Nat} {v : Value} {G : List Bool} {n : Nat} (m : Nat) (hown : w.ownsRow B 4 1 v n (G.map .bool)) (hB : B ≤ w.heap.size) (hn : n ≤ 1000000) (hml : m ≤ 1000000) :
    AppRun w 88 3 B 4 1 v (.int .i64 (m : Int)) (n + m) ((G ++ List.replicate m false).map .bool) := by
  intro ty
  obtain ⟨i0, hi, hz0, hz1, hz2⟩ := info_parts info_bool
  have ht := Tryz.underlying88
  have hti := Tryz.underlying3
  have hwrap : IntKind.i64.wrap (m : Int) = m := by rw [IntKind.wrap_i64]; omega
  have hneg : ¬ ((m : Int) < 0) := by omega
  have hbig : ¬ ((281474976710656 : Int) < (m : Int) * (1 : Int)) := by omega
  have hz : (Builtin.zeroCells #[Value.bool false] m) = (List.replicate m (Value.bool false)).toArray := by rw [zeroCells_one]; simp
  have hmap : (G ++ List.replicate m false).map Value.bool = G.map Value.bool ++ List.replicate m (Value.bool false) := by rw [List.map_append, List.map_replicate]
  rw [hmap]
  have hlen : (G.map Value.bool ++ List.replicate m (Value.bool false)).length = n + m := by have := hown.1; simp at this; simp; omega
  have hGn : (G.map Value.bool).length = n := by have := hown.1; simpa using this
  have grown : ∀ (old : Nat) (row : Option Nat), (w.drew.alloc (.cells ((G.map Value.bool ++ List.replicate m (Value.bool false)).toArray ++ Builtin.zeroCells #[Value.bool false] (grownCap w (n + m) old 4 - (n + m))) 4)).ownsRow B 4 1 (.slice (some ⟨w.heap.size, 0, none⟩) (n + m) (grownCap w (n + m) old 4)) (n + m) (G.map Value.bool ++ List.replicate m (Value.bool false)) ∧
      w.grownBy (w.drew.alloc (.cells ((G.map Value.bool ++ List.replicate m (Value.bool false)).toArray ++ Builtin.zeroCells #[Value.bool false] (grownCap w (n + m) old 4 - (n + m))) 4)) row := by
    intro old row
    have hge := grownCap_ge w (n + m) old 4
    have hcm : grownCap w (n + m) old 4 ≤ maxLen := grownCap_le_maxLen w (n + m) old 4 (by unfold maxLen; omega)
    refine ⟨⟨by omega, .inr ⟨w.heap.size, _, _, rfl, hB, heap_alloc_new w.drew _, hge, hcm, ?_, ?_⟩⟩, ⟨rfl, rfl, rfl, by simp, fun k hk _ => (World.grownBy_alloc w.drew _ none).block k hk (by simp)⟩⟩
    · rw [zeroCells_one, Array.size_append, List.size_toArray, Array.size_replicate, hlen]; omega
    · rw [Array.toList_append, Nat.mul_one, ← hlen]; exact List.take_left
  rcases hown.2 with ⟨rfl, rfl⟩ | ⟨g, cap, cur, rfl, hbg, hg, hnc, hcm, hcs, htake⟩
  · have hG : G = [] := List.eq_nil_of_length_eq_zero (by simpa using hGn)
    subst hG
    by_cases hm : m = 0
    · subst hm
      have hw0 : IntKind.i64.wrap 0 = 0 := by rw [IntKind.wrap_i64]; omega
      refine ⟨.slice none 0 0, w, ?_, World.ownsRow_nil w B _ 1, ⟨rfl, rfl, rfl, Nat.le_refl _, fun _ _ _ => rfl⟩, .inl rfl⟩
      simp [Builtin.append_, run_underlying ht, run_underlying hti, sizeOf, typeInfo, zeroValue, hi, hz0, hz1, hz2, asInt, asIntOf, hw0]
    · have hr := run_zeros_grow w none 0 0 m [] ty (by simp [Builtin.firstCells]) (by omega) (by omega) (by omega) hml
      have hgr := grown 0 (Value.ownBlock (.slice none 0 0))
      exact ⟨_, _, hr, hgr.1, hgr.2, .inr rfl⟩
  · by_cases hroom : n + m ≤ cap
    · have hr := run_zeros_room w g n cap m cur ty hg hroom (by omega) (by omega) hml
      refine ⟨_, _, hr, ⟨by omega, .inr ⟨g, cap, _, rfl, hbg, setRow_heap w g cur _ _ _ hg, hroom, hcm, ?_, ?_⟩⟩, ⟨rfl, rfl, rfl, by simp, fun k _ hk => setRow_other w g k _ (fun e => hk (by simp [Value.ownBlock, e]))⟩, .inl rfl⟩
      · simp only [List.size_toArray, List.length_append, List.length_take, List.length_drop, Array.length_toList, List.length_replicate]
        omega
      · rw [Nat.mul_one] at htake ⊢
        rw [htake, ← hlen]
        exact List.take_left
    · have holds := hown.cells (g := g) rfl
      have hr := run_zeros_grow w (some ⟨g, 0, none⟩) n cap m (G.map Value.bool) ty (run_firstCells_some w.drew 1 n ⟨g, 0, none⟩ n cap (G.map Value.bool) (by omega) (by simpa using holds)) (by omega) (by omega) (by omega) hml
      have hgr := grown cap (Value.ownBlock (.slice (some ⟨g, 0, none⟩) n cap))
      exact ⟨_, _, hr, hgr.1, hgr.2, .inr rfl⟩
section
variable {ops : Array Oper} {o : Oper} {a : Act} {w : World} {K : Act → World → Prop} {Q : Exit → Act → World → Prop} {E : Prop} {rest : List Oper}
/-- An append, at a walk's step. -/
theorem wpl_app {t tx : TypeId} {B e size n : Nat} {v x : Value} {ys : List Value} (hgd : o.guard = none) (s y : Operand) (ho : o.op = .call { callee := .builtin .append, args := #[s, y], argTypes := #[t, tx] }) (hr : AppRun w t tx B e size v x n ys) (hs : a.eval s = v) (hx : a.eval y = x)
    (h : ∀ v' w', w'.ownsRow B e size v' n ys → w.grownBy w' v.ownBlock → (v'.ownBlock = v.ownBlock ∨ v'.ownBlock = some w.heap.size) → wpList Tryz.prog ops Q rest (a.put o.dst v') w') :
    wpList Tryz.prog ops Q (o :: rest) a w := by
  refine wpList_plain hgd fun K hK => ?_
  obtain ⟨v', w', h1, h2, h3, h4⟩ := hr o.type
  unfold Oper.wp execOp
  simp only [ho, resolve, invoke, builtin, Sem.run_bind, Sem.run_pure, Result.andThen_ok, List.map_toArray, List.map_cons, List.map_nil, hs, hx, h1]
  exact hK _ _ (h v' w' h2 h3 h4)
/-- An append, at a step of a region that draws its order. -/
theorem step_app {t tx : TypeId} {B e size n : Nat} {v x : Value} {ys : List Value} (hgd : o.guard = none) (s y : Operand) (ho : o.op = .call { callee := .builtin .append, args := #[s, y], argTypes := #[t, tx] }) (hr : AppRun w t tx B e size v x n ys) (hs : a.eval s = v) (hx : a.eval y = x)
    (h : ∀ v' w', w'.ownsRow B e size v' n ys → w.grownBy w' v.ownBlock → (v'.ownBlock = v.ownBlock ∨ v'.ownBlock = some w.heap.size) → K (a.put o.dst v') w') :
    if Region.wanted o (yielded ops a.tmps) = true then Oper.wp Tryz.prog o a w K Q else E := by
  have hw : Region.wanted o (yielded ops a.tmps) = true := by simp [Region.wanted, hgd]
  rw [if_pos hw]
  obtain ⟨v', w', h1, h2, h3, h4⟩ := hr o.type
  unfold Oper.wp execOp
  simp only [ho, resolve, invoke, builtin, Sem.run_bind, Sem.run_pure, Result.andThen_ok, List.map_toArray, List.map_cons, List.map_nil, hs, hx, h1]
  exact h v' w' h2 h3 h4
end
end Go.Proofs.YtjjmelhhalomaaaGreatDoor
