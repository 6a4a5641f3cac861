/- Slices that a call has built itself: what they hold, read as arguments. -/
import Derived.Test.YtjjmelhhalomaaaGreatDoorFs
import Derived.WalkKit
import Derived.Maps.AppendAt
namespace Go.Proofs.YtjjmelhhalomaaaGreatDoor
open Go.RowKit
set_option linter.unusedVariables false
theorem own_below {w w' : World} {B e size n : Nat} {v : Value} {xs : List Value} (h : w.ownsRow B e size v n xs) (hb : Below w.heap.size w w') : w'.ownsRow B e size v n xs := by
  refine ⟨h.1, ?_⟩
  rcases h.2 with hn | ⟨g, cap, cur, rfl, hg, hgg, rest⟩
  · exact .inl hn
  · exact .inr ⟨g, cap, cur, rfl, hg, by rw [hb.block g (Array.getElem?_eq_some_iff.1 hgg).1]; exact hgg, rest⟩
/-- The cells of some spots. -/
def spCells : List Sp → List Value
  | [] => []
  | s :: l => .int .i64 s.x :: .int .i64 s.y :: .bool s.far :: spCells l
theorem spCells_len : ∀ l : List Sp, (spCells l).length = l.length * 3
  | [] => rfl
  | s :: l => by simp only [spCells, List.length_cons, spCells_len l]; omega
theorem spCells_snoc : ∀ (l : List Sp) (s : Sp), spCells (l ++ [s]) = spCells l ++ [.int .i64 s.x, .int .i64 s.y, .bool s.far]
  | [], _ => rfl
  | t :: l, s => by simp only [List.cons_append, spCells, spCells_snoc l s]
theorem spCells_get : ∀ (l : List Sp) (i : Nat) (h : i < l.length), (spCells l)[i * 3]? = some (.int .i64 l[i].x) ∧ (spCells l)[i * 3 + 1]? = some (.int .i64 l[i].y) ∧ (spCells l)[i * 3 + 2]? = some (.bool l[i].far)
  | [], _, h => absurd h (Nat.not_lt_zero _)
  | s :: l, 0, _ => ⟨rfl, rfl, rfl⟩
  | s :: l, i + 1, h => by
    have := spCells_get l i (by simpa using h)
    rw [Nat.add_mul]
    exact this
/-- A value that is a slice of these spots. -/
def SpSl (w : World) (v : Value) (l : List Sp) : Prop := ∃ a cap, v = .slice a l.length cap ∧ (0 < l.length → ∃ b off, a = some ⟨b, off, none⟩ ∧ SpotsAt w b off l)
/-- A value that is a slice of these ints. -/
def IntSl (w : World) (v : Value) (l : List Int) : Prop := ∃ a cap, v = .slice a l.length cap ∧ (0 < l.length → ∃ b off, a = some ⟨b, off, none⟩ ∧ IntsAt w b off l)
theorem SpSl.below {w w' : World} {v : Value} {l : List Sp} (h : SpSl w v l) (hb : Below w.heap.size w w') : SpSl w' v l := by
  obtain ⟨a, cap, rfl, h⟩ := h
  exact ⟨a, cap, rfl, fun h0 => by obtain ⟨b, off, e, hs⟩ := h h0; exact ⟨b, off, e, hs.below hb⟩⟩
theorem IntSl.below {w w' : World} {v : Value} {l : List Int} (h : IntSl w v l) (hb : Below w.heap.size w w') : IntSl w' v l := by
  obtain ⟨a, cap, rfl, h⟩ := h
  exact ⟨a, cap, rfl, fun h0 => by obtain ⟨b, off, e, hs⟩ := h h0; exact ⟨b, off, e, hs.below hb⟩⟩
theorem own_spots {w : World} {B e : Nat} {v : Value} {l : List Sp} {n : Nat} (h : w.ownsRow B e 3 v n (spCells l)) (hn : n = l.length) : SpSl w v l := by
  subst hn
  obtain ⟨hl, h | ⟨g, cap, cur, rfl, hb, hg, hc, -, -, ht⟩⟩ := h
  · obtain ⟨rfl, h0⟩ := h
    exact ⟨none, 0, by rw [h0], fun hp => absurd h0 (by omega)⟩
  · refine ⟨_, _, rfl, fun _ => ⟨g, 0, rfl, (Array.getElem?_eq_some_iff.1 hg).1, fun i hi => ?_, fun i hi => ?_, fun i hi => ?_⟩⟩
    all_goals
      obtain ⟨k1, k2, k3⟩ := spCells_get l i hi
      rw [cell_of_row w g _ cur e (0, 0) hg]
      simp only [Nat.zero_add]
      rw [← ht, List.getElem?_take, if_pos (by omega), Array.getElem?_toList] at k1 k2 k3
      assumption
theorem own_ints {w : World} {B e : Nat} {v : Value} {l : List Int} {n : Nat} (h : w.ownsRow B e 1 v n (l.map (Value.int .i64))) (hn : n = l.length) : IntSl w v l := by
  subst hn
  obtain ⟨hl, h | ⟨g, cap, cur, rfl, hb, hg, hc, -, -, ht⟩⟩ := h
  · obtain ⟨rfl, h0⟩ := h
    exact ⟨none, 0, by rw [h0], fun hp => absurd h0 (by omega)⟩
  · refine ⟨_, _, rfl, fun _ => ⟨g, 0, rfl, (Array.getElem?_eq_some_iff.1 hg).1, fun i hi => ?_⟩⟩
    have k1 : (l.map (Value.int .i64))[i]? = some (.int .i64 l[i]) := by simp [hi]
    rw [cell_of_row w g _ cur e (0, 0) hg]
    simp only [Nat.zero_add]
    rw [← ht, List.getElem?_take, if_pos (by omega), Array.getElem?_toList] at k1
    assumption
/-- Of a slice of ints that is handed in: what it holds. -/
theorem IntsV.sl {w : World} {v : Value} (h : IntsV w v) : ∃ l : List Int, IntSl w v l ∧ l.length ≤ 9223372036854775807 ∧ ∀ n ∈ l, (Lit.int .i64 n).wf = true := by
  rcases h with ⟨a, cap, rfl⟩ | ⟨b, off, cap, l, rfl, h1, h2, h3, h4⟩
  · exact ⟨[], ⟨a, cap, rfl, fun h => absurd h (Nat.lt_irrefl 0)⟩, by decide, fun n h => by cases h⟩
  · exact ⟨l, ⟨_, cap, rfl, fun _ => ⟨b, off, rfl, h3⟩⟩, by unfold maxLen at h2; omega, h4⟩
/-- Of a slice of spots that is handed in: what it holds. -/
theorem SpotsV.sl {w : World} {v : Value} (h : SpotsV w v) : ∃ l : List Sp, SpSl w v l ∧ l.length ≤ 9223372036854775807 := by
  rcases h with ⟨a, cap, rfl⟩ | ⟨b, off, cap, l, rfl, h1, h2, h3⟩
  · exact ⟨[], ⟨a, cap, rfl, fun h => absurd h (Nat.lt_irrefl 0)⟩, by decide⟩
  · exact ⟨l, ⟨_, cap, rfl, fun _ => ⟨b, off, rfl, h3⟩⟩, by unfold maxLen at h2; omega⟩
theorem SpSl.made (w : World) (l : List Sp) (k n cap : Nat) (cs : Array Value) (t : TypeId) (hk : k = w.heap.size) (hc : cs = (spCells l).toArray) (hn : n = l.length) : SpSl (w.alloc (.cells cs t)) (.slice (some ⟨k, 0, none⟩) n cap) l := by
  subst hk hc hn
  refine ⟨_, _, rfl, fun _ => ⟨w.heap.size, 0, rfl, by simp, fun i hi => ?_, fun i hi => ?_, fun i hi => ?_⟩⟩
  all_goals
    obtain ⟨k1, k2, k3⟩ := spCells_get l i hi
    rw [cell_of_row _ w.heap.size _ (spCells l).toArray t (0, 0) (heap_alloc_new w _)]
    simp only [Nat.zero_add, List.getElem?_toArray]
    assumption
theorem IntSl.made (w : World) (l : List Int) (k n cap : Nat) (cs : Array Value) (t : TypeId) (hk : k = w.heap.size) (hc : cs = (l.map (Value.int .i64)).toArray) (hn : n = l.length) : IntSl (w.alloc (.cells cs t)) (.slice (some ⟨k, 0, none⟩) n cap) l := by
  subst hk hc hn
  refine ⟨_, _, rfl, fun _ => ⟨w.heap.size, 0, rfl, by simp, fun i hi => ?_⟩⟩
  have k1 : (l.map (Value.int .i64))[i]? = some (.int .i64 l[i]) := by simp [hi]
  rw [cell_of_row _ w.heap.size _ (l.map (Value.int .i64)).toArray t (0, 0) (heap_alloc_new w _)]
  simp only [Nat.zero_add, List.getElem?_toArray]
  assumption
theorem info_spot : (Tryz.prog.info? 28).map (fun i => (i.zero, i.size, i.bytes)) = some (some (.agg #[.int .i64 0, .int .i64 0, .bool false]), 3, 24) := by kernel_rfl
theorem info_int : (Tryz.prog.info? 3).map (fun i => (i.zero, i.size, i.bytes)) = some (some (.int .i64 0), 1, 8) := by kernel_rfl
theorem wpl_append_spot {w : World} {ops : Array Oper} {rest : List Oper} {o : Oper} {a : Act} {Q : Exit → Act → World → Prop} (hgd : o.guard = none) (s x : Operand) (t : TypeId)
    (ho : o.op = .call { callee := .builtin .append, args := #[s, x], argTypes := #[t, t] }) (ht : Tryz.prog.underlying t = some (.slice 28)) (B : Nat) (v : Value) (l : List Sp) (n : Nat) (hs : a.eval s = v)
    (hown : w.ownsRow B 28 3 v n (spCells l)) (hn : l.length = n) (hl : n ≤ 1000000) (hB : B ≤ w.heap.size) (g : Nat) (c : Sp) (hx : a.eval x = .slice (some ⟨g, 0, none⟩) 1 1)
    (h0 : w.cell? ⟨g, 0, none⟩ = some (.int .i64 c.x)) (h1 : w.cell? ⟨g, 1, none⟩ = some (.int .i64 c.y)) (h2 : w.cell? ⟨g, 2, none⟩ = some (.bool c.far))
    (h : ∀ v' w', w'.ownsRow B 28 3 v' (n + 1) (spCells (l ++ [c])) → w.grownBy w' v.ownBlock → (∀ a, Below B a w → Below B a w') → (v'.ownBlock = v.ownBlock ∨ v'.ownBlock = some w.heap.size) → wpList Tryz.prog ops Q rest (a.put o.dst v') w') :
    wpList Tryz.prog ops Q (o :: rest) a w := by
  obtain ⟨i0, hi, hz0, hz1, hz2⟩ := info_parts info_spot
  refine wpList_append_own_at _ hgd s x _ ho B _ i0 _ 3 24 ht hi hz0 hz1 hz2 rfl (by decide) v n _ hs hown ⟨g, 0, none⟩ 1 1 [.int .i64 c.x, .int .i64 c.y, .bool c.far] hx rfl ?_ ?_ (by unfold maxLen; omega) (by omega) hB ?_
  · intro j u hj
    have e : ∀ k, (⟨g, 0, none⟩ : Addr).add k = ⟨g, k, none⟩ := fun k => by rw [add_none, Nat.zero_add]
    rw [e]
    match j, hj with
    | 0, hj => cases hj; exact h0
    | 1, hj => cases hj; exact h1
    | 2, hj => cases hj; exact h2
  · intro u hu
    simp only [List.mem_cons, List.not_mem_nil, or_false] at hu
    rcases hu with rfl | rfl | rfl <;> rfl
  · intro v' w' h3 h4 _ h6
    rw [← spCells_snoc] at h3
    exact h v' w' h3 h4 (fun a hb => Below.grown hb h4 hB (fun k hk => (hown.lt k hk).1)) h6
theorem wpl_append_int {w : World} {ops : Array Oper} {rest : List Oper} {o : Oper} {a : Act} {Q : Exit → Act → World → Prop} (hgd : o.guard = none) (s x : Operand) (t : TypeId)
    (ho : o.op = .call { callee := .builtin .append, args := #[s, x], argTypes := #[t, t] }) (ht : Tryz.prog.underlying t = some (.slice 3)) (B : Nat) (v : Value) (l : List Int) (n : Nat) (hs : a.eval s = v)
    (hown : w.ownsRow B 3 1 v n (l.map (Value.int .i64))) (hn : l.length = n) (hl : n ≤ 1000000) (hB : B ≤ w.heap.size) (g : Nat) (c : Int) (hx : a.eval x = .slice (some ⟨g, 0, none⟩) 1 1)
    (h0 : w.cell? ⟨g, 0, none⟩ = some (.int .i64 c))
    (h : ∀ v' w', w'.ownsRow B 3 1 v' (n + 1) ((l ++ [c]).map (Value.int .i64)) → w.grownBy w' v.ownBlock → (∀ a, Below B a w → Below B a w') → (v'.ownBlock = v.ownBlock ∨ v'.ownBlock = some w.heap.size) → wpList Tryz.prog ops Q rest (a.put o.dst v') w') :
    wpList Tryz.prog ops Q (o :: rest) a w := by
  obtain ⟨i0, hi, hz0, hz1, hz2⟩ := info_parts info_int
  refine wpList_append_own_at _ hgd s x _ ho B _ i0 _ 1 8 ht hi hz0 hz1 hz2 rfl (by decide) v n _ hs hown ⟨g, 0, none⟩ 1 1 [.int .i64 c] hx rfl ?_ ?_ (by unfold maxLen; omega) (by omega) hB ?_
  · intro j u hj
    have e : ∀ k, (⟨g, 0, none⟩ : Addr).add k = ⟨g, k, none⟩ := fun k => by rw [add_none, Nat.zero_add]
    rw [e]
    match j, hj with
    | 0, hj => cases hj; exact h0
  · intro u hu
    simp only [List.mem_cons, List.not_mem_nil, or_false] at hu
    subst hu; rfl
  · intro v' w' h3 h4 _ h6
    rw [show l.map (Value.int .i64) ++ [.int .i64 c] = (l ++ [c]).map (Value.int .i64) by simp] at h3
    exact h v' w' h3 h4 (fun a hb => Below.grown hb h4 hB (fun k hk => (hown.lt k hk).1)) h6
end Go.Proofs.YtjjmelhhalomaaaGreatDoor
