/- What is appended at a step of a region that draws its order: a share, a number, a spot. -/
import Derived.Test.YtnlaofapjldciaaOw
import Derived.Test.YtnlaofapjldciaaSpl
import Derived.Deep.AppendLies
import Derived.Deep.RegionHeld3
namespace Go.Proofs.Ytnlaofapjldciaa
open Go.RowKit
set_option linter.unusedVariables false
section
variable {ops : Array Oper} {o : Oper} {a : Act} {w : World} {K : Act → World → Prop} {Q : Exit → Act → World → Prop} {E : Prop}
theorem step_append_share (hgd : o.guard = none) (s x : Operand) (t : TypeId)
    (ho : o.op = .call { callee := .builtin .append, args := #[s, x], argTypes := #[t, t] }) (ht : Try.prog.underlying t = some (.slice 31)) (B : Nat) (v : Value) (l : List (Int × Int)) (n : Nat) (hs : a.eval s = v)
    (hown : w.ownsRow B 31 2 v n (shCells l)) (hn : l.length = n) (hl : n ≤ 1000000) (hB : B ≤ w.heap.size) (g : Nat) (c : Int × Int) (hx : a.eval x = .slice (some ⟨g, 0, none⟩) 1 1)
    (h0 : w.cell? ⟨g, 0, none⟩ = some (.int .i64 c.1)) (h1 : w.cell? ⟨g, 1, none⟩ = some (.int .i64 c.2))
    (h : ∀ v' w', w'.ownsRow B 31 2 v' (n + 1) (shCells (l ++ [c])) → w.grownBy w' v.ownBlock → (∀ a, Below B a w → Below B a w') → (v'.ownBlock = v.ownBlock ∨ v'.ownBlock = some w.heap.size) → K (a.put o.dst v') w') :
    if Region.wanted o (yielded ops a.tmps) = true then Oper.wp Try.prog o a w K Q else E := by
  obtain ⟨i0, hi, hz0, hz1, hz2⟩ := info_parts info_share
  refine step_append_lies w hgd s x _ ho B _ i0 _ 2 16 ht hi hz0 hz1 hz2 rfl (by decide) v n _ hs hown ⟨g, 0, none⟩ 1 1 [.int .i64 c.1, .int .i64 c.2] hx rfl ?_ ?_ (by decide) (by unfold maxLen; omega) (by omega) hB _ rfl ?_
  · intro j u hj
    have e : ∀ k, (⟨g, 0, none⟩ : Addr).add k = ⟨g, k, none⟩ := fun k => by rw [add_none, Nat.zero_add]
    rw [e]
    match j, hj with
    | 0, hj => cases hj; exact h0
    | 1, hj => cases hj; exact h1
  · intro u hu
    simp only [List.mem_cons, List.not_mem_nil, or_false] at hu
    rcases hu with rfl | rfl <;> rfl
  · intro k cap w' h3 h4 h5 _
    rw [← shCells_snoc] at h3
    refine h _ w' h3 h4 (fun a hb => Below.grown hb h4 hB (fun k hk => (hown.lt k hk).1)) ?_
    rcases h5 with h5 | h5
    · exact .inl (by rw [h5]; rfl)
    · exact .inr (by rw [h5]; rfl)
theorem step_append_int (hgd : o.guard = none) (s x : Operand) (t : TypeId)
    (ho : o.op = .call { callee := .builtin .append, args := #[s, x], argTypes := #[t, t] }) (ht : Try.prog.underlying t = some (.slice 3)) (B : Nat) (v : Value) (l : List Int) (n : Nat) (hs : a.eval s = v)
    (hown : w.ownsRow B 3 1 v n (l.map (Value.int .i64))) (hn : l.length = n) (hl : n ≤ 1000000) (hB : B ≤ w.heap.size) (g : Nat) (c : Int) (hx : a.eval x = .slice (some ⟨g, 0, none⟩) 1 1)
    (h0 : w.cell? ⟨g, 0, none⟩ = some (.int .i64 c))
    (h : ∀ v' w', w'.ownsRow B 3 1 v' (n + 1) ((l ++ [c]).map (Value.int .i64)) → w.grownBy w' v.ownBlock → (∀ a, Below B a w → Below B a w') → (v'.ownBlock = v.ownBlock ∨ v'.ownBlock = some w.heap.size) → K (a.put o.dst v') w') :
    if Region.wanted o (yielded ops a.tmps) = true then Oper.wp Try.prog o a w K Q else E := by
  obtain ⟨i0, hi, hz0, hz1, hz2⟩ := info_parts info_int
  refine step_append_lies w hgd s x _ ho B _ i0 _ 1 8 ht hi hz0 hz1 hz2 rfl (by decide) v n _ hs hown ⟨g, 0, none⟩ 1 1 [.int .i64 c] hx rfl ?_ ?_ (by decide) (by unfold maxLen; omega) (by omega) hB _ rfl ?_
  · intro j u hj
    have e : ∀ k, (⟨g, 0, none⟩ : Addr).add k = ⟨g, k, none⟩ := fun k => by rw [add_none, Nat.zero_add]
    rw [e]
    match j, hj with
    | 0, hj => cases hj; exact h0
  · intro u hu
    simp only [List.mem_cons, List.not_mem_nil, or_false] at hu
    subst hu; rfl
  · intro k cap w' h3 h4 h5 _
    rw [show l.map (Value.int .i64) ++ [.int .i64 c] = (l ++ [c]).map (Value.int .i64) by simp] at h3
    refine h _ w' h3 h4 (fun a hb => Below.grown hb h4 hB (fun k hk => (hown.lt k hk).1)) ?_
    rcases h5 with h5 | h5
    · exact .inl (by rw [h5]; rfl)
    · exact .inr (by rw [h5]; rfl)
end
end Go.Proofs.Ytnlaofapjldciaa
