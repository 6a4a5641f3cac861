/- What the bound of the second form gives: how long a slice of ints may be. -/
import Derived.Test.YtnlaofapjldciaaDoorFs
import Derived.Test.YtnlaofapjldciaaDoorRows
namespace Go.Proofs.YtnlaofapjldciaaDoor
open Go.RowKit Go.WideShapes Go.ChangeShapes Go.ChangeAt
set_option linter.unusedVariables false
theorem bulk_one {H : Type} (d : DataW H) : 1 ≤ Rows.uptoBulk d := by
  cases d with
  | lit l => cases l <;> simp [Rows.uptoBulk]
  | nil => simp [Rows.uptoBulk]
  | ptr d => simp [Rows.uptoBulk]
  | slice elems spare => simp [Rows.uptoBulk]
  | agg parts => simp [Rows.uptoBulk]
  | iface t d => simp [Rows.uptoBulk]
  | map entries => simp [Rows.uptoBulk]
  | held h => simp [Rows.uptoBulk]
theorem bulk_len {H : Type} (l : List (DataW H)) : l.length ≤ Rows.uptoBulkAll l := by
  induction l with
  | nil => simp [Rows.uptoBulkAll]
  | cons x r ih => have := bulk_one x; simp only [Rows.uptoBulkAll, List.length_cons]; omega
theorem bulk_in {H : Type} {d : DataW H} {l : List (DataW H)} (h : d ∈ l) : Rows.uptoBulk d ≤ Rows.uptoBulkAll l := by
  induction l with
  | nil => cases h
  | cons x r ih =>
    simp only [Rows.uptoBulkAll]
    cases List.mem_cons.1 h with
    | inl e => subst e; omega
    | inr e => have := ih e; omega
theorem bulk_all {H : Type} {l : List (DataW H)} (hk : Rows.uptoSmall H l = true) : Rows.uptoBulkAll l ≤ 1048576 := of_decide_eq_true hk
section
variable {H : Type} {enc : TypeId × Value → H} {P : Program} {w : World} {base : Nat} {spare : Nat → Bool} {held : Bool}
theorem intl_bulk {r : Reach} {b0 : Nat} {t e : TypeId} {v : Value} {d : DataW H} {ps : List MemPlace} (ht : P.underlying t = some (.slice e)) (he : P.underlying e = some (.int .i64)) (hc : P.cellsOf e = 1)
    (hv : Value.okWide P w r b0 t v) (h : DataW.Trod enc P w base spare held t v d ps) : ∀ a n c, v = .slice a n c → n ≤ Rows.uptoBulk d := by
  obtain ⟨a, len, cap, rfl⟩ := okWide_slice ht hv
  obtain ⟨fuel, hf⟩ := h
  intro a2 n c heq
  injection heq with e1 e2 e3
  subst e2
  rcases ChangeShapes.open_ints ht he hc hf with ⟨hn, -⟩ | ⟨a', len', cap', zs, hcs, hb, hl, hm, hzl, hx, -⟩
  · simp [Value.cells] at hn; omega
  · simp [Value.cells] at hcs
    obtain ⟨-, e5, -⟩ := hcs
    have hd : d = .slice (ChangeShapes.lits .i64 (zs.take len')) (ChangeShapes.lits .i64 (zs.drop len')) := congrArg Prod.fst hx
    rw [hd]
    simp only [Rows.uptoBulk]
    have h1 := bulk_len (H := H) (ChangeShapes.lits .i64 (zs.take len'))
    have h2 : (ChangeShapes.lits (H := H) .i64 (zs.take len')).length = len' := by
      unfold ChangeShapes.lits
      rw [List.length_map, List.length_take]
      have : len' ≤ zs.length := by rw [hzl]; split <;> omega
      omega
    omega
end
end Go.Proofs.YtnlaofapjldciaaDoor
