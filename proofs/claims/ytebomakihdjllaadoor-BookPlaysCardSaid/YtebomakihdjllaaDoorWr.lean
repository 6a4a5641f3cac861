/- Walks of layer times: Times, Inside, In, Order. (Printed by gen_r.py.) -/
import Derived.Test.YtebomakihdjllaaDoorWq
namespace Go.Proofs.YtebomakihdjllaaDoor
open Go.RowKit
set_option maxRecDepth 100000
set_option linter.unusedVariables false
set_option linter.unusedSimpArgs false
@[go_sem] theorem field_far (x y : Value) (f : Bool) (w : World) : Sem.run Tryd.prog (Instr.field 23 (.agg #[x, y, .bool f]) 2) w = .ok (.bool f) w := by kernel_rfl
theorem timesOf_v (u n : Int) (w : World) (hF : FarAt w) : Calls Tryd.prog 41 #[.agg #[.int .i64 (sq u).x, .int .i64 (sq u).y, .bool (sq u).far], .int .i64 n] w fun e w' => e = .returned (.agg #[.int .i64 (sq (u * n)).x, .int .i64 (sq (u * n)).y, .bool (sq (u * n)).far]) ∧ Below w.heap.size w w' := timesOf_c u n w hF
theorem timesInside_c (u : Int) (w : World) (hF : FarAt w) : Calls Tryd.prog 55 #[spV (sq u)] w fun e w' => e = .returned (.bool (sq (u * 1013)).far) ∧ Below w.heap.size w w' := by
  go_enter Tryd.func55, Tryd.ntmps55
  go_wp2_with fail
  refine (timesOf_v u 1013 _ (hF.below (below_alloc w _))).mono ?_; rintro e w1 ⟨rfl, hb⟩
  have hbb := below_seq (below_alloc w _) hb
  clear hb
  go_wp2
  go_ret
  exact ⟨rfl, hbb⟩
/-- The order of the spot sq u, as it is looked for. -/
def ordOf (u : Int) : Int := if (sq (u * 1)).far = true then 1 else if (sq (u * 2)).far = true then 2 else if (sq (u * 4)).far = true then 4 else if (sq (u * 1013)).far = true then 1013 else if (sq (u * 2026)).far = true then 2026 else 4052
theorem ret_ord {a b : Int} (h : a = b) : Ending.returned (.tuple #[.int .i64 a, .nilIface]) = .returned (.tuple #[.int .i64 b, .nilIface]) := by rw [h]
def ordAt : Nat → Int
  | 0 => 1 | 1 => 2 | 2 => 4 | 3 => 1013 | _ => 2026
def notFar (u : Int) (n : Nat) : Prop := ∀ j, j < n → (sq (u * ordAt j)).far = false
theorem notFar_zero (u : Int) : Hid (notFar u 0) := fun j h => absurd h (by omega)
theorem notFar_succ {u : Int} {n : Nat} (h : notFar u n) (k : (sq (u * ordAt n)).far = false) : notFar u (n + 1) := fun j hj => by
  by_cases e : j < n
  · exact h j e
  · obtain rfl : j = n := by omega
    exact k
theorem notFar_0 {u : Int} (h : notFar u 0) (k : (sq (u * 1)).far = false) : Hid (notFar u (0 + 1)) := notFar_succ h k
theorem notFar_1 {u : Int} (h : notFar u 1) (k : (sq (u * 2)).far = false) : Hid (notFar u (1 + 1)) := notFar_succ h k
theorem notFar_2 {u : Int} (h : notFar u 2) (k : (sq (u * 4)).far = false) : Hid (notFar u (2 + 1)) := notFar_succ h k
theorem notFar_3 {u : Int} (h : notFar u 3) (k : (sq (u * 1013)).far = false) : Hid (notFar u (3 + 1)) := notFar_succ h k
theorem notFar_4 {u : Int} (h : notFar u 4) (k : (sq (u * 2026)).far = false) : Hid (notFar u (4 + 1)) := notFar_succ h k
theorem ord_0 {u : Int} (_h : notFar u 0) (k : (sq (u * 1)).far = true) : (1 : Int) = ordOf u := by
  unfold ordOf; simp only [k, if_true]
theorem ord_1 {u : Int} (h : notFar u 1) (k : (sq (u * 2)).far = true) : (2 : Int) = ordOf u := by
  have e0 : (sq (u * 1)).far = false := h 0 (by omega)
  unfold ordOf; simp only [e0, k, Bool.false_eq_true, if_false, if_true]
theorem ord_2 {u : Int} (h : notFar u 2) (k : (sq (u * 4)).far = true) : (4 : Int) = ordOf u := by
  have e0 : (sq (u * 1)).far = false := h 0 (by omega)
  have e1 : (sq (u * 2)).far = false := h 1 (by omega)
  unfold ordOf; simp only [e0, e1, k, Bool.false_eq_true, if_false, if_true]
theorem ord_3 {u : Int} (h : notFar u 3) (k : (sq (u * 1013)).far = true) : (1013 : Int) = ordOf u := by
  have e0 : (sq (u * 1)).far = false := h 0 (by omega)
  have e1 : (sq (u * 2)).far = false := h 1 (by omega)
  have e2 : (sq (u * 4)).far = false := h 2 (by omega)
  unfold ordOf; simp only [e0, e1, e2, k, Bool.false_eq_true, if_false, if_true]
theorem ord_4 {u : Int} (h : notFar u 4) (k : (sq (u * 2026)).far = true) : (2026 : Int) = ordOf u := by
  have e0 : (sq (u * 1)).far = false := h 0 (by omega)
  have e1 : (sq (u * 2)).far = false := h 1 (by omega)
  have e2 : (sq (u * 4)).far = false := h 2 (by omega)
  have e3 : (sq (u * 1013)).far = false := h 3 (by omega)
  unfold ordOf; simp only [e0, e1, e2, e3, k, Bool.false_eq_true, if_false, if_true]
theorem ord_5 {u : Int} (h : notFar u 5) : (4052 : Int) = ordOf u := by
  have e0 : (sq (u * 1)).far = false := h 0 (by omega)
  have e1 : (sq (u * 2)).far = false := h 1 (by omega)
  have e2 : (sq (u * 4)).far = false := h 2 (by omega)
  have e3 : (sq (u * 1013)).far = false := h 3 (by omega)
  have e4 : (sq (u * 2026)).far = false := h 4 (by omega)
  unfold ordOf; simp only [e0, e1, e2, e3, e4, Bool.false_eq_true, if_false]
end Go.Proofs.YtebomakihdjllaaDoor
