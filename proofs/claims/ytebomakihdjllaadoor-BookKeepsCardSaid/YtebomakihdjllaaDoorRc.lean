/- Walk of the document's answer: what is wrong with a spot. -/
import Derived.Test.YtebomakihdjllaaDoorRb
import Derived.Test.YtebomakihdjllaaDoorWs
namespace Go.Proofs.YtebomakihdjllaaDoor
open Go.RowKit
set_option maxRecDepth 100000
set_option linter.unusedVariables false
set_option linter.unusedSimpArgs false
set_option maxHeartbeats 1000000 in
theorem refSpot_x0 (x y : Int) (f : Bool) (w : World) (h : x < 0) : Calls Tryd.prog 16 #[.agg #[.int .i64 x, .int .i64 y, .bool f]] w fun e w' => e = .returned (.int .i64 1) ∧ Below w.heap.size w w' := by
  go_enter Tryd.func16, Tryd.ntmps16
  go_wp2
  go_ret
  exact ⟨rfl, (by repeat (first | exact Below.refl _ _ | refine balloc ?_ _ | refine Below.drew ?_ | refine below_drewN ?_ _ | refine below_set ?_ (by first | omega | (dsimp only; omega)) _))⟩
set_option maxHeartbeats 1000000 in
theorem refSpot_x1 (x y : Int) (f : Bool) (w : World) (h0 : 0 ≤ x) (h : 4051 ≤ x) : Calls Tryd.prog 16 #[.agg #[.int .i64 x, .int .i64 y, .bool f]] w fun e w' => e = .returned (.int .i64 1) ∧ Below w.heap.size w w' := by
  go_enter Tryd.func16, Tryd.ntmps16
  go_wp2
  go_ret
  exact ⟨rfl, (by repeat (first | exact Below.refl _ _ | refine balloc ?_ _ | refine Below.drew ?_ | refine below_drewN ?_ _ | refine below_set ?_ (by first | omega | (dsimp only; omega)) _))⟩
set_option maxHeartbeats 1000000 in
theorem refSpot_y0 (x y : Int) (f : Bool) (w : World) (h0 : 0 ≤ x) (h : x < 4051) (k : y < 0) : Calls Tryd.prog 16 #[.agg #[.int .i64 x, .int .i64 y, .bool f]] w fun e w' => e = .returned (.int .i64 1) ∧ Below w.heap.size w w' := by
  go_enter Tryd.func16, Tryd.ntmps16
  go_wp2
  go_ret
  exact ⟨rfl, (by repeat (first | exact Below.refl _ _ | refine balloc ?_ _ | refine Below.drew ?_ | refine below_drewN ?_ _ | refine below_set ?_ (by first | omega | (dsimp only; omega)) _))⟩
set_option maxHeartbeats 1000000 in
theorem refSpot_y1 (x y : Int) (f : Bool) (w : World) (h0 : 0 ≤ x) (h : x < 4051) (k0 : 0 ≤ y) (k : 4051 ≤ y) : Calls Tryd.prog 16 #[.agg #[.int .i64 x, .int .i64 y, .bool f]] w fun e w' => e = .returned (.int .i64 1) ∧ Below w.heap.size w w' := by
  go_enter Tryd.func16, Tryd.ntmps16
  go_wp2
  go_ret
  exact ⟨rfl, (by repeat (first | exact Below.refl _ _ | refine balloc ?_ _ | refine Below.drew ?_ | refine below_drewN ?_ _ | refine below_set ?_ (by first | omega | (dsimp only; omega)) _))⟩
set_option maxHeartbeats 1000000 in
theorem refSpot_f1 (x y : Int) (w : World) (h0 : 0 ≤ x) (h : x < 4051) (k0 : 0 ≤ y) (k : y < 4051) (hx : (x != 0) = true) : Calls Tryd.prog 16 #[.agg #[.int .i64 x, .int .i64 y, .bool true]] w fun e w' => e = .returned (.int .i64 1) ∧ Below w.heap.size w w' := by
  go_enter Tryd.func16, Tryd.ntmps16
  go_wp2
  go_ret
  exact ⟨rfl, (by repeat (first | exact Below.refl _ _ | refine balloc ?_ _ | refine Below.drew ?_ | refine below_drewN ?_ _ | refine below_set ?_ (by first | omega | (dsimp only; omega)) _))⟩
set_option maxHeartbeats 1000000 in
theorem refSpot_f2 (x y : Int) (w : World) (h0 : 0 ≤ x) (h : x < 4051) (k0 : 0 ≤ y) (k : y < 4051) (hx : (x != 0) = false) (hy : (y != 0) = true) : Calls Tryd.prog 16 #[.agg #[.int .i64 x, .int .i64 y, .bool true]] w fun e w' => e = .returned (.int .i64 1) ∧ Below w.heap.size w w' := by
  go_enter Tryd.func16, Tryd.ntmps16
  go_wp2
  go_ret
  exact ⟨rfl, (by repeat (first | exact Below.refl _ _ | refine balloc ?_ _ | refine Below.drew ?_ | refine below_drewN ?_ _ | refine below_set ?_ (by first | omega | (dsimp only; omega)) _))⟩
set_option maxHeartbeats 1000000 in
theorem refSpot_f3 (w : World) : Calls Tryd.prog 16 #[.agg #[.int .i64 0, .int .i64 0, .bool true]] w fun e w' => e = .returned (.int .i64 0) ∧ Below w.heap.size w w' := by
  go_enter Tryd.func16, Tryd.ntmps16
  go_wp2
  go_ret
  exact ⟨rfl, (by repeat (first | exact Below.refl _ _ | refine balloc ?_ _ | refine Below.drew ?_ | refine below_drewN ?_ _ | refine below_set ?_ (by first | omega | (dsimp only; omega)) _))⟩
set_option maxHeartbeats 1000000 in
theorem refSpot_n0 (x y H : Int) (w : World) (h0 : 0 ≤ x) (h : x < 4051) (k0 : 0 ≤ y) (k : y < 4051) (p0 : 0 ≤ y * y) (p1 : y * y ≤ 16402500) (q0 : 0 ≤ x * x) (q1 : x * x ≤ 16402500) (r0 : 0 ≤ x * x % 4051 * x) (r1 : x * x % 4051 * x ≤ 16402500) (hq : (y * y % 4051 != (x * x % 4051 * x + x) % 4051) = false) : Calls Tryd.prog 16 #[.agg #[.int .i64 x, .int .i64 y, .bool false]] w fun e w' => e = .returned (.int .i64 0) ∧ Below w.heap.size w w' := by
  go_enter Tryd.func16, Tryd.ntmps16
  go_wp2
  go_ret
  exact ⟨rfl, (by repeat (first | exact Below.refl _ _ | refine balloc ?_ _ | refine Below.drew ?_ | refine below_drewN ?_ _ | refine below_set ?_ (by first | omega | (dsimp only; omega)) _))⟩
set_option maxHeartbeats 1000000 in
theorem refSpot_n3 (x y H : Int) (w : World) (h0 : 0 ≤ x) (h : x < 4051) (k0 : 0 ≤ y) (k : y < 4051) (p0 : 0 ≤ y * y) (p1 : y * y ≤ 16402500) (q0 : 0 ≤ x * x) (q1 : x * x ≤ 16402500) (r0 : 0 ≤ x * x % 4051 * x) (r1 : x * x % 4051 * x ≤ 16402500) (hq : (y * y % 4051 != (x * x % 4051 * x + x) % 4051) = true) : Calls Tryd.prog 16 #[.agg #[.int .i64 x, .int .i64 y, .bool false]] w fun e w' => e = .returned (.int .i64 3) ∧ Below w.heap.size w w' := by
  go_enter Tryd.func16, Tryd.ntmps16
  go_wp2
  go_ret
  exact ⟨rfl, (by repeat (first | exact Below.refl _ _ | refine balloc ?_ _ | refine Below.drew ?_ | refine below_drewN ?_ _ | refine below_set ?_ (by first | omega | (dsimp only; omega)) _))⟩
theorem ins_no {x : Int} (h : ¬ (0 ≤ x ∧ x < 4051)) : inside x = false := by
  cases e : inside x
  · rfl
  · exact absurd (ins_iff.mp e) h
theorem refSpot_c (s : Sp) (w : World) : Calls Tryd.prog 16 #[spV s] w fun e w' => e = .returned (.int .i64 (sCheck s)) ∧ Below w.heap.size w w' := by
  obtain ⟨x, y, f⟩ := s
  by_cases hx : 0 ≤ x ∧ x < 4051
  case neg =>
    have e : sCheck ⟨x, y, f⟩ = 1 := by unfold sCheck; rw [if_pos]; simp [ins_no hx]
    rw [e]
    by_cases c : x < 0
    · exact refSpot_x0 x y f w c
    · exact refSpot_x1 x y f w (by omega) (by omega)
  by_cases hy : 0 ≤ y ∧ y < 4051
  case neg =>
    have e : sCheck ⟨x, y, f⟩ = 1 := by unfold sCheck; rw [if_pos]; simp [ins_no hy]
    rw [e]
    by_cases c : y < 0
    · exact refSpot_y0 x y f w hx.1 hx.2 c
    · exact refSpot_y1 x y f w hx.1 hx.2 (by omega) (by omega)
  have ix := ins_iff.mpr hx
  have iy := ins_iff.mpr hy
  cases f
  · have b := lift_bd hx.1 hx.2
    have by' := sq_bd hy.1 hy.2
    have eh : (x * x % 4051 * x + x) % 4051 = height x := by rw [← height_ref, Int.emod_emod_of_dvd _ (Int.dvd_refl _)]
    by_cases c : pMul y y = height x
    · have e : sCheck ⟨x, y, false⟩ = 0 := by unfold sCheck; simp [ix, iy, c]
      rw [e]
      exact refSpot_n0 x y 0 w hx.1 hx.2 hy.1 hy.2 by'.1 by'.2 b.1.1 b.1.2 b.2.1 b.2.2 (by rw [eh, ← c]; unfold pMul; simp)
    · have e : sCheck ⟨x, y, false⟩ = 3 := by unfold sCheck; simp [ix, iy, c]
      rw [e]
      exact refSpot_n3 x y 0 w hx.1 hx.2 hy.1 hy.2 by'.1 by'.2 b.1.1 b.1.2 b.2.1 b.2.2 (by rw [eh]; simp; unfold pMul at c; exact c)
  · by_cases c : x = 0
    · subst c
      by_cases d : y = 0
      · subst d
        exact refSpot_f3 w
      · have e : sCheck ⟨0, y, true⟩ = 1 := by unfold sCheck; rw [if_pos]; simp [iy, ix, Sp.beq, sFar, d]
        rw [e]
        exact refSpot_f2 0 y w hx.1 hx.2 hy.1 hy.2 (by simp) (by simpa using d)
    · have e : sCheck ⟨x, y, true⟩ = 1 := by unfold sCheck; rw [if_pos]; simp [iy, ix, Sp.beq, sFar, c]
      rw [e]
      exact refSpot_f1 x y w hx.1 hx.2 hy.1 hy.2 (by simpa using c)
theorem refSpot_e (s : Sp) (n : Int) (w : World) (h : Hid (sCheck s = n)) : Calls Tryd.prog 16 #[spV s] w fun e w' => e = .returned (.int .i64 n) ∧ Below w.heap.size w w' := by
  have := refSpot_c s w; rw [h.out] at this; exact this
theorem check_v (s : Sp) (n : Int) (w : World) (hF : FarAt w) (h : Hid (sCheck s = n)) (h0 : n ≠ 0) : Calls Tryd.prog 43 #[spV s] w fun e w' => e = .returned (.iface 69 (.int .i64 n)) ∧ Below w.heap.size w w' := by
  have := check_bad s w hF (by rw [h.out]; exact h0); rw [h.out] at this; exact this
end Go.Proofs.YtebomakihdjllaaDoor
