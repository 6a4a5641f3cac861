/- Walks of layer prime, with two results: inverses, powers, roots. -/
import Derived.Test.YtjjmelhhalomaaaGreatDoorWa
import Derived.Test.YtjjmelhhalomaaaGreatDoorPl
namespace Go.Proofs.YtjjmelhhalomaaaGreatDoor
open Go.RowKit
/-- An error: 0 is none. -/
def errV (k : Int) : Value := if k = 0 then .nilIface else .iface 84 (.int .i64 k)
theorem pPow_of (a : Int) (n : Nat) : pPow (pOf a) n = pPow a n := by unfold pPow pOf; exact pow_congr (by omega) n
def rk (a : Int) : Int := pPow (pOf a) 1013
theorem rk_root (a : Int) : rk a = rootOf a := by unfold rootOf; exact pPow_of a eRoot
theorem root_le {a : Int} (h : rk a ≤ pOf (-rk a)) : rk a = pRoot a := by
  unfold pRoot; rw [← rk_root]; unfold pOf at h; rw [if_pos h]
theorem root_gt {a : Int} (h : pOf (-rk a) < rk a) : pOf (-rk a) = pRoot a := by
  unfold pRoot; rw [← rk_root]; unfold pOf at h ⊢; rw [if_neg (by omega)]
theorem isSq_eq (a : Int) : (pMul (rk a) (rk a) == pOf a) = isSq a := by
  unfold isSq; rw [← rk_root]; rfl

theorem ret_root {a r : Int} {b : Bool} (h1 : r = pRoot a) (h2 : b = isSq a) : Ending.returned (.tuple #[.int .i64 r, .bool b]) = .returned (.tuple #[.int .i64 (pRoot a), .bool (isSq a)]) := by rw [h1, h2]
set_option maxHeartbeats 400000 in
theorem primeRoot_c (a : Int) (w : World) : Calls Tryz.prog 123 #[.int .i64 a] w fun e w' => e = .returned (.tuple #[.int .i64 (pRoot a), .bool (isSq a)]) ∧ w = w' := by
  have h1 : 0 ≤ pPow (pOf a) 1013 := (r_pPow (pOf a) 1013).1
  have h2 : pPow (pOf a) 1013 < 4051 := (r_pPow (pOf a) 1013).2
  go_enter Tryz.func123, Tryz.ntmps123
  go_wp2_with (first | (go_at_call 91; refine (primeOf_c _ _).mono ?_; rintro e w' ⟨rfl, rfl⟩) | (go_at_call 79; refine (primeMul_c _ _ _).mono ?_; rintro e w' ⟨rfl, rfl⟩) | (go_at_call 158; refine (primePower_c _ _ _ (by decide) (by decide)).mono ?_; rintro e w' ⟨rfl, rfl⟩))
  · go_ret2
    exact ⟨ret_root (root_gt (by assumption)) (isSq_eq a), rfl⟩
  · go_ret2
    exact ⟨ret_root (root_le (by assumption)) (isSq_eq a), rfl⟩
set_option maxHeartbeats 400000 in
theorem primeSqrt_yes (a : Int) (w : World) (h : isSq a = true) : Calls Tryz.prog 81 #[.int .i64 a] w fun e w' => e = .returned (.tuple #[.int .i64 (pRoot a), .nilIface]) ∧ w = w' := by
  go_enter Tryz.func81, Tryz.ntmps81
  go_wp2_with (go_at_call 123; refine (primeRoot_c _ _).mono ?_; rintro e w' ⟨rfl, rfl⟩)
  go_ret2
  exact ⟨rfl, rfl⟩
set_option maxHeartbeats 400000 in
theorem primeSqrt_no (a : Int) (w : World) (h : isSq a = false) : Calls Tryz.prog 81 #[.int .i64 a] w fun e w' => e = .returned (.tuple #[.int .i64 0, .iface 84 (.int .i64 5)]) ∧ w = w' := by
  go_enter Tryz.func81, Tryz.ntmps81
  go_wp2_with (go_at_call 123; refine (primeRoot_c _ _).mono ?_; rintro e w' ⟨rfl, rfl⟩)
  go_ret2
  exact ⟨rfl, rfl⟩
end Go.Proofs.YtjjmelhhalomaaaGreatDoor
