/- Walks of layer prime, with two results: inverses, powers, roots. -/
import Derived.Test.YtahgaccdeakmcaaGreatDoorWa
import Derived.Test.YtahgaccdeakmcaaGreatDoorPl
namespace Go.Proofs.YtahgaccdeakmcaaGreatDoor
open Go.RowKit
/-- An error: 0 is none. -/
def errV (k : Int) : Value := if k = 0 then .nilIface else .iface 94 (.int .i64 k)
theorem pPow_of (a : Int) (n : Nat) : pPow (pOf a) n = pPow a n := by unfold pPow pOf; exact pow_congr (by omega) n
def rk (a : Int) : Int := pPow (pOf a) 1013
theorem rk_root (a : Int) : rk a = rootOf a := by unfold rootOf; exact pPow_of a eRoot
theorem root_le {a : Int} (h : rk a ≤ pOf (-rk a)) : rk a = pRoot a := by
  unfold pRoot; rw [← rk_root]; unfold pOf at h; rw [if_pos h]
theorem root_gt {a : Int} (h : pOf (-rk a) < rk a) : pOf (-rk a) = pRoot a := by
  unfold pRoot; rw [← rk_root]; unfold pOf at h ⊢; rw [if_neg (by omega)]
theorem isSq_eq (a : Int) : (pMul (rk a) (rk a) == pOf a) = isSq a := by
  unfold isSq; rw [← rk_root]; rfl

theorem ret_root {a r : Int} {b : Bool} (h1 : r = pRoot a) (h2 : b = isSq a) : Ending.returned (.tuple #[.int .i64 r, .bool b]) = .returned (.tuple #[.int .i64 (pRoot a), .bool (isSq a)]) := by rw [h1, h2]
set_option maxHeartbeats 400000 in
theorem primeRoot_c (a : Int) (w : World) : Calls Tryz.prog 144 #[.int .i64 a] w fun e w' => e = .returned (.tuple #[.int .i64 (pRoot a), .bool (isSq a)]) ∧ w = w' := by
  have h1 : 0 ≤ pPow (pOf a) 1013 := (r_pPow (pOf a) 1013).1
  have h2 : pPow (pOf a) 1013 < 4051 := (r_pPow (pOf a) 1013).2
  go_enter Tryz.func144, Tryz.ntmps144
  go_wp2_with (first | (go_at_call 125; refine (primeOf_c _ _).mono ?_; rintro e w' ⟨rfl, rfl⟩) | (go_at_call 99; refine (primeMul_c _ _ _).mono ?_; rintro e w' ⟨rfl, rfl⟩) | (go_at_call 179; refine (primePower_c _ _ _ (by decide) (by decide)).mono ?_; rintro e w' ⟨rfl, rfl⟩))
  · go_ret2
    exact ⟨ret_root (root_gt (by assumption)) (isSq_eq a), rfl⟩
  · go_ret2
    exact ⟨ret_root (root_le (by assumption)) (isSq_eq a), rfl⟩
set_option maxHeartbeats 400000 in
theorem primeSqrt_yes (a : Int) (w : World) (h : isSq a = true) : Calls Tryz.prog 101 #[.int .i64 a] w fun e w' => e = .returned (.tuple #[.int .i64 (pRoot a), .nilIface]) ∧ w = w' := by
  go_enter Tryz.func101, Tryz.ntmps101
  go_wp2_with (go_at_call 144; refine (primeRoot_c _ _).mono ?_; rintro e w' ⟨rfl, rfl⟩)
  go_ret2
  exact ⟨rfl, rfl⟩
set_option maxHeartbeats 400000 in
theorem primeSqrt_no (a : Int) (w : World) (h : isSq a = false) : Calls Tryz.prog 101 #[.int .i64 a] w fun e w' => e = .returned (.tuple #[.int .i64 0, .iface 94 (.int .i64 5)]) ∧ w = w' := by
  go_enter Tryz.func101, Tryz.ntmps101
  go_wp2_with (go_at_call 144; refine (primeRoot_c _ _).mono ?_; rintro e w' ⟨rfl, rfl⟩)
  go_ret2
  exact ⟨rfl, rfl⟩
end Go.Proofs.YtahgaccdeakmcaaGreatDoor
