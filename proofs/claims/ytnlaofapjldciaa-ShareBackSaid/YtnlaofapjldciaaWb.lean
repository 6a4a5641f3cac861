/- Walks of layer prime, with two results: inverses, powers, roots. -/
import Derived.Test.YtnlaofapjldciaaWa
import Derived.Test.YtnlaofapjldciaaPl
namespace Go.Proofs.Ytnlaofapjldciaa
open Go.RowKit
/-- An error: 0 is none. -/
def errV (k : Int) : Value := if k = 0 then .nilIface else .iface 38 (.int .i64 k)
theorem pPow_of (a : Int) (n : Nat) : pPow (pOf a) n = pPow a n := by unfold pPow pOf; exact pow_congr (by omega) n
def rk (a : Int) : Int := pPow (pOf a) 1013
theorem rk_root (a : Int) : rk a = rootOf a := by unfold rootOf; exact pPow_of a eRoot
theorem root_le {a : Int} (h : rk a ≤ pOf (-rk a)) : rk a = pRoot a := by
  unfold pRoot; rw [← rk_root]; unfold pOf at h; rw [if_pos h]
theorem root_gt {a : Int} (h : pOf (-rk a) < rk a) : pOf (-rk a) = pRoot a := by
  unfold pRoot; rw [← rk_root]; unfold pOf at h ⊢; rw [if_neg (by omega)]
theorem isSq_eq (a : Int) : (pMul (rk a) (rk a) == pOf a) = isSq a := by
  unfold isSq; rw [← rk_root]; rfl

theorem ret_root {a r : Int} {b : Bool} (h1 : r = pRoot a) (h2 : b = isSq a) : Ending.returned (.tuple #[.int .i64 r, .bool b]) = .returned (.tuple #[.int .i64 (pRoot a), .bool (isSq a)]) := by rw [h1, h2]
end Go.Proofs.Ytnlaofapjldciaa
