/- What layer prime computes, as functions of Int. No program. -/
import Derived.Test.YtjjmelhhalomaaaGreatDoorFp
namespace Go.Proofs.YtjjmelhhalomaaaGreatDoor
def pOf (n : Int) : Int := n % 4051
def pAdd (a b : Int) : Int := (a + b) % 4051
def pSub (a b : Int) : Int := (a - b) % 4051
def pMul (a b : Int) : Int := a * b % 4051
def pPow (a : Int) (n : Nat) : Int := a ^ n % 4051
def pInv (a : Int) : Int := pPow a eInv
theorem fi_pAdd (a b : Int) : fi (pAdd a b) = fi a + fi b := by rw [pAdd, fi_mod, fi_add]
theorem fi_pSub (a b : Int) : fi (pSub a b) = fi a - fi b := by rw [pSub, fi_mod, fi_sub]
theorem fi_pMul (a b : Int) : fi (pMul a b) = fi a * fi b := by rw [pMul, fi_mod, fi_mul]
theorem fi_pPow (a : Int) (n : Nat) : fi (pPow a n) = fi a ^ n := by rw [pPow, fi_mod, fi_pow]
theorem val_pow (a : F) : ∀ n : Nat, (a ^ n).val = a.val ^ n % 4051
  | 0 => rfl
  | n+1 => by
    have : a ^ (n+1) = a ^ n * a := by grobner
    rw [this, Fin.val_mul, val_pow a n, Nat.pow_succ, Nat.mod_mul_mod]
theorem powv (a : F) (n : Nat) (h : a.val ^ n % 4051 < 4051) : (⟨a.val ^ n % 4051, h⟩ : F) = a ^ n := Fin.ext (val_pow a n).symm
theorem inv_pow (a : F) : inv a = a ^ eInv := powv a eInv _
theorem fi_pInv (a : Int) : fi (pInv a) = inv (fi a) := by rw [pInv, fi_pPow, inv_pow]
theorem r_pOf (a : Int) : 0 ≤ pOf a ∧ pOf a < 4051 := by unfold pOf; omega
theorem r_pAdd (a b : Int) : 0 ≤ pAdd a b ∧ pAdd a b < 4051 := by unfold pAdd; omega
theorem r_pSub (a b : Int) : 0 ≤ pSub a b ∧ pSub a b < 4051 := by unfold pSub; omega
theorem r_pMul (a b : Int) : 0 ≤ pMul a b ∧ pMul a b < 4051 := by unfold pMul; omega
theorem r_pPow (a : Int) (n : Nat) : 0 ≤ pPow a n ∧ pPow a n < 4051 := by unfold pPow; omega
theorem r_pInv (a : Int) : 0 ≤ pInv a ∧ pInv a < 4051 := r_pPow _ _

attribute [irreducible] pPow
end Go.Proofs.YtjjmelhhalomaaaGreatDoor
