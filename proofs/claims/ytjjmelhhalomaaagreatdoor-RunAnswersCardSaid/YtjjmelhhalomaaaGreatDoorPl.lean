/- Plain laws of the field: roots, powers, Euler. No program. -/
import Derived.Test.YtjjmelhhalomaaaGreatDoorPr
namespace Go.Proofs.YtjjmelhhalomaaaGreatDoor
def eRoot : Nat := 1013
def eHalf : Nat := 2025
def rootOf (a : Int) : Int := pPow a eRoot
def pRoot (a : Int) : Int := if rootOf a ≤ (-rootOf a) % 4051 then rootOf a else (-rootOf a) % 4051
def isSq (a : Int) : Bool := decide (pMul (rootOf a) (rootOf a) = pOf a)
theorem fpow_add (a : F) (m : Nat) : ∀ n, a ^ (m + n) = a ^ m * a ^ n
  | 0 => by grobner
  | n+1 => by
    have h1 : a ^ (m + (n + 1)) = a ^ (m + n) * a := by rw [← Nat.add_assoc]; grobner
    have h2 : a ^ (n + 1) = a ^ n * a := by grobner
    rw [h1, h2, fpow_add a m n]; grobner
theorem fpow_mul (a : F) (m : Nat) : ∀ n, a ^ (m * n) = (a ^ m) ^ n
  | 0 => by rw [Nat.mul_zero]; grobner
  | n+1 => by
    have h2 : (a ^ m) ^ (n + 1) = (a ^ m) ^ n * a ^ m := by grobner
    rw [Nat.mul_succ, fpow_add, h2, fpow_mul a m n]
theorem fone_pow : ∀ n : Nat, (1 : F) ^ n = 1
  | 0 => by grobner
  | n+1 => by have : (1 : F) ^ (n+1) = 1 ^ n * 1 := by grobner
              rw [this, fone_pow n]; grobner
theorem fmul_pow (a b : F) : ∀ n : Nat, (a * b) ^ n = a ^ n * b ^ n
  | 0 => by grobner
  | n+1 => by
    have h1 : (a * b) ^ (n + 1) = (a * b) ^ n * (a * b) := by grobner
    have h2 : a ^ (n + 1) = a ^ n * a := by grobner
    have h3 : b ^ (n + 1) = b ^ n * b := by grobner
    rw [h1, h2, h3, fmul_pow a b n]; grobner
theorem fpow_one' {a : F} (h : a ≠ 0) : a ^ (eInv + 1) = 1 := by
  have h1 : a ^ (eInv + 1) = a ^ eInv * a := by grobner
  rw [h1, ← inv_pow]; exact inv_mul h
/-- Euler: the half power is 1 or -1. -/
theorem half_pm {a : F} (h : a ≠ 0) : a ^ eHalf = 1 ∨ a ^ eHalf = -1 := by
  have : a ^ eHalf * a ^ eHalf = 1 * 1 := by rw [← fpow_add, show eHalf + eHalf = eInv + 1 from rfl, fpow_one' h]; grobner
  rcases sq_eq this with h | h
  · exact .inl h
  · exact .inr (by rw [h])
theorem fi_root (a : Int) : fi (rootOf a) * fi (rootOf a) = fi a * fi a ^ eHalf := by
  unfold rootOf; rw [fi_pPow, ← fpow_add]
  have : fi a ^ (eHalf + 1) = fi a * fi a ^ eHalf := by grobner
  rw [← this]; rfl
theorem isSq_iff (a : Int) : isSq a = true ↔ fi a * fi a ^ eHalf = fi a := by
  unfold isSq
  rw [decide_eq_true_eq, ← fi_root, ← fi_pMul]
  constructor
  · intro h; rw [h]; exact fi_mod a
  · intro h; exact fi_inj (r_pMul _ _) (r_pOf _) (h.trans (fi_mod a).symm)
theorem fi_ne {a : Int} (h : pOf a ≠ 0) : fi a ≠ 0 := fun e => h (by have := fi_eq.mp (e.trans fi_zero.symm); unfold pOf; omega)
theorem isSq_zero {a : Int} (h : pOf a = 0) : isSq a = true := by
  rw [isSq_iff]
  have : fi a = 0 := by rw [← fi_mod]; show fi (pOf a) = 0; rw [h]; rfl
  rw [this]; grobner
theorem isSq_half {a : Int} (h : pOf a ≠ 0) : isSq a = true ↔ fi a ^ eHalf = 1 := by
  rw [isSq_iff]
  have hn := fi_ne h
  constructor
  · intro e; exact cancel hn (by grobner)
  · intro e; rw [e]; grobner
theorem neg_half (a : F) : (-a) ^ eHalf = -(a ^ eHalf) := by
  rw [show -a = (-1) * a by grobner, fmul_pow]
  have : (-1 : F) ^ eHalf = -1 := by
    rw [show eHalf = 2 * 1012 + 1 from rfl, fpow_add, fpow_mul, show (-1 : F) ^ 2 = 1 by grobner, fone_pow]; grobner
  rw [this]; grobner
/-- Of a number and its negative just one has a root. -/
theorem isSq_neg {a : Int} (h : pOf a ≠ 0) : isSq (pSub 0 a) = !isSq a := by
  have hs : fi (pSub 0 a) = - fi a := by rw [fi_pSub, fi_zero]; grobner
  have hn : pOf (pSub 0 a) ≠ 0 := by unfold pOf pSub at *; omega
  have e1 := isSq_half h
  have e2 := isSq_half hn
  rw [hs, neg_half] at e2
  rcases half_pm (fi_ne h) with k | k
  · have a1 := e1.mpr k
    have a2 : ¬ isSq (pSub 0 a) = true := fun c => by
      have := e2.mp c; rw [k] at this; exact absurd this (by decide)
    rw [a1]; simpa using a2
  · have a1 : ¬ isSq a = true := fun c => by
      have := e1.mp c; rw [k] at this; exact absurd this (by decide)
    have a2 := e2.mpr (by rw [k]; decide)
    rw [a2]; simp at a1; rw [a1]; rfl
theorem isSq_neg_zero {a : Int} (h : pOf a = 0) : isSq (pSub 0 a) = true := isSq_zero (by unfold pOf pSub at *; omega)
theorem pPow_nat (n : Nat) (k : Nat) : pPow (n : Int) k = ((n ^ k % 4051 : Nat) : Int) := by
  unfold pPow; rw [Int.natCast_emod, Int.natCast_pow]; rfl
theorem root_four : rootOf 4 = 4049 := (pPow_nat 4 eRoot).trans (by decide +kernel)
theorem isSq_four : isSq 4 = true := by unfold isSq; rw [root_four]; decide
theorem pRoot_four : pRoot 4 = 2 := by unfold pRoot; rw [root_four]; decide
/-- The lesser root. -/
theorem pRoot_bd (a : Int) : 0 ≤ pRoot a ∧ 2 * pRoot a ≤ 4051 := by
  have h1 : 0 ≤ rootOf a := (r_pPow a eRoot).1
  have h2 : rootOf a < 4051 := (r_pPow a eRoot).2
  unfold pRoot; split <;> omega
theorem pRoot_sq (a : Int) : fi (pRoot a) * fi (pRoot a) = fi (rootOf a) * fi (rootOf a) := by
  unfold pRoot; split
  · rfl
  · rw [fi_mod, fi_neg]; grobner
theorem pRoot_mul {a : Int} (h : isSq a = true) : pMul (pRoot a) (pRoot a) = pOf a := by
  have := (isSq_iff a).mp h
  refine fi_inj (r_pMul _ _) (r_pOf _) ?_
  rw [fi_pMul, pRoot_sq, fi_root, this]; exact (fi_mod a).symm
theorem pMul_comm (a b : Int) : pMul b a = pMul a b := by unfold pMul; rw [Int.mul_comm]
theorem pMul_assoc (a b c : Int) : pMul (pMul a b) c = pMul a (pMul b c) := fi_inj (r_pMul _ _) (r_pMul _ _) (by simp only [fi_pMul]; grobner)
theorem pAdd_comm (a b : Int) : pAdd b a = pAdd a b := by unfold pAdd; rw [Int.add_comm]
theorem pMul_add (a b c : Int) : pMul a (pAdd b c) = pAdd (pMul a b) (pMul a c) := fi_inj (r_pMul _ _) (r_pAdd _ _) (by simp only [fi_pMul, fi_pAdd]; grobner)
theorem pSub_add (a b : Int) : pSub (pAdd a b) b = pOf a := by unfold pSub pAdd pOf; omega
theorem fi_of_zero {a : Int} (h : pOf a = 0) : fi a = 0 := by rw [← fi_mod]; show fi (pOf a) = 0; rw [h]; rfl
theorem pMul_zero_l {a : Int} (b : Int) (h : pOf a = 0) : pMul a b = 0 := fi_inj (r_pMul _ _) (by decide) (by rw [fi_pMul, fi_of_zero h, fi_zero]; grobner)
theorem pMul_zero_r (a : Int) {b : Int} (h : pOf b = 0) : pMul a b = 0 := by rw [pMul_comm, pMul_zero_l a h]
theorem pMul_ne {a b : Int} (ha : pOf a ≠ 0) (hb : pOf b ≠ 0) : pMul a b ≠ 0 := fun e => mul_ne (fi_ne ha) (fi_ne hb) (by rw [← fi_pMul, e]; rfl)
theorem pMul_pInv {a : Int} (h : pOf a ≠ 0) : pMul a (pInv a) = 1 := fi_inj (r_pMul _ _) (by decide) (by rw [fi_pMul, fi_pInv, mul_inv (fi_ne h)]; rfl)
theorem pPow_fermat {a : Int} (h : pOf a ≠ 0) : pPow a 4050 = 1 := fi_inj (r_pPow _ _) (by decide) (by
  rw [show pPow a 4050 = pPow a (eInv + 1) from rfl, fi_pPow, fpow_one' (fi_ne h)]; rfl)
theorem pPow_half_iff {a : Int} (h : pOf a ≠ 0) : pPow a 2025 ≠ 4050 ↔ isSq a = true := by
  have e : fi (pPow a 2025) = fi a ^ eHalf := fi_pPow a 2025
  rw [isSq_half h, ← e]
  rcases half_pm (fi_ne h) with k | k
  · rw [e, k]; refine ⟨fun _ => rfl, fun _ c => ?_⟩
    rw [← e, c] at k; exact absurd k (by decide)
  · rw [e, k]; refine ⟨fun c => absurd ?_ c, fun c => absurd c (by decide)⟩
    exact fi_inj (r_pPow _ _) (by decide) (by rw [e, k]; decide)
theorem pPow_zero_ne {a : Int} (h : pOf a = 0) (n : Nat) : pPow a (n + 1) = 0 := fi_inj (r_pPow _ _) (by decide) (by
  rw [fi_pPow, fi_of_zero h, fi_zero]; have : (0 : F) ^ (n + 1) = 0 ^ n * 0 := by grobner
  rw [this]; grobner)
attribute [irreducible] isSq pRoot rootOf
end Go.Proofs.YtjjmelhhalomaaaGreatDoor
