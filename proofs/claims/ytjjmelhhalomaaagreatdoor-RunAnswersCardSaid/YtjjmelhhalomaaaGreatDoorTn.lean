/- What the document's answer computes of numbers: turned numbers as Euclid did, by table; powers by halves; the lesser root. No program. -/
import Derived.Test.YtjjmelhhalomaaaGreatDoorPl
import Derived.Test.YtjjmelhhalomaaaGreatDoorCyc
namespace Go.Proofs.YtjjmelhhalomaaaGreatDoor
set_option linter.unusedVariables false
/-- Euclid's steps stay within bounds, and end in what turns n modulo m. -/
def tChk (m n : Int) : Nat → Int → Int → Int → Int → Bool
  | 0, _, _, _, _ => false
  | f+1, a, b, x, y => decide (0 ≤ a) && decide (a ≤ 5000) && decide (0 ≤ b) && decide (b ≤ 5000) && decide (-5000 ≤ x) && decide (x ≤ 5000) && decide (-5000 ≤ y) && decide (y ≤ 5000) &&
      (if 0 < b then tChk m n f b (a - a / b * b) y (x - a / b * y) else decide ((x % m) * n % m = 1))
def tNat (m n : Nat) : Bool := n == 0 || tChk m n 20 m n 0 1
theorem tn_0 : allB (tNat 4051) 0 2000 = true := by decide +kernel
theorem tn_1 : allB (tNat 4051) 2000 2051 = true := by decide +kernel
theorem tn_q : allB (tNat 1013) 0 1013 = true := by decide +kernel
theorem turn_p {n : Int} (h1 : 1 ≤ n) (h2 : n < 4051) : tChk 4051 n 20 4051 n 0 1 = true := by
  have : tNat 4051 n.toNat = true := by
    rcases Nat.lt_or_ge n.toNat 2000 with h | h
    · exact allB_at _ _ _ tn_0 _ (by omega) (by omega)
    · exact allB_at _ _ _ tn_1 _ (by omega) (by omega)
  unfold tNat at this
  rw [show ((n.toNat : Nat) : Int) = n by omega] at this
  simpa [show n.toNat ≠ 0 by omega] using this
theorem turn_q {n : Int} (h1 : 1 ≤ n) (h2 : n < 1013) : tChk 1013 n 20 1013 n 0 1 = true := by
  have : tNat 1013 n.toNat = true := allB_at _ _ _ tn_q _ (by omega) (by omega)
  unfold tNat at this
  rw [show ((n.toNat : Nat) : Int) = n by omega] at this
  simpa [show n.toNat ≠ 0 by omega] using this
def TurnAt (m n a b x y : Int) : Prop := ∃ f, tChk m n f a b x y = true
theorem turn_bd {m n a b x y : Int} (h : TurnAt m n a b x y) : 0 ≤ a ∧ a ≤ 5000 ∧ 0 ≤ b ∧ b ≤ 5000 ∧ -5000 ≤ x ∧ x ≤ 5000 ∧ -5000 ≤ y ∧ y ≤ 5000 := by
  obtain ⟨f, h⟩ := h
  cases f with
  | zero => cases h
  | succ f =>
    simp only [tChk, Bool.and_eq_true, decide_eq_true_eq] at h
    omega
theorem turn_next {m n a b x y : Int} (h : TurnAt m n a b x y) (hb : 0 < b) : TurnAt m n b (a - a / b * b) y (x - a / b * y) := by
  obtain ⟨f, h⟩ := h
  cases f with
  | zero => cases h
  | succ f =>
    simp only [tChk, Bool.and_eq_true, if_pos hb] at h
    exact ⟨f, h.2⟩
theorem turn_end {m n a b x y : Int} (h : TurnAt m n a b x y) (hb : ¬ 0 < b) : (x % m) * n % m = 1 := by
  obtain ⟨f, h⟩ := h
  cases f with
  | zero => cases h
  | succ f =>
    simp only [tChk, Bool.and_eq_true, if_neg hb, decide_eq_true_eq] at h
    exact h.2
theorem turn_less {a b : Int} (ha : 0 ≤ a) (hb : 0 < b) : 0 ≤ a - a / b * b ∧ a - a / b * b < b := by
  have e : a - a / b * b = a % b := by have := Int.emod_add_mul_ediv a b; rw [Int.mul_comm]; omega
  rw [e]; exact ⟨Int.emod_nonneg _ (by omega), Int.emod_lt_of_pos _ hb⟩
theorem quot_bd {a b : Int} (ha : 0 ≤ a) (h2 : a ≤ 5000) (hb : 0 < b) : 0 ≤ a / b ∧ a / b ≤ 5000 := by
  refine ⟨Int.ediv_nonneg ha (by omega), ?_⟩
  have := Int.ediv_le_self b ha
  omega
theorem turn_all {m n a b x y : Int} (h : TurnAt m n a b x y) (hb : 0 < b) : a.tdiv b = a / b ∧ 0 ≤ a / b ∧ a / b ≤ 5000 ∧ 0 ≤ a / b * b ∧ a / b * b ≤ 5000 ∧ -25000000 ≤ a / b * y ∧ a / b * y ≤ 25000000 := by
  have t := turn_bd h
  have q := quot_bd t.1 t.2.1 hb
  have l := turn_less t.1 hb
  refine ⟨Int.tdiv_eq_ediv_of_nonneg t.1, q.1, q.2, Int.mul_nonneg q.1 (by omega), by omega, ?_, ?_⟩
  · have := Int.mul_le_mul_of_nonneg_left (show -5000 ≤ y by omega) q.1; omega
  · have := Int.mul_le_mul_of_nonneg_left (show y ≤ 5000 by omega) q.1; omega
theorem tmod_m {n m : Int} (hm : 0 < m) : -m < n.tmod m ∧ n.tmod m < m ∧ (n.tmod m < 0 → n.tmod m + m = n % m) ∧ (0 ≤ n.tmod m → n.tmod m = n % m) := by
  have h1 := Int.tmod_lt_of_pos n hm
  have h2 := Int.lt_tmod_of_pos n hm
  have e : n.tmod m % m = n % m := by
    have := Int.mul_tdiv_add_tmod n m
    conv => rhs; rw [← this, Int.add_comm, Int.add_mul_emod_self_left]
  refine ⟨h2, h1, fun h => ?_, fun h => ?_⟩
  · rw [← e, ← Int.add_emod_right]; exact (Int.emod_eq_of_lt (by omega) (by omega)).symm
  · rw [← e]; exact (Int.emod_eq_of_lt h h1).symm
/-- What turns n is its inverse. -/
theorem turn_inv {n v : Int} (h1 : 1 ≤ n) (h2 : n < 4051) (v0 : 0 ≤ v) (v1 : v < 4051) (h : v * n % 4051 = 1) : v = pInv n := by
  have hn : fi n ≠ 0 := fi_ne (by unfold pOf; omega)
  refine fi_inj ⟨v0, v1⟩ (r_pInv n) ?_
  rw [fi_pInv]
  have e : fi v * fi n = 1 := by rw [← fi_mul, ← fi_mod, h]; rfl
  refine cancel hn ?_
  rw [e, inv_mul hn]
/-- The lesser root is the least of all. -/
theorem root_first {n r : Int} (h0 : 0 ≤ n) (h1 : n < 4051) (r0 : 0 ≤ r) (r1 : 2 * r ≤ 4051) (h : r * r % 4051 = n) : isSq n = true ∧ pRoot n = r := by
  have e : fi r * fi r = fi n := by rw [← fi_mul, fi_eq]; omega
  have hs : isSq n = true := by
    by_cases z : pOf n = 0
    · exact isSq_zero z
    · have hr : fi r ≠ 0 := fun c => by rw [c] at e; exact fi_ne z (by rw [← e]; grobner)
      rw [isSq_half z, ← e, fmul_pow]
      rcases half_pm hr with c | c <;> rw [c] <;> grobner
  refine ⟨hs, ?_⟩
  have b := pRoot_bd n
  have q := pRoot_mul hs
  have e2 : fi (pRoot n) * fi (pRoot n) = fi r * fi r := by
    rw [← fi_pMul, q, e]; unfold pOf; exact fi_mod n
  rcases sq_eq e2 with c | c
  · exact fi_inj ⟨b.1, by omega⟩ ⟨r0, by omega⟩ c
  · rw [← fi_neg] at c
    have := fi_eq.mp c
    omega
theorem root_none {n : Int} (h0 : 0 ≤ n) (h1 : n < 4051) (h : ∀ r : Int, 0 ≤ r → 2 * r ≤ 4051 → r * r % 4051 ≠ n) : isSq n = false := by
  cases hs : isSq n
  · rfl
  · have b := pRoot_bd n
    have q := pRoot_mul hs
    refine absurd ?_ (h _ b.1 b.2)
    unfold pMul pOf at q; omega
/-- What the document's root answers. -/
def rRoot (n : Int) : Int := if isSq n = true then pRoot n else -1
theorem isSq_of (n : Int) : isSq (pOf n) = isSq n := by
  unfold isSq rootOf; rw [show pPow (pOf n) eRoot = pPow n eRoot from by unfold pOf; refine fi_inj (r_pPow _ _) (r_pPow _ _) ?_; rw [fi_pPow, fi_pPow, fi_mod]]
  unfold pOf; rw [Int.emod_emod_of_dvd _ (Int.dvd_refl _)]
theorem pRoot_of (n : Int) : pRoot (pOf n) = pRoot n := by
  unfold pRoot rootOf; rw [show pPow (pOf n) eRoot = pPow n eRoot from by unfold pOf; refine fi_inj (r_pPow _ _) (r_pPow _ _) ?_; rw [fi_pPow, fi_pPow, fi_mod]]
/-- Powers by halves. -/
theorem pow_even {n : Int} {k : Nat} (h : k % 2 = 0) : pMul (pPow n (k / 2)) (pPow n (k / 2)) = pPow n k := by
  refine fi_inj (r_pMul _ _) (r_pPow _ _) ?_
  rw [fi_pMul, fi_pPow, fi_pPow, ← fpow_add]; congr 1; omega
theorem pow_odd {n : Int} {k : Nat} (h : k % 2 = 1) : pMul (pMul (pPow n (k / 2)) (pPow n (k / 2))) n = pPow n k := by
  refine fi_inj (r_pMul _ _) (r_pPow _ _) ?_
  rw [fi_pMul, fi_pMul, fi_pPow, fi_pPow, ← fpow_add]
  have : k = (k / 2 + k / 2) + 1 := by omega
  conv => rhs; rw [this, fpow_add]
  congr 1; grobner
theorem pow_none (n : Int) : pPow n 0 = 1 := fi_inj (r_pPow _ _) (by decide) (by rw [fi_pPow]; rfl)
end Go.Proofs.YtjjmelhhalomaaaGreatDoor
