/- The field of 4051 elements as Fin 4051: inverses, no zero divisors, 2 and -1 are no squares; the map of Int onto it. No program. -/
namespace Go.Proofs.YtjjmelhhalomaaaGreatDoor
abbrev F := Fin 4051
def eInv : Nat := 4049
def inv (a : F) : F := ⟨a.val ^ eInv % 4051, Nat.mod_lt _ (by decide)⟩
def chkInv : Nat → Bool
  | 0 => true
  | k+1 => (k == 0 || (k * (k ^ eInv % 4051) % 4051 == 1)) && chkInv k
theorem chkInv_ok : chkInv 4051 = true := by decide +kernel
theorem chkInv_at : ∀ n, chkInv n = true → ∀ k, k < n → k ≠ 0 → k * (k ^ eInv % 4051) % 4051 = 1
  | 0, _, _, hk, _ => absurd hk (Nat.not_lt_zero _)
  | n+1, h, k, hk, h0 => by
    simp only [chkInv, Bool.and_eq_true, Bool.or_eq_true, beq_iff_eq] at h
    rcases Nat.lt_succ_iff_lt_or_eq.mp hk with h1 | h1
    · exact chkInv_at n h.2 k h1 h0
    · subst h1; rcases h.1 with h2 | h2
      · exact absurd h2 h0
      · exact h2
theorem mul_inv {a : F} (h : a ≠ 0) : a * inv a = 1 := by
  apply Fin.ext
  have h0 : a.val ≠ 0 := fun e => h (Fin.ext e)
  have := chkInv_at 4051 chkInv_ok a.val a.isLt h0
  simpa [Fin.mul_def, inv] using this
theorem inv_mul {a : F} (h : a ≠ 0) : inv a * a = 1 := by have := mul_inv h; grobner
theorem mul_zero_or {a b : F} (h : a * b = 0) : a = 0 ∨ b = 0 := by
  by_cases ha : a = 0
  · exact .inl ha
  · right; have h1 := inv_mul ha
    have : inv a * (a * b) = inv a * 0 := by rw [h]
    grobner
theorem mul_ne {a b : F} (ha : a ≠ 0) (hb : b ≠ 0) : a * b ≠ 0 := fun h => (mul_zero_or h).elim ha hb
theorem cancel {a b c : F} (hc : c ≠ 0) (h : a * c = b * c) : a = b := by
  have h1 := mul_inv hc
  have : a * c * inv c = b * c * inv c := by rw [h]
  grobner
theorem div_eq {a b c d : F} (hb : b ≠ 0) (hd : d ≠ 0) (h : a * d = c * b) : a * inv b = c * inv d := by
  have h1 := mul_inv hb
  have h2 := mul_inv hd
  have : a * d * (inv b * inv d) = c * b * (inv b * inv d) := by rw [h]
  grobner
theorem sq_eq {a b : F} (h : a * a = b * b) : a = b ∨ a = -b := by
  have : (a - b) * (a + b) = 0 := by grobner
  rcases mul_zero_or this with h | h
  · left; grobner
  · right; grobner
/-- Euler: no square is a number whose half power is less than nought. -/
def chkSq (v : Nat) : Nat → Bool
  | 0 => true
  | k+1 => (k * k % 4051 != v) && chkSq v k
theorem chkSq_at (v : Nat) : ∀ n, chkSq v n = true → ∀ k, k < n → k * k % 4051 ≠ v
  | 0, _, _, hk => absurd hk (Nat.not_lt_zero _)
  | n+1, h, k, hk => by
    simp only [chkSq, Bool.and_eq_true, bne_iff_ne] at h
    rcases Nat.lt_succ_iff_lt_or_eq.mp hk with h1 | h1
    · exact chkSq_at v n h.2 k h1
    · subst h1; exact h.1
theorem two_nonsq (a : F) : a * a ≠ 2 := fun h => by
  have := chkSq_at 2 4051 (by decide +kernel) a.val a.isLt
  exact this (by have := congrArg Fin.val h; simpa [Fin.mul_def] using this)
theorem neg_one_nonsq (a : F) : a * a ≠ -1 := fun h => by
  have := chkSq_at 4050 4051 (by decide +kernel) a.val a.isLt
  have h2 : a * a = 4050 := h.trans (by decide)
  exact this (by have := congrArg Fin.val h2; rw [Fin.val_mul] at this; exact this)
theorem one_ne : (1 : F) ≠ 0 := by decide
theorem two_ne : (2 : F) ≠ 0 := by decide

/-- The field's element of an Int. -/
def fi (z : Int) : F := ⟨(z % 4051).toNat, by omega⟩
theorem fi_val (z : Int) : ((fi z).val : Int) = z % 4051 := by simp only [fi]; omega
theorem fi_eq {a b : Int} : fi a = fi b ↔ a % 4051 = b % 4051 := by
  constructor
  · intro h; have := congrArg (fun x : F => (x.val : Int)) h; simpa only [fi_val] using this
  · intro h; simp only [fi, h]
theorem fi_ext {a : F} {z : Int} (h : (a.val : Int) = z % 4051) : a = fi z := by
  apply Fin.ext; have := fi_val z; omega
theorem fi_mod (z : Int) : fi (z % 4051) = fi z := fi_eq.mpr (by omega)
theorem fi_add (a b : Int) : fi (a + b) = fi a + fi b := by
  symm; apply fi_ext
  rw [Fin.val_add]
  have ha := fi_val a; have hb := fi_val b
  omega
theorem fi_mul (a b : Int) : fi (a * b) = fi a * fi b := by
  symm; apply fi_ext
  rw [Fin.val_mul]
  have ha := fi_val a; have hb := fi_val b
  rw [Int.mul_emod, ← ha, ← hb]; simp
theorem fi_zero : fi 0 = 0 := rfl
theorem fi_one : fi 1 = 1 := rfl
theorem fi_neg (a : Int) : fi (-a) = - fi a := by
  have : fi (-a + a) = fi (-a) + fi a := fi_add _ _
  rw [show -a + a = 0 by omega, fi_zero] at this
  grobner
theorem fi_sub (a b : Int) : fi (a - b) = fi a - fi b := by
  have := fi_add a (-b); rw [fi_neg] at this
  rw [show a - b = a + -b by omega, this]; grobner
theorem fi_pow (a : Int) : ∀ n : Nat, fi (a ^ n) = fi a ^ n
  | 0 => by simp [fi_one]
  | n+1 => by rw [Int.pow_succ, fi_mul, fi_pow a n]; grobner
/-- The number of the field's element. -/
def fz (a : F) : Int := a.val
theorem fz_fi (z : Int) : fz (fi z) = z % 4051 := fi_val z
theorem fi_fz (a : F) : fi (fz a) = a := (fi_ext (by simp only [fz]; have := a.isLt; omega)).symm
theorem fz_lt (a : F) : 0 ≤ fz a ∧ fz a < 4051 := by simp only [fz]; have := a.isLt; omega
theorem fi_inj {a b : Int} (ha : 0 ≤ a ∧ a < 4051) (hb : 0 ≤ b ∧ b < 4051) (h : fi a = fi b) : a = b := by
  have := fi_eq.mp h; omega
theorem fi_zero_iff {a : Int} (ha : 0 ≤ a ∧ a < 4051) : fi a = 0 ↔ a = 0 := by
  constructor
  · intro h; exact fi_inj ha (by omega) (h.trans fi_zero.symm)
  · intro h; rw [h]; rfl
end Go.Proofs.YtjjmelhhalomaaaGreatDoor
