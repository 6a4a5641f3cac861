/- The greater field: pairs over the field of 4051 elements, i times i being -1: products, powers, what is turned, norms; the power 4051 is what is turned (Frobenius). No program. -/
import Derived.Test.YtfnifdmnbccblaaDoorPr
namespace Go.Proofs.YtfnifdmnbccblaaDoor
structure Z where
  re : F
  im : F
theorem Z.ext' {a b : Z} (h1 : a.re = b.re) (h2 : a.im = b.im) : a = b := by cases a; cases b; simp only at h1 h2; subst h1 h2; rfl
def Z.one : Z := ⟨1, 0⟩
def Z.mul (a b : Z) : Z := ⟨a.re * b.re - a.im * b.im, a.re * b.im + a.im * b.re⟩
def Z.add (a b : Z) : Z := ⟨a.re + b.re, a.im + b.im⟩
def Z.conj (a : Z) : Z := ⟨a.re, -a.im⟩
def Z.norm (a : Z) : F := a.re * a.re + a.im * a.im
def Z.of (a : F) : Z := ⟨a, 0⟩
def Z.pow (a : Z) : Nat → Z
  | 0 => .one
  | n+1 => (a.pow n).mul a
theorem Z.mul_comm (a b : Z) : a.mul b = b.mul a := Z.ext' (by simp only [Z.mul]; grobner) (by simp only [Z.mul]; grobner)
theorem Z.mul_assoc (a b c : Z) : (a.mul b).mul c = a.mul (b.mul c) := Z.ext' (by simp only [Z.mul]; grobner) (by simp only [Z.mul]; grobner)
theorem Z.mul_left_comm (a b c : Z) : a.mul (b.mul c) = b.mul (a.mul c) := by rw [← Z.mul_assoc, Z.mul_comm a b, Z.mul_assoc]
theorem Z.mul_one (a : Z) : a.mul .one = a := Z.ext' (by simp only [Z.mul, Z.one]; grobner) (by simp only [Z.mul, Z.one]; grobner)
theorem Z.one_mul (a : Z) : Z.one.mul a = a := by rw [Z.mul_comm, Z.mul_one]
theorem Z.mul_add (a b c : Z) : a.mul (b.add c) = (a.mul b).add (a.mul c) := Z.ext' (by simp only [Z.mul, Z.add]; grobner) (by simp only [Z.mul, Z.add]; grobner)
theorem Z.conj_mul (a b : Z) : (a.mul b).conj = a.conj.mul b.conj := Z.ext' (by simp only [Z.mul, Z.conj]; grobner) (by simp only [Z.mul, Z.conj]; grobner)
theorem Z.conj_conj (a : Z) : a.conj.conj = a := Z.ext' rfl (by simp only [Z.conj]; grobner)
theorem Z.mul_conj (a : Z) : a.mul a.conj = .of a.norm := Z.ext' (by simp only [Z.mul, Z.conj, Z.norm, Z.of]; grobner) (by simp only [Z.mul, Z.conj, Z.of]; grobner)
theorem Z.norm_mul (a b : Z) : (a.mul b).norm = a.norm * b.norm := by simp only [Z.mul, Z.norm]; grobner
theorem Z.norm_conj (a : Z) : a.conj.norm = a.norm := by simp only [Z.conj, Z.norm]; grobner
theorem Z.norm_of (a : F) : (Z.of a).norm = a * a := by simp only [Z.of, Z.norm]; grobner
theorem Z.of_mul (a b : F) : (Z.of a).mul (.of b) = .of (a * b) := Z.ext' (by simp only [Z.mul, Z.of]; grobner) (by simp only [Z.mul, Z.of]; grobner)
theorem Z.norm_zero {a : Z} (h : a.norm = 0) : a.re = 0 ∧ a.im = 0 := by
  have key : ∀ x y : F, x * x + y * y = 0 → y = 0 := fun x y e => by
    by_cases hy : y = 0
    · exact hy
    · exfalso
      have h1 := mul_inv hy
      refine neg_one_nonsq (x * inv y) ?_
      have e2 : x * inv y * (x * inv y) = (x * x) * (inv y * inv y) := by grobner
      have e3 : x * x = - (y * y) := by grobner
      rw [e2, e3, show -(y*y) * (inv y * inv y) = -((y * inv y) * (y * inv y)) by grobner, h1]; grobner
  have h' : a.re * a.re + a.im * a.im = 0 := h
  exact ⟨key a.im a.re (by grobner), key a.re a.im h'⟩
theorem Z.pow_add (a : Z) (m : Nat) : ∀ n, a.pow (m + n) = (a.pow m).mul (a.pow n)
  | 0 => (Z.mul_one _).symm
  | n+1 => by show (a.pow (m + n)).mul a = _; rw [Z.pow_add a m n, Z.mul_assoc]; rfl
theorem Z.pow_mul (a : Z) (m : Nat) : ∀ n, a.pow (m * n) = (a.pow m).pow n
  | 0 => rfl
  | n+1 => by rw [Nat.mul_succ, Z.pow_add, Z.pow_mul a m n]; rfl
theorem Z.mul_pow (a b : Z) : ∀ n, (a.mul b).pow n = (a.pow n).mul (b.pow n)
  | 0 => (Z.mul_one _).symm
  | n+1 => by
    show ((a.mul b).pow n).mul (a.mul b) = ((a.pow n).mul a).mul ((b.pow n).mul b)
    rw [Z.mul_pow a b n]
    simp only [Z.mul_assoc, Z.mul_left_comm, Z.mul_comm]
theorem Z.one_pow : ∀ n, Z.one.pow n = .one
  | 0 => rfl
  | n+1 => by show (Z.one.pow n).mul .one = _; rw [Z.mul_one, Z.one_pow n]
theorem Z.conj_pow (a : Z) : ∀ n, (a.pow n).conj = a.conj.pow n
  | 0 => Z.ext' rfl (by show -(0 : F) = 0; decide)
  | n+1 => by show ((a.pow n).mul a).conj = _; rw [Z.conj_mul, Z.conj_pow a n]; rfl
theorem Z.of_pow (a : F) : ∀ n : Nat, (Z.of a).pow n = .of (a ^ n)
  | 0 => Z.ext' (by show (1 : F) = a ^ 0; grobner) rfl
  | n+1 => by show ((Z.of a).pow n).mul (.of a) = _; rw [Z.of_pow a n, Z.of_mul]; congr 1
theorem Z.norm_pow (a : Z) : ∀ n : Nat, (a.pow n).norm = a.norm ^ n
  | 0 => by show Z.one.norm = a.norm ^ 0; rw [show Z.one.norm = 1 by decide]; grobner
  | n+1 => by show ((a.pow n).mul a).norm = _; rw [Z.norm_mul, Z.norm_pow a n]; grobner

/-- t + i to the power 4052 is t t + 1, by the kernel, at each t. -/
def qm (a b c d : Nat) : Nat × Nat := ((a * c + (4051 - b) * d) % 4051, (a * d + b * c) % 4051)
def qsq (p : Nat × Nat) : Nat × Nat := qm p.1 p.2 p.1 p.2
def qmul (t : Nat) (p : Nat × Nat) : Nat × Nat := qm p.1 p.2 t 1
def qpow (t : Nat) : Nat × Nat :=
  -- 4052 = 111111010100
  qsq (qsq (qmul t (qsq (qsq (qmul t (qsq (qsq (qmul t (qsq (qmul t (qsq (qmul t (qsq (qmul t (qsq (qmul t (qsq (t, 1))))))))))))))))))
def qok (t : Nat) : Bool := match qpow t with | (a, b) => Nat.beq a ((t * t + 1) % 4051) && Nat.beq b 0
def qall : Nat → Bool
  | 0 => true
  | k+1 => qok k && qall k
theorem qall_ok : qall 4051 = true := by decide +kernel
def eNorm : Nat := 4052
def zn (p : Nat × Nat) : Z := ⟨fi p.1, fi p.2⟩
theorem qm_ok (a b c d : Nat) (hb : b ≤ 4051) : zn (qm a b c d) = (zn (a, b)).mul (zn (c, d)) := by
  have e : fi ((4051 - b : Nat) : Int) = - fi (b : Int) := by rw [← fi_neg]; exact fi_eq.mpr (by omega)
  apply Z.ext'
  · show fi (((a * c + (4051 - b) * d) % 4051 : Nat) : Int) = fi a * fi c - fi b * fi d
    rw [Int.natCast_emod, show ((4051 : Nat) : Int) = 4051 from rfl, fi_mod, Int.natCast_add, Int.natCast_mul, Int.natCast_mul, fi_add, fi_mul, fi_mul, e]; grobner
  · show fi (((a * d + b * c) % 4051 : Nat) : Int) = fi a * fi d + fi b * fi c
    rw [Int.natCast_emod, show ((4051 : Nat) : Int) = 4051 from rfl, fi_mod, Int.natCast_add, Int.natCast_mul, Int.natCast_mul, fi_add, fi_mul, fi_mul]
theorem qm_le (a b c d : Nat) : (qm a b c d).2 ≤ 4051 := by show (a * d + b * c) % 4051 ≤ 4051; omega
theorem qsq_ok (p : Nat × Nat) (n : Nat) (z : Z) (h : p.2 ≤ 4051 ∧ zn p = z.pow n) : (qsq p).2 ≤ 4051 ∧ zn (qsq p) = z.pow (n + n) :=
  ⟨qm_le _ _ _ _, by unfold qsq; rw [qm_ok _ _ _ _ h.1, Z.pow_add, ← h.2]⟩
theorem qmul_ok (t : Nat) (p : Nat × Nat) (n : Nat) (h : p.2 ≤ 4051 ∧ zn p = (zn (t, 1)).pow n) : (qmul t p).2 ≤ 4051 ∧ zn (qmul t p) = (zn (t, 1)).pow (n + 1) :=
  ⟨qm_le _ _ _ _, by unfold qmul; rw [qm_ok _ _ _ _ h.1]; show (zn p).mul _ = _; rw [h.2]; rfl⟩
theorem qpow_ok (t : Nat) : zn (qpow t) = (zn (t, 1)).pow eNorm := by
  have h0 : (t, 1).2 ≤ 4051 ∧ zn (t, 1) = (zn (t, 1)).pow 1 := ⟨(by show 1 ≤ 4051; decide), (Z.one_mul _).symm⟩
  have h1 := qmul_ok t _ _ (qsq_ok _ _ _ h0)
  have h2 := qmul_ok t _ _ (qsq_ok _ _ _ h1)
  have h3 := qmul_ok t _ _ (qsq_ok _ _ _ h2)
  have h4 := qmul_ok t _ _ (qsq_ok _ _ _ h3)
  have h5 := qmul_ok t _ _ (qsq_ok _ _ _ h4)
  have h6 := qmul_ok t _ _ (qsq_ok _ _ _ (qsq_ok _ _ _ h5))
  have h7 := qmul_ok t _ _ (qsq_ok _ _ _ (qsq_ok _ _ _ h6))
  exact (qsq_ok _ _ _ (qsq_ok _ _ _ h7)).2
theorem qall_at : ∀ n, qall n = true → ∀ k, k < n → qok k = true
  | 0, _, _, hk => absurd hk (Nat.not_lt_zero _)
  | n+1, h, k, hk => by
    simp only [qall, Bool.and_eq_true] at h
    rcases Nat.lt_succ_iff_lt_or_eq.mp hk with h1 | h1
    · exact qall_at n h.2 k h1
    · subst h1; exact h.1
theorem frob_ti (t : F) : (Z.mk t 1).pow eNorm = .of ((Z.mk t 1).norm) := by
  have h := qall_at 4051 qall_ok t.val t.isLt
  have e := qpow_ok t.val
  have et : fi (t.val : Int) = t := fi_fz t
  have e1 : zn (t.val, 1) = Z.mk t 1 := Z.ext' et rfl
  rw [e1] at e
  rw [← e]
  unfold qok at h
  generalize qpow t.val = p at *
  obtain ⟨a, b⟩ := p
  simp only [Bool.and_eq_true, Nat.beq_eq] at h
  obtain ⟨ha, hb⟩ := h
  subst ha hb
  apply Z.ext'
  · show fi (((t.val * t.val + 1) % 4051 : Nat) : Int) = t * t + 1 * 1
    rw [Int.natCast_emod, show ((4051 : Nat) : Int) = 4051 from rfl, fi_mod, Int.natCast_add, Int.natCast_mul, fi_add, fi_mul, et]; rfl
  · rfl
theorem fpow_inv {a : F} (h : a ≠ 0) : a ^ (eInv + 1) = 1 := by
  have h1 : a ^ (eInv + 1) = a ^ eInv * a := by grobner
  rw [h1, ← inv_pow]; exact inv_mul h
theorem fpow_4052 (a : F) : a ^ eNorm = a * a := by
  by_cases h : a = 0
  · subst h
    have : (0:F) ^ (eInv + 3) = 0 ^ (eInv + 2) * 0 := by grobner
    rw [show eNorm = eInv + 3 from rfl, this]; grobner
  · have : a ^ (eInv + 3) = a ^ (eInv + 1) * (a * a) := by grobner
    rw [show eNorm = eInv + 3 from rfl, this, fpow_inv h]; grobner
/-- z to the power 4052 is its norm. -/
theorem frob_norm (z : Z) : z.pow eNorm = .of z.norm := by
  by_cases hb : z.im = 0
  · have e : z = .of z.re := Z.ext' rfl hb
    rw [e, Z.of_pow, Z.norm_of, fpow_4052]
  · have e : z = (Z.of z.im).mul ⟨z.re * inv z.im, 1⟩ := by
      have := mul_inv hb
      apply Z.ext'
      · show z.re = z.im * (z.re * inv z.im) - 0 * 1
        rw [show z.im * (z.re * inv z.im) - 0 * 1 = z.re * (z.im * inv z.im) by grobner, this]; grobner
      · show z.im = z.im * 1 + 0 * (z.re * inv z.im); grobner
    generalize (z.re * inv z.im) = t at e
    rw [e, Z.mul_pow, frob_ti, Z.of_pow, Z.of_mul, Z.norm_mul, Z.norm_of, fpow_4052]
/-- The pair of two numbers. -/
def zi (a b : Int) : Z := ⟨fi a, fi b⟩
theorem zi_fz (z : Z) : zi (fz z.re) (fz z.im) = z := Z.ext' (fi_fz _) (fi_fz _)
theorem fz_eq {a : Int} {x : F} (h0 : 0 ≤ a ∧ a < 4051) (h : fi a = x) : a = fz x := by rw [← h, fz_fi]; omega
theorem fz_inj {x y : F} (h : fz x = fz y) : x = y := by rw [← fi_fz x, h, fi_fz]
theorem zmul_re (a b c d : Int) : pSub (pMul a c) (pMul b d) = fz ((zi a b).mul (zi c d)).re := fz_eq (r_pSub _ _) (by rw [fi_pSub, fi_pMul, fi_pMul]; rfl)
theorem zmul_im (a b c d : Int) : pAdd (pMul a d) (pMul b c) = fz ((zi a b).mul (zi c d)).im := fz_eq (r_pAdd _ _) (by rw [fi_pAdd, fi_pMul, fi_pMul]; rfl)
theorem zadd_re (a b c d : Int) : pAdd a c = fz ((zi a b).add (zi c d)).re := fz_eq (r_pAdd _ _) (by rw [fi_pAdd]; rfl)
theorem zadd_im (a b c d : Int) : pAdd b d = fz ((zi a b).add (zi c d)).im := fz_eq (r_pAdd _ _) (by rw [fi_pAdd]; rfl)
theorem zof_re (a b : Int) : pOf a = fz (zi a b).re := fz_eq (r_pOf _) (by rw [pOf, fi_mod]; rfl)
theorem zof_im (a b : Int) : pOf b = fz (zi a b).im := fz_eq (r_pOf _) (by rw [pOf, fi_mod]; rfl)
theorem zconj_im (a b : Int) : pSub 0 b = fz (zi a b).conj.im := fz_eq (r_pSub _ _) (by rw [fi_pSub, fi_zero]; show 0 - fi b = - fi b; grobner)
theorem zconj_re (a b : Int) : pOf a = fz (zi a b).conj.re := fz_eq (r_pOf _) (by rw [pOf, fi_mod]; rfl)
theorem znorm (a b : Int) : pAdd (pMul a a) (pMul b b) = fz (zi a b).norm := fz_eq (r_pAdd _ _) (by rw [fi_pAdd, fi_pMul, fi_pMul]; rfl)
theorem zpow_half (z : Z) (n : Int) (h : 0 ≤ n) : z.pow n.toNat = ((z.mul z).pow (n / 2).toNat).mul (z.pow (n % 2).toNat) := by
  have f : ∀ k : Nat, (z.mul z).pow k = z.pow (k + k) := fun k => by
    induction k with
    | zero => rfl
    | succ k ih => show ((z.mul z).pow k).mul (z.mul z) = _; rw [ih, show k + 1 + (k + 1) = k + k + 1 + 1 by omega]; show _ = ((z.pow (k + k)).mul z).mul z; rw [Z.mul_assoc]
  rw [f, ← Z.pow_add]; congr 1; omega
/-- What holds at the head of the loop of twin.Power. -/
def ZAt (s z o : Z) (n : Int) : Prop := 0 ≤ n ∧ n ≤ 9223372036854775807 ∧ o.mul (z.pow n.toNat) = s
theorem zAt_odd {s z o : Z} {n : Int} (h : ZAt s z o n) (hb : n % 2 = 1) : ZAt s (z.mul z) (o.mul z) (n / 2) := by
  obtain ⟨h1, h2, h3⟩ := h
  refine ⟨by omega, by omega, ?_⟩
  rw [← h3, zpow_half z n h1, hb, show (1 : Int).toNat = 1 from rfl, show z.pow 1 = z from Z.one_mul _, Z.mul_assoc, Z.mul_comm ((z.mul z).pow _) z]
theorem zAt_even {s z o : Z} {n : Int} (h : ZAt s z o n) (hb : n % 2 = 0) : ZAt s (z.mul z) o (n / 2) := by
  obtain ⟨h1, h2, h3⟩ := h
  refine ⟨by omega, by omega, ?_⟩
  rw [← h3, zpow_half z n h1, hb, show (0 : Int).toNat = 0 from rfl, show z.pow 0 = .one from rfl, Z.mul_one]
theorem zAt_end {s z o : Z} {n : Int} (h : ZAt s z o n) (hn : n ≤ 0) : o = s := by
  obtain ⟨h1, _, h3⟩ := h
  have : n = 0 := by omega
  rw [← h3, this, show (0 : Int).toNat = 0 from rfl, show z.pow 0 = .one from rfl, Z.mul_one]
theorem zAt_start (z : Z) (n : Int) (h : 0 ≤ n) (h2 : n ≤ 9223372036854775807) : ZAt (z.pow n.toNat) z .one n := ⟨h, h2, Z.one_mul _⟩
theorem zAt_bd {s z o : Z} {n : Int} (h : ZAt s z o n) : 0 ≤ n ∧ n ≤ 9223372036854775807 := ⟨h.1, h.2.1⟩
theorem zi_two : (zi 0 1).pow (2 : Int).toNat = ⟨4050, 0⟩ := Z.ext' (by decide +kernel) (by decide +kernel)
theorem zi_ii : (zi 0 1).mul (zi 0 1) = ⟨4050, 0⟩ := Z.ext' (by decide +kernel) (by decide +kernel)
theorem zpow_frob (z : Z) : z.pow (4051 : Int).toNat = z.conj := by
  by_cases h : z.norm = 0
  · obtain ⟨h1, h2⟩ := Z.norm_zero h
    have e : z = .of 0 := Z.ext' h1 h2
    rw [e, show (4051 : Int).toNat = eInv + 2 from rfl, Z.of_pow]
    have : (0 : F) ^ (eInv + 2) = 0 ^ (eInv + 1) * 0 := by grobner
    rw [this]; exact Z.ext' (by show (0 : F) ^ (eInv + 1) * 0 = 0; grobner) (by show (0 : F) = -0; decide)
  · have e := frob_norm z
    rw [← Z.mul_conj, show eNorm = (4051 : Int).toNat + 1 from rfl] at e
    have e2 : (z.pow (4051 : Int).toNat).mul z = z.mul z.conj := e
    have k : (z.mul z.conj).mul (.of (inv z.norm)) = .one := by rw [Z.mul_conj, Z.of_mul, mul_inv h]; rfl
    have e3 := congrArg (fun x => x.mul (z.conj.mul (.of (inv z.norm)))) e2
    have l : ∀ x : Z, (x.mul z).mul (z.conj.mul (.of (inv z.norm))) = x := fun x => by
      rw [Z.mul_assoc, ← Z.mul_assoc z, k, Z.mul_one]
    rw [Z.mul_comm z z.conj] at e3
    have e4 : ((z.pow (4051 : Int).toNat).mul z).mul (z.conj.mul (.of (inv z.norm))) = (z.conj.mul z).mul (z.conj.mul (.of (inv z.norm))) := e3
    rw [l, l] at e4; exact e4
theorem fz_zero_iff {x : F} : fz x = 0 ↔ x = 0 := ⟨fun h => fz_inj (h.trans (by decide)), fun h => by rw [h]; decide⟩
theorem znorm_mul (a b : Z) : fz (a.mul b).norm = pMul (fz a.norm) (fz b.norm) := (fz_eq (r_pMul _ _) (by rw [fi_pMul, fi_fz, fi_fz, Z.norm_mul])).symm
theorem zmul_conj_re (a : Z) : fz (a.mul a.conj).re = fz a.norm := by rw [Z.mul_conj]; rfl
theorem zmul_conj_im (a : Z) : fz (a.mul a.conj).im = 0 := by rw [Z.mul_conj]; show fz (0 : F) = 0; decide
theorem znorm_ne {a : Z} (h : a.norm ≠ 0) : pOf (fz a.norm) ≠ 0 := fun e => h (fz_zero_iff.mp (by
  have := fz_lt a.norm; unfold pOf at e; omega))
theorem zinv {a : Z} (h : a.norm ≠ 0) : a.mul (a.conj.mul (zi (pInv (fz a.norm)) 0)) = .one := by
  rw [← Z.mul_assoc, Z.mul_conj]
  have : zi (pInv (fz a.norm)) 0 = .of (inv a.norm) := Z.ext' (by show fi (pInv (fz a.norm)) = _; rw [fi_pInv, fi_fz]; rfl) rfl
  rw [this, Z.of_mul, mul_inv h]; rfl
theorem Z.pow_zero (a : Z) : a.pow 0 = .one := rfl
theorem Z.pow_succ (a : Z) (n : Nat) : a.pow (n + 1) = (a.pow n).mul a := rfl
theorem Z.pow_one (a : Z) : a.pow 1 = a := Z.one_mul _
attribute [irreducible] Z.pow
end Go.Proofs.YtfnifdmnbccblaaDoor
