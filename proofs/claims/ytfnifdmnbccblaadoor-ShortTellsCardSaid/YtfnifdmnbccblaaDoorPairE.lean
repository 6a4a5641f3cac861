/- The document's pair: 1012 addings, one by one; reckoned by the kernel at each multiple of the base. No program. (Printed by gen_pe.py.) -/
import Derived.Test.YtfnifdmnbccblaaDoorPairD
namespace Go.Proofs.YtfnifdmnbccblaaDoor
attribute [local semireducible] Z.pow
/-- The document's steps: the first is a doubling (twice the spot itself), then addings. -/
def refOps : List Bool := false :: List.replicate 1010 true
theorem refOps_good : cgood 1 refOps = true := by decide +kernel
theorem refOps_a : agood 1 refOps = true := by decide +kernel
def xK (k : Nat) : Nat := Nat.mod (Nat.shiftRight tabC (Nat.mul 24 k)) 4096
def yK (k : Nat) : Nat := Nat.mod (Nat.shiftRight tabC (Nat.add (Nat.mul 24 k) 12)) 4096
/-- One adding, packed: p + 4096 q. -/
def aPack (xm ym p q x y : Nat) : Nat :=
  (fun d => (fun c e => Nat.add (Nat.mod (Nat.add (Nat.mul p c) (Nat.mul (Nat.sub 4051 q) e)) 4051) (Nat.mul 4096 (Nat.mod (Nat.add (Nat.mul p e) (Nat.mul q c)) 4051)))
    (Nat.mod (Nat.add (Nat.mul (Nat.add y (Nat.sub 4051 ym)) (Nat.add 1189 x)) (Nat.mul (Nat.sub 4051 y) d)) 4051) (Nat.mod (Nat.mul d 3667) 4051)) (Nat.add x (Nat.sub 4051 xm))
def aRun (a xm ym : Nat) (n : Nat) : Nat → Nat → Nat := Nat.rec (motive := fun _ => Nat → Nat → Nat) (fun _ s => s) (fun _ ih k s => ih (Nat.mod (Nat.add k a) 4052) (aPack xm ym (Nat.mod s 4096) (Nat.div s 4096) (xK k) (yK k))) n
theorem aRun_succ (a xm ym n k s : Nat) : aRun a xm ym (n + 1) k s = aRun a xm ym n ((k + a) % 4052) (aPack xm ym (s % 4096) (s / 4096) (cx k) (cy k)) := rfl
theorem aPack_e (a p q k : Nat) : aPack (cx a) (cy a) p q (cx k) (cy k) = (qm2 (p, q) (nlA k a)).1 + 4096 * (qm2 (p, q) (nlA k a)).2 := rfl
theorem aRun_ok (a : Nat) : ∀ (n k p q : Nat), p < 4096 → q < 4096 → ((List.replicate n true).foldl (nstep a) ((p, q), k)).1 = (aRun a (cx a) (cy a) n k (p + 4096 * q) % 4096, aRun a (cx a) (cy a) n k (p + 4096 * q) / 4096)
  | 0, k, p, q, hp, hq => by
    show (p, q) = ((p + 4096 * q) % 4096, (p + 4096 * q) / 4096)
    exact Prod.ext (by show p = _; omega) (by show q = _; omega)
  | n + 1, k, p, q, hp, hq => by
    rw [List.replicate_succ, List.foldl_cons, aRun_succ, show (p + 4096 * q) % 4096 = p by omega, show (p + 4096 * q) / 4096 = q by omega, aPack_e]
    have h1 : (qm2 (p, q) (nlA k a)).1 < 4096 := Nat.lt_trans (Nat.mod_lt _ (by decide)) (by decide : 4051 < 4096)
    have h2 : (qm2 (p, q) (nlA k a)).2 < 4096 := Nat.lt_trans (Nat.mod_lt _ (by decide)) (by decide : 4051 < 4096)
    rw [← aRun_ok a n ((k + a) % 4052) _ _ h1 h2]
    rfl
def aStart (a : Nat) : Nat := (qm2 (qm2 (1, 0) (1, 0)) (nlD a)).1 + 4096 * (qm2 (qm2 (1, 0) (1, 0)) (nlD a)).2
def fastF (a : Nat) : Nat := aRun a (xK a) (yK a) 1010 (Nat.mod (Nat.add a a) 4052) (aStart a)
def fastAt (a : Nat) (z : Nat × Nat) : Bool := (fun f => eqP (fourth (f % 4096, (4051 - f / 4096) % 4051)) (qm2 (fourth (f % 4096, f / 4096)) z)) (fastF a)
theorem nrun_ref (a : Nat) : (nrun a refOps).1 = (fastF a % 4096, fastF a / 4096) := by
  have h1 : (qm2 (qm2 (1, 0) (1, 0)) (nlD a)).1 < 4096 := Nat.lt_trans (Nat.mod_lt _ (by decide)) (by decide : 4051 < 4096)
  have h2 : (qm2 (qm2 (1, 0) (1, 0)) (nlD a)).2 < 4096 := Nat.lt_trans (Nat.mod_lt _ (by decide)) (by decide : 4051 < 4096)
  have h := aRun_ok a 1010 ((a + a) % 4052) _ _ h1 h2
  show (refOps.foldl (nstep a) ((1, 0), a)).1 = _
  rw [refOps, List.foldl_cons]
  exact h
theorem fastAt_e (a : Nat) (z : Nat × Nat) : pairAt refOps a z = fastAt a z := by
  unfold pairAt fastAt
  rw [nrun_ref]
def chkF : Nat → Nat → Nat × Nat → Nat × Nat → Bool
  | 0, _, z, y => eqP z y
  | n + 1, i, z, y => fastAt (4 * i) z && chkF n (i + 1) (qm2 z (2824, 4013)) y
/-- What is known of one multiple of the base. -/
def RefAt (i : Nat) : Prop := ∃ y : Nat × Nat, pairAt refOps (4 * i) y = true ∧ zn y = zeta.pow i
theorem chkF_at : ∀ (n i : Nat) (z y : Nat × Nat), z.2 ≤ 4051 → zn z = zeta.pow i → chkF n i z y = true → (∀ j, j < n → RefAt (i + j)) ∧ zn y = zeta.pow (i + n)
  | 0, i, z, y, hz, he, h => ⟨fun j hj => absurd hj (Nat.not_lt_zero _), by rw [← eqP_ok h]; exact he⟩
  | n + 1, i, z, y, hz, he, h => by
    simp only [chkF, Bool.and_eq_true] at h
    have q := qm2_ok z (2824, 4013) hz
    have hs : zn (qm2 z (2824, 4013)) = zeta.pow (i + 1) := by rw [q.2, he]; rfl
    obtain ⟨h1, h2⟩ := chkF_at n (i + 1) _ y q.1 hs h.2
    refine ⟨fun j hj => ?_, by rw [h2]; congr 1; omega⟩
    match j with
    | 0 => exact ⟨z, by rw [fastAt_e]; exact h.1, he⟩
    | j + 1 => have := h1 j (by omega); rw [show i + 1 + j = i + (j + 1) by omega] at this; exact this
theorem rk0 : chkF 92 1 (2824, 4013) (2375, 2063) = true := by decide +kernel
theorem rk1 : chkF 92 93 (2375, 2063) (755, 2717) = true := by decide +kernel
theorem rk2 : chkF 92 185 (755, 2717) (2140, 3749) = true := by decide +kernel
theorem rk3 : chkF 92 277 (2140, 3749) (3860, 3579) = true := by decide +kernel
theorem rk4 : chkF 92 369 (3860, 3579) (581, 1745) = true := by decide +kernel
theorem rk5 : chkF 92 461 (581, 1745) (2646, 364) = true := by decide +kernel
theorem rk6 : chkF 92 553 (2646, 364) (1131, 3356) = true := by decide +kernel
theorem rk7 : chkF 92 645 (1131, 3356) (2642, 1838) = true := by decide +kernel
theorem rk8 : chkF 92 737 (2642, 1838) (3374, 3504) = true := by decide +kernel
theorem rk9 : chkF 92 829 (3374, 3504) (1170, 2349) = true := by decide +kernel
theorem rk10 : chkF 92 921 (1170, 2349) (1, 0) = true := by decide +kernel
theorem ref_all {i : Nat} (h1 : 1 ≤ i) (h2 : i ≤ 1012) : RefAt i := by
  have e0 : zn (2824, 4013) = zeta.pow 1 := (Z.one_mul _).symm
  obtain ⟨a0, e1⟩ := chkF_at 92 1 (2824, 4013) _ (by decide) e0 rk0
  obtain ⟨a1, e2⟩ := chkF_at 92 93 (2375, 2063) _ (by decide) e1 rk1
  obtain ⟨a2, e3⟩ := chkF_at 92 185 (755, 2717) _ (by decide) e2 rk2
  obtain ⟨a3, e4⟩ := chkF_at 92 277 (2140, 3749) _ (by decide) e3 rk3
  obtain ⟨a4, e5⟩ := chkF_at 92 369 (3860, 3579) _ (by decide) e4 rk4
  obtain ⟨a5, e6⟩ := chkF_at 92 461 (581, 1745) _ (by decide) e5 rk5
  obtain ⟨a6, e7⟩ := chkF_at 92 553 (2646, 364) _ (by decide) e6 rk6
  obtain ⟨a7, e8⟩ := chkF_at 92 645 (1131, 3356) _ (by decide) e7 rk7
  obtain ⟨a8, e9⟩ := chkF_at 92 737 (2642, 1838) _ (by decide) e8 rk8
  obtain ⟨a9, e10⟩ := chkF_at 92 829 (3374, 3504) _ (by decide) e9 rk9
  obtain ⟨a10, e11⟩ := chkF_at 92 921 (1170, 2349) _ (by decide) e10 rk10
  by_cases c0 : i < 93
  · have := a0 (i - 1) (by omega); rw [show 1 + (i - 1) = i by omega] at this; exact this
  by_cases c1 : i < 185
  · have := a1 (i - 93) (by omega); rw [show 93 + (i - 93) = i by omega] at this; exact this
  by_cases c2 : i < 277
  · have := a2 (i - 185) (by omega); rw [show 185 + (i - 185) = i by omega] at this; exact this
  by_cases c3 : i < 369
  · have := a3 (i - 277) (by omega); rw [show 277 + (i - 277) = i by omega] at this; exact this
  by_cases c4 : i < 461
  · have := a4 (i - 369) (by omega); rw [show 369 + (i - 369) = i by omega] at this; exact this
  by_cases c5 : i < 553
  · have := a5 (i - 461) (by omega); rw [show 461 + (i - 461) = i by omega] at this; exact this
  by_cases c6 : i < 645
  · have := a6 (i - 553) (by omega); rw [show 553 + (i - 553) = i by omega] at this; exact this
  by_cases c7 : i < 737
  · have := a7 (i - 645) (by omega); rw [show 645 + (i - 645) = i by omega] at this; exact this
  by_cases c8 : i < 829
  · have := a8 (i - 737) (by omega); rw [show 737 + (i - 737) = i by omega] at this; exact this
  by_cases c9 : i < 921
  · have := a9 (i - 829) (by omega); rw [show 829 + (i - 829) = i by omega] at this; exact this
  by_cases c10 : i < 1013
  · have := a10 (i - 921) (by omega); rw [show 921 + (i - 921) = i by omega] at this; exact this
  omega
theorem zR_base {i : Nat} (h1 : 1 ≤ i) (h2 : i ≤ 1012) : zP refOps (sq (4 * (i : Int))) (sq 4) = zeta.pow i := by
  obtain ⟨y, y1, y2⟩ := ref_all h1 h2
  have e : 4 * i % 4052 = 4 * i := Nat.mod_eq_of_lt (by omega)
  rw [← e] at y1
  rw [pairAt_ok (by omega) refOps_good refOps_a y1, y2]
theorem zR_all {i j : Nat} (h1 : 1 ≤ i) (h2 : i ≤ 1012) (h3 : 1 ≤ j) (h4 : j ≤ 1012) : zP refOps (sq (4 * (i : Int))) (sq (4 * (j : Int))) = zeta.pow (i * j) := by
  rw [zP_lin (by omega) refOps_good j h3 h4, zR_base h1 h2, Z.pow_mul]
/-- The document's loop. -/
theorem mrun_ref (a b : Sp) : (mrun a b (List.replicate 1012 true)).1 = zM refOps a b := by
  have e : mstep a b (.one, a) true = mstep a b (.one, a) false := by simp only [mstep, if_true, Bool.false_eq_true, if_false, Z.one_mul]
  have l : refOps ++ [true] = false :: List.replicate 1011 true := by
    rw [show (List.replicate 1011 true : List Bool) = List.replicate 1010 true ++ [true] from List.replicate_succ']; rfl
  unfold zM mrun
  rw [l, List.replicate_succ, List.foldl_cons, List.foldl_cons, e]
end Go.Proofs.YtfnifdmnbccblaaDoor
