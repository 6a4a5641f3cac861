/- Pairs by the powers of zeta; contracts that name their results; the closed fact of the top statements. -/
import Derived.Test.YtfnifdmnbccblaaDoorPq
import Derived.Test.YtfnifdmnbccblaaDoorSb
namespace Go.Proofs.YtfnifdmnbccblaaDoor
open Go.RowKit
set_option maxRecDepth 100000
set_option linter.unusedVariables false
set_option linter.unusedSimpArgs false
theorem zeta_mod (n : Nat) : zeta.pow n = zeta.pow (n % 1013) := by
  have : n = 1013 * (n / 1013) + n % 1013 := by omega
  conv => lhs; rw [this]
  rw [Z.pow_add, Z.pow_mul, zeta_whole, Z.one_pow, Z.one_mul]
/-- The power of zeta, of any number. -/
def zp (n : Int) : Z := zeta.pow (n % 1013).toNat
theorem zp_nat {n : Int} (h : 0 ≤ n) : zeta.pow n.toNat = zp n := by
  unfold zp; rw [zeta_mod]; congr 1; omega
theorem zp_eq {n m : Int} (h : n % 1013 = m % 1013) : zp n = zp m := by unfold zp; rw [h]
theorem zp_mul (n m : Int) : (zp n).mul (zp m) = zp (n + m) := by
  unfold zp; rw [← Z.pow_add, zeta_mod]; congr 1; omega
theorem zp_pow (a n : Int) (h : 0 ≤ n) : (zp a).pow n.toNat = zp (a * n) := by
  have e : ((((a % 1013).toNat * n.toNat) % 1013 : Nat) : Int) = (a * n) % 1013 := by
    rw [Int.natCast_emod, Int.natCast_mul, show (((a % 1013).toNat : Nat) : Int) = a % 1013 by omega, show ((n.toNat : Nat) : Int) = n by omega]
    show (a % 1013 * n) % 1013 = (a * n) % 1013
    rw [Int.mul_emod, Int.emod_emod_of_dvd _ (Int.dvd_refl _), ← Int.mul_emod]
  unfold zp; rw [← Z.pow_mul, zeta_mod]; congr 1
  generalize (a * n) % 1013 = k at *
  omega
theorem zp_norm (n : Int) : (zp n).norm = 1 := by unfold zp; rw [Z.norm_pow, zeta_norm, fone_pow]
theorem zp_one : zp 1 = zeta := by unfold zp; exact Z.pow_one _
attribute [irreducible] zp
theorem pair_e (a b : Sp) (i j : Int) (z : Z) (w : World) (hF : FarAt w) (hO : OneAt w) (ha : Hid (Cnt a i)) (hb : Hid (Cnt b j)) (hz : Hid (zp (i * j) = z)) : Calls Tryd.prog 20 #[spV a, spV b] w fun e w' => e = .returned (.tuple #[twR z, .nilIface]) ∧ Below w.heap.size w w' :=
  pair_y a b i j z w hF hO ha.out hb.out (by show _ = _; rw [zp_nat (Int.mul_nonneg ha.out.2.1 hb.out.2.1)]; exact hz.out)
theorem pair_base (w : World) (hF : FarAt w) (hO : OneAt w) : Calls Tryd.prog 20 #[spV ⟨1189, 3667, false⟩, spV ⟨1189, 3667, false⟩] w fun e w' => e = .returned (.tuple #[.agg #[.int .i64 2824, .int .i64 4013], .nilIface]) ∧ Below w.heap.size w w' :=
  pair_e _ _ 1 1 zeta w hF hO ⟨sq_4.symm, by omega, by omega⟩ ⟨sq_4.symm, by omega, by omega⟩ zp_one
theorem mul_e (y z V : Z) (w : World) (h : Hid (y.mul z = V)) : Calls Tryd.prog 91 #[twR y, twR z] w fun e w' => e = .returned (twR V) ∧ Below w.heap.size w w' := by
  have := mul_z y z w; rw [h.out] at this; exact this
/-- A pair that is refused. -/
def PairNo (a b : Sp) (E : Int) : Prop := ∀ w : World, FarAt w → Calls Tryd.prog 20 #[spV a, spV b] w fun e w' => e = .returned (.tuple #[.agg #[.int .i64 0, .int .i64 0], .iface 118 (.int .i64 E)]) ∧ Below w.heap.size w w'
theorem pair_cases (a b : Sp) : (∃ i j, Cnt a i ∧ Cnt b j) ∨ ∃ E, PairNo a b E := by
  by_cases ca : sCheck a = 0
  case neg => exact .inr ⟨_, fun w hF => pair_n a b _ w (fun w1 hb => ready_bad a b _ w1 (hF.below hb) 0 (by omega) (fun i _ h => absurd h (by omega)) rfl ca)⟩
  have oa := (ok_iff _).mp ca
  by_cases cb : sCheck b = 0
  case neg => exact .inr ⟨_, fun w hF => pair_n a b _ w (fun w1 hb => ready_bad a b _ w1 (hF.below hb) 1 (by omega) (ok_first a b oa) rfl cb)⟩
  have ob := (ok_iff _).mp cb
  obtain ⟨u, -, -, eu⟩ := sq_all oa
  obtain ⟨v, -, -, ev⟩ := sq_all ob
  cases fu : (sq (u * 1013)).far
  · exact .inr ⟨3, fun w hF => pair_n a b _ w (fun w1 hb => ready_in a b u v w1 (hF.below hb) eu ev fu)⟩
  cases fv : (sq (v * 1013)).far
  · exact .inr ⟨3, fun w hF => pair_n a b _ w (fun w1 hb => ready_in2 a b u v w1 (hF.below hb) eu ev fu fv)⟩
  obtain ⟨i, hi⟩ := cnt_of fu
  obtain ⟨j, hj⟩ := cnt_of fv
  exact .inl ⟨i, j, eu ▸ hi, ev ▸ hj⟩
theorem cnt_ok {a : Sp} {i : Int} (h : Cnt a i) : Ok a := ok_of h.1
theorem cnt_mod (i : Int) : Cnt (sq (4 * i)) (i % 1013) := ⟨sq_eq_iff.mpr (by omega), by omega, by omega⟩
end Go.Proofs.YtfnifdmnbccblaaDoor
