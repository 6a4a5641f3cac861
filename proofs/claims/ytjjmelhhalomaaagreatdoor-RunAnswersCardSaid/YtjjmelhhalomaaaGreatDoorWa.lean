/- Walks of layer prime: what each function returns, of any numbers. -/
import Derived.Test.YtjjmelhhalomaaaGreatDoorBs
import Derived.Test.YtjjmelhhalomaaaGreatDoorPr
import Derived.WalkKit
import Derived.Lib.Hide
import Derived.WalkSpells
import Derived.WalkLawsBesides
namespace Go.Proofs.YtjjmelhhalomaaaGreatDoor
open Go.RowKit
theorem tmod_bd (n : Int) : -4050 ≤ n.tmod 4051 ∧ n.tmod 4051 ≤ 4050 := by
  have h1 := Int.tmod_lt_of_pos n (b := 4051) (by decide)
  have h2 := Int.lt_tmod_of_pos n (b := 4051) (by decide)
  omega
theorem tmod_eq (n : Int) : n.tmod 4051 % 4051 = n % 4051 := by
  have := Int.mul_tdiv_add_tmod n 4051; omega
theorem of_neg (n : Int) (h : n.tmod 4051 < 0) : n.tmod 4051 + 4051 = pOf n := by
  have := tmod_bd n; have := tmod_eq n; unfold pOf; omega
theorem of_pos (n : Int) (h : 0 ≤ n.tmod 4051) : n.tmod 4051 = pOf n := by
  have := tmod_bd n; have := tmod_eq n; unfold pOf; omega
set_option maxHeartbeats 400000 in
theorem primeOf_c (n : Int) (w : World) : Calls Tryz.prog 91 #[.int .i64 n] w fun e w' => e = .returned (.int .i64 (pOf n)) ∧ w = w' := by
  have h := tmod_bd n
  obtain ⟨h1, h2⟩ := h
  go_enter Tryz.func91, Tryz.ntmps91
  go_wp2
  · go_ret
    exact ⟨ret_int (of_neg n (by assumption)), rfl⟩
  · go_ret
    exact ⟨ret_int (of_pos n (by assumption)), rfl⟩
theorem pAdd_of (a b : Int) : pOf (pOf a + pOf b) = pAdd a b := by unfold pOf pAdd; omega
theorem pSub_of (a b : Int) : pOf (pOf a - pOf b) = pSub a b := by unfold pOf pSub; omega
theorem pMul_of (a b : Int) : pOf (pOf a * pOf b) = pMul a b := by unfold pOf pMul; rw [← Int.mul_emod]
theorem mul_bd {a b : Int} (ha : 0 ≤ a ∧ a < 4051) (hb : 0 ≤ b ∧ b < 4051) : 0 ≤ a * b ∧ a * b ≤ 16402500 := by
  refine ⟨Int.mul_nonneg ha.1 hb.1, ?_⟩
  have : a * b ≤ 4050 * 4050 := Int.mul_le_mul (by omega) (by omega) hb.1 (by decide)
  omega
set_option maxHeartbeats 400000 in
theorem primeAdd_c (a b : Int) (w : World) : Calls Tryz.prog 122 #[.int .i64 a, .int .i64 b] w fun e w' => e = .returned (.int .i64 (pAdd a b)) ∧ w = w' := by
  have h1 := (r_pOf a).1; have h2 := (r_pOf a).2; have h3 := (r_pOf b).1; have h4 := (r_pOf b).2
  go_enter Tryz.func122, Tryz.ntmps122
  go_wp2_with (go_at_call 91; refine (primeOf_c _ _).mono ?_; rintro e w' ⟨rfl, rfl⟩)
  go_ret
  exact ⟨ret_int (pAdd_of a b), rfl⟩
set_option maxHeartbeats 400000 in
theorem primeSub_c (a b : Int) (w : World) : Calls Tryz.prog 90 #[.int .i64 a, .int .i64 b] w fun e w' => e = .returned (.int .i64 (pSub a b)) ∧ w = w' := by
  have h1 := (r_pOf a).1; have h2 := (r_pOf a).2; have h3 := (r_pOf b).1; have h4 := (r_pOf b).2
  go_enter Tryz.func90, Tryz.ntmps90
  go_wp2_with (go_at_call 91; refine (primeOf_c _ _).mono ?_; rintro e w' ⟨rfl, rfl⟩)
  go_ret
  exact ⟨ret_int (pSub_of a b), rfl⟩
set_option maxHeartbeats 400000 in
theorem primeMul_c (a b : Int) (w : World) : Calls Tryz.prog 79 #[.int .i64 a, .int .i64 b] w fun e w' => e = .returned (.int .i64 (pMul a b)) ∧ w = w' := by
  have h1 := (r_pOf a).1; have h2 := (r_pOf a).2; have h3 := (r_pOf b).1; have h4 := (r_pOf b).2
  have h5 := (mul_bd (r_pOf a) (r_pOf b)).1; have h6 := (mul_bd (r_pOf a) (r_pOf b)).2
  go_enter Tryz.func79, Tryz.ntmps79
  go_wp2_with (go_at_call 91; refine (primeOf_c _ _).mono ?_; rintro e w' ⟨rfl, rfl⟩)
  go_ret
  exact ⟨ret_int (pMul_of a b), rfl⟩
theorem two63' : (2 : Int) ^ 63 = 9223372036854775808 := by decide
/-- 'n & 1' of a number that is not below 0. -/
theorem and_one64 (n : Int) (h0 : 0 ≤ n) (h1 : n ≤ 9223372036854775807) : bits BinOp.and IntKind.i64 n 1 = n % 2 := by
  have h := bits_mask .i64 63 (by decide) (fun n h0 h1 => by rw [two63'] at h1; rw [IntKind.wrap_i64]; omega) 1 (by decide) n h0 (by rw [two63']; omega)
  have e : ((2 : Int) ^ 1 - 1) = 1 := by decide
  rw [e] at h
  rw [h]
  omega
/-- What holds at the head of a loop that squares and multiplies. -/
def PowAt (s a n o : Int) : Prop := 0 ≤ n ∧ n ≤ 9223372036854775807 ∧ (o * a ^ n.toNat) % 4051 = s ∧ o % 4051 = o
theorem emod_mul_congr {a b c d m : Int} (h1 : a % m = b % m) (h2 : c % m = d % m) : (a * c) % m = (b * d) % m := by rw [Int.mul_emod, h1, h2, ← Int.mul_emod]
theorem pow_congr {a b m : Int} (h : a % m = b % m) : ∀ n : Nat, a ^ n % m = b ^ n % m
  | 0 => by rw [Int.pow_zero, Int.pow_zero]
  | n+1 => by rw [Int.pow_succ, Int.pow_succ]; exact emod_mul_congr (pow_congr h n) h
theorem pow_half (a n : Int) (h : 0 ≤ n) : a ^ n.toNat = (a * a) ^ (n / 2).toNat * a ^ (n % 2).toNat := by
  have e : n.toNat = ((n / 2).toNat + (n / 2).toNat) + (n % 2).toNat := by omega
  have f : ∀ k : Nat, (a * a) ^ k = a ^ (k + k) := fun k => by
    induction k with
    | zero => rw [Int.pow_zero, Int.pow_zero]
    | succ k ih => rw [Int.pow_succ, ih, show k + 1 + (k + 1) = k + k + 1 + 1 by omega, Int.pow_succ, Int.pow_succ, Int.mul_assoc]
  conv => lhs; rw [e]
  rw [Int.pow_add, f]
theorem powAt_odd {s a n o : Int} (h : PowAt s a n o) (hb : (bits BinOp.and IntKind.i64 n 1 == 1) = true) : PowAt s (pMul a a) (n / 2) (pMul o a) := by
  obtain ⟨h1, h2, h3, h4⟩ := h
  rw [and_one64 n h1 h2] at hb
  have hb' : n % 2 = 1 := by simpa using hb
  refine ⟨by omega, by omega, ?_, by unfold pMul; omega⟩
  rw [pow_half a n h1, hb'] at h3
  rw [← h3]
  have e : o * ((a * a) ^ (n / 2).toNat * a ^ (1 : Int).toNat) = (o * a) * (a * a) ^ (n / 2).toNat := by
    rw [show (1 : Int).toNat = 1 from rfl, Int.pow_one]; simp only [Int.mul_comm, Int.mul_left_comm, Int.mul_assoc]
  rw [e]
  exact emod_mul_congr (by unfold pMul; omega) (pow_congr (by unfold pMul; omega) _)
theorem powAt_even {s a n o : Int} (h : PowAt s a n o) (hb : (bits BinOp.and IntKind.i64 n 1 == 1) = false) : PowAt s (pMul a a) (n / 2) o := by
  obtain ⟨h1, h2, h3, h4⟩ := h
  rw [and_one64 n h1 h2] at hb
  have hb' : n % 2 = 0 := by have : n % 2 ≠ 1 := by simpa using hb
                             omega
  refine ⟨by omega, by omega, ?_, h4⟩
  rw [pow_half a n h1, hb'] at h3
  rw [← h3]
  have e : o * ((a * a) ^ (n / 2).toNat * a ^ (0 : Int).toNat) = o * (a * a) ^ (n / 2).toNat := by
    rw [show (0 : Int).toNat = 0 from rfl]; simp
  rw [e]
  exact emod_mul_congr rfl (pow_congr (by unfold pMul; omega) _)
theorem powAt_end {s a n o : Int} (h : PowAt s a n o) (hn : n ≤ 0) : o = s := by
  obtain ⟨h1, h2, h3, h4⟩ := h
  have : n = 0 := by omega
  subst this
  have e : o * a ^ (0 : Int).toNat = o := by rw [show (0 : Int).toNat = 0 from rfl]; simp
  rw [e] at h3; omega
theorem powAt_start (a n : Int) (h : 0 ≤ n) (h2 : n ≤ 9223372036854775807) : PowAt (pPow a n.toNat) a n 1 := ⟨h, h2, by unfold pPow; simp, by decide⟩
theorem powAt_bd {s a n o : Int} (h : PowAt s a n o) : 0 ≤ n ∧ n ≤ 9223372036854775807 := ⟨h.1, h.2.1⟩
set_option maxHeartbeats 400000 in
theorem primePower_c (a n : Int) (w : World) (hn : 0 ≤ n) (hm : n ≤ 9223372036854775807) : Calls Tryz.prog 158 #[.int .i64 a, .int .i64 n] w fun e w' => e = .returned (.int .i64 (pPow a n.toNat)) ∧ w = w' := by
  go_enter Tryz.func158, Tryz.ntmps158
  go_wp2
  go_loop [0, 1, 5] (fun x m o => ∃ a' n' o' : Int, x = .int .i64 a' ∧ m = .int .i64 n' ∧ o = .int .i64 o' ∧ PowAt (pPow a n.toNat) a' n' o') (fun _ m _ => (intOf m).toNat)
  case atStart => exact ⟨a, n, 1, rfl, rfl, rfl, powAt_start a n hn hm⟩
  case round =>
    obtain ⟨a', n', o', rfl, rfl, rfl, h⟩ := hrel
    have h1 := (powAt_bd h).1
    have h2 := (powAt_bd h).2
    go_wp2_with (go_at_call 79; refine (primeMul_c _ _ _).mono ?_; rintro e w' ⟨rfl, rfl⟩)
    · go_round
      case rel => exact ⟨_, _, _, rfl, rfl, rfl, powAt_odd h (by assumption)⟩
      case measure => simp [intOf]; omega
    · go_round
      case rel => exact ⟨_, _, _, rfl, rfl, rfl, powAt_even h (by assumption)⟩
      case measure => simp [intOf]; omega
    · go_ret
      exact ⟨ret_int (powAt_end h (by assumption)), rfl⟩
set_option maxHeartbeats 400000 in
theorem primeInverse_c (a : Int) (w : World) : Calls Tryz.prog 125 #[.int .i64 a] w fun e w' => e = .returned (.int .i64 (pInv a)) ∧ w = w' := by
  go_enter Tryz.func125, Tryz.ntmps125
  go_wp2_with (go_at_call 158; refine (primePower_c _ _ _ (by decide) (by decide)).mono ?_; rintro e w' ⟨rfl, rfl⟩)
  go_ret
  exact ⟨rfl, rfl⟩
end Go.Proofs.YtjjmelhhalomaaaGreatDoor
