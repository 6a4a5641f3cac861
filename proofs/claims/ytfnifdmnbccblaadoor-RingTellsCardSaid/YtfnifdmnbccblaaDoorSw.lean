/- Walks of share.power, share.rest, slices.Contains. -/
import Derived.Test.YtfnifdmnbccblaaDoorCf
namespace Go.Proofs.YtfnifdmnbccblaaDoor
open Go.RowKit
set_option maxRecDepth 100000
set_option linter.unusedVariables false
set_option linter.unusedSimpArgs false
theorem mul_bq {a b : Int} (h0 : 0 ≤ a) (h1 : a < 1013) (k0 : 0 ≤ b) (k1 : b < 1013) : 0 ≤ a * b ∧ a * b ≤ 1024144 :=
  ⟨Int.mul_nonneg h0 k0, Int.le_trans (Int.mul_le_mul (show a ≤ 1012 by omega) (show b ≤ 1012 by omega) k0 (by decide)) (by decide)⟩
/-- What holds at the head of the loop that squares and multiplies modulo Q. -/
def QowAt (s a n o : Int) : Prop := 0 ≤ n ∧ n ≤ 9223372036854775807 ∧ (o * a ^ n.toNat) % 1013 = s ∧ 0 ≤ o ∧ o < 1013 ∧ 0 ≤ a ∧ a < 1013
theorem qowAt_odd {s a n o : Int} (h : QowAt s a n o) (hb : (bits BinOp.and IntKind.i64 n 1 == 1) = true) : QowAt s ((a * a) % 1013) (n / 2) ((o * a) % 1013) := by
  obtain ⟨h1, h2, h3, -⟩ := h
  rw [and_one64 n h1 h2] at hb
  have hb' : n % 2 = 1 := by simpa using hb
  refine ⟨by omega, by omega, ?_, by omega, by omega, by omega, by omega⟩
  rw [pow_half a n h1, hb'] at h3
  rw [← h3]
  have e : o * ((a * a) ^ (n / 2).toNat * a ^ (1 : Int).toNat) = (o * a) * (a * a) ^ (n / 2).toNat := by
    rw [show (1 : Int).toNat = 1 from rfl, Int.pow_one]; simp only [Int.mul_comm, Int.mul_left_comm, Int.mul_assoc]
  rw [e]
  exact emod_mul_congr (by omega) (pow_congr (by omega) _)
theorem qowAt_even {s a n o : Int} (h : QowAt s a n o) (hb : (bits BinOp.and IntKind.i64 n 1 == 1) = false) : QowAt s ((a * a) % 1013) (n / 2) o := by
  obtain ⟨h1, h2, h3, h4, h5, -⟩ := h
  rw [and_one64 n h1 h2] at hb
  have hb' : n % 2 = 0 := by have : n % 2 ≠ 1 := by simpa using hb
                             omega
  refine ⟨by omega, by omega, ?_, h4, h5, by omega, by omega⟩
  rw [pow_half a n h1, hb'] at h3
  rw [← h3]
  have e : o * ((a * a) ^ (n / 2).toNat * a ^ (0 : Int).toNat) = o * (a * a) ^ (n / 2).toNat := by
    rw [show (0 : Int).toNat = 0 from rfl]; simp
  rw [e]
  exact emod_mul_congr rfl (pow_congr (by omega) _)
theorem qowAt_end {s a n o : Int} (h : QowAt s a n o) (hn : n ≤ 0) : o = s := by
  obtain ⟨h1, h2, h3, h4, h5, -⟩ := h
  have : n = 0 := by omega
  subst this
  have e : o * a ^ (0 : Int).toNat = o := by rw [show (0 : Int).toNat = 0 from rfl]; simp
  rw [e] at h3; omega
theorem tmod_s (n : Int) : -1012 ≤ n.tmod 1013 ∧ n.tmod 1013 ≤ 1012 := by
  have h1 := Int.tmod_lt_of_pos n (b := 1013) (by decide)
  have h2 := Int.lt_tmod_of_pos n (b := 1013) (by decide)
  omega
theorem tmod_se (n : Int) : n.tmod 1013 % 1013 = n % 1013 := by
  have := Int.mul_tdiv_add_tmod n 1013; omega
set_option maxHeartbeats 1000000 in
theorem refMod_q (n : Int) (w : World) (n0 : -9223372036854775808 ≤ n) (n1 : n ≤ 9223372036854775807) : Calls Tryd.prog 42 #[.int .i64 n, .int .i64 1013] w fun e w' => e = .returned (.int .i64 (n % 1013)) ∧ w = w' := by
  have hb := tmod_s n
  obtain ⟨hb1, hb2⟩ := hb
  have he := Lib.hid (tmod_se n)
  by_cases h : n.tmod 1013 < 0
  · go_enter Tryd.func42, Tryd.ntmps42
    go_wp2
    go_ret
    exact ⟨ret_int (by have := he.out; omega), rfl⟩
  · go_enter Tryd.func42, Tryd.ntmps42
    go_wp2
    go_ret
    exact ⟨ret_int (by have := he.out; omega), rfl⟩
set_option maxHeartbeats 2000000 in
theorem idxI (l : List Int) (x : Int) (a : Option Addr) (cap : Nat) (w : World) (hl : l.length ≤ 9223372036854775807) (h0 : 0 < l.length → ∃ b off, a = some ⟨b, off, none⟩ ∧ IntsAt w b off l) (R : Value)
    (hfirst : Hid (∀ i (h : i < l.length), (∀ j (hj : j < l.length), j < i → l[j] ≠ x) → l[i] = x → R = .int .i64 i)) (hend : Hid ((∀ i (h : i < l.length), l[i] ≠ x) → R = .int .i64 (-1))) :
    Calls Tryd.prog 138 #[.slice a l.length cap, .int .i64 x] w fun e w' => e = .returned R ∧ w = w' := by
  have h0' := Lib.hid h0
  clear h0
  go_enter Tryd.func138, Tryd.ntmps138
  go_wp2
  go_loop [8] (fun i => ∃ n : Nat, n ≤ l.length ∧ i = .int .i64 n ∧ (∀ j (hj : j < l.length), j < n → l[j] ≠ x)) (fun i => l.length - (intOf i).toNat)
  case atStart => exact ⟨0, Nat.zero_le _, rfl, fun _ _ h => absurd h (Nat.not_lt_zero _)⟩
  case round =>
    obtain ⟨n, hn, rfl, k1⟩ := hrel
    replace k1 := Lib.hid k1
    by_cases hlt : n < l.length
    · obtain ⟨b, off, rfl, l1⟩ := h0'.out (by omega)
      have m1 := l1.c n hlt
      clear l1
      by_cases e1 : l[n] = x
      · have hR := Lib.hid (hfirst.out n hlt k1.out e1)
        have hb : (x == l[n]) = true := by rw [beq_iff_eq]; exact e1.symm
        clear e1
        generalize l[n] = y at *
        go_wp2
        go_ret
        exact ⟨ret_eq hR.out.symm, rfl⟩
      · have j1 : ∀ j (hj : j < l.length), j < n + 1 → l[j] ≠ x := by
          intro j hj h
          by_cases hjn : j < n
          · exact k1.out j hj hjn
          · obtain rfl : j = n := by omega
            exact e1
        have hb : (x == l[n]) = false := by rw [beq_eq_false_iff_ne]; exact fun e => e1 e.symm
        replace j1 := Lib.hid j1
        clear e1
        generalize l[n] = y at *
        go_wp2
        go_round
        case rel => exact ⟨n + 1, by omega, by go_num, j1.out⟩
        case measure => simp [intOf]; omega
    · have hR := Lib.hid (hend.out (fun i hi => k1.out i hi (by omega)))
      go_wp2
      go_ret
      exact ⟨ret_eq hR.out.symm, rfl⟩
theorem contI_n (l : List Int) (x : Int) (v : Value) (w : World) (hl : l.length ≤ 9223372036854775807) (h : IntSl w v l) (hx : ∀ i (h : i < l.length), l[i] ≠ x) :
    Calls Tryd.prog 118 #[v, .int .i64 x] w fun e w' => e = .returned (.bool false) ∧ w = w' := by
  obtain ⟨a, cap, rfl, h0⟩ := h
  have hI := idxI l x a cap w hl h0 (.int .i64 (-1)) (Lib.hid fun i hi _ hb => absurd hb (hx i hi)) (Lib.hid fun _ => rfl)
  clear h0
  replace hx := Lib.hid hx
  replace hI := Lib.hid hI
  go_enter Tryd.func118, Tryd.ntmps118
  go_wp2_with fail
  refine hI.out.mono ?_; rintro e w' ⟨rfl, rfl⟩
  go_wp2
  go_ret
  exact ⟨rfl, rfl⟩
theorem first_at (l : List Int) (x : Int) : ∀ n, (h : n < l.length) → l[n] = x → ∃ (i : Nat) (h : i < l.length), l[i] = x ∧ ∀ j (hj : j < l.length), j < i → l[j] ≠ x := by
  intro n
  induction n using Nat.strongRecOn with
  | _ n ih =>
    intro h e
    by_cases hex : ∃ m, ∃ h' : m < l.length, m < n ∧ l[m] = x
    · obtain ⟨m, h', hmn, hm⟩ := hex
      exact ih m hmn h' hm
    · exact ⟨n, h, e, fun j hj hjn hjx => hex ⟨j, hj, hjn, hjx⟩⟩
theorem contI_y (l : List Int) (x : Int) (v : Value) (w : World) (hl : l.length ≤ 9223372036854775807) (h : IntSl w v l) (n : Nat) (hn : n < l.length) (hx : l[n] = x) :
    Calls Tryd.prog 118 #[v, .int .i64 x] w fun e w' => e = .returned (.bool true) ∧ w = w' := by
  obtain ⟨a, cap, rfl, h0⟩ := h
  obtain ⟨i, hi, h1, h2⟩ := first_at l x n hn hx
  have hI := idxI l x a cap w hl h0 (.int .i64 i) (Lib.hid fun j hj hlt hb => by
    have : i = j := by
      rcases Nat.lt_trichotomy i j with h | h | h
      · exact absurd h1 (hlt i hi h)
      · exact h
      · exact absurd hb (h2 j hj h)
    rw [this]) (Lib.hid fun h => absurd h1 (h i hi))
  clear h0 h1 h2 hx hn
  have hi0 : (0 : Int) ≤ (i : Int) := by omega
  replace hI := Lib.hid hI
  go_enter Tryd.func118, Tryd.ntmps118
  go_wp2_with fail
  refine hI.out.mono ?_; rintro e w' ⟨rfl, rfl⟩
  go_wp2
  go_ret
  exact ⟨rfl, rfl⟩
end Go.Proofs.YtfnifdmnbccblaaDoor
