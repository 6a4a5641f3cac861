/- Walks of slices.ContainsFunc, with each closure that asks whether a number is no rest. (Printed by gen_cf.py.) -/
import Derived.Test.YtfnifdmnbccblaaDoorOw
import Derived.Test.YtfnifdmnbccblaaDoorSe
namespace Go.Proofs.YtfnifdmnbccblaaDoor
open Go.RowKit
set_option maxRecDepth 100000
set_option linter.unusedVariables false
set_option linter.unusedSimpArgs false
/-- Is it a rest modulo Q. -/
def okR (n : Int) : Bool := decide (0 ≤ n ∧ n < 1013)
theorem okR_y {n : Int} (h : okR n = true) : 0 ≤ n ∧ n < 1013 := of_decide_eq_true h
theorem okR_n {n : Int} (h : okR n = false) : ¬ (0 ≤ n ∧ n < 1013) := of_decide_eq_false h
theorem first_noR : ∀ (l : List Int), l.all okR = false → ∃ (i : Nat) (h : i < l.length), okR l[i] = false ∧ ∀ j (hj : j < l.length), j < i → okR l[j] = true
  | [], h => by simp at h
  | x :: l, h => by
    cases e : okR x with
    | false => exact ⟨0, by simp, e, fun j _ h => absurd h (Nat.not_lt_zero _)⟩
    | true =>
      rw [List.all_cons, e, Bool.true_and] at h
      obtain ⟨i, hi, h1, h2⟩ := first_noR l h
      refine ⟨i + 1, by simpa using hi, h1, fun j hj hlt => ?_⟩
      cases j with
      | zero => exact e
      | succ j => exact h2 j (by simpa using hj) (by omega)
theorem all_okR {l : List Int} (h : l.all okR = true) (i : Nat) (hi : i < l.length) : okR l[i] = true := List.all_eq_true.mp h _ (List.getElem_mem hi)
theorem clos_r_y (n : Int) (w : World) (h1 : 0 ≤ n) (h2 : n < 1013) : Calls Tryd.prog 110 #[.int .i64 n] w fun e w' => e = .returned (.bool false) ∧ w = w' := by
  go_enter Tryd.func110, Tryd.ntmps110
  go_wp2_with fail
  refine (rest_y n _ h1 h2).mono ?_; rintro e w' ⟨rfl, rfl⟩
  go_wp2
  go_ret
  exact ⟨rfl, rfl⟩
theorem clos_r_n (n : Int) (w : World) (h : ¬ (0 ≤ n ∧ n < 1013)) : Calls Tryd.prog 110 #[.int .i64 n] w fun e w' => e = .returned (.bool true) ∧ w = w' := by
  go_enter Tryd.func110, Tryd.ntmps110
  go_wp2_with fail
  refine (rest_n n _ h).mono ?_; rintro e w' ⟨rfl, rfl⟩
  go_wp2
  go_ret
  exact ⟨rfl, rfl⟩
set_option maxHeartbeats 2000000 in
theorem idxF_r (l : List Int) (a : Option Addr) (cap : Nat) (w : World) (hl : l.length ≤ 9223372036854775807) (h0 : 0 < l.length → ∃ b off, a = some ⟨b, off, none⟩ ∧ IntsAt w b off l) (R : Value)
    (hfirst : Hid (∀ i (h : i < l.length), (∀ j (hj : j < l.length), j < i → okR l[j] = true) → okR l[i] = false → R = .int .i64 i)) (hend : Hid ((∀ i (h : i < l.length), okR l[i] = true) → R = .int .i64 (-1))) :
    Calls Tryd.prog 136 #[.slice a l.length cap, .func (.func 110) #[] #[]] w fun e w' => e = .returned R ∧ w = w' := by
  have h0' := Lib.hid h0
  clear h0
  go_enter Tryd.func136, Tryd.ntmps136
  go_wp2
  go_loop [8] (fun i => ∃ n : Nat, n ≤ l.length ∧ i = .int .i64 n ∧ (∀ j (hj : j < l.length), j < n → okR l[j] = true)) (fun i => l.length - (intOf i).toNat)
  case atStart => exact ⟨0, Nat.zero_le _, rfl, fun _ _ h => absurd h (Nat.not_lt_zero _)⟩
  case round =>
    obtain ⟨n, hn, rfl, k1⟩ := hrel
    replace k1 := Lib.hid k1
    by_cases hlt : n < l.length
    · obtain ⟨b, off, rfl, l1⟩ := h0'.out (by omega)
      have m1 := l1.c n hlt
      clear l1
      cases e1 : okR l[n] with
      | false =>
        have hb := okR_n e1
        have hR := Lib.hid (hfirst.out n hlt k1.out e1)
        clear e1
        generalize l[n] = x at *
        go_wp2_with fail
        refine (clos_r_n x _ hb).mono ?_; rintro e w' ⟨rfl, rfl⟩
        go_wp2
        go_ret
        exact ⟨ret_eq hR.out.symm, rfl⟩
      | true =>
        obtain ⟨x1, x2⟩ := okR_y e1
        have j1 : ∀ j (hj : j < l.length), j < n + 1 → okR l[j] = true := by
          intro j hj h
          by_cases hjn : j < n
          · exact k1.out j hj hjn
          · obtain rfl : j = n := by omega
            exact e1
        replace j1 := Lib.hid j1
        clear e1
        generalize l[n] = x at *
        go_wp2_with fail
        refine (clos_r_y x _ x1 x2).mono ?_; rintro e w' ⟨rfl, rfl⟩
        go_wp2
        go_round
        case rel => exact ⟨n + 1, by omega, by go_num, j1.out⟩
        case measure => simp [intOf]; omega
    · have hR := Lib.hid (hend.out (fun i hi => k1.out i hi (by omega)))
      go_wp2
      go_ret
      exact ⟨ret_eq hR.out.symm, rfl⟩
theorem contF_r (l : List Int) (v : Value) (w : World) (hl : l.length ≤ 9223372036854775807) (h : IntSl w v l) :
    Calls Tryd.prog 109 #[v, .func (.func 110) #[] #[]] w fun e w' => e = .returned (.bool (!(l.all okR))) ∧ w = w' := by
  obtain ⟨a, cap, rfl, h0⟩ := h
  cases e : l.all okR with
  | true =>
    have hI := idxF_r l a cap w hl h0 (.int .i64 (-1)) (Lib.hid fun i hi _ hb => by rw [all_okR e i hi] at hb; cases hb) (Lib.hid fun _ => rfl)
    clear h0 e
    go_enter Tryd.func109, Tryd.ntmps109
    go_wp2_with fail
    refine (hI).mono ?_; rintro e w' ⟨rfl, rfl⟩
    go_wp2
    go_ret
    exact ⟨rfl, rfl⟩
  | false =>
    obtain ⟨i, hi, h1, h2⟩ := first_noR l e
    have hI := idxF_r l a cap w hl h0 (.int .i64 i) (Lib.hid fun j hj hlt hb => by
      have : i = j := by
        rcases Nat.lt_trichotomy i j with h | h | h
        · rw [hlt i hi h] at h1; cases h1
        · exact h
        · rw [h2 j hj h] at hb; cases hb
      rw [this]) (Lib.hid fun h => by rw [h i hi] at h1; cases h1)
    clear h0 e h1 h2
    go_enter Tryd.func109, Tryd.ntmps109
    go_wp2_with fail
    refine (hI).mono ?_; rintro e w' ⟨rfl, rfl⟩
    have hi0 : (0 : Int) ≤ (i : Int) := by omega
    go_wp2
    go_ret
    exact ⟨rfl, rfl⟩
theorem clos_v_y (n : Int) (w : World) (h1 : 0 ≤ n) (h2 : n < 1013) : Calls Tryd.prog 113 #[.int .i64 n] w fun e w' => e = .returned (.bool false) ∧ w = w' := by
  go_enter Tryd.func113, Tryd.ntmps113
  go_wp2_with fail
  refine (rest_y n _ h1 h2).mono ?_; rintro e w' ⟨rfl, rfl⟩
  go_wp2
  go_ret
  exact ⟨rfl, rfl⟩
theorem clos_v_n (n : Int) (w : World) (h : ¬ (0 ≤ n ∧ n < 1013)) : Calls Tryd.prog 113 #[.int .i64 n] w fun e w' => e = .returned (.bool true) ∧ w = w' := by
  go_enter Tryd.func113, Tryd.ntmps113
  go_wp2_with fail
  refine (rest_n n _ h).mono ?_; rintro e w' ⟨rfl, rfl⟩
  go_wp2
  go_ret
  exact ⟨rfl, rfl⟩
set_option maxHeartbeats 2000000 in
theorem idxF_v (l : List Int) (a : Option Addr) (cap : Nat) (w : World) (hl : l.length ≤ 9223372036854775807) (h0 : 0 < l.length → ∃ b off, a = some ⟨b, off, none⟩ ∧ IntsAt w b off l) (R : Value)
    (hfirst : Hid (∀ i (h : i < l.length), (∀ j (hj : j < l.length), j < i → okR l[j] = true) → okR l[i] = false → R = .int .i64 i)) (hend : Hid ((∀ i (h : i < l.length), okR l[i] = true) → R = .int .i64 (-1))) :
    Calls Tryd.prog 136 #[.slice a l.length cap, .func (.func 113) #[] #[]] w fun e w' => e = .returned R ∧ w = w' := by
  have h0' := Lib.hid h0
  clear h0
  go_enter Tryd.func136, Tryd.ntmps136
  go_wp2
  go_loop [8] (fun i => ∃ n : Nat, n ≤ l.length ∧ i = .int .i64 n ∧ (∀ j (hj : j < l.length), j < n → okR l[j] = true)) (fun i => l.length - (intOf i).toNat)
  case atStart => exact ⟨0, Nat.zero_le _, rfl, fun _ _ h => absurd h (Nat.not_lt_zero _)⟩
  case round =>
    obtain ⟨n, hn, rfl, k1⟩ := hrel
    replace k1 := Lib.hid k1
    by_cases hlt : n < l.length
    · obtain ⟨b, off, rfl, l1⟩ := h0'.out (by omega)
      have m1 := l1.c n hlt
      clear l1
      cases e1 : okR l[n] with
      | false =>
        have hb := okR_n e1
        have hR := Lib.hid (hfirst.out n hlt k1.out e1)
        clear e1
        generalize l[n] = x at *
        go_wp2_with fail
        refine (clos_v_n x _ hb).mono ?_; rintro e w' ⟨rfl, rfl⟩
        go_wp2
        go_ret
        exact ⟨ret_eq hR.out.symm, rfl⟩
      | true =>
        obtain ⟨x1, x2⟩ := okR_y e1
        have j1 : ∀ j (hj : j < l.length), j < n + 1 → okR l[j] = true := by
          intro j hj h
          by_cases hjn : j < n
          · exact k1.out j hj hjn
          · obtain rfl : j = n := by omega
            exact e1
        replace j1 := Lib.hid j1
        clear e1
        generalize l[n] = x at *
        go_wp2_with fail
        refine (clos_v_y x _ x1 x2).mono ?_; rintro e w' ⟨rfl, rfl⟩
        go_wp2
        go_round
        case rel => exact ⟨n + 1, by omega, by go_num, j1.out⟩
        case measure => simp [intOf]; omega
    · have hR := Lib.hid (hend.out (fun i hi => k1.out i hi (by omega)))
      go_wp2
      go_ret
      exact ⟨ret_eq hR.out.symm, rfl⟩
theorem contF_v (l : List Int) (v : Value) (w : World) (hl : l.length ≤ 9223372036854775807) (h : IntSl w v l) :
    Calls Tryd.prog 109 #[v, .func (.func 113) #[] #[]] w fun e w' => e = .returned (.bool (!(l.all okR))) ∧ w = w' := by
  obtain ⟨a, cap, rfl, h0⟩ := h
  cases e : l.all okR with
  | true =>
    have hI := idxF_v l a cap w hl h0 (.int .i64 (-1)) (Lib.hid fun i hi _ hb => by rw [all_okR e i hi] at hb; cases hb) (Lib.hid fun _ => rfl)
    clear h0 e
    go_enter Tryd.func109, Tryd.ntmps109
    go_wp2_with fail
    refine (hI).mono ?_; rintro e w' ⟨rfl, rfl⟩
    go_wp2
    go_ret
    exact ⟨rfl, rfl⟩
  | false =>
    obtain ⟨i, hi, h1, h2⟩ := first_noR l e
    have hI := idxF_v l a cap w hl h0 (.int .i64 i) (Lib.hid fun j hj hlt hb => by
      have : i = j := by
        rcases Nat.lt_trichotomy i j with h | h | h
        · rw [hlt i hi h] at h1; cases h1
        · exact h
        · rw [h2 j hj h] at hb; cases hb
      rw [this]) (Lib.hid fun h => by rw [h i hi] at h1; cases h1)
    clear h0 e h1 h2
    go_enter Tryd.func109, Tryd.ntmps109
    go_wp2_with fail
    refine (hI).mono ?_; rintro e w' ⟨rfl, rfl⟩
    have hi0 : (0 : Int) ≤ (i : Int) := by omega
    go_wp2
    go_ret
    exact ⟨rfl, rfl⟩
end Go.Proofs.YtfnifdmnbccblaaDoor
