/- Walks of the document's answer, numbers: Mod, Turn, Power, Root. -/
import Derived.Test.YtjjmelhhalomaaaGreatDoorWb
import Derived.Test.YtjjmelhhalomaaaGreatDoorTn
namespace Go.Proofs.YtjjmelhhalomaaaGreatDoor
open Go.RowKit
set_option maxRecDepth 100000
set_option linter.unusedVariables false
set_option linter.unusedSimpArgs false
theorem wf64 {a : Int} (h : (Lit.int .i64 a).wf = true) : -9223372036854775808 ≤ a ∧ a ≤ 9223372036854775807 := by
  simp [Lit.wf] at h; exact h
set_option maxHeartbeats 1000000 in
theorem refMod_c (n m : Int) (w : World) (n0 : -9223372036854775808 ≤ n) (n1 : n ≤ 9223372036854775807) (m0 : 0 < m) (m1 : m ≤ 5000) : Calls Tryz.prog 19 #[.int .i64 n, .int .i64 m] w fun e w' => e = .returned (.int .i64 (n % m)) ∧ w = w' := by
  obtain ⟨hb1, hb2, hq1, hq2⟩ := tmod_m (n := n) m0
  replace hq1 := Lib.hid hq1
  replace hq2 := Lib.hid hq2
  by_cases h : n.tmod m < 0
  · go_enter Tryz.func19, Tryz.ntmps19
    go_wp2
    go_ret
    exact ⟨ret_int (hq1.out h), rfl⟩
  · go_enter Tryz.func19, Tryz.ntmps19
    go_wp2
    go_ret
    exact ⟨ret_int (hq2.out (by omega)), rfl⟩
theorem refMod_e (n m v : Int) (w : World) (n0 : -9223372036854775808 ≤ n) (n1 : n ≤ 9223372036854775807) (m0 : 0 < m) (m1 : m ≤ 5000) (h : Hid (n % m = v)) : Calls Tryz.prog 19 #[.int .i64 n, .int .i64 m] w fun e w' => e = .returned (.int .i64 v) ∧ w = w' := by
  have := refMod_c n m w n0 n1 m0 m1; rw [h.out] at this; exact this
set_option maxHeartbeats 1000000 in
theorem refTurn_c (n m : Int) (w : World) (h0 : Hid (TurnAt m n m n 0 1)) (m0 : 0 < m) (m1 : m ≤ 5000) (n0 : 0 ≤ n) (n1 : n ≤ 5000) : Calls Tryz.prog 155 #[.int .i64 n, .int .i64 m] w fun e w' => (∃ v : Int, e = .returned (.int .i64 v) ∧ 0 ≤ v ∧ v < m ∧ v * n % m = 1) ∧ w = w' := by
  go_enter Tryz.func155, Tryz.ntmps155
  go_wp2
  go_loop [5, 6, 7, 8] (fun a b x y => ∃ a' b' x' y' : Int, a = .int .i64 a' ∧ b = .int .i64 b' ∧ x = .int .i64 x' ∧ y = .int .i64 y' ∧ TurnAt m n a' b' x' y') (fun _ b _ _ => (intOf b).toNat)
  case atStart => exact ⟨_, _, _, _, rfl, rfl, rfl, rfl, h0.out⟩
  case round =>
    obtain ⟨a, b, x, y, rfl, rfl, rfl, rfl, h⟩ := hrel
    obtain ⟨b1, b2, b3, b4, b5, b6, b7, b8⟩ := turn_bd h
    have h := Lib.hid h
    by_cases hb : 0 < b
    · obtain ⟨q1, q2, q3, q4, q5, q6, q7⟩ := turn_all h.out hb
      have hl := (turn_less b1 hb).2
      go_wp2
      go_round
      case rel => exact ⟨_, _, _, _, rfl, rfl, rfl, rfl, turn_next h.out hb⟩
      case measure => simp [intOf]; omega
    · go_wp2_with fail
      refine (refMod_c x m _ (by omega) (by omega) m0 m1).mono ?_; rintro e w' ⟨rfl, rfl⟩
      go_wp2
      go_ret
      exact ⟨⟨_, rfl, Int.emod_nonneg _ (by omega), Int.emod_lt_of_pos _ m0, turn_end h.out (by omega)⟩, rfl⟩
theorem refTurn_p (n : Int) (w : World) (h1 : 1 ≤ n) (h2 : n < 4051) : Calls Tryz.prog 155 #[.int .i64 n, .int .i64 4051] w fun e w' => e = .returned (.int .i64 (pInv n)) ∧ w = w' := by
  refine (refTurn_c n 4051 w ⟨20, turn_p h1 h2⟩ (by omega) (by omega) (by omega) (by omega)).mono ?_
  rintro e w' ⟨⟨v, rfl, v0, v1, hv⟩, rfl⟩
  exact ⟨by rw [turn_inv h1 h2 v0 v1 hv], rfl⟩
theorem sq_bd {a : Int} (h0 : 0 ≤ a) (h1 : a < 4051) : 0 ≤ a * a ∧ a * a ≤ 16402500 := mul_bd ⟨h0, h1⟩ ⟨h0, h1⟩
set_option maxHeartbeats 1000000 in
theorem refRoot_c (n : Int) (w : World) (n0 : -9223372036854775808 ≤ n) (n1 : n ≤ 9223372036854775807) : Calls Tryz.prog 113 #[.int .i64 n] w fun e w' => e = .returned (.int .i64 (rRoot (n % 4051))) ∧ w = w' := by
  obtain ⟨v, hv⟩ : ∃ v, v = n % 4051 := ⟨_, rfl⟩
  have v0 : 0 ≤ v := by omega
  have v1 : v < 4051 := by omega
  replace hv : Hid (n % 4051 = v) := hv.symm
  rw [hv.out]
  go_enter Tryz.func113, Tryz.ntmps113
  go_wp2_with fail
  refine (refMod_e n 4051 v _ n0 n1 (by omega) (by omega) hv).mono ?_; rintro e w' ⟨rfl, rfl⟩
  clear n0 n1
  go_wp2
  go_loop [3] (fun r => ∃ k : Int, 0 ≤ k ∧ k ≤ 2026 ∧ r = .int .i64 k ∧ ∀ j : Int, 0 ≤ j → j < k → j * j % 4051 ≠ v) (fun r => (2026 - intOf r).toNat)
  case atStart => exact ⟨0, by omega, by omega, rfl, fun j h1 h2 => absurd h2 (by omega)⟩
  case round =>
    obtain ⟨k, k0, k1, rfl, hj⟩ := hrel
    have hj := Lib.hid hj
    obtain ⟨s1, s2⟩ := sq_bd k0 (by omega : k < 4051)
    by_cases hlt : 2 * k ≤ 4051
    · by_cases hq : k * k % 4051 = v
      · have hr := root_first v0 v1 k0 hlt hq
        have hr : Hid (k = rRoot v) := by show _ = _; unfold rRoot; rw [if_pos hr.1, hr.2]
        go_wp2
        go_ret
        exact ⟨ret_int hr.out, rfl⟩
      · go_wp2
        go_round
        case rel => exact ⟨k + 1, by omega, by omega, rfl, fun j h1 h2 => by by_cases e : j = k; (· rw [e]; exact hq); exact hj.out j h1 (by omega)⟩
        case measure => simp [intOf]; omega
    · have hn := root_none v0 v1 (fun r h1 h2 => hj.out r h1 (by omega))
      have hr : Hid (-1 = rRoot v) := by show _ = _; unfold rRoot; rw [hn]; rfl
      go_wp2
      go_ret
      exact ⟨ret_int hr.out, rfl⟩
end Go.Proofs.YtjjmelhhalomaaaGreatDoor
