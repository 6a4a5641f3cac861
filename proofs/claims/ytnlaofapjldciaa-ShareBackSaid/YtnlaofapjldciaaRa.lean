/- Walks of the document's answer, numbers: Mod, Turn, Power, Root. -/
import Derived.Test.YtnlaofapjldciaaWb
import Derived.Test.YtnlaofapjldciaaTn
namespace Go.Proofs.Ytnlaofapjldciaa
open Go.RowKit
set_option maxRecDepth 100000
set_option linter.unusedVariables false
set_option linter.unusedSimpArgs false
theorem wf64 {a : Int} (h : (Lit.int .i64 a).wf = true) : -9223372036854775808 ≤ a ∧ a ≤ 9223372036854775807 := by
  simp [Lit.wf] at h; exact h
set_option maxHeartbeats 1000000 in
theorem refMod_c (n m : Int) (w : World) (n0 : -9223372036854775808 ≤ n) (n1 : n ≤ 9223372036854775807) (m0 : 0 < m) (m1 : m ≤ 5000) : Calls Try.prog 7 #[.int .i64 n, .int .i64 m] w fun e w' => e = .returned (.int .i64 (n % m)) ∧ w = w' := by
  obtain ⟨hb1, hb2, hq1, hq2⟩ := tmod_m (n := n) m0
  replace hq1 := Lib.hid hq1
  replace hq2 := Lib.hid hq2
  by_cases h : n.tmod m < 0
  · go_enter Try.func7, Try.ntmps7
    go_wp2
    go_ret
    exact ⟨ret_int (hq1.out h), rfl⟩
  · go_enter Try.func7, Try.ntmps7
    go_wp2
    go_ret
    exact ⟨ret_int (hq2.out (by omega)), rfl⟩
theorem refMod_e (n m v : Int) (w : World) (n0 : -9223372036854775808 ≤ n) (n1 : n ≤ 9223372036854775807) (m0 : 0 < m) (m1 : m ≤ 5000) (h : Hid (n % m = v)) : Calls Try.prog 7 #[.int .i64 n, .int .i64 m] w fun e w' => e = .returned (.int .i64 v) ∧ w = w' := by
  have := refMod_c n m w n0 n1 m0 m1; rw [h.out] at this; exact this
set_option maxHeartbeats 1000000 in
theorem refTurn_c (n m : Int) (w : World) (h0 : Hid (TurnAt m n m n 0 1)) (m0 : 0 < m) (m1 : m ≤ 5000) (n0 : 0 ≤ n) (n1 : n ≤ 5000) : Calls Try.prog 9 #[.int .i64 n, .int .i64 m] w fun e w' => (∃ v : Int, e = .returned (.int .i64 v) ∧ 0 ≤ v ∧ v < m ∧ v * n % m = 1) ∧ w = w' := by
  go_enter Try.func9, Try.ntmps9
  go_wp2
  go_loop [5, 6, 7, 8] (fun a b x y => ∃ a' b' x' y' : Int, a = .int .i64 a' ∧ b = .int .i64 b' ∧ x = .int .i64 x' ∧ y = .int .i64 y' ∧ TurnAt m n a' b' x' y') (fun _ b _ _ => (intOf b).toNat)
  case atStart => exact ⟨_, _, _, _, rfl, rfl, rfl, rfl, h0.out⟩
  case round =>
    obtain ⟨a, b, x, y, rfl, rfl, rfl, rfl, h⟩ := hrel
    obtain ⟨b1, b2, b3, b4, b5, b6, b7, b8⟩ := turn_bd h
    have h := Lib.hid h
    by_cases hb : 0 < b
    · obtain ⟨q1, q2, q3, q4, q5, q6, q7⟩ := turn_all h.out hb
      have hl := (turn_less b1 hb).2
      go_wp2
      go_round
      case rel => exact ⟨_, _, _, _, rfl, rfl, rfl, rfl, turn_next h.out hb⟩
      case measure => simp [intOf]; omega
    · go_wp2_with fail
      refine (refMod_c x m _ (by omega) (by omega) m0 m1).mono ?_; rintro e w' ⟨rfl, rfl⟩
      go_wp2
      go_ret
      exact ⟨⟨_, rfl, Int.emod_nonneg _ (by omega), Int.emod_lt_of_pos _ m0, turn_end h.out (by omega)⟩, rfl⟩
theorem refTurn_p (n : Int) (w : World) (h1 : 1 ≤ n) (h2 : n < 4051) : Calls Try.prog 9 #[.int .i64 n, .int .i64 4051] w fun e w' => e = .returned (.int .i64 (pInv n)) ∧ w = w' := by
  refine (refTurn_c n 4051 w ⟨20, turn_p h1 h2⟩ (by omega) (by omega) (by omega) (by omega)).mono ?_
  rintro e w' ⟨⟨v, rfl, v0, v1, hv⟩, rfl⟩
  exact ⟨by rw [turn_inv h1 h2 v0 v1 hv], rfl⟩
theorem sq_bd {a : Int} (h0 : 0 ≤ a) (h1 : a < 4051) : 0 ≤ a * a ∧ a * a ≤ 16402500 := mul_bd ⟨h0, h1⟩ ⟨h0, h1⟩
end Go.Proofs.Ytnlaofapjldciaa
