/- The law AdaptGives, walked. (Printed by gen_ad.py.) -/
import Derived.Test.YtijemkecjohagaaDoorAe
namespace Go.Proofs.YtijemkecjohagaaDoor
open Go.RowKit
set_option maxRecDepth 100000
set_option linter.unusedVariables false
set_option linter.unusedSimpArgs false
set_option maxHeartbeats 4000000 in
theorem ag_1 (x k n m : Int) (t : ByteArray) (w : World) (hF : FarAt w) (X0 Y0 C0 S0 : Int) (q1 : Hid (sq (4 * 1 + 4) = ⟨X0, Y0, false⟩)) (q2 : Hid (sq (4 * 2) = ⟨X0, Y0, false⟩)) (q3 : Hid (askN ⟨X0, Y0, false⟩ ⟨1189, 3667, false⟩ (⟨#[]⟩ : ByteArray).data.toList = C0)) (q4 : Hid ((1 + C0 * 1) % 1013 = S0)) (h : ¬ (1 ≤ n ∧ n < 1013)) : Calls Tryd.prog 7 #[.int .i64 x, .int .i64 k, .int .i64 n, .int .i64 m, .string t] w fun e w' => e = .returned (.bool true) ∧ Below w.heap.size w w' := by
  go_enter Tryd.func7, Tryd.ntmps7
  go_wp2_with fail
  refine (key_one _ (hF.below (by repeat (first | exact Below.refl _ _ | refine balloc ?_ _ | refine Below.drew ?_ | refine below_drewN ?_ _ | refine below_set ?_ (by first | omega | (dsimp only; omega)) _)))).mono ?_; rintro e w1 ⟨rfl, hb⟩
  obtain ⟨hc1, hf1⟩ := bcell hb
  have z1 := hb.size
  try simp only [World.size_alloc, World.size_setCell, World.size_drew] at z1
  have hB1 : Below w.heap.size w w1 := below_seq (by repeat (first | exact Below.refl _ _ | refine balloc ?_ _ | refine Below.drew ?_ | refine below_drewN ?_ _ | refine below_set ?_ (by first | omega | (dsimp only; omega)) _)) hb
  clear hb
  go_wp2_with fail
  refine (pre_e 1 1 4 ⟨1189, 3667, false⟩ ⟨X0, Y0, false⟩ ⟨1189, 3667, false⟩ C0 S0 ⟨#[]⟩ _ (hF.below (by repeat (first | exact hB1 | exact Below.refl _ _ | refine balloc ?_ _ | refine Below.drew ?_ | refine below_drewN ?_ _ | refine below_set ?_ (by first | omega | (dsimp only; omega)) _))) (by omega) (by omega) (by omega) (by omega) (Nat.zero_le _) sq_4.symm q1 sq_4 q3 q4).mono ?_; rintro e w2 ⟨rfl, hb⟩
  obtain ⟨hc2, hf2⟩ := bcell hb
  have z2 := hb.size
  try simp only [World.size_alloc, World.size_setCell, World.size_drew] at z2
  have s2_0 : w1.heap.size < w2.heap.size := by omega
  have hB2 : Below w.heap.size w w2 := below_seq (by repeat (first | exact hB1 | exact Below.refl _ _ | refine balloc ?_ _ | refine Below.drew ?_ | refine below_drewN ?_ _ | refine below_set ?_ (by first | omega | (dsimp only; omega)) _)) hb
  clear hb
  go_wp2_with fail
  refine (key_e 2 ⟨X0, Y0, false⟩ _ (hF.below (by repeat (first | exact hB2 | exact Below.refl _ _ | refine balloc ?_ _ | refine Below.drew ?_ | refine below_drewN ?_ _ | refine below_set ?_ (by first | omega | (dsimp only; omega)) _))) (by omega) (by omega) q2).mono ?_; rintro e w3 ⟨rfl, hb⟩
  obtain ⟨hc3, hf3⟩ := bcell hb
  have z3 := hb.size
  try simp only [World.size_alloc, World.size_setCell, World.size_drew] at z3
  have s3_0 : w1.heap.size < w3.heap.size := by omega
  have s3_1 : w2.heap.size < w3.heap.size := by omega
  have hB3 : Below w.heap.size w w3 := below_seq (by repeat (first | exact hB2 | exact Below.refl _ _ | refine balloc ?_ _ | refine Below.drew ?_ | refine below_drewN ?_ _ | refine below_set ?_ (by first | omega | (dsimp only; omega)) _)) hb
  clear hb
  go_wp2_with fail
  refine (key_n n _ h).mono ?_; rintro e w4 ⟨rfl, hb⟩
  obtain ⟨hc4, hf4⟩ := bcell hb
  have z4 := hb.size
  try simp only [World.size_alloc, World.size_setCell, World.size_drew] at z4
  have s4_0 : w1.heap.size < w4.heap.size := by omega
  have s4_1 : w2.heap.size < w4.heap.size := by omega
  have s4_2 : w3.heap.size < w4.heap.size := by omega
  have hB4 : Below w.heap.size w w4 := below_seq (by repeat (first | exact hB3 | exact Below.refl _ _ | refine balloc ?_ _ | refine Below.drew ?_ | refine below_drewN ?_ _ | refine below_set ?_ (by first | omega | (dsimp only; omega)) _)) hb
  clear hb
  go_wp2
  go_ret
  exact ⟨rfl, (by repeat (first | exact hB4 | exact Below.refl _ _ | refine balloc ?_ _ | refine Below.drew ?_ | refine below_drewN ?_ _ | refine below_set ?_ (by first | omega | (dsimp only; omega)) _))⟩
set_option maxHeartbeats 4000000 in
theorem ag_2 (x k n m : Int) (t : ByteArray) (w : World) (hF : FarAt w) (X0 Y0 C0 S0 : Int) (q1 : Hid (sq (4 * 1 + 4) = ⟨X0, Y0, false⟩)) (q2 : Hid (sq (4 * 2) = ⟨X0, Y0, false⟩)) (q3 : Hid (askN ⟨X0, Y0, false⟩ ⟨1189, 3667, false⟩ (⟨#[]⟩ : ByteArray).data.toList = C0)) (q4 : Hid ((1 + C0 * 1) % 1013 = S0)) (n1 : 1 ≤ n) (n2 : n < 1013) (T : Sp) (hT : Hid (sq (4 * n) = T)) (E : Int) (h : Hid (∀ w : World, FarAt w → Calls Tryd.prog 37 #[.int .i64 x, .int .i64 k, spV T, .string t] w fun e w' => e = .returned (.tuple #[slV ⟨0, 0, false⟩ 0, .iface 130 (.int .i64 E)]) ∧ Below w.heap.size w w')) : Calls Tryd.prog 7 #[.int .i64 x, .int .i64 k, .int .i64 n, .int .i64 m, .string t] w fun e w' => e = .returned (.bool true) ∧ Below w.heap.size w w' := by
  go_enter Tryd.func7, Tryd.ntmps7
  go_wp2_with fail
  refine (key_one _ (hF.below (by repeat (first | exact Below.refl _ _ | refine balloc ?_ _ | refine Below.drew ?_ | refine below_drewN ?_ _ | refine below_set ?_ (by first | omega | (dsimp only; omega)) _)))).mono ?_; rintro e w1 ⟨rfl, hb⟩
  obtain ⟨hc1, hf1⟩ := bcell hb
  have z1 := hb.size
  try simp only [World.size_alloc, World.size_setCell, World.size_drew] at z1
  have hB1 : Below w.heap.size w w1 := below_seq (by repeat (first | exact Below.refl _ _ | refine balloc ?_ _ | refine Below.drew ?_ | refine below_drewN ?_ _ | refine below_set ?_ (by first | omega | (dsimp only; omega)) _)) hb
  clear hb
  go_wp2_with fail
  refine (pre_e 1 1 4 ⟨1189, 3667, false⟩ ⟨X0, Y0, false⟩ ⟨1189, 3667, false⟩ C0 S0 ⟨#[]⟩ _ (hF.below (by repeat (first | exact hB1 | exact Below.refl _ _ | refine balloc ?_ _ | refine Below.drew ?_ | refine below_drewN ?_ _ | refine below_set ?_ (by first | omega | (dsimp only; omega)) _))) (by omega) (by omega) (by omega) (by omega) (Nat.zero_le _) sq_4.symm q1 sq_4 q3 q4).mono ?_; rintro e w2 ⟨rfl, hb⟩
  obtain ⟨hc2, hf2⟩ := bcell hb
  have z2 := hb.size
  try simp only [World.size_alloc, World.size_setCell, World.size_drew] at z2
  have s2_0 : w1.heap.size < w2.heap.size := by omega
  have hB2 : Below w.heap.size w w2 := below_seq (by repeat (first | exact hB1 | exact Below.refl _ _ | refine balloc ?_ _ | refine Below.drew ?_ | refine below_drewN ?_ _ | refine below_set ?_ (by first | omega | (dsimp only; omega)) _)) hb
  clear hb
  go_wp2_with fail
  refine (key_e 2 ⟨X0, Y0, false⟩ _ (hF.below (by repeat (first | exact hB2 | exact Below.refl _ _ | refine balloc ?_ _ | refine Below.drew ?_ | refine below_drewN ?_ _ | refine below_set ?_ (by first | omega | (dsimp only; omega)) _))) (by omega) (by omega) q2).mono ?_; rintro e w3 ⟨rfl, hb⟩
  obtain ⟨hc3, hf3⟩ := bcell hb
  have z3 := hb.size
  try simp only [World.size_alloc, World.size_setCell, World.size_drew] at z3
  have s3_0 : w1.heap.size < w3.heap.size := by omega
  have s3_1 : w2.heap.size < w3.heap.size := by omega
  have hB3 : Below w.heap.size w w3 := below_seq (by repeat (first | exact hB2 | exact Below.refl _ _ | refine balloc ?_ _ | refine Below.drew ?_ | refine below_drewN ?_ _ | refine below_set ?_ (by first | omega | (dsimp only; omega)) _)) hb
  clear hb
  go_wp2_with fail
  refine (key_e n T _ (hF.below (by repeat (first | exact hB3 | exact Below.refl _ _ | refine balloc ?_ _ | refine Below.drew ?_ | refine below_drewN ?_ _ | refine below_set ?_ (by first | omega | (dsimp only; omega)) _))) n1 n2 hT).mono ?_; rintro e w4 ⟨rfl, hb⟩
  obtain ⟨hc4, hf4⟩ := bcell hb
  have z4 := hb.size
  try simp only [World.size_alloc, World.size_setCell, World.size_drew] at z4
  have s4_0 : w1.heap.size < w4.heap.size := by omega
  have s4_1 : w2.heap.size < w4.heap.size := by omega
  have s4_2 : w3.heap.size < w4.heap.size := by omega
  have hB4 : Below w.heap.size w w4 := below_seq (by repeat (first | exact hB3 | exact Below.refl _ _ | refine balloc ?_ _ | refine Below.drew ?_ | refine below_drewN ?_ _ | refine below_set ?_ (by first | omega | (dsimp only; omega)) _)) hb
  clear hb
  go_wp2_with fail
  refine (h.out _ (hF.below (by repeat (first | exact hB4 | exact Below.refl _ _ | refine balloc ?_ _ | refine Below.drew ?_ | refine below_drewN ?_ _ | refine below_set ?_ (by first | omega | (dsimp only; omega)) _)))).mono ?_; rintro e w5 ⟨rfl, hb⟩
  obtain ⟨hc5, hf5⟩ := bcell hb
  have z5 := hb.size
  try simp only [World.size_alloc, World.size_setCell, World.size_drew] at z5
  have s5_0 : w1.heap.size < w5.heap.size := by omega
  have s5_1 : w2.heap.size < w5.heap.size := by omega
  have s5_2 : w3.heap.size < w5.heap.size := by omega
  have s5_3 : w4.heap.size < w5.heap.size := by omega
  have hB5 : Below w.heap.size w w5 := below_seq (by repeat (first | exact hB4 | exact Below.refl _ _ | refine balloc ?_ _ | refine Below.drew ?_ | refine below_drewN ?_ _ | refine below_set ?_ (by first | omega | (dsimp only; omega)) _)) hb
  clear hb
  go_wp2
  go_ret
  exact ⟨rfl, (by repeat (first | exact hB5 | exact Below.refl _ _ | refine balloc ?_ _ | refine Below.drew ?_ | refine below_drewN ?_ _ | refine below_set ?_ (by first | omega | (dsimp only; omega)) _))⟩
set_option maxHeartbeats 4000000 in
theorem ag_3 (x k n m : Int) (t : ByteArray) (w : World) (hF : FarAt w) (X0 Y0 C0 S0 : Int) (q1 : Hid (sq (4 * 1 + 4) = ⟨X0, Y0, false⟩)) (q2 : Hid (sq (4 * 2) = ⟨X0, Y0, false⟩)) (q3 : Hid (askN ⟨X0, Y0, false⟩ ⟨1189, 3667, false⟩ (⟨#[]⟩ : ByteArray).data.toList = C0)) (q4 : Hid ((1 + C0 * 1) % 1013 = S0)) (n1 : 1 ≤ n) (n2 : n < 1013) (T : Sp) (hT : Hid (sq (4 * n) = T)) (x1 : 1 ≤ x) (x2 : x < 1013) (k1 : 1 ≤ k) (k2 : k < 1013) (hz : t.size ≤ 60) (R K : Sp) (c S U : Int) (s0 : 0 ≤ S) (s1 : S < 1013) (u0 : 0 ≤ U) (u1 : U < 1013) (hT2 : Hid (T = sq (4 * n))) (hR : Hid (sq (4 * k + 4 * n) = R)) (hR2 : Hid (R = sq (4 * k + 4 * n))) (hK : Hid (sq (4 * x) = K)) (hK2 : Hid (K = sq (4 * x))) (oR : Ok R) (hc : Hid (askN R K t.data.toList = c)) (hS : Hid ((k + c * x) % 1013 = S)) (v1 : Hid ((sq (4 * S + -(4 * k + 4 * n + 4 * x * c) + 4 * n)).far = true)) (hU : Hid ((S + n) % 1013 = U)) (v2 : Hid ((sq (4 * U + -(4 * k + 4 * n + 4 * x * c))).far = true)) (hn : Hid ((U - S + 1013) % 1013 = n)) (h : ¬ (0 ≤ m ∧ m < 1013)) : Calls Tryd.prog 7 #[.int .i64 x, .int .i64 k, .int .i64 n, .int .i64 m, .string t] w fun e w' => e = .returned (.bool true) ∧ Below w.heap.size w w' := by
  go_enter Tryd.func7, Tryd.ntmps7
  go_wp2_with fail
  refine (key_one _ (hF.below (by repeat (first | exact Below.refl _ _ | refine balloc ?_ _ | refine Below.drew ?_ | refine below_drewN ?_ _ | refine below_set ?_ (by first | omega | (dsimp only; omega)) _)))).mono ?_; rintro e w1 ⟨rfl, hb⟩
  obtain ⟨hc1, hf1⟩ := bcell hb
  have z1 := hb.size
  try simp only [World.size_alloc, World.size_setCell, World.size_drew] at z1
  have hB1 : Below w.heap.size w w1 := below_seq (by repeat (first | exact Below.refl _ _ | refine balloc ?_ _ | refine Below.drew ?_ | refine below_drewN ?_ _ | refine below_set ?_ (by first | omega | (dsimp only; omega)) _)) hb
  clear hb
  go_wp2_with fail
  refine (pre_e 1 1 4 ⟨1189, 3667, false⟩ ⟨X0, Y0, false⟩ ⟨1189, 3667, false⟩ C0 S0 ⟨#[]⟩ _ (hF.below (by repeat (first | exact hB1 | exact Below.refl _ _ | refine balloc ?_ _ | refine Below.drew ?_ | refine below_drewN ?_ _ | refine below_set ?_ (by first | omega | (dsimp only; omega)) _))) (by omega) (by omega) (by omega) (by omega) (Nat.zero_le _) sq_4.symm q1 sq_4 q3 q4).mono ?_; rintro e w2 ⟨rfl, hb⟩
  obtain ⟨hc2, hf2⟩ := bcell hb
  have z2 := hb.size
  try simp only [World.size_alloc, World.size_setCell, World.size_drew] at z2
  have s2_0 : w1.heap.size < w2.heap.size := by omega
  have hB2 : Below w.heap.size w w2 := below_seq (by repeat (first | exact hB1 | exact Below.refl _ _ | refine balloc ?_ _ | refine Below.drew ?_ | refine below_drewN ?_ _ | refine below_set ?_ (by first | omega | (dsimp only; omega)) _)) hb
  clear hb
  go_wp2_with fail
  refine (key_e 2 ⟨X0, Y0, false⟩ _ (hF.below (by repeat (first | exact hB2 | exact Below.refl _ _ | refine balloc ?_ _ | refine Below.drew ?_ | refine below_drewN ?_ _ | refine below_set ?_ (by first | omega | (dsimp only; omega)) _))) (by omega) (by omega) q2).mono ?_; rintro e w3 ⟨rfl, hb⟩
  obtain ⟨hc3, hf3⟩ := bcell hb
  have z3 := hb.size
  try simp only [World.size_alloc, World.size_setCell, World.size_drew] at z3
  have s3_0 : w1.heap.size < w3.heap.size := by omega
  have s3_1 : w2.heap.size < w3.heap.size := by omega
  have hB3 : Below w.heap.size w w3 := below_seq (by repeat (first | exact hB2 | exact Below.refl _ _ | refine balloc ?_ _ | refine Below.drew ?_ | refine below_drewN ?_ _ | refine below_set ?_ (by first | omega | (dsimp only; omega)) _)) hb
  clear hb
  go_wp2_with fail
  refine (key_e n T _ (hF.below (by repeat (first | exact hB3 | exact Below.refl _ _ | refine balloc ?_ _ | refine Below.drew ?_ | refine below_drewN ?_ _ | refine below_set ?_ (by first | omega | (dsimp only; omega)) _))) n1 n2 hT).mono ?_; rintro e w4 ⟨rfl, hb⟩
  obtain ⟨hc4, hf4⟩ := bcell hb
  have z4 := hb.size
  try simp only [World.size_alloc, World.size_setCell, World.size_drew] at z4
  have s4_0 : w1.heap.size < w4.heap.size := by omega
  have s4_1 : w2.heap.size < w4.heap.size := by omega
  have s4_2 : w3.heap.size < w4.heap.size := by omega
  have hB4 : Below w.heap.size w w4 := below_seq (by repeat (first | exact hB3 | exact Below.refl _ _ | refine balloc ?_ _ | refine Below.drew ?_ | refine below_drewN ?_ _ | refine below_set ?_ (by first | omega | (dsimp only; omega)) _)) hb
  clear hb
  go_wp2_with fail
  refine (pre_e x k (4 * n) T R K c S t _ (hF.below (by repeat (first | exact hB4 | exact Below.refl _ _ | refine balloc ?_ _ | refine Below.drew ?_ | refine below_drewN ?_ _ | refine below_set ?_ (by first | omega | (dsimp only; omega)) _))) x1 x2 k1 k2 hz hT2 hR hK hc hS).mono ?_; rintro e w5 ⟨rfl, hb⟩
  obtain ⟨hc5, hf5⟩ := bcell hb
  have z5 := hb.size
  try simp only [World.size_alloc, World.size_setCell, World.size_drew] at z5
  have s5_0 : w1.heap.size < w5.heap.size := by omega
  have s5_1 : w2.heap.size < w5.heap.size := by omega
  have s5_2 : w3.heap.size < w5.heap.size := by omega
  have s5_3 : w4.heap.size < w5.heap.size := by omega
  have hB5 : Below w.heap.size w w5 := below_seq (by repeat (first | exact hB4 | exact Below.refl _ _ | refine balloc ?_ _ | refine Below.drew ?_ | refine below_drewN ?_ _ | refine below_set ?_ (by first | omega | (dsimp only; omega)) _)) hb
  clear hb
  go_wp2_with fail
  refine (key_e x K _ (hF.below (by repeat (first | exact hB5 | exact Below.refl _ _ | refine balloc ?_ _ | refine Below.drew ?_ | refine below_drewN ?_ _ | refine below_set ?_ (by first | omega | (dsimp only; omega)) _))) x1 x2 hK).mono ?_; rintro e w6 ⟨rfl, hb⟩
  obtain ⟨hc6, hf6⟩ := bcell hb
  have z6 := hb.size
  try simp only [World.size_alloc, World.size_setCell, World.size_drew] at z6
  have s6_0 : w1.heap.size < w6.heap.size := by omega
  have s6_1 : w2.heap.size < w6.heap.size := by omega
  have s6_2 : w3.heap.size < w6.heap.size := by omega
  have s6_3 : w4.heap.size < w6.heap.size := by omega
  have s6_4 : w5.heap.size < w6.heap.size := by omega
  have hB6 : Below w.heap.size w w6 := below_seq (by repeat (first | exact hB5 | exact Below.refl _ _ | refine balloc ?_ _ | refine Below.drew ?_ | refine below_drewN ?_ _ | refine below_set ?_ (by first | omega | (dsimp only; omega)) _)) hb
  clear hb
  go_wp2_with fail
  refine (acheck_e K T R (4 * x) (4 * k + 4 * n) (4 * n) c S true t _ (hF.below (by repeat (first | exact hB6 | exact Below.refl _ _ | refine balloc ?_ _ | refine Below.drew ?_ | refine below_drewN ?_ _ | refine below_set ?_ (by first | omega | (dsimp only; omega)) _))) hz s0 s1 hK2 hR2 hT2 hc v1).mono ?_; rintro e w7 ⟨rfl, hb⟩
  obtain ⟨hc7, hf7⟩ := bcell hb
  have z7 := hb.size
  try simp only [World.size_alloc, World.size_setCell, World.size_drew] at z7
  have s7_0 : w1.heap.size < w7.heap.size := by omega
  have s7_1 : w2.heap.size < w7.heap.size := by omega
  have s7_2 : w3.heap.size < w7.heap.size := by omega
  have s7_3 : w4.heap.size < w7.heap.size := by omega
  have s7_4 : w5.heap.size < w7.heap.size := by omega
  have s7_5 : w6.heap.size < w7.heap.size := by omega
  have hB7 : Below w.heap.size w w7 := below_seq (by repeat (first | exact hB6 | exact Below.refl _ _ | refine balloc ?_ _ | refine Below.drew ?_ | refine below_drewN ?_ _ | refine below_set ?_ (by first | omega | (dsimp only; omega)) _)) hb
  clear hb
  go_wp2_with fail
  refine (fill_y R S n U _ (hF.below (by repeat (first | exact hB7 | exact Below.refl _ _ | refine balloc ?_ _ | refine Below.drew ?_ | refine below_drewN ?_ _ | refine below_set ?_ (by first | omega | (dsimp only; omega)) _))) oR s0 s1 (by omega) n2 hU.out).mono ?_; rintro e w8 ⟨rfl, hb⟩
  obtain ⟨hc8, hf8⟩ := bcell hb
  have z8 := hb.size
  try simp only [World.size_alloc, World.size_setCell, World.size_drew] at z8
  have s8_0 : w1.heap.size < w8.heap.size := by omega
  have s8_1 : w2.heap.size < w8.heap.size := by omega
  have s8_2 : w3.heap.size < w8.heap.size := by omega
  have s8_3 : w4.heap.size < w8.heap.size := by omega
  have s8_4 : w5.heap.size < w8.heap.size := by omega
  have s8_5 : w6.heap.size < w8.heap.size := by omega
  have hB8 : Below w.heap.size w w8 := below_seq (by repeat (first | exact hB7 | exact Below.refl _ _ | refine balloc ?_ _ | refine Below.drew ?_ | refine below_drewN ?_ _ | refine below_set ?_ (by first | omega | (dsimp only; omega)) _)) hb
  clear hb
  go_wp2_with fail
  refine (verify_e K R (4 * x) (4 * k + 4 * n) c U true t _ (hF.below (by repeat (first | exact hB8 | exact Below.refl _ _ | refine balloc ?_ _ | refine Below.drew ?_ | refine below_drewN ?_ _ | refine below_set ?_ (by first | omega | (dsimp only; omega)) _))) hz u0 u1 hK2 hR2 hc v2).mono ?_; rintro e w9 ⟨rfl, hb⟩
  obtain ⟨hc9, hf9⟩ := bcell hb
  have z9 := hb.size
  try simp only [World.size_alloc, World.size_setCell, World.size_drew] at z9
  have s9_0 : w1.heap.size < w9.heap.size := by omega
  have s9_1 : w2.heap.size < w9.heap.size := by omega
  have s9_2 : w3.heap.size < w9.heap.size := by omega
  have s9_3 : w4.heap.size < w9.heap.size := by omega
  have s9_4 : w5.heap.size < w9.heap.size := by omega
  have s9_5 : w6.heap.size < w9.heap.size := by omega
  have s9_6 : w8.heap.size < w9.heap.size := by omega
  have hB9 : Below w.heap.size w w9 := below_seq (by repeat (first | exact hB8 | exact Below.refl _ _ | refine balloc ?_ _ | refine Below.drew ?_ | refine below_drewN ?_ _ | refine below_set ?_ (by first | omega | (dsimp only; omega)) _)) hb
  clear hb
  go_wp2_with fail
  refine (find2_y R S U n _ (hF.below (by repeat (first | exact hB9 | exact Below.refl _ _ | refine balloc ?_ _ | refine Below.drew ?_ | refine below_drewN ?_ _ | refine below_set ?_ (by first | omega | (dsimp only; omega)) _))) oR s0 s1 u0 u1 hn.out).mono ?_; rintro e w10 ⟨rfl, hb⟩
  obtain ⟨hc10, hf10⟩ := bcell hb
  have z10 := hb.size
  try simp only [World.size_alloc, World.size_setCell, World.size_drew] at z10
  have s10_0 : w1.heap.size < w10.heap.size := by omega
  have s10_1 : w2.heap.size < w10.heap.size := by omega
  have s10_2 : w3.heap.size < w10.heap.size := by omega
  have s10_3 : w4.heap.size < w10.heap.size := by omega
  have s10_4 : w5.heap.size < w10.heap.size := by omega
  have s10_5 : w6.heap.size < w10.heap.size := by omega
  have s10_6 : w8.heap.size < w10.heap.size := by omega
  have hB10 : Below w.heap.size w w10 := below_seq (by repeat (first | exact hB9 | exact Below.refl _ _ | refine balloc ?_ _ | refine Below.drew ?_ | refine below_drewN ?_ _ | refine below_set ?_ (by first | omega | (dsimp only; omega)) _)) hb
  clear hb
  go_wp2_with fail
  refine (fill_n R S m _ (hF.below (by repeat (first | exact hB10 | exact Below.refl _ _ | refine balloc ?_ _ | refine Below.drew ?_ | refine below_drewN ?_ _ | refine below_set ?_ (by first | omega | (dsimp only; omega)) _))) oR s0 s1 h).mono ?_; rintro e w11 ⟨rfl, hb⟩
  obtain ⟨hc11, hf11⟩ := bcell hb
  have z11 := hb.size
  try simp only [World.size_alloc, World.size_setCell, World.size_drew] at z11
  have s11_0 : w1.heap.size < w11.heap.size := by omega
  have s11_1 : w2.heap.size < w11.heap.size := by omega
  have s11_2 : w3.heap.size < w11.heap.size := by omega
  have s11_3 : w4.heap.size < w11.heap.size := by omega
  have s11_4 : w5.heap.size < w11.heap.size := by omega
  have s11_5 : w6.heap.size < w11.heap.size := by omega
  have s11_6 : w8.heap.size < w11.heap.size := by omega
  have hB11 : Below w.heap.size w w11 := below_seq (by repeat (first | exact hB10 | exact Below.refl _ _ | refine balloc ?_ _ | refine Below.drew ?_ | refine below_drewN ?_ _ | refine below_set ?_ (by first | omega | (dsimp only; omega)) _)) hb
  clear hb
  go_wp2
  go_ret
  exact ⟨rfl, (by repeat (first | exact hB11 | exact Below.refl _ _ | refine balloc ?_ _ | refine Below.drew ?_ | refine below_drewN ?_ _ | refine below_set ?_ (by first | omega | (dsimp only; omega)) _))⟩
set_option maxHeartbeats 4000000 in
theorem ag_4 (x k n m : Int) (t : ByteArray) (w : World) (hF : FarAt w) (X0 Y0 C0 S0 : Int) (q1 : Hid (sq (4 * 1 + 4) = ⟨X0, Y0, false⟩)) (q2 : Hid (sq (4 * 2) = ⟨X0, Y0, false⟩)) (q3 : Hid (askN ⟨X0, Y0, false⟩ ⟨1189, 3667, false⟩ (⟨#[]⟩ : ByteArray).data.toList = C0)) (q4 : Hid ((1 + C0 * 1) % 1013 = S0)) (n1 : 1 ≤ n) (n2 : n < 1013) (T : Sp) (hT : Hid (sq (4 * n) = T)) (x1 : 1 ≤ x) (x2 : x < 1013) (k1 : 1 ≤ k) (k2 : k < 1013) (hz : t.size ≤ 60) (R K : Sp) (c S U : Int) (s0 : 0 ≤ S) (s1 : S < 1013) (u0 : 0 ≤ U) (u1 : U < 1013) (hT2 : Hid (T = sq (4 * n))) (hR : Hid (sq (4 * k + 4 * n) = R)) (hR2 : Hid (R = sq (4 * k + 4 * n))) (hK : Hid (sq (4 * x) = K)) (hK2 : Hid (K = sq (4 * x))) (oR : Ok R) (hc : Hid (askN R K t.data.toList = c)) (hS : Hid ((k + c * x) % 1013 = S)) (v1 : Hid ((sq (4 * S + -(4 * k + 4 * n + 4 * x * c) + 4 * n)).far = true)) (hU : Hid ((S + n) % 1013 = U)) (v2 : Hid ((sq (4 * U + -(4 * k + 4 * n + 4 * x * c))).far = true)) (hn : Hid ((U - S + 1013) % 1013 = n)) (m0 : 0 ≤ m) (m1 : m < 1013) (V : Int) (g0 : 0 ≤ V) (g1 : V < 1013) (hV : Hid ((S + m) % 1013 = V)) (v3 : Hid ((sq (4 * V + -(4 * k + 4 * n + 4 * x * c))).far = true)) (hm : (m == n) = true) : Calls Tryd.prog 7 #[.int .i64 x, .int .i64 k, .int .i64 n, .int .i64 m, .string t] w fun e w' => e = .returned (.bool true) ∧ Below w.heap.size w w' := by
  go_enter Tryd.func7, Tryd.ntmps7
  go_wp2_with fail
  refine (key_one _ (hF.below (by repeat (first | exact Below.refl _ _ | refine balloc ?_ _ | refine Below.drew ?_ | refine below_drewN ?_ _ | refine below_set ?_ (by first | omega | (dsimp only; omega)) _)))).mono ?_; rintro e w1 ⟨rfl, hb⟩
  obtain ⟨hc1, hf1⟩ := bcell hb
  have z1 := hb.size
  try simp only [World.size_alloc, World.size_setCell, World.size_drew] at z1
  have hB1 : Below w.heap.size w w1 := below_seq (by repeat (first | exact Below.refl _ _ | refine balloc ?_ _ | refine Below.drew ?_ | refine below_drewN ?_ _ | refine below_set ?_ (by first | omega | (dsimp only; omega)) _)) hb
  clear hb
  go_wp2_with fail
  refine (pre_e 1 1 4 ⟨1189, 3667, false⟩ ⟨X0, Y0, false⟩ ⟨1189, 3667, false⟩ C0 S0 ⟨#[]⟩ _ (hF.below (by repeat (first | exact hB1 | exact Below.refl _ _ | refine balloc ?_ _ | refine Below.drew ?_ | refine below_drewN ?_ _ | refine below_set ?_ (by first | omega | (dsimp only; omega)) _))) (by omega) (by omega) (by omega) (by omega) (Nat.zero_le _) sq_4.symm q1 sq_4 q3 q4).mono ?_; rintro e w2 ⟨rfl, hb⟩
  obtain ⟨hc2, hf2⟩ := bcell hb
  have z2 := hb.size
  try simp only [World.size_alloc, World.size_setCell, World.size_drew] at z2
  have s2_0 : w1.heap.size < w2.heap.size := by omega
  have hB2 : Below w.heap.size w w2 := below_seq (by repeat (first | exact hB1 | exact Below.refl _ _ | refine balloc ?_ _ | refine Below.drew ?_ | refine below_drewN ?_ _ | refine below_set ?_ (by first | omega | (dsimp only; omega)) _)) hb
  clear hb
  go_wp2_with fail
  refine (key_e 2 ⟨X0, Y0, false⟩ _ (hF.below (by repeat (first | exact hB2 | exact Below.refl _ _ | refine balloc ?_ _ | refine Below.drew ?_ | refine below_drewN ?_ _ | refine below_set ?_ (by first | omega | (dsimp only; omega)) _))) (by omega) (by omega) q2).mono ?_; rintro e w3 ⟨rfl, hb⟩
  obtain ⟨hc3, hf3⟩ := bcell hb
  have z3 := hb.size
  try simp only [World.size_alloc, World.size_setCell, World.size_drew] at z3
  have s3_0 : w1.heap.size < w3.heap.size := by omega
  have s3_1 : w2.heap.size < w3.heap.size := by omega
  have hB3 : Below w.heap.size w w3 := below_seq (by repeat (first | exact hB2 | exact Below.refl _ _ | refine balloc ?_ _ | refine Below.drew ?_ | refine below_drewN ?_ _ | refine below_set ?_ (by first | omega | (dsimp only; omega)) _)) hb
  clear hb
  go_wp2_with fail
  refine (key_e n T _ (hF.below (by repeat (first | exact hB3 | exact Below.refl _ _ | refine balloc ?_ _ | refine Below.drew ?_ | refine below_drewN ?_ _ | refine below_set ?_ (by first | omega | (dsimp only; omega)) _))) n1 n2 hT).mono ?_; rintro e w4 ⟨rfl, hb⟩
  obtain ⟨hc4, hf4⟩ := bcell hb
  have z4 := hb.size
  try simp only [World.size_alloc, World.size_setCell, World.size_drew] at z4
  have s4_0 : w1.heap.size < w4.heap.size := by omega
  have s4_1 : w2.heap.size < w4.heap.size := by omega
  have s4_2 : w3.heap.size < w4.heap.size := by omega
  have hB4 : Below w.heap.size w w4 := below_seq (by repeat (first | exact hB3 | exact Below.refl _ _ | refine balloc ?_ _ | refine Below.drew ?_ | refine below_drewN ?_ _ | refine below_set ?_ (by first | omega | (dsimp only; omega)) _)) hb
  clear hb
  go_wp2_with fail
  refine (pre_e x k (4 * n) T R K c S t _ (hF.below (by repeat (first | exact hB4 | exact Below.refl _ _ | refine balloc ?_ _ | refine Below.drew ?_ | refine below_drewN ?_ _ | refine below_set ?_ (by first | omega | (dsimp only; omega)) _))) x1 x2 k1 k2 hz hT2 hR hK hc hS).mono ?_; rintro e w5 ⟨rfl, hb⟩
  obtain ⟨hc5, hf5⟩ := bcell hb
  have z5 := hb.size
  try simp only [World.size_alloc, World.size_setCell, World.size_drew] at z5
  have s5_0 : w1.heap.size < w5.heap.size := by omega
  have s5_1 : w2.heap.size < w5.heap.size := by omega
  have s5_2 : w3.heap.size < w5.heap.size := by omega
  have s5_3 : w4.heap.size < w5.heap.size := by omega
  have hB5 : Below w.heap.size w w5 := below_seq (by repeat (first | exact hB4 | exact Below.refl _ _ | refine balloc ?_ _ | refine Below.drew ?_ | refine below_drewN ?_ _ | refine below_set ?_ (by first | omega | (dsimp only; omega)) _)) hb
  clear hb
  go_wp2_with fail
  refine (key_e x K _ (hF.below (by repeat (first | exact hB5 | exact Below.refl _ _ | refine balloc ?_ _ | refine Below.drew ?_ | refine below_drewN ?_ _ | refine below_set ?_ (by first | omega | (dsimp only; omega)) _))) x1 x2 hK).mono ?_; rintro e w6 ⟨rfl, hb⟩
  obtain ⟨hc6, hf6⟩ := bcell hb
  have z6 := hb.size
  try simp only [World.size_alloc, World.size_setCell, World.size_drew] at z6
  have s6_0 : w1.heap.size < w6.heap.size := by omega
  have s6_1 : w2.heap.size < w6.heap.size := by omega
  have s6_2 : w3.heap.size < w6.heap.size := by omega
  have s6_3 : w4.heap.size < w6.heap.size := by omega
  have s6_4 : w5.heap.size < w6.heap.size := by omega
  have hB6 : Below w.heap.size w w6 := below_seq (by repeat (first | exact hB5 | exact Below.refl _ _ | refine balloc ?_ _ | refine Below.drew ?_ | refine below_drewN ?_ _ | refine below_set ?_ (by first | omega | (dsimp only; omega)) _)) hb
  clear hb
  go_wp2_with fail
  refine (acheck_e K T R (4 * x) (4 * k + 4 * n) (4 * n) c S true t _ (hF.below (by repeat (first | exact hB6 | exact Below.refl _ _ | refine balloc ?_ _ | refine Below.drew ?_ | refine below_drewN ?_ _ | refine below_set ?_ (by first | omega | (dsimp only; omega)) _))) hz s0 s1 hK2 hR2 hT2 hc v1).mono ?_; rintro e w7 ⟨rfl, hb⟩
  obtain ⟨hc7, hf7⟩ := bcell hb
  have z7 := hb.size
  try simp only [World.size_alloc, World.size_setCell, World.size_drew] at z7
  have s7_0 : w1.heap.size < w7.heap.size := by omega
  have s7_1 : w2.heap.size < w7.heap.size := by omega
  have s7_2 : w3.heap.size < w7.heap.size := by omega
  have s7_3 : w4.heap.size < w7.heap.size := by omega
  have s7_4 : w5.heap.size < w7.heap.size := by omega
  have s7_5 : w6.heap.size < w7.heap.size := by omega
  have hB7 : Below w.heap.size w w7 := below_seq (by repeat (first | exact hB6 | exact Below.refl _ _ | refine balloc ?_ _ | refine Below.drew ?_ | refine below_drewN ?_ _ | refine below_set ?_ (by first | omega | (dsimp only; omega)) _)) hb
  clear hb
  go_wp2_with fail
  refine (fill_y R S n U _ (hF.below (by repeat (first | exact hB7 | exact Below.refl _ _ | refine balloc ?_ _ | refine Below.drew ?_ | refine below_drewN ?_ _ | refine below_set ?_ (by first | omega | (dsimp only; omega)) _))) oR s0 s1 (by omega) n2 hU.out).mono ?_; rintro e w8 ⟨rfl, hb⟩
  obtain ⟨hc8, hf8⟩ := bcell hb
  have z8 := hb.size
  try simp only [World.size_alloc, World.size_setCell, World.size_drew] at z8
  have s8_0 : w1.heap.size < w8.heap.size := by omega
  have s8_1 : w2.heap.size < w8.heap.size := by omega
  have s8_2 : w3.heap.size < w8.heap.size := by omega
  have s8_3 : w4.heap.size < w8.heap.size := by omega
  have s8_4 : w5.heap.size < w8.heap.size := by omega
  have s8_5 : w6.heap.size < w8.heap.size := by omega
  have hB8 : Below w.heap.size w w8 := below_seq (by repeat (first | exact hB7 | exact Below.refl _ _ | refine balloc ?_ _ | refine Below.drew ?_ | refine below_drewN ?_ _ | refine below_set ?_ (by first | omega | (dsimp only; omega)) _)) hb
  clear hb
  go_wp2_with fail
  refine (verify_e K R (4 * x) (4 * k + 4 * n) c U true t _ (hF.below (by repeat (first | exact hB8 | exact Below.refl _ _ | refine balloc ?_ _ | refine Below.drew ?_ | refine below_drewN ?_ _ | refine below_set ?_ (by first | omega | (dsimp only; omega)) _))) hz u0 u1 hK2 hR2 hc v2).mono ?_; rintro e w9 ⟨rfl, hb⟩
  obtain ⟨hc9, hf9⟩ := bcell hb
  have z9 := hb.size
  try simp only [World.size_alloc, World.size_setCell, World.size_drew] at z9
  have s9_0 : w1.heap.size < w9.heap.size := by omega
  have s9_1 : w2.heap.size < w9.heap.size := by omega
  have s9_2 : w3.heap.size < w9.heap.size := by omega
  have s9_3 : w4.heap.size < w9.heap.size := by omega
  have s9_4 : w5.heap.size < w9.heap.size := by omega
  have s9_5 : w6.heap.size < w9.heap.size := by omega
  have s9_6 : w8.heap.size < w9.heap.size := by omega
  have hB9 : Below w.heap.size w w9 := below_seq (by repeat (first | exact hB8 | exact Below.refl _ _ | refine balloc ?_ _ | refine Below.drew ?_ | refine below_drewN ?_ _ | refine below_set ?_ (by first | omega | (dsimp only; omega)) _)) hb
  clear hb
  go_wp2_with fail
  refine (find2_y R S U n _ (hF.below (by repeat (first | exact hB9 | exact Below.refl _ _ | refine balloc ?_ _ | refine Below.drew ?_ | refine below_drewN ?_ _ | refine below_set ?_ (by first | omega | (dsimp only; omega)) _))) oR s0 s1 u0 u1 hn.out).mono ?_; rintro e w10 ⟨rfl, hb⟩
  obtain ⟨hc10, hf10⟩ := bcell hb
  have z10 := hb.size
  try simp only [World.size_alloc, World.size_setCell, World.size_drew] at z10
  have s10_0 : w1.heap.size < w10.heap.size := by omega
  have s10_1 : w2.heap.size < w10.heap.size := by omega
  have s10_2 : w3.heap.size < w10.heap.size := by omega
  have s10_3 : w4.heap.size < w10.heap.size := by omega
  have s10_4 : w5.heap.size < w10.heap.size := by omega
  have s10_5 : w6.heap.size < w10.heap.size := by omega
  have s10_6 : w8.heap.size < w10.heap.size := by omega
  have hB10 : Below w.heap.size w w10 := below_seq (by repeat (first | exact hB9 | exact Below.refl _ _ | refine balloc ?_ _ | refine Below.drew ?_ | refine below_drewN ?_ _ | refine below_set ?_ (by first | omega | (dsimp only; omega)) _)) hb
  clear hb
  go_wp2_with fail
  refine (fill_y R S m V _ (hF.below (by repeat (first | exact hB10 | exact Below.refl _ _ | refine balloc ?_ _ | refine Below.drew ?_ | refine below_drewN ?_ _ | refine below_set ?_ (by first | omega | (dsimp only; omega)) _))) oR s0 s1 m0 m1 hV.out).mono ?_; rintro e w11 ⟨rfl, hb⟩
  obtain ⟨hc11, hf11⟩ := bcell hb
  have z11 := hb.size
  try simp only [World.size_alloc, World.size_setCell, World.size_drew] at z11
  have s11_0 : w1.heap.size < w11.heap.size := by omega
  have s11_1 : w2.heap.size < w11.heap.size := by omega
  have s11_2 : w3.heap.size < w11.heap.size := by omega
  have s11_3 : w4.heap.size < w11.heap.size := by omega
  have s11_4 : w5.heap.size < w11.heap.size := by omega
  have s11_5 : w6.heap.size < w11.heap.size := by omega
  have s11_6 : w8.heap.size < w11.heap.size := by omega
  have hB11 : Below w.heap.size w w11 := below_seq (by repeat (first | exact hB10 | exact Below.refl _ _ | refine balloc ?_ _ | refine Below.drew ?_ | refine below_drewN ?_ _ | refine below_set ?_ (by first | omega | (dsimp only; omega)) _)) hb
  clear hb
  go_wp2_with fail
  refine (verify_e K R (4 * x) (4 * k + 4 * n) c V true t _ (hF.below (by repeat (first | exact hB11 | exact Below.refl _ _ | refine balloc ?_ _ | refine Below.drew ?_ | refine below_drewN ?_ _ | refine below_set ?_ (by first | omega | (dsimp only; omega)) _))) hz g0 g1 hK2 hR2 hc v3).mono ?_; rintro e w12 ⟨rfl, hb⟩
  obtain ⟨hc12, hf12⟩ := bcell hb
  have z12 := hb.size
  try simp only [World.size_alloc, World.size_setCell, World.size_drew] at z12
  have s12_0 : w1.heap.size < w12.heap.size := by omega
  have s12_1 : w2.heap.size < w12.heap.size := by omega
  have s12_2 : w3.heap.size < w12.heap.size := by omega
  have s12_3 : w4.heap.size < w12.heap.size := by omega
  have s12_4 : w5.heap.size < w12.heap.size := by omega
  have s12_5 : w6.heap.size < w12.heap.size := by omega
  have s12_6 : w8.heap.size < w12.heap.size := by omega
  have s12_7 : w11.heap.size < w12.heap.size := by omega
  have hB12 : Below w.heap.size w w12 := below_seq (by repeat (first | exact hB11 | exact Below.refl _ _ | refine balloc ?_ _ | refine Below.drew ?_ | refine below_drewN ?_ _ | refine below_set ?_ (by first | omega | (dsimp only; omega)) _)) hb
  clear hb
  go_wp2
  go_ret
  exact ⟨rfl, (by repeat (first | exact hB12 | exact Below.refl _ _ | refine balloc ?_ _ | refine Below.drew ?_ | refine below_drewN ?_ _ | refine below_set ?_ (by first | omega | (dsimp only; omega)) _))⟩
set_option maxHeartbeats 4000000 in
theorem ag_5 (x k n m : Int) (t : ByteArray) (w : World) (hF : FarAt w) (X0 Y0 C0 S0 : Int) (q1 : Hid (sq (4 * 1 + 4) = ⟨X0, Y0, false⟩)) (q2 : Hid (sq (4 * 2) = ⟨X0, Y0, false⟩)) (q3 : Hid (askN ⟨X0, Y0, false⟩ ⟨1189, 3667, false⟩ (⟨#[]⟩ : ByteArray).data.toList = C0)) (q4 : Hid ((1 + C0 * 1) % 1013 = S0)) (n1 : 1 ≤ n) (n2 : n < 1013) (T : Sp) (hT : Hid (sq (4 * n) = T)) (x1 : 1 ≤ x) (x2 : x < 1013) (k1 : 1 ≤ k) (k2 : k < 1013) (hz : t.size ≤ 60) (R K : Sp) (c S U : Int) (s0 : 0 ≤ S) (s1 : S < 1013) (u0 : 0 ≤ U) (u1 : U < 1013) (hT2 : Hid (T = sq (4 * n))) (hR : Hid (sq (4 * k + 4 * n) = R)) (hR2 : Hid (R = sq (4 * k + 4 * n))) (hK : Hid (sq (4 * x) = K)) (hK2 : Hid (K = sq (4 * x))) (oR : Ok R) (hc : Hid (askN R K t.data.toList = c)) (hS : Hid ((k + c * x) % 1013 = S)) (v1 : Hid ((sq (4 * S + -(4 * k + 4 * n + 4 * x * c) + 4 * n)).far = true)) (hU : Hid ((S + n) % 1013 = U)) (v2 : Hid ((sq (4 * U + -(4 * k + 4 * n + 4 * x * c))).far = true)) (hn : Hid ((U - S + 1013) % 1013 = n)) (m0 : 0 ≤ m) (m1 : m < 1013) (V : Int) (g0 : 0 ≤ V) (g1 : V < 1013) (hV : Hid ((S + m) % 1013 = V)) (v3 : Hid ((sq (4 * V + -(4 * k + 4 * n + 4 * x * c))).far = false)) (hm : (m == n) = false) : Calls Tryd.prog 7 #[.int .i64 x, .int .i64 k, .int .i64 n, .int .i64 m, .string t] w fun e w' => e = .returned (.bool true) ∧ Below w.heap.size w w' := by
  go_enter Tryd.func7, Tryd.ntmps7
  go_wp2_with fail
  refine (key_one _ (hF.below (by repeat (first | exact Below.refl _ _ | refine balloc ?_ _ | refine Below.drew ?_ | refine below_drewN ?_ _ | refine below_set ?_ (by first | omega | (dsimp only; omega)) _)))).mono ?_; rintro e w1 ⟨rfl, hb⟩
  obtain ⟨hc1, hf1⟩ := bcell hb
  have z1 := hb.size
  try simp only [World.size_alloc, World.size_setCell, World.size_drew] at z1
  have hB1 : Below w.heap.size w w1 := below_seq (by repeat (first | exact Below.refl _ _ | refine balloc ?_ _ | refine Below.drew ?_ | refine below_drewN ?_ _ | refine below_set ?_ (by first | omega | (dsimp only; omega)) _)) hb
  clear hb
  go_wp2_with fail
  refine (pre_e 1 1 4 ⟨1189, 3667, false⟩ ⟨X0, Y0, false⟩ ⟨1189, 3667, false⟩ C0 S0 ⟨#[]⟩ _ (hF.below (by repeat (first | exact hB1 | exact Below.refl _ _ | refine balloc ?_ _ | refine Below.drew ?_ | refine below_drewN ?_ _ | refine below_set ?_ (by first | omega | (dsimp only; omega)) _))) (by omega) (by omega) (by omega) (by omega) (Nat.zero_le _) sq_4.symm q1 sq_4 q3 q4).mono ?_; rintro e w2 ⟨rfl, hb⟩
  obtain ⟨hc2, hf2⟩ := bcell hb
  have z2 := hb.size
  try simp only [World.size_alloc, World.size_setCell, World.size_drew] at z2
  have s2_0 : w1.heap.size < w2.heap.size := by omega
  have hB2 : Below w.heap.size w w2 := below_seq (by repeat (first | exact hB1 | exact Below.refl _ _ | refine balloc ?_ _ | refine Below.drew ?_ | refine below_drewN ?_ _ | refine below_set ?_ (by first | omega | (dsimp only; omega)) _)) hb
  clear hb
  go_wp2_with fail
  refine (key_e 2 ⟨X0, Y0, false⟩ _ (hF.below (by repeat (first | exact hB2 | exact Below.refl _ _ | refine balloc ?_ _ | refine Below.drew ?_ | refine below_drewN ?_ _ | refine below_set ?_ (by first | omega | (dsimp only; omega)) _))) (by omega) (by omega) q2).mono ?_; rintro e w3 ⟨rfl, hb⟩
  obtain ⟨hc3, hf3⟩ := bcell hb
  have z3 := hb.size
  try simp only [World.size_alloc, World.size_setCell, World.size_drew] at z3
  have s3_0 : w1.heap.size < w3.heap.size := by omega
  have s3_1 : w2.heap.size < w3.heap.size := by omega
  have hB3 : Below w.heap.size w w3 := below_seq (by repeat (first | exact hB2 | exact Below.refl _ _ | refine balloc ?_ _ | refine Below.drew ?_ | refine below_drewN ?_ _ | refine below_set ?_ (by first | omega | (dsimp only; omega)) _)) hb
  clear hb
  go_wp2_with fail
  refine (key_e n T _ (hF.below (by repeat (first | exact hB3 | exact Below.refl _ _ | refine balloc ?_ _ | refine Below.drew ?_ | refine below_drewN ?_ _ | refine below_set ?_ (by first | omega | (dsimp only; omega)) _))) n1 n2 hT).mono ?_; rintro e w4 ⟨rfl, hb⟩
  obtain ⟨hc4, hf4⟩ := bcell hb
  have z4 := hb.size
  try simp only [World.size_alloc, World.size_setCell, World.size_drew] at z4
  have s4_0 : w1.heap.size < w4.heap.size := by omega
  have s4_1 : w2.heap.size < w4.heap.size := by omega
  have s4_2 : w3.heap.size < w4.heap.size := by omega
  have hB4 : Below w.heap.size w w4 := below_seq (by repeat (first | exact hB3 | exact Below.refl _ _ | refine balloc ?_ _ | refine Below.drew ?_ | refine below_drewN ?_ _ | refine below_set ?_ (by first | omega | (dsimp only; omega)) _)) hb
  clear hb
  go_wp2_with fail
  refine (pre_e x k (4 * n) T R K c S t _ (hF.below (by repeat (first | exact hB4 | exact Below.refl _ _ | refine balloc ?_ _ | refine Below.drew ?_ | refine below_drewN ?_ _ | refine below_set ?_ (by first | omega | (dsimp only; omega)) _))) x1 x2 k1 k2 hz hT2 hR hK hc hS).mono ?_; rintro e w5 ⟨rfl, hb⟩
  obtain ⟨hc5, hf5⟩ := bcell hb
  have z5 := hb.size
  try simp only [World.size_alloc, World.size_setCell, World.size_drew] at z5
  have s5_0 : w1.heap.size < w5.heap.size := by omega
  have s5_1 : w2.heap.size < w5.heap.size := by omega
  have s5_2 : w3.heap.size < w5.heap.size := by omega
  have s5_3 : w4.heap.size < w5.heap.size := by omega
  have hB5 : Below w.heap.size w w5 := below_seq (by repeat (first | exact hB4 | exact Below.refl _ _ | refine balloc ?_ _ | refine Below.drew ?_ | refine below_drewN ?_ _ | refine below_set ?_ (by first | omega | (dsimp only; omega)) _)) hb
  clear hb
  go_wp2_with fail
  refine (key_e x K _ (hF.below (by repeat (first | exact hB5 | exact Below.refl _ _ | refine balloc ?_ _ | refine Below.drew ?_ | refine below_drewN ?_ _ | refine below_set ?_ (by first | omega | (dsimp only; omega)) _))) x1 x2 hK).mono ?_; rintro e w6 ⟨rfl, hb⟩
  obtain ⟨hc6, hf6⟩ := bcell hb
  have z6 := hb.size
  try simp only [World.size_alloc, World.size_setCell, World.size_drew] at z6
  have s6_0 : w1.heap.size < w6.heap.size := by omega
  have s6_1 : w2.heap.size < w6.heap.size := by omega
  have s6_2 : w3.heap.size < w6.heap.size := by omega
  have s6_3 : w4.heap.size < w6.heap.size := by omega
  have s6_4 : w5.heap.size < w6.heap.size := by omega
  have hB6 : Below w.heap.size w w6 := below_seq (by repeat (first | exact hB5 | exact Below.refl _ _ | refine balloc ?_ _ | refine Below.drew ?_ | refine below_drewN ?_ _ | refine below_set ?_ (by first | omega | (dsimp only; omega)) _)) hb
  clear hb
  go_wp2_with fail
  refine (acheck_e K T R (4 * x) (4 * k + 4 * n) (4 * n) c S true t _ (hF.below (by repeat (first | exact hB6 | exact Below.refl _ _ | refine balloc ?_ _ | refine Below.drew ?_ | refine below_drewN ?_ _ | refine below_set ?_ (by first | omega | (dsimp only; omega)) _))) hz s0 s1 hK2 hR2 hT2 hc v1).mono ?_; rintro e w7 ⟨rfl, hb⟩
  obtain ⟨hc7, hf7⟩ := bcell hb
  have z7 := hb.size
  try simp only [World.size_alloc, World.size_setCell, World.size_drew] at z7
  have s7_0 : w1.heap.size < w7.heap.size := by omega
  have s7_1 : w2.heap.size < w7.heap.size := by omega
  have s7_2 : w3.heap.size < w7.heap.size := by omega
  have s7_3 : w4.heap.size < w7.heap.size := by omega
  have s7_4 : w5.heap.size < w7.heap.size := by omega
  have s7_5 : w6.heap.size < w7.heap.size := by omega
  have hB7 : Below w.heap.size w w7 := below_seq (by repeat (first | exact hB6 | exact Below.refl _ _ | refine balloc ?_ _ | refine Below.drew ?_ | refine below_drewN ?_ _ | refine below_set ?_ (by first | omega | (dsimp only; omega)) _)) hb
  clear hb
  go_wp2_with fail
  refine (fill_y R S n U _ (hF.below (by repeat (first | exact hB7 | exact Below.refl _ _ | refine balloc ?_ _ | refine Below.drew ?_ | refine below_drewN ?_ _ | refine below_set ?_ (by first | omega | (dsimp only; omega)) _))) oR s0 s1 (by omega) n2 hU.out).mono ?_; rintro e w8 ⟨rfl, hb⟩
  obtain ⟨hc8, hf8⟩ := bcell hb
  have z8 := hb.size
  try simp only [World.size_alloc, World.size_setCell, World.size_drew] at z8
  have s8_0 : w1.heap.size < w8.heap.size := by omega
  have s8_1 : w2.heap.size < w8.heap.size := by omega
  have s8_2 : w3.heap.size < w8.heap.size := by omega
  have s8_3 : w4.heap.size < w8.heap.size := by omega
  have s8_4 : w5.heap.size < w8.heap.size := by omega
  have s8_5 : w6.heap.size < w8.heap.size := by omega
  have hB8 : Below w.heap.size w w8 := below_seq (by repeat (first | exact hB7 | exact Below.refl _ _ | refine balloc ?_ _ | refine Below.drew ?_ | refine below_drewN ?_ _ | refine below_set ?_ (by first | omega | (dsimp only; omega)) _)) hb
  clear hb
  go_wp2_with fail
  refine (verify_e K R (4 * x) (4 * k + 4 * n) c U true t _ (hF.below (by repeat (first | exact hB8 | exact Below.refl _ _ | refine balloc ?_ _ | refine Below.drew ?_ | refine below_drewN ?_ _ | refine below_set ?_ (by first | omega | (dsimp only; omega)) _))) hz u0 u1 hK2 hR2 hc v2).mono ?_; rintro e w9 ⟨rfl, hb⟩
  obtain ⟨hc9, hf9⟩ := bcell hb
  have z9 := hb.size
  try simp only [World.size_alloc, World.size_setCell, World.size_drew] at z9
  have s9_0 : w1.heap.size < w9.heap.size := by omega
  have s9_1 : w2.heap.size < w9.heap.size := by omega
  have s9_2 : w3.heap.size < w9.heap.size := by omega
  have s9_3 : w4.heap.size < w9.heap.size := by omega
  have s9_4 : w5.heap.size < w9.heap.size := by omega
  have s9_5 : w6.heap.size < w9.heap.size := by omega
  have s9_6 : w8.heap.size < w9.heap.size := by omega
  have hB9 : Below w.heap.size w w9 := below_seq (by repeat (first | exact hB8 | exact Below.refl _ _ | refine balloc ?_ _ | refine Below.drew ?_ | refine below_drewN ?_ _ | refine below_set ?_ (by first | omega | (dsimp only; omega)) _)) hb
  clear hb
  go_wp2_with fail
  refine (find2_y R S U n _ (hF.below (by repeat (first | exact hB9 | exact Below.refl _ _ | refine balloc ?_ _ | refine Below.drew ?_ | refine below_drewN ?_ _ | refine below_set ?_ (by first | omega | (dsimp only; omega)) _))) oR s0 s1 u0 u1 hn.out).mono ?_; rintro e w10 ⟨rfl, hb⟩
  obtain ⟨hc10, hf10⟩ := bcell hb
  have z10 := hb.size
  try simp only [World.size_alloc, World.size_setCell, World.size_drew] at z10
  have s10_0 : w1.heap.size < w10.heap.size := by omega
  have s10_1 : w2.heap.size < w10.heap.size := by omega
  have s10_2 : w3.heap.size < w10.heap.size := by omega
  have s10_3 : w4.heap.size < w10.heap.size := by omega
  have s10_4 : w5.heap.size < w10.heap.size := by omega
  have s10_5 : w6.heap.size < w10.heap.size := by omega
  have s10_6 : w8.heap.size < w10.heap.size := by omega
  have hB10 : Below w.heap.size w w10 := below_seq (by repeat (first | exact hB9 | exact Below.refl _ _ | refine balloc ?_ _ | refine Below.drew ?_ | refine below_drewN ?_ _ | refine below_set ?_ (by first | omega | (dsimp only; omega)) _)) hb
  clear hb
  go_wp2_with fail
  refine (fill_y R S m V _ (hF.below (by repeat (first | exact hB10 | exact Below.refl _ _ | refine balloc ?_ _ | refine Below.drew ?_ | refine below_drewN ?_ _ | refine below_set ?_ (by first | omega | (dsimp only; omega)) _))) oR s0 s1 m0 m1 hV.out).mono ?_; rintro e w11 ⟨rfl, hb⟩
  obtain ⟨hc11, hf11⟩ := bcell hb
  have z11 := hb.size
  try simp only [World.size_alloc, World.size_setCell, World.size_drew] at z11
  have s11_0 : w1.heap.size < w11.heap.size := by omega
  have s11_1 : w2.heap.size < w11.heap.size := by omega
  have s11_2 : w3.heap.size < w11.heap.size := by omega
  have s11_3 : w4.heap.size < w11.heap.size := by omega
  have s11_4 : w5.heap.size < w11.heap.size := by omega
  have s11_5 : w6.heap.size < w11.heap.size := by omega
  have s11_6 : w8.heap.size < w11.heap.size := by omega
  have hB11 : Below w.heap.size w w11 := below_seq (by repeat (first | exact hB10 | exact Below.refl _ _ | refine balloc ?_ _ | refine Below.drew ?_ | refine below_drewN ?_ _ | refine below_set ?_ (by first | omega | (dsimp only; omega)) _)) hb
  clear hb
  go_wp2_with fail
  refine (verify_e K R (4 * x) (4 * k + 4 * n) c V false t _ (hF.below (by repeat (first | exact hB11 | exact Below.refl _ _ | refine balloc ?_ _ | refine Below.drew ?_ | refine below_drewN ?_ _ | refine below_set ?_ (by first | omega | (dsimp only; omega)) _))) hz g0 g1 hK2 hR2 hc v3).mono ?_; rintro e w12 ⟨rfl, hb⟩
  obtain ⟨hc12, hf12⟩ := bcell hb
  have z12 := hb.size
  try simp only [World.size_alloc, World.size_setCell, World.size_drew] at z12
  have s12_0 : w1.heap.size < w12.heap.size := by omega
  have s12_1 : w2.heap.size < w12.heap.size := by omega
  have s12_2 : w3.heap.size < w12.heap.size := by omega
  have s12_3 : w4.heap.size < w12.heap.size := by omega
  have s12_4 : w5.heap.size < w12.heap.size := by omega
  have s12_5 : w6.heap.size < w12.heap.size := by omega
  have s12_6 : w8.heap.size < w12.heap.size := by omega
  have s12_7 : w11.heap.size < w12.heap.size := by omega
  have hB12 : Below w.heap.size w w12 := below_seq (by repeat (first | exact hB11 | exact Below.refl _ _ | refine balloc ?_ _ | refine Below.drew ?_ | refine below_drewN ?_ _ | refine below_set ?_ (by first | omega | (dsimp only; omega)) _)) hb
  clear hb
  go_wp2
  go_ret
  exact ⟨rfl, (by repeat (first | exact hB12 | exact Below.refl _ _ | refine balloc ?_ _ | refine Below.drew ?_ | refine below_drewN ?_ _ | refine below_set ?_ (by first | omega | (dsimp only; omega)) _))⟩
theorem ag_a {x k n c S : Int} (h : (k + c * x) % 1013 = S) : (4 * S + -(4 * k + 4 * n + 4 * x * c) + 4 * n) % 4052 = 0 := by
  rw [Int.mul_assoc, Int.mul_comm x c]
  generalize c * x = p at *
  omega
theorem ag_b {x k n c S m : Int} (h : (k + c * x) % 1013 = S) : (4 * ((S + m) % 1013) + -(4 * k + 4 * n + 4 * x * c)) % 4052 = 0 ↔ m % 1013 = n % 1013 := by
  rw [Int.mul_assoc, Int.mul_comm x c]
  generalize c * x = p at *
  omega
theorem adaptGives_law (x : Int) (hx : (Lit.int .i64 x).wf = true) (k : Int) (hk : (Lit.int .i64 k).wf = true) (n : Int) (hn : (Lit.int .i64 n).wf = true) (m : Int) (hm : (Lit.int .i64 m).wf = true) (t : ByteArray) (hz : t.size ≤ 140737488351232) (w : World) (hF : FarAt w) : Calls Tryd.prog 7 #[.int .i64 x, .int .i64 k, .int .i64 n, .int .i64 m, .string t] w fun e w' => e = .returned (.bool true) ∧ Below w.heap.size w w' := by
  have Q : sq (4 * 1 + 4) = ⟨(sq (4 * 2)).x, (sq (4 * 2)).y, false⟩ := Sp.ext' rfl rfl (sq_far_not (by decide))
  have Q2 : sq (4 * 2) = ⟨(sq (4 * 2)).x, (sq (4 * 2)).y, false⟩ := Q
  by_cases h1 : 1 ≤ n ∧ n < 1013
  case neg => exact ag_1 x k n m t w hF _ _ _ _ Q Q2 rfl rfl h1
  by_cases h2 : 1 ≤ x ∧ x < 1013 ∧ 1 ≤ k ∧ k < 1013 ∧ t.size ≤ 60
  case neg =>
    obtain ⟨E, hE⟩ := pre_n x k (sq (4 * n)) t (sq_ok _) hz h2
    exact ag_2 x k n m t w hF _ _ _ _ Q Q2 rfl rfl h1.1 h1.2 _ rfl E hE
  obtain ⟨x1, x2, k1, k2, h6⟩ := h2
  have e0 : ∀ c : Int, (k + c * x) % 1013 = (k + c * x) % 1013 := fun _ => rfl
  have p1 : ∀ z : Int, 0 ≤ z % 1013 := fun z => Int.emod_nonneg _ (by decide)
  have p2 : ∀ z : Int, z % 1013 < 1013 := fun z => Int.emod_lt_of_pos _ (by decide)
  by_cases h3 : 0 ≤ m ∧ m < 1013
  case neg => exact ag_3 x k n m t w hF _ _ _ _ Q Q2 rfl rfl h1.1 h1.2 _ rfl x1 x2 k1 k2 h6 _ _ _ _ _ (p1 _) (p2 _) (p1 _) (p2 _) rfl rfl rfl rfl rfl (sq_ok _) rfl rfl (sq_far.mpr (ag_a (e0 _))) rfl (sq_far.mpr ((ag_b (e0 _)).mpr rfl)) (by show _ = _; omega) h3
  by_cases h4 : m = n
  · exact ag_4 x k n m t w hF _ _ _ _ Q Q2 rfl rfl h1.1 h1.2 _ rfl x1 x2 k1 k2 h6 _ _ _ _ _ (p1 _) (p2 _) (p1 _) (p2 _) rfl rfl rfl rfl rfl (sq_ok _) rfl rfl (sq_far.mpr (ag_a (e0 _))) rfl (sq_far.mpr ((ag_b (e0 _)).mpr rfl)) (by show _ = _; omega) h3.1 h3.2 _ (p1 _) (p2 _) rfl (sq_far.mpr ((ag_b (e0 _)).mpr (by rw [h4]))) (by simpa using h4)
  · exact ag_5 x k n m t w hF _ _ _ _ Q Q2 rfl rfl h1.1 h1.2 _ rfl x1 x2 k1 k2 h6 _ _ _ _ _ (p1 _) (p2 _) (p1 _) (p2 _) rfl rfl rfl rfl rfl (sq_ok _) rfl rfl (sq_far.mpr (ag_a (e0 _))) rfl (sq_far.mpr ((ag_b (e0 _)).mpr rfl)) (by show _ = _; omega) h3.1 h3.2 _ (p1 _) (p2 _) rfl (sq_far_not (fun c => h4 (by have := (ag_b (e0 _)).mp c; omega))) (by simpa using h4)
end Go.Proofs.YtijemkecjohagaaDoor
