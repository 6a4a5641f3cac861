/- The law SealHolds, walked: what is sealed is right. (Printed by gen_sh.py.) -/
import Derived.Test.YtlppjihejgcplaaDoorSb
namespace Go.Proofs.YtlppjihejgcplaaDoor
open Go.RowKit
set_option maxRecDepth 100000
set_option linter.unusedVariables false
set_option linter.unusedSimpArgs false
theorem sq_41 : sq (4 * 1) = ⟨1189, 3667, false⟩ := sq_4
set_option maxHeartbeats 4000000 in
theorem sh_bad (x k more : Int) (t u : ByteArray) (C0 S0 : Int) (w : World) (hF : FarAt w) (hC0 : Hid (askN ⟨1189, 3667, false⟩ ⟨1189, 3667, false⟩ (⟨#[]⟩ : ByteArray).data.toList = C0)) (hS0 : Hid ((1 + C0 * 1) % 1013 = S0)) (E : Int) (hb : Hid (∀ w : World, Calls Tryd.prog 44 #[.int .i64 x, .int .i64 k, .string t] w fun e w' => e = .returned (.tuple #[slV ⟨0, 0, false⟩ 0, .iface 101 (.int .i64 E)]) ∧ Below w.heap.size w w')) : Calls Tryd.prog 12 #[.int .i64 x, .int .i64 k, .string t, .string u, .int .i64 more] w fun e w' => e = .returned (.bool true) ∧ Below w.heap.size w w' := by
  go_enter Tryd.func12, Tryd.ntmps12
  go_wp2_with fail
  refine (sign_e 1 1 ⟨#[]⟩ ⟨1189, 3667, false⟩ ⟨1189, 3667, false⟩ C0 S0 _ (hF.below (by repeat (first | exact Below.refl _ _ | refine balloc ?_ _ | refine Below.drew ?_ | refine below_drewN ?_ _ | refine below_set ?_ (by first | omega | (dsimp only; omega)) _))) (by omega) (by omega) (by omega) (by omega) (Nat.zero_le _) sq_41 sq_41 hC0 hS0).mono ?_; rintro e w1 ⟨rfl, hb⟩
  obtain ⟨hc1, hf1⟩ := bcell hb
  have z1 := hb.size
  try simp only [World.size_alloc, World.size_setCell, World.size_drew] at z1
  have hB1 : Below w.heap.size w w1 := below_seq (by repeat (first | exact Below.refl _ _ | refine balloc ?_ _ | refine Below.drew ?_ | refine below_drewN ?_ _ | refine below_set ?_ (by first | omega | (dsimp only; omega)) _)) hb
  clear hb
  go_wp2_with fail
  refine (key_one _ (hF.below (by repeat (first | exact hB1 | exact Below.refl _ _ | refine balloc ?_ _ | refine Below.drew ?_ | refine below_drewN ?_ _ | refine below_set ?_ (by first | omega | (dsimp only; omega)) _)))).mono ?_; rintro e w2 ⟨rfl, hb⟩
  obtain ⟨hc2, hf2⟩ := bcell hb
  have z2 := hb.size
  try simp only [World.size_alloc, World.size_setCell, World.size_drew] at z2
  have s2_0 : w1.heap.size < w2.heap.size := by omega
  have hB2 : Below w.heap.size w w2 := below_seq (by repeat (first | exact hB1 | exact Below.refl _ _ | refine balloc ?_ _ | refine Below.drew ?_ | refine below_drewN ?_ _ | refine below_set ?_ (by first | omega | (dsimp only; omega)) _)) hb
  clear hb
  go_wp2_with fail
  refine (hb.out _).mono ?_; rintro e w3 ⟨rfl, hb⟩
  obtain ⟨hc3, hf3⟩ := bcell hb
  have z3 := hb.size
  try simp only [World.size_alloc, World.size_setCell, World.size_drew] at z3
  have s3_0 : w1.heap.size < w3.heap.size := by omega
  have s3_1 : w2.heap.size < w3.heap.size := by omega
  have hB3 : Below w.heap.size w w3 := below_seq (by repeat (first | exact hB2 | exact Below.refl _ _ | refine balloc ?_ _ | refine Below.drew ?_ | refine below_drewN ?_ _ | refine below_set ?_ (by first | omega | (dsimp only; omega)) _)) hb
  clear hb
  go_wp2
  go_ret
  exact ⟨rfl, (by repeat (first | exact hB3 | exact Below.refl _ _ | refine balloc ?_ _ | refine Below.drew ?_ | refine below_drewN ?_ _ | refine below_set ?_ (by first | omega | (dsimp only; omega)) _))⟩
set_option maxHeartbeats 4000000 in
theorem sh_lo_bad (x k more : Int) (t u : ByteArray) (C0 S0 : Int) (w : World) (hF : FarAt w) (hC0 : Hid (askN ⟨1189, 3667, false⟩ ⟨1189, 3667, false⟩ (⟨#[]⟩ : ByteArray).data.toList = C0)) (hS0 : Hid ((1 + C0 * 1) % 1013 = S0)) (x1 : 1 ≤ x) (x2 : x < 1013) (k1 : 1 ≤ k) (k2 : k < 1013) (hz : t.size ≤ 60) (R K : Sp) (c S : Int) (s0 : 0 ≤ S) (s1 : S < 1013) (hR : Hid (sq (4 * k) = R)) (hK : Hid (sq (4 * x) = K)) (hc : Hid (askN R K t.data.toList = c)) (hS : Hid ((k + c * x) % 1013 = S)) (hv : Hid ((sq (4 * S + -(4 * k + 4 * x * c))).far = true)) (m1 : more ≤ 0) (E : Int) (hb : Hid (∀ w : World, Calls Tryd.prog 44 #[.int .i64 x, .int .i64 k, .string u] w fun e w' => e = .returned (.tuple #[slV ⟨0, 0, false⟩ 0, .iface 101 (.int .i64 E)]) ∧ Below w.heap.size w w')) : Calls Tryd.prog 12 #[.int .i64 x, .int .i64 k, .string t, .string u, .int .i64 more] w fun e w' => e = .returned (.bool true) ∧ Below w.heap.size w w' := by
  go_enter Tryd.func12, Tryd.ntmps12
  go_wp2_with fail
  refine (sign_e 1 1 ⟨#[]⟩ ⟨1189, 3667, false⟩ ⟨1189, 3667, false⟩ C0 S0 _ (hF.below (by repeat (first | exact Below.refl _ _ | refine balloc ?_ _ | refine Below.drew ?_ | refine below_drewN ?_ _ | refine below_set ?_ (by first | omega | (dsimp only; omega)) _))) (by omega) (by omega) (by omega) (by omega) (Nat.zero_le _) sq_41 sq_41 hC0 hS0).mono ?_; rintro e w1 ⟨rfl, hb⟩
  obtain ⟨hc1, hf1⟩ := bcell hb
  have z1 := hb.size
  try simp only [World.size_alloc, World.size_setCell, World.size_drew] at z1
  have hB1 : Below w.heap.size w w1 := below_seq (by repeat (first | exact Below.refl _ _ | refine balloc ?_ _ | refine Below.drew ?_ | refine below_drewN ?_ _ | refine below_set ?_ (by first | omega | (dsimp only; omega)) _)) hb
  clear hb
  go_wp2_with fail
  refine (key_one _ (hF.below (by repeat (first | exact hB1 | exact Below.refl _ _ | refine balloc ?_ _ | refine Below.drew ?_ | refine below_drewN ?_ _ | refine below_set ?_ (by first | omega | (dsimp only; omega)) _)))).mono ?_; rintro e w2 ⟨rfl, hb⟩
  obtain ⟨hc2, hf2⟩ := bcell hb
  have z2 := hb.size
  try simp only [World.size_alloc, World.size_setCell, World.size_drew] at z2
  have s2_0 : w1.heap.size < w2.heap.size := by omega
  have hB2 : Below w.heap.size w w2 := below_seq (by repeat (first | exact hB1 | exact Below.refl _ _ | refine balloc ?_ _ | refine Below.drew ?_ | refine below_drewN ?_ _ | refine below_set ?_ (by first | omega | (dsimp only; omega)) _)) hb
  clear hb
  go_wp2_with fail
  refine (sign_e x k t R K c S _ (hF.below (by repeat (first | exact hB2 | exact Below.refl _ _ | refine balloc ?_ _ | refine Below.drew ?_ | refine below_drewN ?_ _ | refine below_set ?_ (by first | omega | (dsimp only; omega)) _))) x1 x2 k1 k2 hz hR hK hc hS).mono ?_; rintro e w3 ⟨rfl, hb⟩
  obtain ⟨hc3, hf3⟩ := bcell hb
  have z3 := hb.size
  try simp only [World.size_alloc, World.size_setCell, World.size_drew] at z3
  have s3_0 : w1.heap.size < w3.heap.size := by omega
  have s3_1 : w2.heap.size < w3.heap.size := by omega
  have hB3 : Below w.heap.size w w3 := below_seq (by repeat (first | exact hB2 | exact Below.refl _ _ | refine balloc ?_ _ | refine Below.drew ?_ | refine below_drewN ?_ _ | refine below_set ?_ (by first | omega | (dsimp only; omega)) _)) hb
  clear hb
  go_wp2_with fail
  refine (key_e x K _ (hF.below (by repeat (first | exact hB3 | exact Below.refl _ _ | refine balloc ?_ _ | refine Below.drew ?_ | refine below_drewN ?_ _ | refine below_set ?_ (by first | omega | (dsimp only; omega)) _))) x1 x2 hK).mono ?_; rintro e w4 ⟨rfl, hb⟩
  obtain ⟨hc4, hf4⟩ := bcell hb
  have z4 := hb.size
  try simp only [World.size_alloc, World.size_setCell, World.size_drew] at z4
  have s4_0 : w1.heap.size < w4.heap.size := by omega
  have s4_1 : w2.heap.size < w4.heap.size := by omega
  have s4_2 : w3.heap.size < w4.heap.size := by omega
  have hB4 : Below w.heap.size w w4 := below_seq (by repeat (first | exact hB3 | exact Below.refl _ _ | refine balloc ?_ _ | refine Below.drew ?_ | refine below_drewN ?_ _ | refine below_set ?_ (by first | omega | (dsimp only; omega)) _)) hb
  clear hb
  go_wp2_with fail
  refine (verify_e K R (4 * x) (4 * k) c S true t _ (hF.below (by repeat (first | exact hB4 | exact Below.refl _ _ | refine balloc ?_ _ | refine Below.drew ?_ | refine below_drewN ?_ _ | refine below_set ?_ (by first | omega | (dsimp only; omega)) _))) hz s0 s1 (show _ = _ from hK.out.symm) (show _ = _ from hR.out.symm) hc hv).mono ?_; rintro e w5 ⟨rfl, hb⟩
  obtain ⟨hc5, hf5⟩ := bcell hb
  have z5 := hb.size
  try simp only [World.size_alloc, World.size_setCell, World.size_drew] at z5
  have s5_0 : w1.heap.size < w5.heap.size := by omega
  have s5_1 : w2.heap.size < w5.heap.size := by omega
  have s5_2 : w3.heap.size < w5.heap.size := by omega
  have s5_3 : w4.heap.size < w5.heap.size := by omega
  have hB5 : Below w.heap.size w w5 := below_seq (by repeat (first | exact hB4 | exact Below.refl _ _ | refine balloc ?_ _ | refine Below.drew ?_ | refine below_drewN ?_ _ | refine below_set ?_ (by first | omega | (dsimp only; omega)) _)) hb
  clear hb
  go_wp2_with fail
  refine (hb.out _).mono ?_; rintro e w6 ⟨rfl, hb⟩
  obtain ⟨hc6, hf6⟩ := bcell hb
  have z6 := hb.size
  try simp only [World.size_alloc, World.size_setCell, World.size_drew] at z6
  have s6_0 : w1.heap.size < w6.heap.size := by omega
  have s6_1 : w2.heap.size < w6.heap.size := by omega
  have s6_2 : w3.heap.size < w6.heap.size := by omega
  have s6_3 : w4.heap.size < w6.heap.size := by omega
  have hB6 : Below w.heap.size w w6 := below_seq (by repeat (first | exact hB5 | exact Below.refl _ _ | refine balloc ?_ _ | refine Below.drew ?_ | refine below_drewN ?_ _ | refine below_set ?_ (by first | omega | (dsimp only; omega)) _)) hb
  clear hb
  go_wp2
  go_ret
  exact ⟨rfl, (by repeat (first | exact hB6 | exact Below.refl _ _ | refine balloc ?_ _ | refine Below.drew ?_ | refine below_drewN ?_ _ | refine below_set ?_ (by first | omega | (dsimp only; omega)) _))⟩
set_option maxHeartbeats 4000000 in
theorem sh_lo_ok (x k more : Int) (t u : ByteArray) (C0 S0 : Int) (w : World) (hF : FarAt w) (hC0 : Hid (askN ⟨1189, 3667, false⟩ ⟨1189, 3667, false⟩ (⟨#[]⟩ : ByteArray).data.toList = C0)) (hS0 : Hid ((1 + C0 * 1) % 1013 = S0)) (x1 : 1 ≤ x) (x2 : x < 1013) (k1 : 1 ≤ k) (k2 : k < 1013) (hz : t.size ≤ 60) (R K : Sp) (c S : Int) (s0 : 0 ≤ S) (s1 : S < 1013) (hR : Hid (sq (4 * k) = R)) (hK : Hid (sq (4 * x) = K)) (hc : Hid (askN R K t.data.toList = c)) (hS : Hid ((k + c * x) % 1013 = S)) (hv : Hid ((sq (4 * S + -(4 * k + 4 * x * c))).far = true)) (m1 : more ≤ 0) (hzu : u.size ≤ 60) (d T : Int) (t0 : 0 ≤ T) (t1 : T < 1013) (c0 : 0 ≤ c) (c1 : c < 1013) (d0 : 0 ≤ d) (d1 : d < 1013) (hd : Hid (askN R K u.data.toList = d)) (hT : Hid ((k + d * x) % 1013 = T)) (oR : Ok R) (oK : Ok K) (p1 : -1100000 ≤ (c - d) * x) (p2 : (c - d) * x ≤ 1100000) (hm : Hid (((c - d) * x - (S - T)) % 1013 = 0)) : Calls Tryd.prog 12 #[.int .i64 x, .int .i64 k, .string t, .string u, .int .i64 more] w fun e w' => e = .returned (.bool true) ∧ Below w.heap.size w w' := by
  go_enter Tryd.func12, Tryd.ntmps12
  go_wp2_with fail
  refine (sign_e 1 1 ⟨#[]⟩ ⟨1189, 3667, false⟩ ⟨1189, 3667, false⟩ C0 S0 _ (hF.below (by repeat (first | exact Below.refl _ _ | refine balloc ?_ _ | refine Below.drew ?_ | refine below_drewN ?_ _ | refine below_set ?_ (by first | omega | (dsimp only; omega)) _))) (by omega) (by omega) (by omega) (by omega) (Nat.zero_le _) sq_41 sq_41 hC0 hS0).mono ?_; rintro e w1 ⟨rfl, hb⟩
  obtain ⟨hc1, hf1⟩ := bcell hb
  have z1 := hb.size
  try simp only [World.size_alloc, World.size_setCell, World.size_drew] at z1
  have hB1 : Below w.heap.size w w1 := below_seq (by repeat (first | exact Below.refl _ _ | refine balloc ?_ _ | refine Below.drew ?_ | refine below_drewN ?_ _ | refine below_set ?_ (by first | omega | (dsimp only; omega)) _)) hb
  clear hb
  go_wp2_with fail
  refine (key_one _ (hF.below (by repeat (first | exact hB1 | exact Below.refl _ _ | refine balloc ?_ _ | refine Below.drew ?_ | refine below_drewN ?_ _ | refine below_set ?_ (by first | omega | (dsimp only; omega)) _)))).mono ?_; rintro e w2 ⟨rfl, hb⟩
  obtain ⟨hc2, hf2⟩ := bcell hb
  have z2 := hb.size
  try simp only [World.size_alloc, World.size_setCell, World.size_drew] at z2
  have s2_0 : w1.heap.size < w2.heap.size := by omega
  have hB2 : Below w.heap.size w w2 := below_seq (by repeat (first | exact hB1 | exact Below.refl _ _ | refine balloc ?_ _ | refine Below.drew ?_ | refine below_drewN ?_ _ | refine below_set ?_ (by first | omega | (dsimp only; omega)) _)) hb
  clear hb
  go_wp2_with fail
  refine (sign_e x k t R K c S _ (hF.below (by repeat (first | exact hB2 | exact Below.refl _ _ | refine balloc ?_ _ | refine Below.drew ?_ | refine below_drewN ?_ _ | refine below_set ?_ (by first | omega | (dsimp only; omega)) _))) x1 x2 k1 k2 hz hR hK hc hS).mono ?_; rintro e w3 ⟨rfl, hb⟩
  obtain ⟨hc3, hf3⟩ := bcell hb
  have z3 := hb.size
  try simp only [World.size_alloc, World.size_setCell, World.size_drew] at z3
  have s3_0 : w1.heap.size < w3.heap.size := by omega
  have s3_1 : w2.heap.size < w3.heap.size := by omega
  have hB3 : Below w.heap.size w w3 := below_seq (by repeat (first | exact hB2 | exact Below.refl _ _ | refine balloc ?_ _ | refine Below.drew ?_ | refine below_drewN ?_ _ | refine below_set ?_ (by first | omega | (dsimp only; omega)) _)) hb
  clear hb
  go_wp2_with fail
  refine (key_e x K _ (hF.below (by repeat (first | exact hB3 | exact Below.refl _ _ | refine balloc ?_ _ | refine Below.drew ?_ | refine below_drewN ?_ _ | refine below_set ?_ (by first | omega | (dsimp only; omega)) _))) x1 x2 hK).mono ?_; rintro e w4 ⟨rfl, hb⟩
  obtain ⟨hc4, hf4⟩ := bcell hb
  have z4 := hb.size
  try simp only [World.size_alloc, World.size_setCell, World.size_drew] at z4
  have s4_0 : w1.heap.size < w4.heap.size := by omega
  have s4_1 : w2.heap.size < w4.heap.size := by omega
  have s4_2 : w3.heap.size < w4.heap.size := by omega
  have hB4 : Below w.heap.size w w4 := below_seq (by repeat (first | exact hB3 | exact Below.refl _ _ | refine balloc ?_ _ | refine Below.drew ?_ | refine below_drewN ?_ _ | refine below_set ?_ (by first | omega | (dsimp only; omega)) _)) hb
  clear hb
  go_wp2_with fail
  refine (verify_e K R (4 * x) (4 * k) c S true t _ (hF.below (by repeat (first | exact hB4 | exact Below.refl _ _ | refine balloc ?_ _ | refine Below.drew ?_ | refine below_drewN ?_ _ | refine below_set ?_ (by first | omega | (dsimp only; omega)) _))) hz s0 s1 (show _ = _ from hK.out.symm) (show _ = _ from hR.out.symm) hc hv).mono ?_; rintro e w5 ⟨rfl, hb⟩
  obtain ⟨hc5, hf5⟩ := bcell hb
  have z5 := hb.size
  try simp only [World.size_alloc, World.size_setCell, World.size_drew] at z5
  have s5_0 : w1.heap.size < w5.heap.size := by omega
  have s5_1 : w2.heap.size < w5.heap.size := by omega
  have s5_2 : w3.heap.size < w5.heap.size := by omega
  have s5_3 : w4.heap.size < w5.heap.size := by omega
  have hB5 : Below w.heap.size w w5 := below_seq (by repeat (first | exact hB4 | exact Below.refl _ _ | refine balloc ?_ _ | refine Below.drew ?_ | refine below_drewN ?_ _ | refine below_set ?_ (by first | omega | (dsimp only; omega)) _)) hb
  clear hb
  go_wp2_with fail
  refine (sign_e x k u R K d T _ (hF.below (by repeat (first | exact hB5 | exact Below.refl _ _ | refine balloc ?_ _ | refine Below.drew ?_ | refine below_drewN ?_ _ | refine below_set ?_ (by first | omega | (dsimp only; omega)) _))) x1 x2 k1 k2 hzu hR hK hd hT).mono ?_; rintro e w6 ⟨rfl, hb⟩
  obtain ⟨hc6, hf6⟩ := bcell hb
  have z6 := hb.size
  try simp only [World.size_alloc, World.size_setCell, World.size_drew] at z6
  have s6_0 : w1.heap.size < w6.heap.size := by omega
  have s6_1 : w2.heap.size < w6.heap.size := by omega
  have s6_2 : w3.heap.size < w6.heap.size := by omega
  have s6_3 : w4.heap.size < w6.heap.size := by omega
  have hB6 : Below w.heap.size w w6 := below_seq (by repeat (first | exact hB5 | exact Below.refl _ _ | refine balloc ?_ _ | refine Below.drew ?_ | refine below_drewN ?_ _ | refine below_set ?_ (by first | omega | (dsimp only; omega)) _)) hb
  clear hb
  go_wp2_with fail
  refine (sealAsk_ok R K t _ (hF.below (by repeat (first | exact hB6 | exact Below.refl _ _ | refine balloc ?_ _ | refine Below.drew ?_ | refine below_drewN ?_ _ | refine below_set ?_ (by first | omega | (dsimp only; omega)) _))) oR oK hz).mono ?_; rintro e w7 ⟨rfl, hb⟩
  rw [hc.out]
  obtain ⟨hc7, hf7⟩ := bcell hb
  have z7 := hb.size
  try simp only [World.size_alloc, World.size_setCell, World.size_drew] at z7
  have s7_0 : w1.heap.size < w7.heap.size := by omega
  have s7_1 : w2.heap.size < w7.heap.size := by omega
  have s7_2 : w3.heap.size < w7.heap.size := by omega
  have s7_3 : w4.heap.size < w7.heap.size := by omega
  have s7_4 : w6.heap.size < w7.heap.size := by omega
  have hB7 : Below w.heap.size w w7 := below_seq (by repeat (first | exact hB6 | exact Below.refl _ _ | refine balloc ?_ _ | refine Below.drew ?_ | refine below_drewN ?_ _ | refine below_set ?_ (by first | omega | (dsimp only; omega)) _)) hb
  clear hb
  go_wp2_with fail
  refine (sealAsk_ok R K u _ (hF.below (by repeat (first | exact hB7 | exact Below.refl _ _ | refine balloc ?_ _ | refine Below.drew ?_ | refine below_drewN ?_ _ | refine below_set ?_ (by first | omega | (dsimp only; omega)) _))) oR oK hzu).mono ?_; rintro e w8 ⟨rfl, hb⟩
  rw [hd.out]
  obtain ⟨hc8, hf8⟩ := bcell hb
  have z8 := hb.size
  try simp only [World.size_alloc, World.size_setCell, World.size_drew] at z8
  have s8_0 : w1.heap.size < w8.heap.size := by omega
  have s8_1 : w2.heap.size < w8.heap.size := by omega
  have s8_2 : w3.heap.size < w8.heap.size := by omega
  have s8_3 : w4.heap.size < w8.heap.size := by omega
  have s8_4 : w6.heap.size < w8.heap.size := by omega
  have hB8 : Below w.heap.size w w8 := below_seq (by repeat (first | exact hB7 | exact Below.refl _ _ | refine balloc ?_ _ | refine Below.drew ?_ | refine below_drewN ?_ _ | refine below_set ?_ (by first | omega | (dsimp only; omega)) _)) hb
  clear hb
  go_wp2_with fail
  refine (refMod_q _ _ (by omega) (by omega)).mono ?_; rintro e w' ⟨rfl, rfl⟩
  rw [hm.out]
  go_wp2
  go_ret
  exact ⟨rfl, (by repeat (first | exact hB8 | exact Below.refl _ _ | refine balloc ?_ _ | refine Below.drew ?_ | refine below_drewN ?_ _ | refine below_set ?_ (by first | omega | (dsimp only; omega)) _))⟩
set_option maxHeartbeats 4000000 in
theorem sh_hi_bad (x k more : Int) (t u : ByteArray) (C0 S0 : Int) (w : World) (hF : FarAt w) (hC0 : Hid (askN ⟨1189, 3667, false⟩ ⟨1189, 3667, false⟩ (⟨#[]⟩ : ByteArray).data.toList = C0)) (hS0 : Hid ((1 + C0 * 1) % 1013 = S0)) (x1 : 1 ≤ x) (x2 : x < 1013) (k1 : 1 ≤ k) (k2 : k < 1013) (hz : t.size ≤ 60) (R K : Sp) (c S : Int) (s0 : 0 ≤ S) (s1 : S < 1013) (hR : Hid (sq (4 * k) = R)) (hK : Hid (sq (4 * x) = K)) (hc : Hid (askN R K t.data.toList = c)) (hS : Hid ((k + c * x) % 1013 = S)) (hv : Hid ((sq (4 * S + -(4 * k + 4 * x * c))).far = true)) (m0 : 0 < more) (m1 : 1013 ≤ more) (E : Int) (hb : Hid (∀ w : World, Calls Tryd.prog 44 #[.int .i64 x, .int .i64 k, .string u] w fun e w' => e = .returned (.tuple #[slV ⟨0, 0, false⟩ 0, .iface 101 (.int .i64 E)]) ∧ Below w.heap.size w w')) : Calls Tryd.prog 12 #[.int .i64 x, .int .i64 k, .string t, .string u, .int .i64 more] w fun e w' => e = .returned (.bool true) ∧ Below w.heap.size w w' := by
  go_enter Tryd.func12, Tryd.ntmps12
  go_wp2_with fail
  refine (sign_e 1 1 ⟨#[]⟩ ⟨1189, 3667, false⟩ ⟨1189, 3667, false⟩ C0 S0 _ (hF.below (by repeat (first | exact Below.refl _ _ | refine balloc ?_ _ | refine Below.drew ?_ | refine below_drewN ?_ _ | refine below_set ?_ (by first | omega | (dsimp only; omega)) _))) (by omega) (by omega) (by omega) (by omega) (Nat.zero_le _) sq_41 sq_41 hC0 hS0).mono ?_; rintro e w1 ⟨rfl, hb⟩
  obtain ⟨hc1, hf1⟩ := bcell hb
  have z1 := hb.size
  try simp only [World.size_alloc, World.size_setCell, World.size_drew] at z1
  have hB1 : Below w.heap.size w w1 := below_seq (by repeat (first | exact Below.refl _ _ | refine balloc ?_ _ | refine Below.drew ?_ | refine below_drewN ?_ _ | refine below_set ?_ (by first | omega | (dsimp only; omega)) _)) hb
  clear hb
  go_wp2_with fail
  refine (key_one _ (hF.below (by repeat (first | exact hB1 | exact Below.refl _ _ | refine balloc ?_ _ | refine Below.drew ?_ | refine below_drewN ?_ _ | refine below_set ?_ (by first | omega | (dsimp only; omega)) _)))).mono ?_; rintro e w2 ⟨rfl, hb⟩
  obtain ⟨hc2, hf2⟩ := bcell hb
  have z2 := hb.size
  try simp only [World.size_alloc, World.size_setCell, World.size_drew] at z2
  have s2_0 : w1.heap.size < w2.heap.size := by omega
  have hB2 : Below w.heap.size w w2 := below_seq (by repeat (first | exact hB1 | exact Below.refl _ _ | refine balloc ?_ _ | refine Below.drew ?_ | refine below_drewN ?_ _ | refine below_set ?_ (by first | omega | (dsimp only; omega)) _)) hb
  clear hb
  go_wp2_with fail
  refine (sign_e x k t R K c S _ (hF.below (by repeat (first | exact hB2 | exact Below.refl _ _ | refine balloc ?_ _ | refine Below.drew ?_ | refine below_drewN ?_ _ | refine below_set ?_ (by first | omega | (dsimp only; omega)) _))) x1 x2 k1 k2 hz hR hK hc hS).mono ?_; rintro e w3 ⟨rfl, hb⟩
  obtain ⟨hc3, hf3⟩ := bcell hb
  have z3 := hb.size
  try simp only [World.size_alloc, World.size_setCell, World.size_drew] at z3
  have s3_0 : w1.heap.size < w3.heap.size := by omega
  have s3_1 : w2.heap.size < w3.heap.size := by omega
  have hB3 : Below w.heap.size w w3 := below_seq (by repeat (first | exact hB2 | exact Below.refl _ _ | refine balloc ?_ _ | refine Below.drew ?_ | refine below_drewN ?_ _ | refine below_set ?_ (by first | omega | (dsimp only; omega)) _)) hb
  clear hb
  go_wp2_with fail
  refine (key_e x K _ (hF.below (by repeat (first | exact hB3 | exact Below.refl _ _ | refine balloc ?_ _ | refine Below.drew ?_ | refine below_drewN ?_ _ | refine below_set ?_ (by first | omega | (dsimp only; omega)) _))) x1 x2 hK).mono ?_; rintro e w4 ⟨rfl, hb⟩
  obtain ⟨hc4, hf4⟩ := bcell hb
  have z4 := hb.size
  try simp only [World.size_alloc, World.size_setCell, World.size_drew] at z4
  have s4_0 : w1.heap.size < w4.heap.size := by omega
  have s4_1 : w2.heap.size < w4.heap.size := by omega
  have s4_2 : w3.heap.size < w4.heap.size := by omega
  have hB4 : Below w.heap.size w w4 := below_seq (by repeat (first | exact hB3 | exact Below.refl _ _ | refine balloc ?_ _ | refine Below.drew ?_ | refine below_drewN ?_ _ | refine below_set ?_ (by first | omega | (dsimp only; omega)) _)) hb
  clear hb
  go_wp2_with fail
  refine (verify_e K R (4 * x) (4 * k) c S true t _ (hF.below (by repeat (first | exact hB4 | exact Below.refl _ _ | refine balloc ?_ _ | refine Below.drew ?_ | refine below_drewN ?_ _ | refine below_set ?_ (by first | omega | (dsimp only; omega)) _))) hz s0 s1 (show _ = _ from hK.out.symm) (show _ = _ from hR.out.symm) hc hv).mono ?_; rintro e w5 ⟨rfl, hb⟩
  obtain ⟨hc5, hf5⟩ := bcell hb
  have z5 := hb.size
  try simp only [World.size_alloc, World.size_setCell, World.size_drew] at z5
  have s5_0 : w1.heap.size < w5.heap.size := by omega
  have s5_1 : w2.heap.size < w5.heap.size := by omega
  have s5_2 : w3.heap.size < w5.heap.size := by omega
  have s5_3 : w4.heap.size < w5.heap.size := by omega
  have hB5 : Below w.heap.size w w5 := below_seq (by repeat (first | exact hB4 | exact Below.refl _ _ | refine balloc ?_ _ | refine Below.drew ?_ | refine below_drewN ?_ _ | refine below_set ?_ (by first | omega | (dsimp only; omega)) _)) hb
  clear hb
  go_wp2_with fail
  refine (hb.out _).mono ?_; rintro e w6 ⟨rfl, hb⟩
  obtain ⟨hc6, hf6⟩ := bcell hb
  have z6 := hb.size
  try simp only [World.size_alloc, World.size_setCell, World.size_drew] at z6
  have s6_0 : w1.heap.size < w6.heap.size := by omega
  have s6_1 : w2.heap.size < w6.heap.size := by omega
  have s6_2 : w3.heap.size < w6.heap.size := by omega
  have s6_3 : w4.heap.size < w6.heap.size := by omega
  have hB6 : Below w.heap.size w w6 := below_seq (by repeat (first | exact hB5 | exact Below.refl _ _ | refine balloc ?_ _ | refine Below.drew ?_ | refine below_drewN ?_ _ | refine below_set ?_ (by first | omega | (dsimp only; omega)) _)) hb
  clear hb
  go_wp2
  go_ret
  exact ⟨rfl, (by repeat (first | exact hB6 | exact Below.refl _ _ | refine balloc ?_ _ | refine Below.drew ?_ | refine below_drewN ?_ _ | refine below_set ?_ (by first | omega | (dsimp only; omega)) _))⟩
set_option maxHeartbeats 4000000 in
theorem sh_hi_ok (x k more : Int) (t u : ByteArray) (C0 S0 : Int) (w : World) (hF : FarAt w) (hC0 : Hid (askN ⟨1189, 3667, false⟩ ⟨1189, 3667, false⟩ (⟨#[]⟩ : ByteArray).data.toList = C0)) (hS0 : Hid ((1 + C0 * 1) % 1013 = S0)) (x1 : 1 ≤ x) (x2 : x < 1013) (k1 : 1 ≤ k) (k2 : k < 1013) (hz : t.size ≤ 60) (R K : Sp) (c S : Int) (s0 : 0 ≤ S) (s1 : S < 1013) (hR : Hid (sq (4 * k) = R)) (hK : Hid (sq (4 * x) = K)) (hc : Hid (askN R K t.data.toList = c)) (hS : Hid ((k + c * x) % 1013 = S)) (hv : Hid ((sq (4 * S + -(4 * k + 4 * x * c))).far = true)) (m0 : 0 < more) (m1 : 1013 ≤ more) (hzu : u.size ≤ 60) (d T : Int) (t0 : 0 ≤ T) (t1 : T < 1013) (c0 : 0 ≤ c) (c1 : c < 1013) (d0 : 0 ≤ d) (d1 : d < 1013) (hd : Hid (askN R K u.data.toList = d)) (hT : Hid ((k + d * x) % 1013 = T)) (oR : Ok R) (oK : Ok K) (p1 : -1100000 ≤ (c - d) * x) (p2 : (c - d) * x ≤ 1100000) (hm : Hid (((c - d) * x - (S - T)) % 1013 = 0)) : Calls Tryd.prog 12 #[.int .i64 x, .int .i64 k, .string t, .string u, .int .i64 more] w fun e w' => e = .returned (.bool true) ∧ Below w.heap.size w w' := by
  go_enter Tryd.func12, Tryd.ntmps12
  go_wp2_with fail
  refine (sign_e 1 1 ⟨#[]⟩ ⟨1189, 3667, false⟩ ⟨1189, 3667, false⟩ C0 S0 _ (hF.below (by repeat (first | exact Below.refl _ _ | refine balloc ?_ _ | refine Below.drew ?_ | refine below_drewN ?_ _ | refine below_set ?_ (by first | omega | (dsimp only; omega)) _))) (by omega) (by omega) (by omega) (by omega) (Nat.zero_le _) sq_41 sq_41 hC0 hS0).mono ?_; rintro e w1 ⟨rfl, hb⟩
  obtain ⟨hc1, hf1⟩ := bcell hb
  have z1 := hb.size
  try simp only [World.size_alloc, World.size_setCell, World.size_drew] at z1
  have hB1 : Below w.heap.size w w1 := below_seq (by repeat (first | exact Below.refl _ _ | refine balloc ?_ _ | refine Below.drew ?_ | refine below_drewN ?_ _ | refine below_set ?_ (by first | omega | (dsimp only; omega)) _)) hb
  clear hb
  go_wp2_with fail
  refine (key_one _ (hF.below (by repeat (first | exact hB1 | exact Below.refl _ _ | refine balloc ?_ _ | refine Below.drew ?_ | refine below_drewN ?_ _ | refine below_set ?_ (by first | omega | (dsimp only; omega)) _)))).mono ?_; rintro e w2 ⟨rfl, hb⟩
  obtain ⟨hc2, hf2⟩ := bcell hb
  have z2 := hb.size
  try simp only [World.size_alloc, World.size_setCell, World.size_drew] at z2
  have s2_0 : w1.heap.size < w2.heap.size := by omega
  have hB2 : Below w.heap.size w w2 := below_seq (by repeat (first | exact hB1 | exact Below.refl _ _ | refine balloc ?_ _ | refine Below.drew ?_ | refine below_drewN ?_ _ | refine below_set ?_ (by first | omega | (dsimp only; omega)) _)) hb
  clear hb
  go_wp2_with fail
  refine (sign_e x k t R K c S _ (hF.below (by repeat (first | exact hB2 | exact Below.refl _ _ | refine balloc ?_ _ | refine Below.drew ?_ | refine below_drewN ?_ _ | refine below_set ?_ (by first | omega | (dsimp only; omega)) _))) x1 x2 k1 k2 hz hR hK hc hS).mono ?_; rintro e w3 ⟨rfl, hb⟩
  obtain ⟨hc3, hf3⟩ := bcell hb
  have z3 := hb.size
  try simp only [World.size_alloc, World.size_setCell, World.size_drew] at z3
  have s3_0 : w1.heap.size < w3.heap.size := by omega
  have s3_1 : w2.heap.size < w3.heap.size := by omega
  have hB3 : Below w.heap.size w w3 := below_seq (by repeat (first | exact hB2 | exact Below.refl _ _ | refine balloc ?_ _ | refine Below.drew ?_ | refine below_drewN ?_ _ | refine below_set ?_ (by first | omega | (dsimp only; omega)) _)) hb
  clear hb
  go_wp2_with fail
  refine (key_e x K _ (hF.below (by repeat (first | exact hB3 | exact Below.refl _ _ | refine balloc ?_ _ | refine Below.drew ?_ | refine below_drewN ?_ _ | refine below_set ?_ (by first | omega | (dsimp only; omega)) _))) x1 x2 hK).mono ?_; rintro e w4 ⟨rfl, hb⟩
  obtain ⟨hc4, hf4⟩ := bcell hb
  have z4 := hb.size
  try simp only [World.size_alloc, World.size_setCell, World.size_drew] at z4
  have s4_0 : w1.heap.size < w4.heap.size := by omega
  have s4_1 : w2.heap.size < w4.heap.size := by omega
  have s4_2 : w3.heap.size < w4.heap.size := by omega
  have hB4 : Below w.heap.size w w4 := below_seq (by repeat (first | exact hB3 | exact Below.refl _ _ | refine balloc ?_ _ | refine Below.drew ?_ | refine below_drewN ?_ _ | refine below_set ?_ (by first | omega | (dsimp only; omega)) _)) hb
  clear hb
  go_wp2_with fail
  refine (verify_e K R (4 * x) (4 * k) c S true t _ (hF.below (by repeat (first | exact hB4 | exact Below.refl _ _ | refine balloc ?_ _ | refine Below.drew ?_ | refine below_drewN ?_ _ | refine below_set ?_ (by first | omega | (dsimp only; omega)) _))) hz s0 s1 (show _ = _ from hK.out.symm) (show _ = _ from hR.out.symm) hc hv).mono ?_; rintro e w5 ⟨rfl, hb⟩
  obtain ⟨hc5, hf5⟩ := bcell hb
  have z5 := hb.size
  try simp only [World.size_alloc, World.size_setCell, World.size_drew] at z5
  have s5_0 : w1.heap.size < w5.heap.size := by omega
  have s5_1 : w2.heap.size < w5.heap.size := by omega
  have s5_2 : w3.heap.size < w5.heap.size := by omega
  have s5_3 : w4.heap.size < w5.heap.size := by omega
  have hB5 : Below w.heap.size w w5 := below_seq (by repeat (first | exact hB4 | exact Below.refl _ _ | refine balloc ?_ _ | refine Below.drew ?_ | refine below_drewN ?_ _ | refine below_set ?_ (by first | omega | (dsimp only; omega)) _)) hb
  clear hb
  go_wp2_with fail
  refine (sign_e x k u R K d T _ (hF.below (by repeat (first | exact hB5 | exact Below.refl _ _ | refine balloc ?_ _ | refine Below.drew ?_ | refine below_drewN ?_ _ | refine below_set ?_ (by first | omega | (dsimp only; omega)) _))) x1 x2 k1 k2 hzu hR hK hd hT).mono ?_; rintro e w6 ⟨rfl, hb⟩
  obtain ⟨hc6, hf6⟩ := bcell hb
  have z6 := hb.size
  try simp only [World.size_alloc, World.size_setCell, World.size_drew] at z6
  have s6_0 : w1.heap.size < w6.heap.size := by omega
  have s6_1 : w2.heap.size < w6.heap.size := by omega
  have s6_2 : w3.heap.size < w6.heap.size := by omega
  have s6_3 : w4.heap.size < w6.heap.size := by omega
  have hB6 : Below w.heap.size w w6 := below_seq (by repeat (first | exact hB5 | exact Below.refl _ _ | refine balloc ?_ _ | refine Below.drew ?_ | refine below_drewN ?_ _ | refine below_set ?_ (by first | omega | (dsimp only; omega)) _)) hb
  clear hb
  go_wp2_with fail
  refine (sealAsk_ok R K t _ (hF.below (by repeat (first | exact hB6 | exact Below.refl _ _ | refine balloc ?_ _ | refine Below.drew ?_ | refine below_drewN ?_ _ | refine below_set ?_ (by first | omega | (dsimp only; omega)) _))) oR oK hz).mono ?_; rintro e w7 ⟨rfl, hb⟩
  rw [hc.out]
  obtain ⟨hc7, hf7⟩ := bcell hb
  have z7 := hb.size
  try simp only [World.size_alloc, World.size_setCell, World.size_drew] at z7
  have s7_0 : w1.heap.size < w7.heap.size := by omega
  have s7_1 : w2.heap.size < w7.heap.size := by omega
  have s7_2 : w3.heap.size < w7.heap.size := by omega
  have s7_3 : w4.heap.size < w7.heap.size := by omega
  have s7_4 : w6.heap.size < w7.heap.size := by omega
  have hB7 : Below w.heap.size w w7 := below_seq (by repeat (first | exact hB6 | exact Below.refl _ _ | refine balloc ?_ _ | refine Below.drew ?_ | refine below_drewN ?_ _ | refine below_set ?_ (by first | omega | (dsimp only; omega)) _)) hb
  clear hb
  go_wp2_with fail
  refine (sealAsk_ok R K u _ (hF.below (by repeat (first | exact hB7 | exact Below.refl _ _ | refine balloc ?_ _ | refine Below.drew ?_ | refine below_drewN ?_ _ | refine below_set ?_ (by first | omega | (dsimp only; omega)) _))) oR oK hzu).mono ?_; rintro e w8 ⟨rfl, hb⟩
  rw [hd.out]
  obtain ⟨hc8, hf8⟩ := bcell hb
  have z8 := hb.size
  try simp only [World.size_alloc, World.size_setCell, World.size_drew] at z8
  have s8_0 : w1.heap.size < w8.heap.size := by omega
  have s8_1 : w2.heap.size < w8.heap.size := by omega
  have s8_2 : w3.heap.size < w8.heap.size := by omega
  have s8_3 : w4.heap.size < w8.heap.size := by omega
  have s8_4 : w6.heap.size < w8.heap.size := by omega
  have hB8 : Below w.heap.size w w8 := below_seq (by repeat (first | exact hB7 | exact Below.refl _ _ | refine balloc ?_ _ | refine Below.drew ?_ | refine below_drewN ?_ _ | refine below_set ?_ (by first | omega | (dsimp only; omega)) _)) hb
  clear hb
  go_wp2_with fail
  refine (refMod_q _ _ (by omega) (by omega)).mono ?_; rintro e w' ⟨rfl, rfl⟩
  rw [hm.out]
  go_wp2
  go_ret
  exact ⟨rfl, (by repeat (first | exact hB8 | exact Below.refl _ _ | refine balloc ?_ _ | refine Below.drew ?_ | refine below_drewN ?_ _ | refine below_set ?_ (by first | omega | (dsimp only; omega)) _))⟩
set_option maxHeartbeats 4000000 in
theorem sh_in_bad (x k more : Int) (t u : ByteArray) (C0 S0 : Int) (w : World) (hF : FarAt w) (hC0 : Hid (askN ⟨1189, 3667, false⟩ ⟨1189, 3667, false⟩ (⟨#[]⟩ : ByteArray).data.toList = C0)) (hS0 : Hid ((1 + C0 * 1) % 1013 = S0)) (x1 : 1 ≤ x) (x2 : x < 1013) (k1 : 1 ≤ k) (k2 : k < 1013) (hz : t.size ≤ 60) (R K : Sp) (c S : Int) (s0 : 0 ≤ S) (s1 : S < 1013) (hR : Hid (sq (4 * k) = R)) (hK : Hid (sq (4 * x) = K)) (hc : Hid (askN R K t.data.toList = c)) (hS : Hid ((k + c * x) % 1013 = S)) (hv : Hid ((sq (4 * S + -(4 * k + 4 * x * c))).far = true)) (m0 : 0 < more) (m1 : more < 1013) (hv2 : Hid ((sq (4 * ((S + more) % 1013) + -(4 * k + 4 * x * c))).far = false)) (E : Int) (hb : Hid (∀ w : World, Calls Tryd.prog 44 #[.int .i64 x, .int .i64 k, .string u] w fun e w' => e = .returned (.tuple #[slV ⟨0, 0, false⟩ 0, .iface 101 (.int .i64 E)]) ∧ Below w.heap.size w w')) : Calls Tryd.prog 12 #[.int .i64 x, .int .i64 k, .string t, .string u, .int .i64 more] w fun e w' => e = .returned (.bool true) ∧ Below w.heap.size w w' := by
  go_enter Tryd.func12, Tryd.ntmps12
  go_wp2_with fail
  refine (sign_e 1 1 ⟨#[]⟩ ⟨1189, 3667, false⟩ ⟨1189, 3667, false⟩ C0 S0 _ (hF.below (by repeat (first | exact Below.refl _ _ | refine balloc ?_ _ | refine Below.drew ?_ | refine below_drewN ?_ _ | refine below_set ?_ (by first | omega | (dsimp only; omega)) _))) (by omega) (by omega) (by omega) (by omega) (Nat.zero_le _) sq_41 sq_41 hC0 hS0).mono ?_; rintro e w1 ⟨rfl, hb⟩
  obtain ⟨hc1, hf1⟩ := bcell hb
  have z1 := hb.size
  try simp only [World.size_alloc, World.size_setCell, World.size_drew] at z1
  have hB1 : Below w.heap.size w w1 := below_seq (by repeat (first | exact Below.refl _ _ | refine balloc ?_ _ | refine Below.drew ?_ | refine below_drewN ?_ _ | refine below_set ?_ (by first | omega | (dsimp only; omega)) _)) hb
  clear hb
  go_wp2_with fail
  refine (key_one _ (hF.below (by repeat (first | exact hB1 | exact Below.refl _ _ | refine balloc ?_ _ | refine Below.drew ?_ | refine below_drewN ?_ _ | refine below_set ?_ (by first | omega | (dsimp only; omega)) _)))).mono ?_; rintro e w2 ⟨rfl, hb⟩
  obtain ⟨hc2, hf2⟩ := bcell hb
  have z2 := hb.size
  try simp only [World.size_alloc, World.size_setCell, World.size_drew] at z2
  have s2_0 : w1.heap.size < w2.heap.size := by omega
  have hB2 : Below w.heap.size w w2 := below_seq (by repeat (first | exact hB1 | exact Below.refl _ _ | refine balloc ?_ _ | refine Below.drew ?_ | refine below_drewN ?_ _ | refine below_set ?_ (by first | omega | (dsimp only; omega)) _)) hb
  clear hb
  go_wp2_with fail
  refine (sign_e x k t R K c S _ (hF.below (by repeat (first | exact hB2 | exact Below.refl _ _ | refine balloc ?_ _ | refine Below.drew ?_ | refine below_drewN ?_ _ | refine below_set ?_ (by first | omega | (dsimp only; omega)) _))) x1 x2 k1 k2 hz hR hK hc hS).mono ?_; rintro e w3 ⟨rfl, hb⟩
  obtain ⟨hc3, hf3⟩ := bcell hb
  have z3 := hb.size
  try simp only [World.size_alloc, World.size_setCell, World.size_drew] at z3
  have s3_0 : w1.heap.size < w3.heap.size := by omega
  have s3_1 : w2.heap.size < w3.heap.size := by omega
  have hB3 : Below w.heap.size w w3 := below_seq (by repeat (first | exact hB2 | exact Below.refl _ _ | refine balloc ?_ _ | refine Below.drew ?_ | refine below_drewN ?_ _ | refine below_set ?_ (by first | omega | (dsimp only; omega)) _)) hb
  clear hb
  go_wp2_with fail
  refine (key_e x K _ (hF.below (by repeat (first | exact hB3 | exact Below.refl _ _ | refine balloc ?_ _ | refine Below.drew ?_ | refine below_drewN ?_ _ | refine below_set ?_ (by first | omega | (dsimp only; omega)) _))) x1 x2 hK).mono ?_; rintro e w4 ⟨rfl, hb⟩
  obtain ⟨hc4, hf4⟩ := bcell hb
  have z4 := hb.size
  try simp only [World.size_alloc, World.size_setCell, World.size_drew] at z4
  have s4_0 : w1.heap.size < w4.heap.size := by omega
  have s4_1 : w2.heap.size < w4.heap.size := by omega
  have s4_2 : w3.heap.size < w4.heap.size := by omega
  have hB4 : Below w.heap.size w w4 := below_seq (by repeat (first | exact hB3 | exact Below.refl _ _ | refine balloc ?_ _ | refine Below.drew ?_ | refine below_drewN ?_ _ | refine below_set ?_ (by first | omega | (dsimp only; omega)) _)) hb
  clear hb
  go_wp2_with fail
  refine (verify_e K R (4 * x) (4 * k) c S true t _ (hF.below (by repeat (first | exact hB4 | exact Below.refl _ _ | refine balloc ?_ _ | refine Below.drew ?_ | refine below_drewN ?_ _ | refine below_set ?_ (by first | omega | (dsimp only; omega)) _))) hz s0 s1 (show _ = _ from hK.out.symm) (show _ = _ from hR.out.symm) hc hv).mono ?_; rintro e w5 ⟨rfl, hb⟩
  obtain ⟨hc5, hf5⟩ := bcell hb
  have z5 := hb.size
  try simp only [World.size_alloc, World.size_setCell, World.size_drew] at z5
  have s5_0 : w1.heap.size < w5.heap.size := by omega
  have s5_1 : w2.heap.size < w5.heap.size := by omega
  have s5_2 : w3.heap.size < w5.heap.size := by omega
  have s5_3 : w4.heap.size < w5.heap.size := by omega
  have hB5 : Below w.heap.size w w5 := below_seq (by repeat (first | exact hB4 | exact Below.refl _ _ | refine balloc ?_ _ | refine Below.drew ?_ | refine below_drewN ?_ _ | refine below_set ?_ (by first | omega | (dsimp only; omega)) _)) hb
  clear hb
  go_wp2_with fail
  refine (verify_e K R (4 * x) (4 * k) c _ false t _ (hF.below (by repeat (first | exact hB5 | exact Below.refl _ _ | refine balloc ?_ _ | refine Below.drew ?_ | refine below_drewN ?_ _ | refine below_set ?_ (by first | omega | (dsimp only; omega)) _))) hz (by omega) (by omega) (show _ = _ from hK.out.symm) (show _ = _ from hR.out.symm) hc hv2).mono ?_; rintro e w6 ⟨rfl, hb⟩
  obtain ⟨hc6, hf6⟩ := bcell hb
  have z6 := hb.size
  try simp only [World.size_alloc, World.size_setCell, World.size_drew] at z6
  have s6_0 : w1.heap.size < w6.heap.size := by omega
  have s6_1 : w2.heap.size < w6.heap.size := by omega
  have s6_2 : w3.heap.size < w6.heap.size := by omega
  have s6_3 : w4.heap.size < w6.heap.size := by omega
  have s6_4 : w5.heap.size < w6.heap.size := by omega
  have hB6 : Below w.heap.size w w6 := below_seq (by repeat (first | exact hB5 | exact Below.refl _ _ | refine balloc ?_ _ | refine Below.drew ?_ | refine below_drewN ?_ _ | refine below_set ?_ (by first | omega | (dsimp only; omega)) _)) hb
  clear hb
  go_wp2_with fail
  refine (hb.out _).mono ?_; rintro e w7 ⟨rfl, hb⟩
  obtain ⟨hc7, hf7⟩ := bcell hb
  have z7 := hb.size
  try simp only [World.size_alloc, World.size_setCell, World.size_drew] at z7
  have s7_0 : w1.heap.size < w7.heap.size := by omega
  have s7_1 : w2.heap.size < w7.heap.size := by omega
  have s7_2 : w3.heap.size < w7.heap.size := by omega
  have s7_3 : w4.heap.size < w7.heap.size := by omega
  have s7_4 : w5.heap.size < w7.heap.size := by omega
  have hB7 : Below w.heap.size w w7 := below_seq (by repeat (first | exact hB6 | exact Below.refl _ _ | refine balloc ?_ _ | refine Below.drew ?_ | refine below_drewN ?_ _ | refine below_set ?_ (by first | omega | (dsimp only; omega)) _)) hb
  clear hb
  go_wp2
  go_ret
  exact ⟨rfl, (by repeat (first | exact hB7 | exact Below.refl _ _ | refine balloc ?_ _ | refine Below.drew ?_ | refine below_drewN ?_ _ | refine below_set ?_ (by first | omega | (dsimp only; omega)) _))⟩
set_option maxHeartbeats 4000000 in
theorem sh_in_ok (x k more : Int) (t u : ByteArray) (C0 S0 : Int) (w : World) (hF : FarAt w) (hC0 : Hid (askN ⟨1189, 3667, false⟩ ⟨1189, 3667, false⟩ (⟨#[]⟩ : ByteArray).data.toList = C0)) (hS0 : Hid ((1 + C0 * 1) % 1013 = S0)) (x1 : 1 ≤ x) (x2 : x < 1013) (k1 : 1 ≤ k) (k2 : k < 1013) (hz : t.size ≤ 60) (R K : Sp) (c S : Int) (s0 : 0 ≤ S) (s1 : S < 1013) (hR : Hid (sq (4 * k) = R)) (hK : Hid (sq (4 * x) = K)) (hc : Hid (askN R K t.data.toList = c)) (hS : Hid ((k + c * x) % 1013 = S)) (hv : Hid ((sq (4 * S + -(4 * k + 4 * x * c))).far = true)) (m0 : 0 < more) (m1 : more < 1013) (hv2 : Hid ((sq (4 * ((S + more) % 1013) + -(4 * k + 4 * x * c))).far = false)) (hzu : u.size ≤ 60) (d T : Int) (t0 : 0 ≤ T) (t1 : T < 1013) (c0 : 0 ≤ c) (c1 : c < 1013) (d0 : 0 ≤ d) (d1 : d < 1013) (hd : Hid (askN R K u.data.toList = d)) (hT : Hid ((k + d * x) % 1013 = T)) (oR : Ok R) (oK : Ok K) (p1 : -1100000 ≤ (c - d) * x) (p2 : (c - d) * x ≤ 1100000) (hm : Hid (((c - d) * x - (S - T)) % 1013 = 0)) : Calls Tryd.prog 12 #[.int .i64 x, .int .i64 k, .string t, .string u, .int .i64 more] w fun e w' => e = .returned (.bool true) ∧ Below w.heap.size w w' := by
  go_enter Tryd.func12, Tryd.ntmps12
  go_wp2_with fail
  refine (sign_e 1 1 ⟨#[]⟩ ⟨1189, 3667, false⟩ ⟨1189, 3667, false⟩ C0 S0 _ (hF.below (by repeat (first | exact Below.refl _ _ | refine balloc ?_ _ | refine Below.drew ?_ | refine below_drewN ?_ _ | refine below_set ?_ (by first | omega | (dsimp only; omega)) _))) (by omega) (by omega) (by omega) (by omega) (Nat.zero_le _) sq_41 sq_41 hC0 hS0).mono ?_; rintro e w1 ⟨rfl, hb⟩
  obtain ⟨hc1, hf1⟩ := bcell hb
  have z1 := hb.size
  try simp only [World.size_alloc, World.size_setCell, World.size_drew] at z1
  have hB1 : Below w.heap.size w w1 := below_seq (by repeat (first | exact Below.refl _ _ | refine balloc ?_ _ | refine Below.drew ?_ | refine below_drewN ?_ _ | refine below_set ?_ (by first | omega | (dsimp only; omega)) _)) hb
  clear hb
  go_wp2_with fail
  refine (key_one _ (hF.below (by repeat (first | exact hB1 | exact Below.refl _ _ | refine balloc ?_ _ | refine Below.drew ?_ | refine below_drewN ?_ _ | refine below_set ?_ (by first | omega | (dsimp only; omega)) _)))).mono ?_; rintro e w2 ⟨rfl, hb⟩
  obtain ⟨hc2, hf2⟩ := bcell hb
  have z2 := hb.size
  try simp only [World.size_alloc, World.size_setCell, World.size_drew] at z2
  have s2_0 : w1.heap.size < w2.heap.size := by omega
  have hB2 : Below w.heap.size w w2 := below_seq (by repeat (first | exact hB1 | exact Below.refl _ _ | refine balloc ?_ _ | refine Below.drew ?_ | refine below_drewN ?_ _ | refine below_set ?_ (by first | omega | (dsimp only; omega)) _)) hb
  clear hb
  go_wp2_with fail
  refine (sign_e x k t R K c S _ (hF.below (by repeat (first | exact hB2 | exact Below.refl _ _ | refine balloc ?_ _ | refine Below.drew ?_ | refine below_drewN ?_ _ | refine below_set ?_ (by first | omega | (dsimp only; omega)) _))) x1 x2 k1 k2 hz hR hK hc hS).mono ?_; rintro e w3 ⟨rfl, hb⟩
  obtain ⟨hc3, hf3⟩ := bcell hb
  have z3 := hb.size
  try simp only [World.size_alloc, World.size_setCell, World.size_drew] at z3
  have s3_0 : w1.heap.size < w3.heap.size := by omega
  have s3_1 : w2.heap.size < w3.heap.size := by omega
  have hB3 : Below w.heap.size w w3 := below_seq (by repeat (first | exact hB2 | exact Below.refl _ _ | refine balloc ?_ _ | refine Below.drew ?_ | refine below_drewN ?_ _ | refine below_set ?_ (by first | omega | (dsimp only; omega)) _)) hb
  clear hb
  go_wp2_with fail
  refine (key_e x K _ (hF.below (by repeat (first | exact hB3 | exact Below.refl _ _ | refine balloc ?_ _ | refine Below.drew ?_ | refine below_drewN ?_ _ | refine below_set ?_ (by first | omega | (dsimp only; omega)) _))) x1 x2 hK).mono ?_; rintro e w4 ⟨rfl, hb⟩
  obtain ⟨hc4, hf4⟩ := bcell hb
  have z4 := hb.size
  try simp only [World.size_alloc, World.size_setCell, World.size_drew] at z4
  have s4_0 : w1.heap.size < w4.heap.size := by omega
  have s4_1 : w2.heap.size < w4.heap.size := by omega
  have s4_2 : w3.heap.size < w4.heap.size := by omega
  have hB4 : Below w.heap.size w w4 := below_seq (by repeat (first | exact hB3 | exact Below.refl _ _ | refine balloc ?_ _ | refine Below.drew ?_ | refine below_drewN ?_ _ | refine below_set ?_ (by first | omega | (dsimp only; omega)) _)) hb
  clear hb
  go_wp2_with fail
  refine (verify_e K R (4 * x) (4 * k) c S true t _ (hF.below (by repeat (first | exact hB4 | exact Below.refl _ _ | refine balloc ?_ _ | refine Below.drew ?_ | refine below_drewN ?_ _ | refine below_set ?_ (by first | omega | (dsimp only; omega)) _))) hz s0 s1 (show _ = _ from hK.out.symm) (show _ = _ from hR.out.symm) hc hv).mono ?_; rintro e w5 ⟨rfl, hb⟩
  obtain ⟨hc5, hf5⟩ := bcell hb
  have z5 := hb.size
  try simp only [World.size_alloc, World.size_setCell, World.size_drew] at z5
  have s5_0 : w1.heap.size < w5.heap.size := by omega
  have s5_1 : w2.heap.size < w5.heap.size := by omega
  have s5_2 : w3.heap.size < w5.heap.size := by omega
  have s5_3 : w4.heap.size < w5.heap.size := by omega
  have hB5 : Below w.heap.size w w5 := below_seq (by repeat (first | exact hB4 | exact Below.refl _ _ | refine balloc ?_ _ | refine Below.drew ?_ | refine below_drewN ?_ _ | refine below_set ?_ (by first | omega | (dsimp only; omega)) _)) hb
  clear hb
  go_wp2_with fail
  refine (verify_e K R (4 * x) (4 * k) c _ false t _ (hF.below (by repeat (first | exact hB5 | exact Below.refl _ _ | refine balloc ?_ _ | refine Below.drew ?_ | refine below_drewN ?_ _ | refine below_set ?_ (by first | omega | (dsimp only; omega)) _))) hz (by omega) (by omega) (show _ = _ from hK.out.symm) (show _ = _ from hR.out.symm) hc hv2).mono ?_; rintro e w6 ⟨rfl, hb⟩
  obtain ⟨hc6, hf6⟩ := bcell hb
  have z6 := hb.size
  try simp only [World.size_alloc, World.size_setCell, World.size_drew] at z6
  have s6_0 : w1.heap.size < w6.heap.size := by omega
  have s6_1 : w2.heap.size < w6.heap.size := by omega
  have s6_2 : w3.heap.size < w6.heap.size := by omega
  have s6_3 : w4.heap.size < w6.heap.size := by omega
  have s6_4 : w5.heap.size < w6.heap.size := by omega
  have hB6 : Below w.heap.size w w6 := below_seq (by repeat (first | exact hB5 | exact Below.refl _ _ | refine balloc ?_ _ | refine Below.drew ?_ | refine below_drewN ?_ _ | refine below_set ?_ (by first | omega | (dsimp only; omega)) _)) hb
  clear hb
  go_wp2_with fail
  refine (sign_e x k u R K d T _ (hF.below (by repeat (first | exact hB6 | exact Below.refl _ _ | refine balloc ?_ _ | refine Below.drew ?_ | refine below_drewN ?_ _ | refine below_set ?_ (by first | omega | (dsimp only; omega)) _))) x1 x2 k1 k2 hzu hR hK hd hT).mono ?_; rintro e w7 ⟨rfl, hb⟩
  obtain ⟨hc7, hf7⟩ := bcell hb
  have z7 := hb.size
  try simp only [World.size_alloc, World.size_setCell, World.size_drew] at z7
  have s7_0 : w1.heap.size < w7.heap.size := by omega
  have s7_1 : w2.heap.size < w7.heap.size := by omega
  have s7_2 : w3.heap.size < w7.heap.size := by omega
  have s7_3 : w4.heap.size < w7.heap.size := by omega
  have s7_4 : w5.heap.size < w7.heap.size := by omega
  have hB7 : Below w.heap.size w w7 := below_seq (by repeat (first | exact hB6 | exact Below.refl _ _ | refine balloc ?_ _ | refine Below.drew ?_ | refine below_drewN ?_ _ | refine below_set ?_ (by first | omega | (dsimp only; omega)) _)) hb
  clear hb
  go_wp2_with fail
  refine (sealAsk_ok R K t _ (hF.below (by repeat (first | exact hB7 | exact Below.refl _ _ | refine balloc ?_ _ | refine Below.drew ?_ | refine below_drewN ?_ _ | refine below_set ?_ (by first | omega | (dsimp only; omega)) _))) oR oK hz).mono ?_; rintro e w8 ⟨rfl, hb⟩
  rw [hc.out]
  obtain ⟨hc8, hf8⟩ := bcell hb
  have z8 := hb.size
  try simp only [World.size_alloc, World.size_setCell, World.size_drew] at z8
  have s8_0 : w1.heap.size < w8.heap.size := by omega
  have s8_1 : w2.heap.size < w8.heap.size := by omega
  have s8_2 : w3.heap.size < w8.heap.size := by omega
  have s8_3 : w4.heap.size < w8.heap.size := by omega
  have s8_4 : w5.heap.size < w8.heap.size := by omega
  have s8_5 : w7.heap.size < w8.heap.size := by omega
  have hB8 : Below w.heap.size w w8 := below_seq (by repeat (first | exact hB7 | exact Below.refl _ _ | refine balloc ?_ _ | refine Below.drew ?_ | refine below_drewN ?_ _ | refine below_set ?_ (by first | omega | (dsimp only; omega)) _)) hb
  clear hb
  go_wp2_with fail
  refine (sealAsk_ok R K u _ (hF.below (by repeat (first | exact hB8 | exact Below.refl _ _ | refine balloc ?_ _ | refine Below.drew ?_ | refine below_drewN ?_ _ | refine below_set ?_ (by first | omega | (dsimp only; omega)) _))) oR oK hzu).mono ?_; rintro e w9 ⟨rfl, hb⟩
  rw [hd.out]
  obtain ⟨hc9, hf9⟩ := bcell hb
  have z9 := hb.size
  try simp only [World.size_alloc, World.size_setCell, World.size_drew] at z9
  have s9_0 : w1.heap.size < w9.heap.size := by omega
  have s9_1 : w2.heap.size < w9.heap.size := by omega
  have s9_2 : w3.heap.size < w9.heap.size := by omega
  have s9_3 : w4.heap.size < w9.heap.size := by omega
  have s9_4 : w5.heap.size < w9.heap.size := by omega
  have s9_5 : w7.heap.size < w9.heap.size := by omega
  have hB9 : Below w.heap.size w w9 := below_seq (by repeat (first | exact hB8 | exact Below.refl _ _ | refine balloc ?_ _ | refine Below.drew ?_ | refine below_drewN ?_ _ | refine below_set ?_ (by first | omega | (dsimp only; omega)) _)) hb
  clear hb
  go_wp2_with fail
  refine (refMod_q _ _ (by omega) (by omega)).mono ?_; rintro e w' ⟨rfl, rfl⟩
  rw [hm.out]
  go_wp2
  go_ret
  exact ⟨rfl, (by repeat (first | exact hB9 | exact Below.refl _ _ | refine balloc ?_ _ | refine Below.drew ?_ | refine below_drewN ?_ _ | refine below_set ?_ (by first | omega | (dsimp only; omega)) _))⟩
theorem seal_right {x k c S : Int} (h : (k + c * x) % 1013 = S) : (4 * S + -(4 * k + 4 * x * c)) % 4052 = 0 := by
  rw [Int.mul_assoc, Int.mul_comm x c]
  generalize c * x = p at *
  omega
theorem seal_wrong {x k c S more : Int} (h : (k + c * x) % 1013 = S) (m0 : 0 < more) (m1 : more < 1013) : (4 * ((S + more) % 1013) + -(4 * k + 4 * x * c)) % 4052 ≠ 0 := by
  rw [Int.mul_assoc, Int.mul_comm x c]
  generalize c * x = p at *
  omega
theorem seal_tell {x k c d : Int} : ((c - d) * x - ((k + c * x) % 1013 - (k + d * x) % 1013)) % 1013 = 0 := by
  rw [Int.sub_mul]
  generalize c * x = p
  generalize d * x = q
  omega
theorem mul_qd {c d x : Int} (c0 : 0 ≤ c) (c1 : c < 1013) (d0 : 0 ≤ d) (d1 : d < 1013) (x0 : 1 ≤ x) (x1 : x < 1013) : -1100000 ≤ (c - d) * x ∧ (c - d) * x ≤ 1100000 := by
  have h1 := mul_q c0 c1 x0 x1
  have h2 := mul_q d0 d1 x0 x1
  rw [Int.sub_mul]; omega
theorem sealHolds_law (x : Int) (hx : (Lit.int .i64 x).wf = true) (k : Int) (hk : (Lit.int .i64 k).wf = true) (t : ByteArray) (ht : t.size ≤ 140737488351232) (u : ByteArray) (hu : u.size ≤ 140737488351232) (more : Int) (hm : (Lit.int .i64 more).wf = true) (w : World) (hF : FarAt w) : Calls Tryd.prog 12 #[.int .i64 x, .int .i64 k, .string t, .string u, .int .i64 more] w fun e w' => e = .returned (.bool true) ∧ Below w.heap.size w w' := by
  by_cases h : 1 ≤ x ∧ x < 1013 ∧ 1 ≤ k ∧ k < 1013 ∧ t.size ≤ 60
  case neg =>
    obtain ⟨E, hE⟩ := sign_n x k t ht h
    exact sh_bad x k more t u _ _ w hF rfl rfl E hE
  obtain ⟨x1, x2, k1, k2, hz⟩ := h
  have hr : ∀ c S, (k + c * x) % 1013 = S → (sq (4 * S + -(4 * k + 4 * x * c))).far = true := fun c S e => sq_far.mpr (seal_right e)
  have hb := askN_bd (sq (4 * k)) (sq (4 * x)) t.data.toList
  by_cases hzu : u.size ≤ 60
  · have hbu := askN_bd (sq (4 * k)) (sq (4 * x)) u.data.toList
    have hp := mul_qd hb.1 hb.2 hbu.1 hbu.2 x1 x2
    by_cases m0 : 0 < more
    · by_cases m1 : more < 1013
      · exact sh_in_ok x k more t u _ _ w hF rfl rfl x1 x2 k1 k2 hz _ _ _ _ (Int.emod_nonneg _ (by decide)) (Int.emod_lt_of_pos _ (by decide)) rfl rfl rfl rfl (hr _ _ rfl) m0 m1 (sq_far_not (seal_wrong rfl m0 m1)) hzu _ _ (Int.emod_nonneg _ (by decide)) (Int.emod_lt_of_pos _ (by decide)) hb.1 hb.2 hbu.1 hbu.2 rfl rfl (sq_ok _) (sq_ok _) hp.1 hp.2 seal_tell
      · exact sh_hi_ok x k more t u _ _ w hF rfl rfl x1 x2 k1 k2 hz _ _ _ _ (Int.emod_nonneg _ (by decide)) (Int.emod_lt_of_pos _ (by decide)) rfl rfl rfl rfl (hr _ _ rfl) m0 (by omega) hzu _ _ (Int.emod_nonneg _ (by decide)) (Int.emod_lt_of_pos _ (by decide)) hb.1 hb.2 hbu.1 hbu.2 rfl rfl (sq_ok _) (sq_ok _) hp.1 hp.2 seal_tell
    · exact sh_lo_ok x k more t u _ _ w hF rfl rfl x1 x2 k1 k2 hz _ _ _ _ (Int.emod_nonneg _ (by decide)) (Int.emod_lt_of_pos _ (by decide)) rfl rfl rfl rfl (hr _ _ rfl) (by omega) hzu _ _ (Int.emod_nonneg _ (by decide)) (Int.emod_lt_of_pos _ (by decide)) hb.1 hb.2 hbu.1 hbu.2 rfl rfl (sq_ok _) (sq_ok _) hp.1 hp.2 seal_tell
  · obtain ⟨E, hE⟩ := sign_n x k u hu (fun h => hzu h.2.2.2.2)
    by_cases m0 : 0 < more
    · by_cases m1 : more < 1013
      · exact sh_in_bad x k more t u _ _ w hF rfl rfl x1 x2 k1 k2 hz _ _ _ _ (Int.emod_nonneg _ (by decide)) (Int.emod_lt_of_pos _ (by decide)) rfl rfl rfl rfl (hr _ _ rfl) m0 m1 (sq_far_not (seal_wrong rfl m0 m1)) E hE
      · exact sh_hi_bad x k more t u _ _ w hF rfl rfl x1 x2 k1 k2 hz _ _ _ _ (Int.emod_nonneg _ (by decide)) (Int.emod_lt_of_pos _ (by decide)) rfl rfl rfl rfl (hr _ _ rfl) m0 (by omega) E hE
    · exact sh_lo_bad x k more t u _ _ w hF rfl rfl x1 x2 k1 k2 hz _ _ _ _ (Int.emod_nonneg _ (by decide)) (Int.emod_lt_of_pos _ (by decide)) rfl rfl rfl rfl (hr _ _ rfl) (by omega) E hE
end Go.Proofs.YtlppjihejgcplaaDoor
