/- The law TopTriple, walked: three of them agree. (Printed by gen_tt.py.) -/
import Derived.Test.YtlppjihejgcplaaDoorPz
namespace Go.Proofs.YtlppjihejgcplaaDoor
open Go.RowKit
set_option maxRecDepth 100000
set_option linter.unusedVariables false
set_option linter.unusedSimpArgs false
set_option maxHeartbeats 4000000 in
theorem tt_x (x y z : Int) (w : World) (hF : FarAt w) (hO : OneAt w) (V1 V2 : Sp) (E1 E2 : Value) (h1 : Hid (KeyIs y V1 E1)) (h2 : Hid (KeyIs z V2 E2)) (h : ¬ (1 ≤ x ∧ x < 1013)) : Calls Tryd.prog 9 #[.int .i64 x, .int .i64 y, .int .i64 z] w fun e w' => e = .returned (.bool true) ∧ Below w.heap.size w w' := by
  go_enter Tryd.func9, Tryd.ntmps9
  go_wp2_with fail
  refine (one_c _ (hF.below (by repeat (first | exact Below.refl _ _ | refine balloc ?_ _ | refine Below.drew ?_ | refine below_drewN ?_ _ | refine below_set ?_ (by first | omega | (dsimp only; omega)) _)))).mono ?_; rintro e w1 ⟨rfl, hb⟩
  obtain ⟨hc1, hf1⟩ := bcell hb
  have z1 := hb.size
  try simp only [World.size_alloc, World.size_setCell, World.size_drew] at z1
  have hB1 : Below w.heap.size w w1 := below_seq (by repeat (first | exact Below.refl _ _ | refine balloc ?_ _ | refine Below.drew ?_ | refine below_drewN ?_ _ | refine below_set ?_ (by first | omega | (dsimp only; omega)) _)) hb
  clear hb
  go_wp2_with fail
  refine (key_n x _ h).mono ?_; rintro e w2 ⟨rfl, hb⟩
  obtain ⟨hc2, hf2⟩ := bcell hb
  have z2 := hb.size
  try simp only [World.size_alloc, World.size_setCell, World.size_drew] at z2
  have hB2 : Below w.heap.size w w2 := below_seq (by repeat (first | exact hB1 | exact Below.refl _ _ | refine balloc ?_ _ | refine Below.drew ?_ | refine below_drewN ?_ _ | refine below_set ?_ (by first | omega | (dsimp only; omega)) _)) hb
  clear hb
  go_wp2_with fail
  refine (h1.out _ (hF.below (by repeat (first | exact hB2 | exact Below.refl _ _ | refine balloc ?_ _ | refine Below.drew ?_ | refine below_drewN ?_ _ | refine below_set ?_ (by first | omega | (dsimp only; omega)) _)))).mono ?_; rintro e w3 ⟨rfl, hb⟩
  obtain ⟨hc3, hf3⟩ := bcell hb
  have z3 := hb.size
  try simp only [World.size_alloc, World.size_setCell, World.size_drew] at z3
  have s3_0 : w2.heap.size < w3.heap.size := by omega
  have hB3 : Below w.heap.size w w3 := below_seq (by repeat (first | exact hB2 | exact Below.refl _ _ | refine balloc ?_ _ | refine Below.drew ?_ | refine below_drewN ?_ _ | refine below_set ?_ (by first | omega | (dsimp only; omega)) _)) hb
  clear hb
  go_wp2_with fail
  refine (h2.out _ (hF.below (by repeat (first | exact hB3 | exact Below.refl _ _ | refine balloc ?_ _ | refine Below.drew ?_ | refine below_drewN ?_ _ | refine below_set ?_ (by first | omega | (dsimp only; omega)) _)))).mono ?_; rintro e w4 ⟨rfl, hb⟩
  obtain ⟨hc4, hf4⟩ := bcell hb
  have z4 := hb.size
  try simp only [World.size_alloc, World.size_setCell, World.size_drew] at z4
  have s4_0 : w2.heap.size < w4.heap.size := by omega
  have s4_1 : w3.heap.size < w4.heap.size := by omega
  have hB4 : Below w.heap.size w w4 := below_seq (by repeat (first | exact hB3 | exact Below.refl _ _ | refine balloc ?_ _ | refine Below.drew ?_ | refine below_drewN ?_ _ | refine below_set ?_ (by first | omega | (dsimp only; omega)) _)) hb
  clear hb
  go_wp2
  go_ret
  exact ⟨rfl, (by repeat (first | exact hB4 | exact Below.refl _ _ | refine balloc ?_ _ | refine Below.drew ?_ | refine below_drewN ?_ _ | refine below_set ?_ (by first | omega | (dsimp only; omega)) _))⟩
set_option maxHeartbeats 4000000 in
theorem tt_y (x y z : Int) (w : World) (hF : FarAt w) (hO : OneAt w) (V2 : Sp) (E2 : Value) (h2 : Hid (KeyIs z V2 E2)) (x1 : 1 ≤ x) (x2 : x < 1013) (h : ¬ (1 ≤ y ∧ y < 1013)) : Calls Tryd.prog 9 #[.int .i64 x, .int .i64 y, .int .i64 z] w fun e w' => e = .returned (.bool true) ∧ Below w.heap.size w w' := by
  go_enter Tryd.func9, Tryd.ntmps9
  go_wp2_with fail
  refine (one_c _ (hF.below (by repeat (first | exact Below.refl _ _ | refine balloc ?_ _ | refine Below.drew ?_ | refine below_drewN ?_ _ | refine below_set ?_ (by first | omega | (dsimp only; omega)) _)))).mono ?_; rintro e w1 ⟨rfl, hb⟩
  obtain ⟨hc1, hf1⟩ := bcell hb
  have z1 := hb.size
  try simp only [World.size_alloc, World.size_setCell, World.size_drew] at z1
  have hB1 : Below w.heap.size w w1 := below_seq (by repeat (first | exact Below.refl _ _ | refine balloc ?_ _ | refine Below.drew ?_ | refine below_drewN ?_ _ | refine below_set ?_ (by first | omega | (dsimp only; omega)) _)) hb
  clear hb
  go_wp2_with fail
  refine (key_y x _ (hF.below (by repeat (first | exact hB1 | exact Below.refl _ _ | refine balloc ?_ _ | refine Below.drew ?_ | refine below_drewN ?_ _ | refine below_set ?_ (by first | omega | (dsimp only; omega)) _))) x1 x2).mono ?_; rintro e w2 ⟨rfl, hb⟩
  obtain ⟨hc2, hf2⟩ := bcell hb
  have z2 := hb.size
  try simp only [World.size_alloc, World.size_setCell, World.size_drew] at z2
  have hB2 : Below w.heap.size w w2 := below_seq (by repeat (first | exact hB1 | exact Below.refl _ _ | refine balloc ?_ _ | refine Below.drew ?_ | refine below_drewN ?_ _ | refine below_set ?_ (by first | omega | (dsimp only; omega)) _)) hb
  clear hb
  go_wp2_with fail
  refine (key_n y _ h).mono ?_; rintro e w3 ⟨rfl, hb⟩
  obtain ⟨hc3, hf3⟩ := bcell hb
  have z3 := hb.size
  try simp only [World.size_alloc, World.size_setCell, World.size_drew] at z3
  have s3_0 : w2.heap.size < w3.heap.size := by omega
  have hB3 : Below w.heap.size w w3 := below_seq (by repeat (first | exact hB2 | exact Below.refl _ _ | refine balloc ?_ _ | refine Below.drew ?_ | refine below_drewN ?_ _ | refine below_set ?_ (by first | omega | (dsimp only; omega)) _)) hb
  clear hb
  go_wp2_with fail
  refine (h2.out _ (hF.below (by repeat (first | exact hB3 | exact Below.refl _ _ | refine balloc ?_ _ | refine Below.drew ?_ | refine below_drewN ?_ _ | refine below_set ?_ (by first | omega | (dsimp only; omega)) _)))).mono ?_; rintro e w4 ⟨rfl, hb⟩
  obtain ⟨hc4, hf4⟩ := bcell hb
  have z4 := hb.size
  try simp only [World.size_alloc, World.size_setCell, World.size_drew] at z4
  have s4_0 : w2.heap.size < w4.heap.size := by omega
  have s4_1 : w3.heap.size < w4.heap.size := by omega
  have hB4 : Below w.heap.size w w4 := below_seq (by repeat (first | exact hB3 | exact Below.refl _ _ | refine balloc ?_ _ | refine Below.drew ?_ | refine below_drewN ?_ _ | refine below_set ?_ (by first | omega | (dsimp only; omega)) _)) hb
  clear hb
  go_wp2
  go_ret
  exact ⟨rfl, (by repeat (first | exact hB4 | exact Below.refl _ _ | refine balloc ?_ _ | refine Below.drew ?_ | refine below_drewN ?_ _ | refine below_set ?_ (by first | omega | (dsimp only; omega)) _))⟩
set_option maxHeartbeats 4000000 in
theorem tt_z (x y z : Int) (w : World) (hF : FarAt w) (hO : OneAt w) (x1 : 1 ≤ x) (x2 : x < 1013) (y1 : 1 ≤ y) (y2 : y < 1013) (h : ¬ (1 ≤ z ∧ z < 1013)) : Calls Tryd.prog 9 #[.int .i64 x, .int .i64 y, .int .i64 z] w fun e w' => e = .returned (.bool true) ∧ Below w.heap.size w w' := by
  go_enter Tryd.func9, Tryd.ntmps9
  go_wp2_with fail
  refine (one_c _ (hF.below (by repeat (first | exact Below.refl _ _ | refine balloc ?_ _ | refine Below.drew ?_ | refine below_drewN ?_ _ | refine below_set ?_ (by first | omega | (dsimp only; omega)) _)))).mono ?_; rintro e w1 ⟨rfl, hb⟩
  obtain ⟨hc1, hf1⟩ := bcell hb
  have z1 := hb.size
  try simp only [World.size_alloc, World.size_setCell, World.size_drew] at z1
  have hB1 : Below w.heap.size w w1 := below_seq (by repeat (first | exact Below.refl _ _ | refine balloc ?_ _ | refine Below.drew ?_ | refine below_drewN ?_ _ | refine below_set ?_ (by first | omega | (dsimp only; omega)) _)) hb
  clear hb
  go_wp2_with fail
  refine (key_y x _ (hF.below (by repeat (first | exact hB1 | exact Below.refl _ _ | refine balloc ?_ _ | refine Below.drew ?_ | refine below_drewN ?_ _ | refine below_set ?_ (by first | omega | (dsimp only; omega)) _))) x1 x2).mono ?_; rintro e w2 ⟨rfl, hb⟩
  obtain ⟨hc2, hf2⟩ := bcell hb
  have z2 := hb.size
  try simp only [World.size_alloc, World.size_setCell, World.size_drew] at z2
  have hB2 : Below w.heap.size w w2 := below_seq (by repeat (first | exact hB1 | exact Below.refl _ _ | refine balloc ?_ _ | refine Below.drew ?_ | refine below_drewN ?_ _ | refine below_set ?_ (by first | omega | (dsimp only; omega)) _)) hb
  clear hb
  go_wp2_with fail
  refine (key_y y _ (hF.below (by repeat (first | exact hB2 | exact Below.refl _ _ | refine balloc ?_ _ | refine Below.drew ?_ | refine below_drewN ?_ _ | refine below_set ?_ (by first | omega | (dsimp only; omega)) _))) y1 y2).mono ?_; rintro e w3 ⟨rfl, hb⟩
  obtain ⟨hc3, hf3⟩ := bcell hb
  have z3 := hb.size
  try simp only [World.size_alloc, World.size_setCell, World.size_drew] at z3
  have s3_0 : w2.heap.size < w3.heap.size := by omega
  have hB3 : Below w.heap.size w w3 := below_seq (by repeat (first | exact hB2 | exact Below.refl _ _ | refine balloc ?_ _ | refine Below.drew ?_ | refine below_drewN ?_ _ | refine below_set ?_ (by first | omega | (dsimp only; omega)) _)) hb
  clear hb
  go_wp2_with fail
  refine (key_n z _ h).mono ?_; rintro e w4 ⟨rfl, hb⟩
  obtain ⟨hc4, hf4⟩ := bcell hb
  have z4 := hb.size
  try simp only [World.size_alloc, World.size_setCell, World.size_drew] at z4
  have s4_0 : w2.heap.size < w4.heap.size := by omega
  have s4_1 : w3.heap.size < w4.heap.size := by omega
  have hB4 : Below w.heap.size w w4 := below_seq (by repeat (first | exact hB3 | exact Below.refl _ _ | refine balloc ?_ _ | refine Below.drew ?_ | refine below_drewN ?_ _ | refine below_set ?_ (by first | omega | (dsimp only; omega)) _)) hb
  clear hb
  go_wp2
  go_ret
  exact ⟨rfl, (by repeat (first | exact hB4 | exact Below.refl _ _ | refine balloc ?_ _ | refine Below.drew ?_ | refine below_drewN ?_ _ | refine below_set ?_ (by first | omega | (dsimp only; omega)) _))⟩
set_option maxHeartbeats 4000000 in
theorem tt_ok (x y z : Int) (w : World) (hF : FarAt w) (hO : OneAt w) (x1 : 1 ≤ x) (x2 : x < 1013) (y1 : 1 ≤ y) (y2 : y < 1013) (d1 : 1 ≤ z) (d2 : z < 1013) (A B C : Sp) (P Q R U : Z) (hA : Hid (sq (4 * x) = A)) (hB : Hid (sq (4 * y) = B)) (hC : Hid (sq (4 * z) = C)) (cA : Hid (Cnt A x)) (cB : Hid (Cnt B y)) (cC : Hid (Cnt C z)) (hP : Hid (zp (y * z) = P)) (hQ : Hid (zp (x * z) = Q)) (hR : Hid (zp (x * y) = R)) (uP : Hid (P.pow x.toNat = U)) (uQ : Hid (Q.pow y.toNat = U)) (uR : Hid (R.pow z.toNat = U)) : Calls Tryd.prog 9 #[.int .i64 x, .int .i64 y, .int .i64 z] w fun e w' => e = .returned (.bool true) ∧ Below w.heap.size w w' := by
  go_enter Tryd.func9, Tryd.ntmps9
  go_wp2_with fail
  refine (one_c _ (hF.below (by repeat (first | exact Below.refl _ _ | refine balloc ?_ _ | refine Below.drew ?_ | refine below_drewN ?_ _ | refine below_set ?_ (by first | omega | (dsimp only; omega)) _)))).mono ?_; rintro e w1 ⟨rfl, hb⟩
  obtain ⟨hc1, hf1⟩ := bcell hb
  have z1 := hb.size
  try simp only [World.size_alloc, World.size_setCell, World.size_drew] at z1
  have hB1 : Below w.heap.size w w1 := below_seq (by repeat (first | exact Below.refl _ _ | refine balloc ?_ _ | refine Below.drew ?_ | refine below_drewN ?_ _ | refine below_set ?_ (by first | omega | (dsimp only; omega)) _)) hb
  clear hb
  go_wp2_with fail
  refine (key_e x A _ (hF.below (by repeat (first | exact hB1 | exact Below.refl _ _ | refine balloc ?_ _ | refine Below.drew ?_ | refine below_drewN ?_ _ | refine below_set ?_ (by first | omega | (dsimp only; omega)) _))) x1 x2 hA).mono ?_; rintro e w2 ⟨rfl, hb⟩
  obtain ⟨hc2, hf2⟩ := bcell hb
  have z2 := hb.size
  try simp only [World.size_alloc, World.size_setCell, World.size_drew] at z2
  have hB2 : Below w.heap.size w w2 := below_seq (by repeat (first | exact hB1 | exact Below.refl _ _ | refine balloc ?_ _ | refine Below.drew ?_ | refine below_drewN ?_ _ | refine below_set ?_ (by first | omega | (dsimp only; omega)) _)) hb
  clear hb
  go_wp2_with fail
  refine (key_e y B _ (hF.below (by repeat (first | exact hB2 | exact Below.refl _ _ | refine balloc ?_ _ | refine Below.drew ?_ | refine below_drewN ?_ _ | refine below_set ?_ (by first | omega | (dsimp only; omega)) _))) y1 y2 hB).mono ?_; rintro e w3 ⟨rfl, hb⟩
  obtain ⟨hc3, hf3⟩ := bcell hb
  have z3 := hb.size
  try simp only [World.size_alloc, World.size_setCell, World.size_drew] at z3
  have s3_0 : w2.heap.size < w3.heap.size := by omega
  have hB3 : Below w.heap.size w w3 := below_seq (by repeat (first | exact hB2 | exact Below.refl _ _ | refine balloc ?_ _ | refine Below.drew ?_ | refine below_drewN ?_ _ | refine below_set ?_ (by first | omega | (dsimp only; omega)) _)) hb
  clear hb
  go_wp2_with fail
  refine (key_e z C _ (hF.below (by repeat (first | exact hB3 | exact Below.refl _ _ | refine balloc ?_ _ | refine Below.drew ?_ | refine below_drewN ?_ _ | refine below_set ?_ (by first | omega | (dsimp only; omega)) _))) d1 d2 hC).mono ?_; rintro e w4 ⟨rfl, hb⟩
  obtain ⟨hc4, hf4⟩ := bcell hb
  have z4 := hb.size
  try simp only [World.size_alloc, World.size_setCell, World.size_drew] at z4
  have s4_0 : w2.heap.size < w4.heap.size := by omega
  have s4_1 : w3.heap.size < w4.heap.size := by omega
  have hB4 : Below w.heap.size w w4 := below_seq (by repeat (first | exact hB3 | exact Below.refl _ _ | refine balloc ?_ _ | refine Below.drew ?_ | refine below_drewN ?_ _ | refine below_set ?_ (by first | omega | (dsimp only; omega)) _)) hb
  clear hb
  go_wp2_with fail
  refine (pair_e B C y z P _ (hF.below (by repeat (first | exact hB4 | exact Below.refl _ _ | refine balloc ?_ _ | refine Below.drew ?_ | refine below_drewN ?_ _ | refine below_set ?_ (by first | omega | (dsimp only; omega)) _))) (hO.below (by repeat (first | exact hB4 | exact Below.refl _ _ | refine balloc ?_ _ | refine Below.drew ?_ | refine below_drewN ?_ _ | refine below_set ?_ (by first | omega | (dsimp only; omega)) _))) cB cC hP).mono ?_; rintro e w5 ⟨rfl, hb⟩
  obtain ⟨hc5, hf5⟩ := bcell hb
  have z5 := hb.size
  try simp only [World.size_alloc, World.size_setCell, World.size_drew] at z5
  have s5_0 : w2.heap.size < w5.heap.size := by omega
  have s5_1 : w3.heap.size < w5.heap.size := by omega
  have s5_2 : w4.heap.size < w5.heap.size := by omega
  have hB5 : Below w.heap.size w w5 := below_seq (by repeat (first | exact hB4 | exact Below.refl _ _ | refine balloc ?_ _ | refine Below.drew ?_ | refine below_drewN ?_ _ | refine below_set ?_ (by first | omega | (dsimp only; omega)) _)) hb
  clear hb
  go_wp2_with fail
  refine (pair_e A C x z Q _ (hF.below (by repeat (first | exact hB5 | exact Below.refl _ _ | refine balloc ?_ _ | refine Below.drew ?_ | refine below_drewN ?_ _ | refine below_set ?_ (by first | omega | (dsimp only; omega)) _))) (hO.below (by repeat (first | exact hB5 | exact Below.refl _ _ | refine balloc ?_ _ | refine Below.drew ?_ | refine below_drewN ?_ _ | refine below_set ?_ (by first | omega | (dsimp only; omega)) _))) cA cC hQ).mono ?_; rintro e w6 ⟨rfl, hb⟩
  obtain ⟨hc6, hf6⟩ := bcell hb
  have z6 := hb.size
  try simp only [World.size_alloc, World.size_setCell, World.size_drew] at z6
  have s6_0 : w2.heap.size < w6.heap.size := by omega
  have s6_1 : w3.heap.size < w6.heap.size := by omega
  have s6_2 : w4.heap.size < w6.heap.size := by omega
  have s6_3 : w5.heap.size < w6.heap.size := by omega
  have hB6 : Below w.heap.size w w6 := below_seq (by repeat (first | exact hB5 | exact Below.refl _ _ | refine balloc ?_ _ | refine Below.drew ?_ | refine below_drewN ?_ _ | refine below_set ?_ (by first | omega | (dsimp only; omega)) _)) hb
  clear hb
  go_wp2_with fail
  refine (pair_e A B x y R _ (hF.below (by repeat (first | exact hB6 | exact Below.refl _ _ | refine balloc ?_ _ | refine Below.drew ?_ | refine below_drewN ?_ _ | refine below_set ?_ (by first | omega | (dsimp only; omega)) _))) (hO.below (by repeat (first | exact hB6 | exact Below.refl _ _ | refine balloc ?_ _ | refine Below.drew ?_ | refine below_drewN ?_ _ | refine below_set ?_ (by first | omega | (dsimp only; omega)) _))) cA cB hR).mono ?_; rintro e w7 ⟨rfl, hb⟩
  obtain ⟨hc7, hf7⟩ := bcell hb
  have z7 := hb.size
  try simp only [World.size_alloc, World.size_setCell, World.size_drew] at z7
  have s7_0 : w2.heap.size < w7.heap.size := by omega
  have s7_1 : w3.heap.size < w7.heap.size := by omega
  have s7_2 : w4.heap.size < w7.heap.size := by omega
  have s7_3 : w5.heap.size < w7.heap.size := by omega
  have s7_4 : w6.heap.size < w7.heap.size := by omega
  have hB7 : Below w.heap.size w w7 := below_seq (by repeat (first | exact hB6 | exact Below.refl _ _ | refine balloc ?_ _ | refine Below.drew ?_ | refine below_drewN ?_ _ | refine below_set ?_ (by first | omega | (dsimp only; omega)) _)) hb
  clear hb
  go_wp2_with fail
  refine (pow_e P U x _ (by omega) (by omega) uP).mono ?_; rintro e w8 ⟨rfl, hb⟩
  obtain ⟨hc8, hf8⟩ := bcell hb
  have z8 := hb.size
  try simp only [World.size_alloc, World.size_setCell, World.size_drew] at z8
  have s8_0 : w2.heap.size < w8.heap.size := by omega
  have s8_1 : w3.heap.size < w8.heap.size := by omega
  have s8_2 : w4.heap.size < w8.heap.size := by omega
  have s8_3 : w5.heap.size < w8.heap.size := by omega
  have s8_4 : w6.heap.size < w8.heap.size := by omega
  have s8_5 : w7.heap.size < w8.heap.size := by omega
  have hB8 : Below w.heap.size w w8 := below_seq (by repeat (first | exact hB7 | exact Below.refl _ _ | refine balloc ?_ _ | refine Below.drew ?_ | refine below_drewN ?_ _ | refine below_set ?_ (by first | omega | (dsimp only; omega)) _)) hb
  clear hb
  go_wp2_with fail
  refine (pow_e Q U y _ (by omega) (by omega) uQ).mono ?_; rintro e w9 ⟨rfl, hb⟩
  obtain ⟨hc9, hf9⟩ := bcell hb
  have z9 := hb.size
  try simp only [World.size_alloc, World.size_setCell, World.size_drew] at z9
  have s9_0 : w2.heap.size < w9.heap.size := by omega
  have s9_1 : w3.heap.size < w9.heap.size := by omega
  have s9_2 : w4.heap.size < w9.heap.size := by omega
  have s9_3 : w5.heap.size < w9.heap.size := by omega
  have s9_4 : w6.heap.size < w9.heap.size := by omega
  have s9_5 : w7.heap.size < w9.heap.size := by omega
  have s9_6 : w8.heap.size < w9.heap.size := by omega
  have hB9 : Below w.heap.size w w9 := below_seq (by repeat (first | exact hB8 | exact Below.refl _ _ | refine balloc ?_ _ | refine Below.drew ?_ | refine below_drewN ?_ _ | refine below_set ?_ (by first | omega | (dsimp only; omega)) _)) hb
  clear hb
  go_wp2_with fail
  refine (pow_e R U z _ (by omega) (by omega) uR).mono ?_; rintro e w10 ⟨rfl, hb⟩
  obtain ⟨hc10, hf10⟩ := bcell hb
  have z10 := hb.size
  try simp only [World.size_alloc, World.size_setCell, World.size_drew] at z10
  have s10_0 : w2.heap.size < w10.heap.size := by omega
  have s10_1 : w3.heap.size < w10.heap.size := by omega
  have s10_2 : w4.heap.size < w10.heap.size := by omega
  have s10_3 : w5.heap.size < w10.heap.size := by omega
  have s10_4 : w6.heap.size < w10.heap.size := by omega
  have s10_5 : w7.heap.size < w10.heap.size := by omega
  have s10_6 : w8.heap.size < w10.heap.size := by omega
  have s10_7 : w9.heap.size < w10.heap.size := by omega
  have hB10 : Below w.heap.size w w10 := below_seq (by repeat (first | exact hB9 | exact Below.refl _ _ | refine balloc ?_ _ | refine Below.drew ?_ | refine below_drewN ?_ _ | refine below_set ?_ (by first | omega | (dsimp only; omega)) _)) hb
  clear hb
  go_wp2
  go_ret
  exact ⟨rfl, (by repeat (first | exact hB10 | exact Below.refl _ _ | refine balloc ?_ _ | refine Below.drew ?_ | refine below_drewN ?_ _ | refine below_set ?_ (by first | omega | (dsimp only; omega)) _))⟩
theorem topTriple_law (x : Int) (hx : (Lit.int .i64 x).wf = true) (y : Int) (hy : (Lit.int .i64 y).wf = true) (z : Int) (hz : (Lit.int .i64 z).wf = true) (w : World) (hL : FarAt w ∧ OneAt w) : Calls Tryd.prog 9 #[.int .i64 x, .int .i64 y, .int .i64 z] w fun e w' => e = .returned (.bool true) ∧ Below w.heap.size w w' := by
  obtain ⟨V1, E1, k1⟩ := key_is y
  obtain ⟨V2, E2, k2⟩ := key_is z
  by_cases h1 : 1 ≤ x ∧ x < 1013
  case neg => exact tt_x x y z w hL.1 hL.2 V1 V2 E1 E2 k1 k2 h1
  by_cases h2 : 1 ≤ y ∧ y < 1013
  case neg => exact tt_y x y z w hL.1 hL.2 V2 E2 k2 h1.1 h1.2 h2
  by_cases h3 : 1 ≤ z ∧ z < 1013
  case neg => exact tt_z x y z w hL.1 hL.2 h1.1 h1.2 h2.1 h2.2 h3
  exact tt_ok x y z w hL.1 hL.2 h1.1 h1.2 h2.1 h2.2 h3.1 h3.2 _ _ _ _ _ _ (zp (y * z * x)) rfl rfl rfl ⟨rfl, by omega, by omega⟩ ⟨rfl, by omega, by omega⟩ ⟨rfl, by omega, by omega⟩ rfl rfl rfl (zp_pow _ _ (by omega))
    (by show _ = _; rw [zp_pow _ _ (by omega)]; congr 1; rw [Int.mul_assoc, Int.mul_assoc]; rw [Int.mul_comm x, Int.mul_assoc, Int.mul_left_comm])
    (by show _ = _; rw [zp_pow _ _ (by omega)]; congr 1; rw [Int.mul_comm x y, Int.mul_assoc, Int.mul_assoc, Int.mul_comm x z])
end Go.Proofs.YtlppjihejgcplaaDoor
