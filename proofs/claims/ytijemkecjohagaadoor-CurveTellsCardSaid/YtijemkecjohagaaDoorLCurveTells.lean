/- The law CurveTells, walked. (Printed by gen_ad.py.) -/
import Derived.Test.YtijemkecjohagaaDoorLCurveTellsA
namespace Go.Proofs.YtijemkecjohagaaDoor
open Go.RowKit
set_option maxRecDepth 100000
set_option linter.unusedVariables false
set_option linter.unusedSimpArgs false
set_option maxHeartbeats 4000000 in
theorem ct_20 (a b : Sp) (x : Int) (w : World) (hF : FarAt w) (hE : ErrAt w) (ha : Hid (sCheck a = 0)) (oa : Ok a) (hb2 : Hid (sCheck b = 0)) (ob : Ok b) (N S : Sp) (hN : Hid (sTurned a = N)) (hS : Hid (sSum a b = S)) (hi : inside x = false) (hx : x < 0) : Calls Tryd.prog 18 #[spV a, spV b, .int .i64 x] w fun e w' => e = .returned (.bool true) ∧ Below w.heap.size w w' := by
  go_enter Tryd.func18, Tryd.ntmps18
  go_wp2_with fail
  refine (refSpot_e a 0 _ ha).mono ?_; rintro e w1 ⟨rfl, hb⟩
  obtain ⟨hc1, hf1⟩ := bcell hb
  have z1 := hb.size
  try simp only [World.size_alloc, World.size_setCell, World.size_drew] at z1
  have s1_0 : w.heap.size < w1.heap.size := by omega
  have s1_1 : w.heap.size + 1 < w1.heap.size := by omega
  have hB1 : Below w.heap.size w w1 := below_seq (by repeat (first | exact Below.refl _ _ | refine balloc ?_ _ | refine Below.drew ?_ | refine below_drewN ?_ _ | refine below_set ?_ (by first | omega | (dsimp only; omega)) _)) hb
  clear hb
  have m1_0_0 : w1.cell? ⟨w.heap.size, 0, none⟩ = some (.int .i64 a.x) := by go_simp
  have m1_0_1 : w1.cell? ⟨w.heap.size, 1, none⟩ = some (.int .i64 a.y) := by go_simp
  have m1_0_2 : w1.cell? ⟨w.heap.size, 2, none⟩ = some (.bool a.far) := by go_simp
  have m1_1_0 : w1.cell? ⟨w.heap.size + 1, 0, none⟩ = some (.int .i64 b.x) := by go_simp
  have m1_1_1 : w1.cell? ⟨w.heap.size + 1, 1, none⟩ = some (.int .i64 b.y) := by go_simp
  have m1_1_2 : w1.cell? ⟨w.heap.size + 1, 2, none⟩ = some (.bool b.far) := by go_simp
  clear hc1
  go_wp2_with fail
  refine (check_ok a _ (hF.below (by repeat (first | exact hB1 | exact Below.refl _ _ | refine balloc ?_ _ | refine Below.drew ?_ | refine below_drewN ?_ _ | refine below_set ?_ (by first | omega | (dsimp only; omega)) _))) oa).mono ?_; rintro e w2 ⟨rfl, hb⟩
  obtain ⟨hc2, hf2⟩ := bcell hb
  have z2 := hb.size
  try simp only [World.size_alloc, World.size_setCell, World.size_drew] at z2
  have s2_0 : w.heap.size < w2.heap.size := by omega
  have s2_1 : w.heap.size + 1 < w2.heap.size := by omega
  have hB2 : Below w.heap.size w w2 := below_seq (by repeat (first | exact hB1 | exact Below.refl _ _ | refine balloc ?_ _ | refine Below.drew ?_ | refine below_drewN ?_ _ | refine below_set ?_ (by first | omega | (dsimp only; omega)) _)) hb
  clear hb
  have m2_0_0 : w2.cell? ⟨w.heap.size, 0, none⟩ = some (.int .i64 a.x) := by go_simp
  have m2_0_1 : w2.cell? ⟨w.heap.size, 1, none⟩ = some (.int .i64 a.y) := by go_simp
  have m2_0_2 : w2.cell? ⟨w.heap.size, 2, none⟩ = some (.bool a.far) := by go_simp
  have m2_1_0 : w2.cell? ⟨w.heap.size + 1, 0, none⟩ = some (.int .i64 b.x) := by go_simp
  have m2_1_1 : w2.cell? ⟨w.heap.size + 1, 1, none⟩ = some (.int .i64 b.y) := by go_simp
  have m2_1_2 : w2.cell? ⟨w.heap.size + 1, 2, none⟩ = some (.bool b.far) := by go_simp
  clear m1_0_0 m1_0_1 m1_0_2 m1_1_0 m1_1_1 m1_1_2
  clear hc2
  go_wp2_with fail
  refine (error_nil 0 _ true rfl).mono ?_; rintro e w3 ⟨rfl, hb⟩
  obtain ⟨hc3, hf3⟩ := bcell hb
  have z3 := hb.size
  try simp only [World.size_alloc, World.size_setCell, World.size_drew] at z3
  have s3_0 : w.heap.size < w3.heap.size := by omega
  have s3_1 : w.heap.size + 1 < w3.heap.size := by omega
  have hB3 : Below w.heap.size w w3 := below_seq (by repeat (first | exact hB2 | exact Below.refl _ _ | refine balloc ?_ _ | refine Below.drew ?_ | refine below_drewN ?_ _ | refine below_set ?_ (by first | omega | (dsimp only; omega)) _)) hb
  clear hb
  have m3_0_0 : w3.cell? ⟨w.heap.size, 0, none⟩ = some (.int .i64 a.x) := by go_simp
  have m3_0_1 : w3.cell? ⟨w.heap.size, 1, none⟩ = some (.int .i64 a.y) := by go_simp
  have m3_0_2 : w3.cell? ⟨w.heap.size, 2, none⟩ = some (.bool a.far) := by go_simp
  have m3_1_0 : w3.cell? ⟨w.heap.size + 1, 0, none⟩ = some (.int .i64 b.x) := by go_simp
  have m3_1_1 : w3.cell? ⟨w.heap.size + 1, 1, none⟩ = some (.int .i64 b.y) := by go_simp
  have m3_1_2 : w3.cell? ⟨w.heap.size + 1, 2, none⟩ = some (.bool b.far) := by go_simp
  clear m2_0_0 m2_0_1 m2_0_2 m2_1_0 m2_1_1 m2_1_2
  clear hc3
  go_wp2_with fail
  refine (refNeg_e a N _ oa hN).mono ?_; rintro e w4 ⟨rfl, hb⟩
  obtain ⟨hc4, hf4⟩ := bcell hb
  have z4 := hb.size
  try simp only [World.size_alloc, World.size_setCell, World.size_drew] at z4
  have s4_0 : w.heap.size < w4.heap.size := by omega
  have s4_1 : w.heap.size + 1 < w4.heap.size := by omega
  have s4_2 : w3.heap.size < w4.heap.size := by omega
  have s4_3 : w3.heap.size + 1 < w4.heap.size := by omega
  have s4_4 : w3.heap.size + 1 + 1 < w4.heap.size := by omega
  have hB4 : Below w.heap.size w w4 := below_seq (by repeat (first | exact hB3 | exact Below.refl _ _ | refine balloc ?_ _ | refine Below.drew ?_ | refine below_drewN ?_ _ | refine below_set ?_ (by first | omega | (dsimp only; omega)) _)) hb
  clear hb
  have m4_0_0 : w4.cell? ⟨w.heap.size, 0, none⟩ = some (.int .i64 a.x) := by go_simp
  have m4_0_1 : w4.cell? ⟨w.heap.size, 1, none⟩ = some (.int .i64 a.y) := by go_simp
  have m4_0_2 : w4.cell? ⟨w.heap.size, 2, none⟩ = some (.bool a.far) := by go_simp
  have m4_1_0 : w4.cell? ⟨w.heap.size + 1, 0, none⟩ = some (.int .i64 b.x) := by go_simp
  have m4_1_1 : w4.cell? ⟨w.heap.size + 1, 1, none⟩ = some (.int .i64 b.y) := by go_simp
  have m4_1_2 : w4.cell? ⟨w.heap.size + 1, 2, none⟩ = some (.bool b.far) := by go_simp
  have m4_2_0 : w4.cell? ⟨w3.heap.size, 0, none⟩ = some (.int .i64 0) := by go_simp
  have m4_2_1 : w4.cell? ⟨w3.heap.size, 1, none⟩ = some (.int .i64 0) := by go_simp
  have m4_2_2 : w4.cell? ⟨w3.heap.size, 2, none⟩ = some (.bool false) := by go_simp
  have m4_3_0 : w4.cell? ⟨w3.heap.size + 1, 0, none⟩ = some (.int .i64 0) := by go_simp
  have m4_3_1 : w4.cell? ⟨w3.heap.size + 1, 1, none⟩ = some (.int .i64 0) := by go_simp
  have m4_3_2 : w4.cell? ⟨w3.heap.size + 1, 2, none⟩ = some (.bool false) := by go_simp
  have m4_4_0 : w4.cell? ⟨w3.heap.size + 1 + 1, 0, none⟩ = some (.int .i64 0) := by go_simp
  have m4_4_1 : w4.cell? ⟨w3.heap.size + 1 + 1, 1, none⟩ = some (.int .i64 0) := by go_simp
  have m4_4_2 : w4.cell? ⟨w3.heap.size + 1 + 1, 2, none⟩ = some (.bool false) := by go_simp
  clear m3_0_0 m3_0_1 m3_0_2 m3_1_0 m3_1_1 m3_1_2
  clear hc4
  go_wp2_with fail
  refine (neg_e a N _ (hF.below (by repeat (first | exact hB4 | exact Below.refl _ _ | refine balloc ?_ _ | refine Below.drew ?_ | refine below_drewN ?_ _ | refine below_set ?_ (by first | omega | (dsimp only; omega)) _))) oa hN).mono ?_; rintro e w5 ⟨rfl, hb⟩
  obtain ⟨hc5, hf5⟩ := bcell hb
  have z5 := hb.size
  try simp only [World.size_alloc, World.size_setCell, World.size_drew] at z5
  have s5_0 : w.heap.size < w5.heap.size := by omega
  have s5_1 : w.heap.size + 1 < w5.heap.size := by omega
  have s5_2 : w3.heap.size < w5.heap.size := by omega
  have s5_3 : w3.heap.size + 1 < w5.heap.size := by omega
  have s5_4 : w3.heap.size + 1 + 1 < w5.heap.size := by omega
  have hB5 : Below w.heap.size w w5 := below_seq (by repeat (first | exact hB4 | exact Below.refl _ _ | refine balloc ?_ _ | refine Below.drew ?_ | refine below_drewN ?_ _ | refine below_set ?_ (by first | omega | (dsimp only; omega)) _)) hb
  clear hb
  have m5_0_0 : w5.cell? ⟨w.heap.size, 0, none⟩ = some (.int .i64 a.x) := by go_simp
  have m5_0_1 : w5.cell? ⟨w.heap.size, 1, none⟩ = some (.int .i64 a.y) := by go_simp
  have m5_0_2 : w5.cell? ⟨w.heap.size, 2, none⟩ = some (.bool a.far) := by go_simp
  have m5_1_0 : w5.cell? ⟨w.heap.size + 1, 0, none⟩ = some (.int .i64 b.x) := by go_simp
  have m5_1_1 : w5.cell? ⟨w.heap.size + 1, 1, none⟩ = some (.int .i64 b.y) := by go_simp
  have m5_1_2 : w5.cell? ⟨w.heap.size + 1, 2, none⟩ = some (.bool b.far) := by go_simp
  have m5_2_0 : w5.cell? ⟨w3.heap.size, 0, none⟩ = some (.int .i64 N.x) := by go_simp
  have m5_2_1 : w5.cell? ⟨w3.heap.size, 1, none⟩ = some (.int .i64 N.y) := by go_simp
  have m5_2_2 : w5.cell? ⟨w3.heap.size, 2, none⟩ = some (.bool N.far) := by go_simp
  have m5_3_0 : w5.cell? ⟨w3.heap.size + 1, 0, none⟩ = some (.int .i64 0) := by go_simp
  have m5_3_1 : w5.cell? ⟨w3.heap.size + 1, 1, none⟩ = some (.int .i64 0) := by go_simp
  have m5_3_2 : w5.cell? ⟨w3.heap.size + 1, 2, none⟩ = some (.bool false) := by go_simp
  have m5_4_0 : w5.cell? ⟨w3.heap.size + 1 + 1, 0, none⟩ = some (.int .i64 0) := by go_simp
  have m5_4_1 : w5.cell? ⟨w3.heap.size + 1 + 1, 1, none⟩ = some (.int .i64 0) := by go_simp
  have m5_4_2 : w5.cell? ⟨w3.heap.size + 1 + 1, 2, none⟩ = some (.bool false) := by go_simp
  clear m4_0_0 m4_0_1 m4_0_2 m4_1_0 m4_1_1 m4_1_2 m4_2_0 m4_2_1 m4_2_2 m4_3_0 m4_3_1 m4_3_2 m4_4_0 m4_4_1 m4_4_2
  clear hc5
  go_wp2_with fail
  refine (error_nil 0 _ true rfl).mono ?_; rintro e w6 ⟨rfl, hb⟩
  obtain ⟨hc6, hf6⟩ := bcell hb
  have z6 := hb.size
  try simp only [World.size_alloc, World.size_setCell, World.size_drew] at z6
  have s6_0 : w.heap.size < w6.heap.size := by omega
  have s6_1 : w.heap.size + 1 < w6.heap.size := by omega
  have s6_2 : w3.heap.size < w6.heap.size := by omega
  have s6_3 : w3.heap.size + 1 < w6.heap.size := by omega
  have s6_4 : w3.heap.size + 1 + 1 < w6.heap.size := by omega
  have s6_5 : w5.heap.size < w6.heap.size := by omega
  have hB6 : Below w.heap.size w w6 := below_seq (by repeat (first | exact hB5 | exact Below.refl _ _ | refine balloc ?_ _ | refine Below.drew ?_ | refine below_drewN ?_ _ | refine below_set ?_ (by first | omega | (dsimp only; omega)) _)) hb
  clear hb
  have m6_0_0 : w6.cell? ⟨w.heap.size, 0, none⟩ = some (.int .i64 a.x) := by go_simp
  have m6_0_1 : w6.cell? ⟨w.heap.size, 1, none⟩ = some (.int .i64 a.y) := by go_simp
  have m6_0_2 : w6.cell? ⟨w.heap.size, 2, none⟩ = some (.bool a.far) := by go_simp
  have m6_1_0 : w6.cell? ⟨w.heap.size + 1, 0, none⟩ = some (.int .i64 b.x) := by go_simp
  have m6_1_1 : w6.cell? ⟨w.heap.size + 1, 1, none⟩ = some (.int .i64 b.y) := by go_simp
  have m6_1_2 : w6.cell? ⟨w.heap.size + 1, 2, none⟩ = some (.bool b.far) := by go_simp
  have m6_2_0 : w6.cell? ⟨w3.heap.size, 0, none⟩ = some (.int .i64 N.x) := by go_simp
  have m6_2_1 : w6.cell? ⟨w3.heap.size, 1, none⟩ = some (.int .i64 N.y) := by go_simp
  have m6_2_2 : w6.cell? ⟨w3.heap.size, 2, none⟩ = some (.bool N.far) := by go_simp
  have m6_3_0 : w6.cell? ⟨w3.heap.size + 1, 0, none⟩ = some (.int .i64 0) := by go_simp
  have m6_3_1 : w6.cell? ⟨w3.heap.size + 1, 1, none⟩ = some (.int .i64 0) := by go_simp
  have m6_3_2 : w6.cell? ⟨w3.heap.size + 1, 2, none⟩ = some (.bool false) := by go_simp
  have m6_4_0 : w6.cell? ⟨w3.heap.size + 1 + 1, 0, none⟩ = some (.int .i64 0) := by go_simp
  have m6_4_1 : w6.cell? ⟨w3.heap.size + 1 + 1, 1, none⟩ = some (.int .i64 0) := by go_simp
  have m6_4_2 : w6.cell? ⟨w3.heap.size + 1 + 1, 2, none⟩ = some (.bool false) := by go_simp
  have m6_5_0 : w6.cell? ⟨w5.heap.size, 0, none⟩ = some (.int .i64 N.x) := by go_simp
  have m6_5_1 : w6.cell? ⟨w5.heap.size, 1, none⟩ = some (.int .i64 N.y) := by go_simp
  have m6_5_2 : w6.cell? ⟨w5.heap.size, 2, none⟩ = some (.bool N.far) := by go_simp
  clear m5_0_0 m5_0_1 m5_0_2 m5_1_0 m5_1_1 m5_1_2 m5_2_0 m5_2_1 m5_2_2 m5_3_0 m5_3_1 m5_3_2 m5_4_0 m5_4_1 m5_4_2
  clear hc6
  go_wp2_with fail
  refine (refSpot_e b 0 _ hb2).mono ?_; rintro e w7 ⟨rfl, hb⟩
  obtain ⟨hc7, hf7⟩ := bcell hb
  have z7 := hb.size
  try simp only [World.size_alloc, World.size_setCell, World.size_drew] at z7
  have s7_0 : w.heap.size < w7.heap.size := by omega
  have s7_1 : w.heap.size + 1 < w7.heap.size := by omega
  have s7_2 : w3.heap.size < w7.heap.size := by omega
  have s7_3 : w3.heap.size + 1 < w7.heap.size := by omega
  have s7_4 : w3.heap.size + 1 + 1 < w7.heap.size := by omega
  have s7_5 : w5.heap.size < w7.heap.size := by omega
  have hB7 : Below w.heap.size w w7 := below_seq (by repeat (first | exact hB6 | exact Below.refl _ _ | refine balloc ?_ _ | refine Below.drew ?_ | refine below_drewN ?_ _ | refine below_set ?_ (by first | omega | (dsimp only; omega)) _)) hb
  clear hb
  have m7_0_0 : w7.cell? ⟨w.heap.size, 0, none⟩ = some (.int .i64 a.x) := by go_simp
  have m7_0_1 : w7.cell? ⟨w.heap.size, 1, none⟩ = some (.int .i64 a.y) := by go_simp
  have m7_0_2 : w7.cell? ⟨w.heap.size, 2, none⟩ = some (.bool a.far) := by go_simp
  have m7_1_0 : w7.cell? ⟨w.heap.size + 1, 0, none⟩ = some (.int .i64 b.x) := by go_simp
  have m7_1_1 : w7.cell? ⟨w.heap.size + 1, 1, none⟩ = some (.int .i64 b.y) := by go_simp
  have m7_1_2 : w7.cell? ⟨w.heap.size + 1, 2, none⟩ = some (.bool b.far) := by go_simp
  have m7_2_0 : w7.cell? ⟨w3.heap.size, 0, none⟩ = some (.int .i64 N.x) := by go_simp
  have m7_2_1 : w7.cell? ⟨w3.heap.size, 1, none⟩ = some (.int .i64 N.y) := by go_simp
  have m7_2_2 : w7.cell? ⟨w3.heap.size, 2, none⟩ = some (.bool N.far) := by go_simp
  have m7_3_0 : w7.cell? ⟨w3.heap.size + 1, 0, none⟩ = some (.int .i64 0) := by go_simp
  have m7_3_1 : w7.cell? ⟨w3.heap.size + 1, 1, none⟩ = some (.int .i64 0) := by go_simp
  have m7_3_2 : w7.cell? ⟨w3.heap.size + 1, 2, none⟩ = some (.bool false) := by go_simp
  have m7_4_0 : w7.cell? ⟨w3.heap.size + 1 + 1, 0, none⟩ = some (.int .i64 0) := by go_simp
  have m7_4_1 : w7.cell? ⟨w3.heap.size + 1 + 1, 1, none⟩ = some (.int .i64 0) := by go_simp
  have m7_4_2 : w7.cell? ⟨w3.heap.size + 1 + 1, 2, none⟩ = some (.bool false) := by go_simp
  have m7_5_0 : w7.cell? ⟨w5.heap.size, 0, none⟩ = some (.int .i64 N.x) := by go_simp
  have m7_5_1 : w7.cell? ⟨w5.heap.size, 1, none⟩ = some (.int .i64 N.y) := by go_simp
  have m7_5_2 : w7.cell? ⟨w5.heap.size, 2, none⟩ = some (.bool N.far) := by go_simp
  clear m6_0_0 m6_0_1 m6_0_2 m6_1_0 m6_1_1 m6_1_2 m6_2_0 m6_2_1 m6_2_2 m6_3_0 m6_3_1 m6_3_2 m6_4_0 m6_4_1 m6_4_2 m6_5_0 m6_5_1 m6_5_2
  clear hc7
  go_wp2_with fail
  refine (refAdd_e a b S _ oa ob hS).mono ?_; rintro e w8 ⟨rfl, hb⟩
  obtain ⟨hc8, hf8⟩ := bcell hb
  have z8 := hb.size
  try simp only [World.size_alloc, World.size_setCell, World.size_drew] at z8
  have s8_0 : w.heap.size < w8.heap.size := by omega
  have s8_1 : w.heap.size + 1 < w8.heap.size := by omega
  have s8_2 : w3.heap.size < w8.heap.size := by omega
  have s8_3 : w3.heap.size + 1 < w8.heap.size := by omega
  have s8_4 : w3.heap.size + 1 + 1 < w8.heap.size := by omega
  have s8_5 : w5.heap.size < w8.heap.size := by omega
  have hB8 : Below w.heap.size w w8 := below_seq (by repeat (first | exact hB7 | exact Below.refl _ _ | refine balloc ?_ _ | refine Below.drew ?_ | refine below_drewN ?_ _ | refine below_set ?_ (by first | omega | (dsimp only; omega)) _)) hb
  clear hb
  have m8_0_0 : w8.cell? ⟨w.heap.size, 0, none⟩ = some (.int .i64 a.x) := by go_simp
  have m8_0_1 : w8.cell? ⟨w.heap.size, 1, none⟩ = some (.int .i64 a.y) := by go_simp
  have m8_0_2 : w8.cell? ⟨w.heap.size, 2, none⟩ = some (.bool a.far) := by go_simp
  have m8_1_0 : w8.cell? ⟨w.heap.size + 1, 0, none⟩ = some (.int .i64 b.x) := by go_simp
  have m8_1_1 : w8.cell? ⟨w.heap.size + 1, 1, none⟩ = some (.int .i64 b.y) := by go_simp
  have m8_1_2 : w8.cell? ⟨w.heap.size + 1, 2, none⟩ = some (.bool b.far) := by go_simp
  have m8_2_0 : w8.cell? ⟨w3.heap.size, 0, none⟩ = some (.int .i64 N.x) := by go_simp
  have m8_2_1 : w8.cell? ⟨w3.heap.size, 1, none⟩ = some (.int .i64 N.y) := by go_simp
  have m8_2_2 : w8.cell? ⟨w3.heap.size, 2, none⟩ = some (.bool N.far) := by go_simp
  have m8_3_0 : w8.cell? ⟨w3.heap.size + 1, 0, none⟩ = some (.int .i64 0) := by go_simp
  have m8_3_1 : w8.cell? ⟨w3.heap.size + 1, 1, none⟩ = some (.int .i64 0) := by go_simp
  have m8_3_2 : w8.cell? ⟨w3.heap.size + 1, 2, none⟩ = some (.bool false) := by go_simp
  have m8_4_0 : w8.cell? ⟨w3.heap.size + 1 + 1, 0, none⟩ = some (.int .i64 0) := by go_simp
  have m8_4_1 : w8.cell? ⟨w3.heap.size + 1 + 1, 1, none⟩ = some (.int .i64 0) := by go_simp
  have m8_4_2 : w8.cell? ⟨w3.heap.size + 1 + 1, 2, none⟩ = some (.bool false) := by go_simp
  have m8_5_0 : w8.cell? ⟨w5.heap.size, 0, none⟩ = some (.int .i64 N.x) := by go_simp
  have m8_5_1 : w8.cell? ⟨w5.heap.size, 1, none⟩ = some (.int .i64 N.y) := by go_simp
  have m8_5_2 : w8.cell? ⟨w5.heap.size, 2, none⟩ = some (.bool N.far) := by go_simp
  clear m7_0_0 m7_0_1 m7_0_2 m7_1_0 m7_1_1 m7_1_2 m7_2_0 m7_2_1 m7_2_2 m7_3_0 m7_3_1 m7_3_2 m7_4_0 m7_4_1 m7_4_2 m7_5_0 m7_5_1 m7_5_2
  clear hc8
  go_wp2_with fail
  refine (add_e a b S _ (hF.below (by repeat (first | exact hB8 | exact Below.refl _ _ | refine balloc ?_ _ | refine Below.drew ?_ | refine below_drewN ?_ _ | refine below_set ?_ (by first | omega | (dsimp only; omega)) _))) oa ob hS).mono ?_; rintro e w9 ⟨rfl, hb⟩
  obtain ⟨hc9, hf9⟩ := bcell hb
  have z9 := hb.size
  try simp only [World.size_alloc, World.size_setCell, World.size_drew] at z9
  have s9_0 : w.heap.size < w9.heap.size := by omega
  have s9_1 : w.heap.size + 1 < w9.heap.size := by omega
  have s9_2 : w3.heap.size < w9.heap.size := by omega
  have s9_3 : w3.heap.size + 1 < w9.heap.size := by omega
  have s9_4 : w3.heap.size + 1 + 1 < w9.heap.size := by omega
  have s9_5 : w5.heap.size < w9.heap.size := by omega
  have hB9 : Below w.heap.size w w9 := below_seq (by repeat (first | exact hB8 | exact Below.refl _ _ | refine balloc ?_ _ | refine Below.drew ?_ | refine below_drewN ?_ _ | refine below_set ?_ (by first | omega | (dsimp only; omega)) _)) hb
  clear hb
  have m9_0_0 : w9.cell? ⟨w.heap.size, 0, none⟩ = some (.int .i64 a.x) := by go_simp
  have m9_0_1 : w9.cell? ⟨w.heap.size, 1, none⟩ = some (.int .i64 a.y) := by go_simp
  have m9_0_2 : w9.cell? ⟨w.heap.size, 2, none⟩ = some (.bool a.far) := by go_simp
  have m9_1_0 : w9.cell? ⟨w.heap.size + 1, 0, none⟩ = some (.int .i64 b.x) := by go_simp
  have m9_1_1 : w9.cell? ⟨w.heap.size + 1, 1, none⟩ = some (.int .i64 b.y) := by go_simp
  have m9_1_2 : w9.cell? ⟨w.heap.size + 1, 2, none⟩ = some (.bool b.far) := by go_simp
  have m9_2_0 : w9.cell? ⟨w3.heap.size, 0, none⟩ = some (.int .i64 N.x) := by go_simp
  have m9_2_1 : w9.cell? ⟨w3.heap.size, 1, none⟩ = some (.int .i64 N.y) := by go_simp
  have m9_2_2 : w9.cell? ⟨w3.heap.size, 2, none⟩ = some (.bool N.far) := by go_simp
  have m9_3_0 : w9.cell? ⟨w3.heap.size + 1, 0, none⟩ = some (.int .i64 S.x) := by go_simp
  have m9_3_1 : w9.cell? ⟨w3.heap.size + 1, 1, none⟩ = some (.int .i64 S.y) := by go_simp
  have m9_3_2 : w9.cell? ⟨w3.heap.size + 1, 2, none⟩ = some (.bool S.far) := by go_simp
  have m9_4_0 : w9.cell? ⟨w3.heap.size + 1 + 1, 0, none⟩ = some (.int .i64 0) := by go_simp
  have m9_4_1 : w9.cell? ⟨w3.heap.size + 1 + 1, 1, none⟩ = some (.int .i64 0) := by go_simp
  have m9_4_2 : w9.cell? ⟨w3.heap.size + 1 + 1, 2, none⟩ = some (.bool false) := by go_simp
  have m9_5_0 : w9.cell? ⟨w5.heap.size, 0, none⟩ = some (.int .i64 N.x) := by go_simp
  have m9_5_1 : w9.cell? ⟨w5.heap.size, 1, none⟩ = some (.int .i64 N.y) := by go_simp
  have m9_5_2 : w9.cell? ⟨w5.heap.size, 2, none⟩ = some (.bool N.far) := by go_simp
  clear m8_0_0 m8_0_1 m8_0_2 m8_1_0 m8_1_1 m8_1_2 m8_2_0 m8_2_1 m8_2_2 m8_3_0 m8_3_1 m8_3_2 m8_4_0 m8_4_1 m8_4_2 m8_5_0 m8_5_1 m8_5_2
  clear hc9
  go_wp2_with fail
  refine (error_nil 0 _ true rfl).mono ?_; rintro e w10 ⟨rfl, hb⟩
  obtain ⟨hc10, hf10⟩ := bcell hb
  have z10 := hb.size
  try simp only [World.size_alloc, World.size_setCell, World.size_drew] at z10
  have s10_0 : w.heap.size < w10.heap.size := by omega
  have s10_1 : w.heap.size + 1 < w10.heap.size := by omega
  have s10_2 : w3.heap.size < w10.heap.size := by omega
  have s10_3 : w3.heap.size + 1 < w10.heap.size := by omega
  have s10_4 : w3.heap.size + 1 + 1 < w10.heap.size := by omega
  have s10_5 : w5.heap.size < w10.heap.size := by omega
  have hB10 : Below w.heap.size w w10 := below_seq (by repeat (first | exact hB9 | exact Below.refl _ _ | refine balloc ?_ _ | refine Below.drew ?_ | refine below_drewN ?_ _ | refine below_set ?_ (by first | omega | (dsimp only; omega)) _)) hb
  clear hb
  have m10_0_0 : w10.cell? ⟨w.heap.size, 0, none⟩ = some (.int .i64 a.x) := by go_simp
  have m10_0_1 : w10.cell? ⟨w.heap.size, 1, none⟩ = some (.int .i64 a.y) := by go_simp
  have m10_0_2 : w10.cell? ⟨w.heap.size, 2, none⟩ = some (.bool a.far) := by go_simp
  have m10_1_0 : w10.cell? ⟨w.heap.size + 1, 0, none⟩ = some (.int .i64 b.x) := by go_simp
  have m10_1_1 : w10.cell? ⟨w.heap.size + 1, 1, none⟩ = some (.int .i64 b.y) := by go_simp
  have m10_1_2 : w10.cell? ⟨w.heap.size + 1, 2, none⟩ = some (.bool b.far) := by go_simp
  have m10_2_0 : w10.cell? ⟨w3.heap.size, 0, none⟩ = some (.int .i64 N.x) := by go_simp
  have m10_2_1 : w10.cell? ⟨w3.heap.size, 1, none⟩ = some (.int .i64 N.y) := by go_simp
  have m10_2_2 : w10.cell? ⟨w3.heap.size, 2, none⟩ = some (.bool N.far) := by go_simp
  have m10_3_0 : w10.cell? ⟨w3.heap.size + 1, 0, none⟩ = some (.int .i64 S.x) := by go_simp
  have m10_3_1 : w10.cell? ⟨w3.heap.size + 1, 1, none⟩ = some (.int .i64 S.y) := by go_simp
  have m10_3_2 : w10.cell? ⟨w3.heap.size + 1, 2, none⟩ = some (.bool S.far) := by go_simp
  have m10_4_0 : w10.cell? ⟨w3.heap.size + 1 + 1, 0, none⟩ = some (.int .i64 0) := by go_simp
  have m10_4_1 : w10.cell? ⟨w3.heap.size + 1 + 1, 1, none⟩ = some (.int .i64 0) := by go_simp
  have m10_4_2 : w10.cell? ⟨w3.heap.size + 1 + 1, 2, none⟩ = some (.bool false) := by go_simp
  have m10_5_0 : w10.cell? ⟨w5.heap.size, 0, none⟩ = some (.int .i64 S.x) := by go_simp
  have m10_5_1 : w10.cell? ⟨w5.heap.size, 1, none⟩ = some (.int .i64 S.y) := by go_simp
  have m10_5_2 : w10.cell? ⟨w5.heap.size, 2, none⟩ = some (.bool S.far) := by go_simp
  clear m9_0_0 m9_0_1 m9_0_2 m9_1_0 m9_1_1 m9_1_2 m9_2_0 m9_2_1 m9_2_2 m9_3_0 m9_3_1 m9_3_2 m9_4_0 m9_4_1 m9_4_2 m9_5_0 m9_5_1 m9_5_2
  clear hc10
  go_wp2_with fail
  refine (lift_out x _ hi).mono ?_; rintro e w11 ⟨rfl, hb⟩
  obtain ⟨hc11, hf11⟩ := bcell hb
  have z11 := hb.size
  try simp only [World.size_alloc, World.size_setCell, World.size_drew] at z11
  have s11_0 : w.heap.size < w11.heap.size := by omega
  have s11_1 : w.heap.size + 1 < w11.heap.size := by omega
  have s11_2 : w3.heap.size < w11.heap.size := by omega
  have s11_3 : w3.heap.size + 1 < w11.heap.size := by omega
  have s11_4 : w3.heap.size + 1 + 1 < w11.heap.size := by omega
  have s11_5 : w5.heap.size < w11.heap.size := by omega
  have hB11 : Below w.heap.size w w11 := below_seq (by repeat (first | exact hB10 | exact Below.refl _ _ | refine balloc ?_ _ | refine Below.drew ?_ | refine below_drewN ?_ _ | refine below_set ?_ (by first | omega | (dsimp only; omega)) _)) hb
  clear hb
  have m11_0_0 : w11.cell? ⟨w.heap.size, 0, none⟩ = some (.int .i64 a.x) := by go_simp
  have m11_0_1 : w11.cell? ⟨w.heap.size, 1, none⟩ = some (.int .i64 a.y) := by go_simp
  have m11_0_2 : w11.cell? ⟨w.heap.size, 2, none⟩ = some (.bool a.far) := by go_simp
  have m11_1_0 : w11.cell? ⟨w.heap.size + 1, 0, none⟩ = some (.int .i64 b.x) := by go_simp
  have m11_1_1 : w11.cell? ⟨w.heap.size + 1, 1, none⟩ = some (.int .i64 b.y) := by go_simp
  have m11_1_2 : w11.cell? ⟨w.heap.size + 1, 2, none⟩ = some (.bool b.far) := by go_simp
  have m11_2_0 : w11.cell? ⟨w3.heap.size, 0, none⟩ = some (.int .i64 N.x) := by go_simp
  have m11_2_1 : w11.cell? ⟨w3.heap.size, 1, none⟩ = some (.int .i64 N.y) := by go_simp
  have m11_2_2 : w11.cell? ⟨w3.heap.size, 2, none⟩ = some (.bool N.far) := by go_simp
  have m11_3_0 : w11.cell? ⟨w3.heap.size + 1, 0, none⟩ = some (.int .i64 S.x) := by go_simp
  have m11_3_1 : w11.cell? ⟨w3.heap.size + 1, 1, none⟩ = some (.int .i64 S.y) := by go_simp
  have m11_3_2 : w11.cell? ⟨w3.heap.size + 1, 2, none⟩ = some (.bool S.far) := by go_simp
  have m11_4_0 : w11.cell? ⟨w3.heap.size + 1 + 1, 0, none⟩ = some (.int .i64 0) := by go_simp
  have m11_4_1 : w11.cell? ⟨w3.heap.size + 1 + 1, 1, none⟩ = some (.int .i64 0) := by go_simp
  have m11_4_2 : w11.cell? ⟨w3.heap.size + 1 + 1, 2, none⟩ = some (.bool false) := by go_simp
  have m11_5_0 : w11.cell? ⟨w5.heap.size, 0, none⟩ = some (.int .i64 S.x) := by go_simp
  have m11_5_1 : w11.cell? ⟨w5.heap.size, 1, none⟩ = some (.int .i64 S.y) := by go_simp
  have m11_5_2 : w11.cell? ⟨w5.heap.size, 2, none⟩ = some (.bool S.far) := by go_simp
  clear m10_0_0 m10_0_1 m10_0_2 m10_1_0 m10_1_1 m10_1_2 m10_2_0 m10_2_1 m10_2_2 m10_3_0 m10_3_1 m10_3_2 m10_4_0 m10_4_1 m10_4_2 m10_5_0 m10_5_1 m10_5_2
  clear hc11
  go_wp2_with fail
  refine (error_err 1 1 _ (hE.below (by repeat (first | exact hB11 | exact Below.refl _ _ | refine balloc ?_ _ | refine Below.drew ?_ | refine below_drewN ?_ _ | refine below_set ?_ (by first | omega | (dsimp only; omega)) _))) true rfl).mono ?_; rintro e w12 ⟨rfl, hb⟩
  obtain ⟨hc12, hf12⟩ := bcell hb
  have z12 := hb.size
  try simp only [World.size_alloc, World.size_setCell, World.size_drew] at z12
  have s12_0 : w.heap.size < w12.heap.size := by omega
  have s12_1 : w.heap.size + 1 < w12.heap.size := by omega
  have s12_2 : w3.heap.size < w12.heap.size := by omega
  have s12_3 : w3.heap.size + 1 < w12.heap.size := by omega
  have s12_4 : w3.heap.size + 1 + 1 < w12.heap.size := by omega
  have s12_5 : w5.heap.size < w12.heap.size := by omega
  have hB12 : Below w.heap.size w w12 := below_seq (by repeat (first | exact hB11 | exact Below.refl _ _ | refine balloc ?_ _ | refine Below.drew ?_ | refine below_drewN ?_ _ | refine below_set ?_ (by first | omega | (dsimp only; omega)) _)) hb
  clear hb
  have m12_0_0 : w12.cell? ⟨w.heap.size, 0, none⟩ = some (.int .i64 a.x) := by go_simp
  have m12_0_1 : w12.cell? ⟨w.heap.size, 1, none⟩ = some (.int .i64 a.y) := by go_simp
  have m12_0_2 : w12.cell? ⟨w.heap.size, 2, none⟩ = some (.bool a.far) := by go_simp
  have m12_1_0 : w12.cell? ⟨w.heap.size + 1, 0, none⟩ = some (.int .i64 b.x) := by go_simp
  have m12_1_1 : w12.cell? ⟨w.heap.size + 1, 1, none⟩ = some (.int .i64 b.y) := by go_simp
  have m12_1_2 : w12.cell? ⟨w.heap.size + 1, 2, none⟩ = some (.bool b.far) := by go_simp
  have m12_2_0 : w12.cell? ⟨w3.heap.size, 0, none⟩ = some (.int .i64 N.x) := by go_simp
  have m12_2_1 : w12.cell? ⟨w3.heap.size, 1, none⟩ = some (.int .i64 N.y) := by go_simp
  have m12_2_2 : w12.cell? ⟨w3.heap.size, 2, none⟩ = some (.bool N.far) := by go_simp
  have m12_3_0 : w12.cell? ⟨w3.heap.size + 1, 0, none⟩ = some (.int .i64 S.x) := by go_simp
  have m12_3_1 : w12.cell? ⟨w3.heap.size + 1, 1, none⟩ = some (.int .i64 S.y) := by go_simp
  have m12_3_2 : w12.cell? ⟨w3.heap.size + 1, 2, none⟩ = some (.bool S.far) := by go_simp
  have m12_4_0 : w12.cell? ⟨w3.heap.size + 1 + 1, 0, none⟩ = some (.int .i64 0) := by go_simp
  have m12_4_1 : w12.cell? ⟨w3.heap.size + 1 + 1, 1, none⟩ = some (.int .i64 0) := by go_simp
  have m12_4_2 : w12.cell? ⟨w3.heap.size + 1 + 1, 2, none⟩ = some (.bool false) := by go_simp
  have m12_5_0 : w12.cell? ⟨w5.heap.size, 0, none⟩ = some (.int .i64 0) := by go_simp
  have m12_5_1 : w12.cell? ⟨w5.heap.size, 1, none⟩ = some (.int .i64 0) := by go_simp
  have m12_5_2 : w12.cell? ⟨w5.heap.size, 2, none⟩ = some (.bool false) := by go_simp
  clear m11_0_0 m11_0_1 m11_0_2 m11_1_0 m11_1_1 m11_1_2 m11_2_0 m11_2_1 m11_2_2 m11_3_0 m11_3_1 m11_3_2 m11_4_0 m11_4_1 m11_4_2 m11_5_0 m11_5_1 m11_5_2
  clear hc12
  go_wp2
  go_ret
  exact ⟨rfl, (by repeat (first | exact hB12 | exact Below.refl _ _ | refine balloc ?_ _ | refine Below.drew ?_ | refine below_drewN ?_ _ | refine below_set ?_ (by first | omega | (dsimp only; omega)) _))⟩
set_option maxHeartbeats 4000000 in
theorem ct_21 (a b : Sp) (x : Int) (w : World) (hF : FarAt w) (hE : ErrAt w) (ha : Hid (sCheck a = 0)) (oa : Ok a) (hb2 : Hid (sCheck b = 0)) (ob : Ok b) (N S : Sp) (hN : Hid (sTurned a = N)) (hS : Hid (sSum a b = S)) (hi : inside x = false) (hx : 0 ≤ x) (hx2 : 4051 ≤ x) : Calls Tryd.prog 18 #[spV a, spV b, .int .i64 x] w fun e w' => e = .returned (.bool true) ∧ Below w.heap.size w w' := by
  go_enter Tryd.func18, Tryd.ntmps18
  go_wp2_with fail
  refine (refSpot_e a 0 _ ha).mono ?_; rintro e w1 ⟨rfl, hb⟩
  obtain ⟨hc1, hf1⟩ := bcell hb
  have z1 := hb.size
  try simp only [World.size_alloc, World.size_setCell, World.size_drew] at z1
  have s1_0 : w.heap.size < w1.heap.size := by omega
  have s1_1 : w.heap.size + 1 < w1.heap.size := by omega
  have hB1 : Below w.heap.size w w1 := below_seq (by repeat (first | exact Below.refl _ _ | refine balloc ?_ _ | refine Below.drew ?_ | refine below_drewN ?_ _ | refine below_set ?_ (by first | omega | (dsimp only; omega)) _)) hb
  clear hb
  have m1_0_0 : w1.cell? ⟨w.heap.size, 0, none⟩ = some (.int .i64 a.x) := by go_simp
  have m1_0_1 : w1.cell? ⟨w.heap.size, 1, none⟩ = some (.int .i64 a.y) := by go_simp
  have m1_0_2 : w1.cell? ⟨w.heap.size, 2, none⟩ = some (.bool a.far) := by go_simp
  have m1_1_0 : w1.cell? ⟨w.heap.size + 1, 0, none⟩ = some (.int .i64 b.x) := by go_simp
  have m1_1_1 : w1.cell? ⟨w.heap.size + 1, 1, none⟩ = some (.int .i64 b.y) := by go_simp
  have m1_1_2 : w1.cell? ⟨w.heap.size + 1, 2, none⟩ = some (.bool b.far) := by go_simp
  clear hc1
  go_wp2_with fail
  refine (check_ok a _ (hF.below (by repeat (first | exact hB1 | exact Below.refl _ _ | refine balloc ?_ _ | refine Below.drew ?_ | refine below_drewN ?_ _ | refine below_set ?_ (by first | omega | (dsimp only; omega)) _))) oa).mono ?_; rintro e w2 ⟨rfl, hb⟩
  obtain ⟨hc2, hf2⟩ := bcell hb
  have z2 := hb.size
  try simp only [World.size_alloc, World.size_setCell, World.size_drew] at z2
  have s2_0 : w.heap.size < w2.heap.size := by omega
  have s2_1 : w.heap.size + 1 < w2.heap.size := by omega
  have hB2 : Below w.heap.size w w2 := below_seq (by repeat (first | exact hB1 | exact Below.refl _ _ | refine balloc ?_ _ | refine Below.drew ?_ | refine below_drewN ?_ _ | refine below_set ?_ (by first | omega | (dsimp only; omega)) _)) hb
  clear hb
  have m2_0_0 : w2.cell? ⟨w.heap.size, 0, none⟩ = some (.int .i64 a.x) := by go_simp
  have m2_0_1 : w2.cell? ⟨w.heap.size, 1, none⟩ = some (.int .i64 a.y) := by go_simp
  have m2_0_2 : w2.cell? ⟨w.heap.size, 2, none⟩ = some (.bool a.far) := by go_simp
  have m2_1_0 : w2.cell? ⟨w.heap.size + 1, 0, none⟩ = some (.int .i64 b.x) := by go_simp
  have m2_1_1 : w2.cell? ⟨w.heap.size + 1, 1, none⟩ = some (.int .i64 b.y) := by go_simp
  have m2_1_2 : w2.cell? ⟨w.heap.size + 1, 2, none⟩ = some (.bool b.far) := by go_simp
  clear m1_0_0 m1_0_1 m1_0_2 m1_1_0 m1_1_1 m1_1_2
  clear hc2
  go_wp2_with fail
  refine (error_nil 0 _ true rfl).mono ?_; rintro e w3 ⟨rfl, hb⟩
  obtain ⟨hc3, hf3⟩ := bcell hb
  have z3 := hb.size
  try simp only [World.size_alloc, World.size_setCell, World.size_drew] at z3
  have s3_0 : w.heap.size < w3.heap.size := by omega
  have s3_1 : w.heap.size + 1 < w3.heap.size := by omega
  have hB3 : Below w.heap.size w w3 := below_seq (by repeat (first | exact hB2 | exact Below.refl _ _ | refine balloc ?_ _ | refine Below.drew ?_ | refine below_drewN ?_ _ | refine below_set ?_ (by first | omega | (dsimp only; omega)) _)) hb
  clear hb
  have m3_0_0 : w3.cell? ⟨w.heap.size, 0, none⟩ = some (.int .i64 a.x) := by go_simp
  have m3_0_1 : w3.cell? ⟨w.heap.size, 1, none⟩ = some (.int .i64 a.y) := by go_simp
  have m3_0_2 : w3.cell? ⟨w.heap.size, 2, none⟩ = some (.bool a.far) := by go_simp
  have m3_1_0 : w3.cell? ⟨w.heap.size + 1, 0, none⟩ = some (.int .i64 b.x) := by go_simp
  have m3_1_1 : w3.cell? ⟨w.heap.size + 1, 1, none⟩ = some (.int .i64 b.y) := by go_simp
  have m3_1_2 : w3.cell? ⟨w.heap.size + 1, 2, none⟩ = some (.bool b.far) := by go_simp
  clear m2_0_0 m2_0_1 m2_0_2 m2_1_0 m2_1_1 m2_1_2
  clear hc3
  go_wp2_with fail
  refine (refNeg_e a N _ oa hN).mono ?_; rintro e w4 ⟨rfl, hb⟩
  obtain ⟨hc4, hf4⟩ := bcell hb
  have z4 := hb.size
  try simp only [World.size_alloc, World.size_setCell, World.size_drew] at z4
  have s4_0 : w.heap.size < w4.heap.size := by omega
  have s4_1 : w.heap.size + 1 < w4.heap.size := by omega
  have s4_2 : w3.heap.size < w4.heap.size := by omega
  have s4_3 : w3.heap.size + 1 < w4.heap.size := by omega
  have s4_4 : w3.heap.size + 1 + 1 < w4.heap.size := by omega
  have hB4 : Below w.heap.size w w4 := below_seq (by repeat (first | exact hB3 | exact Below.refl _ _ | refine balloc ?_ _ | refine Below.drew ?_ | refine below_drewN ?_ _ | refine below_set ?_ (by first | omega | (dsimp only; omega)) _)) hb
  clear hb
  have m4_0_0 : w4.cell? ⟨w.heap.size, 0, none⟩ = some (.int .i64 a.x) := by go_simp
  have m4_0_1 : w4.cell? ⟨w.heap.size, 1, none⟩ = some (.int .i64 a.y) := by go_simp
  have m4_0_2 : w4.cell? ⟨w.heap.size, 2, none⟩ = some (.bool a.far) := by go_simp
  have m4_1_0 : w4.cell? ⟨w.heap.size + 1, 0, none⟩ = some (.int .i64 b.x) := by go_simp
  have m4_1_1 : w4.cell? ⟨w.heap.size + 1, 1, none⟩ = some (.int .i64 b.y) := by go_simp
  have m4_1_2 : w4.cell? ⟨w.heap.size + 1, 2, none⟩ = some (.bool b.far) := by go_simp
  have m4_2_0 : w4.cell? ⟨w3.heap.size, 0, none⟩ = some (.int .i64 0) := by go_simp
  have m4_2_1 : w4.cell? ⟨w3.heap.size, 1, none⟩ = some (.int .i64 0) := by go_simp
  have m4_2_2 : w4.cell? ⟨w3.heap.size, 2, none⟩ = some (.bool false) := by go_simp
  have m4_3_0 : w4.cell? ⟨w3.heap.size + 1, 0, none⟩ = some (.int .i64 0) := by go_simp
  have m4_3_1 : w4.cell? ⟨w3.heap.size + 1, 1, none⟩ = some (.int .i64 0) := by go_simp
  have m4_3_2 : w4.cell? ⟨w3.heap.size + 1, 2, none⟩ = some (.bool false) := by go_simp
  have m4_4_0 : w4.cell? ⟨w3.heap.size + 1 + 1, 0, none⟩ = some (.int .i64 0) := by go_simp
  have m4_4_1 : w4.cell? ⟨w3.heap.size + 1 + 1, 1, none⟩ = some (.int .i64 0) := by go_simp
  have m4_4_2 : w4.cell? ⟨w3.heap.size + 1 + 1, 2, none⟩ = some (.bool false) := by go_simp
  clear m3_0_0 m3_0_1 m3_0_2 m3_1_0 m3_1_1 m3_1_2
  clear hc4
  go_wp2_with fail
  refine (neg_e a N _ (hF.below (by repeat (first | exact hB4 | exact Below.refl _ _ | refine balloc ?_ _ | refine Below.drew ?_ | refine below_drewN ?_ _ | refine below_set ?_ (by first | omega | (dsimp only; omega)) _))) oa hN).mono ?_; rintro e w5 ⟨rfl, hb⟩
  obtain ⟨hc5, hf5⟩ := bcell hb
  have z5 := hb.size
  try simp only [World.size_alloc, World.size_setCell, World.size_drew] at z5
  have s5_0 : w.heap.size < w5.heap.size := by omega
  have s5_1 : w.heap.size + 1 < w5.heap.size := by omega
  have s5_2 : w3.heap.size < w5.heap.size := by omega
  have s5_3 : w3.heap.size + 1 < w5.heap.size := by omega
  have s5_4 : w3.heap.size + 1 + 1 < w5.heap.size := by omega
  have hB5 : Below w.heap.size w w5 := below_seq (by repeat (first | exact hB4 | exact Below.refl _ _ | refine balloc ?_ _ | refine Below.drew ?_ | refine below_drewN ?_ _ | refine below_set ?_ (by first | omega | (dsimp only; omega)) _)) hb
  clear hb
  have m5_0_0 : w5.cell? ⟨w.heap.size, 0, none⟩ = some (.int .i64 a.x) := by go_simp
  have m5_0_1 : w5.cell? ⟨w.heap.size, 1, none⟩ = some (.int .i64 a.y) := by go_simp
  have m5_0_2 : w5.cell? ⟨w.heap.size, 2, none⟩ = some (.bool a.far) := by go_simp
  have m5_1_0 : w5.cell? ⟨w.heap.size + 1, 0, none⟩ = some (.int .i64 b.x) := by go_simp
  have m5_1_1 : w5.cell? ⟨w.heap.size + 1, 1, none⟩ = some (.int .i64 b.y) := by go_simp
  have m5_1_2 : w5.cell? ⟨w.heap.size + 1, 2, none⟩ = some (.bool b.far) := by go_simp
  have m5_2_0 : w5.cell? ⟨w3.heap.size, 0, none⟩ = some (.int .i64 N.x) := by go_simp
  have m5_2_1 : w5.cell? ⟨w3.heap.size, 1, none⟩ = some (.int .i64 N.y) := by go_simp
  have m5_2_2 : w5.cell? ⟨w3.heap.size, 2, none⟩ = some (.bool N.far) := by go_simp
  have m5_3_0 : w5.cell? ⟨w3.heap.size + 1, 0, none⟩ = some (.int .i64 0) := by go_simp
  have m5_3_1 : w5.cell? ⟨w3.heap.size + 1, 1, none⟩ = some (.int .i64 0) := by go_simp
  have m5_3_2 : w5.cell? ⟨w3.heap.size + 1, 2, none⟩ = some (.bool false) := by go_simp
  have m5_4_0 : w5.cell? ⟨w3.heap.size + 1 + 1, 0, none⟩ = some (.int .i64 0) := by go_simp
  have m5_4_1 : w5.cell? ⟨w3.heap.size + 1 + 1, 1, none⟩ = some (.int .i64 0) := by go_simp
  have m5_4_2 : w5.cell? ⟨w3.heap.size + 1 + 1, 2, none⟩ = some (.bool false) := by go_simp
  clear m4_0_0 m4_0_1 m4_0_2 m4_1_0 m4_1_1 m4_1_2 m4_2_0 m4_2_1 m4_2_2 m4_3_0 m4_3_1 m4_3_2 m4_4_0 m4_4_1 m4_4_2
  clear hc5
  go_wp2_with fail
  refine (error_nil 0 _ true rfl).mono ?_; rintro e w6 ⟨rfl, hb⟩
  obtain ⟨hc6, hf6⟩ := bcell hb
  have z6 := hb.size
  try simp only [World.size_alloc, World.size_setCell, World.size_drew] at z6
  have s6_0 : w.heap.size < w6.heap.size := by omega
  have s6_1 : w.heap.size + 1 < w6.heap.size := by omega
  have s6_2 : w3.heap.size < w6.heap.size := by omega
  have s6_3 : w3.heap.size + 1 < w6.heap.size := by omega
  have s6_4 : w3.heap.size + 1 + 1 < w6.heap.size := by omega
  have s6_5 : w5.heap.size < w6.heap.size := by omega
  have hB6 : Below w.heap.size w w6 := below_seq (by repeat (first | exact hB5 | exact Below.refl _ _ | refine balloc ?_ _ | refine Below.drew ?_ | refine below_drewN ?_ _ | refine below_set ?_ (by first | omega | (dsimp only; omega)) _)) hb
  clear hb
  have m6_0_0 : w6.cell? ⟨w.heap.size, 0, none⟩ = some (.int .i64 a.x) := by go_simp
  have m6_0_1 : w6.cell? ⟨w.heap.size, 1, none⟩ = some (.int .i64 a.y) := by go_simp
  have m6_0_2 : w6.cell? ⟨w.heap.size, 2, none⟩ = some (.bool a.far) := by go_simp
  have m6_1_0 : w6.cell? ⟨w.heap.size + 1, 0, none⟩ = some (.int .i64 b.x) := by go_simp
  have m6_1_1 : w6.cell? ⟨w.heap.size + 1, 1, none⟩ = some (.int .i64 b.y) := by go_simp
  have m6_1_2 : w6.cell? ⟨w.heap.size + 1, 2, none⟩ = some (.bool b.far) := by go_simp
  have m6_2_0 : w6.cell? ⟨w3.heap.size, 0, none⟩ = some (.int .i64 N.x) := by go_simp
  have m6_2_1 : w6.cell? ⟨w3.heap.size, 1, none⟩ = some (.int .i64 N.y) := by go_simp
  have m6_2_2 : w6.cell? ⟨w3.heap.size, 2, none⟩ = some (.bool N.far) := by go_simp
  have m6_3_0 : w6.cell? ⟨w3.heap.size + 1, 0, none⟩ = some (.int .i64 0) := by go_simp
  have m6_3_1 : w6.cell? ⟨w3.heap.size + 1, 1, none⟩ = some (.int .i64 0) := by go_simp
  have m6_3_2 : w6.cell? ⟨w3.heap.size + 1, 2, none⟩ = some (.bool false) := by go_simp
  have m6_4_0 : w6.cell? ⟨w3.heap.size + 1 + 1, 0, none⟩ = some (.int .i64 0) := by go_simp
  have m6_4_1 : w6.cell? ⟨w3.heap.size + 1 + 1, 1, none⟩ = some (.int .i64 0) := by go_simp
  have m6_4_2 : w6.cell? ⟨w3.heap.size + 1 + 1, 2, none⟩ = some (.bool false) := by go_simp
  have m6_5_0 : w6.cell? ⟨w5.heap.size, 0, none⟩ = some (.int .i64 N.x) := by go_simp
  have m6_5_1 : w6.cell? ⟨w5.heap.size, 1, none⟩ = some (.int .i64 N.y) := by go_simp
  have m6_5_2 : w6.cell? ⟨w5.heap.size, 2, none⟩ = some (.bool N.far) := by go_simp
  clear m5_0_0 m5_0_1 m5_0_2 m5_1_0 m5_1_1 m5_1_2 m5_2_0 m5_2_1 m5_2_2 m5_3_0 m5_3_1 m5_3_2 m5_4_0 m5_4_1 m5_4_2
  clear hc6
  go_wp2_with fail
  refine (refSpot_e b 0 _ hb2).mono ?_; rintro e w7 ⟨rfl, hb⟩
  obtain ⟨hc7, hf7⟩ := bcell hb
  have z7 := hb.size
  try simp only [World.size_alloc, World.size_setCell, World.size_drew] at z7
  have s7_0 : w.heap.size < w7.heap.size := by omega
  have s7_1 : w.heap.size + 1 < w7.heap.size := by omega
  have s7_2 : w3.heap.size < w7.heap.size := by omega
  have s7_3 : w3.heap.size + 1 < w7.heap.size := by omega
  have s7_4 : w3.heap.size + 1 + 1 < w7.heap.size := by omega
  have s7_5 : w5.heap.size < w7.heap.size := by omega
  have hB7 : Below w.heap.size w w7 := below_seq (by repeat (first | exact hB6 | exact Below.refl _ _ | refine balloc ?_ _ | refine Below.drew ?_ | refine below_drewN ?_ _ | refine below_set ?_ (by first | omega | (dsimp only; omega)) _)) hb
  clear hb
  have m7_0_0 : w7.cell? ⟨w.heap.size, 0, none⟩ = some (.int .i64 a.x) := by go_simp
  have m7_0_1 : w7.cell? ⟨w.heap.size, 1, none⟩ = some (.int .i64 a.y) := by go_simp
  have m7_0_2 : w7.cell? ⟨w.heap.size, 2, none⟩ = some (.bool a.far) := by go_simp
  have m7_1_0 : w7.cell? ⟨w.heap.size + 1, 0, none⟩ = some (.int .i64 b.x) := by go_simp
  have m7_1_1 : w7.cell? ⟨w.heap.size + 1, 1, none⟩ = some (.int .i64 b.y) := by go_simp
  have m7_1_2 : w7.cell? ⟨w.heap.size + 1, 2, none⟩ = some (.bool b.far) := by go_simp
  have m7_2_0 : w7.cell? ⟨w3.heap.size, 0, none⟩ = some (.int .i64 N.x) := by go_simp
  have m7_2_1 : w7.cell? ⟨w3.heap.size, 1, none⟩ = some (.int .i64 N.y) := by go_simp
  have m7_2_2 : w7.cell? ⟨w3.heap.size, 2, none⟩ = some (.bool N.far) := by go_simp
  have m7_3_0 : w7.cell? ⟨w3.heap.size + 1, 0, none⟩ = some (.int .i64 0) := by go_simp
  have m7_3_1 : w7.cell? ⟨w3.heap.size + 1, 1, none⟩ = some (.int .i64 0) := by go_simp
  have m7_3_2 : w7.cell? ⟨w3.heap.size + 1, 2, none⟩ = some (.bool false) := by go_simp
  have m7_4_0 : w7.cell? ⟨w3.heap.size + 1 + 1, 0, none⟩ = some (.int .i64 0) := by go_simp
  have m7_4_1 : w7.cell? ⟨w3.heap.size + 1 + 1, 1, none⟩ = some (.int .i64 0) := by go_simp
  have m7_4_2 : w7.cell? ⟨w3.heap.size + 1 + 1, 2, none⟩ = some (.bool false) := by go_simp
  have m7_5_0 : w7.cell? ⟨w5.heap.size, 0, none⟩ = some (.int .i64 N.x) := by go_simp
  have m7_5_1 : w7.cell? ⟨w5.heap.size, 1, none⟩ = some (.int .i64 N.y) := by go_simp
  have m7_5_2 : w7.cell? ⟨w5.heap.size, 2, none⟩ = some (.bool N.far) := by go_simp
  clear m6_0_0 m6_0_1 m6_0_2 m6_1_0 m6_1_1 m6_1_2 m6_2_0 m6_2_1 m6_2_2 m6_3_0 m6_3_1 m6_3_2 m6_4_0 m6_4_1 m6_4_2 m6_5_0 m6_5_1 m6_5_2
  clear hc7
  go_wp2_with fail
  refine (refAdd_e a b S _ oa ob hS).mono ?_; rintro e w8 ⟨rfl, hb⟩
  obtain ⟨hc8, hf8⟩ := bcell hb
  have z8 := hb.size
  try simp only [World.size_alloc, World.size_setCell, World.size_drew] at z8
  have s8_0 : w.heap.size < w8.heap.size := by omega
  have s8_1 : w.heap.size + 1 < w8.heap.size := by omega
  have s8_2 : w3.heap.size < w8.heap.size := by omega
  have s8_3 : w3.heap.size + 1 < w8.heap.size := by omega
  have s8_4 : w3.heap.size + 1 + 1 < w8.heap.size := by omega
  have s8_5 : w5.heap.size < w8.heap.size := by omega
  have hB8 : Below w.heap.size w w8 := below_seq (by repeat (first | exact hB7 | exact Below.refl _ _ | refine balloc ?_ _ | refine Below.drew ?_ | refine below_drewN ?_ _ | refine below_set ?_ (by first | omega | (dsimp only; omega)) _)) hb
  clear hb
  have m8_0_0 : w8.cell? ⟨w.heap.size, 0, none⟩ = some (.int .i64 a.x) := by go_simp
  have m8_0_1 : w8.cell? ⟨w.heap.size, 1, none⟩ = some (.int .i64 a.y) := by go_simp
  have m8_0_2 : w8.cell? ⟨w.heap.size, 2, none⟩ = some (.bool a.far) := by go_simp
  have m8_1_0 : w8.cell? ⟨w.heap.size + 1, 0, none⟩ = some (.int .i64 b.x) := by go_simp
  have m8_1_1 : w8.cell? ⟨w.heap.size + 1, 1, none⟩ = some (.int .i64 b.y) := by go_simp
  have m8_1_2 : w8.cell? ⟨w.heap.size + 1, 2, none⟩ = some (.bool b.far) := by go_simp
  have m8_2_0 : w8.cell? ⟨w3.heap.size, 0, none⟩ = some (.int .i64 N.x) := by go_simp
  have m8_2_1 : w8.cell? ⟨w3.heap.size, 1, none⟩ = some (.int .i64 N.y) := by go_simp
  have m8_2_2 : w8.cell? ⟨w3.heap.size, 2, none⟩ = some (.bool N.far) := by go_simp
  have m8_3_0 : w8.cell? ⟨w3.heap.size + 1, 0, none⟩ = some (.int .i64 0) := by go_simp
  have m8_3_1 : w8.cell? ⟨w3.heap.size + 1, 1, none⟩ = some (.int .i64 0) := by go_simp
  have m8_3_2 : w8.cell? ⟨w3.heap.size + 1, 2, none⟩ = some (.bool false) := by go_simp
  have m8_4_0 : w8.cell? ⟨w3.heap.size + 1 + 1, 0, none⟩ = some (.int .i64 0) := by go_simp
  have m8_4_1 : w8.cell? ⟨w3.heap.size + 1 + 1, 1, none⟩ = some (.int .i64 0) := by go_simp
  have m8_4_2 : w8.cell? ⟨w3.heap.size + 1 + 1, 2, none⟩ = some (.bool false) := by go_simp
  have m8_5_0 : w8.cell? ⟨w5.heap.size, 0, none⟩ = some (.int .i64 N.x) := by go_simp
  have m8_5_1 : w8.cell? ⟨w5.heap.size, 1, none⟩ = some (.int .i64 N.y) := by go_simp
  have m8_5_2 : w8.cell? ⟨w5.heap.size, 2, none⟩ = some (.bool N.far) := by go_simp
  clear m7_0_0 m7_0_1 m7_0_2 m7_1_0 m7_1_1 m7_1_2 m7_2_0 m7_2_1 m7_2_2 m7_3_0 m7_3_1 m7_3_2 m7_4_0 m7_4_1 m7_4_2 m7_5_0 m7_5_1 m7_5_2
  clear hc8
  go_wp2_with fail
  refine (add_e a b S _ (hF.below (by repeat (first | exact hB8 | exact Below.refl _ _ | refine balloc ?_ _ | refine Below.drew ?_ | refine below_drewN ?_ _ | refine below_set ?_ (by first | omega | (dsimp only; omega)) _))) oa ob hS).mono ?_; rintro e w9 ⟨rfl, hb⟩
  obtain ⟨hc9, hf9⟩ := bcell hb
  have z9 := hb.size
  try simp only [World.size_alloc, World.size_setCell, World.size_drew] at z9
  have s9_0 : w.heap.size < w9.heap.size := by omega
  have s9_1 : w.heap.size + 1 < w9.heap.size := by omega
  have s9_2 : w3.heap.size < w9.heap.size := by omega
  have s9_3 : w3.heap.size + 1 < w9.heap.size := by omega
  have s9_4 : w3.heap.size + 1 + 1 < w9.heap.size := by omega
  have s9_5 : w5.heap.size < w9.heap.size := by omega
  have hB9 : Below w.heap.size w w9 := below_seq (by repeat (first | exact hB8 | exact Below.refl _ _ | refine balloc ?_ _ | refine Below.drew ?_ | refine below_drewN ?_ _ | refine below_set ?_ (by first | omega | (dsimp only; omega)) _)) hb
  clear hb
  have m9_0_0 : w9.cell? ⟨w.heap.size, 0, none⟩ = some (.int .i64 a.x) := by go_simp
  have m9_0_1 : w9.cell? ⟨w.heap.size, 1, none⟩ = some (.int .i64 a.y) := by go_simp
  have m9_0_2 : w9.cell? ⟨w.heap.size, 2, none⟩ = some (.bool a.far) := by go_simp
  have m9_1_0 : w9.cell? ⟨w.heap.size + 1, 0, none⟩ = some (.int .i64 b.x) := by go_simp
  have m9_1_1 : w9.cell? ⟨w.heap.size + 1, 1, none⟩ = some (.int .i64 b.y) := by go_simp
  have m9_1_2 : w9.cell? ⟨w.heap.size + 1, 2, none⟩ = some (.bool b.far) := by go_simp
  have m9_2_0 : w9.cell? ⟨w3.heap.size, 0, none⟩ = some (.int .i64 N.x) := by go_simp
  have m9_2_1 : w9.cell? ⟨w3.heap.size, 1, none⟩ = some (.int .i64 N.y) := by go_simp
  have m9_2_2 : w9.cell? ⟨w3.heap.size, 2, none⟩ = some (.bool N.far) := by go_simp
  have m9_3_0 : w9.cell? ⟨w3.heap.size + 1, 0, none⟩ = some (.int .i64 S.x) := by go_simp
  have m9_3_1 : w9.cell? ⟨w3.heap.size + 1, 1, none⟩ = some (.int .i64 S.y) := by go_simp
  have m9_3_2 : w9.cell? ⟨w3.heap.size + 1, 2, none⟩ = some (.bool S.far) := by go_simp
  have m9_4_0 : w9.cell? ⟨w3.heap.size + 1 + 1, 0, none⟩ = some (.int .i64 0) := by go_simp
  have m9_4_1 : w9.cell? ⟨w3.heap.size + 1 + 1, 1, none⟩ = some (.int .i64 0) := by go_simp
  have m9_4_2 : w9.cell? ⟨w3.heap.size + 1 + 1, 2, none⟩ = some (.bool false) := by go_simp
  have m9_5_0 : w9.cell? ⟨w5.heap.size, 0, none⟩ = some (.int .i64 N.x) := by go_simp
  have m9_5_1 : w9.cell? ⟨w5.heap.size, 1, none⟩ = some (.int .i64 N.y) := by go_simp
  have m9_5_2 : w9.cell? ⟨w5.heap.size, 2, none⟩ = some (.bool N.far) := by go_simp
  clear m8_0_0 m8_0_1 m8_0_2 m8_1_0 m8_1_1 m8_1_2 m8_2_0 m8_2_1 m8_2_2 m8_3_0 m8_3_1 m8_3_2 m8_4_0 m8_4_1 m8_4_2 m8_5_0 m8_5_1 m8_5_2
  clear hc9
  go_wp2_with fail
  refine (error_nil 0 _ true rfl).mono ?_; rintro e w10 ⟨rfl, hb⟩
  obtain ⟨hc10, hf10⟩ := bcell hb
  have z10 := hb.size
  try simp only [World.size_alloc, World.size_setCell, World.size_drew] at z10
  have s10_0 : w.heap.size < w10.heap.size := by omega
  have s10_1 : w.heap.size + 1 < w10.heap.size := by omega
  have s10_2 : w3.heap.size < w10.heap.size := by omega
  have s10_3 : w3.heap.size + 1 < w10.heap.size := by omega
  have s10_4 : w3.heap.size + 1 + 1 < w10.heap.size := by omega
  have s10_5 : w5.heap.size < w10.heap.size := by omega
  have hB10 : Below w.heap.size w w10 := below_seq (by repeat (first | exact hB9 | exact Below.refl _ _ | refine balloc ?_ _ | refine Below.drew ?_ | refine below_drewN ?_ _ | refine below_set ?_ (by first | omega | (dsimp only; omega)) _)) hb
  clear hb
  have m10_0_0 : w10.cell? ⟨w.heap.size, 0, none⟩ = some (.int .i64 a.x) := by go_simp
  have m10_0_1 : w10.cell? ⟨w.heap.size, 1, none⟩ = some (.int .i64 a.y) := by go_simp
  have m10_0_2 : w10.cell? ⟨w.heap.size, 2, none⟩ = some (.bool a.far) := by go_simp
  have m10_1_0 : w10.cell? ⟨w.heap.size + 1, 0, none⟩ = some (.int .i64 b.x) := by go_simp
  have m10_1_1 : w10.cell? ⟨w.heap.size + 1, 1, none⟩ = some (.int .i64 b.y) := by go_simp
  have m10_1_2 : w10.cell? ⟨w.heap.size + 1, 2, none⟩ = some (.bool b.far) := by go_simp
  have m10_2_0 : w10.cell? ⟨w3.heap.size, 0, none⟩ = some (.int .i64 N.x) := by go_simp
  have m10_2_1 : w10.cell? ⟨w3.heap.size, 1, none⟩ = some (.int .i64 N.y) := by go_simp
  have m10_2_2 : w10.cell? ⟨w3.heap.size, 2, none⟩ = some (.bool N.far) := by go_simp
  have m10_3_0 : w10.cell? ⟨w3.heap.size + 1, 0, none⟩ = some (.int .i64 S.x) := by go_simp
  have m10_3_1 : w10.cell? ⟨w3.heap.size + 1, 1, none⟩ = some (.int .i64 S.y) := by go_simp
  have m10_3_2 : w10.cell? ⟨w3.heap.size + 1, 2, none⟩ = some (.bool S.far) := by go_simp
  have m10_4_0 : w10.cell? ⟨w3.heap.size + 1 + 1, 0, none⟩ = some (.int .i64 0) := by go_simp
  have m10_4_1 : w10.cell? ⟨w3.heap.size + 1 + 1, 1, none⟩ = some (.int .i64 0) := by go_simp
  have m10_4_2 : w10.cell? ⟨w3.heap.size + 1 + 1, 2, none⟩ = some (.bool false) := by go_simp
  have m10_5_0 : w10.cell? ⟨w5.heap.size, 0, none⟩ = some (.int .i64 S.x) := by go_simp
  have m10_5_1 : w10.cell? ⟨w5.heap.size, 1, none⟩ = some (.int .i64 S.y) := by go_simp
  have m10_5_2 : w10.cell? ⟨w5.heap.size, 2, none⟩ = some (.bool S.far) := by go_simp
  clear m9_0_0 m9_0_1 m9_0_2 m9_1_0 m9_1_1 m9_1_2 m9_2_0 m9_2_1 m9_2_2 m9_3_0 m9_3_1 m9_3_2 m9_4_0 m9_4_1 m9_4_2 m9_5_0 m9_5_1 m9_5_2
  clear hc10
  go_wp2_with fail
  refine (lift_out x _ hi).mono ?_; rintro e w11 ⟨rfl, hb⟩
  obtain ⟨hc11, hf11⟩ := bcell hb
  have z11 := hb.size
  try simp only [World.size_alloc, World.size_setCell, World.size_drew] at z11
  have s11_0 : w.heap.size < w11.heap.size := by omega
  have s11_1 : w.heap.size + 1 < w11.heap.size := by omega
  have s11_2 : w3.heap.size < w11.heap.size := by omega
  have s11_3 : w3.heap.size + 1 < w11.heap.size := by omega
  have s11_4 : w3.heap.size + 1 + 1 < w11.heap.size := by omega
  have s11_5 : w5.heap.size < w11.heap.size := by omega
  have hB11 : Below w.heap.size w w11 := below_seq (by repeat (first | exact hB10 | exact Below.refl _ _ | refine balloc ?_ _ | refine Below.drew ?_ | refine below_drewN ?_ _ | refine below_set ?_ (by first | omega | (dsimp only; omega)) _)) hb
  clear hb
  have m11_0_0 : w11.cell? ⟨w.heap.size, 0, none⟩ = some (.int .i64 a.x) := by go_simp
  have m11_0_1 : w11.cell? ⟨w.heap.size, 1, none⟩ = some (.int .i64 a.y) := by go_simp
  have m11_0_2 : w11.cell? ⟨w.heap.size, 2, none⟩ = some (.bool a.far) := by go_simp
  have m11_1_0 : w11.cell? ⟨w.heap.size + 1, 0, none⟩ = some (.int .i64 b.x) := by go_simp
  have m11_1_1 : w11.cell? ⟨w.heap.size + 1, 1, none⟩ = some (.int .i64 b.y) := by go_simp
  have m11_1_2 : w11.cell? ⟨w.heap.size + 1, 2, none⟩ = some (.bool b.far) := by go_simp
  have m11_2_0 : w11.cell? ⟨w3.heap.size, 0, none⟩ = some (.int .i64 N.x) := by go_simp
  have m11_2_1 : w11.cell? ⟨w3.heap.size, 1, none⟩ = some (.int .i64 N.y) := by go_simp
  have m11_2_2 : w11.cell? ⟨w3.heap.size, 2, none⟩ = some (.bool N.far) := by go_simp
  have m11_3_0 : w11.cell? ⟨w3.heap.size + 1, 0, none⟩ = some (.int .i64 S.x) := by go_simp
  have m11_3_1 : w11.cell? ⟨w3.heap.size + 1, 1, none⟩ = some (.int .i64 S.y) := by go_simp
  have m11_3_2 : w11.cell? ⟨w3.heap.size + 1, 2, none⟩ = some (.bool S.far) := by go_simp
  have m11_4_0 : w11.cell? ⟨w3.heap.size + 1 + 1, 0, none⟩ = some (.int .i64 0) := by go_simp
  have m11_4_1 : w11.cell? ⟨w3.heap.size + 1 + 1, 1, none⟩ = some (.int .i64 0) := by go_simp
  have m11_4_2 : w11.cell? ⟨w3.heap.size + 1 + 1, 2, none⟩ = some (.bool false) := by go_simp
  have m11_5_0 : w11.cell? ⟨w5.heap.size, 0, none⟩ = some (.int .i64 S.x) := by go_simp
  have m11_5_1 : w11.cell? ⟨w5.heap.size, 1, none⟩ = some (.int .i64 S.y) := by go_simp
  have m11_5_2 : w11.cell? ⟨w5.heap.size, 2, none⟩ = some (.bool S.far) := by go_simp
  clear m10_0_0 m10_0_1 m10_0_2 m10_1_0 m10_1_1 m10_1_2 m10_2_0 m10_2_1 m10_2_2 m10_3_0 m10_3_1 m10_3_2 m10_4_0 m10_4_1 m10_4_2 m10_5_0 m10_5_1 m10_5_2
  clear hc11
  go_wp2_with fail
  refine (error_err 1 1 _ (hE.below (by repeat (first | exact hB11 | exact Below.refl _ _ | refine balloc ?_ _ | refine Below.drew ?_ | refine below_drewN ?_ _ | refine below_set ?_ (by first | omega | (dsimp only; omega)) _))) true rfl).mono ?_; rintro e w12 ⟨rfl, hb⟩
  obtain ⟨hc12, hf12⟩ := bcell hb
  have z12 := hb.size
  try simp only [World.size_alloc, World.size_setCell, World.size_drew] at z12
  have s12_0 : w.heap.size < w12.heap.size := by omega
  have s12_1 : w.heap.size + 1 < w12.heap.size := by omega
  have s12_2 : w3.heap.size < w12.heap.size := by omega
  have s12_3 : w3.heap.size + 1 < w12.heap.size := by omega
  have s12_4 : w3.heap.size + 1 + 1 < w12.heap.size := by omega
  have s12_5 : w5.heap.size < w12.heap.size := by omega
  have hB12 : Below w.heap.size w w12 := below_seq (by repeat (first | exact hB11 | exact Below.refl _ _ | refine balloc ?_ _ | refine Below.drew ?_ | refine below_drewN ?_ _ | refine below_set ?_ (by first | omega | (dsimp only; omega)) _)) hb
  clear hb
  have m12_0_0 : w12.cell? ⟨w.heap.size, 0, none⟩ = some (.int .i64 a.x) := by go_simp
  have m12_0_1 : w12.cell? ⟨w.heap.size, 1, none⟩ = some (.int .i64 a.y) := by go_simp
  have m12_0_2 : w12.cell? ⟨w.heap.size, 2, none⟩ = some (.bool a.far) := by go_simp
  have m12_1_0 : w12.cell? ⟨w.heap.size + 1, 0, none⟩ = some (.int .i64 b.x) := by go_simp
  have m12_1_1 : w12.cell? ⟨w.heap.size + 1, 1, none⟩ = some (.int .i64 b.y) := by go_simp
  have m12_1_2 : w12.cell? ⟨w.heap.size + 1, 2, none⟩ = some (.bool b.far) := by go_simp
  have m12_2_0 : w12.cell? ⟨w3.heap.size, 0, none⟩ = some (.int .i64 N.x) := by go_simp
  have m12_2_1 : w12.cell? ⟨w3.heap.size, 1, none⟩ = some (.int .i64 N.y) := by go_simp
  have m12_2_2 : w12.cell? ⟨w3.heap.size, 2, none⟩ = some (.bool N.far) := by go_simp
  have m12_3_0 : w12.cell? ⟨w3.heap.size + 1, 0, none⟩ = some (.int .i64 S.x) := by go_simp
  have m12_3_1 : w12.cell? ⟨w3.heap.size + 1, 1, none⟩ = some (.int .i64 S.y) := by go_simp
  have m12_3_2 : w12.cell? ⟨w3.heap.size + 1, 2, none⟩ = some (.bool S.far) := by go_simp
  have m12_4_0 : w12.cell? ⟨w3.heap.size + 1 + 1, 0, none⟩ = some (.int .i64 0) := by go_simp
  have m12_4_1 : w12.cell? ⟨w3.heap.size + 1 + 1, 1, none⟩ = some (.int .i64 0) := by go_simp
  have m12_4_2 : w12.cell? ⟨w3.heap.size + 1 + 1, 2, none⟩ = some (.bool false) := by go_simp
  have m12_5_0 : w12.cell? ⟨w5.heap.size, 0, none⟩ = some (.int .i64 0) := by go_simp
  have m12_5_1 : w12.cell? ⟨w5.heap.size, 1, none⟩ = some (.int .i64 0) := by go_simp
  have m12_5_2 : w12.cell? ⟨w5.heap.size, 2, none⟩ = some (.bool false) := by go_simp
  clear m11_0_0 m11_0_1 m11_0_2 m11_1_0 m11_1_1 m11_1_2 m11_2_0 m11_2_1 m11_2_2 m11_3_0 m11_3_1 m11_3_2 m11_4_0 m11_4_1 m11_4_2 m11_5_0 m11_5_1 m11_5_2
  clear hc12
  go_wp2
  go_ret
  exact ⟨rfl, (by repeat (first | exact hB12 | exact Below.refl _ _ | refine balloc ?_ _ | refine Below.drew ?_ | refine below_drewN ?_ _ | refine below_set ?_ (by first | omega | (dsimp only; omega)) _))⟩
set_option maxHeartbeats 4000000 in
theorem ct_22 (a b : Sp) (x : Int) (w : World) (hF : FarAt w) (hE : ErrAt w) (ha : Hid (sCheck a = 0)) (oa : Ok a) (hb2 : Hid (sCheck b = 0)) (ob : Ok b) (N S : Sp) (hN : Hid (sTurned a = N)) (hS : Hid (sSum a b = S)) (hi : inside x = true) (hx : 0 ≤ x) (hx2 : x < 4051) (hs : isSq (height x) = false) : Calls Tryd.prog 18 #[spV a, spV b, .int .i64 x] w fun e w' => e = .returned (.bool true) ∧ Below w.heap.size w w' := by
  go_enter Tryd.func18, Tryd.ntmps18
  go_wp2_with fail
  refine (refSpot_e a 0 _ ha).mono ?_; rintro e w1 ⟨rfl, hb⟩
  obtain ⟨hc1, hf1⟩ := bcell hb
  have z1 := hb.size
  try simp only [World.size_alloc, World.size_setCell, World.size_drew] at z1
  have s1_0 : w.heap.size < w1.heap.size := by omega
  have s1_1 : w.heap.size + 1 < w1.heap.size := by omega
  have hB1 : Below w.heap.size w w1 := below_seq (by repeat (first | exact Below.refl _ _ | refine balloc ?_ _ | refine Below.drew ?_ | refine below_drewN ?_ _ | refine below_set ?_ (by first | omega | (dsimp only; omega)) _)) hb
  clear hb
  have m1_0_0 : w1.cell? ⟨w.heap.size, 0, none⟩ = some (.int .i64 a.x) := by go_simp
  have m1_0_1 : w1.cell? ⟨w.heap.size, 1, none⟩ = some (.int .i64 a.y) := by go_simp
  have m1_0_2 : w1.cell? ⟨w.heap.size, 2, none⟩ = some (.bool a.far) := by go_simp
  have m1_1_0 : w1.cell? ⟨w.heap.size + 1, 0, none⟩ = some (.int .i64 b.x) := by go_simp
  have m1_1_1 : w1.cell? ⟨w.heap.size + 1, 1, none⟩ = some (.int .i64 b.y) := by go_simp
  have m1_1_2 : w1.cell? ⟨w.heap.size + 1, 2, none⟩ = some (.bool b.far) := by go_simp
  clear hc1
  go_wp2_with fail
  refine (check_ok a _ (hF.below (by repeat (first | exact hB1 | exact Below.refl _ _ | refine balloc ?_ _ | refine Below.drew ?_ | refine below_drewN ?_ _ | refine below_set ?_ (by first | omega | (dsimp only; omega)) _))) oa).mono ?_; rintro e w2 ⟨rfl, hb⟩
  obtain ⟨hc2, hf2⟩ := bcell hb
  have z2 := hb.size
  try simp only [World.size_alloc, World.size_setCell, World.size_drew] at z2
  have s2_0 : w.heap.size < w2.heap.size := by omega
  have s2_1 : w.heap.size + 1 < w2.heap.size := by omega
  have hB2 : Below w.heap.size w w2 := below_seq (by repeat (first | exact hB1 | exact Below.refl _ _ | refine balloc ?_ _ | refine Below.drew ?_ | refine below_drewN ?_ _ | refine below_set ?_ (by first | omega | (dsimp only; omega)) _)) hb
  clear hb
  have m2_0_0 : w2.cell? ⟨w.heap.size, 0, none⟩ = some (.int .i64 a.x) := by go_simp
  have m2_0_1 : w2.cell? ⟨w.heap.size, 1, none⟩ = some (.int .i64 a.y) := by go_simp
  have m2_0_2 : w2.cell? ⟨w.heap.size, 2, none⟩ = some (.bool a.far) := by go_simp
  have m2_1_0 : w2.cell? ⟨w.heap.size + 1, 0, none⟩ = some (.int .i64 b.x) := by go_simp
  have m2_1_1 : w2.cell? ⟨w.heap.size + 1, 1, none⟩ = some (.int .i64 b.y) := by go_simp
  have m2_1_2 : w2.cell? ⟨w.heap.size + 1, 2, none⟩ = some (.bool b.far) := by go_simp
  clear m1_0_0 m1_0_1 m1_0_2 m1_1_0 m1_1_1 m1_1_2
  clear hc2
  go_wp2_with fail
  refine (error_nil 0 _ true rfl).mono ?_; rintro e w3 ⟨rfl, hb⟩
  obtain ⟨hc3, hf3⟩ := bcell hb
  have z3 := hb.size
  try simp only [World.size_alloc, World.size_setCell, World.size_drew] at z3
  have s3_0 : w.heap.size < w3.heap.size := by omega
  have s3_1 : w.heap.size + 1 < w3.heap.size := by omega
  have hB3 : Below w.heap.size w w3 := below_seq (by repeat (first | exact hB2 | exact Below.refl _ _ | refine balloc ?_ _ | refine Below.drew ?_ | refine below_drewN ?_ _ | refine below_set ?_ (by first | omega | (dsimp only; omega)) _)) hb
  clear hb
  have m3_0_0 : w3.cell? ⟨w.heap.size, 0, none⟩ = some (.int .i64 a.x) := by go_simp
  have m3_0_1 : w3.cell? ⟨w.heap.size, 1, none⟩ = some (.int .i64 a.y) := by go_simp
  have m3_0_2 : w3.cell? ⟨w.heap.size, 2, none⟩ = some (.bool a.far) := by go_simp
  have m3_1_0 : w3.cell? ⟨w.heap.size + 1, 0, none⟩ = some (.int .i64 b.x) := by go_simp
  have m3_1_1 : w3.cell? ⟨w.heap.size + 1, 1, none⟩ = some (.int .i64 b.y) := by go_simp
  have m3_1_2 : w3.cell? ⟨w.heap.size + 1, 2, none⟩ = some (.bool b.far) := by go_simp
  clear m2_0_0 m2_0_1 m2_0_2 m2_1_0 m2_1_1 m2_1_2
  clear hc3
  go_wp2_with fail
  refine (refNeg_e a N _ oa hN).mono ?_; rintro e w4 ⟨rfl, hb⟩
  obtain ⟨hc4, hf4⟩ := bcell hb
  have z4 := hb.size
  try simp only [World.size_alloc, World.size_setCell, World.size_drew] at z4
  have s4_0 : w.heap.size < w4.heap.size := by omega
  have s4_1 : w.heap.size + 1 < w4.heap.size := by omega
  have s4_2 : w3.heap.size < w4.heap.size := by omega
  have s4_3 : w3.heap.size + 1 < w4.heap.size := by omega
  have s4_4 : w3.heap.size + 1 + 1 < w4.heap.size := by omega
  have hB4 : Below w.heap.size w w4 := below_seq (by repeat (first | exact hB3 | exact Below.refl _ _ | refine balloc ?_ _ | refine Below.drew ?_ | refine below_drewN ?_ _ | refine below_set ?_ (by first | omega | (dsimp only; omega)) _)) hb
  clear hb
  have m4_0_0 : w4.cell? ⟨w.heap.size, 0, none⟩ = some (.int .i64 a.x) := by go_simp
  have m4_0_1 : w4.cell? ⟨w.heap.size, 1, none⟩ = some (.int .i64 a.y) := by go_simp
  have m4_0_2 : w4.cell? ⟨w.heap.size, 2, none⟩ = some (.bool a.far) := by go_simp
  have m4_1_0 : w4.cell? ⟨w.heap.size + 1, 0, none⟩ = some (.int .i64 b.x) := by go_simp
  have m4_1_1 : w4.cell? ⟨w.heap.size + 1, 1, none⟩ = some (.int .i64 b.y) := by go_simp
  have m4_1_2 : w4.cell? ⟨w.heap.size + 1, 2, none⟩ = some (.bool b.far) := by go_simp
  have m4_2_0 : w4.cell? ⟨w3.heap.size, 0, none⟩ = some (.int .i64 0) := by go_simp
  have m4_2_1 : w4.cell? ⟨w3.heap.size, 1, none⟩ = some (.int .i64 0) := by go_simp
  have m4_2_2 : w4.cell? ⟨w3.heap.size, 2, none⟩ = some (.bool false) := by go_simp
  have m4_3_0 : w4.cell? ⟨w3.heap.size + 1, 0, none⟩ = some (.int .i64 0) := by go_simp
  have m4_3_1 : w4.cell? ⟨w3.heap.size + 1, 1, none⟩ = some (.int .i64 0) := by go_simp
  have m4_3_2 : w4.cell? ⟨w3.heap.size + 1, 2, none⟩ = some (.bool false) := by go_simp
  have m4_4_0 : w4.cell? ⟨w3.heap.size + 1 + 1, 0, none⟩ = some (.int .i64 0) := by go_simp
  have m4_4_1 : w4.cell? ⟨w3.heap.size + 1 + 1, 1, none⟩ = some (.int .i64 0) := by go_simp
  have m4_4_2 : w4.cell? ⟨w3.heap.size + 1 + 1, 2, none⟩ = some (.bool false) := by go_simp
  clear m3_0_0 m3_0_1 m3_0_2 m3_1_0 m3_1_1 m3_1_2
  clear hc4
  go_wp2_with fail
  refine (neg_e a N _ (hF.below (by repeat (first | exact hB4 | exact Below.refl _ _ | refine balloc ?_ _ | refine Below.drew ?_ | refine below_drewN ?_ _ | refine below_set ?_ (by first | omega | (dsimp only; omega)) _))) oa hN).mono ?_; rintro e w5 ⟨rfl, hb⟩
  obtain ⟨hc5, hf5⟩ := bcell hb
  have z5 := hb.size
  try simp only [World.size_alloc, World.size_setCell, World.size_drew] at z5
  have s5_0 : w.heap.size < w5.heap.size := by omega
  have s5_1 : w.heap.size + 1 < w5.heap.size := by omega
  have s5_2 : w3.heap.size < w5.heap.size := by omega
  have s5_3 : w3.heap.size + 1 < w5.heap.size := by omega
  have s5_4 : w3.heap.size + 1 + 1 < w5.heap.size := by omega
  have hB5 : Below w.heap.size w w5 := below_seq (by repeat (first | exact hB4 | exact Below.refl _ _ | refine balloc ?_ _ | refine Below.drew ?_ | refine below_drewN ?_ _ | refine below_set ?_ (by first | omega | (dsimp only; omega)) _)) hb
  clear hb
  have m5_0_0 : w5.cell? ⟨w.heap.size, 0, none⟩ = some (.int .i64 a.x) := by go_simp
  have m5_0_1 : w5.cell? ⟨w.heap.size, 1, none⟩ = some (.int .i64 a.y) := by go_simp
  have m5_0_2 : w5.cell? ⟨w.heap.size, 2, none⟩ = some (.bool a.far) := by go_simp
  have m5_1_0 : w5.cell? ⟨w.heap.size + 1, 0, none⟩ = some (.int .i64 b.x) := by go_simp
  have m5_1_1 : w5.cell? ⟨w.heap.size + 1, 1, none⟩ = some (.int .i64 b.y) := by go_simp
  have m5_1_2 : w5.cell? ⟨w.heap.size + 1, 2, none⟩ = some (.bool b.far) := by go_simp
  have m5_2_0 : w5.cell? ⟨w3.heap.size, 0, none⟩ = some (.int .i64 N.x) := by go_simp
  have m5_2_1 : w5.cell? ⟨w3.heap.size, 1, none⟩ = some (.int .i64 N.y) := by go_simp
  have m5_2_2 : w5.cell? ⟨w3.heap.size, 2, none⟩ = some (.bool N.far) := by go_simp
  have m5_3_0 : w5.cell? ⟨w3.heap.size + 1, 0, none⟩ = some (.int .i64 0) := by go_simp
  have m5_3_1 : w5.cell? ⟨w3.heap.size + 1, 1, none⟩ = some (.int .i64 0) := by go_simp
  have m5_3_2 : w5.cell? ⟨w3.heap.size + 1, 2, none⟩ = some (.bool false) := by go_simp
  have m5_4_0 : w5.cell? ⟨w3.heap.size + 1 + 1, 0, none⟩ = some (.int .i64 0) := by go_simp
  have m5_4_1 : w5.cell? ⟨w3.heap.size + 1 + 1, 1, none⟩ = some (.int .i64 0) := by go_simp
  have m5_4_2 : w5.cell? ⟨w3.heap.size + 1 + 1, 2, none⟩ = some (.bool false) := by go_simp
  clear m4_0_0 m4_0_1 m4_0_2 m4_1_0 m4_1_1 m4_1_2 m4_2_0 m4_2_1 m4_2_2 m4_3_0 m4_3_1 m4_3_2 m4_4_0 m4_4_1 m4_4_2
  clear hc5
  go_wp2_with fail
  refine (error_nil 0 _ true rfl).mono ?_; rintro e w6 ⟨rfl, hb⟩
  obtain ⟨hc6, hf6⟩ := bcell hb
  have z6 := hb.size
  try simp only [World.size_alloc, World.size_setCell, World.size_drew] at z6
  have s6_0 : w.heap.size < w6.heap.size := by omega
  have s6_1 : w.heap.size + 1 < w6.heap.size := by omega
  have s6_2 : w3.heap.size < w6.heap.size := by omega
  have s6_3 : w3.heap.size + 1 < w6.heap.size := by omega
  have s6_4 : w3.heap.size + 1 + 1 < w6.heap.size := by omega
  have s6_5 : w5.heap.size < w6.heap.size := by omega
  have hB6 : Below w.heap.size w w6 := below_seq (by repeat (first | exact hB5 | exact Below.refl _ _ | refine balloc ?_ _ | refine Below.drew ?_ | refine below_drewN ?_ _ | refine below_set ?_ (by first | omega | (dsimp only; omega)) _)) hb
  clear hb
  have m6_0_0 : w6.cell? ⟨w.heap.size, 0, none⟩ = some (.int .i64 a.x) := by go_simp
  have m6_0_1 : w6.cell? ⟨w.heap.size, 1, none⟩ = some (.int .i64 a.y) := by go_simp
  have m6_0_2 : w6.cell? ⟨w.heap.size, 2, none⟩ = some (.bool a.far) := by go_simp
  have m6_1_0 : w6.cell? ⟨w.heap.size + 1, 0, none⟩ = some (.int .i64 b.x) := by go_simp
  have m6_1_1 : w6.cell? ⟨w.heap.size + 1, 1, none⟩ = some (.int .i64 b.y) := by go_simp
  have m6_1_2 : w6.cell? ⟨w.heap.size + 1, 2, none⟩ = some (.bool b.far) := by go_simp
  have m6_2_0 : w6.cell? ⟨w3.heap.size, 0, none⟩ = some (.int .i64 N.x) := by go_simp
  have m6_2_1 : w6.cell? ⟨w3.heap.size, 1, none⟩ = some (.int .i64 N.y) := by go_simp
  have m6_2_2 : w6.cell? ⟨w3.heap.size, 2, none⟩ = some (.bool N.far) := by go_simp
  have m6_3_0 : w6.cell? ⟨w3.heap.size + 1, 0, none⟩ = some (.int .i64 0) := by go_simp
  have m6_3_1 : w6.cell? ⟨w3.heap.size + 1, 1, none⟩ = some (.int .i64 0) := by go_simp
  have m6_3_2 : w6.cell? ⟨w3.heap.size + 1, 2, none⟩ = some (.bool false) := by go_simp
  have m6_4_0 : w6.cell? ⟨w3.heap.size + 1 + 1, 0, none⟩ = some (.int .i64 0) := by go_simp
  have m6_4_1 : w6.cell? ⟨w3.heap.size + 1 + 1, 1, none⟩ = some (.int .i64 0) := by go_simp
  have m6_4_2 : w6.cell? ⟨w3.heap.size + 1 + 1, 2, none⟩ = some (.bool false) := by go_simp
  have m6_5_0 : w6.cell? ⟨w5.heap.size, 0, none⟩ = some (.int .i64 N.x) := by go_simp
  have m6_5_1 : w6.cell? ⟨w5.heap.size, 1, none⟩ = some (.int .i64 N.y) := by go_simp
  have m6_5_2 : w6.cell? ⟨w5.heap.size, 2, none⟩ = some (.bool N.far) := by go_simp
  clear m5_0_0 m5_0_1 m5_0_2 m5_1_0 m5_1_1 m5_1_2 m5_2_0 m5_2_1 m5_2_2 m5_3_0 m5_3_1 m5_3_2 m5_4_0 m5_4_1 m5_4_2
  clear hc6
  go_wp2_with fail
  refine (refSpot_e b 0 _ hb2).mono ?_; rintro e w7 ⟨rfl, hb⟩
  obtain ⟨hc7, hf7⟩ := bcell hb
  have z7 := hb.size
  try simp only [World.size_alloc, World.size_setCell, World.size_drew] at z7
  have s7_0 : w.heap.size < w7.heap.size := by omega
  have s7_1 : w.heap.size + 1 < w7.heap.size := by omega
  have s7_2 : w3.heap.size < w7.heap.size := by omega
  have s7_3 : w3.heap.size + 1 < w7.heap.size := by omega
  have s7_4 : w3.heap.size + 1 + 1 < w7.heap.size := by omega
  have s7_5 : w5.heap.size < w7.heap.size := by omega
  have hB7 : Below w.heap.size w w7 := below_seq (by repeat (first | exact hB6 | exact Below.refl _ _ | refine balloc ?_ _ | refine Below.drew ?_ | refine below_drewN ?_ _ | refine below_set ?_ (by first | omega | (dsimp only; omega)) _)) hb
  clear hb
  have m7_0_0 : w7.cell? ⟨w.heap.size, 0, none⟩ = some (.int .i64 a.x) := by go_simp
  have m7_0_1 : w7.cell? ⟨w.heap.size, 1, none⟩ = some (.int .i64 a.y) := by go_simp
  have m7_0_2 : w7.cell? ⟨w.heap.size, 2, none⟩ = some (.bool a.far) := by go_simp
  have m7_1_0 : w7.cell? ⟨w.heap.size + 1, 0, none⟩ = some (.int .i64 b.x) := by go_simp
  have m7_1_1 : w7.cell? ⟨w.heap.size + 1, 1, none⟩ = some (.int .i64 b.y) := by go_simp
  have m7_1_2 : w7.cell? ⟨w.heap.size + 1, 2, none⟩ = some (.bool b.far) := by go_simp
  have m7_2_0 : w7.cell? ⟨w3.heap.size, 0, none⟩ = some (.int .i64 N.x) := by go_simp
  have m7_2_1 : w7.cell? ⟨w3.heap.size, 1, none⟩ = some (.int .i64 N.y) := by go_simp
  have m7_2_2 : w7.cell? ⟨w3.heap.size, 2, none⟩ = some (.bool N.far) := by go_simp
  have m7_3_0 : w7.cell? ⟨w3.heap.size + 1, 0, none⟩ = some (.int .i64 0) := by go_simp
  have m7_3_1 : w7.cell? ⟨w3.heap.size + 1, 1, none⟩ = some (.int .i64 0) := by go_simp
  have m7_3_2 : w7.cell? ⟨w3.heap.size + 1, 2, none⟩ = some (.bool false) := by go_simp
  have m7_4_0 : w7.cell? ⟨w3.heap.size + 1 + 1, 0, none⟩ = some (.int .i64 0) := by go_simp
  have m7_4_1 : w7.cell? ⟨w3.heap.size + 1 + 1, 1, none⟩ = some (.int .i64 0) := by go_simp
  have m7_4_2 : w7.cell? ⟨w3.heap.size + 1 + 1, 2, none⟩ = some (.bool false) := by go_simp
  have m7_5_0 : w7.cell? ⟨w5.heap.size, 0, none⟩ = some (.int .i64 N.x) := by go_simp
  have m7_5_1 : w7.cell? ⟨w5.heap.size, 1, none⟩ = some (.int .i64 N.y) := by go_simp
  have m7_5_2 : w7.cell? ⟨w5.heap.size, 2, none⟩ = some (.bool N.far) := by go_simp
  clear m6_0_0 m6_0_1 m6_0_2 m6_1_0 m6_1_1 m6_1_2 m6_2_0 m6_2_1 m6_2_2 m6_3_0 m6_3_1 m6_3_2 m6_4_0 m6_4_1 m6_4_2 m6_5_0 m6_5_1 m6_5_2
  clear hc7
  go_wp2_with fail
  refine (refAdd_e a b S _ oa ob hS).mono ?_; rintro e w8 ⟨rfl, hb⟩
  obtain ⟨hc8, hf8⟩ := bcell hb
  have z8 := hb.size
  try simp only [World.size_alloc, World.size_setCell, World.size_drew] at z8
  have s8_0 : w.heap.size < w8.heap.size := by omega
  have s8_1 : w.heap.size + 1 < w8.heap.size := by omega
  have s8_2 : w3.heap.size < w8.heap.size := by omega
  have s8_3 : w3.heap.size + 1 < w8.heap.size := by omega
  have s8_4 : w3.heap.size + 1 + 1 < w8.heap.size := by omega
  have s8_5 : w5.heap.size < w8.heap.size := by omega
  have hB8 : Below w.heap.size w w8 := below_seq (by repeat (first | exact hB7 | exact Below.refl _ _ | refine balloc ?_ _ | refine Below.drew ?_ | refine below_drewN ?_ _ | refine below_set ?_ (by first | omega | (dsimp only; omega)) _)) hb
  clear hb
  have m8_0_0 : w8.cell? ⟨w.heap.size, 0, none⟩ = some (.int .i64 a.x) := by go_simp
  have m8_0_1 : w8.cell? ⟨w.heap.size, 1, none⟩ = some (.int .i64 a.y) := by go_simp
  have m8_0_2 : w8.cell? ⟨w.heap.size, 2, none⟩ = some (.bool a.far) := by go_simp
  have m8_1_0 : w8.cell? ⟨w.heap.size + 1, 0, none⟩ = some (.int .i64 b.x) := by go_simp
  have m8_1_1 : w8.cell? ⟨w.heap.size + 1, 1, none⟩ = some (.int .i64 b.y) := by go_simp
  have m8_1_2 : w8.cell? ⟨w.heap.size + 1, 2, none⟩ = some (.bool b.far) := by go_simp
  have m8_2_0 : w8.cell? ⟨w3.heap.size, 0, none⟩ = some (.int .i64 N.x) := by go_simp
  have m8_2_1 : w8.cell? ⟨w3.heap.size, 1, none⟩ = some (.int .i64 N.y) := by go_simp
  have m8_2_2 : w8.cell? ⟨w3.heap.size, 2, none⟩ = some (.bool N.far) := by go_simp
  have m8_3_0 : w8.cell? ⟨w3.heap.size + 1, 0, none⟩ = some (.int .i64 0) := by go_simp
  have m8_3_1 : w8.cell? ⟨w3.heap.size + 1, 1, none⟩ = some (.int .i64 0) := by go_simp
  have m8_3_2 : w8.cell? ⟨w3.heap.size + 1, 2, none⟩ = some (.bool false) := by go_simp
  have m8_4_0 : w8.cell? ⟨w3.heap.size + 1 + 1, 0, none⟩ = some (.int .i64 0) := by go_simp
  have m8_4_1 : w8.cell? ⟨w3.heap.size + 1 + 1, 1, none⟩ = some (.int .i64 0) := by go_simp
  have m8_4_2 : w8.cell? ⟨w3.heap.size + 1 + 1, 2, none⟩ = some (.bool false) := by go_simp
  have m8_5_0 : w8.cell? ⟨w5.heap.size, 0, none⟩ = some (.int .i64 N.x) := by go_simp
  have m8_5_1 : w8.cell? ⟨w5.heap.size, 1, none⟩ = some (.int .i64 N.y) := by go_simp
  have m8_5_2 : w8.cell? ⟨w5.heap.size, 2, none⟩ = some (.bool N.far) := by go_simp
  clear m7_0_0 m7_0_1 m7_0_2 m7_1_0 m7_1_1 m7_1_2 m7_2_0 m7_2_1 m7_2_2 m7_3_0 m7_3_1 m7_3_2 m7_4_0 m7_4_1 m7_4_2 m7_5_0 m7_5_1 m7_5_2
  clear hc8
  go_wp2_with fail
  refine (add_e a b S _ (hF.below (by repeat (first | exact hB8 | exact Below.refl _ _ | refine balloc ?_ _ | refine Below.drew ?_ | refine below_drewN ?_ _ | refine below_set ?_ (by first | omega | (dsimp only; omega)) _))) oa ob hS).mono ?_; rintro e w9 ⟨rfl, hb⟩
  obtain ⟨hc9, hf9⟩ := bcell hb
  have z9 := hb.size
  try simp only [World.size_alloc, World.size_setCell, World.size_drew] at z9
  have s9_0 : w.heap.size < w9.heap.size := by omega
  have s9_1 : w.heap.size + 1 < w9.heap.size := by omega
  have s9_2 : w3.heap.size < w9.heap.size := by omega
  have s9_3 : w3.heap.size + 1 < w9.heap.size := by omega
  have s9_4 : w3.heap.size + 1 + 1 < w9.heap.size := by omega
  have s9_5 : w5.heap.size < w9.heap.size := by omega
  have hB9 : Below w.heap.size w w9 := below_seq (by repeat (first | exact hB8 | exact Below.refl _ _ | refine balloc ?_ _ | refine Below.drew ?_ | refine below_drewN ?_ _ | refine below_set ?_ (by first | omega | (dsimp only; omega)) _)) hb
  clear hb
  have m9_0_0 : w9.cell? ⟨w.heap.size, 0, none⟩ = some (.int .i64 a.x) := by go_simp
  have m9_0_1 : w9.cell? ⟨w.heap.size, 1, none⟩ = some (.int .i64 a.y) := by go_simp
  have m9_0_2 : w9.cell? ⟨w.heap.size, 2, none⟩ = some (.bool a.far) := by go_simp
  have m9_1_0 : w9.cell? ⟨w.heap.size + 1, 0, none⟩ = some (.int .i64 b.x) := by go_simp
  have m9_1_1 : w9.cell? ⟨w.heap.size + 1, 1, none⟩ = some (.int .i64 b.y) := by go_simp
  have m9_1_2 : w9.cell? ⟨w.heap.size + 1, 2, none⟩ = some (.bool b.far) := by go_simp
  have m9_2_0 : w9.cell? ⟨w3.heap.size, 0, none⟩ = some (.int .i64 N.x) := by go_simp
  have m9_2_1 : w9.cell? ⟨w3.heap.size, 1, none⟩ = some (.int .i64 N.y) := by go_simp
  have m9_2_2 : w9.cell? ⟨w3.heap.size, 2, none⟩ = some (.bool N.far) := by go_simp
  have m9_3_0 : w9.cell? ⟨w3.heap.size + 1, 0, none⟩ = some (.int .i64 S.x) := by go_simp
  have m9_3_1 : w9.cell? ⟨w3.heap.size + 1, 1, none⟩ = some (.int .i64 S.y) := by go_simp
  have m9_3_2 : w9.cell? ⟨w3.heap.size + 1, 2, none⟩ = some (.bool S.far) := by go_simp
  have m9_4_0 : w9.cell? ⟨w3.heap.size + 1 + 1, 0, none⟩ = some (.int .i64 0) := by go_simp
  have m9_4_1 : w9.cell? ⟨w3.heap.size + 1 + 1, 1, none⟩ = some (.int .i64 0) := by go_simp
  have m9_4_2 : w9.cell? ⟨w3.heap.size + 1 + 1, 2, none⟩ = some (.bool false) := by go_simp
  have m9_5_0 : w9.cell? ⟨w5.heap.size, 0, none⟩ = some (.int .i64 N.x) := by go_simp
  have m9_5_1 : w9.cell? ⟨w5.heap.size, 1, none⟩ = some (.int .i64 N.y) := by go_simp
  have m9_5_2 : w9.cell? ⟨w5.heap.size, 2, none⟩ = some (.bool N.far) := by go_simp
  clear m8_0_0 m8_0_1 m8_0_2 m8_1_0 m8_1_1 m8_1_2 m8_2_0 m8_2_1 m8_2_2 m8_3_0 m8_3_1 m8_3_2 m8_4_0 m8_4_1 m8_4_2 m8_5_0 m8_5_1 m8_5_2
  clear hc9
  go_wp2_with fail
  refine (error_nil 0 _ true rfl).mono ?_; rintro e w10 ⟨rfl, hb⟩
  obtain ⟨hc10, hf10⟩ := bcell hb
  have z10 := hb.size
  try simp only [World.size_alloc, World.size_setCell, World.size_drew] at z10
  have s10_0 : w.heap.size < w10.heap.size := by omega
  have s10_1 : w.heap.size + 1 < w10.heap.size := by omega
  have s10_2 : w3.heap.size < w10.heap.size := by omega
  have s10_3 : w3.heap.size + 1 < w10.heap.size := by omega
  have s10_4 : w3.heap.size + 1 + 1 < w10.heap.size := by omega
  have s10_5 : w5.heap.size < w10.heap.size := by omega
  have hB10 : Below w.heap.size w w10 := below_seq (by repeat (first | exact hB9 | exact Below.refl _ _ | refine balloc ?_ _ | refine Below.drew ?_ | refine below_drewN ?_ _ | refine below_set ?_ (by first | omega | (dsimp only; omega)) _)) hb
  clear hb
  have m10_0_0 : w10.cell? ⟨w.heap.size, 0, none⟩ = some (.int .i64 a.x) := by go_simp
  have m10_0_1 : w10.cell? ⟨w.heap.size, 1, none⟩ = some (.int .i64 a.y) := by go_simp
  have m10_0_2 : w10.cell? ⟨w.heap.size, 2, none⟩ = some (.bool a.far) := by go_simp
  have m10_1_0 : w10.cell? ⟨w.heap.size + 1, 0, none⟩ = some (.int .i64 b.x) := by go_simp
  have m10_1_1 : w10.cell? ⟨w.heap.size + 1, 1, none⟩ = some (.int .i64 b.y) := by go_simp
  have m10_1_2 : w10.cell? ⟨w.heap.size + 1, 2, none⟩ = some (.bool b.far) := by go_simp
  have m10_2_0 : w10.cell? ⟨w3.heap.size, 0, none⟩ = some (.int .i64 N.x) := by go_simp
  have m10_2_1 : w10.cell? ⟨w3.heap.size, 1, none⟩ = some (.int .i64 N.y) := by go_simp
  have m10_2_2 : w10.cell? ⟨w3.heap.size, 2, none⟩ = some (.bool N.far) := by go_simp
  have m10_3_0 : w10.cell? ⟨w3.heap.size + 1, 0, none⟩ = some (.int .i64 S.x) := by go_simp
  have m10_3_1 : w10.cell? ⟨w3.heap.size + 1, 1, none⟩ = some (.int .i64 S.y) := by go_simp
  have m10_3_2 : w10.cell? ⟨w3.heap.size + 1, 2, none⟩ = some (.bool S.far) := by go_simp
  have m10_4_0 : w10.cell? ⟨w3.heap.size + 1 + 1, 0, none⟩ = some (.int .i64 0) := by go_simp
  have m10_4_1 : w10.cell? ⟨w3.heap.size + 1 + 1, 1, none⟩ = some (.int .i64 0) := by go_simp
  have m10_4_2 : w10.cell? ⟨w3.heap.size + 1 + 1, 2, none⟩ = some (.bool false) := by go_simp
  have m10_5_0 : w10.cell? ⟨w5.heap.size, 0, none⟩ = some (.int .i64 S.x) := by go_simp
  have m10_5_1 : w10.cell? ⟨w5.heap.size, 1, none⟩ = some (.int .i64 S.y) := by go_simp
  have m10_5_2 : w10.cell? ⟨w5.heap.size, 2, none⟩ = some (.bool S.far) := by go_simp
  clear m9_0_0 m9_0_1 m9_0_2 m9_1_0 m9_1_1 m9_1_2 m9_2_0 m9_2_1 m9_2_2 m9_3_0 m9_3_1 m9_3_2 m9_4_0 m9_4_1 m9_4_2 m9_5_0 m9_5_1 m9_5_2
  clear hc10
  go_wp2_with fail
  refine (refLift_n x _ hi hs).mono ?_; rintro e w11 ⟨rfl, hb⟩
  obtain ⟨hc11, hf11⟩ := bcell hb
  have z11 := hb.size
  try simp only [World.size_alloc, World.size_setCell, World.size_drew] at z11
  have s11_0 : w.heap.size < w11.heap.size := by omega
  have s11_1 : w.heap.size + 1 < w11.heap.size := by omega
  have s11_2 : w3.heap.size < w11.heap.size := by omega
  have s11_3 : w3.heap.size + 1 < w11.heap.size := by omega
  have s11_4 : w3.heap.size + 1 + 1 < w11.heap.size := by omega
  have s11_5 : w5.heap.size < w11.heap.size := by omega
  have hB11 : Below w.heap.size w w11 := below_seq (by repeat (first | exact hB10 | exact Below.refl _ _ | refine balloc ?_ _ | refine Below.drew ?_ | refine below_drewN ?_ _ | refine below_set ?_ (by first | omega | (dsimp only; omega)) _)) hb
  clear hb
  have m11_0_0 : w11.cell? ⟨w.heap.size, 0, none⟩ = some (.int .i64 a.x) := by go_simp
  have m11_0_1 : w11.cell? ⟨w.heap.size, 1, none⟩ = some (.int .i64 a.y) := by go_simp
  have m11_0_2 : w11.cell? ⟨w.heap.size, 2, none⟩ = some (.bool a.far) := by go_simp
  have m11_1_0 : w11.cell? ⟨w.heap.size + 1, 0, none⟩ = some (.int .i64 b.x) := by go_simp
  have m11_1_1 : w11.cell? ⟨w.heap.size + 1, 1, none⟩ = some (.int .i64 b.y) := by go_simp
  have m11_1_2 : w11.cell? ⟨w.heap.size + 1, 2, none⟩ = some (.bool b.far) := by go_simp
  have m11_2_0 : w11.cell? ⟨w3.heap.size, 0, none⟩ = some (.int .i64 N.x) := by go_simp
  have m11_2_1 : w11.cell? ⟨w3.heap.size, 1, none⟩ = some (.int .i64 N.y) := by go_simp
  have m11_2_2 : w11.cell? ⟨w3.heap.size, 2, none⟩ = some (.bool N.far) := by go_simp
  have m11_3_0 : w11.cell? ⟨w3.heap.size + 1, 0, none⟩ = some (.int .i64 S.x) := by go_simp
  have m11_3_1 : w11.cell? ⟨w3.heap.size + 1, 1, none⟩ = some (.int .i64 S.y) := by go_simp
  have m11_3_2 : w11.cell? ⟨w3.heap.size + 1, 2, none⟩ = some (.bool S.far) := by go_simp
  have m11_4_0 : w11.cell? ⟨w3.heap.size + 1 + 1, 0, none⟩ = some (.int .i64 0) := by go_simp
  have m11_4_1 : w11.cell? ⟨w3.heap.size + 1 + 1, 1, none⟩ = some (.int .i64 0) := by go_simp
  have m11_4_2 : w11.cell? ⟨w3.heap.size + 1 + 1, 2, none⟩ = some (.bool false) := by go_simp
  have m11_5_0 : w11.cell? ⟨w5.heap.size, 0, none⟩ = some (.int .i64 S.x) := by go_simp
  have m11_5_1 : w11.cell? ⟨w5.heap.size, 1, none⟩ = some (.int .i64 S.y) := by go_simp
  have m11_5_2 : w11.cell? ⟨w5.heap.size, 2, none⟩ = some (.bool S.far) := by go_simp
  clear m10_0_0 m10_0_1 m10_0_2 m10_1_0 m10_1_1 m10_1_2 m10_2_0 m10_2_1 m10_2_2 m10_3_0 m10_3_1 m10_3_2 m10_4_0 m10_4_1 m10_4_2 m10_5_0 m10_5_1 m10_5_2
  clear hc11
  go_wp2_with fail
  refine (lift_no x _ hi hs).mono ?_; rintro e w12 ⟨rfl, hb⟩
  obtain ⟨hc12, hf12⟩ := bcell hb
  have z12 := hb.size
  try simp only [World.size_alloc, World.size_setCell, World.size_drew] at z12
  have s12_0 : w.heap.size < w12.heap.size := by omega
  have s12_1 : w.heap.size + 1 < w12.heap.size := by omega
  have s12_2 : w3.heap.size < w12.heap.size := by omega
  have s12_3 : w3.heap.size + 1 < w12.heap.size := by omega
  have s12_4 : w3.heap.size + 1 + 1 < w12.heap.size := by omega
  have s12_5 : w5.heap.size < w12.heap.size := by omega
  have s12_6 : w11.heap.size < w12.heap.size := by omega
  have hB12 : Below w.heap.size w w12 := below_seq (by repeat (first | exact hB11 | exact Below.refl _ _ | refine balloc ?_ _ | refine Below.drew ?_ | refine below_drewN ?_ _ | refine below_set ?_ (by first | omega | (dsimp only; omega)) _)) hb
  clear hb
  have m12_0_0 : w12.cell? ⟨w.heap.size, 0, none⟩ = some (.int .i64 a.x) := by go_simp
  have m12_0_1 : w12.cell? ⟨w.heap.size, 1, none⟩ = some (.int .i64 a.y) := by go_simp
  have m12_0_2 : w12.cell? ⟨w.heap.size, 2, none⟩ = some (.bool a.far) := by go_simp
  have m12_1_0 : w12.cell? ⟨w.heap.size + 1, 0, none⟩ = some (.int .i64 b.x) := by go_simp
  have m12_1_1 : w12.cell? ⟨w.heap.size + 1, 1, none⟩ = some (.int .i64 b.y) := by go_simp
  have m12_1_2 : w12.cell? ⟨w.heap.size + 1, 2, none⟩ = some (.bool b.far) := by go_simp
  have m12_2_0 : w12.cell? ⟨w3.heap.size, 0, none⟩ = some (.int .i64 N.x) := by go_simp
  have m12_2_1 : w12.cell? ⟨w3.heap.size, 1, none⟩ = some (.int .i64 N.y) := by go_simp
  have m12_2_2 : w12.cell? ⟨w3.heap.size, 2, none⟩ = some (.bool N.far) := by go_simp
  have m12_3_0 : w12.cell? ⟨w3.heap.size + 1, 0, none⟩ = some (.int .i64 S.x) := by go_simp
  have m12_3_1 : w12.cell? ⟨w3.heap.size + 1, 1, none⟩ = some (.int .i64 S.y) := by go_simp
  have m12_3_2 : w12.cell? ⟨w3.heap.size + 1, 2, none⟩ = some (.bool S.far) := by go_simp
  have m12_4_0 : w12.cell? ⟨w3.heap.size + 1 + 1, 0, none⟩ = some (.int .i64 0) := by go_simp
  have m12_4_1 : w12.cell? ⟨w3.heap.size + 1 + 1, 1, none⟩ = some (.int .i64 0) := by go_simp
  have m12_4_2 : w12.cell? ⟨w3.heap.size + 1 + 1, 2, none⟩ = some (.bool false) := by go_simp
  have m12_5_0 : w12.cell? ⟨w5.heap.size, 0, none⟩ = some (.int .i64 S.x) := by go_simp
  have m12_5_1 : w12.cell? ⟨w5.heap.size, 1, none⟩ = some (.int .i64 S.y) := by go_simp
  have m12_5_2 : w12.cell? ⟨w5.heap.size, 2, none⟩ = some (.bool S.far) := by go_simp
  clear m11_0_0 m11_0_1 m11_0_2 m11_1_0 m11_1_1 m11_1_2 m11_2_0 m11_2_1 m11_2_2 m11_3_0 m11_3_1 m11_3_2 m11_4_0 m11_4_1 m11_4_2 m11_5_0 m11_5_1 m11_5_2
  clear hc12
  go_wp2_with fail
  refine (error_err 5 5 _ (hE.below (by repeat (first | exact hB12 | exact Below.refl _ _ | refine balloc ?_ _ | refine Below.drew ?_ | refine below_drewN ?_ _ | refine below_set ?_ (by first | omega | (dsimp only; omega)) _))) true rfl).mono ?_; rintro e w13 ⟨rfl, hb⟩
  obtain ⟨hc13, hf13⟩ := bcell hb
  have z13 := hb.size
  try simp only [World.size_alloc, World.size_setCell, World.size_drew] at z13
  have s13_0 : w.heap.size < w13.heap.size := by omega
  have s13_1 : w.heap.size + 1 < w13.heap.size := by omega
  have s13_2 : w3.heap.size < w13.heap.size := by omega
  have s13_3 : w3.heap.size + 1 < w13.heap.size := by omega
  have s13_4 : w3.heap.size + 1 + 1 < w13.heap.size := by omega
  have s13_5 : w5.heap.size < w13.heap.size := by omega
  have s13_6 : w11.heap.size < w13.heap.size := by omega
  have hB13 : Below w.heap.size w w13 := below_seq (by repeat (first | exact hB12 | exact Below.refl _ _ | refine balloc ?_ _ | refine Below.drew ?_ | refine below_drewN ?_ _ | refine below_set ?_ (by first | omega | (dsimp only; omega)) _)) hb
  clear hb
  have m13_0_0 : w13.cell? ⟨w.heap.size, 0, none⟩ = some (.int .i64 a.x) := by go_simp
  have m13_0_1 : w13.cell? ⟨w.heap.size, 1, none⟩ = some (.int .i64 a.y) := by go_simp
  have m13_0_2 : w13.cell? ⟨w.heap.size, 2, none⟩ = some (.bool a.far) := by go_simp
  have m13_1_0 : w13.cell? ⟨w.heap.size + 1, 0, none⟩ = some (.int .i64 b.x) := by go_simp
  have m13_1_1 : w13.cell? ⟨w.heap.size + 1, 1, none⟩ = some (.int .i64 b.y) := by go_simp
  have m13_1_2 : w13.cell? ⟨w.heap.size + 1, 2, none⟩ = some (.bool b.far) := by go_simp
  have m13_2_0 : w13.cell? ⟨w3.heap.size, 0, none⟩ = some (.int .i64 N.x) := by go_simp
  have m13_2_1 : w13.cell? ⟨w3.heap.size, 1, none⟩ = some (.int .i64 N.y) := by go_simp
  have m13_2_2 : w13.cell? ⟨w3.heap.size, 2, none⟩ = some (.bool N.far) := by go_simp
  have m13_3_0 : w13.cell? ⟨w3.heap.size + 1, 0, none⟩ = some (.int .i64 S.x) := by go_simp
  have m13_3_1 : w13.cell? ⟨w3.heap.size + 1, 1, none⟩ = some (.int .i64 S.y) := by go_simp
  have m13_3_2 : w13.cell? ⟨w3.heap.size + 1, 2, none⟩ = some (.bool S.far) := by go_simp
  have m13_4_0 : w13.cell? ⟨w3.heap.size + 1 + 1, 0, none⟩ = some (.int .i64 0) := by go_simp
  have m13_4_1 : w13.cell? ⟨w3.heap.size + 1 + 1, 1, none⟩ = some (.int .i64 0) := by go_simp
  have m13_4_2 : w13.cell? ⟨w3.heap.size + 1 + 1, 2, none⟩ = some (.bool false) := by go_simp
  have m13_5_0 : w13.cell? ⟨w5.heap.size, 0, none⟩ = some (.int .i64 0) := by go_simp
  have m13_5_1 : w13.cell? ⟨w5.heap.size, 1, none⟩ = some (.int .i64 0) := by go_simp
  have m13_5_2 : w13.cell? ⟨w5.heap.size, 2, none⟩ = some (.bool false) := by go_simp
  clear m12_0_0 m12_0_1 m12_0_2 m12_1_0 m12_1_1 m12_1_2 m12_2_0 m12_2_1 m12_2_2 m12_3_0 m12_3_1 m12_3_2 m12_4_0 m12_4_1 m12_4_2 m12_5_0 m12_5_1 m12_5_2
  clear hc13
  go_wp2
  go_ret
  exact ⟨rfl, (by repeat (first | exact hB13 | exact Below.refl _ _ | refine balloc ?_ _ | refine Below.drew ?_ | refine below_drewN ?_ _ | refine below_set ?_ (by first | omega | (dsimp only; omega)) _))⟩
set_option maxHeartbeats 4000000 in
theorem ct_23 (a b : Sp) (x : Int) (w : World) (hF : FarAt w) (hE : ErrAt w) (ha : Hid (sCheck a = 0)) (oa : Ok a) (hb2 : Hid (sCheck b = 0)) (ob : Ok b) (N S : Sp) (hN : Hid (sTurned a = N)) (hS : Hid (sSum a b = S)) (hi : inside x = true) (hx : 0 ≤ x) (hx2 : x < 4051) (hs : isSq (height x) = true) (T : Sp) (hT : Hid (lifted x = T)) : Calls Tryd.prog 18 #[spV a, spV b, .int .i64 x] w fun e w' => e = .returned (.bool true) ∧ Below w.heap.size w w' := by
  go_enter Tryd.func18, Tryd.ntmps18
  go_wp2_with fail
  refine (refSpot_e a 0 _ ha).mono ?_; rintro e w1 ⟨rfl, hb⟩
  obtain ⟨hc1, hf1⟩ := bcell hb
  have z1 := hb.size
  try simp only [World.size_alloc, World.size_setCell, World.size_drew] at z1
  have s1_0 : w.heap.size < w1.heap.size := by omega
  have s1_1 : w.heap.size + 1 < w1.heap.size := by omega
  have hB1 : Below w.heap.size w w1 := below_seq (by repeat (first | exact Below.refl _ _ | refine balloc ?_ _ | refine Below.drew ?_ | refine below_drewN ?_ _ | refine below_set ?_ (by first | omega | (dsimp only; omega)) _)) hb
  clear hb
  have m1_0_0 : w1.cell? ⟨w.heap.size, 0, none⟩ = some (.int .i64 a.x) := by go_simp
  have m1_0_1 : w1.cell? ⟨w.heap.size, 1, none⟩ = some (.int .i64 a.y) := by go_simp
  have m1_0_2 : w1.cell? ⟨w.heap.size, 2, none⟩ = some (.bool a.far) := by go_simp
  have m1_1_0 : w1.cell? ⟨w.heap.size + 1, 0, none⟩ = some (.int .i64 b.x) := by go_simp
  have m1_1_1 : w1.cell? ⟨w.heap.size + 1, 1, none⟩ = some (.int .i64 b.y) := by go_simp
  have m1_1_2 : w1.cell? ⟨w.heap.size + 1, 2, none⟩ = some (.bool b.far) := by go_simp
  clear hc1
  go_wp2_with fail
  refine (check_ok a _ (hF.below (by repeat (first | exact hB1 | exact Below.refl _ _ | refine balloc ?_ _ | refine Below.drew ?_ | refine below_drewN ?_ _ | refine below_set ?_ (by first | omega | (dsimp only; omega)) _))) oa).mono ?_; rintro e w2 ⟨rfl, hb⟩
  obtain ⟨hc2, hf2⟩ := bcell hb
  have z2 := hb.size
  try simp only [World.size_alloc, World.size_setCell, World.size_drew] at z2
  have s2_0 : w.heap.size < w2.heap.size := by omega
  have s2_1 : w.heap.size + 1 < w2.heap.size := by omega
  have hB2 : Below w.heap.size w w2 := below_seq (by repeat (first | exact hB1 | exact Below.refl _ _ | refine balloc ?_ _ | refine Below.drew ?_ | refine below_drewN ?_ _ | refine below_set ?_ (by first | omega | (dsimp only; omega)) _)) hb
  clear hb
  have m2_0_0 : w2.cell? ⟨w.heap.size, 0, none⟩ = some (.int .i64 a.x) := by go_simp
  have m2_0_1 : w2.cell? ⟨w.heap.size, 1, none⟩ = some (.int .i64 a.y) := by go_simp
  have m2_0_2 : w2.cell? ⟨w.heap.size, 2, none⟩ = some (.bool a.far) := by go_simp
  have m2_1_0 : w2.cell? ⟨w.heap.size + 1, 0, none⟩ = some (.int .i64 b.x) := by go_simp
  have m2_1_1 : w2.cell? ⟨w.heap.size + 1, 1, none⟩ = some (.int .i64 b.y) := by go_simp
  have m2_1_2 : w2.cell? ⟨w.heap.size + 1, 2, none⟩ = some (.bool b.far) := by go_simp
  clear m1_0_0 m1_0_1 m1_0_2 m1_1_0 m1_1_1 m1_1_2
  clear hc2
  go_wp2_with fail
  refine (error_nil 0 _ true rfl).mono ?_; rintro e w3 ⟨rfl, hb⟩
  obtain ⟨hc3, hf3⟩ := bcell hb
  have z3 := hb.size
  try simp only [World.size_alloc, World.size_setCell, World.size_drew] at z3
  have s3_0 : w.heap.size < w3.heap.size := by omega
  have s3_1 : w.heap.size + 1 < w3.heap.size := by omega
  have hB3 : Below w.heap.size w w3 := below_seq (by repeat (first | exact hB2 | exact Below.refl _ _ | refine balloc ?_ _ | refine Below.drew ?_ | refine below_drewN ?_ _ | refine below_set ?_ (by first | omega | (dsimp only; omega)) _)) hb
  clear hb
  have m3_0_0 : w3.cell? ⟨w.heap.size, 0, none⟩ = some (.int .i64 a.x) := by go_simp
  have m3_0_1 : w3.cell? ⟨w.heap.size, 1, none⟩ = some (.int .i64 a.y) := by go_simp
  have m3_0_2 : w3.cell? ⟨w.heap.size, 2, none⟩ = some (.bool a.far) := by go_simp
  have m3_1_0 : w3.cell? ⟨w.heap.size + 1, 0, none⟩ = some (.int .i64 b.x) := by go_simp
  have m3_1_1 : w3.cell? ⟨w.heap.size + 1, 1, none⟩ = some (.int .i64 b.y) := by go_simp
  have m3_1_2 : w3.cell? ⟨w.heap.size + 1, 2, none⟩ = some (.bool b.far) := by go_simp
  clear m2_0_0 m2_0_1 m2_0_2 m2_1_0 m2_1_1 m2_1_2
  clear hc3
  go_wp2_with fail
  refine (refNeg_e a N _ oa hN).mono ?_; rintro e w4 ⟨rfl, hb⟩
  obtain ⟨hc4, hf4⟩ := bcell hb
  have z4 := hb.size
  try simp only [World.size_alloc, World.size_setCell, World.size_drew] at z4
  have s4_0 : w.heap.size < w4.heap.size := by omega
  have s4_1 : w.heap.size + 1 < w4.heap.size := by omega
  have s4_2 : w3.heap.size < w4.heap.size := by omega
  have s4_3 : w3.heap.size + 1 < w4.heap.size := by omega
  have s4_4 : w3.heap.size + 1 + 1 < w4.heap.size := by omega
  have hB4 : Below w.heap.size w w4 := below_seq (by repeat (first | exact hB3 | exact Below.refl _ _ | refine balloc ?_ _ | refine Below.drew ?_ | refine below_drewN ?_ _ | refine below_set ?_ (by first | omega | (dsimp only; omega)) _)) hb
  clear hb
  have m4_0_0 : w4.cell? ⟨w.heap.size, 0, none⟩ = some (.int .i64 a.x) := by go_simp
  have m4_0_1 : w4.cell? ⟨w.heap.size, 1, none⟩ = some (.int .i64 a.y) := by go_simp
  have m4_0_2 : w4.cell? ⟨w.heap.size, 2, none⟩ = some (.bool a.far) := by go_simp
  have m4_1_0 : w4.cell? ⟨w.heap.size + 1, 0, none⟩ = some (.int .i64 b.x) := by go_simp
  have m4_1_1 : w4.cell? ⟨w.heap.size + 1, 1, none⟩ = some (.int .i64 b.y) := by go_simp
  have m4_1_2 : w4.cell? ⟨w.heap.size + 1, 2, none⟩ = some (.bool b.far) := by go_simp
  have m4_2_0 : w4.cell? ⟨w3.heap.size, 0, none⟩ = some (.int .i64 0) := by go_simp
  have m4_2_1 : w4.cell? ⟨w3.heap.size, 1, none⟩ = some (.int .i64 0) := by go_simp
  have m4_2_2 : w4.cell? ⟨w3.heap.size, 2, none⟩ = some (.bool false) := by go_simp
  have m4_3_0 : w4.cell? ⟨w3.heap.size + 1, 0, none⟩ = some (.int .i64 0) := by go_simp
  have m4_3_1 : w4.cell? ⟨w3.heap.size + 1, 1, none⟩ = some (.int .i64 0) := by go_simp
  have m4_3_2 : w4.cell? ⟨w3.heap.size + 1, 2, none⟩ = some (.bool false) := by go_simp
  have m4_4_0 : w4.cell? ⟨w3.heap.size + 1 + 1, 0, none⟩ = some (.int .i64 0) := by go_simp
  have m4_4_1 : w4.cell? ⟨w3.heap.size + 1 + 1, 1, none⟩ = some (.int .i64 0) := by go_simp
  have m4_4_2 : w4.cell? ⟨w3.heap.size + 1 + 1, 2, none⟩ = some (.bool false) := by go_simp
  clear m3_0_0 m3_0_1 m3_0_2 m3_1_0 m3_1_1 m3_1_2
  clear hc4
  go_wp2_with fail
  refine (neg_e a N _ (hF.below (by repeat (first | exact hB4 | exact Below.refl _ _ | refine balloc ?_ _ | refine Below.drew ?_ | refine below_drewN ?_ _ | refine below_set ?_ (by first | omega | (dsimp only; omega)) _))) oa hN).mono ?_; rintro e w5 ⟨rfl, hb⟩
  obtain ⟨hc5, hf5⟩ := bcell hb
  have z5 := hb.size
  try simp only [World.size_alloc, World.size_setCell, World.size_drew] at z5
  have s5_0 : w.heap.size < w5.heap.size := by omega
  have s5_1 : w.heap.size + 1 < w5.heap.size := by omega
  have s5_2 : w3.heap.size < w5.heap.size := by omega
  have s5_3 : w3.heap.size + 1 < w5.heap.size := by omega
  have s5_4 : w3.heap.size + 1 + 1 < w5.heap.size := by omega
  have hB5 : Below w.heap.size w w5 := below_seq (by repeat (first | exact hB4 | exact Below.refl _ _ | refine balloc ?_ _ | refine Below.drew ?_ | refine below_drewN ?_ _ | refine below_set ?_ (by first | omega | (dsimp only; omega)) _)) hb
  clear hb
  have m5_0_0 : w5.cell? ⟨w.heap.size, 0, none⟩ = some (.int .i64 a.x) := by go_simp
  have m5_0_1 : w5.cell? ⟨w.heap.size, 1, none⟩ = some (.int .i64 a.y) := by go_simp
  have m5_0_2 : w5.cell? ⟨w.heap.size, 2, none⟩ = some (.bool a.far) := by go_simp
  have m5_1_0 : w5.cell? ⟨w.heap.size + 1, 0, none⟩ = some (.int .i64 b.x) := by go_simp
  have m5_1_1 : w5.cell? ⟨w.heap.size + 1, 1, none⟩ = some (.int .i64 b.y) := by go_simp
  have m5_1_2 : w5.cell? ⟨w.heap.size + 1, 2, none⟩ = some (.bool b.far) := by go_simp
  have m5_2_0 : w5.cell? ⟨w3.heap.size, 0, none⟩ = some (.int .i64 N.x) := by go_simp
  have m5_2_1 : w5.cell? ⟨w3.heap.size, 1, none⟩ = some (.int .i64 N.y) := by go_simp
  have m5_2_2 : w5.cell? ⟨w3.heap.size, 2, none⟩ = some (.bool N.far) := by go_simp
  have m5_3_0 : w5.cell? ⟨w3.heap.size + 1, 0, none⟩ = some (.int .i64 0) := by go_simp
  have m5_3_1 : w5.cell? ⟨w3.heap.size + 1, 1, none⟩ = some (.int .i64 0) := by go_simp
  have m5_3_2 : w5.cell? ⟨w3.heap.size + 1, 2, none⟩ = some (.bool false) := by go_simp
  have m5_4_0 : w5.cell? ⟨w3.heap.size + 1 + 1, 0, none⟩ = some (.int .i64 0) := by go_simp
  have m5_4_1 : w5.cell? ⟨w3.heap.size + 1 + 1, 1, none⟩ = some (.int .i64 0) := by go_simp
  have m5_4_2 : w5.cell? ⟨w3.heap.size + 1 + 1, 2, none⟩ = some (.bool false) := by go_simp
  clear m4_0_0 m4_0_1 m4_0_2 m4_1_0 m4_1_1 m4_1_2 m4_2_0 m4_2_1 m4_2_2 m4_3_0 m4_3_1 m4_3_2 m4_4_0 m4_4_1 m4_4_2
  clear hc5
  go_wp2_with fail
  refine (error_nil 0 _ true rfl).mono ?_; rintro e w6 ⟨rfl, hb⟩
  obtain ⟨hc6, hf6⟩ := bcell hb
  have z6 := hb.size
  try simp only [World.size_alloc, World.size_setCell, World.size_drew] at z6
  have s6_0 : w.heap.size < w6.heap.size := by omega
  have s6_1 : w.heap.size + 1 < w6.heap.size := by omega
  have s6_2 : w3.heap.size < w6.heap.size := by omega
  have s6_3 : w3.heap.size + 1 < w6.heap.size := by omega
  have s6_4 : w3.heap.size + 1 + 1 < w6.heap.size := by omega
  have s6_5 : w5.heap.size < w6.heap.size := by omega
  have hB6 : Below w.heap.size w w6 := below_seq (by repeat (first | exact hB5 | exact Below.refl _ _ | refine balloc ?_ _ | refine Below.drew ?_ | refine below_drewN ?_ _ | refine below_set ?_ (by first | omega | (dsimp only; omega)) _)) hb
  clear hb
  have m6_0_0 : w6.cell? ⟨w.heap.size, 0, none⟩ = some (.int .i64 a.x) := by go_simp
  have m6_0_1 : w6.cell? ⟨w.heap.size, 1, none⟩ = some (.int .i64 a.y) := by go_simp
  have m6_0_2 : w6.cell? ⟨w.heap.size, 2, none⟩ = some (.bool a.far) := by go_simp
  have m6_1_0 : w6.cell? ⟨w.heap.size + 1, 0, none⟩ = some (.int .i64 b.x) := by go_simp
  have m6_1_1 : w6.cell? ⟨w.heap.size + 1, 1, none⟩ = some (.int .i64 b.y) := by go_simp
  have m6_1_2 : w6.cell? ⟨w.heap.size + 1, 2, none⟩ = some (.bool b.far) := by go_simp
  have m6_2_0 : w6.cell? ⟨w3.heap.size, 0, none⟩ = some (.int .i64 N.x) := by go_simp
  have m6_2_1 : w6.cell? ⟨w3.heap.size, 1, none⟩ = some (.int .i64 N.y) := by go_simp
  have m6_2_2 : w6.cell? ⟨w3.heap.size, 2, none⟩ = some (.bool N.far) := by go_simp
  have m6_3_0 : w6.cell? ⟨w3.heap.size + 1, 0, none⟩ = some (.int .i64 0) := by go_simp
  have m6_3_1 : w6.cell? ⟨w3.heap.size + 1, 1, none⟩ = some (.int .i64 0) := by go_simp
  have m6_3_2 : w6.cell? ⟨w3.heap.size + 1, 2, none⟩ = some (.bool false) := by go_simp
  have m6_4_0 : w6.cell? ⟨w3.heap.size + 1 + 1, 0, none⟩ = some (.int .i64 0) := by go_simp
  have m6_4_1 : w6.cell? ⟨w3.heap.size + 1 + 1, 1, none⟩ = some (.int .i64 0) := by go_simp
  have m6_4_2 : w6.cell? ⟨w3.heap.size + 1 + 1, 2, none⟩ = some (.bool false) := by go_simp
  have m6_5_0 : w6.cell? ⟨w5.heap.size, 0, none⟩ = some (.int .i64 N.x) := by go_simp
  have m6_5_1 : w6.cell? ⟨w5.heap.size, 1, none⟩ = some (.int .i64 N.y) := by go_simp
  have m6_5_2 : w6.cell? ⟨w5.heap.size, 2, none⟩ = some (.bool N.far) := by go_simp
  clear m5_0_0 m5_0_1 m5_0_2 m5_1_0 m5_1_1 m5_1_2 m5_2_0 m5_2_1 m5_2_2 m5_3_0 m5_3_1 m5_3_2 m5_4_0 m5_4_1 m5_4_2
  clear hc6
  go_wp2_with fail
  refine (refSpot_e b 0 _ hb2).mono ?_; rintro e w7 ⟨rfl, hb⟩
  obtain ⟨hc7, hf7⟩ := bcell hb
  have z7 := hb.size
  try simp only [World.size_alloc, World.size_setCell, World.size_drew] at z7
  have s7_0 : w.heap.size < w7.heap.size := by omega
  have s7_1 : w.heap.size + 1 < w7.heap.size := by omega
  have s7_2 : w3.heap.size < w7.heap.size := by omega
  have s7_3 : w3.heap.size + 1 < w7.heap.size := by omega
  have s7_4 : w3.heap.size + 1 + 1 < w7.heap.size := by omega
  have s7_5 : w5.heap.size < w7.heap.size := by omega
  have hB7 : Below w.heap.size w w7 := below_seq (by repeat (first | exact hB6 | exact Below.refl _ _ | refine balloc ?_ _ | refine Below.drew ?_ | refine below_drewN ?_ _ | refine below_set ?_ (by first | omega | (dsimp only; omega)) _)) hb
  clear hb
  have m7_0_0 : w7.cell? ⟨w.heap.size, 0, none⟩ = some (.int .i64 a.x) := by go_simp
  have m7_0_1 : w7.cell? ⟨w.heap.size, 1, none⟩ = some (.int .i64 a.y) := by go_simp
  have m7_0_2 : w7.cell? ⟨w.heap.size, 2, none⟩ = some (.bool a.far) := by go_simp
  have m7_1_0 : w7.cell? ⟨w.heap.size + 1, 0, none⟩ = some (.int .i64 b.x) := by go_simp
  have m7_1_1 : w7.cell? ⟨w.heap.size + 1, 1, none⟩ = some (.int .i64 b.y) := by go_simp
  have m7_1_2 : w7.cell? ⟨w.heap.size + 1, 2, none⟩ = some (.bool b.far) := by go_simp
  have m7_2_0 : w7.cell? ⟨w3.heap.size, 0, none⟩ = some (.int .i64 N.x) := by go_simp
  have m7_2_1 : w7.cell? ⟨w3.heap.size, 1, none⟩ = some (.int .i64 N.y) := by go_simp
  have m7_2_2 : w7.cell? ⟨w3.heap.size, 2, none⟩ = some (.bool N.far) := by go_simp
  have m7_3_0 : w7.cell? ⟨w3.heap.size + 1, 0, none⟩ = some (.int .i64 0) := by go_simp
  have m7_3_1 : w7.cell? ⟨w3.heap.size + 1, 1, none⟩ = some (.int .i64 0) := by go_simp
  have m7_3_2 : w7.cell? ⟨w3.heap.size + 1, 2, none⟩ = some (.bool false) := by go_simp
  have m7_4_0 : w7.cell? ⟨w3.heap.size + 1 + 1, 0, none⟩ = some (.int .i64 0) := by go_simp
  have m7_4_1 : w7.cell? ⟨w3.heap.size + 1 + 1, 1, none⟩ = some (.int .i64 0) := by go_simp
  have m7_4_2 : w7.cell? ⟨w3.heap.size + 1 + 1, 2, none⟩ = some (.bool false) := by go_simp
  have m7_5_0 : w7.cell? ⟨w5.heap.size, 0, none⟩ = some (.int .i64 N.x) := by go_simp
  have m7_5_1 : w7.cell? ⟨w5.heap.size, 1, none⟩ = some (.int .i64 N.y) := by go_simp
  have m7_5_2 : w7.cell? ⟨w5.heap.size, 2, none⟩ = some (.bool N.far) := by go_simp
  clear m6_0_0 m6_0_1 m6_0_2 m6_1_0 m6_1_1 m6_1_2 m6_2_0 m6_2_1 m6_2_2 m6_3_0 m6_3_1 m6_3_2 m6_4_0 m6_4_1 m6_4_2 m6_5_0 m6_5_1 m6_5_2
  clear hc7
  go_wp2_with fail
  refine (refAdd_e a b S _ oa ob hS).mono ?_; rintro e w8 ⟨rfl, hb⟩
  obtain ⟨hc8, hf8⟩ := bcell hb
  have z8 := hb.size
  try simp only [World.size_alloc, World.size_setCell, World.size_drew] at z8
  have s8_0 : w.heap.size < w8.heap.size := by omega
  have s8_1 : w.heap.size + 1 < w8.heap.size := by omega
  have s8_2 : w3.heap.size < w8.heap.size := by omega
  have s8_3 : w3.heap.size + 1 < w8.heap.size := by omega
  have s8_4 : w3.heap.size + 1 + 1 < w8.heap.size := by omega
  have s8_5 : w5.heap.size < w8.heap.size := by omega
  have hB8 : Below w.heap.size w w8 := below_seq (by repeat (first | exact hB7 | exact Below.refl _ _ | refine balloc ?_ _ | refine Below.drew ?_ | refine below_drewN ?_ _ | refine below_set ?_ (by first | omega | (dsimp only; omega)) _)) hb
  clear hb
  have m8_0_0 : w8.cell? ⟨w.heap.size, 0, none⟩ = some (.int .i64 a.x) := by go_simp
  have m8_0_1 : w8.cell? ⟨w.heap.size, 1, none⟩ = some (.int .i64 a.y) := by go_simp
  have m8_0_2 : w8.cell? ⟨w.heap.size, 2, none⟩ = some (.bool a.far) := by go_simp
  have m8_1_0 : w8.cell? ⟨w.heap.size + 1, 0, none⟩ = some (.int .i64 b.x) := by go_simp
  have m8_1_1 : w8.cell? ⟨w.heap.size + 1, 1, none⟩ = some (.int .i64 b.y) := by go_simp
  have m8_1_2 : w8.cell? ⟨w.heap.size + 1, 2, none⟩ = some (.bool b.far) := by go_simp
  have m8_2_0 : w8.cell? ⟨w3.heap.size, 0, none⟩ = some (.int .i64 N.x) := by go_simp
  have m8_2_1 : w8.cell? ⟨w3.heap.size, 1, none⟩ = some (.int .i64 N.y) := by go_simp
  have m8_2_2 : w8.cell? ⟨w3.heap.size, 2, none⟩ = some (.bool N.far) := by go_simp
  have m8_3_0 : w8.cell? ⟨w3.heap.size + 1, 0, none⟩ = some (.int .i64 0) := by go_simp
  have m8_3_1 : w8.cell? ⟨w3.heap.size + 1, 1, none⟩ = some (.int .i64 0) := by go_simp
  have m8_3_2 : w8.cell? ⟨w3.heap.size + 1, 2, none⟩ = some (.bool false) := by go_simp
  have m8_4_0 : w8.cell? ⟨w3.heap.size + 1 + 1, 0, none⟩ = some (.int .i64 0) := by go_simp
  have m8_4_1 : w8.cell? ⟨w3.heap.size + 1 + 1, 1, none⟩ = some (.int .i64 0) := by go_simp
  have m8_4_2 : w8.cell? ⟨w3.heap.size + 1 + 1, 2, none⟩ = some (.bool false) := by go_simp
  have m8_5_0 : w8.cell? ⟨w5.heap.size, 0, none⟩ = some (.int .i64 N.x) := by go_simp
  have m8_5_1 : w8.cell? ⟨w5.heap.size, 1, none⟩ = some (.int .i64 N.y) := by go_simp
  have m8_5_2 : w8.cell? ⟨w5.heap.size, 2, none⟩ = some (.bool N.far) := by go_simp
  clear m7_0_0 m7_0_1 m7_0_2 m7_1_0 m7_1_1 m7_1_2 m7_2_0 m7_2_1 m7_2_2 m7_3_0 m7_3_1 m7_3_2 m7_4_0 m7_4_1 m7_4_2 m7_5_0 m7_5_1 m7_5_2
  clear hc8
  go_wp2_with fail
  refine (add_e a b S _ (hF.below (by repeat (first | exact hB8 | exact Below.refl _ _ | refine balloc ?_ _ | refine Below.drew ?_ | refine below_drewN ?_ _ | refine below_set ?_ (by first | omega | (dsimp only; omega)) _))) oa ob hS).mono ?_; rintro e w9 ⟨rfl, hb⟩
  obtain ⟨hc9, hf9⟩ := bcell hb
  have z9 := hb.size
  try simp only [World.size_alloc, World.size_setCell, World.size_drew] at z9
  have s9_0 : w.heap.size < w9.heap.size := by omega
  have s9_1 : w.heap.size + 1 < w9.heap.size := by omega
  have s9_2 : w3.heap.size < w9.heap.size := by omega
  have s9_3 : w3.heap.size + 1 < w9.heap.size := by omega
  have s9_4 : w3.heap.size + 1 + 1 < w9.heap.size := by omega
  have s9_5 : w5.heap.size < w9.heap.size := by omega
  have hB9 : Below w.heap.size w w9 := below_seq (by repeat (first | exact hB8 | exact Below.refl _ _ | refine balloc ?_ _ | refine Below.drew ?_ | refine below_drewN ?_ _ | refine below_set ?_ (by first | omega | (dsimp only; omega)) _)) hb
  clear hb
  have m9_0_0 : w9.cell? ⟨w.heap.size, 0, none⟩ = some (.int .i64 a.x) := by go_simp
  have m9_0_1 : w9.cell? ⟨w.heap.size, 1, none⟩ = some (.int .i64 a.y) := by go_simp
  have m9_0_2 : w9.cell? ⟨w.heap.size, 2, none⟩ = some (.bool a.far) := by go_simp
  have m9_1_0 : w9.cell? ⟨w.heap.size + 1, 0, none⟩ = some (.int .i64 b.x) := by go_simp
  have m9_1_1 : w9.cell? ⟨w.heap.size + 1, 1, none⟩ = some (.int .i64 b.y) := by go_simp
  have m9_1_2 : w9.cell? ⟨w.heap.size + 1, 2, none⟩ = some (.bool b.far) := by go_simp
  have m9_2_0 : w9.cell? ⟨w3.heap.size, 0, none⟩ = some (.int .i64 N.x) := by go_simp
  have m9_2_1 : w9.cell? ⟨w3.heap.size, 1, none⟩ = some (.int .i64 N.y) := by go_simp
  have m9_2_2 : w9.cell? ⟨w3.heap.size, 2, none⟩ = some (.bool N.far) := by go_simp
  have m9_3_0 : w9.cell? ⟨w3.heap.size + 1, 0, none⟩ = some (.int .i64 S.x) := by go_simp
  have m9_3_1 : w9.cell? ⟨w3.heap.size + 1, 1, none⟩ = some (.int .i64 S.y) := by go_simp
  have m9_3_2 : w9.cell? ⟨w3.heap.size + 1, 2, none⟩ = some (.bool S.far) := by go_simp
  have m9_4_0 : w9.cell? ⟨w3.heap.size + 1 + 1, 0, none⟩ = some (.int .i64 0) := by go_simp
  have m9_4_1 : w9.cell? ⟨w3.heap.size + 1 + 1, 1, none⟩ = some (.int .i64 0) := by go_simp
  have m9_4_2 : w9.cell? ⟨w3.heap.size + 1 + 1, 2, none⟩ = some (.bool false) := by go_simp
  have m9_5_0 : w9.cell? ⟨w5.heap.size, 0, none⟩ = some (.int .i64 N.x) := by go_simp
  have m9_5_1 : w9.cell? ⟨w5.heap.size, 1, none⟩ = some (.int .i64 N.y) := by go_simp
  have m9_5_2 : w9.cell? ⟨w5.heap.size, 2, none⟩ = some (.bool N.far) := by go_simp
  clear m8_0_0 m8_0_1 m8_0_2 m8_1_0 m8_1_1 m8_1_2 m8_2_0 m8_2_1 m8_2_2 m8_3_0 m8_3_1 m8_3_2 m8_4_0 m8_4_1 m8_4_2 m8_5_0 m8_5_1 m8_5_2
  clear hc9
  go_wp2_with fail
  refine (error_nil 0 _ true rfl).mono ?_; rintro e w10 ⟨rfl, hb⟩
  obtain ⟨hc10, hf10⟩ := bcell hb
  have z10 := hb.size
  try simp only [World.size_alloc, World.size_setCell, World.size_drew] at z10
  have s10_0 : w.heap.size < w10.heap.size := by omega
  have s10_1 : w.heap.size + 1 < w10.heap.size := by omega
  have s10_2 : w3.heap.size < w10.heap.size := by omega
  have s10_3 : w3.heap.size + 1 < w10.heap.size := by omega
  have s10_4 : w3.heap.size + 1 + 1 < w10.heap.size := by omega
  have s10_5 : w5.heap.size < w10.heap.size := by omega
  have hB10 : Below w.heap.size w w10 := below_seq (by repeat (first | exact hB9 | exact Below.refl _ _ | refine balloc ?_ _ | refine Below.drew ?_ | refine below_drewN ?_ _ | refine below_set ?_ (by first | omega | (dsimp only; omega)) _)) hb
  clear hb
  have m10_0_0 : w10.cell? ⟨w.heap.size, 0, none⟩ = some (.int .i64 a.x) := by go_simp
  have m10_0_1 : w10.cell? ⟨w.heap.size, 1, none⟩ = some (.int .i64 a.y) := by go_simp
  have m10_0_2 : w10.cell? ⟨w.heap.size, 2, none⟩ = some (.bool a.far) := by go_simp
  have m10_1_0 : w10.cell? ⟨w.heap.size + 1, 0, none⟩ = some (.int .i64 b.x) := by go_simp
  have m10_1_1 : w10.cell? ⟨w.heap.size + 1, 1, none⟩ = some (.int .i64 b.y) := by go_simp
  have m10_1_2 : w10.cell? ⟨w.heap.size + 1, 2, none⟩ = some (.bool b.far) := by go_simp
  have m10_2_0 : w10.cell? ⟨w3.heap.size, 0, none⟩ = some (.int .i64 N.x) := by go_simp
  have m10_2_1 : w10.cell? ⟨w3.heap.size, 1, none⟩ = some (.int .i64 N.y) := by go_simp
  have m10_2_2 : w10.cell? ⟨w3.heap.size, 2, none⟩ = some (.bool N.far) := by go_simp
  have m10_3_0 : w10.cell? ⟨w3.heap.size + 1, 0, none⟩ = some (.int .i64 S.x) := by go_simp
  have m10_3_1 : w10.cell? ⟨w3.heap.size + 1, 1, none⟩ = some (.int .i64 S.y) := by go_simp
  have m10_3_2 : w10.cell? ⟨w3.heap.size + 1, 2, none⟩ = some (.bool S.far) := by go_simp
  have m10_4_0 : w10.cell? ⟨w3.heap.size + 1 + 1, 0, none⟩ = some (.int .i64 0) := by go_simp
  have m10_4_1 : w10.cell? ⟨w3.heap.size + 1 + 1, 1, none⟩ = some (.int .i64 0) := by go_simp
  have m10_4_2 : w10.cell? ⟨w3.heap.size + 1 + 1, 2, none⟩ = some (.bool false) := by go_simp
  have m10_5_0 : w10.cell? ⟨w5.heap.size, 0, none⟩ = some (.int .i64 S.x) := by go_simp
  have m10_5_1 : w10.cell? ⟨w5.heap.size, 1, none⟩ = some (.int .i64 S.y) := by go_simp
  have m10_5_2 : w10.cell? ⟨w5.heap.size, 2, none⟩ = some (.bool S.far) := by go_simp
  clear m9_0_0 m9_0_1 m9_0_2 m9_1_0 m9_1_1 m9_1_2 m9_2_0 m9_2_1 m9_2_2 m9_3_0 m9_3_1 m9_3_2 m9_4_0 m9_4_1 m9_4_2 m9_5_0 m9_5_1 m9_5_2
  clear hc10
  go_wp2_with fail
  refine (refLift_y x T _ hi hs hT).mono ?_; rintro e w11 ⟨rfl, hb⟩
  obtain ⟨hc11, hf11⟩ := bcell hb
  have z11 := hb.size
  try simp only [World.size_alloc, World.size_setCell, World.size_drew] at z11
  have s11_0 : w.heap.size < w11.heap.size := by omega
  have s11_1 : w.heap.size + 1 < w11.heap.size := by omega
  have s11_2 : w3.heap.size < w11.heap.size := by omega
  have s11_3 : w3.heap.size + 1 < w11.heap.size := by omega
  have s11_4 : w3.heap.size + 1 + 1 < w11.heap.size := by omega
  have s11_5 : w5.heap.size < w11.heap.size := by omega
  have hB11 : Below w.heap.size w w11 := below_seq (by repeat (first | exact hB10 | exact Below.refl _ _ | refine balloc ?_ _ | refine Below.drew ?_ | refine below_drewN ?_ _ | refine below_set ?_ (by first | omega | (dsimp only; omega)) _)) hb
  clear hb
  have m11_0_0 : w11.cell? ⟨w.heap.size, 0, none⟩ = some (.int .i64 a.x) := by go_simp
  have m11_0_1 : w11.cell? ⟨w.heap.size, 1, none⟩ = some (.int .i64 a.y) := by go_simp
  have m11_0_2 : w11.cell? ⟨w.heap.size, 2, none⟩ = some (.bool a.far) := by go_simp
  have m11_1_0 : w11.cell? ⟨w.heap.size + 1, 0, none⟩ = some (.int .i64 b.x) := by go_simp
  have m11_1_1 : w11.cell? ⟨w.heap.size + 1, 1, none⟩ = some (.int .i64 b.y) := by go_simp
  have m11_1_2 : w11.cell? ⟨w.heap.size + 1, 2, none⟩ = some (.bool b.far) := by go_simp
  have m11_2_0 : w11.cell? ⟨w3.heap.size, 0, none⟩ = some (.int .i64 N.x) := by go_simp
  have m11_2_1 : w11.cell? ⟨w3.heap.size, 1, none⟩ = some (.int .i64 N.y) := by go_simp
  have m11_2_2 : w11.cell? ⟨w3.heap.size, 2, none⟩ = some (.bool N.far) := by go_simp
  have m11_3_0 : w11.cell? ⟨w3.heap.size + 1, 0, none⟩ = some (.int .i64 S.x) := by go_simp
  have m11_3_1 : w11.cell? ⟨w3.heap.size + 1, 1, none⟩ = some (.int .i64 S.y) := by go_simp
  have m11_3_2 : w11.cell? ⟨w3.heap.size + 1, 2, none⟩ = some (.bool S.far) := by go_simp
  have m11_4_0 : w11.cell? ⟨w3.heap.size + 1 + 1, 0, none⟩ = some (.int .i64 0) := by go_simp
  have m11_4_1 : w11.cell? ⟨w3.heap.size + 1 + 1, 1, none⟩ = some (.int .i64 0) := by go_simp
  have m11_4_2 : w11.cell? ⟨w3.heap.size + 1 + 1, 2, none⟩ = some (.bool false) := by go_simp
  have m11_5_0 : w11.cell? ⟨w5.heap.size, 0, none⟩ = some (.int .i64 S.x) := by go_simp
  have m11_5_1 : w11.cell? ⟨w5.heap.size, 1, none⟩ = some (.int .i64 S.y) := by go_simp
  have m11_5_2 : w11.cell? ⟨w5.heap.size, 2, none⟩ = some (.bool S.far) := by go_simp
  clear m10_0_0 m10_0_1 m10_0_2 m10_1_0 m10_1_1 m10_1_2 m10_2_0 m10_2_1 m10_2_2 m10_3_0 m10_3_1 m10_3_2 m10_4_0 m10_4_1 m10_4_2 m10_5_0 m10_5_1 m10_5_2
  clear hc11
  go_wp2_with fail
  refine (lift_e x T _ hi hs hT).mono ?_; rintro e w12 ⟨rfl, hb⟩
  obtain ⟨hc12, hf12⟩ := bcell hb
  have z12 := hb.size
  try simp only [World.size_alloc, World.size_setCell, World.size_drew] at z12
  have s12_0 : w.heap.size < w12.heap.size := by omega
  have s12_1 : w.heap.size + 1 < w12.heap.size := by omega
  have s12_2 : w3.heap.size < w12.heap.size := by omega
  have s12_3 : w3.heap.size + 1 < w12.heap.size := by omega
  have s12_4 : w3.heap.size + 1 + 1 < w12.heap.size := by omega
  have s12_5 : w5.heap.size < w12.heap.size := by omega
  have s12_6 : w11.heap.size < w12.heap.size := by omega
  have hB12 : Below w.heap.size w w12 := below_seq (by repeat (first | exact hB11 | exact Below.refl _ _ | refine balloc ?_ _ | refine Below.drew ?_ | refine below_drewN ?_ _ | refine below_set ?_ (by first | omega | (dsimp only; omega)) _)) hb
  clear hb
  have m12_0_0 : w12.cell? ⟨w.heap.size, 0, none⟩ = some (.int .i64 a.x) := by go_simp
  have m12_0_1 : w12.cell? ⟨w.heap.size, 1, none⟩ = some (.int .i64 a.y) := by go_simp
  have m12_0_2 : w12.cell? ⟨w.heap.size, 2, none⟩ = some (.bool a.far) := by go_simp
  have m12_1_0 : w12.cell? ⟨w.heap.size + 1, 0, none⟩ = some (.int .i64 b.x) := by go_simp
  have m12_1_1 : w12.cell? ⟨w.heap.size + 1, 1, none⟩ = some (.int .i64 b.y) := by go_simp
  have m12_1_2 : w12.cell? ⟨w.heap.size + 1, 2, none⟩ = some (.bool b.far) := by go_simp
  have m12_2_0 : w12.cell? ⟨w3.heap.size, 0, none⟩ = some (.int .i64 N.x) := by go_simp
  have m12_2_1 : w12.cell? ⟨w3.heap.size, 1, none⟩ = some (.int .i64 N.y) := by go_simp
  have m12_2_2 : w12.cell? ⟨w3.heap.size, 2, none⟩ = some (.bool N.far) := by go_simp
  have m12_3_0 : w12.cell? ⟨w3.heap.size + 1, 0, none⟩ = some (.int .i64 S.x) := by go_simp
  have m12_3_1 : w12.cell? ⟨w3.heap.size + 1, 1, none⟩ = some (.int .i64 S.y) := by go_simp
  have m12_3_2 : w12.cell? ⟨w3.heap.size + 1, 2, none⟩ = some (.bool S.far) := by go_simp
  have m12_4_0 : w12.cell? ⟨w3.heap.size + 1 + 1, 0, none⟩ = some (.int .i64 T.x) := by go_simp
  have m12_4_1 : w12.cell? ⟨w3.heap.size + 1 + 1, 1, none⟩ = some (.int .i64 T.y) := by go_simp
  have m12_4_2 : w12.cell? ⟨w3.heap.size + 1 + 1, 2, none⟩ = some (.bool T.far) := by go_simp
  have m12_5_0 : w12.cell? ⟨w5.heap.size, 0, none⟩ = some (.int .i64 S.x) := by go_simp
  have m12_5_1 : w12.cell? ⟨w5.heap.size, 1, none⟩ = some (.int .i64 S.y) := by go_simp
  have m12_5_2 : w12.cell? ⟨w5.heap.size, 2, none⟩ = some (.bool S.far) := by go_simp
  clear m11_0_0 m11_0_1 m11_0_2 m11_1_0 m11_1_1 m11_1_2 m11_2_0 m11_2_1 m11_2_2 m11_3_0 m11_3_1 m11_3_2 m11_4_0 m11_4_1 m11_4_2 m11_5_0 m11_5_1 m11_5_2
  clear hc12
  go_wp2_with fail
  refine (error_nil 0 _ true rfl).mono ?_; rintro e w13 ⟨rfl, hb⟩
  obtain ⟨hc13, hf13⟩ := bcell hb
  have z13 := hb.size
  try simp only [World.size_alloc, World.size_setCell, World.size_drew] at z13
  have s13_0 : w.heap.size < w13.heap.size := by omega
  have s13_1 : w.heap.size + 1 < w13.heap.size := by omega
  have s13_2 : w3.heap.size < w13.heap.size := by omega
  have s13_3 : w3.heap.size + 1 < w13.heap.size := by omega
  have s13_4 : w3.heap.size + 1 + 1 < w13.heap.size := by omega
  have s13_5 : w5.heap.size < w13.heap.size := by omega
  have s13_6 : w11.heap.size < w13.heap.size := by omega
  have hB13 : Below w.heap.size w w13 := below_seq (by repeat (first | exact hB12 | exact Below.refl _ _ | refine balloc ?_ _ | refine Below.drew ?_ | refine below_drewN ?_ _ | refine below_set ?_ (by first | omega | (dsimp only; omega)) _)) hb
  clear hb
  have m13_0_0 : w13.cell? ⟨w.heap.size, 0, none⟩ = some (.int .i64 a.x) := by go_simp
  have m13_0_1 : w13.cell? ⟨w.heap.size, 1, none⟩ = some (.int .i64 a.y) := by go_simp
  have m13_0_2 : w13.cell? ⟨w.heap.size, 2, none⟩ = some (.bool a.far) := by go_simp
  have m13_1_0 : w13.cell? ⟨w.heap.size + 1, 0, none⟩ = some (.int .i64 b.x) := by go_simp
  have m13_1_1 : w13.cell? ⟨w.heap.size + 1, 1, none⟩ = some (.int .i64 b.y) := by go_simp
  have m13_1_2 : w13.cell? ⟨w.heap.size + 1, 2, none⟩ = some (.bool b.far) := by go_simp
  have m13_2_0 : w13.cell? ⟨w3.heap.size, 0, none⟩ = some (.int .i64 N.x) := by go_simp
  have m13_2_1 : w13.cell? ⟨w3.heap.size, 1, none⟩ = some (.int .i64 N.y) := by go_simp
  have m13_2_2 : w13.cell? ⟨w3.heap.size, 2, none⟩ = some (.bool N.far) := by go_simp
  have m13_3_0 : w13.cell? ⟨w3.heap.size + 1, 0, none⟩ = some (.int .i64 S.x) := by go_simp
  have m13_3_1 : w13.cell? ⟨w3.heap.size + 1, 1, none⟩ = some (.int .i64 S.y) := by go_simp
  have m13_3_2 : w13.cell? ⟨w3.heap.size + 1, 2, none⟩ = some (.bool S.far) := by go_simp
  have m13_4_0 : w13.cell? ⟨w3.heap.size + 1 + 1, 0, none⟩ = some (.int .i64 T.x) := by go_simp
  have m13_4_1 : w13.cell? ⟨w3.heap.size + 1 + 1, 1, none⟩ = some (.int .i64 T.y) := by go_simp
  have m13_4_2 : w13.cell? ⟨w3.heap.size + 1 + 1, 2, none⟩ = some (.bool T.far) := by go_simp
  have m13_5_0 : w13.cell? ⟨w5.heap.size, 0, none⟩ = some (.int .i64 T.x) := by go_simp
  have m13_5_1 : w13.cell? ⟨w5.heap.size, 1, none⟩ = some (.int .i64 T.y) := by go_simp
  have m13_5_2 : w13.cell? ⟨w5.heap.size, 2, none⟩ = some (.bool T.far) := by go_simp
  clear m12_0_0 m12_0_1 m12_0_2 m12_1_0 m12_1_1 m12_1_2 m12_2_0 m12_2_1 m12_2_2 m12_3_0 m12_3_1 m12_3_2 m12_4_0 m12_4_1 m12_4_2 m12_5_0 m12_5_1 m12_5_2
  clear hc13
  go_wp2
  go_ret
  exact ⟨rfl, (by repeat (first | exact hB13 | exact Below.refl _ _ | refine balloc ?_ _ | refine Below.drew ?_ | refine below_drewN ?_ _ | refine below_set ?_ (by first | omega | (dsimp only; omega)) _))⟩
theorem curveTells_law (a b : Sp) (x : Int) (hx : (Lit.int .i64 x).wf = true) (w : World) (hL : FarAt w ∧ ErrAt w) : Calls Tryd.prog 18 #[spV a, spV b, .int .i64 x] w fun e w' => e = .returned (.bool true) ∧ Below w.heap.size w w' := by
  by_cases c0 : sCheck a = 0
  case neg =>
    have a1 : Hid (sCheck a = sCheck a) := rfl
    have a2 : sCheck a ≠ 0 := c0
    have a3 : (sCheck a == 0) = false := by simpa using c0
    by_cases hx : 0 ≤ x ∧ x < 4051
    · have hi := ins_iff.mpr hx
      cases hs : isSq (height x)
      · exact ct_02 a b x w hL.1 hL.2 _ a1 a2 a3 hi hx.1 hx.2 hs
      · exact ct_03 a b x w hL.1 hL.2 _ a1 a2 a3 hi hx.1 hx.2 hs _ rfl
    · have hi := ins_no hx
      by_cases h0 : x < 0
      · exact ct_00 a b x w hL.1 hL.2 _ a1 a2 a3 hi h0
      · exact ct_01 a b x w hL.1 hL.2 _ a1 a2 a3 hi (by omega) (by omega)

  have oa := (ok_iff _).mp c0
  by_cases d0 : sCheck b = 0
  case neg =>
    have b1 : Hid (sCheck b = sCheck b) := rfl
    have b2 : sCheck b ≠ 0 := d0
    have b3 : (sCheck b == 0) = false := by simpa using d0
    by_cases hx : 0 ≤ x ∧ x < 4051
    · have hi := ins_iff.mpr hx
      cases hs : isSq (height x)
      · exact ct_12 a b x w hL.1 hL.2 _ c0 oa b1 b2 b3 _ rfl hi hx.1 hx.2 hs
      · exact ct_13 a b x w hL.1 hL.2 _ c0 oa b1 b2 b3 _ rfl hi hx.1 hx.2 hs _ rfl
    · have hi := ins_no hx
      by_cases h0 : x < 0
      · exact ct_10 a b x w hL.1 hL.2 _ c0 oa b1 b2 b3 _ rfl hi h0
      · exact ct_11 a b x w hL.1 hL.2 _ c0 oa b1 b2 b3 _ rfl hi (by omega) (by omega)

  have ob := (ok_iff _).mp d0
  by_cases hx : 0 ≤ x ∧ x < 4051
  · have hi := ins_iff.mpr hx
    cases hs : isSq (height x)
    · exact ct_22 a b x w hL.1 hL.2 c0 oa d0 ob _ _ rfl rfl hi hx.1 hx.2 hs
    · exact ct_23 a b x w hL.1 hL.2 c0 oa d0 ob _ _ rfl rfl hi hx.1 hx.2 hs _ rfl
  · have hi := ins_no hx
    by_cases h0 : x < 0
    · exact ct_20 a b x w hL.1 hL.2 c0 oa d0 ob _ _ rfl rfl hi h0
    · exact ct_21 a b x w hL.1 hL.2 c0 oa d0 ob _ _ rfl rfl hi (by omega) (by omega)

end Go.Proofs.YtijemkecjohagaaDoor
