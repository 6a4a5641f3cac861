/- The law PairHolds, walked: bilinear. (Printed by gen_tt.py.) -/
import Derived.Test.YtlppjihejgcplaaDoorPz
namespace Go.Proofs.YtlppjihejgcplaaDoor
open Go.RowKit
set_option maxRecDepth 100000
set_option linter.unusedVariables false
set_option linter.unusedSimpArgs false
set_option maxHeartbeats 4000000 in
theorem ph_no (a b c : Sp) (n m : Int) (w : World) (hF : FarAt w) (hO : OneAt w) (E : Int) (h : Hid (PairNo a b E)) : Calls Tryd.prog 20 #[spV a, spV b, spV c, .int .i64 n, .int .i64 m] w fun e w' => e = .returned (.bool true) ∧ Below w.heap.size w w' := by
  go_enter Tryd.func20, Tryd.ntmps20
  go_wp2_with fail
  refine (base_k _ (hF.below (by repeat (first | exact Below.refl _ _ | refine balloc ?_ _ | refine Below.drew ?_ | refine below_drewN ?_ _ | refine below_set ?_ (by first | omega | (dsimp only; omega)) _)))).mono ?_; rintro e w1 ⟨rfl, hb⟩
  obtain ⟨hc1, hf1⟩ := bcell hb
  have z1 := hb.size
  try simp only [World.size_alloc, World.size_setCell, World.size_drew] at z1
  have s1_0 : w.heap.size < w1.heap.size := by omega
  have s1_1 : w.heap.size + 1 < w1.heap.size := by omega
  have s1_2 : w.heap.size + 1 + 1 < w1.heap.size := by omega
  have hB1 : Below w.heap.size w w1 := below_seq (by repeat (first | exact Below.refl _ _ | refine balloc ?_ _ | refine Below.drew ?_ | refine below_drewN ?_ _ | refine below_set ?_ (by first | omega | (dsimp only; omega)) _)) hb
  clear hb
  go_wp2_with fail
  refine (pair_base _ (hF.below (by repeat (first | exact hB1 | exact Below.refl _ _ | refine balloc ?_ _ | refine Below.drew ?_ | refine below_drewN ?_ _ | refine below_set ?_ (by first | omega | (dsimp only; omega)) _))) (hO.below (by repeat (first | exact hB1 | exact Below.refl _ _ | refine balloc ?_ _ | refine Below.drew ?_ | refine below_drewN ?_ _ | refine below_set ?_ (by first | omega | (dsimp only; omega)) _)))).mono ?_; rintro e w2 ⟨rfl, hb⟩
  obtain ⟨hc2, hf2⟩ := bcell hb
  have z2 := hb.size
  try simp only [World.size_alloc, World.size_setCell, World.size_drew] at z2
  have s2_0 : w.heap.size < w2.heap.size := by omega
  have s2_1 : w.heap.size + 1 < w2.heap.size := by omega
  have s2_2 : w.heap.size + 1 + 1 < w2.heap.size := by omega
  have s2_3 : w1.heap.size < w2.heap.size := by omega
  have hB2 : Below w.heap.size w w2 := below_seq (by repeat (first | exact hB1 | exact Below.refl _ _ | refine balloc ?_ _ | refine Below.drew ?_ | refine below_drewN ?_ _ | refine below_set ?_ (by first | omega | (dsimp only; omega)) _)) hb
  clear hb
  go_wp2_with fail
  refine (pow_base _).mono ?_; rintro e w3 ⟨rfl, hb⟩
  obtain ⟨hc3, hf3⟩ := bcell hb
  have z3 := hb.size
  try simp only [World.size_alloc, World.size_setCell, World.size_drew] at z3
  have s3_0 : w.heap.size < w3.heap.size := by omega
  have s3_1 : w.heap.size + 1 < w3.heap.size := by omega
  have s3_2 : w.heap.size + 1 + 1 < w3.heap.size := by omega
  have s3_3 : w1.heap.size < w3.heap.size := by omega
  have s3_4 : w2.heap.size < w3.heap.size := by omega
  have hB3 : Below w.heap.size w w3 := below_seq (by repeat (first | exact hB2 | exact Below.refl _ _ | refine balloc ?_ _ | refine Below.drew ?_ | refine below_drewN ?_ _ | refine below_set ?_ (by first | omega | (dsimp only; omega)) _)) hb
  clear hb
  go_wp2_with fail
  refine (h.out _ (hF.below (by repeat (first | exact hB3 | exact Below.refl _ _ | refine balloc ?_ _ | refine Below.drew ?_ | refine below_drewN ?_ _ | refine below_set ?_ (by first | omega | (dsimp only; omega)) _)))).mono ?_; rintro e w4 ⟨rfl, hb⟩
  obtain ⟨hc4, hf4⟩ := bcell hb
  have z4 := hb.size
  try simp only [World.size_alloc, World.size_setCell, World.size_drew] at z4
  have s4_0 : w.heap.size < w4.heap.size := by omega
  have s4_1 : w.heap.size + 1 < w4.heap.size := by omega
  have s4_2 : w.heap.size + 1 + 1 < w4.heap.size := by omega
  have s4_3 : w1.heap.size < w4.heap.size := by omega
  have s4_4 : w2.heap.size < w4.heap.size := by omega
  have s4_5 : w3.heap.size < w4.heap.size := by omega
  have hB4 : Below w.heap.size w w4 := below_seq (by repeat (first | exact hB3 | exact Below.refl _ _ | refine balloc ?_ _ | refine Below.drew ?_ | refine below_drewN ?_ _ | refine below_set ?_ (by first | omega | (dsimp only; omega)) _)) hb
  clear hb
  go_wp2
  go_ret
  exact ⟨rfl, (by repeat (first | exact hB4 | exact Below.refl _ _ | refine balloc ?_ _ | refine Below.drew ?_ | refine below_drewN ?_ _ | refine below_set ?_ (by first | omega | (dsimp only; omega)) _))⟩
set_option maxHeartbeats 4000000 in
theorem ph_1 (a b c : Sp) (n m : Int) (w : World) (hF : FarAt w) (hO : OneAt w) (i j : Int) (P : Z) (ca : Hid (Cnt a i)) (cb : Hid (Cnt b j)) (hP : Hid (zp (i * j) = P)) (h : n < 0) : Calls Tryd.prog 20 #[spV a, spV b, spV c, .int .i64 n, .int .i64 m] w fun e w' => e = .returned (.bool true) ∧ Below w.heap.size w w' := by
  go_enter Tryd.func20, Tryd.ntmps20
  go_wp2_with fail
  refine (base_k _ (hF.below (by repeat (first | exact Below.refl _ _ | refine balloc ?_ _ | refine Below.drew ?_ | refine below_drewN ?_ _ | refine below_set ?_ (by first | omega | (dsimp only; omega)) _)))).mono ?_; rintro e w1 ⟨rfl, hb⟩
  obtain ⟨hc1, hf1⟩ := bcell hb
  have z1 := hb.size
  try simp only [World.size_alloc, World.size_setCell, World.size_drew] at z1
  have s1_0 : w.heap.size < w1.heap.size := by omega
  have s1_1 : w.heap.size + 1 < w1.heap.size := by omega
  have s1_2 : w.heap.size + 1 + 1 < w1.heap.size := by omega
  have hB1 : Below w.heap.size w w1 := below_seq (by repeat (first | exact Below.refl _ _ | refine balloc ?_ _ | refine Below.drew ?_ | refine below_drewN ?_ _ | refine below_set ?_ (by first | omega | (dsimp only; omega)) _)) hb
  clear hb
  go_wp2_with fail
  refine (pair_base _ (hF.below (by repeat (first | exact hB1 | exact Below.refl _ _ | refine balloc ?_ _ | refine Below.drew ?_ | refine below_drewN ?_ _ | refine below_set ?_ (by first | omega | (dsimp only; omega)) _))) (hO.below (by repeat (first | exact hB1 | exact Below.refl _ _ | refine balloc ?_ _ | refine Below.drew ?_ | refine below_drewN ?_ _ | refine below_set ?_ (by first | omega | (dsimp only; omega)) _)))).mono ?_; rintro e w2 ⟨rfl, hb⟩
  obtain ⟨hc2, hf2⟩ := bcell hb
  have z2 := hb.size
  try simp only [World.size_alloc, World.size_setCell, World.size_drew] at z2
  have s2_0 : w.heap.size < w2.heap.size := by omega
  have s2_1 : w.heap.size + 1 < w2.heap.size := by omega
  have s2_2 : w.heap.size + 1 + 1 < w2.heap.size := by omega
  have s2_3 : w1.heap.size < w2.heap.size := by omega
  have hB2 : Below w.heap.size w w2 := below_seq (by repeat (first | exact hB1 | exact Below.refl _ _ | refine balloc ?_ _ | refine Below.drew ?_ | refine below_drewN ?_ _ | refine below_set ?_ (by first | omega | (dsimp only; omega)) _)) hb
  clear hb
  go_wp2_with fail
  refine (pow_base _).mono ?_; rintro e w3 ⟨rfl, hb⟩
  obtain ⟨hc3, hf3⟩ := bcell hb
  have z3 := hb.size
  try simp only [World.size_alloc, World.size_setCell, World.size_drew] at z3
  have s3_0 : w.heap.size < w3.heap.size := by omega
  have s3_1 : w.heap.size + 1 < w3.heap.size := by omega
  have s3_2 : w.heap.size + 1 + 1 < w3.heap.size := by omega
  have s3_3 : w1.heap.size < w3.heap.size := by omega
  have s3_4 : w2.heap.size < w3.heap.size := by omega
  have hB3 : Below w.heap.size w w3 := below_seq (by repeat (first | exact hB2 | exact Below.refl _ _ | refine balloc ?_ _ | refine Below.drew ?_ | refine below_drewN ?_ _ | refine below_set ?_ (by first | omega | (dsimp only; omega)) _)) hb
  clear hb
  go_wp2_with fail
  refine (pair_e a b i j P _ (hF.below (by repeat (first | exact hB3 | exact Below.refl _ _ | refine balloc ?_ _ | refine Below.drew ?_ | refine below_drewN ?_ _ | refine below_set ?_ (by first | omega | (dsimp only; omega)) _))) (hO.below (by repeat (first | exact hB3 | exact Below.refl _ _ | refine balloc ?_ _ | refine Below.drew ?_ | refine below_drewN ?_ _ | refine below_set ?_ (by first | omega | (dsimp only; omega)) _))) ca cb hP).mono ?_; rintro e w4 ⟨rfl, hb⟩
  obtain ⟨hc4, hf4⟩ := bcell hb
  have z4 := hb.size
  try simp only [World.size_alloc, World.size_setCell, World.size_drew] at z4
  have s4_0 : w.heap.size < w4.heap.size := by omega
  have s4_1 : w.heap.size + 1 < w4.heap.size := by omega
  have s4_2 : w.heap.size + 1 + 1 < w4.heap.size := by omega
  have s4_3 : w1.heap.size < w4.heap.size := by omega
  have s4_4 : w2.heap.size < w4.heap.size := by omega
  have s4_5 : w3.heap.size < w4.heap.size := by omega
  have hB4 : Below w.heap.size w w4 := below_seq (by repeat (first | exact hB3 | exact Below.refl _ _ | refine balloc ?_ _ | refine Below.drew ?_ | refine below_drewN ?_ _ | refine below_set ?_ (by first | omega | (dsimp only; omega)) _)) hb
  clear hb
  go_wp2
  go_ret
  exact ⟨rfl, (by repeat (first | exact hB4 | exact Below.refl _ _ | refine balloc ?_ _ | refine Below.drew ?_ | refine below_drewN ?_ _ | refine below_set ?_ (by first | omega | (dsimp only; omega)) _))⟩
set_option maxHeartbeats 4000000 in
theorem ph_2 (a b c : Sp) (n m : Int) (w : World) (hF : FarAt w) (hO : OneAt w) (i j : Int) (P : Z) (ca : Hid (Cnt a i)) (cb : Hid (Cnt b j)) (hP : Hid (zp (i * j) = P)) (h1 : 0 ≤ n) (h : 5000 < n) : Calls Tryd.prog 20 #[spV a, spV b, spV c, .int .i64 n, .int .i64 m] w fun e w' => e = .returned (.bool true) ∧ Below w.heap.size w w' := by
  go_enter Tryd.func20, Tryd.ntmps20
  go_wp2_with fail
  refine (base_k _ (hF.below (by repeat (first | exact Below.refl _ _ | refine balloc ?_ _ | refine Below.drew ?_ | refine below_drewN ?_ _ | refine below_set ?_ (by first | omega | (dsimp only; omega)) _)))).mono ?_; rintro e w1 ⟨rfl, hb⟩
  obtain ⟨hc1, hf1⟩ := bcell hb
  have z1 := hb.size
  try simp only [World.size_alloc, World.size_setCell, World.size_drew] at z1
  have s1_0 : w.heap.size < w1.heap.size := by omega
  have s1_1 : w.heap.size + 1 < w1.heap.size := by omega
  have s1_2 : w.heap.size + 1 + 1 < w1.heap.size := by omega
  have hB1 : Below w.heap.size w w1 := below_seq (by repeat (first | exact Below.refl _ _ | refine balloc ?_ _ | refine Below.drew ?_ | refine below_drewN ?_ _ | refine below_set ?_ (by first | omega | (dsimp only; omega)) _)) hb
  clear hb
  go_wp2_with fail
  refine (pair_base _ (hF.below (by repeat (first | exact hB1 | exact Below.refl _ _ | refine balloc ?_ _ | refine Below.drew ?_ | refine below_drewN ?_ _ | refine below_set ?_ (by first | omega | (dsimp only; omega)) _))) (hO.below (by repeat (first | exact hB1 | exact Below.refl _ _ | refine balloc ?_ _ | refine Below.drew ?_ | refine below_drewN ?_ _ | refine below_set ?_ (by first | omega | (dsimp only; omega)) _)))).mono ?_; rintro e w2 ⟨rfl, hb⟩
  obtain ⟨hc2, hf2⟩ := bcell hb
  have z2 := hb.size
  try simp only [World.size_alloc, World.size_setCell, World.size_drew] at z2
  have s2_0 : w.heap.size < w2.heap.size := by omega
  have s2_1 : w.heap.size + 1 < w2.heap.size := by omega
  have s2_2 : w.heap.size + 1 + 1 < w2.heap.size := by omega
  have s2_3 : w1.heap.size < w2.heap.size := by omega
  have hB2 : Below w.heap.size w w2 := below_seq (by repeat (first | exact hB1 | exact Below.refl _ _ | refine balloc ?_ _ | refine Below.drew ?_ | refine below_drewN ?_ _ | refine below_set ?_ (by first | omega | (dsimp only; omega)) _)) hb
  clear hb
  go_wp2_with fail
  refine (pow_base _).mono ?_; rintro e w3 ⟨rfl, hb⟩
  obtain ⟨hc3, hf3⟩ := bcell hb
  have z3 := hb.size
  try simp only [World.size_alloc, World.size_setCell, World.size_drew] at z3
  have s3_0 : w.heap.size < w3.heap.size := by omega
  have s3_1 : w.heap.size + 1 < w3.heap.size := by omega
  have s3_2 : w.heap.size + 1 + 1 < w3.heap.size := by omega
  have s3_3 : w1.heap.size < w3.heap.size := by omega
  have s3_4 : w2.heap.size < w3.heap.size := by omega
  have hB3 : Below w.heap.size w w3 := below_seq (by repeat (first | exact hB2 | exact Below.refl _ _ | refine balloc ?_ _ | refine Below.drew ?_ | refine below_drewN ?_ _ | refine below_set ?_ (by first | omega | (dsimp only; omega)) _)) hb
  clear hb
  go_wp2_with fail
  refine (pair_e a b i j P _ (hF.below (by repeat (first | exact hB3 | exact Below.refl _ _ | refine balloc ?_ _ | refine Below.drew ?_ | refine below_drewN ?_ _ | refine below_set ?_ (by first | omega | (dsimp only; omega)) _))) (hO.below (by repeat (first | exact hB3 | exact Below.refl _ _ | refine balloc ?_ _ | refine Below.drew ?_ | refine below_drewN ?_ _ | refine below_set ?_ (by first | omega | (dsimp only; omega)) _))) ca cb hP).mono ?_; rintro e w4 ⟨rfl, hb⟩
  obtain ⟨hc4, hf4⟩ := bcell hb
  have z4 := hb.size
  try simp only [World.size_alloc, World.size_setCell, World.size_drew] at z4
  have s4_0 : w.heap.size < w4.heap.size := by omega
  have s4_1 : w.heap.size + 1 < w4.heap.size := by omega
  have s4_2 : w.heap.size + 1 + 1 < w4.heap.size := by omega
  have s4_3 : w1.heap.size < w4.heap.size := by omega
  have s4_4 : w2.heap.size < w4.heap.size := by omega
  have s4_5 : w3.heap.size < w4.heap.size := by omega
  have hB4 : Below w.heap.size w w4 := below_seq (by repeat (first | exact hB3 | exact Below.refl _ _ | refine balloc ?_ _ | refine Below.drew ?_ | refine below_drewN ?_ _ | refine below_set ?_ (by first | omega | (dsimp only; omega)) _)) hb
  clear hb
  go_wp2
  go_ret
  exact ⟨rfl, (by repeat (first | exact hB4 | exact Below.refl _ _ | refine balloc ?_ _ | refine Below.drew ?_ | refine below_drewN ?_ _ | refine below_set ?_ (by first | omega | (dsimp only; omega)) _))⟩
set_option maxHeartbeats 4000000 in
theorem ph_3 (a b c : Sp) (n m : Int) (w : World) (hF : FarAt w) (hO : OneAt w) (i j : Int) (P : Z) (ca : Hid (Cnt a i)) (cb : Hid (Cnt b j)) (hP : Hid (zp (i * j) = P)) (h1 : 0 ≤ n) (h2 : n ≤ 5000) (h : m < 0) : Calls Tryd.prog 20 #[spV a, spV b, spV c, .int .i64 n, .int .i64 m] w fun e w' => e = .returned (.bool true) ∧ Below w.heap.size w w' := by
  go_enter Tryd.func20, Tryd.ntmps20
  go_wp2_with fail
  refine (base_k _ (hF.below (by repeat (first | exact Below.refl _ _ | refine balloc ?_ _ | refine Below.drew ?_ | refine below_drewN ?_ _ | refine below_set ?_ (by first | omega | (dsimp only; omega)) _)))).mono ?_; rintro e w1 ⟨rfl, hb⟩
  obtain ⟨hc1, hf1⟩ := bcell hb
  have z1 := hb.size
  try simp only [World.size_alloc, World.size_setCell, World.size_drew] at z1
  have s1_0 : w.heap.size < w1.heap.size := by omega
  have s1_1 : w.heap.size + 1 < w1.heap.size := by omega
  have s1_2 : w.heap.size + 1 + 1 < w1.heap.size := by omega
  have hB1 : Below w.heap.size w w1 := below_seq (by repeat (first | exact Below.refl _ _ | refine balloc ?_ _ | refine Below.drew ?_ | refine below_drewN ?_ _ | refine below_set ?_ (by first | omega | (dsimp only; omega)) _)) hb
  clear hb
  go_wp2_with fail
  refine (pair_base _ (hF.below (by repeat (first | exact hB1 | exact Below.refl _ _ | refine balloc ?_ _ | refine Below.drew ?_ | refine below_drewN ?_ _ | refine below_set ?_ (by first | omega | (dsimp only; omega)) _))) (hO.below (by repeat (first | exact hB1 | exact Below.refl _ _ | refine balloc ?_ _ | refine Below.drew ?_ | refine below_drewN ?_ _ | refine below_set ?_ (by first | omega | (dsimp only; omega)) _)))).mono ?_; rintro e w2 ⟨rfl, hb⟩
  obtain ⟨hc2, hf2⟩ := bcell hb
  have z2 := hb.size
  try simp only [World.size_alloc, World.size_setCell, World.size_drew] at z2
  have s2_0 : w.heap.size < w2.heap.size := by omega
  have s2_1 : w.heap.size + 1 < w2.heap.size := by omega
  have s2_2 : w.heap.size + 1 + 1 < w2.heap.size := by omega
  have s2_3 : w1.heap.size < w2.heap.size := by omega
  have hB2 : Below w.heap.size w w2 := below_seq (by repeat (first | exact hB1 | exact Below.refl _ _ | refine balloc ?_ _ | refine Below.drew ?_ | refine below_drewN ?_ _ | refine below_set ?_ (by first | omega | (dsimp only; omega)) _)) hb
  clear hb
  go_wp2_with fail
  refine (pow_base _).mono ?_; rintro e w3 ⟨rfl, hb⟩
  obtain ⟨hc3, hf3⟩ := bcell hb
  have z3 := hb.size
  try simp only [World.size_alloc, World.size_setCell, World.size_drew] at z3
  have s3_0 : w.heap.size < w3.heap.size := by omega
  have s3_1 : w.heap.size + 1 < w3.heap.size := by omega
  have s3_2 : w.heap.size + 1 + 1 < w3.heap.size := by omega
  have s3_3 : w1.heap.size < w3.heap.size := by omega
  have s3_4 : w2.heap.size < w3.heap.size := by omega
  have hB3 : Below w.heap.size w w3 := below_seq (by repeat (first | exact hB2 | exact Below.refl _ _ | refine balloc ?_ _ | refine Below.drew ?_ | refine below_drewN ?_ _ | refine below_set ?_ (by first | omega | (dsimp only; omega)) _)) hb
  clear hb
  go_wp2_with fail
  refine (pair_e a b i j P _ (hF.below (by repeat (first | exact hB3 | exact Below.refl _ _ | refine balloc ?_ _ | refine Below.drew ?_ | refine below_drewN ?_ _ | refine below_set ?_ (by first | omega | (dsimp only; omega)) _))) (hO.below (by repeat (first | exact hB3 | exact Below.refl _ _ | refine balloc ?_ _ | refine Below.drew ?_ | refine below_drewN ?_ _ | refine below_set ?_ (by first | omega | (dsimp only; omega)) _))) ca cb hP).mono ?_; rintro e w4 ⟨rfl, hb⟩
  obtain ⟨hc4, hf4⟩ := bcell hb
  have z4 := hb.size
  try simp only [World.size_alloc, World.size_setCell, World.size_drew] at z4
  have s4_0 : w.heap.size < w4.heap.size := by omega
  have s4_1 : w.heap.size + 1 < w4.heap.size := by omega
  have s4_2 : w.heap.size + 1 + 1 < w4.heap.size := by omega
  have s4_3 : w1.heap.size < w4.heap.size := by omega
  have s4_4 : w2.heap.size < w4.heap.size := by omega
  have s4_5 : w3.heap.size < w4.heap.size := by omega
  have hB4 : Below w.heap.size w w4 := below_seq (by repeat (first | exact hB3 | exact Below.refl _ _ | refine balloc ?_ _ | refine Below.drew ?_ | refine below_drewN ?_ _ | refine below_set ?_ (by first | omega | (dsimp only; omega)) _)) hb
  clear hb
  go_wp2
  go_ret
  exact ⟨rfl, (by repeat (first | exact hB4 | exact Below.refl _ _ | refine balloc ?_ _ | refine Below.drew ?_ | refine below_drewN ?_ _ | refine below_set ?_ (by first | omega | (dsimp only; omega)) _))⟩
set_option maxHeartbeats 4000000 in
theorem ph_4 (a b c : Sp) (n m : Int) (w : World) (hF : FarAt w) (hO : OneAt w) (i j : Int) (P : Z) (ca : Hid (Cnt a i)) (cb : Hid (Cnt b j)) (hP : Hid (zp (i * j) = P)) (h1 : 0 ≤ n) (h2 : n ≤ 5000) (h3 : 0 ≤ m) (h : 5000 < m) : Calls Tryd.prog 20 #[spV a, spV b, spV c, .int .i64 n, .int .i64 m] w fun e w' => e = .returned (.bool true) ∧ Below w.heap.size w w' := by
  go_enter Tryd.func20, Tryd.ntmps20
  go_wp2_with fail
  refine (base_k _ (hF.below (by repeat (first | exact Below.refl _ _ | refine balloc ?_ _ | refine Below.drew ?_ | refine below_drewN ?_ _ | refine below_set ?_ (by first | omega | (dsimp only; omega)) _)))).mono ?_; rintro e w1 ⟨rfl, hb⟩
  obtain ⟨hc1, hf1⟩ := bcell hb
  have z1 := hb.size
  try simp only [World.size_alloc, World.size_setCell, World.size_drew] at z1
  have s1_0 : w.heap.size < w1.heap.size := by omega
  have s1_1 : w.heap.size + 1 < w1.heap.size := by omega
  have s1_2 : w.heap.size + 1 + 1 < w1.heap.size := by omega
  have hB1 : Below w.heap.size w w1 := below_seq (by repeat (first | exact Below.refl _ _ | refine balloc ?_ _ | refine Below.drew ?_ | refine below_drewN ?_ _ | refine below_set ?_ (by first | omega | (dsimp only; omega)) _)) hb
  clear hb
  go_wp2_with fail
  refine (pair_base _ (hF.below (by repeat (first | exact hB1 | exact Below.refl _ _ | refine balloc ?_ _ | refine Below.drew ?_ | refine below_drewN ?_ _ | refine below_set ?_ (by first | omega | (dsimp only; omega)) _))) (hO.below (by repeat (first | exact hB1 | exact Below.refl _ _ | refine balloc ?_ _ | refine Below.drew ?_ | refine below_drewN ?_ _ | refine below_set ?_ (by first | omega | (dsimp only; omega)) _)))).mono ?_; rintro e w2 ⟨rfl, hb⟩
  obtain ⟨hc2, hf2⟩ := bcell hb
  have z2 := hb.size
  try simp only [World.size_alloc, World.size_setCell, World.size_drew] at z2
  have s2_0 : w.heap.size < w2.heap.size := by omega
  have s2_1 : w.heap.size + 1 < w2.heap.size := by omega
  have s2_2 : w.heap.size + 1 + 1 < w2.heap.size := by omega
  have s2_3 : w1.heap.size < w2.heap.size := by omega
  have hB2 : Below w.heap.size w w2 := below_seq (by repeat (first | exact hB1 | exact Below.refl _ _ | refine balloc ?_ _ | refine Below.drew ?_ | refine below_drewN ?_ _ | refine below_set ?_ (by first | omega | (dsimp only; omega)) _)) hb
  clear hb
  go_wp2_with fail
  refine (pow_base _).mono ?_; rintro e w3 ⟨rfl, hb⟩
  obtain ⟨hc3, hf3⟩ := bcell hb
  have z3 := hb.size
  try simp only [World.size_alloc, World.size_setCell, World.size_drew] at z3
  have s3_0 : w.heap.size < w3.heap.size := by omega
  have s3_1 : w.heap.size + 1 < w3.heap.size := by omega
  have s3_2 : w.heap.size + 1 + 1 < w3.heap.size := by omega
  have s3_3 : w1.heap.size < w3.heap.size := by omega
  have s3_4 : w2.heap.size < w3.heap.size := by omega
  have hB3 : Below w.heap.size w w3 := below_seq (by repeat (first | exact hB2 | exact Below.refl _ _ | refine balloc ?_ _ | refine Below.drew ?_ | refine below_drewN ?_ _ | refine below_set ?_ (by first | omega | (dsimp only; omega)) _)) hb
  clear hb
  go_wp2_with fail
  refine (pair_e a b i j P _ (hF.below (by repeat (first | exact hB3 | exact Below.refl _ _ | refine balloc ?_ _ | refine Below.drew ?_ | refine below_drewN ?_ _ | refine below_set ?_ (by first | omega | (dsimp only; omega)) _))) (hO.below (by repeat (first | exact hB3 | exact Below.refl _ _ | refine balloc ?_ _ | refine Below.drew ?_ | refine below_drewN ?_ _ | refine below_set ?_ (by first | omega | (dsimp only; omega)) _))) ca cb hP).mono ?_; rintro e w4 ⟨rfl, hb⟩
  obtain ⟨hc4, hf4⟩ := bcell hb
  have z4 := hb.size
  try simp only [World.size_alloc, World.size_setCell, World.size_drew] at z4
  have s4_0 : w.heap.size < w4.heap.size := by omega
  have s4_1 : w.heap.size + 1 < w4.heap.size := by omega
  have s4_2 : w.heap.size + 1 + 1 < w4.heap.size := by omega
  have s4_3 : w1.heap.size < w4.heap.size := by omega
  have s4_4 : w2.heap.size < w4.heap.size := by omega
  have s4_5 : w3.heap.size < w4.heap.size := by omega
  have hB4 : Below w.heap.size w w4 := below_seq (by repeat (first | exact hB3 | exact Below.refl _ _ | refine balloc ?_ _ | refine Below.drew ?_ | refine below_drewN ?_ _ | refine below_set ?_ (by first | omega | (dsimp only; omega)) _)) hb
  clear hb
  go_wp2
  go_ret
  exact ⟨rfl, (by repeat (first | exact hB4 | exact Below.refl _ _ | refine balloc ?_ _ | refine Below.drew ?_ | refine below_drewN ?_ _ | refine below_set ?_ (by first | omega | (dsimp only; omega)) _))⟩
set_option maxHeartbeats 4000000 in
theorem ph_c (a b c : Sp) (n m : Int) (w : World) (hF : FarAt w) (hO : OneAt w) (i j : Int) (P : Z) (ca : Hid (Cnt a i)) (cb : Hid (Cnt b j)) (hP : Hid (zp (i * j) = P)) (h1 : 0 ≤ n) (h2 : n ≤ 5000) (h3 : 0 ≤ m) (h4 : m ≤ 5000) (p1 : 0 ≤ n * m) (p2 : n * m ≤ 25000000) (X Y : Sp) (x y : Int) (V : Z) (ha : Hid (a = sq (4 * i))) (hb : Hid (b = sq (4 * j))) (hX : Hid (sq (4 * i * n) = X)) (hY : Hid (sq (4 * j * m) = Y)) (cX : Hid (Cnt X x)) (cY : Hid (Cnt Y y)) (hV : Hid (zp (x * y) = V)) (hV2 : Hid (P.pow (n * m).toNat = V)) (hr : Hid (zp (j * i) = P)) (hn : Hid (P.norm = 1)) (E : Int) (h : Hid (PairNo a c E)) : Calls Tryd.prog 20 #[spV a, spV b, spV c, .int .i64 n, .int .i64 m] w fun e w' => e = .returned (.bool true) ∧ Below w.heap.size w w' := by
  go_enter Tryd.func20, Tryd.ntmps20
  go_wp2_with fail
  refine (base_k _ (hF.below (by repeat (first | exact Below.refl _ _ | refine balloc ?_ _ | refine Below.drew ?_ | refine below_drewN ?_ _ | refine below_set ?_ (by first | omega | (dsimp only; omega)) _)))).mono ?_; rintro e w1 ⟨rfl, hb⟩
  obtain ⟨hc1, hf1⟩ := bcell hb
  have z1 := hb.size
  try simp only [World.size_alloc, World.size_setCell, World.size_drew] at z1
  have s1_0 : w.heap.size < w1.heap.size := by omega
  have s1_1 : w.heap.size + 1 < w1.heap.size := by omega
  have s1_2 : w.heap.size + 1 + 1 < w1.heap.size := by omega
  have hB1 : Below w.heap.size w w1 := below_seq (by repeat (first | exact Below.refl _ _ | refine balloc ?_ _ | refine Below.drew ?_ | refine below_drewN ?_ _ | refine below_set ?_ (by first | omega | (dsimp only; omega)) _)) hb
  clear hb
  go_wp2_with fail
  refine (pair_base _ (hF.below (by repeat (first | exact hB1 | exact Below.refl _ _ | refine balloc ?_ _ | refine Below.drew ?_ | refine below_drewN ?_ _ | refine below_set ?_ (by first | omega | (dsimp only; omega)) _))) (hO.below (by repeat (first | exact hB1 | exact Below.refl _ _ | refine balloc ?_ _ | refine Below.drew ?_ | refine below_drewN ?_ _ | refine below_set ?_ (by first | omega | (dsimp only; omega)) _)))).mono ?_; rintro e w2 ⟨rfl, hb⟩
  obtain ⟨hc2, hf2⟩ := bcell hb
  have z2 := hb.size
  try simp only [World.size_alloc, World.size_setCell, World.size_drew] at z2
  have s2_0 : w.heap.size < w2.heap.size := by omega
  have s2_1 : w.heap.size + 1 < w2.heap.size := by omega
  have s2_2 : w.heap.size + 1 + 1 < w2.heap.size := by omega
  have s2_3 : w1.heap.size < w2.heap.size := by omega
  have hB2 : Below w.heap.size w w2 := below_seq (by repeat (first | exact hB1 | exact Below.refl _ _ | refine balloc ?_ _ | refine Below.drew ?_ | refine below_drewN ?_ _ | refine below_set ?_ (by first | omega | (dsimp only; omega)) _)) hb
  clear hb
  go_wp2_with fail
  refine (pow_base _).mono ?_; rintro e w3 ⟨rfl, hb⟩
  obtain ⟨hc3, hf3⟩ := bcell hb
  have z3 := hb.size
  try simp only [World.size_alloc, World.size_setCell, World.size_drew] at z3
  have s3_0 : w.heap.size < w3.heap.size := by omega
  have s3_1 : w.heap.size + 1 < w3.heap.size := by omega
  have s3_2 : w.heap.size + 1 + 1 < w3.heap.size := by omega
  have s3_3 : w1.heap.size < w3.heap.size := by omega
  have s3_4 : w2.heap.size < w3.heap.size := by omega
  have hB3 : Below w.heap.size w w3 := below_seq (by repeat (first | exact hB2 | exact Below.refl _ _ | refine balloc ?_ _ | refine Below.drew ?_ | refine below_drewN ?_ _ | refine below_set ?_ (by first | omega | (dsimp only; omega)) _)) hb
  clear hb
  go_wp2_with fail
  refine (pair_e a b i j P _ (hF.below (by repeat (first | exact hB3 | exact Below.refl _ _ | refine balloc ?_ _ | refine Below.drew ?_ | refine below_drewN ?_ _ | refine below_set ?_ (by first | omega | (dsimp only; omega)) _))) (hO.below (by repeat (first | exact hB3 | exact Below.refl _ _ | refine balloc ?_ _ | refine Below.drew ?_ | refine below_drewN ?_ _ | refine below_set ?_ (by first | omega | (dsimp only; omega)) _))) ca cb hP).mono ?_; rintro e w4 ⟨rfl, hb⟩
  obtain ⟨hc4, hf4⟩ := bcell hb
  have z4 := hb.size
  try simp only [World.size_alloc, World.size_setCell, World.size_drew] at z4
  have s4_0 : w.heap.size < w4.heap.size := by omega
  have s4_1 : w.heap.size + 1 < w4.heap.size := by omega
  have s4_2 : w.heap.size + 1 + 1 < w4.heap.size := by omega
  have s4_3 : w1.heap.size < w4.heap.size := by omega
  have s4_4 : w2.heap.size < w4.heap.size := by omega
  have s4_5 : w3.heap.size < w4.heap.size := by omega
  have hB4 : Below w.heap.size w w4 := below_seq (by repeat (first | exact hB3 | exact Below.refl _ _ | refine balloc ?_ _ | refine Below.drew ?_ | refine below_drewN ?_ _ | refine below_set ?_ (by first | omega | (dsimp only; omega)) _)) hb
  clear hb
  go_wp2_with fail
  refine (times_e a X (4 * i) n _ (hF.below (by repeat (first | exact hB4 | exact Below.refl _ _ | refine balloc ?_ _ | refine Below.drew ?_ | refine below_drewN ?_ _ | refine below_set ?_ (by first | omega | (dsimp only; omega)) _))) ha hX).mono ?_; rintro e w5 ⟨rfl, hb⟩
  obtain ⟨hc5, hf5⟩ := bcell hb
  have z5 := hb.size
  try simp only [World.size_alloc, World.size_setCell, World.size_drew] at z5
  have s5_0 : w.heap.size < w5.heap.size := by omega
  have s5_1 : w.heap.size + 1 < w5.heap.size := by omega
  have s5_2 : w.heap.size + 1 + 1 < w5.heap.size := by omega
  have s5_3 : w1.heap.size < w5.heap.size := by omega
  have s5_4 : w2.heap.size < w5.heap.size := by omega
  have s5_5 : w3.heap.size < w5.heap.size := by omega
  have s5_6 : w4.heap.size < w5.heap.size := by omega
  have hB5 : Below w.heap.size w w5 := below_seq (by repeat (first | exact hB4 | exact Below.refl _ _ | refine balloc ?_ _ | refine Below.drew ?_ | refine below_drewN ?_ _ | refine below_set ?_ (by first | omega | (dsimp only; omega)) _)) hb
  clear hb
  go_wp2_with fail
  refine (times_e b Y (4 * j) m _ (hF.below (by repeat (first | exact hB5 | exact Below.refl _ _ | refine balloc ?_ _ | refine Below.drew ?_ | refine below_drewN ?_ _ | refine below_set ?_ (by first | omega | (dsimp only; omega)) _))) hb hY).mono ?_; rintro e w6 ⟨rfl, hb⟩
  obtain ⟨hc6, hf6⟩ := bcell hb
  have z6 := hb.size
  try simp only [World.size_alloc, World.size_setCell, World.size_drew] at z6
  have s6_0 : w.heap.size < w6.heap.size := by omega
  have s6_1 : w.heap.size + 1 < w6.heap.size := by omega
  have s6_2 : w.heap.size + 1 + 1 < w6.heap.size := by omega
  have s6_3 : w1.heap.size < w6.heap.size := by omega
  have s6_4 : w2.heap.size < w6.heap.size := by omega
  have s6_5 : w3.heap.size < w6.heap.size := by omega
  have s6_6 : w4.heap.size < w6.heap.size := by omega
  have s6_7 : w5.heap.size < w6.heap.size := by omega
  have hB6 : Below w.heap.size w w6 := below_seq (by repeat (first | exact hB5 | exact Below.refl _ _ | refine balloc ?_ _ | refine Below.drew ?_ | refine below_drewN ?_ _ | refine below_set ?_ (by first | omega | (dsimp only; omega)) _)) hb
  clear hb
  go_wp2_with fail
  refine (pair_e X Y x y V _ (hF.below (by repeat (first | exact hB6 | exact Below.refl _ _ | refine balloc ?_ _ | refine Below.drew ?_ | refine below_drewN ?_ _ | refine below_set ?_ (by first | omega | (dsimp only; omega)) _))) (hO.below (by repeat (first | exact hB6 | exact Below.refl _ _ | refine balloc ?_ _ | refine Below.drew ?_ | refine below_drewN ?_ _ | refine below_set ?_ (by first | omega | (dsimp only; omega)) _))) cX cY hV).mono ?_; rintro e w7 ⟨rfl, hb⟩
  obtain ⟨hc7, hf7⟩ := bcell hb
  have z7 := hb.size
  try simp only [World.size_alloc, World.size_setCell, World.size_drew] at z7
  have s7_0 : w.heap.size < w7.heap.size := by omega
  have s7_1 : w.heap.size + 1 < w7.heap.size := by omega
  have s7_2 : w.heap.size + 1 + 1 < w7.heap.size := by omega
  have s7_3 : w1.heap.size < w7.heap.size := by omega
  have s7_4 : w2.heap.size < w7.heap.size := by omega
  have s7_5 : w3.heap.size < w7.heap.size := by omega
  have s7_6 : w4.heap.size < w7.heap.size := by omega
  have s7_7 : w5.heap.size < w7.heap.size := by omega
  have s7_8 : w6.heap.size < w7.heap.size := by omega
  have hB7 : Below w.heap.size w w7 := below_seq (by repeat (first | exact hB6 | exact Below.refl _ _ | refine balloc ?_ _ | refine Below.drew ?_ | refine below_drewN ?_ _ | refine below_set ?_ (by first | omega | (dsimp only; omega)) _)) hb
  clear hb
  go_wp2_with fail
  refine (pow_e P V (n * m) _ p1 (by omega) hV2).mono ?_; rintro e w8 ⟨rfl, hb⟩
  obtain ⟨hc8, hf8⟩ := bcell hb
  have z8 := hb.size
  try simp only [World.size_alloc, World.size_setCell, World.size_drew] at z8
  have s8_0 : w.heap.size < w8.heap.size := by omega
  have s8_1 : w.heap.size + 1 < w8.heap.size := by omega
  have s8_2 : w.heap.size + 1 + 1 < w8.heap.size := by omega
  have s8_3 : w1.heap.size < w8.heap.size := by omega
  have s8_4 : w2.heap.size < w8.heap.size := by omega
  have s8_5 : w3.heap.size < w8.heap.size := by omega
  have s8_6 : w4.heap.size < w8.heap.size := by omega
  have s8_7 : w5.heap.size < w8.heap.size := by omega
  have s8_8 : w6.heap.size < w8.heap.size := by omega
  have s8_9 : w7.heap.size < w8.heap.size := by omega
  have hB8 : Below w.heap.size w w8 := below_seq (by repeat (first | exact hB7 | exact Below.refl _ _ | refine balloc ?_ _ | refine Below.drew ?_ | refine below_drewN ?_ _ | refine below_set ?_ (by first | omega | (dsimp only; omega)) _)) hb
  clear hb
  go_wp2_with fail
  refine (pair_e b a j i P _ (hF.below (by repeat (first | exact hB8 | exact Below.refl _ _ | refine balloc ?_ _ | refine Below.drew ?_ | refine below_drewN ?_ _ | refine below_set ?_ (by first | omega | (dsimp only; omega)) _))) (hO.below (by repeat (first | exact hB8 | exact Below.refl _ _ | refine balloc ?_ _ | refine Below.drew ?_ | refine below_drewN ?_ _ | refine below_set ?_ (by first | omega | (dsimp only; omega)) _))) cb ca hr).mono ?_; rintro e w9 ⟨rfl, hb⟩
  obtain ⟨hc9, hf9⟩ := bcell hb
  have z9 := hb.size
  try simp only [World.size_alloc, World.size_setCell, World.size_drew] at z9
  have s9_0 : w.heap.size < w9.heap.size := by omega
  have s9_1 : w.heap.size + 1 < w9.heap.size := by omega
  have s9_2 : w.heap.size + 1 + 1 < w9.heap.size := by omega
  have s9_3 : w1.heap.size < w9.heap.size := by omega
  have s9_4 : w2.heap.size < w9.heap.size := by omega
  have s9_5 : w3.heap.size < w9.heap.size := by omega
  have s9_6 : w4.heap.size < w9.heap.size := by omega
  have s9_7 : w5.heap.size < w9.heap.size := by omega
  have s9_8 : w6.heap.size < w9.heap.size := by omega
  have s9_9 : w7.heap.size < w9.heap.size := by omega
  have s9_10 : w8.heap.size < w9.heap.size := by omega
  have hB9 : Below w.heap.size w w9 := below_seq (by repeat (first | exact hB8 | exact Below.refl _ _ | refine balloc ?_ _ | refine Below.drew ?_ | refine below_drewN ?_ _ | refine below_set ?_ (by first | omega | (dsimp only; omega)) _)) hb
  clear hb
  go_wp2_with fail
  refine (norm_e P _ hn).mono ?_; rintro e w10 ⟨rfl, hb⟩
  obtain ⟨hc10, hf10⟩ := bcell hb
  have z10 := hb.size
  try simp only [World.size_alloc, World.size_setCell, World.size_drew] at z10
  have s10_0 : w.heap.size < w10.heap.size := by omega
  have s10_1 : w.heap.size + 1 < w10.heap.size := by omega
  have s10_2 : w.heap.size + 1 + 1 < w10.heap.size := by omega
  have s10_3 : w1.heap.size < w10.heap.size := by omega
  have s10_4 : w2.heap.size < w10.heap.size := by omega
  have s10_5 : w3.heap.size < w10.heap.size := by omega
  have s10_6 : w4.heap.size < w10.heap.size := by omega
  have s10_7 : w5.heap.size < w10.heap.size := by omega
  have s10_8 : w6.heap.size < w10.heap.size := by omega
  have s10_9 : w7.heap.size < w10.heap.size := by omega
  have s10_10 : w8.heap.size < w10.heap.size := by omega
  have s10_11 : w9.heap.size < w10.heap.size := by omega
  have hB10 : Below w.heap.size w w10 := below_seq (by repeat (first | exact hB9 | exact Below.refl _ _ | refine balloc ?_ _ | refine Below.drew ?_ | refine below_drewN ?_ _ | refine below_set ?_ (by first | omega | (dsimp only; omega)) _)) hb
  clear hb
  go_wp2_with fail
  refine (h.out _ (hF.below (by repeat (first | exact hB10 | exact Below.refl _ _ | refine balloc ?_ _ | refine Below.drew ?_ | refine below_drewN ?_ _ | refine below_set ?_ (by first | omega | (dsimp only; omega)) _)))).mono ?_; rintro e w11 ⟨rfl, hb⟩
  obtain ⟨hc11, hf11⟩ := bcell hb
  have z11 := hb.size
  try simp only [World.size_alloc, World.size_setCell, World.size_drew] at z11
  have s11_0 : w.heap.size < w11.heap.size := by omega
  have s11_1 : w.heap.size + 1 < w11.heap.size := by omega
  have s11_2 : w.heap.size + 1 + 1 < w11.heap.size := by omega
  have s11_3 : w1.heap.size < w11.heap.size := by omega
  have s11_4 : w2.heap.size < w11.heap.size := by omega
  have s11_5 : w3.heap.size < w11.heap.size := by omega
  have s11_6 : w4.heap.size < w11.heap.size := by omega
  have s11_7 : w5.heap.size < w11.heap.size := by omega
  have s11_8 : w6.heap.size < w11.heap.size := by omega
  have s11_9 : w7.heap.size < w11.heap.size := by omega
  have s11_10 : w8.heap.size < w11.heap.size := by omega
  have s11_11 : w9.heap.size < w11.heap.size := by omega
  have hB11 : Below w.heap.size w w11 := below_seq (by repeat (first | exact hB10 | exact Below.refl _ _ | refine balloc ?_ _ | refine Below.drew ?_ | refine below_drewN ?_ _ | refine below_set ?_ (by first | omega | (dsimp only; omega)) _)) hb
  clear hb
  go_wp2
  go_ret
  exact ⟨rfl, (by repeat (first | exact hB11 | exact Below.refl _ _ | refine balloc ?_ _ | refine Below.drew ?_ | refine below_drewN ?_ _ | refine below_set ?_ (by first | omega | (dsimp only; omega)) _))⟩
set_option maxHeartbeats 4000000 in
theorem ph_ok (a b c : Sp) (n m : Int) (w : World) (hF : FarAt w) (hO : OneAt w) (i j : Int) (P : Z) (ca : Hid (Cnt a i)) (cb : Hid (Cnt b j)) (hP : Hid (zp (i * j) = P)) (h1 : 0 ≤ n) (h2 : n ≤ 5000) (h3 : 0 ≤ m) (h4 : m ≤ 5000) (p1 : 0 ≤ n * m) (p2 : n * m ≤ 25000000) (X Y : Sp) (x y : Int) (V : Z) (ha : Hid (a = sq (4 * i))) (hb : Hid (b = sq (4 * j))) (hX : Hid (sq (4 * i * n) = X)) (hY : Hid (sq (4 * j * m) = Y)) (cX : Hid (Cnt X x)) (cY : Hid (Cnt Y y)) (hV : Hid (zp (x * y) = V)) (hV2 : Hid (P.pow (n * m).toNat = V)) (hr : Hid (zp (j * i) = P)) (hn : Hid (P.norm = 1)) (k s : Int) (Q T : Z) (S : Sp) (cc : Hid (Cnt c k)) (hQ : Hid (zp (i * k) = Q)) (hS : Hid (sSum b c = S)) (cS : Hid (Cnt S s)) (hT : Hid (zp (i * s) = T)) (hT2 : Hid (P.mul Q = T)) (ob : Ok b) (oc : Ok c) : Calls Tryd.prog 20 #[spV a, spV b, spV c, .int .i64 n, .int .i64 m] w fun e w' => e = .returned (.bool true) ∧ Below w.heap.size w w' := by
  go_enter Tryd.func20, Tryd.ntmps20
  go_wp2_with fail
  refine (base_k _ (hF.below (by repeat (first | exact Below.refl _ _ | refine balloc ?_ _ | refine Below.drew ?_ | refine below_drewN ?_ _ | refine below_set ?_ (by first | omega | (dsimp only; omega)) _)))).mono ?_; rintro e w1 ⟨rfl, hb⟩
  obtain ⟨hc1, hf1⟩ := bcell hb
  have z1 := hb.size
  try simp only [World.size_alloc, World.size_setCell, World.size_drew] at z1
  have s1_0 : w.heap.size < w1.heap.size := by omega
  have s1_1 : w.heap.size + 1 < w1.heap.size := by omega
  have s1_2 : w.heap.size + 1 + 1 < w1.heap.size := by omega
  have hB1 : Below w.heap.size w w1 := below_seq (by repeat (first | exact Below.refl _ _ | refine balloc ?_ _ | refine Below.drew ?_ | refine below_drewN ?_ _ | refine below_set ?_ (by first | omega | (dsimp only; omega)) _)) hb
  clear hb
  go_wp2_with fail
  refine (pair_base _ (hF.below (by repeat (first | exact hB1 | exact Below.refl _ _ | refine balloc ?_ _ | refine Below.drew ?_ | refine below_drewN ?_ _ | refine below_set ?_ (by first | omega | (dsimp only; omega)) _))) (hO.below (by repeat (first | exact hB1 | exact Below.refl _ _ | refine balloc ?_ _ | refine Below.drew ?_ | refine below_drewN ?_ _ | refine below_set ?_ (by first | omega | (dsimp only; omega)) _)))).mono ?_; rintro e w2 ⟨rfl, hb⟩
  obtain ⟨hc2, hf2⟩ := bcell hb
  have z2 := hb.size
  try simp only [World.size_alloc, World.size_setCell, World.size_drew] at z2
  have s2_0 : w.heap.size < w2.heap.size := by omega
  have s2_1 : w.heap.size + 1 < w2.heap.size := by omega
  have s2_2 : w.heap.size + 1 + 1 < w2.heap.size := by omega
  have s2_3 : w1.heap.size < w2.heap.size := by omega
  have hB2 : Below w.heap.size w w2 := below_seq (by repeat (first | exact hB1 | exact Below.refl _ _ | refine balloc ?_ _ | refine Below.drew ?_ | refine below_drewN ?_ _ | refine below_set ?_ (by first | omega | (dsimp only; omega)) _)) hb
  clear hb
  go_wp2_with fail
  refine (pow_base _).mono ?_; rintro e w3 ⟨rfl, hb⟩
  obtain ⟨hc3, hf3⟩ := bcell hb
  have z3 := hb.size
  try simp only [World.size_alloc, World.size_setCell, World.size_drew] at z3
  have s3_0 : w.heap.size < w3.heap.size := by omega
  have s3_1 : w.heap.size + 1 < w3.heap.size := by omega
  have s3_2 : w.heap.size + 1 + 1 < w3.heap.size := by omega
  have s3_3 : w1.heap.size < w3.heap.size := by omega
  have s3_4 : w2.heap.size < w3.heap.size := by omega
  have hB3 : Below w.heap.size w w3 := below_seq (by repeat (first | exact hB2 | exact Below.refl _ _ | refine balloc ?_ _ | refine Below.drew ?_ | refine below_drewN ?_ _ | refine below_set ?_ (by first | omega | (dsimp only; omega)) _)) hb
  clear hb
  go_wp2_with fail
  refine (pair_e a b i j P _ (hF.below (by repeat (first | exact hB3 | exact Below.refl _ _ | refine balloc ?_ _ | refine Below.drew ?_ | refine below_drewN ?_ _ | refine below_set ?_ (by first | omega | (dsimp only; omega)) _))) (hO.below (by repeat (first | exact hB3 | exact Below.refl _ _ | refine balloc ?_ _ | refine Below.drew ?_ | refine below_drewN ?_ _ | refine below_set ?_ (by first | omega | (dsimp only; omega)) _))) ca cb hP).mono ?_; rintro e w4 ⟨rfl, hb⟩
  obtain ⟨hc4, hf4⟩ := bcell hb
  have z4 := hb.size
  try simp only [World.size_alloc, World.size_setCell, World.size_drew] at z4
  have s4_0 : w.heap.size < w4.heap.size := by omega
  have s4_1 : w.heap.size + 1 < w4.heap.size := by omega
  have s4_2 : w.heap.size + 1 + 1 < w4.heap.size := by omega
  have s4_3 : w1.heap.size < w4.heap.size := by omega
  have s4_4 : w2.heap.size < w4.heap.size := by omega
  have s4_5 : w3.heap.size < w4.heap.size := by omega
  have hB4 : Below w.heap.size w w4 := below_seq (by repeat (first | exact hB3 | exact Below.refl _ _ | refine balloc ?_ _ | refine Below.drew ?_ | refine below_drewN ?_ _ | refine below_set ?_ (by first | omega | (dsimp only; omega)) _)) hb
  clear hb
  go_wp2_with fail
  refine (times_e a X (4 * i) n _ (hF.below (by repeat (first | exact hB4 | exact Below.refl _ _ | refine balloc ?_ _ | refine Below.drew ?_ | refine below_drewN ?_ _ | refine below_set ?_ (by first | omega | (dsimp only; omega)) _))) ha hX).mono ?_; rintro e w5 ⟨rfl, hb⟩
  obtain ⟨hc5, hf5⟩ := bcell hb
  have z5 := hb.size
  try simp only [World.size_alloc, World.size_setCell, World.size_drew] at z5
  have s5_0 : w.heap.size < w5.heap.size := by omega
  have s5_1 : w.heap.size + 1 < w5.heap.size := by omega
  have s5_2 : w.heap.size + 1 + 1 < w5.heap.size := by omega
  have s5_3 : w1.heap.size < w5.heap.size := by omega
  have s5_4 : w2.heap.size < w5.heap.size := by omega
  have s5_5 : w3.heap.size < w5.heap.size := by omega
  have s5_6 : w4.heap.size < w5.heap.size := by omega
  have hB5 : Below w.heap.size w w5 := below_seq (by repeat (first | exact hB4 | exact Below.refl _ _ | refine balloc ?_ _ | refine Below.drew ?_ | refine below_drewN ?_ _ | refine below_set ?_ (by first | omega | (dsimp only; omega)) _)) hb
  clear hb
  go_wp2_with fail
  refine (times_e b Y (4 * j) m _ (hF.below (by repeat (first | exact hB5 | exact Below.refl _ _ | refine balloc ?_ _ | refine Below.drew ?_ | refine below_drewN ?_ _ | refine below_set ?_ (by first | omega | (dsimp only; omega)) _))) hb hY).mono ?_; rintro e w6 ⟨rfl, hb⟩
  obtain ⟨hc6, hf6⟩ := bcell hb
  have z6 := hb.size
  try simp only [World.size_alloc, World.size_setCell, World.size_drew] at z6
  have s6_0 : w.heap.size < w6.heap.size := by omega
  have s6_1 : w.heap.size + 1 < w6.heap.size := by omega
  have s6_2 : w.heap.size + 1 + 1 < w6.heap.size := by omega
  have s6_3 : w1.heap.size < w6.heap.size := by omega
  have s6_4 : w2.heap.size < w6.heap.size := by omega
  have s6_5 : w3.heap.size < w6.heap.size := by omega
  have s6_6 : w4.heap.size < w6.heap.size := by omega
  have s6_7 : w5.heap.size < w6.heap.size := by omega
  have hB6 : Below w.heap.size w w6 := below_seq (by repeat (first | exact hB5 | exact Below.refl _ _ | refine balloc ?_ _ | refine Below.drew ?_ | refine below_drewN ?_ _ | refine below_set ?_ (by first | omega | (dsimp only; omega)) _)) hb
  clear hb
  go_wp2_with fail
  refine (pair_e X Y x y V _ (hF.below (by repeat (first | exact hB6 | exact Below.refl _ _ | refine balloc ?_ _ | refine Below.drew ?_ | refine below_drewN ?_ _ | refine below_set ?_ (by first | omega | (dsimp only; omega)) _))) (hO.below (by repeat (first | exact hB6 | exact Below.refl _ _ | refine balloc ?_ _ | refine Below.drew ?_ | refine below_drewN ?_ _ | refine below_set ?_ (by first | omega | (dsimp only; omega)) _))) cX cY hV).mono ?_; rintro e w7 ⟨rfl, hb⟩
  obtain ⟨hc7, hf7⟩ := bcell hb
  have z7 := hb.size
  try simp only [World.size_alloc, World.size_setCell, World.size_drew] at z7
  have s7_0 : w.heap.size < w7.heap.size := by omega
  have s7_1 : w.heap.size + 1 < w7.heap.size := by omega
  have s7_2 : w.heap.size + 1 + 1 < w7.heap.size := by omega
  have s7_3 : w1.heap.size < w7.heap.size := by omega
  have s7_4 : w2.heap.size < w7.heap.size := by omega
  have s7_5 : w3.heap.size < w7.heap.size := by omega
  have s7_6 : w4.heap.size < w7.heap.size := by omega
  have s7_7 : w5.heap.size < w7.heap.size := by omega
  have s7_8 : w6.heap.size < w7.heap.size := by omega
  have hB7 : Below w.heap.size w w7 := below_seq (by repeat (first | exact hB6 | exact Below.refl _ _ | refine balloc ?_ _ | refine Below.drew ?_ | refine below_drewN ?_ _ | refine below_set ?_ (by first | omega | (dsimp only; omega)) _)) hb
  clear hb
  go_wp2_with fail
  refine (pow_e P V (n * m) _ p1 (by omega) hV2).mono ?_; rintro e w8 ⟨rfl, hb⟩
  obtain ⟨hc8, hf8⟩ := bcell hb
  have z8 := hb.size
  try simp only [World.size_alloc, World.size_setCell, World.size_drew] at z8
  have s8_0 : w.heap.size < w8.heap.size := by omega
  have s8_1 : w.heap.size + 1 < w8.heap.size := by omega
  have s8_2 : w.heap.size + 1 + 1 < w8.heap.size := by omega
  have s8_3 : w1.heap.size < w8.heap.size := by omega
  have s8_4 : w2.heap.size < w8.heap.size := by omega
  have s8_5 : w3.heap.size < w8.heap.size := by omega
  have s8_6 : w4.heap.size < w8.heap.size := by omega
  have s8_7 : w5.heap.size < w8.heap.size := by omega
  have s8_8 : w6.heap.size < w8.heap.size := by omega
  have s8_9 : w7.heap.size < w8.heap.size := by omega
  have hB8 : Below w.heap.size w w8 := below_seq (by repeat (first | exact hB7 | exact Below.refl _ _ | refine balloc ?_ _ | refine Below.drew ?_ | refine below_drewN ?_ _ | refine below_set ?_ (by first | omega | (dsimp only; omega)) _)) hb
  clear hb
  go_wp2_with fail
  refine (pair_e b a j i P _ (hF.below (by repeat (first | exact hB8 | exact Below.refl _ _ | refine balloc ?_ _ | refine Below.drew ?_ | refine below_drewN ?_ _ | refine below_set ?_ (by first | omega | (dsimp only; omega)) _))) (hO.below (by repeat (first | exact hB8 | exact Below.refl _ _ | refine balloc ?_ _ | refine Below.drew ?_ | refine below_drewN ?_ _ | refine below_set ?_ (by first | omega | (dsimp only; omega)) _))) cb ca hr).mono ?_; rintro e w9 ⟨rfl, hb⟩
  obtain ⟨hc9, hf9⟩ := bcell hb
  have z9 := hb.size
  try simp only [World.size_alloc, World.size_setCell, World.size_drew] at z9
  have s9_0 : w.heap.size < w9.heap.size := by omega
  have s9_1 : w.heap.size + 1 < w9.heap.size := by omega
  have s9_2 : w.heap.size + 1 + 1 < w9.heap.size := by omega
  have s9_3 : w1.heap.size < w9.heap.size := by omega
  have s9_4 : w2.heap.size < w9.heap.size := by omega
  have s9_5 : w3.heap.size < w9.heap.size := by omega
  have s9_6 : w4.heap.size < w9.heap.size := by omega
  have s9_7 : w5.heap.size < w9.heap.size := by omega
  have s9_8 : w6.heap.size < w9.heap.size := by omega
  have s9_9 : w7.heap.size < w9.heap.size := by omega
  have s9_10 : w8.heap.size < w9.heap.size := by omega
  have hB9 : Below w.heap.size w w9 := below_seq (by repeat (first | exact hB8 | exact Below.refl _ _ | refine balloc ?_ _ | refine Below.drew ?_ | refine below_drewN ?_ _ | refine below_set ?_ (by first | omega | (dsimp only; omega)) _)) hb
  clear hb
  go_wp2_with fail
  refine (norm_e P _ hn).mono ?_; rintro e w10 ⟨rfl, hb⟩
  obtain ⟨hc10, hf10⟩ := bcell hb
  have z10 := hb.size
  try simp only [World.size_alloc, World.size_setCell, World.size_drew] at z10
  have s10_0 : w.heap.size < w10.heap.size := by omega
  have s10_1 : w.heap.size + 1 < w10.heap.size := by omega
  have s10_2 : w.heap.size + 1 + 1 < w10.heap.size := by omega
  have s10_3 : w1.heap.size < w10.heap.size := by omega
  have s10_4 : w2.heap.size < w10.heap.size := by omega
  have s10_5 : w3.heap.size < w10.heap.size := by omega
  have s10_6 : w4.heap.size < w10.heap.size := by omega
  have s10_7 : w5.heap.size < w10.heap.size := by omega
  have s10_8 : w6.heap.size < w10.heap.size := by omega
  have s10_9 : w7.heap.size < w10.heap.size := by omega
  have s10_10 : w8.heap.size < w10.heap.size := by omega
  have s10_11 : w9.heap.size < w10.heap.size := by omega
  have hB10 : Below w.heap.size w w10 := below_seq (by repeat (first | exact hB9 | exact Below.refl _ _ | refine balloc ?_ _ | refine Below.drew ?_ | refine below_drewN ?_ _ | refine below_set ?_ (by first | omega | (dsimp only; omega)) _)) hb
  clear hb
  go_wp2_with fail
  refine (pair_e a c i k Q _ (hF.below (by repeat (first | exact hB10 | exact Below.refl _ _ | refine balloc ?_ _ | refine Below.drew ?_ | refine below_drewN ?_ _ | refine below_set ?_ (by first | omega | (dsimp only; omega)) _))) (hO.below (by repeat (first | exact hB10 | exact Below.refl _ _ | refine balloc ?_ _ | refine Below.drew ?_ | refine below_drewN ?_ _ | refine below_set ?_ (by first | omega | (dsimp only; omega)) _))) ca cc hQ).mono ?_; rintro e w11 ⟨rfl, hb⟩
  obtain ⟨hc11, hf11⟩ := bcell hb
  have z11 := hb.size
  try simp only [World.size_alloc, World.size_setCell, World.size_drew] at z11
  have s11_0 : w.heap.size < w11.heap.size := by omega
  have s11_1 : w.heap.size + 1 < w11.heap.size := by omega
  have s11_2 : w.heap.size + 1 + 1 < w11.heap.size := by omega
  have s11_3 : w1.heap.size < w11.heap.size := by omega
  have s11_4 : w2.heap.size < w11.heap.size := by omega
  have s11_5 : w3.heap.size < w11.heap.size := by omega
  have s11_6 : w4.heap.size < w11.heap.size := by omega
  have s11_7 : w5.heap.size < w11.heap.size := by omega
  have s11_8 : w6.heap.size < w11.heap.size := by omega
  have s11_9 : w7.heap.size < w11.heap.size := by omega
  have s11_10 : w8.heap.size < w11.heap.size := by omega
  have s11_11 : w9.heap.size < w11.heap.size := by omega
  have hB11 : Below w.heap.size w w11 := below_seq (by repeat (first | exact hB10 | exact Below.refl _ _ | refine balloc ?_ _ | refine Below.drew ?_ | refine below_drewN ?_ _ | refine below_set ?_ (by first | omega | (dsimp only; omega)) _)) hb
  clear hb
  go_wp2_with fail
  refine (add_e b c S _ (hF.below (by repeat (first | exact hB11 | exact Below.refl _ _ | refine balloc ?_ _ | refine Below.drew ?_ | refine below_drewN ?_ _ | refine below_set ?_ (by first | omega | (dsimp only; omega)) _))) ob oc hS).mono ?_; rintro e w12 ⟨rfl, hb⟩
  obtain ⟨hc12, hf12⟩ := bcell hb
  have z12 := hb.size
  try simp only [World.size_alloc, World.size_setCell, World.size_drew] at z12
  have s12_0 : w.heap.size < w12.heap.size := by omega
  have s12_1 : w.heap.size + 1 < w12.heap.size := by omega
  have s12_2 : w.heap.size + 1 + 1 < w12.heap.size := by omega
  have s12_3 : w1.heap.size < w12.heap.size := by omega
  have s12_4 : w2.heap.size < w12.heap.size := by omega
  have s12_5 : w3.heap.size < w12.heap.size := by omega
  have s12_6 : w4.heap.size < w12.heap.size := by omega
  have s12_7 : w5.heap.size < w12.heap.size := by omega
  have s12_8 : w6.heap.size < w12.heap.size := by omega
  have s12_9 : w7.heap.size < w12.heap.size := by omega
  have s12_10 : w8.heap.size < w12.heap.size := by omega
  have s12_11 : w9.heap.size < w12.heap.size := by omega
  have s12_12 : w11.heap.size < w12.heap.size := by omega
  have hB12 : Below w.heap.size w w12 := below_seq (by repeat (first | exact hB11 | exact Below.refl _ _ | refine balloc ?_ _ | refine Below.drew ?_ | refine below_drewN ?_ _ | refine below_set ?_ (by first | omega | (dsimp only; omega)) _)) hb
  clear hb
  go_wp2_with fail
  refine (pair_e a S i s T _ (hF.below (by repeat (first | exact hB12 | exact Below.refl _ _ | refine balloc ?_ _ | refine Below.drew ?_ | refine below_drewN ?_ _ | refine below_set ?_ (by first | omega | (dsimp only; omega)) _))) (hO.below (by repeat (first | exact hB12 | exact Below.refl _ _ | refine balloc ?_ _ | refine Below.drew ?_ | refine below_drewN ?_ _ | refine below_set ?_ (by first | omega | (dsimp only; omega)) _))) ca cS hT).mono ?_; rintro e w13 ⟨rfl, hb⟩
  obtain ⟨hc13, hf13⟩ := bcell hb
  have z13 := hb.size
  try simp only [World.size_alloc, World.size_setCell, World.size_drew] at z13
  have s13_0 : w.heap.size < w13.heap.size := by omega
  have s13_1 : w.heap.size + 1 < w13.heap.size := by omega
  have s13_2 : w.heap.size + 1 + 1 < w13.heap.size := by omega
  have s13_3 : w1.heap.size < w13.heap.size := by omega
  have s13_4 : w2.heap.size < w13.heap.size := by omega
  have s13_5 : w3.heap.size < w13.heap.size := by omega
  have s13_6 : w4.heap.size < w13.heap.size := by omega
  have s13_7 : w5.heap.size < w13.heap.size := by omega
  have s13_8 : w6.heap.size < w13.heap.size := by omega
  have s13_9 : w7.heap.size < w13.heap.size := by omega
  have s13_10 : w8.heap.size < w13.heap.size := by omega
  have s13_11 : w9.heap.size < w13.heap.size := by omega
  have s13_12 : w11.heap.size < w13.heap.size := by omega
  have s13_13 : w12.heap.size < w13.heap.size := by omega
  have hB13 : Below w.heap.size w w13 := below_seq (by repeat (first | exact hB12 | exact Below.refl _ _ | refine balloc ?_ _ | refine Below.drew ?_ | refine below_drewN ?_ _ | refine below_set ?_ (by first | omega | (dsimp only; omega)) _)) hb
  clear hb
  go_wp2_with fail
  refine wp_region_grow Tryd.mixed (by kernel_rfl) ?_
  repeat (quiet_step ((go_at_call 68; exact grow_of (mul_e P Q T _ hT2))))
  refine wpQuiet_nil ?_
  intro _ hw'
  obtain ⟨x14, rfl⟩ := hw'
  have z14 := x14.h.size
  try simp only [World.size_alloc, World.size_setCell, World.size_drew] at z14
  have s14_0 : w.heap.size < x14.w.heap.size := by omega
  have s14_1 : w.heap.size + 1 < x14.w.heap.size := by omega
  have s14_2 : w.heap.size + 1 + 1 < x14.w.heap.size := by omega
  have s14_3 : w1.heap.size < x14.w.heap.size := by omega
  have s14_4 : w2.heap.size < x14.w.heap.size := by omega
  have s14_5 : w3.heap.size < x14.w.heap.size := by omega
  have s14_6 : w4.heap.size < x14.w.heap.size := by omega
  have s14_7 : w5.heap.size < x14.w.heap.size := by omega
  have s14_8 : w6.heap.size < x14.w.heap.size := by omega
  have s14_9 : w7.heap.size < x14.w.heap.size := by omega
  have s14_10 : w8.heap.size < x14.w.heap.size := by omega
  have s14_11 : w9.heap.size < x14.w.heap.size := by omega
  have s14_12 : w11.heap.size < x14.w.heap.size := by omega
  have s14_13 : w12.heap.size < x14.w.heap.size := by omega
  have s14_14 : w13.heap.size < x14.w.heap.size := by omega
  have hB14 : Below w.heap.size w x14.w := below_seq (by repeat (first | exact hB13 | exact Below.refl _ _ | refine balloc ?_ _ | refine Below.drew ?_ | refine below_drewN ?_ _ | refine below_set ?_ (by first | omega | (dsimp only; omega)) _)) x14.h
  go_wp2
  go_ret
  exact ⟨rfl, (by repeat (first | exact hB14 | exact Below.refl _ _ | refine balloc ?_ _ | refine Below.drew ?_ | refine below_drewN ?_ _ | refine below_set ?_ (by first | omega | (dsimp only; omega)) _))⟩
theorem nm_box {n m : Int} (h1 : 0 ≤ n) (h2 : n ≤ 5000) (h3 : 0 ≤ m) (h4 : m ≤ 5000) : 0 ≤ n * m ∧ n * m ≤ 25000000 := by
  refine ⟨Int.mul_nonneg h1 h3, ?_⟩
  have : n * m ≤ 5000 * 5000 := Int.mul_le_mul h2 h4 h3 (by decide)
  omega
theorem pairHolds_law (a b c : Sp) (n : Int) (hn : (Lit.int .i64 n).wf = true) (m : Int) (hm : (Lit.int .i64 m).wf = true) (w : World) (hL : FarAt w ∧ OneAt w) : Calls Tryd.prog 20 #[spV a, spV b, spV c, .int .i64 n, .int .i64 m] w fun e w' => e = .returned (.bool true) ∧ Below w.heap.size w w' := by
  obtain ⟨hF, hO⟩ := hL
  rcases pair_cases a b with ⟨i, j, ca, cb⟩ | ⟨E, h⟩
  case inr => exact ph_no a b c n m w hF hO E h
  by_cases h1 : n < 0
  · exact ph_1 a b c n m w hF hO i j _ ca cb rfl h1
  by_cases h2 : 5000 < n
  · exact ph_2 a b c n m w hF hO i j _ ca cb rfl (by omega) h2
  by_cases h3 : m < 0
  · exact ph_3 a b c n m w hF hO i j _ ca cb rfl (by omega) (by omega) h3
  by_cases h4 : 5000 < m
  · exact ph_4 a b c n m w hF hO i j _ ca cb rfl (by omega) (by omega) (by omega) h4
  obtain ⟨p1, p2⟩ := nm_box (n := n) (m := m) (by omega) (by omega) (by omega) (by omega)
  have hV : (zp (i * j)).pow (n * m).toNat = zp ((i * n) % 1013 * ((j * m) % 1013)) := by
    rw [zp_pow _ _ p1]
    refine zp_eq ?_
    rw [← Int.mul_emod]
    congr 1
    rw [Int.mul_assoc, Int.mul_assoc, Int.mul_left_comm j n m]
  have cX : Cnt (sq (4 * i * n)) ((i * n) % 1013) := by rw [Int.mul_assoc]; exact cnt_mod _
  have cY : Cnt (sq (4 * j * m)) ((j * m) % 1013) := by rw [Int.mul_assoc]; exact cnt_mod _
  have hr : zp (j * i) = zp (i * j) := by rw [Int.mul_comm]
  rcases pair_cases a c with ⟨i', k, ca', cc⟩ | ⟨E, h⟩
  · have hs : sSum b c = sq (4 * (j + k)) := by rw [cb.1, cc.1, sq_add, Int.mul_add]
    have hT : (zp (i * j)).mul (zp (i * k)) = zp (i * ((j + k) % 1013)) := by
      rw [zp_mul]
      refine zp_eq ?_
      rw [← Int.mul_add, Int.mul_emod i ((j + k) % 1013), Int.emod_emod_of_dvd _ (Int.dvd_refl _), ← Int.mul_emod]
    exact ph_ok a b c n m w hF hO i j _ ca cb rfl (by omega) (by omega) (by omega) (by omega) p1 p2 _ _ _ _ _ ca.1 cb.1 rfl rfl cX cY rfl hV hr (zp_norm _) k ((j + k) % 1013) _ _ _ cc rfl hs (cnt_mod _) rfl hT (cnt_ok cb) (cnt_ok cc)
  · exact ph_c a b c n m w hF hO i j _ ca cb rfl (by omega) (by omega) (by omega) (by omega) p1 p2 _ _ _ _ _ ca.1 cb.1 rfl rfl cX cY rfl hV hr (zp_norm _) E h
end Go.Proofs.YtlppjihejgcplaaDoor
