/- The statement of TimesTell: for every input the law returns true, and the arguments read as they did. (its listed variable reads as laid; the card ties it) -/
import Derived.Laws.Entries
import Derived.Test.YtopcdihgkojjlaaDoorRo
import Derived.Test.YtopcdihgkojjlaaDoorRc
import Derived.Test.YtopcdihgkojjlaaDoorKe
import Derived.Test.YtopcdihgkojjlaaDoorTl
import Derived.Test.YtopcdihgkojjlaaDoorFr
import Derived.SizedLaws
import Derived.Test.YtopcdihgkojjlaaDoorTie
import Derived.Test.YtopcdihgkojjlaaDoorCards
import Derived.Test.YtopcdihgkojjlaaDoorFe
import Derived.Test.YtopcdihgkojjlaaDoorJf
import Derived.SevenTiedAt
namespace Go.Proofs.YtopcdihgkojjlaaDoor
open Go.RowKit
set_option maxRecDepth 100000
set_option linter.unusedVariables false
set_option linter.unusedSimpArgs false
theorem times_v (s : Sp) (n k : Int) (w : World) (hF : FarAt w) (h : Hid (sCheck s = k)) (h0 : k ≠ 0) : Calls Tryd.prog 34 #[spV s, .int .i64 n] w fun e w' => e = .returned (.tuple #[spV ⟨0, 0, false⟩, .iface 117 (.int .i64 k)]) ∧ Below w.heap.size w w' := by
  have := timesTimes_bad s n w hF (by rw [h.out]; exact h0); rw [h.out] at this; exact this
theorem in_v (s : Sp) (k : Int) (w : World) (hF : FarAt w) (h : Hid (sCheck s = k)) (h0 : k ≠ 0) : Calls Tryd.prog 36 #[spV s] w fun e w' => e = .returned (.tuple #[.bool false, .iface 117 (.int .i64 k)]) ∧ Below w.heap.size w w' := by
  have := timesIn_bad s w hF (by rw [h.out]; exact h0); rw [h.out] at this; exact this
theorem order_v (s : Sp) (k : Int) (w : World) (hF : FarAt w) (h : Hid (sCheck s = k)) (h0 : k ≠ 0) : Calls Tryd.prog 35 #[spV s] w fun e w' => e = .returned (.tuple #[.int .i64 0, .iface 117 (.int .i64 k)]) ∧ Below w.heap.size w w' := by
  have := timesOrder_bad s w hF (by rw [h.out]; exact h0); rw [h.out] at this; exact this
theorem order_e (a : Sp) (u O : Int) (w : World) (hF : FarAt w) (ha : Hid (a = sq u)) (h : Hid (ordOf u = O)) : Calls Tryd.prog 35 #[spV a] w fun e w' => e = .returned (.tuple #[.int .i64 O, .nilIface]) ∧ Below w.heap.size w w' := by
  have := timesOrder_ok u w hF; rw [h.out, ← ha.out] at this; exact this
set_option maxHeartbeats 4000000 in
theorem tm_0 (s : Sp) (n k : Int) (w : World) (hF : FarAt w) (hE : ErrAt w) (hs : Hid (sCheck s = k)) (h0 : k ≠ 0) (h1 : (k == 0) = false) : Calls Tryd.prog 4 #[spV s, .int .i64 n] w fun e w' => e = .returned (.bool true) ∧ Below w.heap.size w w' := by
  go_enter Tryd.func4, Tryd.ntmps4
  go_wp2_with fail
  refine (refSpot_e s k _ hs).mono ?_; rintro e w1 ⟨rfl, hb⟩
  obtain ⟨hc1, hf1⟩ := bcell hb
  have z1 := hb.size
  try simp only [World.size_alloc, World.size_setCell, World.size_drew] at z1
  have s1_0 : w.heap.size < w1.heap.size := by omega
  have hB1 : Below w.heap.size w w1 := below_seq (by repeat (first | exact Below.refl _ _ | refine balloc ?_ _ | refine Below.drew ?_ | refine below_drewN ?_ _ | refine below_set ?_ (by first | omega | (dsimp only; omega)) _)) hb
  clear hb
  have m1_0_0 : w1.cell? ⟨w.heap.size, 0, none⟩ = some (.int .i64 s.x) := by go_simp
  have m1_0_1 : w1.cell? ⟨w.heap.size, 1, none⟩ = some (.int .i64 s.y) := by go_simp
  have m1_0_2 : w1.cell? ⟨w.heap.size, 2, none⟩ = some (.bool s.far) := by go_simp
  clear hc1
  go_wp2_with fail
  refine (times_v s n k _ (hF.below (by repeat (first | exact hB1 | exact Below.refl _ _ | refine balloc ?_ _ | refine Below.drew ?_ | refine below_drewN ?_ _ | refine below_set ?_ (by first | omega | (dsimp only; omega)) _))) hs h0).mono ?_; rintro e w2 ⟨rfl, hb⟩
  obtain ⟨hc2, hf2⟩ := bcell hb
  have z2 := hb.size
  try simp only [World.size_alloc, World.size_setCell, World.size_drew] at z2
  have s2_0 : w.heap.size < w2.heap.size := by omega
  have s2_1 : w1.heap.size < w2.heap.size := by omega
  have hB2 : Below w.heap.size w w2 := below_seq (by repeat (first | exact hB1 | exact Below.refl _ _ | refine balloc ?_ _ | refine Below.drew ?_ | refine below_drewN ?_ _ | refine below_set ?_ (by first | omega | (dsimp only; omega)) _)) hb
  clear hb
  have m2_0_0 : w2.cell? ⟨w.heap.size, 0, none⟩ = some (.int .i64 s.x) := by go_simp
  have m2_0_1 : w2.cell? ⟨w.heap.size, 1, none⟩ = some (.int .i64 s.y) := by go_simp
  have m2_0_2 : w2.cell? ⟨w.heap.size, 2, none⟩ = some (.bool s.far) := by go_simp
  have m2_1_0 : w2.cell? ⟨w1.heap.size, 0, none⟩ = some (.int .i64 0) := by go_simp
  have m2_1_1 : w2.cell? ⟨w1.heap.size, 1, none⟩ = some (.int .i64 0) := by go_simp
  have m2_1_2 : w2.cell? ⟨w1.heap.size, 2, none⟩ = some (.bool false) := by go_simp
  clear m1_0_0 m1_0_1 m1_0_2
  clear hc2
  go_wp2_with fail
  refine (error_err k k _ (hE.below (by repeat (first | exact hB2 | exact Below.refl _ _ | refine balloc ?_ _ | refine Below.drew ?_ | refine below_drewN ?_ _ | refine below_set ?_ (by first | omega | (dsimp only; omega)) _))) true (Lib.hid (by simp))).mono ?_; rintro e w3 ⟨rfl, hb⟩
  obtain ⟨hc3, hf3⟩ := bcell hb
  have z3 := hb.size
  try simp only [World.size_alloc, World.size_setCell, World.size_drew] at z3
  have s3_0 : w.heap.size < w3.heap.size := by omega
  have s3_1 : w1.heap.size < w3.heap.size := by omega
  have s3_2 : w2.heap.size < w3.heap.size := by omega
  have hB3 : Below w.heap.size w w3 := below_seq (by repeat (first | exact hB2 | exact Below.refl _ _ | refine balloc ?_ _ | refine Below.drew ?_ | refine below_drewN ?_ _ | refine below_set ?_ (by first | omega | (dsimp only; omega)) _)) hb
  clear hb
  have m3_0_0 : w3.cell? ⟨w.heap.size, 0, none⟩ = some (.int .i64 s.x) := by go_simp
  have m3_0_1 : w3.cell? ⟨w.heap.size, 1, none⟩ = some (.int .i64 s.y) := by go_simp
  have m3_0_2 : w3.cell? ⟨w.heap.size, 2, none⟩ = some (.bool s.far) := by go_simp
  have m3_1_0 : w3.cell? ⟨w1.heap.size, 0, none⟩ = some (.int .i64 0) := by go_simp
  have m3_1_1 : w3.cell? ⟨w1.heap.size, 1, none⟩ = some (.int .i64 0) := by go_simp
  have m3_1_2 : w3.cell? ⟨w1.heap.size, 2, none⟩ = some (.bool false) := by go_simp
  have m3_2_0 : w3.cell? ⟨w2.heap.size, 0, none⟩ = some (.int .i64 0) := by go_simp
  have m3_2_1 : w3.cell? ⟨w2.heap.size, 1, none⟩ = some (.int .i64 0) := by go_simp
  have m3_2_2 : w3.cell? ⟨w2.heap.size, 2, none⟩ = some (.bool false) := by go_simp
  clear m2_0_0 m2_0_1 m2_0_2 m2_1_0 m2_1_1 m2_1_2
  clear hc3
  go_wp2_with fail
  refine (order_v s k _ (hF.below (by repeat (first | exact hB3 | exact Below.refl _ _ | refine balloc ?_ _ | refine Below.drew ?_ | refine below_drewN ?_ _ | refine below_set ?_ (by first | omega | (dsimp only; omega)) _))) hs h0).mono ?_; rintro e w4 ⟨rfl, hb⟩
  obtain ⟨hc4, hf4⟩ := bcell hb
  have z4 := hb.size
  try simp only [World.size_alloc, World.size_setCell, World.size_drew] at z4
  have s4_0 : w.heap.size < w4.heap.size := by omega
  have s4_1 : w1.heap.size < w4.heap.size := by omega
  have s4_2 : w2.heap.size < w4.heap.size := by omega
  have hB4 : Below w.heap.size w w4 := below_seq (by repeat (first | exact hB3 | exact Below.refl _ _ | refine balloc ?_ _ | refine Below.drew ?_ | refine below_drewN ?_ _ | refine below_set ?_ (by first | omega | (dsimp only; omega)) _)) hb
  clear hb
  have m4_0_0 : w4.cell? ⟨w.heap.size, 0, none⟩ = some (.int .i64 s.x) := by go_simp
  have m4_0_1 : w4.cell? ⟨w.heap.size, 1, none⟩ = some (.int .i64 s.y) := by go_simp
  have m4_0_2 : w4.cell? ⟨w.heap.size, 2, none⟩ = some (.bool s.far) := by go_simp
  have m4_1_0 : w4.cell? ⟨w1.heap.size, 0, none⟩ = some (.int .i64 0) := by go_simp
  have m4_1_1 : w4.cell? ⟨w1.heap.size, 1, none⟩ = some (.int .i64 0) := by go_simp
  have m4_1_2 : w4.cell? ⟨w1.heap.size, 2, none⟩ = some (.bool false) := by go_simp
  have m4_2_0 : w4.cell? ⟨w2.heap.size, 0, none⟩ = some (.int .i64 0) := by go_simp
  have m4_2_1 : w4.cell? ⟨w2.heap.size, 1, none⟩ = some (.int .i64 0) := by go_simp
  have m4_2_2 : w4.cell? ⟨w2.heap.size, 2, none⟩ = some (.bool false) := by go_simp
  clear m3_0_0 m3_0_1 m3_0_2 m3_1_0 m3_1_1 m3_1_2 m3_2_0 m3_2_1 m3_2_2
  clear hc4
  go_wp2_with fail
  refine (error_err k k _ (hE.below (by repeat (first | exact hB4 | exact Below.refl _ _ | refine balloc ?_ _ | refine Below.drew ?_ | refine below_drewN ?_ _ | refine below_set ?_ (by first | omega | (dsimp only; omega)) _))) true (Lib.hid (by simp))).mono ?_; rintro e w5 ⟨rfl, hb⟩
  obtain ⟨hc5, hf5⟩ := bcell hb
  have z5 := hb.size
  try simp only [World.size_alloc, World.size_setCell, World.size_drew] at z5
  have s5_0 : w.heap.size < w5.heap.size := by omega
  have s5_1 : w1.heap.size < w5.heap.size := by omega
  have s5_2 : w2.heap.size < w5.heap.size := by omega
  have hB5 : Below w.heap.size w w5 := below_seq (by repeat (first | exact hB4 | exact Below.refl _ _ | refine balloc ?_ _ | refine Below.drew ?_ | refine below_drewN ?_ _ | refine below_set ?_ (by first | omega | (dsimp only; omega)) _)) hb
  clear hb
  have m5_0_0 : w5.cell? ⟨w.heap.size, 0, none⟩ = some (.int .i64 s.x) := by go_simp
  have m5_0_1 : w5.cell? ⟨w.heap.size, 1, none⟩ = some (.int .i64 s.y) := by go_simp
  have m5_0_2 : w5.cell? ⟨w.heap.size, 2, none⟩ = some (.bool s.far) := by go_simp
  have m5_1_0 : w5.cell? ⟨w1.heap.size, 0, none⟩ = some (.int .i64 0) := by go_simp
  have m5_1_1 : w5.cell? ⟨w1.heap.size, 1, none⟩ = some (.int .i64 0) := by go_simp
  have m5_1_2 : w5.cell? ⟨w1.heap.size, 2, none⟩ = some (.bool false) := by go_simp
  have m5_2_0 : w5.cell? ⟨w2.heap.size, 0, none⟩ = some (.int .i64 0) := by go_simp
  have m5_2_1 : w5.cell? ⟨w2.heap.size, 1, none⟩ = some (.int .i64 0) := by go_simp
  have m5_2_2 : w5.cell? ⟨w2.heap.size, 2, none⟩ = some (.bool false) := by go_simp
  clear m4_0_0 m4_0_1 m4_0_2 m4_1_0 m4_1_1 m4_1_2 m4_2_0 m4_2_1 m4_2_2
  clear hc5
  go_wp2_with fail
  refine (in_v s k _ (hF.below (by repeat (first | exact hB5 | exact Below.refl _ _ | refine balloc ?_ _ | refine Below.drew ?_ | refine below_drewN ?_ _ | refine below_set ?_ (by first | omega | (dsimp only; omega)) _))) hs h0).mono ?_; rintro e w6 ⟨rfl, hb⟩
  obtain ⟨hc6, hf6⟩ := bcell hb
  have z6 := hb.size
  try simp only [World.size_alloc, World.size_setCell, World.size_drew] at z6
  have s6_0 : w.heap.size < w6.heap.size := by omega
  have s6_1 : w1.heap.size < w6.heap.size := by omega
  have s6_2 : w2.heap.size < w6.heap.size := by omega
  have hB6 : Below w.heap.size w w6 := below_seq (by repeat (first | exact hB5 | exact Below.refl _ _ | refine balloc ?_ _ | refine Below.drew ?_ | refine below_drewN ?_ _ | refine below_set ?_ (by first | omega | (dsimp only; omega)) _)) hb
  clear hb
  have m6_0_0 : w6.cell? ⟨w.heap.size, 0, none⟩ = some (.int .i64 s.x) := by go_simp
  have m6_0_1 : w6.cell? ⟨w.heap.size, 1, none⟩ = some (.int .i64 s.y) := by go_simp
  have m6_0_2 : w6.cell? ⟨w.heap.size, 2, none⟩ = some (.bool s.far) := by go_simp
  have m6_1_0 : w6.cell? ⟨w1.heap.size, 0, none⟩ = some (.int .i64 0) := by go_simp
  have m6_1_1 : w6.cell? ⟨w1.heap.size, 1, none⟩ = some (.int .i64 0) := by go_simp
  have m6_1_2 : w6.cell? ⟨w1.heap.size, 2, none⟩ = some (.bool false) := by go_simp
  have m6_2_0 : w6.cell? ⟨w2.heap.size, 0, none⟩ = some (.int .i64 0) := by go_simp
  have m6_2_1 : w6.cell? ⟨w2.heap.size, 1, none⟩ = some (.int .i64 0) := by go_simp
  have m6_2_2 : w6.cell? ⟨w2.heap.size, 2, none⟩ = some (.bool false) := by go_simp
  clear m5_0_0 m5_0_1 m5_0_2 m5_1_0 m5_1_1 m5_1_2 m5_2_0 m5_2_1 m5_2_2
  clear hc6
  go_wp2_with fail
  refine (error_err k k _ (hE.below (by repeat (first | exact hB6 | exact Below.refl _ _ | refine balloc ?_ _ | refine Below.drew ?_ | refine below_drewN ?_ _ | refine below_set ?_ (by first | omega | (dsimp only; omega)) _))) true (Lib.hid (by simp))).mono ?_; rintro e w7 ⟨rfl, hb⟩
  obtain ⟨hc7, hf7⟩ := bcell hb
  have z7 := hb.size
  try simp only [World.size_alloc, World.size_setCell, World.size_drew] at z7
  have s7_0 : w.heap.size < w7.heap.size := by omega
  have s7_1 : w1.heap.size < w7.heap.size := by omega
  have s7_2 : w2.heap.size < w7.heap.size := by omega
  have hB7 : Below w.heap.size w w7 := below_seq (by repeat (first | exact hB6 | exact Below.refl _ _ | refine balloc ?_ _ | refine Below.drew ?_ | refine below_drewN ?_ _ | refine below_set ?_ (by first | omega | (dsimp only; omega)) _)) hb
  clear hb
  have m7_0_0 : w7.cell? ⟨w.heap.size, 0, none⟩ = some (.int .i64 s.x) := by go_simp
  have m7_0_1 : w7.cell? ⟨w.heap.size, 1, none⟩ = some (.int .i64 s.y) := by go_simp
  have m7_0_2 : w7.cell? ⟨w.heap.size, 2, none⟩ = some (.bool s.far) := by go_simp
  have m7_1_0 : w7.cell? ⟨w1.heap.size, 0, none⟩ = some (.int .i64 0) := by go_simp
  have m7_1_1 : w7.cell? ⟨w1.heap.size, 1, none⟩ = some (.int .i64 0) := by go_simp
  have m7_1_2 : w7.cell? ⟨w1.heap.size, 2, none⟩ = some (.bool false) := by go_simp
  have m7_2_0 : w7.cell? ⟨w2.heap.size, 0, none⟩ = some (.int .i64 0) := by go_simp
  have m7_2_1 : w7.cell? ⟨w2.heap.size, 1, none⟩ = some (.int .i64 0) := by go_simp
  have m7_2_2 : w7.cell? ⟨w2.heap.size, 2, none⟩ = some (.bool false) := by go_simp
  clear m6_0_0 m6_0_1 m6_0_2 m6_1_0 m6_1_1 m6_1_2 m6_2_0 m6_2_1 m6_2_2
  clear hc7
  go_wp2_with fail
  refine (base_k _ (hF.below (by repeat (first | exact hB7 | exact Below.refl _ _ | refine balloc ?_ _ | refine Below.drew ?_ | refine below_drewN ?_ _ | refine below_set ?_ (by first | omega | (dsimp only; omega)) _)))).mono ?_; rintro e w8 ⟨rfl, hb⟩
  obtain ⟨hc8, hf8⟩ := bcell hb
  have z8 := hb.size
  try simp only [World.size_alloc, World.size_setCell, World.size_drew] at z8
  have s8_0 : w.heap.size < w8.heap.size := by omega
  have s8_1 : w1.heap.size < w8.heap.size := by omega
  have s8_2 : w2.heap.size < w8.heap.size := by omega
  have hB8 : Below w.heap.size w w8 := below_seq (by repeat (first | exact hB7 | exact Below.refl _ _ | refine balloc ?_ _ | refine Below.drew ?_ | refine below_drewN ?_ _ | refine below_set ?_ (by first | omega | (dsimp only; omega)) _)) hb
  clear hb
  have m8_0_0 : w8.cell? ⟨w.heap.size, 0, none⟩ = some (.int .i64 s.x) := by go_simp
  have m8_0_1 : w8.cell? ⟨w.heap.size, 1, none⟩ = some (.int .i64 s.y) := by go_simp
  have m8_0_2 : w8.cell? ⟨w.heap.size, 2, none⟩ = some (.bool s.far) := by go_simp
  have m8_1_0 : w8.cell? ⟨w1.heap.size, 0, none⟩ = some (.int .i64 0) := by go_simp
  have m8_1_1 : w8.cell? ⟨w1.heap.size, 1, none⟩ = some (.int .i64 0) := by go_simp
  have m8_1_2 : w8.cell? ⟨w1.heap.size, 2, none⟩ = some (.bool false) := by go_simp
  have m8_2_0 : w8.cell? ⟨w2.heap.size, 0, none⟩ = some (.int .i64 0) := by go_simp
  have m8_2_1 : w8.cell? ⟨w2.heap.size, 1, none⟩ = some (.int .i64 0) := by go_simp
  have m8_2_2 : w8.cell? ⟨w2.heap.size, 2, none⟩ = some (.bool false) := by go_simp
  clear m7_0_0 m7_0_1 m7_0_2 m7_1_0 m7_1_1 m7_1_2 m7_2_0 m7_2_1 m7_2_2
  clear hc8
  go_wp2_with fail
  refine (refBase_k _).mono ?_; rintro e w9 ⟨rfl, hb⟩
  obtain ⟨hc9, hf9⟩ := bcell hb
  have z9 := hb.size
  try simp only [World.size_alloc, World.size_setCell, World.size_drew] at z9
  have s9_0 : w.heap.size < w9.heap.size := by omega
  have s9_1 : w1.heap.size < w9.heap.size := by omega
  have s9_2 : w2.heap.size < w9.heap.size := by omega
  have hB9 : Below w.heap.size w w9 := below_seq (by repeat (first | exact hB8 | exact Below.refl _ _ | refine balloc ?_ _ | refine Below.drew ?_ | refine below_drewN ?_ _ | refine below_set ?_ (by first | omega | (dsimp only; omega)) _)) hb
  clear hb
  have m9_0_0 : w9.cell? ⟨w.heap.size, 0, none⟩ = some (.int .i64 s.x) := by go_simp
  have m9_0_1 : w9.cell? ⟨w.heap.size, 1, none⟩ = some (.int .i64 s.y) := by go_simp
  have m9_0_2 : w9.cell? ⟨w.heap.size, 2, none⟩ = some (.bool s.far) := by go_simp
  have m9_1_0 : w9.cell? ⟨w1.heap.size, 0, none⟩ = some (.int .i64 0) := by go_simp
  have m9_1_1 : w9.cell? ⟨w1.heap.size, 1, none⟩ = some (.int .i64 0) := by go_simp
  have m9_1_2 : w9.cell? ⟨w1.heap.size, 2, none⟩ = some (.bool false) := by go_simp
  have m9_2_0 : w9.cell? ⟨w2.heap.size, 0, none⟩ = some (.int .i64 0) := by go_simp
  have m9_2_1 : w9.cell? ⟨w2.heap.size, 1, none⟩ = some (.int .i64 0) := by go_simp
  have m9_2_2 : w9.cell? ⟨w2.heap.size, 2, none⟩ = some (.bool false) := by go_simp
  clear m8_0_0 m8_0_1 m8_0_2 m8_1_0 m8_1_1 m8_1_2 m8_2_0 m8_2_1 m8_2_2
  clear hc9
  go_wp2
  go_ret
  exact ⟨rfl, (by repeat (first | exact hB9 | exact Below.refl _ _ | refine balloc ?_ _ | refine Below.drew ?_ | refine below_drewN ?_ _ | refine below_set ?_ (by first | omega | (dsimp only; omega)) _))⟩
set_option maxHeartbeats 4000000 in
theorem tm_1 (s T : Sp) (n u O : Int) (I : Bool) (w : World) (hF : FarAt w) (hE : ErrAt w) (n0 : -9223372036854775808 ≤ n) (n1 : n ≤ 9223372036854775807) (hs : Hid (sCheck s = 0)) (hu : Hid (s = sq u)) (hT : Hid (sq (u * n) = T)) (hO : Hid (ordOf u = O)) (hI : Hid ((sq (u * 1013)).far = I)) : Calls Tryd.prog 4 #[spV s, .int .i64 n] w fun e w' => e = .returned (.bool true) ∧ Below w.heap.size w w' := by
  go_enter Tryd.func4, Tryd.ntmps4
  go_wp2_with fail
  refine (refSpot_e s 0 _ hs).mono ?_; rintro e w1 ⟨rfl, hb⟩
  obtain ⟨hc1, hf1⟩ := bcell hb
  have z1 := hb.size
  try simp only [World.size_alloc, World.size_setCell, World.size_drew] at z1
  have s1_0 : w.heap.size < w1.heap.size := by omega
  have hB1 : Below w.heap.size w w1 := below_seq (by repeat (first | exact Below.refl _ _ | refine balloc ?_ _ | refine Below.drew ?_ | refine below_drewN ?_ _ | refine below_set ?_ (by first | omega | (dsimp only; omega)) _)) hb
  clear hb
  have m1_0_0 : w1.cell? ⟨w.heap.size, 0, none⟩ = some (.int .i64 s.x) := by go_simp
  have m1_0_1 : w1.cell? ⟨w.heap.size, 1, none⟩ = some (.int .i64 s.y) := by go_simp
  have m1_0_2 : w1.cell? ⟨w.heap.size, 2, none⟩ = some (.bool s.far) := by go_simp
  clear hc1
  go_wp2_with fail
  refine (refTimes_e s T u n _ n0 n1 hu hT).mono ?_; rintro e w2 ⟨rfl, hb⟩
  obtain ⟨hc2, hf2⟩ := bcell hb
  have z2 := hb.size
  try simp only [World.size_alloc, World.size_setCell, World.size_drew] at z2
  have s2_0 : w.heap.size < w2.heap.size := by omega
  have s2_1 : w1.heap.size < w2.heap.size := by omega
  have hB2 : Below w.heap.size w w2 := below_seq (by repeat (first | exact hB1 | exact Below.refl _ _ | refine balloc ?_ _ | refine Below.drew ?_ | refine below_drewN ?_ _ | refine below_set ?_ (by first | omega | (dsimp only; omega)) _)) hb
  clear hb
  have m2_0_0 : w2.cell? ⟨w.heap.size, 0, none⟩ = some (.int .i64 s.x) := by go_simp
  have m2_0_1 : w2.cell? ⟨w.heap.size, 1, none⟩ = some (.int .i64 s.y) := by go_simp
  have m2_0_2 : w2.cell? ⟨w.heap.size, 2, none⟩ = some (.bool s.far) := by go_simp
  have m2_1_0 : w2.cell? ⟨w1.heap.size, 0, none⟩ = some (.int .i64 0) := by go_simp
  have m2_1_1 : w2.cell? ⟨w1.heap.size, 1, none⟩ = some (.int .i64 0) := by go_simp
  have m2_1_2 : w2.cell? ⟨w1.heap.size, 2, none⟩ = some (.bool false) := by go_simp
  clear m1_0_0 m1_0_1 m1_0_2
  clear hc2
  go_wp2_with fail
  refine (refOrder_e s u O _ hu hO).mono ?_; rintro e w3 ⟨rfl, hb⟩
  obtain ⟨hc3, hf3⟩ := bcell hb
  have z3 := hb.size
  try simp only [World.size_alloc, World.size_setCell, World.size_drew] at z3
  have s3_0 : w.heap.size < w3.heap.size := by omega
  have s3_1 : w1.heap.size < w3.heap.size := by omega
  have hB3 : Below w.heap.size w w3 := below_seq (by repeat (first | exact hB2 | exact Below.refl _ _ | refine balloc ?_ _ | refine Below.drew ?_ | refine below_drewN ?_ _ | refine below_set ?_ (by first | omega | (dsimp only; omega)) _)) hb
  clear hb
  have m3_0_0 : w3.cell? ⟨w.heap.size, 0, none⟩ = some (.int .i64 s.x) := by go_simp
  have m3_0_1 : w3.cell? ⟨w.heap.size, 1, none⟩ = some (.int .i64 s.y) := by go_simp
  have m3_0_2 : w3.cell? ⟨w.heap.size, 2, none⟩ = some (.bool s.far) := by go_simp
  have m3_1_0 : w3.cell? ⟨w1.heap.size, 0, none⟩ = some (.int .i64 T.x) := by go_simp
  have m3_1_1 : w3.cell? ⟨w1.heap.size, 1, none⟩ = some (.int .i64 T.y) := by go_simp
  have m3_1_2 : w3.cell? ⟨w1.heap.size, 2, none⟩ = some (.bool T.far) := by go_simp
  clear m2_0_0 m2_0_1 m2_0_2 m2_1_0 m2_1_1 m2_1_2
  clear hc3
  go_wp2_with fail
  refine (refIn_e s u I _ hu hI).mono ?_; rintro e w4 ⟨rfl, hb⟩
  obtain ⟨hc4, hf4⟩ := bcell hb
  have z4 := hb.size
  try simp only [World.size_alloc, World.size_setCell, World.size_drew] at z4
  have s4_0 : w.heap.size < w4.heap.size := by omega
  have s4_1 : w1.heap.size < w4.heap.size := by omega
  have hB4 : Below w.heap.size w w4 := below_seq (by repeat (first | exact hB3 | exact Below.refl _ _ | refine balloc ?_ _ | refine Below.drew ?_ | refine below_drewN ?_ _ | refine below_set ?_ (by first | omega | (dsimp only; omega)) _)) hb
  clear hb
  have m4_0_0 : w4.cell? ⟨w.heap.size, 0, none⟩ = some (.int .i64 s.x) := by go_simp
  have m4_0_1 : w4.cell? ⟨w.heap.size, 1, none⟩ = some (.int .i64 s.y) := by go_simp
  have m4_0_2 : w4.cell? ⟨w.heap.size, 2, none⟩ = some (.bool s.far) := by go_simp
  have m4_1_0 : w4.cell? ⟨w1.heap.size, 0, none⟩ = some (.int .i64 T.x) := by go_simp
  have m4_1_1 : w4.cell? ⟨w1.heap.size, 1, none⟩ = some (.int .i64 T.y) := by go_simp
  have m4_1_2 : w4.cell? ⟨w1.heap.size, 2, none⟩ = some (.bool T.far) := by go_simp
  clear m3_0_0 m3_0_1 m3_0_2 m3_1_0 m3_1_1 m3_1_2
  clear hc4
  go_wp2_with fail
  refine (times_e s T u n _ (hF.below (by repeat (first | exact hB4 | exact Below.refl _ _ | refine balloc ?_ _ | refine Below.drew ?_ | refine below_drewN ?_ _ | refine below_set ?_ (by first | omega | (dsimp only; omega)) _))) hu hT).mono ?_; rintro e w5 ⟨rfl, hb⟩
  obtain ⟨hc5, hf5⟩ := bcell hb
  have z5 := hb.size
  try simp only [World.size_alloc, World.size_setCell, World.size_drew] at z5
  have s5_0 : w.heap.size < w5.heap.size := by omega
  have s5_1 : w1.heap.size < w5.heap.size := by omega
  have hB5 : Below w.heap.size w w5 := below_seq (by repeat (first | exact hB4 | exact Below.refl _ _ | refine balloc ?_ _ | refine Below.drew ?_ | refine below_drewN ?_ _ | refine below_set ?_ (by first | omega | (dsimp only; omega)) _)) hb
  clear hb
  have m5_0_0 : w5.cell? ⟨w.heap.size, 0, none⟩ = some (.int .i64 s.x) := by go_simp
  have m5_0_1 : w5.cell? ⟨w.heap.size, 1, none⟩ = some (.int .i64 s.y) := by go_simp
  have m5_0_2 : w5.cell? ⟨w.heap.size, 2, none⟩ = some (.bool s.far) := by go_simp
  have m5_1_0 : w5.cell? ⟨w1.heap.size, 0, none⟩ = some (.int .i64 T.x) := by go_simp
  have m5_1_1 : w5.cell? ⟨w1.heap.size, 1, none⟩ = some (.int .i64 T.y) := by go_simp
  have m5_1_2 : w5.cell? ⟨w1.heap.size, 2, none⟩ = some (.bool T.far) := by go_simp
  clear m4_0_0 m4_0_1 m4_0_2 m4_1_0 m4_1_1 m4_1_2
  clear hc5
  go_wp2_with fail
  refine (error_nil 0 _ true rfl).mono ?_; rintro e w6 ⟨rfl, hb⟩
  obtain ⟨hc6, hf6⟩ := bcell hb
  have z6 := hb.size
  try simp only [World.size_alloc, World.size_setCell, World.size_drew] at z6
  have s6_0 : w.heap.size < w6.heap.size := by omega
  have s6_1 : w1.heap.size < w6.heap.size := by omega
  have s6_2 : w5.heap.size < w6.heap.size := by omega
  have hB6 : Below w.heap.size w w6 := below_seq (by repeat (first | exact hB5 | exact Below.refl _ _ | refine balloc ?_ _ | refine Below.drew ?_ | refine below_drewN ?_ _ | refine below_set ?_ (by first | omega | (dsimp only; omega)) _)) hb
  clear hb
  have m6_0_0 : w6.cell? ⟨w.heap.size, 0, none⟩ = some (.int .i64 s.x) := by go_simp
  have m6_0_1 : w6.cell? ⟨w.heap.size, 1, none⟩ = some (.int .i64 s.y) := by go_simp
  have m6_0_2 : w6.cell? ⟨w.heap.size, 2, none⟩ = some (.bool s.far) := by go_simp
  have m6_1_0 : w6.cell? ⟨w1.heap.size, 0, none⟩ = some (.int .i64 T.x) := by go_simp
  have m6_1_1 : w6.cell? ⟨w1.heap.size, 1, none⟩ = some (.int .i64 T.y) := by go_simp
  have m6_1_2 : w6.cell? ⟨w1.heap.size, 2, none⟩ = some (.bool T.far) := by go_simp
  have m6_2_0 : w6.cell? ⟨w5.heap.size, 0, none⟩ = some (.int .i64 T.x) := by go_simp
  have m6_2_1 : w6.cell? ⟨w5.heap.size, 1, none⟩ = some (.int .i64 T.y) := by go_simp
  have m6_2_2 : w6.cell? ⟨w5.heap.size, 2, none⟩ = some (.bool T.far) := by go_simp
  clear m5_0_0 m5_0_1 m5_0_2 m5_1_0 m5_1_1 m5_1_2
  clear hc6
  go_wp2_with fail
  refine (order_e s u O _ (hF.below (by repeat (first | exact hB6 | exact Below.refl _ _ | refine balloc ?_ _ | refine Below.drew ?_ | refine below_drewN ?_ _ | refine below_set ?_ (by first | omega | (dsimp only; omega)) _))) hu hO).mono ?_; rintro e w7 ⟨rfl, hb⟩
  obtain ⟨hc7, hf7⟩ := bcell hb
  have z7 := hb.size
  try simp only [World.size_alloc, World.size_setCell, World.size_drew] at z7
  have s7_0 : w.heap.size < w7.heap.size := by omega
  have s7_1 : w1.heap.size < w7.heap.size := by omega
  have s7_2 : w5.heap.size < w7.heap.size := by omega
  have hB7 : Below w.heap.size w w7 := below_seq (by repeat (first | exact hB6 | exact Below.refl _ _ | refine balloc ?_ _ | refine Below.drew ?_ | refine below_drewN ?_ _ | refine below_set ?_ (by first | omega | (dsimp only; omega)) _)) hb
  clear hb
  have m7_0_0 : w7.cell? ⟨w.heap.size, 0, none⟩ = some (.int .i64 s.x) := by go_simp
  have m7_0_1 : w7.cell? ⟨w.heap.size, 1, none⟩ = some (.int .i64 s.y) := by go_simp
  have m7_0_2 : w7.cell? ⟨w.heap.size, 2, none⟩ = some (.bool s.far) := by go_simp
  have m7_1_0 : w7.cell? ⟨w1.heap.size, 0, none⟩ = some (.int .i64 T.x) := by go_simp
  have m7_1_1 : w7.cell? ⟨w1.heap.size, 1, none⟩ = some (.int .i64 T.y) := by go_simp
  have m7_1_2 : w7.cell? ⟨w1.heap.size, 2, none⟩ = some (.bool T.far) := by go_simp
  have m7_2_0 : w7.cell? ⟨w5.heap.size, 0, none⟩ = some (.int .i64 T.x) := by go_simp
  have m7_2_1 : w7.cell? ⟨w5.heap.size, 1, none⟩ = some (.int .i64 T.y) := by go_simp
  have m7_2_2 : w7.cell? ⟨w5.heap.size, 2, none⟩ = some (.bool T.far) := by go_simp
  clear m6_0_0 m6_0_1 m6_0_2 m6_1_0 m6_1_1 m6_1_2 m6_2_0 m6_2_1 m6_2_2
  clear hc7
  go_wp2_with fail
  refine (error_nil 0 _ true rfl).mono ?_; rintro e w8 ⟨rfl, hb⟩
  obtain ⟨hc8, hf8⟩ := bcell hb
  have z8 := hb.size
  try simp only [World.size_alloc, World.size_setCell, World.size_drew] at z8
  have s8_0 : w.heap.size < w8.heap.size := by omega
  have s8_1 : w1.heap.size < w8.heap.size := by omega
  have s8_2 : w5.heap.size < w8.heap.size := by omega
  have hB8 : Below w.heap.size w w8 := below_seq (by repeat (first | exact hB7 | exact Below.refl _ _ | refine balloc ?_ _ | refine Below.drew ?_ | refine below_drewN ?_ _ | refine below_set ?_ (by first | omega | (dsimp only; omega)) _)) hb
  clear hb
  have m8_0_0 : w8.cell? ⟨w.heap.size, 0, none⟩ = some (.int .i64 s.x) := by go_simp
  have m8_0_1 : w8.cell? ⟨w.heap.size, 1, none⟩ = some (.int .i64 s.y) := by go_simp
  have m8_0_2 : w8.cell? ⟨w.heap.size, 2, none⟩ = some (.bool s.far) := by go_simp
  have m8_1_0 : w8.cell? ⟨w1.heap.size, 0, none⟩ = some (.int .i64 T.x) := by go_simp
  have m8_1_1 : w8.cell? ⟨w1.heap.size, 1, none⟩ = some (.int .i64 T.y) := by go_simp
  have m8_1_2 : w8.cell? ⟨w1.heap.size, 2, none⟩ = some (.bool T.far) := by go_simp
  have m8_2_0 : w8.cell? ⟨w5.heap.size, 0, none⟩ = some (.int .i64 T.x) := by go_simp
  have m8_2_1 : w8.cell? ⟨w5.heap.size, 1, none⟩ = some (.int .i64 T.y) := by go_simp
  have m8_2_2 : w8.cell? ⟨w5.heap.size, 2, none⟩ = some (.bool T.far) := by go_simp
  clear m7_0_0 m7_0_1 m7_0_2 m7_1_0 m7_1_1 m7_1_2 m7_2_0 m7_2_1 m7_2_2
  clear hc8
  go_wp2_with fail
  refine (in_e s u I _ (hF.below (by repeat (first | exact hB8 | exact Below.refl _ _ | refine balloc ?_ _ | refine Below.drew ?_ | refine below_drewN ?_ _ | refine below_set ?_ (by first | omega | (dsimp only; omega)) _))) hu hI).mono ?_; rintro e w9 ⟨rfl, hb⟩
  obtain ⟨hc9, hf9⟩ := bcell hb
  have z9 := hb.size
  try simp only [World.size_alloc, World.size_setCell, World.size_drew] at z9
  have s9_0 : w.heap.size < w9.heap.size := by omega
  have s9_1 : w1.heap.size < w9.heap.size := by omega
  have s9_2 : w5.heap.size < w9.heap.size := by omega
  have hB9 : Below w.heap.size w w9 := below_seq (by repeat (first | exact hB8 | exact Below.refl _ _ | refine balloc ?_ _ | refine Below.drew ?_ | refine below_drewN ?_ _ | refine below_set ?_ (by first | omega | (dsimp only; omega)) _)) hb
  clear hb
  have m9_0_0 : w9.cell? ⟨w.heap.size, 0, none⟩ = some (.int .i64 s.x) := by go_simp
  have m9_0_1 : w9.cell? ⟨w.heap.size, 1, none⟩ = some (.int .i64 s.y) := by go_simp
  have m9_0_2 : w9.cell? ⟨w.heap.size, 2, none⟩ = some (.bool s.far) := by go_simp
  have m9_1_0 : w9.cell? ⟨w1.heap.size, 0, none⟩ = some (.int .i64 T.x) := by go_simp
  have m9_1_1 : w9.cell? ⟨w1.heap.size, 1, none⟩ = some (.int .i64 T.y) := by go_simp
  have m9_1_2 : w9.cell? ⟨w1.heap.size, 2, none⟩ = some (.bool T.far) := by go_simp
  have m9_2_0 : w9.cell? ⟨w5.heap.size, 0, none⟩ = some (.int .i64 T.x) := by go_simp
  have m9_2_1 : w9.cell? ⟨w5.heap.size, 1, none⟩ = some (.int .i64 T.y) := by go_simp
  have m9_2_2 : w9.cell? ⟨w5.heap.size, 2, none⟩ = some (.bool T.far) := by go_simp
  clear m8_0_0 m8_0_1 m8_0_2 m8_1_0 m8_1_1 m8_1_2 m8_2_0 m8_2_1 m8_2_2
  clear hc9
  go_wp2_with fail
  refine (error_nil 0 _ true rfl).mono ?_; rintro e w10 ⟨rfl, hb⟩
  obtain ⟨hc10, hf10⟩ := bcell hb
  have z10 := hb.size
  try simp only [World.size_alloc, World.size_setCell, World.size_drew] at z10
  have s10_0 : w.heap.size < w10.heap.size := by omega
  have s10_1 : w1.heap.size < w10.heap.size := by omega
  have s10_2 : w5.heap.size < w10.heap.size := by omega
  have hB10 : Below w.heap.size w w10 := below_seq (by repeat (first | exact hB9 | exact Below.refl _ _ | refine balloc ?_ _ | refine Below.drew ?_ | refine below_drewN ?_ _ | refine below_set ?_ (by first | omega | (dsimp only; omega)) _)) hb
  clear hb
  have m10_0_0 : w10.cell? ⟨w.heap.size, 0, none⟩ = some (.int .i64 s.x) := by go_simp
  have m10_0_1 : w10.cell? ⟨w.heap.size, 1, none⟩ = some (.int .i64 s.y) := by go_simp
  have m10_0_2 : w10.cell? ⟨w.heap.size, 2, none⟩ = some (.bool s.far) := by go_simp
  have m10_1_0 : w10.cell? ⟨w1.heap.size, 0, none⟩ = some (.int .i64 T.x) := by go_simp
  have m10_1_1 : w10.cell? ⟨w1.heap.size, 1, none⟩ = some (.int .i64 T.y) := by go_simp
  have m10_1_2 : w10.cell? ⟨w1.heap.size, 2, none⟩ = some (.bool T.far) := by go_simp
  have m10_2_0 : w10.cell? ⟨w5.heap.size, 0, none⟩ = some (.int .i64 T.x) := by go_simp
  have m10_2_1 : w10.cell? ⟨w5.heap.size, 1, none⟩ = some (.int .i64 T.y) := by go_simp
  have m10_2_2 : w10.cell? ⟨w5.heap.size, 2, none⟩ = some (.bool T.far) := by go_simp
  clear m9_0_0 m9_0_1 m9_0_2 m9_1_0 m9_1_1 m9_1_2 m9_2_0 m9_2_1 m9_2_2
  clear hc10
  go_wp2_with fail
  refine (base_k _ (hF.below (by repeat (first | exact hB10 | exact Below.refl _ _ | refine balloc ?_ _ | refine Below.drew ?_ | refine below_drewN ?_ _ | refine below_set ?_ (by first | omega | (dsimp only; omega)) _)))).mono ?_; rintro e w11 ⟨rfl, hb⟩
  obtain ⟨hc11, hf11⟩ := bcell hb
  have z11 := hb.size
  try simp only [World.size_alloc, World.size_setCell, World.size_drew] at z11
  have s11_0 : w.heap.size < w11.heap.size := by omega
  have s11_1 : w1.heap.size < w11.heap.size := by omega
  have s11_2 : w5.heap.size < w11.heap.size := by omega
  have hB11 : Below w.heap.size w w11 := below_seq (by repeat (first | exact hB10 | exact Below.refl _ _ | refine balloc ?_ _ | refine Below.drew ?_ | refine below_drewN ?_ _ | refine below_set ?_ (by first | omega | (dsimp only; omega)) _)) hb
  clear hb
  have m11_0_0 : w11.cell? ⟨w.heap.size, 0, none⟩ = some (.int .i64 s.x) := by go_simp
  have m11_0_1 : w11.cell? ⟨w.heap.size, 1, none⟩ = some (.int .i64 s.y) := by go_simp
  have m11_0_2 : w11.cell? ⟨w.heap.size, 2, none⟩ = some (.bool s.far) := by go_simp
  have m11_1_0 : w11.cell? ⟨w1.heap.size, 0, none⟩ = some (.int .i64 T.x) := by go_simp
  have m11_1_1 : w11.cell? ⟨w1.heap.size, 1, none⟩ = some (.int .i64 T.y) := by go_simp
  have m11_1_2 : w11.cell? ⟨w1.heap.size, 2, none⟩ = some (.bool T.far) := by go_simp
  have m11_2_0 : w11.cell? ⟨w5.heap.size, 0, none⟩ = some (.int .i64 T.x) := by go_simp
  have m11_2_1 : w11.cell? ⟨w5.heap.size, 1, none⟩ = some (.int .i64 T.y) := by go_simp
  have m11_2_2 : w11.cell? ⟨w5.heap.size, 2, none⟩ = some (.bool T.far) := by go_simp
  clear m10_0_0 m10_0_1 m10_0_2 m10_1_0 m10_1_1 m10_1_2 m10_2_0 m10_2_1 m10_2_2
  clear hc11
  go_wp2_with fail
  refine (refBase_k _).mono ?_; rintro e w12 ⟨rfl, hb⟩
  obtain ⟨hc12, hf12⟩ := bcell hb
  have z12 := hb.size
  try simp only [World.size_alloc, World.size_setCell, World.size_drew] at z12
  have s12_0 : w.heap.size < w12.heap.size := by omega
  have s12_1 : w1.heap.size < w12.heap.size := by omega
  have s12_2 : w5.heap.size < w12.heap.size := by omega
  have hB12 : Below w.heap.size w w12 := below_seq (by repeat (first | exact hB11 | exact Below.refl _ _ | refine balloc ?_ _ | refine Below.drew ?_ | refine below_drewN ?_ _ | refine below_set ?_ (by first | omega | (dsimp only; omega)) _)) hb
  clear hb
  have m12_0_0 : w12.cell? ⟨w.heap.size, 0, none⟩ = some (.int .i64 s.x) := by go_simp
  have m12_0_1 : w12.cell? ⟨w.heap.size, 1, none⟩ = some (.int .i64 s.y) := by go_simp
  have m12_0_2 : w12.cell? ⟨w.heap.size, 2, none⟩ = some (.bool s.far) := by go_simp
  have m12_1_0 : w12.cell? ⟨w1.heap.size, 0, none⟩ = some (.int .i64 T.x) := by go_simp
  have m12_1_1 : w12.cell? ⟨w1.heap.size, 1, none⟩ = some (.int .i64 T.y) := by go_simp
  have m12_1_2 : w12.cell? ⟨w1.heap.size, 2, none⟩ = some (.bool T.far) := by go_simp
  have m12_2_0 : w12.cell? ⟨w5.heap.size, 0, none⟩ = some (.int .i64 T.x) := by go_simp
  have m12_2_1 : w12.cell? ⟨w5.heap.size, 1, none⟩ = some (.int .i64 T.y) := by go_simp
  have m12_2_2 : w12.cell? ⟨w5.heap.size, 2, none⟩ = some (.bool T.far) := by go_simp
  clear m11_0_0 m11_0_1 m11_0_2 m11_1_0 m11_1_1 m11_1_2 m11_2_0 m11_2_1 m11_2_2
  clear hc12
  go_wp2
  go_ret
  exact ⟨rfl, (by repeat (first | exact hB12 | exact Below.refl _ _ | refine balloc ?_ _ | refine Below.drew ?_ | refine below_drewN ?_ _ | refine below_set ?_ (by first | omega | (dsimp only; omega)) _))⟩
theorem timesTell_law (s : Sp) (n : Int) (hn : (Lit.int .i64 n).wf = true) (w : World) (hL : FarAt w ∧ ErrAt w) : Calls Tryd.prog 4 #[spV s, .int .i64 n] w fun e w' => e = .returned (.bool true) ∧ Below w.heap.size w w' := by
  have hb := wf64 hn
  by_cases c0 : sCheck s = 0
  · obtain ⟨u, -, -, e⟩ := sq_all ((ok_iff _).mp c0)
    exact tm_1 s _ n u _ _ w hL.1 hL.2 hb.1 hb.2 c0 e rfl rfl rfl
  · exact tm_0 s n _ w hL.1 hL.2 rfl c0 (by simpa using c0)
end Go.Proofs.YtopcdihgkojjlaaDoor
namespace Go.Proofs.YtopcdihgkojjlaaDoor.timesTell
open Go.ChangeShapes Go.WideShapes Go.ChangeAt Go.RowKit
set_option linter.unusedVariables false
theorem typesOk : ([37, 3].all fun t => Tryd.prog.readableRec t && decide (t < Tryd.prog.types.size)) = true := by kernel_rfl
set_option maxRecDepth 100000 in
theorem lifted (os : Os) (started : os.Started) (H : Type) (enc : TypeId × Value → H) :
    ReturnsInHanded {} Tryd.checked os 4 .any (fun w args => (Rows.timesTellSpec.pre enc Tryd.prog Tryd.f4 [] false w args ∧ laidMetH Tryd.prog farErrLaid w) ∧ sizedMet enc Tryd.prog Tryd.f4 (OpenSpec.ofChange Rows.timesTellSpec) false w args)
      (Rows.timesTellSpec.post enc Tryd.prog Tryd.f4 false true false false) := by
  refine returnsInHanded_of_change_and (C := Tryd.checked) (X := fun w _ => laidMetH Tryd.prog farErrLaid w) (fun _ _ _ hh h => h.of_heap hh) Tryd.ownK started (by kernel_rfl) Tryd.func4
    (ChangeSpec.witness_shaped (enc := enc) (C := Tryd.checked) (os := os) (X := fun w _ => laidMetH Tryd.prog farErrLaid w) false (World.doorLaid Tryd.prog 400 os) #[.agg #[.int .i64 0, .int .i64 0, .bool false], .int .i64 0] 8 rfl (World.shaped_of_RefB (by kernel_rfl) (by kernel_rfl)) (by kernel_rfl) (by kernel_rfl) (by kernel_rfl) (farErrLaid_met os _)) ?_
  intro W base args ds gs before hval0 hW hcnd hsz0 hL hholds
  have hval : ∀ (j : Nat) t v, Tryd.f4.params[j]? = some t → args[j]? = some v → Value.okWide Tryd.prog W .any base t v := hval0
  have hW' := hW
  obtain ⟨p, q, hA0, hV, rfl, hfz, hnd⟩ := hW
  have hA : DataW.TrodAll enc Tryd.prog W 0 (fun _ => true) true Tryd.f4.params.toList args.toList ds p := hA0
  obtain ⟨rfl, rfl⟩ := trodVars_none hV
  simp only [List.append_nil] at hW'
  have hlt : ∀ x ∈ p, x.block < W.heap.size := fun x hx => hW'.lt x hx
  have hsz : (DataW.weightsEach Tryd.prog (Tryd.f4.params.toList ++ Rows.timesTellSpec.plain.varTypes Tryd.prog) (ds ++ [])).all (· ≤ reachBytes) = true := hsz0
  rw [Tryd.params4] at hA hval hsz
  have hK := hA
  obtain ⟨v0, vs0, d0, ds0, p0, q0, hargs, rfl, rfl, h0, r0⟩ := trodAll_cons hA
  obtain ⟨v1, vs1, d1, ds1, p1, q1, rfl, rfl, rfl, h1, r1⟩ := trodAll_cons r0
  obtain ⟨rfl, rfl, rfl⟩ := trodAll_nil r1
  obtain rfl : args = #[v0, v1] := by cases args; simp_all
  obtain ⟨a0, b0, f0, rfl, w0, u0⟩ := open_spot Tryd.underlying37 (by kernel_rfl) (by kernel_rfl) Tryd.underlying3 Tryd.underlying3 Tryd.underlying4 (hval 0 37 v0 rfl rfl) h0
  obtain ⟨a1, rfl, rfl, rfl, w1⟩ := open_int Tryd.underlying3 (hval 1 3 v1 rfl rfl) h1
  clear hA0 hval0
  refine (timesTell_law ⟨a0, b0, f0⟩ a1 w1 W (farErrLaid_at hL)).mono fun e W' ⟨he, hg⟩ => ?_
  subst he
  exact ⟨_, rfl, post_of_below (pa := _) (pv := []) hW' (fun _ _ _ => (trodAll_cons_mk (shut_bool Tryd.underlying4 _) trodAll_mk0)) (fun sp hsp => trodAll_stays Tryd.laidOutK hg typesOk hK (fun x hx => ⟨hlt x hx, hsp x (by first | exact hx | (simp at hx) | simpa using hx)⟩)) (fun _ _ => rfl) (by simp) hg (ok_one (by kernel_rfl) rfl (okWide_bool_mk Tryd.underlying4 _))⟩

theorem over : Rows.timesTellRow.holds Tryd.pinned (OpenSpec.ofChange Rows.timesTellSpec) :=
  OpenClaim.holds_of_wide 4 Tryd.f4 rfl rfl rfl rfl rfl rfl rfl ⟨rfl, rfl, rfl, rfl, rfl⟩ rfl rfl rfl rfl rfl (by kernel_rfl) Tryd.func4 (by show joinedFacts Tryd.prog _ _ _ _ = true; unfold joinedFacts; rw [mayEnterK, liftsFinalK, makeK]; kernel_rfl)
    (of_decide_eq_true (by kernel_rfl)) (by unfold Func.isWrapper; first | (rw [if_pos (by decide +kernel)]; kernel_rfl) | (rw [if_neg (by decide +kernel)]; exact ⟨rfl, rfl⟩))
    (fun os started H enc _ => lifted os started H enc)
theorem card : Rows.TimesTellCardSaid :=
  Claim7.holds_tied_plain_at .later [] [.data, .handle] true (true, "32fe744af748dcde28962f5faf97cf85692eb597fee56aa250b8ae3699a448c7") true
    over (fun _ h => by cases h) (by kernel_rfl) (fun _ h => by cases h) timesTell_row_tie rfl ⟨rfl, rfl⟩ mainIsK rfl
    (fun f fn hf hfn => by
      obtain rfl : f = 4 := Option.some.inj ((show Tryd.prog.funcNamed "pairstone/stonelaw1.TimesTell" = some 4 by kernel_rfl).symm.trans hf) |>.symm
      obtain rfl : fn = Tryd.f4 := (Option.some.inj (Tryd.func4.symm.trans hfn)).symm
      exact ⟨by kernel_rfl, fun j t ht => by
        rw [Tryd.params4] at ht
        have hm : t ∈ ([37, 3] : List TypeId) := by simpa using Array.mem_of_getElem? ht
        have hall : (([37, 3] : List TypeId).all fun u => !Tryd.prog.wantsStandIn u) = true := by kernel_rfl
        exact (show Tryd.prog.wantsStandIn t = false by simpa using List.all_eq_true.1 hall t hm)⟩)
    (by kernel_rfl)
#print axioms card
end Go.Proofs.YtopcdihgkojjlaaDoor.timesTell
