/- The statement of EqualFalse: for every input the law returns true, and the arguments read as they did. (its listed variable reads as laid; the card ties it) -/
import Derived.Laws.Entries
import Derived.Test.YtopcdihgkojjlaaDoorEn
import Derived.Test.YtopcdihgkojjlaaDoorKe
import Derived.Test.YtopcdihgkojjlaaDoorFr
import Derived.SizedLaws
import Derived.Test.YtopcdihgkojjlaaDoorTie
import Derived.Test.YtopcdihgkojjlaaDoorCards
import Derived.Test.YtopcdihgkojjlaaDoorFar
import Derived.Test.YtopcdihgkojjlaaDoorJf
import Derived.SevenTiedAt
namespace Go.Proofs.YtopcdihgkojjlaaDoor
open Go.RowKit
set_option maxRecDepth 100000
set_option linter.unusedVariables false
set_option linter.unusedSimpArgs false
def InIs (c : Sp) (I : Bool) (E : Value) : Prop := ∀ w : World, FarAt w → Calls Tryd.prog 36 #[spV c] w fun e w' => e = .returned (.tuple #[.bool I, E]) ∧ Below w.heap.size w w'
theorem in_is (c : Sp) : ∃ I E, InIs c I E := by
  by_cases h : sCheck c = 0
  · obtain ⟨u, -, -, e⟩ := sq_all ((ok_iff _).mp h)
    exact ⟨_, _, fun w hF => in_e c u _ w hF e rfl⟩
  · exact ⟨_, _, fun w hF => in_v c _ w hF rfl h⟩
set_option maxHeartbeats 8000000 in
theorem ef_0 (x k : Int) (c : Sp) (w : World) (hF : FarAt w) (C1 S1 : Int) (h11 : Hid (ProveIs 1 1 ⟨1189, 3667, false⟩ ⟨1189, 3667, false⟩ ⟨1189, 3667, false⟩ C1 S1 .nilIface)) (I : Bool) (Ei : Value) (kI : Hid (InIs c I Ei)) (hP : Hid (ProveIs x k ⟨1189, 3667, false⟩ ⟨0, 0, false⟩ ⟨0, 0, false⟩ 0 0 (.iface 117 (.int .i64 1)))) : Calls Tryd.prog 6 #[.int .i64 x, .int .i64 k, spV c] w fun e w' => e = .returned (.bool true) ∧ Below w.heap.size w w' := by
  go_enter Tryd.func6, Tryd.ntmps6
  go_wp2_with fail
  refine (base_k _ (hF.below (by repeat (first | exact Below.refl _ _ | refine balloc ?_ _ | refine Below.drew ?_ | refine below_drewN ?_ _ | refine below_set ?_ (by first | omega | (dsimp only; omega)) _)))).mono ?_; rintro e w1 ⟨rfl, hb⟩
  obtain ⟨hc1, hf1⟩ := bcell hb
  have z1 := hb.size
  try simp only [World.size_alloc, World.size_setCell, World.size_drew] at z1
  have s1_0 : w.heap.size < w1.heap.size := by omega
  have hB1 : Below w.heap.size w w1 := below_seq (by repeat (first | exact Below.refl _ _ | refine balloc ?_ _ | refine Below.drew ?_ | refine below_drewN ?_ _ | refine below_set ?_ (by first | omega | (dsimp only; omega)) _)) hb
  clear hb
  have m1_0_0 : w1.cell? ⟨w.heap.size, 0, none⟩ = some (.int .i64 c.x) := by go_simp
  have m1_0_1 : w1.cell? ⟨w.heap.size, 1, none⟩ = some (.int .i64 c.y) := by go_simp
  have m1_0_2 : w1.cell? ⟨w.heap.size, 2, none⟩ = some (.bool c.far) := by go_simp
  clear hc1
  go_wp2_with fail
  refine (kI.out _ (hF.below (by repeat (first | exact hB1 | exact Below.refl _ _ | refine balloc ?_ _ | refine Below.drew ?_ | refine below_drewN ?_ _ | refine below_set ?_ (by first | omega | (dsimp only; omega)) _)))).mono ?_; rintro e w2 ⟨rfl, hb⟩
  obtain ⟨hc2, hf2⟩ := bcell hb
  have z2 := hb.size
  try simp only [World.size_alloc, World.size_setCell, World.size_drew] at z2
  have s2_0 : w.heap.size < w2.heap.size := by omega
  have s2_1 : w1.heap.size < w2.heap.size := by omega
  have hB2 : Below w.heap.size w w2 := below_seq (by repeat (first | exact hB1 | exact Below.refl _ _ | refine balloc ?_ _ | refine Below.drew ?_ | refine below_drewN ?_ _ | refine below_set ?_ (by first | omega | (dsimp only; omega)) _)) hb
  clear hb
  have m2_0_0 : w2.cell? ⟨w.heap.size, 0, none⟩ = some (.int .i64 c.x) := by go_simp
  have m2_0_1 : w2.cell? ⟨w.heap.size, 1, none⟩ = some (.int .i64 c.y) := by go_simp
  have m2_0_2 : w2.cell? ⟨w.heap.size, 2, none⟩ = some (.bool c.far) := by go_simp
  have m2_1_0 : w2.cell? ⟨w1.heap.size, 0, none⟩ = some (.int .i64 1189) := by go_simp
  have m2_1_1 : w2.cell? ⟨w1.heap.size, 1, none⟩ = some (.int .i64 3667) := by go_simp
  have m2_1_2 : w2.cell? ⟨w1.heap.size, 2, none⟩ = some (.bool false) := by go_simp
  clear m1_0_0 m1_0_1 m1_0_2
  clear hc2
  go_wp2_with fail
  refine (hP.out _ (hF.below (by repeat (first | exact hB2 | exact Below.refl _ _ | refine balloc ?_ _ | refine Below.drew ?_ | refine below_drewN ?_ _ | refine below_set ?_ (by first | omega | (dsimp only; omega)) _)))).mono ?_; rintro e w3 ⟨rfl, hb⟩
  obtain ⟨hc3, hf3⟩ := bcell hb
  have z3 := hb.size
  try simp only [World.size_alloc, World.size_setCell, World.size_drew] at z3
  have s3_0 : w.heap.size < w3.heap.size := by omega
  have s3_1 : w1.heap.size < w3.heap.size := by omega
  have hB3 : Below w.heap.size w w3 := below_seq (by repeat (first | exact hB2 | exact Below.refl _ _ | refine balloc ?_ _ | refine Below.drew ?_ | refine below_drewN ?_ _ | refine below_set ?_ (by first | omega | (dsimp only; omega)) _)) hb
  clear hb
  have m3_0_0 : w3.cell? ⟨w.heap.size, 0, none⟩ = some (.int .i64 c.x) := by go_simp
  have m3_0_1 : w3.cell? ⟨w.heap.size, 1, none⟩ = some (.int .i64 c.y) := by go_simp
  have m3_0_2 : w3.cell? ⟨w.heap.size, 2, none⟩ = some (.bool c.far) := by go_simp
  have m3_1_0 : w3.cell? ⟨w1.heap.size, 0, none⟩ = some (.int .i64 1189) := by go_simp
  have m3_1_1 : w3.cell? ⟨w1.heap.size, 1, none⟩ = some (.int .i64 3667) := by go_simp
  have m3_1_2 : w3.cell? ⟨w1.heap.size, 2, none⟩ = some (.bool false) := by go_simp
  clear m2_0_0 m2_0_1 m2_0_2 m2_1_0 m2_1_1 m2_1_2
  clear hc3
  go_wp2_with fail
  refine (h11.out _ (hF.below (by repeat (first | exact hB3 | exact Below.refl _ _ | refine balloc ?_ _ | refine Below.drew ?_ | refine below_drewN ?_ _ | refine below_set ?_ (by first | omega | (dsimp only; omega)) _)))).mono ?_; rintro e w4 ⟨rfl, hb⟩
  obtain ⟨hc4, hf4⟩ := bcell hb
  have z4 := hb.size
  try simp only [World.size_alloc, World.size_setCell, World.size_drew] at z4
  have s4_0 : w.heap.size < w4.heap.size := by omega
  have s4_1 : w1.heap.size < w4.heap.size := by omega
  have s4_2 : w3.heap.size < w4.heap.size := by omega
  have s4_3 : w3.heap.size + 1 < w4.heap.size := by omega
  have s4_4 : w3.heap.size + 1 + 1 < w4.heap.size := by omega
  have hB4 : Below w.heap.size w w4 := below_seq (by repeat (first | exact hB3 | exact Below.refl _ _ | refine balloc ?_ _ | refine Below.drew ?_ | refine below_drewN ?_ _ | refine below_set ?_ (by first | omega | (dsimp only; omega)) _)) hb
  clear hb
  have m4_0_0 : w4.cell? ⟨w.heap.size, 0, none⟩ = some (.int .i64 c.x) := by go_simp
  have m4_0_1 : w4.cell? ⟨w.heap.size, 1, none⟩ = some (.int .i64 c.y) := by go_simp
  have m4_0_2 : w4.cell? ⟨w.heap.size, 2, none⟩ = some (.bool c.far) := by go_simp
  have m4_1_0 : w4.cell? ⟨w1.heap.size, 0, none⟩ = some (.int .i64 1189) := by go_simp
  have m4_1_1 : w4.cell? ⟨w1.heap.size, 1, none⟩ = some (.int .i64 3667) := by go_simp
  have m4_1_2 : w4.cell? ⟨w1.heap.size, 2, none⟩ = some (.bool false) := by go_simp
  clear m3_0_0 m3_0_1 m3_0_2 m3_1_0 m3_1_1 m3_1_2
  clear hc4
  go_wp2_with fail
  refine (in_e ⟨1189, 3667, false⟩ 4 true _ (hF.below (by repeat (first | exact hB4 | exact Below.refl _ _ | refine balloc ?_ _ | refine Below.drew ?_ | refine below_drewN ?_ _ | refine below_set ?_ (by first | omega | (dsimp only; omega)) _))) sq_4.symm in4).mono ?_; rintro e w5 ⟨rfl, hb⟩
  obtain ⟨hc5, hf5⟩ := bcell hb
  have z5 := hb.size
  try simp only [World.size_alloc, World.size_setCell, World.size_drew] at z5
  have s5_0 : w.heap.size < w5.heap.size := by omega
  have s5_1 : w1.heap.size < w5.heap.size := by omega
  have s5_2 : w3.heap.size < w5.heap.size := by omega
  have s5_3 : w3.heap.size + 1 < w5.heap.size := by omega
  have s5_4 : w3.heap.size + 1 + 1 < w5.heap.size := by omega
  have s5_5 : w4.heap.size < w5.heap.size := by omega
  have s5_6 : w4.heap.size + 1 < w5.heap.size := by omega
  have s5_7 : w4.heap.size + 1 + 1 < w5.heap.size := by omega
  have hB5 : Below w.heap.size w w5 := below_seq (by repeat (first | exact hB4 | exact Below.refl _ _ | refine balloc ?_ _ | refine Below.drew ?_ | refine below_drewN ?_ _ | refine below_set ?_ (by first | omega | (dsimp only; omega)) _)) hb
  clear hb
  have m5_0_0 : w5.cell? ⟨w.heap.size, 0, none⟩ = some (.int .i64 c.x) := by go_simp
  have m5_0_1 : w5.cell? ⟨w.heap.size, 1, none⟩ = some (.int .i64 c.y) := by go_simp
  have m5_0_2 : w5.cell? ⟨w.heap.size, 2, none⟩ = some (.bool c.far) := by go_simp
  have m5_1_0 : w5.cell? ⟨w1.heap.size, 0, none⟩ = some (.int .i64 1189) := by go_simp
  have m5_1_1 : w5.cell? ⟨w1.heap.size, 1, none⟩ = some (.int .i64 3667) := by go_simp
  have m5_1_2 : w5.cell? ⟨w1.heap.size, 2, none⟩ = some (.bool false) := by go_simp
  have m5_2_0 : w5.cell? ⟨w4.heap.size + 1, 0, none⟩ = some (.int .i64 1189) := by go_simp
  have m5_2_1 : w5.cell? ⟨w4.heap.size + 1, 1, none⟩ = some (.int .i64 3667) := by go_simp
  have m5_2_2 : w5.cell? ⟨w4.heap.size + 1, 2, none⟩ = some (.bool false) := by go_simp
  clear m4_0_0 m4_0_1 m4_0_2 m4_1_0 m4_1_1 m4_1_2
  clear hc5
  go_wp2
  go_ret
  exact ⟨rfl, (by repeat (first | exact hB5 | exact Below.refl _ _ | refine balloc ?_ _ | refine Below.drew ?_ | refine below_drewN ?_ _ | refine below_set ?_ (by first | omega | (dsimp only; omega)) _))⟩
set_option maxHeartbeats 8000000 in
theorem ef_1 (x k : Int) (c : Sp) (w : World) (hF : FarAt w) (C1 S1 : Int) (h11 : Hid (ProveIs 1 1 ⟨1189, 3667, false⟩ ⟨1189, 3667, false⟩ ⟨1189, 3667, false⟩ C1 S1 .nilIface)) (n : Int) (hn : Hid (sCheck c = n)) (h0 : n ≠ 0) (A D : Sp) (C S : Int) (hP : Hid (ProveIs x k ⟨1189, 3667, false⟩ A D C S .nilIface)) : Calls Tryd.prog 6 #[.int .i64 x, .int .i64 k, spV c] w fun e w' => e = .returned (.bool true) ∧ Below w.heap.size w w' := by
  go_enter Tryd.func6, Tryd.ntmps6
  go_wp2_with fail
  refine (base_k _ (hF.below (by repeat (first | exact Below.refl _ _ | refine balloc ?_ _ | refine Below.drew ?_ | refine below_drewN ?_ _ | refine below_set ?_ (by first | omega | (dsimp only; omega)) _)))).mono ?_; rintro e w1 ⟨rfl, hb⟩
  obtain ⟨hc1, hf1⟩ := bcell hb
  have z1 := hb.size
  try simp only [World.size_alloc, World.size_setCell, World.size_drew] at z1
  have s1_0 : w.heap.size < w1.heap.size := by omega
  have hB1 : Below w.heap.size w w1 := below_seq (by repeat (first | exact Below.refl _ _ | refine balloc ?_ _ | refine Below.drew ?_ | refine below_drewN ?_ _ | refine below_set ?_ (by first | omega | (dsimp only; omega)) _)) hb
  clear hb
  have m1_0_0 : w1.cell? ⟨w.heap.size, 0, none⟩ = some (.int .i64 c.x) := by go_simp
  have m1_0_1 : w1.cell? ⟨w.heap.size, 1, none⟩ = some (.int .i64 c.y) := by go_simp
  have m1_0_2 : w1.cell? ⟨w.heap.size, 2, none⟩ = some (.bool c.far) := by go_simp
  clear hc1
  go_wp2_with fail
  refine (in_v c n _ (hF.below (by repeat (first | exact hB1 | exact Below.refl _ _ | refine balloc ?_ _ | refine Below.drew ?_ | refine below_drewN ?_ _ | refine below_set ?_ (by first | omega | (dsimp only; omega)) _))) hn h0).mono ?_; rintro e w2 ⟨rfl, hb⟩
  obtain ⟨hc2, hf2⟩ := bcell hb
  have z2 := hb.size
  try simp only [World.size_alloc, World.size_setCell, World.size_drew] at z2
  have s2_0 : w.heap.size < w2.heap.size := by omega
  have s2_1 : w1.heap.size < w2.heap.size := by omega
  have hB2 : Below w.heap.size w w2 := below_seq (by repeat (first | exact hB1 | exact Below.refl _ _ | refine balloc ?_ _ | refine Below.drew ?_ | refine below_drewN ?_ _ | refine below_set ?_ (by first | omega | (dsimp only; omega)) _)) hb
  clear hb
  have m2_0_0 : w2.cell? ⟨w.heap.size, 0, none⟩ = some (.int .i64 c.x) := by go_simp
  have m2_0_1 : w2.cell? ⟨w.heap.size, 1, none⟩ = some (.int .i64 c.y) := by go_simp
  have m2_0_2 : w2.cell? ⟨w.heap.size, 2, none⟩ = some (.bool c.far) := by go_simp
  have m2_1_0 : w2.cell? ⟨w1.heap.size, 0, none⟩ = some (.int .i64 1189) := by go_simp
  have m2_1_1 : w2.cell? ⟨w1.heap.size, 1, none⟩ = some (.int .i64 3667) := by go_simp
  have m2_1_2 : w2.cell? ⟨w1.heap.size, 2, none⟩ = some (.bool false) := by go_simp
  clear m1_0_0 m1_0_1 m1_0_2
  clear hc2
  go_wp2_with fail
  refine (hP.out _ (hF.below (by repeat (first | exact hB2 | exact Below.refl _ _ | refine balloc ?_ _ | refine Below.drew ?_ | refine below_drewN ?_ _ | refine below_set ?_ (by first | omega | (dsimp only; omega)) _)))).mono ?_; rintro e w3 ⟨rfl, hb⟩
  obtain ⟨hc3, hf3⟩ := bcell hb
  have z3 := hb.size
  try simp only [World.size_alloc, World.size_setCell, World.size_drew] at z3
  have s3_0 : w.heap.size < w3.heap.size := by omega
  have s3_1 : w1.heap.size < w3.heap.size := by omega
  have hB3 : Below w.heap.size w w3 := below_seq (by repeat (first | exact hB2 | exact Below.refl _ _ | refine balloc ?_ _ | refine Below.drew ?_ | refine below_drewN ?_ _ | refine below_set ?_ (by first | omega | (dsimp only; omega)) _)) hb
  clear hb
  have m3_0_0 : w3.cell? ⟨w.heap.size, 0, none⟩ = some (.int .i64 c.x) := by go_simp
  have m3_0_1 : w3.cell? ⟨w.heap.size, 1, none⟩ = some (.int .i64 c.y) := by go_simp
  have m3_0_2 : w3.cell? ⟨w.heap.size, 2, none⟩ = some (.bool c.far) := by go_simp
  have m3_1_0 : w3.cell? ⟨w1.heap.size, 0, none⟩ = some (.int .i64 1189) := by go_simp
  have m3_1_1 : w3.cell? ⟨w1.heap.size, 1, none⟩ = some (.int .i64 3667) := by go_simp
  have m3_1_2 : w3.cell? ⟨w1.heap.size, 2, none⟩ = some (.bool false) := by go_simp
  clear m2_0_0 m2_0_1 m2_0_2 m2_1_0 m2_1_1 m2_1_2
  clear hc3
  go_wp2_with fail
  refine (h11.out _ (hF.below (by repeat (first | exact hB3 | exact Below.refl _ _ | refine balloc ?_ _ | refine Below.drew ?_ | refine below_drewN ?_ _ | refine below_set ?_ (by first | omega | (dsimp only; omega)) _)))).mono ?_; rintro e w4 ⟨rfl, hb⟩
  obtain ⟨hc4, hf4⟩ := bcell hb
  have z4 := hb.size
  try simp only [World.size_alloc, World.size_setCell, World.size_drew] at z4
  have s4_0 : w.heap.size < w4.heap.size := by omega
  have s4_1 : w1.heap.size < w4.heap.size := by omega
  have s4_2 : w3.heap.size < w4.heap.size := by omega
  have s4_3 : w3.heap.size + 1 < w4.heap.size := by omega
  have s4_4 : w3.heap.size + 1 + 1 < w4.heap.size := by omega
  have hB4 : Below w.heap.size w w4 := below_seq (by repeat (first | exact hB3 | exact Below.refl _ _ | refine balloc ?_ _ | refine Below.drew ?_ | refine below_drewN ?_ _ | refine below_set ?_ (by first | omega | (dsimp only; omega)) _)) hb
  clear hb
  have m4_0_0 : w4.cell? ⟨w.heap.size, 0, none⟩ = some (.int .i64 c.x) := by go_simp
  have m4_0_1 : w4.cell? ⟨w.heap.size, 1, none⟩ = some (.int .i64 c.y) := by go_simp
  have m4_0_2 : w4.cell? ⟨w.heap.size, 2, none⟩ = some (.bool c.far) := by go_simp
  have m4_1_0 : w4.cell? ⟨w1.heap.size, 0, none⟩ = some (.int .i64 1189) := by go_simp
  have m4_1_1 : w4.cell? ⟨w1.heap.size, 1, none⟩ = some (.int .i64 3667) := by go_simp
  have m4_1_2 : w4.cell? ⟨w1.heap.size, 2, none⟩ = some (.bool false) := by go_simp
  clear m3_0_0 m3_0_1 m3_0_2 m3_1_0 m3_1_1 m3_1_2
  clear hc4
  go_wp2_with fail
  refine (in_e ⟨1189, 3667, false⟩ 4 true _ (hF.below (by repeat (first | exact hB4 | exact Below.refl _ _ | refine balloc ?_ _ | refine Below.drew ?_ | refine below_drewN ?_ _ | refine below_set ?_ (by first | omega | (dsimp only; omega)) _))) sq_4.symm in4).mono ?_; rintro e w5 ⟨rfl, hb⟩
  obtain ⟨hc5, hf5⟩ := bcell hb
  have z5 := hb.size
  try simp only [World.size_alloc, World.size_setCell, World.size_drew] at z5
  have s5_0 : w.heap.size < w5.heap.size := by omega
  have s5_1 : w1.heap.size < w5.heap.size := by omega
  have s5_2 : w3.heap.size < w5.heap.size := by omega
  have s5_3 : w3.heap.size + 1 < w5.heap.size := by omega
  have s5_4 : w3.heap.size + 1 + 1 < w5.heap.size := by omega
  have s5_5 : w4.heap.size < w5.heap.size := by omega
  have s5_6 : w4.heap.size + 1 < w5.heap.size := by omega
  have s5_7 : w4.heap.size + 1 + 1 < w5.heap.size := by omega
  have hB5 : Below w.heap.size w w5 := below_seq (by repeat (first | exact hB4 | exact Below.refl _ _ | refine balloc ?_ _ | refine Below.drew ?_ | refine below_drewN ?_ _ | refine below_set ?_ (by first | omega | (dsimp only; omega)) _)) hb
  clear hb
  have m5_0_0 : w5.cell? ⟨w.heap.size, 0, none⟩ = some (.int .i64 c.x) := by go_simp
  have m5_0_1 : w5.cell? ⟨w.heap.size, 1, none⟩ = some (.int .i64 c.y) := by go_simp
  have m5_0_2 : w5.cell? ⟨w.heap.size, 2, none⟩ = some (.bool c.far) := by go_simp
  have m5_1_0 : w5.cell? ⟨w1.heap.size, 0, none⟩ = some (.int .i64 1189) := by go_simp
  have m5_1_1 : w5.cell? ⟨w1.heap.size, 1, none⟩ = some (.int .i64 3667) := by go_simp
  have m5_1_2 : w5.cell? ⟨w1.heap.size, 2, none⟩ = some (.bool false) := by go_simp
  have m5_2_0 : w5.cell? ⟨w4.heap.size + 1, 0, none⟩ = some (.int .i64 1189) := by go_simp
  have m5_2_1 : w5.cell? ⟨w4.heap.size + 1, 1, none⟩ = some (.int .i64 3667) := by go_simp
  have m5_2_2 : w5.cell? ⟨w4.heap.size + 1, 2, none⟩ = some (.bool false) := by go_simp
  clear m4_0_0 m4_0_1 m4_0_2 m4_1_0 m4_1_1 m4_1_2
  clear hc5
  go_wp2
  go_ret
  exact ⟨rfl, (by repeat (first | exact hB5 | exact Below.refl _ _ | refine balloc ?_ _ | refine Below.drew ?_ | refine below_drewN ?_ _ | refine below_set ?_ (by first | omega | (dsimp only; omega)) _))⟩
set_option maxHeartbeats 8000000 in
theorem ef_2 (x k : Int) (c : Sp) (w : World) (hF : FarAt w) (C1 S1 : Int) (h11 : Hid (ProveIs 1 1 ⟨1189, 3667, false⟩ ⟨1189, 3667, false⟩ ⟨1189, 3667, false⟩ C1 S1 .nilIface)) (l : Int) (hl : Hid (c = sq l)) (hI : Hid ((sq (l * 1013)).far = false)) (A D : Sp) (C S : Int) (hP : Hid (ProveIs x k ⟨1189, 3667, false⟩ A D C S .nilIface)) : Calls Tryd.prog 6 #[.int .i64 x, .int .i64 k, spV c] w fun e w' => e = .returned (.bool true) ∧ Below w.heap.size w w' := by
  go_enter Tryd.func6, Tryd.ntmps6
  go_wp2_with fail
  refine (base_k _ (hF.below (by repeat (first | exact Below.refl _ _ | refine balloc ?_ _ | refine Below.drew ?_ | refine below_drewN ?_ _ | refine below_set ?_ (by first | omega | (dsimp only; omega)) _)))).mono ?_; rintro e w1 ⟨rfl, hb⟩
  obtain ⟨hc1, hf1⟩ := bcell hb
  have z1 := hb.size
  try simp only [World.size_alloc, World.size_setCell, World.size_drew] at z1
  have s1_0 : w.heap.size < w1.heap.size := by omega
  have hB1 : Below w.heap.size w w1 := below_seq (by repeat (first | exact Below.refl _ _ | refine balloc ?_ _ | refine Below.drew ?_ | refine below_drewN ?_ _ | refine below_set ?_ (by first | omega | (dsimp only; omega)) _)) hb
  clear hb
  have m1_0_0 : w1.cell? ⟨w.heap.size, 0, none⟩ = some (.int .i64 c.x) := by go_simp
  have m1_0_1 : w1.cell? ⟨w.heap.size, 1, none⟩ = some (.int .i64 c.y) := by go_simp
  have m1_0_2 : w1.cell? ⟨w.heap.size, 2, none⟩ = some (.bool c.far) := by go_simp
  clear hc1
  go_wp2_with fail
  refine (in_e c l false _ (hF.below (by repeat (first | exact hB1 | exact Below.refl _ _ | refine balloc ?_ _ | refine Below.drew ?_ | refine below_drewN ?_ _ | refine below_set ?_ (by first | omega | (dsimp only; omega)) _))) hl hI).mono ?_; rintro e w2 ⟨rfl, hb⟩
  obtain ⟨hc2, hf2⟩ := bcell hb
  have z2 := hb.size
  try simp only [World.size_alloc, World.size_setCell, World.size_drew] at z2
  have s2_0 : w.heap.size < w2.heap.size := by omega
  have s2_1 : w1.heap.size < w2.heap.size := by omega
  have hB2 : Below w.heap.size w w2 := below_seq (by repeat (first | exact hB1 | exact Below.refl _ _ | refine balloc ?_ _ | refine Below.drew ?_ | refine below_drewN ?_ _ | refine below_set ?_ (by first | omega | (dsimp only; omega)) _)) hb
  clear hb
  have m2_0_0 : w2.cell? ⟨w.heap.size, 0, none⟩ = some (.int .i64 c.x) := by go_simp
  have m2_0_1 : w2.cell? ⟨w.heap.size, 1, none⟩ = some (.int .i64 c.y) := by go_simp
  have m2_0_2 : w2.cell? ⟨w.heap.size, 2, none⟩ = some (.bool c.far) := by go_simp
  have m2_1_0 : w2.cell? ⟨w1.heap.size, 0, none⟩ = some (.int .i64 1189) := by go_simp
  have m2_1_1 : w2.cell? ⟨w1.heap.size, 1, none⟩ = some (.int .i64 3667) := by go_simp
  have m2_1_2 : w2.cell? ⟨w1.heap.size, 2, none⟩ = some (.bool false) := by go_simp
  clear m1_0_0 m1_0_1 m1_0_2
  clear hc2
  go_wp2_with fail
  refine (hP.out _ (hF.below (by repeat (first | exact hB2 | exact Below.refl _ _ | refine balloc ?_ _ | refine Below.drew ?_ | refine below_drewN ?_ _ | refine below_set ?_ (by first | omega | (dsimp only; omega)) _)))).mono ?_; rintro e w3 ⟨rfl, hb⟩
  obtain ⟨hc3, hf3⟩ := bcell hb
  have z3 := hb.size
  try simp only [World.size_alloc, World.size_setCell, World.size_drew] at z3
  have s3_0 : w.heap.size < w3.heap.size := by omega
  have s3_1 : w1.heap.size < w3.heap.size := by omega
  have hB3 : Below w.heap.size w w3 := below_seq (by repeat (first | exact hB2 | exact Below.refl _ _ | refine balloc ?_ _ | refine Below.drew ?_ | refine below_drewN ?_ _ | refine below_set ?_ (by first | omega | (dsimp only; omega)) _)) hb
  clear hb
  have m3_0_0 : w3.cell? ⟨w.heap.size, 0, none⟩ = some (.int .i64 c.x) := by go_simp
  have m3_0_1 : w3.cell? ⟨w.heap.size, 1, none⟩ = some (.int .i64 c.y) := by go_simp
  have m3_0_2 : w3.cell? ⟨w.heap.size, 2, none⟩ = some (.bool c.far) := by go_simp
  have m3_1_0 : w3.cell? ⟨w1.heap.size, 0, none⟩ = some (.int .i64 1189) := by go_simp
  have m3_1_1 : w3.cell? ⟨w1.heap.size, 1, none⟩ = some (.int .i64 3667) := by go_simp
  have m3_1_2 : w3.cell? ⟨w1.heap.size, 2, none⟩ = some (.bool false) := by go_simp
  clear m2_0_0 m2_0_1 m2_0_2 m2_1_0 m2_1_1 m2_1_2
  clear hc3
  go_wp2_with fail
  refine (h11.out _ (hF.below (by repeat (first | exact hB3 | exact Below.refl _ _ | refine balloc ?_ _ | refine Below.drew ?_ | refine below_drewN ?_ _ | refine below_set ?_ (by first | omega | (dsimp only; omega)) _)))).mono ?_; rintro e w4 ⟨rfl, hb⟩
  obtain ⟨hc4, hf4⟩ := bcell hb
  have z4 := hb.size
  try simp only [World.size_alloc, World.size_setCell, World.size_drew] at z4
  have s4_0 : w.heap.size < w4.heap.size := by omega
  have s4_1 : w1.heap.size < w4.heap.size := by omega
  have s4_2 : w3.heap.size < w4.heap.size := by omega
  have s4_3 : w3.heap.size + 1 < w4.heap.size := by omega
  have s4_4 : w3.heap.size + 1 + 1 < w4.heap.size := by omega
  have hB4 : Below w.heap.size w w4 := below_seq (by repeat (first | exact hB3 | exact Below.refl _ _ | refine balloc ?_ _ | refine Below.drew ?_ | refine below_drewN ?_ _ | refine below_set ?_ (by first | omega | (dsimp only; omega)) _)) hb
  clear hb
  have m4_0_0 : w4.cell? ⟨w.heap.size, 0, none⟩ = some (.int .i64 c.x) := by go_simp
  have m4_0_1 : w4.cell? ⟨w.heap.size, 1, none⟩ = some (.int .i64 c.y) := by go_simp
  have m4_0_2 : w4.cell? ⟨w.heap.size, 2, none⟩ = some (.bool c.far) := by go_simp
  have m4_1_0 : w4.cell? ⟨w1.heap.size, 0, none⟩ = some (.int .i64 1189) := by go_simp
  have m4_1_1 : w4.cell? ⟨w1.heap.size, 1, none⟩ = some (.int .i64 3667) := by go_simp
  have m4_1_2 : w4.cell? ⟨w1.heap.size, 2, none⟩ = some (.bool false) := by go_simp
  clear m3_0_0 m3_0_1 m3_0_2 m3_1_0 m3_1_1 m3_1_2
  clear hc4
  go_wp2_with fail
  refine (in_e ⟨1189, 3667, false⟩ 4 true _ (hF.below (by repeat (first | exact hB4 | exact Below.refl _ _ | refine balloc ?_ _ | refine Below.drew ?_ | refine below_drewN ?_ _ | refine below_set ?_ (by first | omega | (dsimp only; omega)) _))) sq_4.symm in4).mono ?_; rintro e w5 ⟨rfl, hb⟩
  obtain ⟨hc5, hf5⟩ := bcell hb
  have z5 := hb.size
  try simp only [World.size_alloc, World.size_setCell, World.size_drew] at z5
  have s5_0 : w.heap.size < w5.heap.size := by omega
  have s5_1 : w1.heap.size < w5.heap.size := by omega
  have s5_2 : w3.heap.size < w5.heap.size := by omega
  have s5_3 : w3.heap.size + 1 < w5.heap.size := by omega
  have s5_4 : w3.heap.size + 1 + 1 < w5.heap.size := by omega
  have s5_5 : w4.heap.size < w5.heap.size := by omega
  have s5_6 : w4.heap.size + 1 < w5.heap.size := by omega
  have s5_7 : w4.heap.size + 1 + 1 < w5.heap.size := by omega
  have hB5 : Below w.heap.size w w5 := below_seq (by repeat (first | exact hB4 | exact Below.refl _ _ | refine balloc ?_ _ | refine Below.drew ?_ | refine below_drewN ?_ _ | refine below_set ?_ (by first | omega | (dsimp only; omega)) _)) hb
  clear hb
  have m5_0_0 : w5.cell? ⟨w.heap.size, 0, none⟩ = some (.int .i64 c.x) := by go_simp
  have m5_0_1 : w5.cell? ⟨w.heap.size, 1, none⟩ = some (.int .i64 c.y) := by go_simp
  have m5_0_2 : w5.cell? ⟨w.heap.size, 2, none⟩ = some (.bool c.far) := by go_simp
  have m5_1_0 : w5.cell? ⟨w1.heap.size, 0, none⟩ = some (.int .i64 1189) := by go_simp
  have m5_1_1 : w5.cell? ⟨w1.heap.size, 1, none⟩ = some (.int .i64 3667) := by go_simp
  have m5_1_2 : w5.cell? ⟨w1.heap.size, 2, none⟩ = some (.bool false) := by go_simp
  have m5_2_0 : w5.cell? ⟨w4.heap.size + 1, 0, none⟩ = some (.int .i64 1189) := by go_simp
  have m5_2_1 : w5.cell? ⟨w4.heap.size + 1, 1, none⟩ = some (.int .i64 3667) := by go_simp
  have m5_2_2 : w5.cell? ⟨w4.heap.size + 1, 2, none⟩ = some (.bool false) := by go_simp
  clear m4_0_0 m4_0_1 m4_0_2 m4_1_0 m4_1_1 m4_1_2
  clear hc5
  go_wp2
  go_ret
  exact ⟨rfl, (by repeat (first | exact hB5 | exact Below.refl _ _ | refine balloc ?_ _ | refine Below.drew ?_ | refine below_drewN ?_ _ | refine below_set ?_ (by first | omega | (dsimp only; omega)) _))⟩
set_option maxHeartbeats 8000000 in
theorem ef_3 (x k : Int) (c : Sp) (w : World) (hF : FarAt w) (C1 S1 : Int) (h11 : Hid (ProveIs 1 1 ⟨1189, 3667, false⟩ ⟨1189, 3667, false⟩ ⟨1189, 3667, false⟩ C1 S1 .nilIface)) (l : Int) (hl : Hid (c = sq l)) (hI : Hid ((sq (l * 1013)).far = true)) (k1 : 1 ≤ k) (k2 : k < 1013) (A R P T Q : Sp) (C S N : Int) (c0 : 0 ≤ C) (c1 : C < 1013) (hP : Hid (ProveIs x k ⟨1189, 3667, false⟩ A A C S .nilIface)) (hV : Hid (VerIs A ⟨1189, 3667, false⟩ c C S (N == C))) (hR : Hid (sq (4 * k) = R)) (hs : Hid (sq (4 * S) = P)) (ht : Hid (sq (l * -C) = T)) (oP : Ok P) (oT : Ok T) (hQ : Hid (sSum P T = Q)) (h5 : Hid (∀ z ∈ [A, ⟨1189, 3667, false⟩, c, R, Q], Ok z)) (hN : Hid (ask5 [A, ⟨1189, 3667, false⟩, c, R, Q] = N)) : Calls Tryd.prog 6 #[.int .i64 x, .int .i64 k, spV c] w fun e w' => e = .returned (.bool true) ∧ Below w.heap.size w w' := by
  go_enter Tryd.func6, Tryd.ntmps6
  have eng : IntKind.i64.wrap (-C) = -C := IntWalk.i64_in _ (by omega)
  go_wp2_with fail
  refine (base_k _ (hF.below (by repeat (first | exact Below.refl _ _ | refine balloc ?_ _ | refine Below.drew ?_ | refine below_drewN ?_ _ | refine below_set ?_ (by first | omega | (dsimp only; omega)) _)))).mono ?_; rintro e w1 ⟨rfl, hb⟩
  obtain ⟨hc1, hf1⟩ := bcell hb
  have z1 := hb.size
  try simp only [World.size_alloc, World.size_setCell, World.size_drew] at z1
  have s1_0 : w.heap.size < w1.heap.size := by omega
  have hB1 : Below w.heap.size w w1 := below_seq (by repeat (first | exact Below.refl _ _ | refine balloc ?_ _ | refine Below.drew ?_ | refine below_drewN ?_ _ | refine below_set ?_ (by first | omega | (dsimp only; omega)) _)) hb
  clear hb
  have m1_0_0 : w1.cell? ⟨w.heap.size, 0, none⟩ = some (.int .i64 c.x) := by go_simp
  have m1_0_1 : w1.cell? ⟨w.heap.size, 1, none⟩ = some (.int .i64 c.y) := by go_simp
  have m1_0_2 : w1.cell? ⟨w.heap.size, 2, none⟩ = some (.bool c.far) := by go_simp
  clear hc1
  go_wp2_with fail
  refine (in_e c l true _ (hF.below (by repeat (first | exact hB1 | exact Below.refl _ _ | refine balloc ?_ _ | refine Below.drew ?_ | refine below_drewN ?_ _ | refine below_set ?_ (by first | omega | (dsimp only; omega)) _))) hl hI).mono ?_; rintro e w2 ⟨rfl, hb⟩
  obtain ⟨hc2, hf2⟩ := bcell hb
  have z2 := hb.size
  try simp only [World.size_alloc, World.size_setCell, World.size_drew] at z2
  have s2_0 : w.heap.size < w2.heap.size := by omega
  have s2_1 : w1.heap.size < w2.heap.size := by omega
  have hB2 : Below w.heap.size w w2 := below_seq (by repeat (first | exact hB1 | exact Below.refl _ _ | refine balloc ?_ _ | refine Below.drew ?_ | refine below_drewN ?_ _ | refine below_set ?_ (by first | omega | (dsimp only; omega)) _)) hb
  clear hb
  have m2_0_0 : w2.cell? ⟨w.heap.size, 0, none⟩ = some (.int .i64 c.x) := by go_simp
  have m2_0_1 : w2.cell? ⟨w.heap.size, 1, none⟩ = some (.int .i64 c.y) := by go_simp
  have m2_0_2 : w2.cell? ⟨w.heap.size, 2, none⟩ = some (.bool c.far) := by go_simp
  have m2_1_0 : w2.cell? ⟨w1.heap.size, 0, none⟩ = some (.int .i64 1189) := by go_simp
  have m2_1_1 : w2.cell? ⟨w1.heap.size, 1, none⟩ = some (.int .i64 3667) := by go_simp
  have m2_1_2 : w2.cell? ⟨w1.heap.size, 2, none⟩ = some (.bool false) := by go_simp
  clear m1_0_0 m1_0_1 m1_0_2
  clear hc2
  go_wp2_with fail
  refine (hP.out _ (hF.below (by repeat (first | exact hB2 | exact Below.refl _ _ | refine balloc ?_ _ | refine Below.drew ?_ | refine below_drewN ?_ _ | refine below_set ?_ (by first | omega | (dsimp only; omega)) _)))).mono ?_; rintro e w3 ⟨rfl, hb⟩
  obtain ⟨hc3, hf3⟩ := bcell hb
  have z3 := hb.size
  try simp only [World.size_alloc, World.size_setCell, World.size_drew] at z3
  have s3_0 : w.heap.size < w3.heap.size := by omega
  have s3_1 : w1.heap.size < w3.heap.size := by omega
  have hB3 : Below w.heap.size w w3 := below_seq (by repeat (first | exact hB2 | exact Below.refl _ _ | refine balloc ?_ _ | refine Below.drew ?_ | refine below_drewN ?_ _ | refine below_set ?_ (by first | omega | (dsimp only; omega)) _)) hb
  clear hb
  have m3_0_0 : w3.cell? ⟨w.heap.size, 0, none⟩ = some (.int .i64 c.x) := by go_simp
  have m3_0_1 : w3.cell? ⟨w.heap.size, 1, none⟩ = some (.int .i64 c.y) := by go_simp
  have m3_0_2 : w3.cell? ⟨w.heap.size, 2, none⟩ = some (.bool c.far) := by go_simp
  have m3_1_0 : w3.cell? ⟨w1.heap.size, 0, none⟩ = some (.int .i64 1189) := by go_simp
  have m3_1_1 : w3.cell? ⟨w1.heap.size, 1, none⟩ = some (.int .i64 3667) := by go_simp
  have m3_1_2 : w3.cell? ⟨w1.heap.size, 2, none⟩ = some (.bool false) := by go_simp
  clear m2_0_0 m2_0_1 m2_0_2 m2_1_0 m2_1_1 m2_1_2
  clear hc3
  go_wp2_with fail
  refine (h11.out _ (hF.below (by repeat (first | exact hB3 | exact Below.refl _ _ | refine balloc ?_ _ | refine Below.drew ?_ | refine below_drewN ?_ _ | refine below_set ?_ (by first | omega | (dsimp only; omega)) _)))).mono ?_; rintro e w4 ⟨rfl, hb⟩
  obtain ⟨hc4, hf4⟩ := bcell hb
  have z4 := hb.size
  try simp only [World.size_alloc, World.size_setCell, World.size_drew] at z4
  have s4_0 : w.heap.size < w4.heap.size := by omega
  have s4_1 : w1.heap.size < w4.heap.size := by omega
  have s4_2 : w3.heap.size < w4.heap.size := by omega
  have s4_3 : w3.heap.size + 1 < w4.heap.size := by omega
  have s4_4 : w3.heap.size + 1 + 1 < w4.heap.size := by omega
  have hB4 : Below w.heap.size w w4 := below_seq (by repeat (first | exact hB3 | exact Below.refl _ _ | refine balloc ?_ _ | refine Below.drew ?_ | refine below_drewN ?_ _ | refine below_set ?_ (by first | omega | (dsimp only; omega)) _)) hb
  clear hb
  have m4_0_0 : w4.cell? ⟨w.heap.size, 0, none⟩ = some (.int .i64 c.x) := by go_simp
  have m4_0_1 : w4.cell? ⟨w.heap.size, 1, none⟩ = some (.int .i64 c.y) := by go_simp
  have m4_0_2 : w4.cell? ⟨w.heap.size, 2, none⟩ = some (.bool c.far) := by go_simp
  have m4_1_0 : w4.cell? ⟨w1.heap.size, 0, none⟩ = some (.int .i64 1189) := by go_simp
  have m4_1_1 : w4.cell? ⟨w1.heap.size, 1, none⟩ = some (.int .i64 3667) := by go_simp
  have m4_1_2 : w4.cell? ⟨w1.heap.size, 2, none⟩ = some (.bool false) := by go_simp
  have m4_2_0 : w4.cell? ⟨w3.heap.size, 0, none⟩ = some (.int .i64 A.x) := by go_simp
  have m4_2_1 : w4.cell? ⟨w3.heap.size, 1, none⟩ = some (.int .i64 A.y) := by go_simp
  have m4_2_2 : w4.cell? ⟨w3.heap.size, 2, none⟩ = some (.bool A.far) := by go_simp
  have m4_3_0 : w4.cell? ⟨w3.heap.size + 1, 0, none⟩ = some (.int .i64 A.x) := by go_simp
  have m4_3_1 : w4.cell? ⟨w3.heap.size + 1, 1, none⟩ = some (.int .i64 A.y) := by go_simp
  have m4_3_2 : w4.cell? ⟨w3.heap.size + 1, 2, none⟩ = some (.bool A.far) := by go_simp
  have m4_4_0 : w4.cell? ⟨w3.heap.size + 1 + 1, 0, none⟩ = some (.int .i64 C) := by go_simp
  have m4_4_1 : w4.cell? ⟨w3.heap.size + 1 + 1, 1, none⟩ = some (.int .i64 S) := by go_simp
  clear m3_0_0 m3_0_1 m3_0_2 m3_1_0 m3_1_1 m3_1_2
  clear hc4
  go_wp2_with fail
  refine (in_e ⟨1189, 3667, false⟩ 4 true _ (hF.below (by repeat (first | exact hB4 | exact Below.refl _ _ | refine balloc ?_ _ | refine Below.drew ?_ | refine below_drewN ?_ _ | refine below_set ?_ (by first | omega | (dsimp only; omega)) _))) sq_4.symm in4).mono ?_; rintro e w5 ⟨rfl, hb⟩
  obtain ⟨hc5, hf5⟩ := bcell hb
  have z5 := hb.size
  try simp only [World.size_alloc, World.size_setCell, World.size_drew] at z5
  have s5_0 : w.heap.size < w5.heap.size := by omega
  have s5_1 : w1.heap.size < w5.heap.size := by omega
  have s5_2 : w3.heap.size < w5.heap.size := by omega
  have s5_3 : w3.heap.size + 1 < w5.heap.size := by omega
  have s5_4 : w3.heap.size + 1 + 1 < w5.heap.size := by omega
  have s5_5 : w4.heap.size < w5.heap.size := by omega
  have s5_6 : w4.heap.size + 1 < w5.heap.size := by omega
  have s5_7 : w4.heap.size + 1 + 1 < w5.heap.size := by omega
  have hB5 : Below w.heap.size w w5 := below_seq (by repeat (first | exact hB4 | exact Below.refl _ _ | refine balloc ?_ _ | refine Below.drew ?_ | refine below_drewN ?_ _ | refine below_set ?_ (by first | omega | (dsimp only; omega)) _)) hb
  clear hb
  have m5_0_0 : w5.cell? ⟨w.heap.size, 0, none⟩ = some (.int .i64 c.x) := by go_simp
  have m5_0_1 : w5.cell? ⟨w.heap.size, 1, none⟩ = some (.int .i64 c.y) := by go_simp
  have m5_0_2 : w5.cell? ⟨w.heap.size, 2, none⟩ = some (.bool c.far) := by go_simp
  have m5_1_0 : w5.cell? ⟨w1.heap.size, 0, none⟩ = some (.int .i64 1189) := by go_simp
  have m5_1_1 : w5.cell? ⟨w1.heap.size, 1, none⟩ = some (.int .i64 3667) := by go_simp
  have m5_1_2 : w5.cell? ⟨w1.heap.size, 2, none⟩ = some (.bool false) := by go_simp
  have m5_2_0 : w5.cell? ⟨w3.heap.size, 0, none⟩ = some (.int .i64 A.x) := by go_simp
  have m5_2_1 : w5.cell? ⟨w3.heap.size, 1, none⟩ = some (.int .i64 A.y) := by go_simp
  have m5_2_2 : w5.cell? ⟨w3.heap.size, 2, none⟩ = some (.bool A.far) := by go_simp
  have m5_3_0 : w5.cell? ⟨w3.heap.size + 1, 0, none⟩ = some (.int .i64 A.x) := by go_simp
  have m5_3_1 : w5.cell? ⟨w3.heap.size + 1, 1, none⟩ = some (.int .i64 A.y) := by go_simp
  have m5_3_2 : w5.cell? ⟨w3.heap.size + 1, 2, none⟩ = some (.bool A.far) := by go_simp
  have m5_4_0 : w5.cell? ⟨w3.heap.size + 1 + 1, 0, none⟩ = some (.int .i64 C) := by go_simp
  have m5_4_1 : w5.cell? ⟨w3.heap.size + 1 + 1, 1, none⟩ = some (.int .i64 S) := by go_simp
  have m5_5_0 : w5.cell? ⟨w4.heap.size + 1, 0, none⟩ = some (.int .i64 1189) := by go_simp
  have m5_5_1 : w5.cell? ⟨w4.heap.size + 1, 1, none⟩ = some (.int .i64 3667) := by go_simp
  have m5_5_2 : w5.cell? ⟨w4.heap.size + 1, 2, none⟩ = some (.bool false) := by go_simp
  clear m4_0_0 m4_0_1 m4_0_2 m4_1_0 m4_1_1 m4_1_2 m4_2_0 m4_2_1 m4_2_2 m4_3_0 m4_3_1 m4_3_2 m4_4_0 m4_4_1
  clear hc5
  go_wp2_with fail
  refine (hV.out _ (hF.below (by repeat (first | exact hB5 | exact Below.refl _ _ | refine balloc ?_ _ | refine Below.drew ?_ | refine below_drewN ?_ _ | refine below_set ?_ (by first | omega | (dsimp only; omega)) _)))).mono ?_; rintro e w6 ⟨rfl, hb⟩
  obtain ⟨hc6, hf6⟩ := bcell hb
  have z6 := hb.size
  try simp only [World.size_alloc, World.size_setCell, World.size_drew] at z6
  have s6_0 : w.heap.size < w6.heap.size := by omega
  have s6_1 : w1.heap.size < w6.heap.size := by omega
  have s6_2 : w3.heap.size < w6.heap.size := by omega
  have s6_3 : w3.heap.size + 1 < w6.heap.size := by omega
  have s6_4 : w3.heap.size + 1 + 1 < w6.heap.size := by omega
  have s6_5 : w4.heap.size < w6.heap.size := by omega
  have s6_6 : w4.heap.size + 1 < w6.heap.size := by omega
  have s6_7 : w4.heap.size + 1 + 1 < w6.heap.size := by omega
  have hB6 : Below w.heap.size w w6 := below_seq (by repeat (first | exact hB5 | exact Below.refl _ _ | refine balloc ?_ _ | refine Below.drew ?_ | refine below_drewN ?_ _ | refine below_set ?_ (by first | omega | (dsimp only; omega)) _)) hb
  clear hb
  have m6_0_0 : w6.cell? ⟨w.heap.size, 0, none⟩ = some (.int .i64 c.x) := by go_simp
  have m6_0_1 : w6.cell? ⟨w.heap.size, 1, none⟩ = some (.int .i64 c.y) := by go_simp
  have m6_0_2 : w6.cell? ⟨w.heap.size, 2, none⟩ = some (.bool c.far) := by go_simp
  have m6_1_0 : w6.cell? ⟨w1.heap.size, 0, none⟩ = some (.int .i64 1189) := by go_simp
  have m6_1_1 : w6.cell? ⟨w1.heap.size, 1, none⟩ = some (.int .i64 3667) := by go_simp
  have m6_1_2 : w6.cell? ⟨w1.heap.size, 2, none⟩ = some (.bool false) := by go_simp
  have m6_2_0 : w6.cell? ⟨w3.heap.size, 0, none⟩ = some (.int .i64 A.x) := by go_simp
  have m6_2_1 : w6.cell? ⟨w3.heap.size, 1, none⟩ = some (.int .i64 A.y) := by go_simp
  have m6_2_2 : w6.cell? ⟨w3.heap.size, 2, none⟩ = some (.bool A.far) := by go_simp
  have m6_3_0 : w6.cell? ⟨w3.heap.size + 1, 0, none⟩ = some (.int .i64 A.x) := by go_simp
  have m6_3_1 : w6.cell? ⟨w3.heap.size + 1, 1, none⟩ = some (.int .i64 A.y) := by go_simp
  have m6_3_2 : w6.cell? ⟨w3.heap.size + 1, 2, none⟩ = some (.bool A.far) := by go_simp
  have m6_4_0 : w6.cell? ⟨w3.heap.size + 1 + 1, 0, none⟩ = some (.int .i64 C) := by go_simp
  have m6_4_1 : w6.cell? ⟨w3.heap.size + 1 + 1, 1, none⟩ = some (.int .i64 S) := by go_simp
  have m6_5_0 : w6.cell? ⟨w4.heap.size + 1, 0, none⟩ = some (.int .i64 1189) := by go_simp
  have m6_5_1 : w6.cell? ⟨w4.heap.size + 1, 1, none⟩ = some (.int .i64 3667) := by go_simp
  have m6_5_2 : w6.cell? ⟨w4.heap.size + 1, 2, none⟩ = some (.bool false) := by go_simp
  clear m5_0_0 m5_0_1 m5_0_2 m5_1_0 m5_1_1 m5_1_2 m5_2_0 m5_2_1 m5_2_2 m5_3_0 m5_3_1 m5_3_2 m5_4_0 m5_4_1 m5_5_0 m5_5_1 m5_5_2
  clear hc6
  go_wp2_with fail
  refine (key_e k R _ (hF.below (by repeat (first | exact hB6 | exact Below.refl _ _ | refine balloc ?_ _ | refine Below.drew ?_ | refine below_drewN ?_ _ | refine below_set ?_ (by first | omega | (dsimp only; omega)) _))) k1 k2 hR).mono ?_; rintro e w7 ⟨rfl, hb⟩
  obtain ⟨hc7, hf7⟩ := bcell hb
  have z7 := hb.size
  try simp only [World.size_alloc, World.size_setCell, World.size_drew] at z7
  have s7_0 : w.heap.size < w7.heap.size := by omega
  have s7_1 : w1.heap.size < w7.heap.size := by omega
  have s7_2 : w3.heap.size < w7.heap.size := by omega
  have s7_3 : w3.heap.size + 1 < w7.heap.size := by omega
  have s7_4 : w3.heap.size + 1 + 1 < w7.heap.size := by omega
  have s7_5 : w4.heap.size < w7.heap.size := by omega
  have s7_6 : w4.heap.size + 1 < w7.heap.size := by omega
  have s7_7 : w4.heap.size + 1 + 1 < w7.heap.size := by omega
  have hB7 : Below w.heap.size w w7 := below_seq (by repeat (first | exact hB6 | exact Below.refl _ _ | refine balloc ?_ _ | refine Below.drew ?_ | refine below_drewN ?_ _ | refine below_set ?_ (by first | omega | (dsimp only; omega)) _)) hb
  clear hb
  have m7_0_0 : w7.cell? ⟨w.heap.size, 0, none⟩ = some (.int .i64 c.x) := by go_simp
  have m7_0_1 : w7.cell? ⟨w.heap.size, 1, none⟩ = some (.int .i64 c.y) := by go_simp
  have m7_0_2 : w7.cell? ⟨w.heap.size, 2, none⟩ = some (.bool c.far) := by go_simp
  have m7_1_0 : w7.cell? ⟨w1.heap.size, 0, none⟩ = some (.int .i64 1189) := by go_simp
  have m7_1_1 : w7.cell? ⟨w1.heap.size, 1, none⟩ = some (.int .i64 3667) := by go_simp
  have m7_1_2 : w7.cell? ⟨w1.heap.size, 2, none⟩ = some (.bool false) := by go_simp
  have m7_2_0 : w7.cell? ⟨w3.heap.size, 0, none⟩ = some (.int .i64 A.x) := by go_simp
  have m7_2_1 : w7.cell? ⟨w3.heap.size, 1, none⟩ = some (.int .i64 A.y) := by go_simp
  have m7_2_2 : w7.cell? ⟨w3.heap.size, 2, none⟩ = some (.bool A.far) := by go_simp
  have m7_3_0 : w7.cell? ⟨w3.heap.size + 1, 0, none⟩ = some (.int .i64 A.x) := by go_simp
  have m7_3_1 : w7.cell? ⟨w3.heap.size + 1, 1, none⟩ = some (.int .i64 A.y) := by go_simp
  have m7_3_2 : w7.cell? ⟨w3.heap.size + 1, 2, none⟩ = some (.bool A.far) := by go_simp
  have m7_4_0 : w7.cell? ⟨w3.heap.size + 1 + 1, 0, none⟩ = some (.int .i64 C) := by go_simp
  have m7_4_1 : w7.cell? ⟨w3.heap.size + 1 + 1, 1, none⟩ = some (.int .i64 S) := by go_simp
  have m7_5_0 : w7.cell? ⟨w4.heap.size + 1, 0, none⟩ = some (.int .i64 1189) := by go_simp
  have m7_5_1 : w7.cell? ⟨w4.heap.size + 1, 1, none⟩ = some (.int .i64 3667) := by go_simp
  have m7_5_2 : w7.cell? ⟨w4.heap.size + 1, 2, none⟩ = some (.bool false) := by go_simp
  clear m6_0_0 m6_0_1 m6_0_2 m6_1_0 m6_1_1 m6_1_2 m6_2_0 m6_2_1 m6_2_2 m6_3_0 m6_3_1 m6_3_2 m6_4_0 m6_4_1 m6_5_0 m6_5_1 m6_5_2
  clear hc7
  go_wp2_with fail
  refine (times_e ⟨1189, 3667, false⟩ P 4 S _ (hF.below (by repeat (first | exact hB7 | exact Below.refl _ _ | refine balloc ?_ _ | refine Below.drew ?_ | refine below_drewN ?_ _ | refine below_set ?_ (by first | omega | (dsimp only; omega)) _))) sq_4.symm hs).mono ?_; rintro e w8 ⟨rfl, hb⟩
  obtain ⟨hc8, hf8⟩ := bcell hb
  have z8 := hb.size
  try simp only [World.size_alloc, World.size_setCell, World.size_drew] at z8
  have s8_0 : w.heap.size < w8.heap.size := by omega
  have s8_1 : w1.heap.size < w8.heap.size := by omega
  have s8_2 : w3.heap.size < w8.heap.size := by omega
  have s8_3 : w3.heap.size + 1 < w8.heap.size := by omega
  have s8_4 : w3.heap.size + 1 + 1 < w8.heap.size := by omega
  have s8_5 : w4.heap.size < w8.heap.size := by omega
  have s8_6 : w4.heap.size + 1 < w8.heap.size := by omega
  have s8_7 : w4.heap.size + 1 + 1 < w8.heap.size := by omega
  have s8_8 : w7.heap.size < w8.heap.size := by omega
  have hB8 : Below w.heap.size w w8 := below_seq (by repeat (first | exact hB7 | exact Below.refl _ _ | refine balloc ?_ _ | refine Below.drew ?_ | refine below_drewN ?_ _ | refine below_set ?_ (by first | omega | (dsimp only; omega)) _)) hb
  clear hb
  have m8_0_0 : w8.cell? ⟨w.heap.size, 0, none⟩ = some (.int .i64 c.x) := by go_simp
  have m8_0_1 : w8.cell? ⟨w.heap.size, 1, none⟩ = some (.int .i64 c.y) := by go_simp
  have m8_0_2 : w8.cell? ⟨w.heap.size, 2, none⟩ = some (.bool c.far) := by go_simp
  have m8_1_0 : w8.cell? ⟨w1.heap.size, 0, none⟩ = some (.int .i64 1189) := by go_simp
  have m8_1_1 : w8.cell? ⟨w1.heap.size, 1, none⟩ = some (.int .i64 3667) := by go_simp
  have m8_1_2 : w8.cell? ⟨w1.heap.size, 2, none⟩ = some (.bool false) := by go_simp
  have m8_2_0 : w8.cell? ⟨w3.heap.size, 0, none⟩ = some (.int .i64 A.x) := by go_simp
  have m8_2_1 : w8.cell? ⟨w3.heap.size, 1, none⟩ = some (.int .i64 A.y) := by go_simp
  have m8_2_2 : w8.cell? ⟨w3.heap.size, 2, none⟩ = some (.bool A.far) := by go_simp
  have m8_3_0 : w8.cell? ⟨w3.heap.size + 1, 0, none⟩ = some (.int .i64 A.x) := by go_simp
  have m8_3_1 : w8.cell? ⟨w3.heap.size + 1, 1, none⟩ = some (.int .i64 A.y) := by go_simp
  have m8_3_2 : w8.cell? ⟨w3.heap.size + 1, 2, none⟩ = some (.bool A.far) := by go_simp
  have m8_4_0 : w8.cell? ⟨w3.heap.size + 1 + 1, 0, none⟩ = some (.int .i64 C) := by go_simp
  have m8_4_1 : w8.cell? ⟨w3.heap.size + 1 + 1, 1, none⟩ = some (.int .i64 S) := by go_simp
  have m8_5_0 : w8.cell? ⟨w4.heap.size + 1, 0, none⟩ = some (.int .i64 1189) := by go_simp
  have m8_5_1 : w8.cell? ⟨w4.heap.size + 1, 1, none⟩ = some (.int .i64 3667) := by go_simp
  have m8_5_2 : w8.cell? ⟨w4.heap.size + 1, 2, none⟩ = some (.bool false) := by go_simp
  have m8_6_0 : w8.cell? ⟨w7.heap.size, 0, none⟩ = some (.int .i64 R.x) := by go_simp
  have m8_6_1 : w8.cell? ⟨w7.heap.size, 1, none⟩ = some (.int .i64 R.y) := by go_simp
  have m8_6_2 : w8.cell? ⟨w7.heap.size, 2, none⟩ = some (.bool R.far) := by go_simp
  clear m7_0_0 m7_0_1 m7_0_2 m7_1_0 m7_1_1 m7_1_2 m7_2_0 m7_2_1 m7_2_2 m7_3_0 m7_3_1 m7_3_2 m7_4_0 m7_4_1 m7_5_0 m7_5_1 m7_5_2
  clear hc8
  go_wp2_with fail
  refine (times_e c T l (-C) _ (hF.below (by repeat (first | exact hB8 | exact Below.refl _ _ | refine balloc ?_ _ | refine Below.drew ?_ | refine below_drewN ?_ _ | refine below_set ?_ (by first | omega | (dsimp only; omega)) _))) hl ht).mono ?_; rintro e w9 ⟨rfl, hb⟩
  obtain ⟨hc9, hf9⟩ := bcell hb
  have z9 := hb.size
  try simp only [World.size_alloc, World.size_setCell, World.size_drew] at z9
  have s9_0 : w.heap.size < w9.heap.size := by omega
  have s9_1 : w1.heap.size < w9.heap.size := by omega
  have s9_2 : w3.heap.size < w9.heap.size := by omega
  have s9_3 : w3.heap.size + 1 < w9.heap.size := by omega
  have s9_4 : w3.heap.size + 1 + 1 < w9.heap.size := by omega
  have s9_5 : w4.heap.size < w9.heap.size := by omega
  have s9_6 : w4.heap.size + 1 < w9.heap.size := by omega
  have s9_7 : w4.heap.size + 1 + 1 < w9.heap.size := by omega
  have s9_8 : w7.heap.size < w9.heap.size := by omega
  have s9_9 : w8.heap.size < w9.heap.size := by omega
  have hB9 : Below w.heap.size w w9 := below_seq (by repeat (first | exact hB8 | exact Below.refl _ _ | refine balloc ?_ _ | refine Below.drew ?_ | refine below_drewN ?_ _ | refine below_set ?_ (by first | omega | (dsimp only; omega)) _)) hb
  clear hb
  have m9_0_0 : w9.cell? ⟨w.heap.size, 0, none⟩ = some (.int .i64 c.x) := by go_simp
  have m9_0_1 : w9.cell? ⟨w.heap.size, 1, none⟩ = some (.int .i64 c.y) := by go_simp
  have m9_0_2 : w9.cell? ⟨w.heap.size, 2, none⟩ = some (.bool c.far) := by go_simp
  have m9_1_0 : w9.cell? ⟨w1.heap.size, 0, none⟩ = some (.int .i64 1189) := by go_simp
  have m9_1_1 : w9.cell? ⟨w1.heap.size, 1, none⟩ = some (.int .i64 3667) := by go_simp
  have m9_1_2 : w9.cell? ⟨w1.heap.size, 2, none⟩ = some (.bool false) := by go_simp
  have m9_2_0 : w9.cell? ⟨w3.heap.size, 0, none⟩ = some (.int .i64 A.x) := by go_simp
  have m9_2_1 : w9.cell? ⟨w3.heap.size, 1, none⟩ = some (.int .i64 A.y) := by go_simp
  have m9_2_2 : w9.cell? ⟨w3.heap.size, 2, none⟩ = some (.bool A.far) := by go_simp
  have m9_3_0 : w9.cell? ⟨w3.heap.size + 1, 0, none⟩ = some (.int .i64 A.x) := by go_simp
  have m9_3_1 : w9.cell? ⟨w3.heap.size + 1, 1, none⟩ = some (.int .i64 A.y) := by go_simp
  have m9_3_2 : w9.cell? ⟨w3.heap.size + 1, 2, none⟩ = some (.bool A.far) := by go_simp
  have m9_4_0 : w9.cell? ⟨w3.heap.size + 1 + 1, 0, none⟩ = some (.int .i64 C) := by go_simp
  have m9_4_1 : w9.cell? ⟨w3.heap.size + 1 + 1, 1, none⟩ = some (.int .i64 S) := by go_simp
  have m9_5_0 : w9.cell? ⟨w4.heap.size + 1, 0, none⟩ = some (.int .i64 1189) := by go_simp
  have m9_5_1 : w9.cell? ⟨w4.heap.size + 1, 1, none⟩ = some (.int .i64 3667) := by go_simp
  have m9_5_2 : w9.cell? ⟨w4.heap.size + 1, 2, none⟩ = some (.bool false) := by go_simp
  have m9_6_0 : w9.cell? ⟨w7.heap.size, 0, none⟩ = some (.int .i64 R.x) := by go_simp
  have m9_6_1 : w9.cell? ⟨w7.heap.size, 1, none⟩ = some (.int .i64 R.y) := by go_simp
  have m9_6_2 : w9.cell? ⟨w7.heap.size, 2, none⟩ = some (.bool R.far) := by go_simp
  have m9_7_0 : w9.cell? ⟨w8.heap.size, 0, none⟩ = some (.int .i64 P.x) := by go_simp
  have m9_7_1 : w9.cell? ⟨w8.heap.size, 1, none⟩ = some (.int .i64 P.y) := by go_simp
  have m9_7_2 : w9.cell? ⟨w8.heap.size, 2, none⟩ = some (.bool P.far) := by go_simp
  clear m8_0_0 m8_0_1 m8_0_2 m8_1_0 m8_1_1 m8_1_2 m8_2_0 m8_2_1 m8_2_2 m8_3_0 m8_3_1 m8_3_2 m8_4_0 m8_4_1 m8_5_0 m8_5_1 m8_5_2 m8_6_0 m8_6_1 m8_6_2
  clear hc9
  go_wp2_with fail
  refine (add_e P T Q _ (hF.below (by repeat (first | exact hB9 | exact Below.refl _ _ | refine balloc ?_ _ | refine Below.drew ?_ | refine below_drewN ?_ _ | refine below_set ?_ (by first | omega | (dsimp only; omega)) _))) oP oT hQ).mono ?_; rintro e w10 ⟨rfl, hb⟩
  obtain ⟨hc10, hf10⟩ := bcell hb
  have z10 := hb.size
  try simp only [World.size_alloc, World.size_setCell, World.size_drew] at z10
  have s10_0 : w.heap.size < w10.heap.size := by omega
  have s10_1 : w1.heap.size < w10.heap.size := by omega
  have s10_2 : w3.heap.size < w10.heap.size := by omega
  have s10_3 : w3.heap.size + 1 < w10.heap.size := by omega
  have s10_4 : w3.heap.size + 1 + 1 < w10.heap.size := by omega
  have s10_5 : w4.heap.size < w10.heap.size := by omega
  have s10_6 : w4.heap.size + 1 < w10.heap.size := by omega
  have s10_7 : w4.heap.size + 1 + 1 < w10.heap.size := by omega
  have s10_8 : w7.heap.size < w10.heap.size := by omega
  have s10_9 : w8.heap.size < w10.heap.size := by omega
  have s10_10 : w9.heap.size < w10.heap.size := by omega
  have hB10 : Below w.heap.size w w10 := below_seq (by repeat (first | exact hB9 | exact Below.refl _ _ | refine balloc ?_ _ | refine Below.drew ?_ | refine below_drewN ?_ _ | refine below_set ?_ (by first | omega | (dsimp only; omega)) _)) hb
  clear hb
  have m10_0_0 : w10.cell? ⟨w.heap.size, 0, none⟩ = some (.int .i64 c.x) := by go_simp
  have m10_0_1 : w10.cell? ⟨w.heap.size, 1, none⟩ = some (.int .i64 c.y) := by go_simp
  have m10_0_2 : w10.cell? ⟨w.heap.size, 2, none⟩ = some (.bool c.far) := by go_simp
  have m10_1_0 : w10.cell? ⟨w1.heap.size, 0, none⟩ = some (.int .i64 1189) := by go_simp
  have m10_1_1 : w10.cell? ⟨w1.heap.size, 1, none⟩ = some (.int .i64 3667) := by go_simp
  have m10_1_2 : w10.cell? ⟨w1.heap.size, 2, none⟩ = some (.bool false) := by go_simp
  have m10_2_0 : w10.cell? ⟨w3.heap.size, 0, none⟩ = some (.int .i64 A.x) := by go_simp
  have m10_2_1 : w10.cell? ⟨w3.heap.size, 1, none⟩ = some (.int .i64 A.y) := by go_simp
  have m10_2_2 : w10.cell? ⟨w3.heap.size, 2, none⟩ = some (.bool A.far) := by go_simp
  have m10_3_0 : w10.cell? ⟨w3.heap.size + 1, 0, none⟩ = some (.int .i64 A.x) := by go_simp
  have m10_3_1 : w10.cell? ⟨w3.heap.size + 1, 1, none⟩ = some (.int .i64 A.y) := by go_simp
  have m10_3_2 : w10.cell? ⟨w3.heap.size + 1, 2, none⟩ = some (.bool A.far) := by go_simp
  have m10_4_0 : w10.cell? ⟨w3.heap.size + 1 + 1, 0, none⟩ = some (.int .i64 C) := by go_simp
  have m10_4_1 : w10.cell? ⟨w3.heap.size + 1 + 1, 1, none⟩ = some (.int .i64 S) := by go_simp
  have m10_5_0 : w10.cell? ⟨w4.heap.size + 1, 0, none⟩ = some (.int .i64 1189) := by go_simp
  have m10_5_1 : w10.cell? ⟨w4.heap.size + 1, 1, none⟩ = some (.int .i64 3667) := by go_simp
  have m10_5_2 : w10.cell? ⟨w4.heap.size + 1, 2, none⟩ = some (.bool false) := by go_simp
  have m10_6_0 : w10.cell? ⟨w7.heap.size, 0, none⟩ = some (.int .i64 R.x) := by go_simp
  have m10_6_1 : w10.cell? ⟨w7.heap.size, 1, none⟩ = some (.int .i64 R.y) := by go_simp
  have m10_6_2 : w10.cell? ⟨w7.heap.size, 2, none⟩ = some (.bool R.far) := by go_simp
  have m10_7_0 : w10.cell? ⟨w8.heap.size, 0, none⟩ = some (.int .i64 P.x) := by go_simp
  have m10_7_1 : w10.cell? ⟨w8.heap.size, 1, none⟩ = some (.int .i64 P.y) := by go_simp
  have m10_7_2 : w10.cell? ⟨w8.heap.size, 2, none⟩ = some (.bool P.far) := by go_simp
  have m10_8_0 : w10.cell? ⟨w9.heap.size, 0, none⟩ = some (.int .i64 T.x) := by go_simp
  have m10_8_1 : w10.cell? ⟨w9.heap.size, 1, none⟩ = some (.int .i64 T.y) := by go_simp
  have m10_8_2 : w10.cell? ⟨w9.heap.size, 2, none⟩ = some (.bool T.far) := by go_simp
  clear m9_0_0 m9_0_1 m9_0_2 m9_1_0 m9_1_1 m9_1_2 m9_2_0 m9_2_1 m9_2_2 m9_3_0 m9_3_1 m9_3_2 m9_4_0 m9_4_1 m9_5_0 m9_5_1 m9_5_2 m9_6_0 m9_6_1 m9_6_2 m9_7_0 m9_7_1 m9_7_2
  clear hc10
  go_wp2_with fail
  refine (eqAsk_e A ⟨1189, 3667, false⟩ c R Q N _ (hF.below (by repeat (first | exact hB10 | exact Below.refl _ _ | refine balloc ?_ _ | refine Below.drew ?_ | refine below_drewN ?_ _ | refine below_set ?_ (by first | omega | (dsimp only; omega)) _))) h5 hN).mono ?_; rintro e w11 ⟨rfl, hb⟩
  obtain ⟨hc11, hf11⟩ := bcell hb
  have z11 := hb.size
  try simp only [World.size_alloc, World.size_setCell, World.size_drew] at z11
  have s11_0 : w.heap.size < w11.heap.size := by omega
  have s11_1 : w1.heap.size < w11.heap.size := by omega
  have s11_2 : w3.heap.size < w11.heap.size := by omega
  have s11_3 : w3.heap.size + 1 < w11.heap.size := by omega
  have s11_4 : w3.heap.size + 1 + 1 < w11.heap.size := by omega
  have s11_5 : w4.heap.size < w11.heap.size := by omega
  have s11_6 : w4.heap.size + 1 < w11.heap.size := by omega
  have s11_7 : w4.heap.size + 1 + 1 < w11.heap.size := by omega
  have s11_8 : w7.heap.size < w11.heap.size := by omega
  have s11_9 : w8.heap.size < w11.heap.size := by omega
  have s11_10 : w9.heap.size < w11.heap.size := by omega
  have s11_11 : w10.heap.size < w11.heap.size := by omega
  have hB11 : Below w.heap.size w w11 := below_seq (by repeat (first | exact hB10 | exact Below.refl _ _ | refine balloc ?_ _ | refine Below.drew ?_ | refine below_drewN ?_ _ | refine below_set ?_ (by first | omega | (dsimp only; omega)) _)) hb
  clear hb
  have m11_0_0 : w11.cell? ⟨w.heap.size, 0, none⟩ = some (.int .i64 c.x) := by go_simp
  have m11_0_1 : w11.cell? ⟨w.heap.size, 1, none⟩ = some (.int .i64 c.y) := by go_simp
  have m11_0_2 : w11.cell? ⟨w.heap.size, 2, none⟩ = some (.bool c.far) := by go_simp
  have m11_1_0 : w11.cell? ⟨w1.heap.size, 0, none⟩ = some (.int .i64 1189) := by go_simp
  have m11_1_1 : w11.cell? ⟨w1.heap.size, 1, none⟩ = some (.int .i64 3667) := by go_simp
  have m11_1_2 : w11.cell? ⟨w1.heap.size, 2, none⟩ = some (.bool false) := by go_simp
  have m11_2_0 : w11.cell? ⟨w3.heap.size, 0, none⟩ = some (.int .i64 A.x) := by go_simp
  have m11_2_1 : w11.cell? ⟨w3.heap.size, 1, none⟩ = some (.int .i64 A.y) := by go_simp
  have m11_2_2 : w11.cell? ⟨w3.heap.size, 2, none⟩ = some (.bool A.far) := by go_simp
  have m11_3_0 : w11.cell? ⟨w3.heap.size + 1, 0, none⟩ = some (.int .i64 A.x) := by go_simp
  have m11_3_1 : w11.cell? ⟨w3.heap.size + 1, 1, none⟩ = some (.int .i64 A.y) := by go_simp
  have m11_3_2 : w11.cell? ⟨w3.heap.size + 1, 2, none⟩ = some (.bool A.far) := by go_simp
  have m11_4_0 : w11.cell? ⟨w3.heap.size + 1 + 1, 0, none⟩ = some (.int .i64 C) := by go_simp
  have m11_4_1 : w11.cell? ⟨w3.heap.size + 1 + 1, 1, none⟩ = some (.int .i64 S) := by go_simp
  have m11_5_0 : w11.cell? ⟨w4.heap.size + 1, 0, none⟩ = some (.int .i64 1189) := by go_simp
  have m11_5_1 : w11.cell? ⟨w4.heap.size + 1, 1, none⟩ = some (.int .i64 3667) := by go_simp
  have m11_5_2 : w11.cell? ⟨w4.heap.size + 1, 2, none⟩ = some (.bool false) := by go_simp
  have m11_6_0 : w11.cell? ⟨w7.heap.size, 0, none⟩ = some (.int .i64 R.x) := by go_simp
  have m11_6_1 : w11.cell? ⟨w7.heap.size, 1, none⟩ = some (.int .i64 R.y) := by go_simp
  have m11_6_2 : w11.cell? ⟨w7.heap.size, 2, none⟩ = some (.bool R.far) := by go_simp
  have m11_7_0 : w11.cell? ⟨w8.heap.size, 0, none⟩ = some (.int .i64 P.x) := by go_simp
  have m11_7_1 : w11.cell? ⟨w8.heap.size, 1, none⟩ = some (.int .i64 P.y) := by go_simp
  have m11_7_2 : w11.cell? ⟨w8.heap.size, 2, none⟩ = some (.bool P.far) := by go_simp
  have m11_8_0 : w11.cell? ⟨w9.heap.size, 0, none⟩ = some (.int .i64 T.x) := by go_simp
  have m11_8_1 : w11.cell? ⟨w9.heap.size, 1, none⟩ = some (.int .i64 T.y) := by go_simp
  have m11_8_2 : w11.cell? ⟨w9.heap.size, 2, none⟩ = some (.bool T.far) := by go_simp
  have m11_9_0 : w11.cell? ⟨w10.heap.size, 0, none⟩ = some (.int .i64 Q.x) := by go_simp
  have m11_9_1 : w11.cell? ⟨w10.heap.size, 1, none⟩ = some (.int .i64 Q.y) := by go_simp
  have m11_9_2 : w11.cell? ⟨w10.heap.size, 2, none⟩ = some (.bool Q.far) := by go_simp
  clear m10_0_0 m10_0_1 m10_0_2 m10_1_0 m10_1_1 m10_1_2 m10_2_0 m10_2_1 m10_2_2 m10_3_0 m10_3_1 m10_3_2 m10_4_0 m10_4_1 m10_5_0 m10_5_1 m10_5_2 m10_6_0 m10_6_1 m10_6_2 m10_7_0 m10_7_1 m10_7_2 m10_8_0 m10_8_1 m10_8_2
  clear hc11
  go_wp2
  go_ret
  exact ⟨rfl, (by repeat (first | exact hB11 | exact Below.refl _ _ | refine balloc ?_ _ | refine Below.drew ?_ | refine below_drewN ?_ _ | refine below_set ?_ (by first | omega | (dsimp only; omega)) _))⟩
theorem equalFalse_law (x : Int) (hx : (Lit.int .i64 x).wf = true) (k : Int) (hk : (Lit.int .i64 k).wf = true) (c : Sp) (w : World) (hF : FarAt w) : Calls Tryd.prog 6 #[.int .i64 x, .int .i64 k, spV c] w fun e w' => e = .returned (.bool true) ∧ Below w.heap.size w w' := by
  obtain ⟨C1, S1, h11⟩ := prove_11
  by_cases hx : 1 ≤ x ∧ x < 1013 ∧ 1 ≤ k ∧ k < 1013
  · have hP := prove_at x k 4 ⟨1189, 3667, false⟩ hx.1 hx.2.1 hx.2.2.1 hx.2.2.2 sq_4.symm
    by_cases c0 : sCheck c = 0
    · obtain ⟨l, -, -, e⟩ := sq_all ((ok_iff _).mp c0)
      cases hI : (sq (l * 1013)).far
      · exact ef_2 x k c w hF C1 S1 h11 l e hI _ _ _ _ hP
      · have bd : 0 ≤ ask5P x k 4 ⟨1189, 3667, false⟩ ∧ ask5P x k 4 ⟨1189, 3667, false⟩ < 1013 := ask5_bd _
        have hV := ver_at (sq (4 * x)) ⟨1189, 3667, false⟩ c (4 * x) 4 l (ask5P x k 4 ⟨1189, 3667, false⟩) ((k + ask5P x k 4 ⟨1189, 3667, false⟩ * x) % 1013) rfl sq_4.symm e bd.1 bd.2 (Int.emod_nonneg _ (by decide)) (Int.emod_lt_of_pos _ (by decide))
        have e1 : sq (4 * ((k + ask5P x k 4 ⟨1189, 3667, false⟩ * x) % 1013) + 4 * x * -ask5P x k 4 ⟨1189, 3667, false⟩) = sq (4 * k) := by
          apply sq_eq_iff.mpr
          rw [Int.mul_assoc, Int.mul_neg, Int.mul_comm x]
          generalize ask5P x k 4 ⟨1189, 3667, false⟩ * x = m
          omega
        rw [e1] at hV
        refine ef_3 x k c w hF C1 S1 h11 l e hI hx.2.2.1 hx.2.2.2 _ (sq (4 * k)) _ _ _ _ _ _ bd.1 bd.2 hP hV rfl rfl rfl (sq_ok _) (sq_ok _) (sq_add _ _) ?_ rfl
        show ∀ z ∈ [_, _, c, _, _], Ok z
        intro z hz
        simp only [List.mem_cons, List.not_mem_nil, or_false] at hz
        rcases hz with rfl | rfl | rfl | rfl | rfl <;> first | exact sq_ok _ | exact base_ok | exact ok_of e
    · exact ef_1 x k c w hF C1 S1 h11 _ rfl c0 _ _ _ _ hP
  · obtain ⟨I, E, hI⟩ := in_is c
    exact ef_0 x k c w hF C1 S1 h11 I E hI (prove_not x k ⟨1189, 3667, false⟩ base_ok hx)
end Go.Proofs.YtopcdihgkojjlaaDoor
namespace Go.Proofs.YtopcdihgkojjlaaDoor.equalFalse
open Go.ChangeShapes Go.WideShapes Go.ChangeAt Go.RowKit
set_option linter.unusedVariables false
theorem typesOk : ([3, 3, 37].all fun t => Tryd.prog.readableRec t && decide (t < Tryd.prog.types.size)) = true := by kernel_rfl
set_option maxRecDepth 100000 in
theorem lifted (os : Os) (started : os.Started) (H : Type) (enc : TypeId × Value → H) :
    ReturnsInHanded {} Tryd.checked os 6 .any (fun w args => (Rows.equalFalseSpec.pre enc Tryd.prog Tryd.f6 [] false w args ∧ laidMetH Tryd.prog farLaid w) ∧ sizedMet enc Tryd.prog Tryd.f6 (OpenSpec.ofChange Rows.equalFalseSpec) false w args)
      (Rows.equalFalseSpec.post enc Tryd.prog Tryd.f6 false true false false) := by
  refine returnsInHanded_of_change_and (C := Tryd.checked) (X := fun w _ => laidMetH Tryd.prog farLaid w) (fun _ _ _ hh h => h.of_heap hh) Tryd.ownK started (by kernel_rfl) Tryd.func6
    (ChangeSpec.witness_shaped (enc := enc) (C := Tryd.checked) (os := os) (X := fun w _ => laidMetH Tryd.prog farLaid w) false (World.doorLaid Tryd.prog 400 os) #[.int .i64 0, .int .i64 0, .agg #[.int .i64 0, .int .i64 0, .bool false]] 8 rfl (World.shaped_of_RefB (by kernel_rfl) (by kernel_rfl)) (by kernel_rfl) (by kernel_rfl) (by kernel_rfl) (farLaid_met os _)) ?_
  intro W base args ds gs before hval0 hW hcnd hsz0 hL hholds
  have hval : ∀ (j : Nat) t v, Tryd.f6.params[j]? = some t → args[j]? = some v → Value.okWide Tryd.prog W .any base t v := hval0
  have hW' := hW
  obtain ⟨p, q, hA0, hV, rfl, hfz, hnd⟩ := hW
  have hA : DataW.TrodAll enc Tryd.prog W 0 (fun _ => true) true Tryd.f6.params.toList args.toList ds p := hA0
  obtain ⟨rfl, rfl⟩ := trodVars_none hV
  simp only [List.append_nil] at hW'
  have hlt : ∀ x ∈ p, x.block < W.heap.size := fun x hx => hW'.lt x hx
  have hsz : (DataW.weightsEach Tryd.prog (Tryd.f6.params.toList ++ Rows.equalFalseSpec.plain.varTypes Tryd.prog) (ds ++ [])).all (· ≤ reachBytes) = true := hsz0
  rw [Tryd.params6] at hA hval hsz
  have hK := hA
  obtain ⟨v0, vs0, d0, ds0, p0, q0, hargs, rfl, rfl, h0, r0⟩ := trodAll_cons hA
  obtain ⟨v1, vs1, d1, ds1, p1, q1, rfl, rfl, rfl, h1, r1⟩ := trodAll_cons r0
  obtain ⟨v2, vs2, d2, ds2, p2, q2, rfl, rfl, rfl, h2, r2⟩ := trodAll_cons r1
  obtain ⟨rfl, rfl, rfl⟩ := trodAll_nil r2
  obtain rfl : args = #[v0, v1, v2] := by cases args; simp_all
  obtain ⟨a0, rfl, rfl, rfl, w0⟩ := open_int Tryd.underlying3 (hval 0 3 v0 rfl rfl) h0
  obtain ⟨a1, rfl, rfl, rfl, w1⟩ := open_int Tryd.underlying3 (hval 1 3 v1 rfl rfl) h1
  obtain ⟨a2, b2, f2, rfl, w2, u2⟩ := open_spot Tryd.underlying37 (by kernel_rfl) (by kernel_rfl) Tryd.underlying3 Tryd.underlying3 Tryd.underlying4 (hval 2 37 v2 rfl rfl) h2
  clear hA0 hval0
  refine (equalFalse_law a0 w0 a1 w1 ⟨a2, b2, f2⟩ W (farLaid_at hL)).mono fun e W' ⟨he, hg⟩ => ?_
  subst he
  exact ⟨_, rfl, post_of_below (pa := _) (pv := []) hW' (fun _ _ _ => (trodAll_cons_mk (shut_bool Tryd.underlying4 _) trodAll_mk0)) (fun sp hsp => trodAll_stays Tryd.laidOutK hg typesOk hK (fun x hx => ⟨hlt x hx, hsp x (by first | exact hx | (simp at hx) | simpa using hx)⟩)) (fun _ _ => rfl) (by simp) hg (ok_one (by kernel_rfl) rfl (okWide_bool_mk Tryd.underlying4 _))⟩

theorem over : Rows.equalFalseRow.holds Tryd.pinned (OpenSpec.ofChange Rows.equalFalseSpec) :=
  OpenClaim.holds_of_wide 6 Tryd.f6 rfl rfl rfl rfl rfl rfl rfl ⟨rfl, rfl, rfl, rfl, rfl⟩ rfl rfl rfl rfl rfl (by kernel_rfl) Tryd.func6 (by show joinedFacts Tryd.prog _ _ _ _ = true; unfold joinedFacts; rw [mayEnterK, liftsFinalK, makeK]; kernel_rfl)
    (of_decide_eq_true (by kernel_rfl)) (by unfold Func.isWrapper; first | (rw [if_pos (by decide +kernel)]; kernel_rfl) | (rw [if_neg (by decide +kernel)]; exact ⟨rfl, rfl⟩))
    (fun os started H enc _ => lifted os started H enc)
theorem card : Rows.EqualFalseCardSaid :=
  Claim7.holds_tied_plain_at .later [] [.data] true (true, "32fe744af748dcde28962f5faf97cf85692eb597fee56aa250b8ae3699a448c7") true
    over (fun _ h => by cases h) (by kernel_rfl) (fun _ h => by cases h) equalFalse_row_tie rfl ⟨rfl, rfl⟩ mainIsK rfl
    (fun f fn hf hfn => by
      obtain rfl : f = 6 := Option.some.inj ((show Tryd.prog.funcNamed "pairstone/stonelaw4.EqualFalse" = some 6 by kernel_rfl).symm.trans hf) |>.symm
      obtain rfl : fn = Tryd.f6 := (Option.some.inj (Tryd.func6.symm.trans hfn)).symm
      exact ⟨by kernel_rfl, fun j t ht => by
        rw [Tryd.params6] at ht
        have hm : t ∈ ([3, 3, 37] : List TypeId) := by simpa using Array.mem_of_getElem? ht
        have hall : (([3, 3, 37] : List TypeId).all fun u => !Tryd.prog.wantsStandIn u) = true := by kernel_rfl
        exact (show Tryd.prog.wantsStandIn t = false by simpa using List.all_eq_true.1 hall t hm)⟩)
    (by kernel_rfl)
#print axioms card
end Go.Proofs.YtopcdihgkojjlaaDoor.equalFalse
