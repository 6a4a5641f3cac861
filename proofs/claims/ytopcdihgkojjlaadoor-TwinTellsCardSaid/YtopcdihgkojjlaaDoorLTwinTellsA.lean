/- The law TwinTells, walked. (Printed by gen_tw.py.) -/
import Derived.Laws.Entries
import Derived.Test.YtopcdihgkojjlaaDoorRq
import Derived.Test.YtopcdihgkojjlaaDoorTl
import Derived.Test.YtopcdihgkojjlaaDoorWu
import Derived.Deep.DeepCutAuto
import Derived.Deep.RegionWith
namespace Go.Proofs.YtopcdihgkojjlaaDoor
open Go.RowKit
set_option maxRecDepth 100000
set_option linter.unusedVariables false
set_option linter.unusedSimpArgs false
set_option maxHeartbeats 16000000 in
theorem tw_all (a b c d n p q r s C M1 M2 : Int) (w : World) (hE : ErrAt w) (a0 : -9223372036854775808 ≤ a) (a1 : a ≤ 9223372036854775807) (b0 : -9223372036854775808 ≤ b) (b1 : b ≤ 9223372036854775807) (c0 : -9223372036854775808 ≤ c) (c1 : c ≤ 9223372036854775807) (d0 : -9223372036854775808 ≤ d) (d1 : d ≤ 9223372036854775807) (n0 : -9223372036854775808 ≤ n) (n1 : n ≤ 9223372036854775807) (p0 : 0 ≤ p) (p1 : p < 4051) (q0 : 0 ≤ q) (q1 : q < 4051) (r0 : 0 ≤ r) (r1 : r < 4051) (s0 : 0 ≤ s) (s1 : s < 4051) (C0 : 0 ≤ C) (C1 : C < 4051) (pp0 : 0 ≤ p * p) (pp1 : p * p ≤ 16402500) (qq0 : 0 ≤ q * q) (qq1 : q * q ≤ 16402500) (hp : Hid (a % 4051 = p)) (hq : Hid (b % 4051 = q)) (hr : Hid (c % 4051 = r)) (hs : Hid (d % 4051 = s)) (hC : Hid (-q % 4051 = C)) (kOf : Hid (∀ w : World, Calls Tryd.prog 19 #[.agg #[.int .i64 a, .int .i64 b]] w fun e w' => e = .returned (.agg #[.int .i64 p, .int .i64 q]) ∧ Below w.heap.size w w')) (kAdd : Hid (∀ w : World, Calls Tryd.prog 20 #[.agg #[.int .i64 a, .int .i64 b], .agg #[.int .i64 c, .int .i64 d]] w fun e w' => e = .returned (.agg #[.int .i64 ((p + r).tmod 4051), .int .i64 ((q + s).tmod 4051)]) ∧ Below w.heap.size w w')) (kMul : Hid (∀ w : World, Calls Tryd.prog 21 #[.agg #[.int .i64 a, .int .i64 b], .agg #[.int .i64 c, .int .i64 d]] w fun e w' => e = .returned (.agg #[.int .i64 M1, .int .i64 M2]) ∧ Below w.heap.size w w')) (rMul : Hid (∀ w : World, Calls Tryd.prog 22 #[.agg #[.int .i64 p, .int .i64 q], .agg #[.int .i64 r, .int .i64 s]] w fun e w' => e = .returned (.agg #[.int .i64 M1, .int .i64 M2]) ∧ Below w.heap.size w w')) (kConj : Hid (∀ w : World, Calls Tryd.prog 23 #[.agg #[.int .i64 a, .int .i64 b]] w fun e w' => e = .returned (.agg #[.int .i64 p, .int .i64 C]) ∧ Below w.heap.size w w')) (kNorm : Hid (∀ w : World, Calls Tryd.prog 24 #[.agg #[.int .i64 a, .int .i64 b]] w fun e w' => e = .returned (.int .i64 ((p * p + q * q) % 4051)) ∧ Below w.heap.size w w')) (hI : Hid ((((p * p + q * q) % 4051 == 0) = true ∧ (∀ w : World, Calls Tryd.prog 26 #[.agg #[.int .i64 a, .int .i64 b]] w fun e w' => e = .returned (.tuple #[.agg #[.int .i64 0, .int .i64 0], .iface 117 (.int .i64 5)]) ∧ Below w.heap.size w w')) ∨ (∃ T : Int, ((p * p + q * q) % 4051 == 0) = false ∧ 0 ≤ T ∧ T < 4051 ∧ 0 ≤ p * T ∧ p * T ≤ 16402500 ∧ 0 ≤ C * T ∧ C * T ≤ 16402500 ∧ (∀ w : World, Calls Tryd.prog 25 #[.int .i64 ((p * p + q * q) % 4051), .int .i64 4051] w fun e w' => e = .returned (.int .i64 T) ∧ w = w') ∧ (∀ w : World, Calls Tryd.prog 26 #[.agg #[.int .i64 a, .int .i64 b]] w fun e w' => e = .returned (.tuple #[.agg #[.int .i64 (p * T % 4051), .int .i64 (C * T % 4051)], .nilIface]) ∧ Below w.heap.size w w')))) (hW : Hid ((n < 0 ∧ (∀ w : World, Calls Tryd.prog 29 #[.agg #[.int .i64 a, .int .i64 b], .int .i64 n] w fun e w' => e = .returned (.tuple #[.agg #[.int .i64 0, .int .i64 0], .iface 117 (.int .i64 1)]) ∧ Below w.heap.size w w')) ∨ (0 ≤ n ∧ ∃ Q1 Q2 : Int, (∀ w : World, Calls Tryd.prog 28 #[.agg #[.int .i64 p, .int .i64 q], .int .i64 n] w fun e w' => e = .returned (.agg #[.int .i64 Q1, .int .i64 Q2]) ∧ Below w.heap.size w w') ∧ (∀ w : World, Calls Tryd.prog 29 #[.agg #[.int .i64 a, .int .i64 b], .int .i64 n] w fun e w' => e = .returned (.tuple #[.agg #[.int .i64 Q1, .int .i64 Q2], .nilIface]) ∧ Below w.heap.size w w')))) : Calls Tryd.prog 3 #[.agg #[.int .i64 a, .int .i64 b], .agg #[.int .i64 c, .int .i64 d], .int .i64 n] w fun e w' => e = .returned (.bool true) ∧ Below w.heap.size w w' := by
  go_enter Tryd.func3, Tryd.ntmps3
  go_wp2_with fail
  refine (refTwin_e a b p q _ a0 a1 b0 b1 hp hq).mono ?_; rintro e w1 ⟨rfl, hb⟩
  obtain ⟨hc1, hf1⟩ := bcell hb
  have z1 := hb.size
  try simp only [World.size_alloc, World.size_setCell, World.size_drew] at z1
  have s1_0 : w.heap.size < w1.heap.size := by omega
  have s1_1 : w.heap.size + 1 < w1.heap.size := by omega
  have hB1 : Below w.heap.size w w1 := below_seq (by repeat (first | exact Below.refl _ _ | refine balloc ?_ _ | refine Below.drew ?_ | refine below_drewN ?_ _ | refine below_set ?_ (by first | omega | (dsimp only; omega)) _)) hb
  clear hb
  have m1_0_0 : w1.cell? ⟨w.heap.size, 0, none⟩ = some (.int .i64 a) := by go_simp
  have m1_0_1 : w1.cell? ⟨w.heap.size, 1, none⟩ = some (.int .i64 b) := by go_simp
  have m1_1_0 : w1.cell? ⟨w.heap.size + 1, 0, none⟩ = some (.int .i64 c) := by go_simp
  have m1_1_1 : w1.cell? ⟨w.heap.size + 1, 1, none⟩ = some (.int .i64 d) := by go_simp
  clear hc1
  go_wp2_with fail
  refine (refTwin_e c d r s _ c0 c1 d0 d1 hr hs).mono ?_; rintro e w2 ⟨rfl, hb⟩
  obtain ⟨hc2, hf2⟩ := bcell hb
  have z2 := hb.size
  try simp only [World.size_alloc, World.size_setCell, World.size_drew] at z2
  have s2_0 : w.heap.size < w2.heap.size := by omega
  have s2_1 : w.heap.size + 1 < w2.heap.size := by omega
  have s2_2 : w1.heap.size < w2.heap.size := by omega
  have hB2 : Below w.heap.size w w2 := below_seq (by repeat (first | exact hB1 | exact Below.refl _ _ | refine balloc ?_ _ | refine Below.drew ?_ | refine below_drewN ?_ _ | refine below_set ?_ (by first | omega | (dsimp only; omega)) _)) hb
  clear hb
  have m2_0_0 : w2.cell? ⟨w.heap.size, 0, none⟩ = some (.int .i64 a) := by go_simp
  have m2_0_1 : w2.cell? ⟨w.heap.size, 1, none⟩ = some (.int .i64 b) := by go_simp
  have m2_1_0 : w2.cell? ⟨w.heap.size + 1, 0, none⟩ = some (.int .i64 c) := by go_simp
  have m2_1_1 : w2.cell? ⟨w.heap.size + 1, 1, none⟩ = some (.int .i64 d) := by go_simp
  have m2_2_0 : w2.cell? ⟨w1.heap.size, 0, none⟩ = some (.int .i64 p) := by go_simp
  have m2_2_1 : w2.cell? ⟨w1.heap.size, 1, none⟩ = some (.int .i64 q) := by go_simp
  clear m1_0_0 m1_0_1 m1_1_0 m1_1_1
  clear hc2
  go_upto_region 4 with fail
  have eng : IntKind.i64.wrap (-q) = -q := IntWalk.i64_in _ (by omega)
  go_cut [10] (fun s10 wx => s10 = .pointer (some ⟨w2.heap.size + 1, 0, none⟩) ∧ wx = ((w2.alloc (.cells #[.int .i64 r, .int .i64 s] 23)).alloc (.cells #[.int .i64 p, .int .i64 C] 23)).drew)
  case first =>
    go_region_with (go_at_call 18; refine (refMod_e (-q) 4051 C _ (by omega) (by omega) (by omega) (by omega) hC).mono ?_; rintro e w' ⟨rfl, rfl⟩)
    all_goals
      go_wp2_with fail
      go_meet
      exact ⟨rfl, rfl⟩
  case rest =>

    obtain ⟨rfl, rfl⟩ := hcut
    have ew1 : IntKind.i64.wrap (p + r) = p + r := IntWalk.i64_in _ (by omega)
    have ew2 : IntKind.i64.wrap (q + s) = q + s := IntWalk.i64_in _ (by omega)
    go_wp2_with fail
    refine wp_region_grow Tryd.mixed (by kernel_rfl) ?_
    repeat (quiet_step ((first | (go_at_call 19; exact grow_of (kOf.out _)) | (go_at_call 20; exact grow_of (kAdd.out _)))))
    refine wpQuiet_nil ?_
    intro _ hw'
    obtain ⟨x3, rfl⟩ := hw'
    have z3 := x3.h.size
    try simp only [World.size_alloc, World.size_setCell, World.size_drew] at z3
    have s3_0 : w.heap.size < x3.w.heap.size := by omega
    have s3_1 : w.heap.size + 1 < x3.w.heap.size := by omega
    have s3_2 : w1.heap.size < x3.w.heap.size := by omega
    have s3_3 : w2.heap.size < x3.w.heap.size := by omega
    have s3_4 : w2.heap.size + 1 < x3.w.heap.size := by omega
    have hB3 : Below w.heap.size w x3.w := below_seq (by repeat (first | exact hB2 | exact Below.refl _ _ | refine balloc ?_ _ | refine Below.drew ?_ | refine below_drewN ?_ _ | refine below_set ?_ (by first | omega | (dsimp only; omega)) _)) x3.h
    have m3_0_0 : x3.w.cell? ⟨w.heap.size, 0, none⟩ = some (.int .i64 a) := by go_simp
    have m3_0_1 : x3.w.cell? ⟨w.heap.size, 1, none⟩ = some (.int .i64 b) := by go_simp
    have m3_1_0 : x3.w.cell? ⟨w.heap.size + 1, 0, none⟩ = some (.int .i64 c) := by go_simp
    have m3_1_1 : x3.w.cell? ⟨w.heap.size + 1, 1, none⟩ = some (.int .i64 d) := by go_simp
    have m3_2_0 : x3.w.cell? ⟨w1.heap.size, 0, none⟩ = some (.int .i64 p) := by go_simp
    have m3_2_1 : x3.w.cell? ⟨w1.heap.size, 1, none⟩ = some (.int .i64 q) := by go_simp
    have m3_3_0 : x3.w.cell? ⟨w2.heap.size, 0, none⟩ = some (.int .i64 r) := by go_simp
    have m3_3_1 : x3.w.cell? ⟨w2.heap.size, 1, none⟩ = some (.int .i64 s) := by go_simp
    have m3_4_0 : x3.w.cell? ⟨w2.heap.size + 1, 0, none⟩ = some (.int .i64 p) := by go_simp
    have m3_4_1 : x3.w.cell? ⟨w2.heap.size + 1, 1, none⟩ = some (.int .i64 C) := by go_simp
    clear m2_0_0 m2_0_1 m2_1_0 m2_1_1 m2_2_0 m2_2_1
    go_wp2_with fail
    refine wp_region_grow Tryd.mixed (by kernel_rfl) ?_
    repeat (quiet_step ((first | (go_at_call 21; exact grow_of (kMul.out _)) | (go_at_call 22; exact grow_of (rMul.out _)) | (go_at_call 23; exact grow_of (kConj.out _)) | (go_at_call 24; exact grow_of (kNorm.out _)))))
    refine wpQuiet_nil ?_
    intro _ hw'
    obtain ⟨x4, rfl⟩ := hw'
    have z4 := x4.h.size
    try simp only [World.size_alloc, World.size_setCell, World.size_drew] at z4
    have s4_0 : w.heap.size < x4.w.heap.size := by omega
    have s4_1 : w.heap.size + 1 < x4.w.heap.size := by omega
    have s4_2 : w1.heap.size < x4.w.heap.size := by omega
    have s4_3 : w2.heap.size < x4.w.heap.size := by omega
    have s4_4 : w2.heap.size + 1 < x4.w.heap.size := by omega
    have hB4 : Below w.heap.size w x4.w := below_seq (by repeat (first | exact hB3 | exact Below.refl _ _ | refine balloc ?_ _ | refine Below.drew ?_ | refine below_drewN ?_ _ | refine below_set ?_ (by first | omega | (dsimp only; omega)) _)) x4.h
    have m4_0_0 : x4.w.cell? ⟨w.heap.size, 0, none⟩ = some (.int .i64 a) := by go_simp
    have m4_0_1 : x4.w.cell? ⟨w.heap.size, 1, none⟩ = some (.int .i64 b) := by go_simp
    have m4_1_0 : x4.w.cell? ⟨w.heap.size + 1, 0, none⟩ = some (.int .i64 c) := by go_simp
    have m4_1_1 : x4.w.cell? ⟨w.heap.size + 1, 1, none⟩ = some (.int .i64 d) := by go_simp
    have m4_2_0 : x4.w.cell? ⟨w1.heap.size, 0, none⟩ = some (.int .i64 p) := by go_simp
    have m4_2_1 : x4.w.cell? ⟨w1.heap.size, 1, none⟩ = some (.int .i64 q) := by go_simp
    have m4_3_0 : x4.w.cell? ⟨w2.heap.size, 0, none⟩ = some (.int .i64 r) := by go_simp
    have m4_3_1 : x4.w.cell? ⟨w2.heap.size, 1, none⟩ = some (.int .i64 s) := by go_simp
    have m4_4_0 : x4.w.cell? ⟨w2.heap.size + 1, 0, none⟩ = some (.int .i64 p) := by go_simp
    have m4_4_1 : x4.w.cell? ⟨w2.heap.size + 1, 1, none⟩ = some (.int .i64 C) := by go_simp
    clear m3_0_0 m3_0_1 m3_1_0 m3_1_1 m3_2_0 m3_2_1 m3_3_0 m3_3_1 m3_4_0 m3_4_1
    clear ew1 ew2 kOf kAdd kMul rMul kConj kNorm
    rcases hI.out with hI2 | hI2
    · obtain ⟨hN, kInv⟩ := hI2
      replace kInv := Lib.hid kInv
      clear hI
      go_wp2_with fail
      refine (kInv.out _).mono ?_; rintro e w5 ⟨rfl, hb⟩
      obtain ⟨hc5, hf5⟩ := bcell hb
      have z5 := hb.size
      try simp only [World.size_alloc, World.size_setCell, World.size_drew] at z5
      have s5_0 : w.heap.size < w5.heap.size := by omega
      have s5_1 : w.heap.size + 1 < w5.heap.size := by omega
      have s5_2 : w1.heap.size < w5.heap.size := by omega
      have s5_3 : w2.heap.size < w5.heap.size := by omega
      have s5_4 : w2.heap.size + 1 < w5.heap.size := by omega
      have s5_5 : x4.w.heap.size < w5.heap.size := by omega
      have hB5 : Below w.heap.size w w5 := below_seq (by repeat (first | exact hB4 | exact Below.refl _ _ | refine balloc ?_ _ | refine Below.drew ?_ | refine below_drewN ?_ _ | refine below_set ?_ (by first | omega | (dsimp only; omega)) _)) hb
      clear hb
      have m5_0_0 : w5.cell? ⟨w.heap.size, 0, none⟩ = some (.int .i64 a) := by go_simp
      have m5_0_1 : w5.cell? ⟨w.heap.size, 1, none⟩ = some (.int .i64 b) := by go_simp
      have m5_1_0 : w5.cell? ⟨w.heap.size + 1, 0, none⟩ = some (.int .i64 c) := by go_simp
      have m5_1_1 : w5.cell? ⟨w.heap.size + 1, 1, none⟩ = some (.int .i64 d) := by go_simp
      have m5_2_0 : w5.cell? ⟨w1.heap.size, 0, none⟩ = some (.int .i64 p) := by go_simp
      have m5_2_1 : w5.cell? ⟨w1.heap.size, 1, none⟩ = some (.int .i64 q) := by go_simp
      have m5_3_0 : w5.cell? ⟨w2.heap.size, 0, none⟩ = some (.int .i64 r) := by go_simp
      have m5_3_1 : w5.cell? ⟨w2.heap.size, 1, none⟩ = some (.int .i64 s) := by go_simp
      have m5_4_0 : w5.cell? ⟨w2.heap.size + 1, 0, none⟩ = some (.int .i64 p) := by go_simp
      have m5_4_1 : w5.cell? ⟨w2.heap.size + 1, 1, none⟩ = some (.int .i64 C) := by go_simp
      have m5_5_0 : w5.cell? ⟨x4.w.heap.size, 0, none⟩ = some (.int .i64 0) := by go_simp
      have m5_5_1 : w5.cell? ⟨x4.w.heap.size, 1, none⟩ = some (.int .i64 0) := by go_simp
      clear m4_0_0 m4_0_1 m4_1_0 m4_1_1 m4_2_0 m4_2_1 m4_3_0 m4_3_1 m4_4_0 m4_4_1
      clear hc5
      go_wp2_with fail
      refine (error_err 5 5 _ (hE.below (by repeat (first | exact hB5 | exact Below.refl _ _ | refine balloc ?_ _ | refine Below.drew ?_ | refine below_drewN ?_ _ | refine below_set ?_ (by first | omega | (dsimp only; omega)) _))) true rfl).mono ?_; rintro e w6 ⟨rfl, hb⟩
      obtain ⟨hc6, hf6⟩ := bcell hb
      have z6 := hb.size
      try simp only [World.size_alloc, World.size_setCell, World.size_drew] at z6
      have s6_0 : w.heap.size < w6.heap.size := by omega
      have s6_1 : w.heap.size + 1 < w6.heap.size := by omega
      have s6_2 : w1.heap.size < w6.heap.size := by omega
      have s6_3 : w2.heap.size < w6.heap.size := by omega
      have s6_4 : w2.heap.size + 1 < w6.heap.size := by omega
      have s6_5 : x4.w.heap.size < w6.heap.size := by omega
      have s6_6 : w5.heap.size < w6.heap.size := by omega
      have hB6 : Below w.heap.size w w6 := below_seq (by repeat (first | exact hB5 | exact Below.refl _ _ | refine balloc ?_ _ | refine Below.drew ?_ | refine below_drewN ?_ _ | refine below_set ?_ (by first | omega | (dsimp only; omega)) _)) hb
      clear hb
      have m6_0_0 : w6.cell? ⟨w.heap.size, 0, none⟩ = some (.int .i64 a) := by go_simp
      have m6_0_1 : w6.cell? ⟨w.heap.size, 1, none⟩ = some (.int .i64 b) := by go_simp
      have m6_1_0 : w6.cell? ⟨w.heap.size + 1, 0, none⟩ = some (.int .i64 c) := by go_simp
      have m6_1_1 : w6.cell? ⟨w.heap.size + 1, 1, none⟩ = some (.int .i64 d) := by go_simp
      have m6_2_0 : w6.cell? ⟨w1.heap.size, 0, none⟩ = some (.int .i64 p) := by go_simp
      have m6_2_1 : w6.cell? ⟨w1.heap.size, 1, none⟩ = some (.int .i64 q) := by go_simp
      have m6_3_0 : w6.cell? ⟨w2.heap.size, 0, none⟩ = some (.int .i64 r) := by go_simp
      have m6_3_1 : w6.cell? ⟨w2.heap.size, 1, none⟩ = some (.int .i64 s) := by go_simp
      have m6_4_0 : w6.cell? ⟨w2.heap.size + 1, 0, none⟩ = some (.int .i64 p) := by go_simp
      have m6_4_1 : w6.cell? ⟨w2.heap.size + 1, 1, none⟩ = some (.int .i64 C) := by go_simp
      have m6_5_0 : w6.cell? ⟨x4.w.heap.size, 0, none⟩ = some (.int .i64 0) := by go_simp
      have m6_5_1 : w6.cell? ⟨x4.w.heap.size, 1, none⟩ = some (.int .i64 0) := by go_simp
      have m6_6_0 : w6.cell? ⟨w5.heap.size, 0, none⟩ = some (.int .i64 0) := by go_simp
      have m6_6_1 : w6.cell? ⟨w5.heap.size, 1, none⟩ = some (.int .i64 0) := by go_simp
      clear m5_0_0 m5_0_1 m5_1_0 m5_1_1 m5_2_0 m5_2_1 m5_3_0 m5_3_1 m5_4_0 m5_4_1 m5_5_0 m5_5_1
      clear hc6
      rcases hW.out with hW2 | hW2
      · obtain ⟨hn, kPow⟩ := hW2
        replace kPow := Lib.hid kPow
        clear hW
        go_wp2_with fail
        refine (kPow.out _).mono ?_; rintro e w7 ⟨rfl, hb⟩
        obtain ⟨hc7, hf7⟩ := bcell hb
        have z7 := hb.size
        try simp only [World.size_alloc, World.size_setCell, World.size_drew] at z7
        have s7_0 : w.heap.size < w7.heap.size := by omega
        have s7_1 : w.heap.size + 1 < w7.heap.size := by omega
        have s7_2 : w1.heap.size < w7.heap.size := by omega
        have s7_3 : w2.heap.size < w7.heap.size := by omega
        have s7_4 : w2.heap.size + 1 < w7.heap.size := by omega
        have s7_5 : x4.w.heap.size < w7.heap.size := by omega
        have s7_6 : w5.heap.size < w7.heap.size := by omega
        have hB7 : Below w.heap.size w w7 := below_seq (by repeat (first | exact hB6 | exact Below.refl _ _ | refine balloc ?_ _ | refine Below.drew ?_ | refine below_drewN ?_ _ | refine below_set ?_ (by first | omega | (dsimp only; omega)) _)) hb
        clear hb
        have m7_0_0 : w7.cell? ⟨w.heap.size, 0, none⟩ = some (.int .i64 a) := by go_simp
        have m7_0_1 : w7.cell? ⟨w.heap.size, 1, none⟩ = some (.int .i64 b) := by go_simp
        have m7_1_0 : w7.cell? ⟨w.heap.size + 1, 0, none⟩ = some (.int .i64 c) := by go_simp
        have m7_1_1 : w7.cell? ⟨w.heap.size + 1, 1, none⟩ = some (.int .i64 d) := by go_simp
        have m7_2_0 : w7.cell? ⟨w1.heap.size, 0, none⟩ = some (.int .i64 p) := by go_simp
        have m7_2_1 : w7.cell? ⟨w1.heap.size, 1, none⟩ = some (.int .i64 q) := by go_simp
        have m7_3_0 : w7.cell? ⟨w2.heap.size, 0, none⟩ = some (.int .i64 r) := by go_simp
        have m7_3_1 : w7.cell? ⟨w2.heap.size, 1, none⟩ = some (.int .i64 s) := by go_simp
        have m7_4_0 : w7.cell? ⟨w2.heap.size + 1, 0, none⟩ = some (.int .i64 p) := by go_simp
        have m7_4_1 : w7.cell? ⟨w2.heap.size + 1, 1, none⟩ = some (.int .i64 C) := by go_simp
        have m7_5_0 : w7.cell? ⟨x4.w.heap.size, 0, none⟩ = some (.int .i64 0) := by go_simp
        have m7_5_1 : w7.cell? ⟨x4.w.heap.size, 1, none⟩ = some (.int .i64 0) := by go_simp
        have m7_6_0 : w7.cell? ⟨w5.heap.size, 0, none⟩ = some (.int .i64 0) := by go_simp
        have m7_6_1 : w7.cell? ⟨w5.heap.size, 1, none⟩ = some (.int .i64 0) := by go_simp
        clear m6_0_0 m6_0_1 m6_1_0 m6_1_1 m6_2_0 m6_2_1 m6_3_0 m6_3_1 m6_4_0 m6_4_1 m6_5_0 m6_5_1 m6_6_0 m6_6_1
        clear hc7
        go_wp2_with fail
        refine (error_err 1 1 _ (hE.below (by repeat (first | exact hB7 | exact Below.refl _ _ | refine balloc ?_ _ | refine Below.drew ?_ | refine below_drewN ?_ _ | refine below_set ?_ (by first | omega | (dsimp only; omega)) _))) true rfl).mono ?_; rintro e w8 ⟨rfl, hb⟩
        obtain ⟨hc8, hf8⟩ := bcell hb
        have z8 := hb.size
        try simp only [World.size_alloc, World.size_setCell, World.size_drew] at z8
        have s8_0 : w.heap.size < w8.heap.size := by omega
        have s8_1 : w.heap.size + 1 < w8.heap.size := by omega
        have s8_2 : w1.heap.size < w8.heap.size := by omega
        have s8_3 : w2.heap.size < w8.heap.size := by omega
        have s8_4 : w2.heap.size + 1 < w8.heap.size := by omega
        have s8_5 : x4.w.heap.size < w8.heap.size := by omega
        have s8_6 : w5.heap.size < w8.heap.size := by omega
        have hB8 : Below w.heap.size w w8 := below_seq (by repeat (first | exact hB7 | exact Below.refl _ _ | refine balloc ?_ _ | refine Below.drew ?_ | refine below_drewN ?_ _ | refine below_set ?_ (by first | omega | (dsimp only; omega)) _)) hb
        clear hb
        have m8_0_0 : w8.cell? ⟨w.heap.size, 0, none⟩ = some (.int .i64 a) := by go_simp
        have m8_0_1 : w8.cell? ⟨w.heap.size, 1, none⟩ = some (.int .i64 b) := by go_simp
        have m8_1_0 : w8.cell? ⟨w.heap.size + 1, 0, none⟩ = some (.int .i64 c) := by go_simp
        have m8_1_1 : w8.cell? ⟨w.heap.size + 1, 1, none⟩ = some (.int .i64 d) := by go_simp
        have m8_2_0 : w8.cell? ⟨w1.heap.size, 0, none⟩ = some (.int .i64 p) := by go_simp
        have m8_2_1 : w8.cell? ⟨w1.heap.size, 1, none⟩ = some (.int .i64 q) := by go_simp
        have m8_3_0 : w8.cell? ⟨w2.heap.size, 0, none⟩ = some (.int .i64 r) := by go_simp
        have m8_3_1 : w8.cell? ⟨w2.heap.size, 1, none⟩ = some (.int .i64 s) := by go_simp
        have m8_4_0 : w8.cell? ⟨w2.heap.size + 1, 0, none⟩ = some (.int .i64 p) := by go_simp
        have m8_4_1 : w8.cell? ⟨w2.heap.size + 1, 1, none⟩ = some (.int .i64 C) := by go_simp
        have m8_5_0 : w8.cell? ⟨x4.w.heap.size, 0, none⟩ = some (.int .i64 0) := by go_simp
        have m8_5_1 : w8.cell? ⟨x4.w.heap.size, 1, none⟩ = some (.int .i64 0) := by go_simp
        have m8_6_0 : w8.cell? ⟨w5.heap.size, 0, none⟩ = some (.int .i64 0) := by go_simp
        have m8_6_1 : w8.cell? ⟨w5.heap.size, 1, none⟩ = some (.int .i64 0) := by go_simp
        clear m7_0_0 m7_0_1 m7_1_0 m7_1_1 m7_2_0 m7_2_1 m7_3_0 m7_3_1 m7_4_0 m7_4_1 m7_5_0 m7_5_1 m7_6_0 m7_6_1
        clear hc8
        go_wp2
        go_ret
        exact ⟨rfl, (by repeat (first | exact hB8 | exact Below.refl _ _ | refine balloc ?_ _ | refine Below.drew ?_ | refine below_drewN ?_ _ | refine below_set ?_ (by first | omega | (dsimp only; omega)) _))⟩
      · obtain ⟨hn, Q1, Q2, rPow, kPow⟩ := hW2
        replace kPow := Lib.hid kPow
        replace rPow := Lib.hid rPow
        clear hW
        go_wp2_with fail
        refine (rPow.out _).mono ?_; rintro e w7 ⟨rfl, hb⟩
        obtain ⟨hc7, hf7⟩ := bcell hb
        have z7 := hb.size
        try simp only [World.size_alloc, World.size_setCell, World.size_drew] at z7
        have s7_0 : w.heap.size < w7.heap.size := by omega
        have s7_1 : w.heap.size + 1 < w7.heap.size := by omega
        have s7_2 : w1.heap.size < w7.heap.size := by omega
        have s7_3 : w2.heap.size < w7.heap.size := by omega
        have s7_4 : w2.heap.size + 1 < w7.heap.size := by omega
        have s7_5 : x4.w.heap.size < w7.heap.size := by omega
        have s7_6 : w5.heap.size < w7.heap.size := by omega
        have hB7 : Below w.heap.size w w7 := below_seq (by repeat (first | exact hB6 | exact Below.refl _ _ | refine balloc ?_ _ | refine Below.drew ?_ | refine below_drewN ?_ _ | refine below_set ?_ (by first | omega | (dsimp only; omega)) _)) hb
        clear hb
        have m7_0_0 : w7.cell? ⟨w.heap.size, 0, none⟩ = some (.int .i64 a) := by go_simp
        have m7_0_1 : w7.cell? ⟨w.heap.size, 1, none⟩ = some (.int .i64 b) := by go_simp
        have m7_1_0 : w7.cell? ⟨w.heap.size + 1, 0, none⟩ = some (.int .i64 c) := by go_simp
        have m7_1_1 : w7.cell? ⟨w.heap.size + 1, 1, none⟩ = some (.int .i64 d) := by go_simp
        have m7_2_0 : w7.cell? ⟨w1.heap.size, 0, none⟩ = some (.int .i64 p) := by go_simp
        have m7_2_1 : w7.cell? ⟨w1.heap.size, 1, none⟩ = some (.int .i64 q) := by go_simp
        have m7_3_0 : w7.cell? ⟨w2.heap.size, 0, none⟩ = some (.int .i64 r) := by go_simp
        have m7_3_1 : w7.cell? ⟨w2.heap.size, 1, none⟩ = some (.int .i64 s) := by go_simp
        have m7_4_0 : w7.cell? ⟨w2.heap.size + 1, 0, none⟩ = some (.int .i64 p) := by go_simp
        have m7_4_1 : w7.cell? ⟨w2.heap.size + 1, 1, none⟩ = some (.int .i64 C) := by go_simp
        have m7_5_0 : w7.cell? ⟨x4.w.heap.size, 0, none⟩ = some (.int .i64 0) := by go_simp
        have m7_5_1 : w7.cell? ⟨x4.w.heap.size, 1, none⟩ = some (.int .i64 0) := by go_simp
        have m7_6_0 : w7.cell? ⟨w5.heap.size, 0, none⟩ = some (.int .i64 0) := by go_simp
        have m7_6_1 : w7.cell? ⟨w5.heap.size, 1, none⟩ = some (.int .i64 0) := by go_simp
        clear m6_0_0 m6_0_1 m6_1_0 m6_1_1 m6_2_0 m6_2_1 m6_3_0 m6_3_1 m6_4_0 m6_4_1 m6_5_0 m6_5_1 m6_6_0 m6_6_1
        clear hc7
        go_wp2_with fail
        refine (kPow.out _).mono ?_; rintro e w8 ⟨rfl, hb⟩
        obtain ⟨hc8, hf8⟩ := bcell hb
        have z8 := hb.size
        try simp only [World.size_alloc, World.size_setCell, World.size_drew] at z8
        have s8_0 : w.heap.size < w8.heap.size := by omega
        have s8_1 : w.heap.size + 1 < w8.heap.size := by omega
        have s8_2 : w1.heap.size < w8.heap.size := by omega
        have s8_3 : w2.heap.size < w8.heap.size := by omega
        have s8_4 : w2.heap.size + 1 < w8.heap.size := by omega
        have s8_5 : x4.w.heap.size < w8.heap.size := by omega
        have s8_6 : w5.heap.size < w8.heap.size := by omega
        have hB8 : Below w.heap.size w w8 := below_seq (by repeat (first | exact hB7 | exact Below.refl _ _ | refine balloc ?_ _ | refine Below.drew ?_ | refine below_drewN ?_ _ | refine below_set ?_ (by first | omega | (dsimp only; omega)) _)) hb
        clear hb
        have m8_0_0 : w8.cell? ⟨w.heap.size, 0, none⟩ = some (.int .i64 a) := by go_simp
        have m8_0_1 : w8.cell? ⟨w.heap.size, 1, none⟩ = some (.int .i64 b) := by go_simp
        have m8_1_0 : w8.cell? ⟨w.heap.size + 1, 0, none⟩ = some (.int .i64 c) := by go_simp
        have m8_1_1 : w8.cell? ⟨w.heap.size + 1, 1, none⟩ = some (.int .i64 d) := by go_simp
        have m8_2_0 : w8.cell? ⟨w1.heap.size, 0, none⟩ = some (.int .i64 p) := by go_simp
        have m8_2_1 : w8.cell? ⟨w1.heap.size, 1, none⟩ = some (.int .i64 q) := by go_simp
        have m8_3_0 : w8.cell? ⟨w2.heap.size, 0, none⟩ = some (.int .i64 r) := by go_simp
        have m8_3_1 : w8.cell? ⟨w2.heap.size, 1, none⟩ = some (.int .i64 s) := by go_simp
        have m8_4_0 : w8.cell? ⟨w2.heap.size + 1, 0, none⟩ = some (.int .i64 p) := by go_simp
        have m8_4_1 : w8.cell? ⟨w2.heap.size + 1, 1, none⟩ = some (.int .i64 C) := by go_simp
        have m8_5_0 : w8.cell? ⟨x4.w.heap.size, 0, none⟩ = some (.int .i64 Q1) := by go_simp
        have m8_5_1 : w8.cell? ⟨x4.w.heap.size, 1, none⟩ = some (.int .i64 Q2) := by go_simp
        have m8_6_0 : w8.cell? ⟨w5.heap.size, 0, none⟩ = some (.int .i64 0) := by go_simp
        have m8_6_1 : w8.cell? ⟨w5.heap.size, 1, none⟩ = some (.int .i64 0) := by go_simp
        clear m7_0_0 m7_0_1 m7_1_0 m7_1_1 m7_2_0 m7_2_1 m7_3_0 m7_3_1 m7_4_0 m7_4_1 m7_5_0 m7_5_1 m7_6_0 m7_6_1
        clear hc8
        go_wp2_with fail
        refine (error_nil 0 _ true rfl).mono ?_; rintro e w9 ⟨rfl, hb⟩
        obtain ⟨hc9, hf9⟩ := bcell hb
        have z9 := hb.size
        try simp only [World.size_alloc, World.size_setCell, World.size_drew] at z9
        have s9_0 : w.heap.size < w9.heap.size := by omega
        have s9_1 : w.heap.size + 1 < w9.heap.size := by omega
        have s9_2 : w1.heap.size < w9.heap.size := by omega
        have s9_3 : w2.heap.size < w9.heap.size := by omega
        have s9_4 : w2.heap.size + 1 < w9.heap.size := by omega
        have s9_5 : x4.w.heap.size < w9.heap.size := by omega
        have s9_6 : w5.heap.size < w9.heap.size := by omega
        have hB9 : Below w.heap.size w w9 := below_seq (by repeat (first | exact hB8 | exact Below.refl _ _ | refine balloc ?_ _ | refine Below.drew ?_ | refine below_drewN ?_ _ | refine below_set ?_ (by first | omega | (dsimp only; omega)) _)) hb
        clear hb
        have m9_0_0 : w9.cell? ⟨w.heap.size, 0, none⟩ = some (.int .i64 a) := by go_simp
        have m9_0_1 : w9.cell? ⟨w.heap.size, 1, none⟩ = some (.int .i64 b) := by go_simp
        have m9_1_0 : w9.cell? ⟨w.heap.size + 1, 0, none⟩ = some (.int .i64 c) := by go_simp
        have m9_1_1 : w9.cell? ⟨w.heap.size + 1, 1, none⟩ = some (.int .i64 d) := by go_simp
        have m9_2_0 : w9.cell? ⟨w1.heap.size, 0, none⟩ = some (.int .i64 p) := by go_simp
        have m9_2_1 : w9.cell? ⟨w1.heap.size, 1, none⟩ = some (.int .i64 q) := by go_simp
        have m9_3_0 : w9.cell? ⟨w2.heap.size, 0, none⟩ = some (.int .i64 r) := by go_simp
        have m9_3_1 : w9.cell? ⟨w2.heap.size, 1, none⟩ = some (.int .i64 s) := by go_simp
        have m9_4_0 : w9.cell? ⟨w2.heap.size + 1, 0, none⟩ = some (.int .i64 p) := by go_simp
        have m9_4_1 : w9.cell? ⟨w2.heap.size + 1, 1, none⟩ = some (.int .i64 C) := by go_simp
        have m9_5_0 : w9.cell? ⟨x4.w.heap.size, 0, none⟩ = some (.int .i64 Q1) := by go_simp
        have m9_5_1 : w9.cell? ⟨x4.w.heap.size, 1, none⟩ = some (.int .i64 Q2) := by go_simp
        have m9_6_0 : w9.cell? ⟨w5.heap.size, 0, none⟩ = some (.int .i64 Q1) := by go_simp
        have m9_6_1 : w9.cell? ⟨w5.heap.size, 1, none⟩ = some (.int .i64 Q2) := by go_simp
        clear m8_0_0 m8_0_1 m8_1_0 m8_1_1 m8_2_0 m8_2_1 m8_3_0 m8_3_1 m8_4_0 m8_4_1 m8_5_0 m8_5_1 m8_6_0 m8_6_1
        clear hc9
        go_wp2
        go_ret
        exact ⟨rfl, (by repeat (first | exact hB9 | exact Below.refl _ _ | refine balloc ?_ _ | refine Below.drew ?_ | refine below_drewN ?_ _ | refine below_set ?_ (by first | omega | (dsimp only; omega)) _))⟩
    · obtain ⟨T, hN, T0, T1, pT0, pT1, cT0, cT1, rT, kInv⟩ := hI2
      replace kInv := Lib.hid kInv
      replace rT := Lib.hid rT
      clear hI
      go_wp2_with fail
      refine (rT.out _).mono ?_; rintro e w' ⟨rfl, rfl⟩
      go_wp2_with fail
      refine (kInv.out _).mono ?_; rintro e w5 ⟨rfl, hb⟩
      obtain ⟨hc5, hf5⟩ := bcell hb
      have z5 := hb.size
      try simp only [World.size_alloc, World.size_setCell, World.size_drew] at z5
      have s5_0 : w.heap.size < w5.heap.size := by omega
      have s5_1 : w.heap.size + 1 < w5.heap.size := by omega
      have s5_2 : w1.heap.size < w5.heap.size := by omega
      have s5_3 : w2.heap.size < w5.heap.size := by omega
      have s5_4 : w2.heap.size + 1 < w5.heap.size := by omega
      have s5_5 : x4.w.heap.size < w5.heap.size := by omega
      have hB5 : Below w.heap.size w w5 := below_seq (by repeat (first | exact hB4 | exact Below.refl _ _ | refine balloc ?_ _ | refine Below.drew ?_ | refine below_drewN ?_ _ | refine below_set ?_ (by first | omega | (dsimp only; omega)) _)) hb
      clear hb
      have m5_0_0 : w5.cell? ⟨w.heap.size, 0, none⟩ = some (.int .i64 a) := by go_simp
      have m5_0_1 : w5.cell? ⟨w.heap.size, 1, none⟩ = some (.int .i64 b) := by go_simp
      have m5_1_0 : w5.cell? ⟨w.heap.size + 1, 0, none⟩ = some (.int .i64 c) := by go_simp
      have m5_1_1 : w5.cell? ⟨w.heap.size + 1, 1, none⟩ = some (.int .i64 d) := by go_simp
      have m5_2_0 : w5.cell? ⟨w1.heap.size, 0, none⟩ = some (.int .i64 p) := by go_simp
      have m5_2_1 : w5.cell? ⟨w1.heap.size, 1, none⟩ = some (.int .i64 q) := by go_simp
      have m5_3_0 : w5.cell? ⟨w2.heap.size, 0, none⟩ = some (.int .i64 r) := by go_simp
      have m5_3_1 : w5.cell? ⟨w2.heap.size, 1, none⟩ = some (.int .i64 s) := by go_simp
      have m5_4_0 : w5.cell? ⟨w2.heap.size + 1, 0, none⟩ = some (.int .i64 p) := by go_simp
      have m5_4_1 : w5.cell? ⟨w2.heap.size + 1, 1, none⟩ = some (.int .i64 C) := by go_simp
      have m5_5_0 : w5.cell? ⟨x4.w.heap.size, 0, none⟩ = some (.int .i64 (p * T % 4051)) := by go_simp
      have m5_5_1 : w5.cell? ⟨x4.w.heap.size, 1, none⟩ = some (.int .i64 (C * T % 4051)) := by go_simp
      clear m4_0_0 m4_0_1 m4_1_0 m4_1_1 m4_2_0 m4_2_1 m4_3_0 m4_3_1 m4_4_0 m4_4_1
      clear hc5
      go_wp2_with fail
      refine (error_nil 0 _ true rfl).mono ?_; rintro e w6 ⟨rfl, hb⟩
      obtain ⟨hc6, hf6⟩ := bcell hb
      have z6 := hb.size
      try simp only [World.size_alloc, World.size_setCell, World.size_drew] at z6
      have s6_0 : w.heap.size < w6.heap.size := by omega
      have s6_1 : w.heap.size + 1 < w6.heap.size := by omega
      have s6_2 : w1.heap.size < w6.heap.size := by omega
      have s6_3 : w2.heap.size < w6.heap.size := by omega
      have s6_4 : w2.heap.size + 1 < w6.heap.size := by omega
      have s6_5 : x4.w.heap.size < w6.heap.size := by omega
      have s6_6 : w5.heap.size < w6.heap.size := by omega
      have hB6 : Below w.heap.size w w6 := below_seq (by repeat (first | exact hB5 | exact Below.refl _ _ | refine balloc ?_ _ | refine Below.drew ?_ | refine below_drewN ?_ _ | refine below_set ?_ (by first | omega | (dsimp only; omega)) _)) hb
      clear hb
      have m6_0_0 : w6.cell? ⟨w.heap.size, 0, none⟩ = some (.int .i64 a) := by go_simp
      have m6_0_1 : w6.cell? ⟨w.heap.size, 1, none⟩ = some (.int .i64 b) := by go_simp
      have m6_1_0 : w6.cell? ⟨w.heap.size + 1, 0, none⟩ = some (.int .i64 c) := by go_simp
      have m6_1_1 : w6.cell? ⟨w.heap.size + 1, 1, none⟩ = some (.int .i64 d) := by go_simp
      have m6_2_0 : w6.cell? ⟨w1.heap.size, 0, none⟩ = some (.int .i64 p) := by go_simp
      have m6_2_1 : w6.cell? ⟨w1.heap.size, 1, none⟩ = some (.int .i64 q) := by go_simp
      have m6_3_0 : w6.cell? ⟨w2.heap.size, 0, none⟩ = some (.int .i64 r) := by go_simp
      have m6_3_1 : w6.cell? ⟨w2.heap.size, 1, none⟩ = some (.int .i64 s) := by go_simp
      have m6_4_0 : w6.cell? ⟨w2.heap.size + 1, 0, none⟩ = some (.int .i64 p) := by go_simp
      have m6_4_1 : w6.cell? ⟨w2.heap.size + 1, 1, none⟩ = some (.int .i64 C) := by go_simp
      have m6_5_0 : w6.cell? ⟨x4.w.heap.size, 0, none⟩ = some (.int .i64 (p * T % 4051)) := by go_simp
      have m6_5_1 : w6.cell? ⟨x4.w.heap.size, 1, none⟩ = some (.int .i64 (C * T % 4051)) := by go_simp
      have m6_6_0 : w6.cell? ⟨w5.heap.size, 0, none⟩ = some (.int .i64 (p * T % 4051)) := by go_simp
      have m6_6_1 : w6.cell? ⟨w5.heap.size, 1, none⟩ = some (.int .i64 (C * T % 4051)) := by go_simp
      clear m5_0_0 m5_0_1 m5_1_0 m5_1_1 m5_2_0 m5_2_1 m5_3_0 m5_3_1 m5_4_0 m5_4_1 m5_5_0 m5_5_1
      clear hc6
      rcases hW.out with hW2 | hW2
      · obtain ⟨hn, kPow⟩ := hW2
        replace kPow := Lib.hid kPow
        clear hW
        go_wp2_with fail
        refine (kPow.out _).mono ?_; rintro e w7 ⟨rfl, hb⟩
        obtain ⟨hc7, hf7⟩ := bcell hb
        have z7 := hb.size
        try simp only [World.size_alloc, World.size_setCell, World.size_drew] at z7
        have s7_0 : w.heap.size < w7.heap.size := by omega
        have s7_1 : w.heap.size + 1 < w7.heap.size := by omega
        have s7_2 : w1.heap.size < w7.heap.size := by omega
        have s7_3 : w2.heap.size < w7.heap.size := by omega
        have s7_4 : w2.heap.size + 1 < w7.heap.size := by omega
        have s7_5 : x4.w.heap.size < w7.heap.size := by omega
        have s7_6 : w5.heap.size < w7.heap.size := by omega
        have hB7 : Below w.heap.size w w7 := below_seq (by repeat (first | exact hB6 | exact Below.refl _ _ | refine balloc ?_ _ | refine Below.drew ?_ | refine below_drewN ?_ _ | refine below_set ?_ (by first | omega | (dsimp only; omega)) _)) hb
        clear hb
        have m7_0_0 : w7.cell? ⟨w.heap.size, 0, none⟩ = some (.int .i64 a) := by go_simp
        have m7_0_1 : w7.cell? ⟨w.heap.size, 1, none⟩ = some (.int .i64 b) := by go_simp
        have m7_1_0 : w7.cell? ⟨w.heap.size + 1, 0, none⟩ = some (.int .i64 c) := by go_simp
        have m7_1_1 : w7.cell? ⟨w.heap.size + 1, 1, none⟩ = some (.int .i64 d) := by go_simp
        have m7_2_0 : w7.cell? ⟨w1.heap.size, 0, none⟩ = some (.int .i64 p) := by go_simp
        have m7_2_1 : w7.cell? ⟨w1.heap.size, 1, none⟩ = some (.int .i64 q) := by go_simp
        have m7_3_0 : w7.cell? ⟨w2.heap.size, 0, none⟩ = some (.int .i64 r) := by go_simp
        have m7_3_1 : w7.cell? ⟨w2.heap.size, 1, none⟩ = some (.int .i64 s) := by go_simp
        have m7_4_0 : w7.cell? ⟨w2.heap.size + 1, 0, none⟩ = some (.int .i64 p) := by go_simp
        have m7_4_1 : w7.cell? ⟨w2.heap.size + 1, 1, none⟩ = some (.int .i64 C) := by go_simp
        have m7_5_0 : w7.cell? ⟨x4.w.heap.size, 0, none⟩ = some (.int .i64 0) := by go_simp
        have m7_5_1 : w7.cell? ⟨x4.w.heap.size, 1, none⟩ = some (.int .i64 0) := by go_simp
        have m7_6_0 : w7.cell? ⟨w5.heap.size, 0, none⟩ = some (.int .i64 (p * T % 4051)) := by go_simp
        have m7_6_1 : w7.cell? ⟨w5.heap.size, 1, none⟩ = some (.int .i64 (C * T % 4051)) := by go_simp
        clear m6_0_0 m6_0_1 m6_1_0 m6_1_1 m6_2_0 m6_2_1 m6_3_0 m6_3_1 m6_4_0 m6_4_1 m6_5_0 m6_5_1 m6_6_0 m6_6_1
        clear hc7
        go_wp2_with fail
        refine (error_err 1 1 _ (hE.below (by repeat (first | exact hB7 | exact Below.refl _ _ | refine balloc ?_ _ | refine Below.drew ?_ | refine below_drewN ?_ _ | refine below_set ?_ (by first | omega | (dsimp only; omega)) _))) true rfl).mono ?_; rintro e w8 ⟨rfl, hb⟩
        obtain ⟨hc8, hf8⟩ := bcell hb
        have z8 := hb.size
        try simp only [World.size_alloc, World.size_setCell, World.size_drew] at z8
        have s8_0 : w.heap.size < w8.heap.size := by omega
        have s8_1 : w.heap.size + 1 < w8.heap.size := by omega
        have s8_2 : w1.heap.size < w8.heap.size := by omega
        have s8_3 : w2.heap.size < w8.heap.size := by omega
        have s8_4 : w2.heap.size + 1 < w8.heap.size := by omega
        have s8_5 : x4.w.heap.size < w8.heap.size := by omega
        have s8_6 : w5.heap.size < w8.heap.size := by omega
        have hB8 : Below w.heap.size w w8 := below_seq (by repeat (first | exact hB7 | exact Below.refl _ _ | refine balloc ?_ _ | refine Below.drew ?_ | refine below_drewN ?_ _ | refine below_set ?_ (by first | omega | (dsimp only; omega)) _)) hb
        clear hb
        have m8_0_0 : w8.cell? ⟨w.heap.size, 0, none⟩ = some (.int .i64 a) := by go_simp
        have m8_0_1 : w8.cell? ⟨w.heap.size, 1, none⟩ = some (.int .i64 b) := by go_simp
        have m8_1_0 : w8.cell? ⟨w.heap.size + 1, 0, none⟩ = some (.int .i64 c) := by go_simp
        have m8_1_1 : w8.cell? ⟨w.heap.size + 1, 1, none⟩ = some (.int .i64 d) := by go_simp
        have m8_2_0 : w8.cell? ⟨w1.heap.size, 0, none⟩ = some (.int .i64 p) := by go_simp
        have m8_2_1 : w8.cell? ⟨w1.heap.size, 1, none⟩ = some (.int .i64 q) := by go_simp
        have m8_3_0 : w8.cell? ⟨w2.heap.size, 0, none⟩ = some (.int .i64 r) := by go_simp
        have m8_3_1 : w8.cell? ⟨w2.heap.size, 1, none⟩ = some (.int .i64 s) := by go_simp
        have m8_4_0 : w8.cell? ⟨w2.heap.size + 1, 0, none⟩ = some (.int .i64 p) := by go_simp
        have m8_4_1 : w8.cell? ⟨w2.heap.size + 1, 1, none⟩ = some (.int .i64 C) := by go_simp
        have m8_5_0 : w8.cell? ⟨x4.w.heap.size, 0, none⟩ = some (.int .i64 0) := by go_simp
        have m8_5_1 : w8.cell? ⟨x4.w.heap.size, 1, none⟩ = some (.int .i64 0) := by go_simp
        have m8_6_0 : w8.cell? ⟨w5.heap.size, 0, none⟩ = some (.int .i64 0) := by go_simp
        have m8_6_1 : w8.cell? ⟨w5.heap.size, 1, none⟩ = some (.int .i64 0) := by go_simp
        clear m7_0_0 m7_0_1 m7_1_0 m7_1_1 m7_2_0 m7_2_1 m7_3_0 m7_3_1 m7_4_0 m7_4_1 m7_5_0 m7_5_1 m7_6_0 m7_6_1
        clear hc8
        go_wp2
        go_ret
        exact ⟨rfl, (by repeat (first | exact hB8 | exact Below.refl _ _ | refine balloc ?_ _ | refine Below.drew ?_ | refine below_drewN ?_ _ | refine below_set ?_ (by first | omega | (dsimp only; omega)) _))⟩
      · obtain ⟨hn, Q1, Q2, rPow, kPow⟩ := hW2
        replace kPow := Lib.hid kPow
        replace rPow := Lib.hid rPow
        clear hW
        go_wp2_with fail
        refine (rPow.out _).mono ?_; rintro e w7 ⟨rfl, hb⟩
        obtain ⟨hc7, hf7⟩ := bcell hb
        have z7 := hb.size
        try simp only [World.size_alloc, World.size_setCell, World.size_drew] at z7
        have s7_0 : w.heap.size < w7.heap.size := by omega
        have s7_1 : w.heap.size + 1 < w7.heap.size := by omega
        have s7_2 : w1.heap.size < w7.heap.size := by omega
        have s7_3 : w2.heap.size < w7.heap.size := by omega
        have s7_4 : w2.heap.size + 1 < w7.heap.size := by omega
        have s7_5 : x4.w.heap.size < w7.heap.size := by omega
        have s7_6 : w5.heap.size < w7.heap.size := by omega
        have hB7 : Below w.heap.size w w7 := below_seq (by repeat (first | exact hB6 | exact Below.refl _ _ | refine balloc ?_ _ | refine Below.drew ?_ | refine below_drewN ?_ _ | refine below_set ?_ (by first | omega | (dsimp only; omega)) _)) hb
        clear hb
        have m7_0_0 : w7.cell? ⟨w.heap.size, 0, none⟩ = some (.int .i64 a) := by go_simp
        have m7_0_1 : w7.cell? ⟨w.heap.size, 1, none⟩ = some (.int .i64 b) := by go_simp
        have m7_1_0 : w7.cell? ⟨w.heap.size + 1, 0, none⟩ = some (.int .i64 c) := by go_simp
        have m7_1_1 : w7.cell? ⟨w.heap.size + 1, 1, none⟩ = some (.int .i64 d) := by go_simp
        have m7_2_0 : w7.cell? ⟨w1.heap.size, 0, none⟩ = some (.int .i64 p) := by go_simp
        have m7_2_1 : w7.cell? ⟨w1.heap.size, 1, none⟩ = some (.int .i64 q) := by go_simp
        have m7_3_0 : w7.cell? ⟨w2.heap.size, 0, none⟩ = some (.int .i64 r) := by go_simp
        have m7_3_1 : w7.cell? ⟨w2.heap.size, 1, none⟩ = some (.int .i64 s) := by go_simp
        have m7_4_0 : w7.cell? ⟨w2.heap.size + 1, 0, none⟩ = some (.int .i64 p) := by go_simp
        have m7_4_1 : w7.cell? ⟨w2.heap.size + 1, 1, none⟩ = some (.int .i64 C) := by go_simp
        have m7_5_0 : w7.cell? ⟨x4.w.heap.size, 0, none⟩ = some (.int .i64 0) := by go_simp
        have m7_5_1 : w7.cell? ⟨x4.w.heap.size, 1, none⟩ = some (.int .i64 0) := by go_simp
        have m7_6_0 : w7.cell? ⟨w5.heap.size, 0, none⟩ = some (.int .i64 (p * T % 4051)) := by go_simp
        have m7_6_1 : w7.cell? ⟨w5.heap.size, 1, none⟩ = some (.int .i64 (C * T % 4051)) := by go_simp
        clear m6_0_0 m6_0_1 m6_1_0 m6_1_1 m6_2_0 m6_2_1 m6_3_0 m6_3_1 m6_4_0 m6_4_1 m6_5_0 m6_5_1 m6_6_0 m6_6_1
        clear hc7
        go_wp2_with fail
        refine (kPow.out _).mono ?_; rintro e w8 ⟨rfl, hb⟩
        obtain ⟨hc8, hf8⟩ := bcell hb
        have z8 := hb.size
        try simp only [World.size_alloc, World.size_setCell, World.size_drew] at z8
        have s8_0 : w.heap.size < w8.heap.size := by omega
        have s8_1 : w.heap.size + 1 < w8.heap.size := by omega
        have s8_2 : w1.heap.size < w8.heap.size := by omega
        have s8_3 : w2.heap.size < w8.heap.size := by omega
        have s8_4 : w2.heap.size + 1 < w8.heap.size := by omega
        have s8_5 : x4.w.heap.size < w8.heap.size := by omega
        have s8_6 : w5.heap.size < w8.heap.size := by omega
        have hB8 : Below w.heap.size w w8 := below_seq (by repeat (first | exact hB7 | exact Below.refl _ _ | refine balloc ?_ _ | refine Below.drew ?_ | refine below_drewN ?_ _ | refine below_set ?_ (by first | omega | (dsimp only; omega)) _)) hb
        clear hb
        have m8_0_0 : w8.cell? ⟨w.heap.size, 0, none⟩ = some (.int .i64 a) := by go_simp
        have m8_0_1 : w8.cell? ⟨w.heap.size, 1, none⟩ = some (.int .i64 b) := by go_simp
        have m8_1_0 : w8.cell? ⟨w.heap.size + 1, 0, none⟩ = some (.int .i64 c) := by go_simp
        have m8_1_1 : w8.cell? ⟨w.heap.size + 1, 1, none⟩ = some (.int .i64 d) := by go_simp
        have m8_2_0 : w8.cell? ⟨w1.heap.size, 0, none⟩ = some (.int .i64 p) := by go_simp
        have m8_2_1 : w8.cell? ⟨w1.heap.size, 1, none⟩ = some (.int .i64 q) := by go_simp
        have m8_3_0 : w8.cell? ⟨w2.heap.size, 0, none⟩ = some (.int .i64 r) := by go_simp
        have m8_3_1 : w8.cell? ⟨w2.heap.size, 1, none⟩ = some (.int .i64 s) := by go_simp
        have m8_4_0 : w8.cell? ⟨w2.heap.size + 1, 0, none⟩ = some (.int .i64 p) := by go_simp
        have m8_4_1 : w8.cell? ⟨w2.heap.size + 1, 1, none⟩ = some (.int .i64 C) := by go_simp
        have m8_5_0 : w8.cell? ⟨x4.w.heap.size, 0, none⟩ = some (.int .i64 Q1) := by go_simp
        have m8_5_1 : w8.cell? ⟨x4.w.heap.size, 1, none⟩ = some (.int .i64 Q2) := by go_simp
        have m8_6_0 : w8.cell? ⟨w5.heap.size, 0, none⟩ = some (.int .i64 (p * T % 4051)) := by go_simp
        have m8_6_1 : w8.cell? ⟨w5.heap.size, 1, none⟩ = some (.int .i64 (C * T % 4051)) := by go_simp
        clear m7_0_0 m7_0_1 m7_1_0 m7_1_1 m7_2_0 m7_2_1 m7_3_0 m7_3_1 m7_4_0 m7_4_1 m7_5_0 m7_5_1 m7_6_0 m7_6_1
        clear hc8
        go_wp2_with fail
        refine (error_nil 0 _ true rfl).mono ?_; rintro e w9 ⟨rfl, hb⟩
        obtain ⟨hc9, hf9⟩ := bcell hb
        have z9 := hb.size
        try simp only [World.size_alloc, World.size_setCell, World.size_drew] at z9
        have s9_0 : w.heap.size < w9.heap.size := by omega
        have s9_1 : w.heap.size + 1 < w9.heap.size := by omega
        have s9_2 : w1.heap.size < w9.heap.size := by omega
        have s9_3 : w2.heap.size < w9.heap.size := by omega
        have s9_4 : w2.heap.size + 1 < w9.heap.size := by omega
        have s9_5 : x4.w.heap.size < w9.heap.size := by omega
        have s9_6 : w5.heap.size < w9.heap.size := by omega
        have hB9 : Below w.heap.size w w9 := below_seq (by repeat (first | exact hB8 | exact Below.refl _ _ | refine balloc ?_ _ | refine Below.drew ?_ | refine below_drewN ?_ _ | refine below_set ?_ (by first | omega | (dsimp only; omega)) _)) hb
        clear hb
        have m9_0_0 : w9.cell? ⟨w.heap.size, 0, none⟩ = some (.int .i64 a) := by go_simp
        have m9_0_1 : w9.cell? ⟨w.heap.size, 1, none⟩ = some (.int .i64 b) := by go_simp
        have m9_1_0 : w9.cell? ⟨w.heap.size + 1, 0, none⟩ = some (.int .i64 c) := by go_simp
        have m9_1_1 : w9.cell? ⟨w.heap.size + 1, 1, none⟩ = some (.int .i64 d) := by go_simp
        have m9_2_0 : w9.cell? ⟨w1.heap.size, 0, none⟩ = some (.int .i64 p) := by go_simp
        have m9_2_1 : w9.cell? ⟨w1.heap.size, 1, none⟩ = some (.int .i64 q) := by go_simp
        have m9_3_0 : w9.cell? ⟨w2.heap.size, 0, none⟩ = some (.int .i64 r) := by go_simp
        have m9_3_1 : w9.cell? ⟨w2.heap.size, 1, none⟩ = some (.int .i64 s) := by go_simp
        have m9_4_0 : w9.cell? ⟨w2.heap.size + 1, 0, none⟩ = some (.int .i64 p) := by go_simp
        have m9_4_1 : w9.cell? ⟨w2.heap.size + 1, 1, none⟩ = some (.int .i64 C) := by go_simp
        have m9_5_0 : w9.cell? ⟨x4.w.heap.size, 0, none⟩ = some (.int .i64 Q1) := by go_simp
        have m9_5_1 : w9.cell? ⟨x4.w.heap.size, 1, none⟩ = some (.int .i64 Q2) := by go_simp
        have m9_6_0 : w9.cell? ⟨w5.heap.size, 0, none⟩ = some (.int .i64 Q1) := by go_simp
        have m9_6_1 : w9.cell? ⟨w5.heap.size, 1, none⟩ = some (.int .i64 Q2) := by go_simp
        clear m8_0_0 m8_0_1 m8_1_0 m8_1_1 m8_2_0 m8_2_1 m8_3_0 m8_3_1 m8_4_0 m8_4_1 m8_5_0 m8_5_1 m8_6_0 m8_6_1
        clear hc9
        go_wp2
        go_ret
        exact ⟨rfl, (by repeat (first | exact hB9 | exact Below.refl _ _ | refine balloc ?_ _ | refine Below.drew ?_ | refine below_drewN ?_ _ | refine below_set ?_ (by first | omega | (dsimp only; omega)) _))⟩
end Go.Proofs.YtopcdihgkojjlaaDoor
