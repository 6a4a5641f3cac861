/- Walks of the document's answer, the greater field: Twin, TwinMul. -/
import Derived.Test.YtfnifdmnbccblaaDoorRa
import Derived.Test.YtfnifdmnbccblaaDoorGt
import Derived.Test.YtfnifdmnbccblaaDoorWt
import Derived.Test.YtfnifdmnbccblaaDoorWv
namespace Go.Proofs.YtfnifdmnbccblaaDoor
open Go.RowKit
set_option maxRecDepth 100000
set_option linter.unusedVariables false
set_option linter.unusedSimpArgs false
set_option maxHeartbeats 1000000 in
theorem refTwin_e (a b A B : Int) (w : World) (a0 : -9223372036854775808 ≤ a) (a1 : a ≤ 9223372036854775807) (b0 : -9223372036854775808 ≤ b) (b1 : b ≤ 9223372036854775807) (hA : Hid (a % 4051 = A)) (hB : Hid (b % 4051 = B)) : Calls Tryd.prog 90 #[.agg #[.int .i64 a, .int .i64 b]] w fun e w' => e = .returned (.agg #[.int .i64 A, .int .i64 B]) ∧ Below w.heap.size w w' := by
  go_enter Tryd.func90, Tryd.ntmps90
  go_wp2_with fail
  refine wp_region_grow_tail 7 Tryd.mixed (by kernel_rfl) ?_
  simp only [List.take_succ_cons, List.take_zero, List.drop_succ_cons, List.drop_zero]
  repeat (quiet_step ((first | (go_at_call_of 42 (Value.int .i64 a); exact grow_same (refMod_e a 4051 A _ a0 a1 (by omega) (by omega) hA)) | (go_at_call 42; exact grow_same (refMod_e b 4051 B _ b0 b1 (by omega) (by omega) hB)))))
  refine wpQuiet_nil ?_
  intro _ hw'
  obtain ⟨x1, rfl⟩ := hw'
  have z1 := x1.h.size
  try simp only [World.size_alloc, World.size_setCell, World.size_drew] at z1
  have s1_0 : w.heap.size < x1.w.heap.size := by omega
  have s1_1 : w.heap.size + 1 < x1.w.heap.size := by omega
  have hB1 : Below w.heap.size w x1.w := below_seq (by repeat (first | exact Below.refl _ _ | refine balloc ?_ _ | refine Below.drew ?_ | refine below_drewN ?_ _ | refine below_set ?_ (by first | omega | (dsimp only; omega)) _)) x1.h
  have r0 : x1.w.cell? ⟨w.heap.size + 1, 0, none⟩ = some (.int .i64 0) := by go_simp
  have r1 : x1.w.cell? ⟨w.heap.size + 1, 1, none⟩ = some (.int .i64 0) := by go_simp
  go_wp2
  have k := set2_cell (w := x1.w) (x := .int .i64 A) (y := .int .i64 B) r0 r1
  refine bodyPost_ret (v := .agg #[.int .i64 A, .int .i64 B]) (by simp [results, Tryd.results90, go_sem, k.1, k.2]) rfl ⟨rfl, set2_below (by repeat (first | exact hB1 | exact Below.refl _ _ | refine balloc ?_ _ | refine Below.drew ?_ | refine below_drewN ?_ _ | refine below_set ?_ (by first | omega | (dsimp only; omega)) _)) (by omega)⟩
set_option maxHeartbeats 2000000 in
theorem refTwinMul_core (a b c d R I : Int) (w : World) (a0 : 0 ≤ a) (a1 : a < 4051) (b0 : 0 ≤ b) (b1 : b < 4051) (u0 : 0 ≤ c) (u1 : c < 4051) (v0 : 0 ≤ d) (v1 : d < 4051) (p0 : 0 ≤ a * c) (p1 : a * c ≤ 16402500) (q0 : 0 ≤ b * d) (q1 : b * d ≤ 16402500) (r2 : 0 ≤ a * d) (r3 : a * d ≤ 16402500) (t0 : 0 ≤ b * c) (t1 : b * c ≤ 16402500) (ha : Hid (a % 4051 = a)) (hb2 : Hid (b % 4051 = b)) (hc : Hid (c % 4051 = c)) (hd : Hid (d % 4051 = d)) (hR : Hid ((a * c - b * d) % 4051 = R)) (hI : Hid ((a * d + b * c) % 4051 = I)) : Calls Tryd.prog 23 #[.agg #[.int .i64 a, .int .i64 b], .agg #[.int .i64 c, .int .i64 d]] w fun e w' => e = .returned (.agg #[.int .i64 R, .int .i64 I]) ∧ Below w.heap.size w w' := by
  have e0 : IntKind.i64.wrap (a * c) = a * c := IntWalk.i64_in _ (by omega)
  have e1 : IntKind.i64.wrap (b * d) = b * d := IntWalk.i64_in _ (by omega)
  have e2 : IntKind.i64.wrap (a * c - b * d) = a * c - b * d := IntWalk.i64_in _ (by omega)
  have e3 : IntKind.i64.wrap (a * d) = a * d := IntWalk.i64_in _ (by omega)
  have e4 : IntKind.i64.wrap (b * c) = b * c := IntWalk.i64_in _ (by omega)
  have e5 : IntKind.i64.wrap (a * d + b * c) = a * d + b * c := IntWalk.i64_in _ (by omega)
  go_enter Tryd.func23, Tryd.ntmps23
  go_wp2_with fail
  refine (refTwin_e a b a b _ (by omega) (by omega) (by omega) (by omega) ha hb2).mono ?_; rintro e w1 ⟨rfl, hb⟩
  obtain ⟨hc1, hf1⟩ := bcell hb
  have z1 := hb.size
  try simp only [World.size_alloc, World.size_setCell, World.size_drew] at z1
  have s1_0 : w.heap.size < w1.heap.size := by omega
  have s1_1 : w.heap.size + 1 < w1.heap.size := by omega
  have s1_2 : w.heap.size + 1 + 1 < w1.heap.size := by omega
  have hB1 : Below w.heap.size w w1 := below_seq (by repeat (first | exact Below.refl _ _ | refine balloc ?_ _ | refine Below.drew ?_ | refine below_drewN ?_ _ | refine below_set ?_ (by first | omega | (dsimp only; omega)) _)) hb
  clear hb
  go_wp2_with fail
  refine (refTwin_e c d c d _ (by omega) (by omega) (by omega) (by omega) hc hd).mono ?_; rintro e w2 ⟨rfl, hb⟩
  obtain ⟨hc2, hf2⟩ := bcell hb
  have z2 := hb.size
  try simp only [World.size_alloc, World.size_setCell, World.size_drew] at z2
  have s2_0 : w.heap.size < w2.heap.size := by omega
  have s2_1 : w.heap.size + 1 < w2.heap.size := by omega
  have s2_2 : w.heap.size + 1 + 1 < w2.heap.size := by omega
  have s2_3 : w1.heap.size < w2.heap.size := by omega
  have hB2 : Below w.heap.size w w2 := below_seq (by repeat (first | exact hB1 | exact Below.refl _ _ | refine balloc ?_ _ | refine Below.drew ?_ | refine below_drewN ?_ _ | refine below_set ?_ (by first | omega | (dsimp only; omega)) _)) hb
  clear hb
  go_wp2_with fail
  refine wp_region_grow_tail 25 Tryd.mixed (by kernel_rfl) ?_
  simp only [List.take_succ_cons, List.take_zero, List.drop_succ_cons, List.drop_zero]
  repeat (quiet_step ((first | (go_at_call_of 42 (Value.int .i64 (a * c - b * d)); exact grow_same (refMod_e (a * c - b * d) 4051 R _ (by omega) (by omega) (by omega) (by omega) hR)) | (go_at_call 42; exact grow_same (refMod_e (a * d + b * c) 4051 I _ (by omega) (by omega) (by omega) (by omega) hI)))))
  refine wpQuiet_nil ?_
  intro _ hw'
  obtain ⟨x3, rfl⟩ := hw'
  have z3 := x3.h.size
  try simp only [World.size_alloc, World.size_setCell, World.size_drew] at z3
  have s3_0 : w.heap.size < x3.w.heap.size := by omega
  have s3_1 : w.heap.size + 1 < x3.w.heap.size := by omega
  have s3_2 : w.heap.size + 1 + 1 < x3.w.heap.size := by omega
  have s3_3 : w1.heap.size < x3.w.heap.size := by omega
  have s3_4 : w2.heap.size < x3.w.heap.size := by omega
  have hB3 : Below w.heap.size w x3.w := below_seq (by repeat (first | exact hB2 | exact Below.refl _ _ | refine balloc ?_ _ | refine Below.drew ?_ | refine below_drewN ?_ _ | refine below_set ?_ (by first | omega | (dsimp only; omega)) _)) x3.h
  have m0 : x3.w.cell? ⟨w.heap.size + 1 + 1, 0, none⟩ = some (.int .i64 0) := by go_simp
  have m1 : x3.w.cell? ⟨w.heap.size + 1 + 1, 1, none⟩ = some (.int .i64 0) := by go_simp
  go_wp2
  have k := set2_cell (w := x3.w) (x := .int .i64 R) (y := .int .i64 I) m0 m1
  refine bodyPost_ret (v := .agg #[.int .i64 R, .int .i64 I]) (by simp [results, Tryd.results23, go_sem, k.1, k.2]) rfl ⟨rfl, set2_below (by repeat (first | exact hB3 | exact Below.refl _ _ | refine balloc ?_ _ | refine Below.drew ?_ | refine below_drewN ?_ _ | refine below_set ?_ (by first | omega | (dsimp only; omega)) _)) (by omega)⟩
theorem refTwinMul_c (y z : Z) (w : World) : Calls Tryd.prog 23 #[twR y, twR z] w fun e w' => e = .returned (twR (y.mul z)) ∧ Below w.heap.size w w' := by
  have ha := fz_lt y.re; have hb := fz_lt y.im; have hc := fz_lt z.re; have hd := fz_lt z.im
  have m1 := mul_bd ha hc; have m2 := mul_bd hb hd; have m3 := mul_bd ha hd; have m4 := mul_bd hb hc
  refine refTwinMul_core _ _ _ _ _ _ w ha.1 ha.2 hb.1 hb.2 hc.1 hc.2 hd.1 hd.2 m1.1 m1.2 m2.1 m2.2 m3.1 m3.2 m4.1 m4.2 (Int.emod_eq_of_lt ha.1 ha.2) (Int.emod_eq_of_lt hb.1 hb.2) (Int.emod_eq_of_lt hc.1 hc.2) (Int.emod_eq_of_lt hd.1 hd.2) ?_ ?_
  · show _ = fz (y.mul z).re
    refine fi_inj ⟨Int.emod_nonneg _ (by decide), Int.emod_lt_of_pos _ (by decide)⟩ (fz_lt _) ?_
    rw [fi_mod, fi_sub, fi_mul, fi_mul, fi_fz, fi_fz, fi_fz, fi_fz, fi_fz]; rfl
  · show _ = fz (y.mul z).im
    refine fi_inj ⟨Int.emod_nonneg _ (by decide), Int.emod_lt_of_pos _ (by decide)⟩ (fz_lt _) ?_
    rw [fi_mod, fi_add, fi_mul, fi_mul, fi_fz, fi_fz, fi_fz, fi_fz, fi_fz]; rfl
end Go.Proofs.YtfnifdmnbccblaaDoor
