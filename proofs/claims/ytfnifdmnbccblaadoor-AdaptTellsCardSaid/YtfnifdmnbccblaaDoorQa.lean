/- Walks of the document's answer, seals: Secret, Rest, Sum, By, Ask, Sign, Seal, Right. -/
import Derived.Laws.Entries
import Derived.Test.YtfnifdmnbccblaaDoorRf
import Derived.Test.YtfnifdmnbccblaaDoorRe
import Derived.Test.YtfnifdmnbccblaaDoorRo
import Derived.Test.YtfnifdmnbccblaaDoorSv
namespace Go.Proofs.YtfnifdmnbccblaaDoor
open Go.RowKit
set_option maxRecDepth 100000
set_option linter.unusedVariables false
set_option linter.unusedSimpArgs false
set_option maxHeartbeats 400000 in
theorem rSecret_y (n : Int) (w : World) (h1 : 1 ≤ n) (h2 : n < 1013) : Calls Tryd.prog 27 #[.int .i64 n] w fun e w' => e = .returned (.bool true) ∧ w = w' := by
  go_enter Tryd.func27, Tryd.ntmps27
  go_wp2
  go_ret
  exact ⟨rfl, rfl⟩
set_option maxHeartbeats 400000 in
theorem rSecret_n (n : Int) (w : World) (h : ¬ (1 ≤ n ∧ n < 1013)) : Calls Tryd.prog 27 #[.int .i64 n] w fun e w' => e = .returned (.bool false) ∧ w = w' := by
  by_cases h1 : 1 ≤ n
  · have h2 : ¬ n < 1013 := fun c => h ⟨h1, c⟩
    clear h
    go_enter Tryd.func27, Tryd.ntmps27
    go_wp2
    go_ret
    exact ⟨rfl, rfl⟩
  · clear h
    go_enter Tryd.func27, Tryd.ntmps27
    go_wp2
    go_ret
    exact ⟨rfl, rfl⟩
set_option maxHeartbeats 400000 in
theorem rRest_y (n : Int) (w : World) (h1 : 0 ≤ n) (h2 : n < 1013) : Calls Tryd.prog 40 #[.int .i64 n] w fun e w' => e = .returned (.bool true) ∧ w = w' := by
  go_enter Tryd.func40, Tryd.ntmps40
  go_wp2
  go_ret
  exact ⟨rfl, rfl⟩
set_option maxHeartbeats 400000 in
theorem rRest_n (n : Int) (w : World) (h : ¬ (0 ≤ n ∧ n < 1013)) : Calls Tryd.prog 40 #[.int .i64 n] w fun e w' => e = .returned (.bool false) ∧ w = w' := by
  by_cases h1 : 0 ≤ n
  · have h2 : ¬ n < 1013 := fun c => h ⟨h1, c⟩
    clear h
    go_enter Tryd.func40, Tryd.ntmps40
    go_wp2
    go_ret
    exact ⟨rfl, rfl⟩
  · clear h
    go_enter Tryd.func40, Tryd.ntmps40
    go_wp2
    go_ret
    exact ⟨rfl, rfl⟩
/-- Both, as Booleans. -/
def secB (n : Int) : Bool := decide (1 ≤ n ∧ n < 1013)
def resB (n : Int) : Bool := decide (0 ≤ n ∧ n < 1013)
theorem rSecret_b (n : Int) (b : Bool) (w : World) (h : Hid (secB n = b)) : Calls Tryd.prog 27 #[.int .i64 n] w fun e w' => e = .returned (.bool b) ∧ w = w' := by
  rw [← h.out]; unfold secB
  by_cases c : 1 ≤ n ∧ n < 1013
  · rw [decide_eq_true c]; exact rSecret_y n w c.1 c.2
  · rw [decide_eq_false c]; exact rSecret_n n w c
theorem rRest_b (n : Int) (b : Bool) (w : World) (h : Hid (resB n = b)) : Calls Tryd.prog 40 #[.int .i64 n] w fun e w' => e = .returned (.bool b) ∧ w = w' := by
  rw [← h.out]; unfold resB
  by_cases c : 0 ≤ n ∧ n < 1013
  · rw [decide_eq_true c]; exact rRest_y n w c.1 c.2
  · rw [decide_eq_false c]; exact rRest_n n w c
theorem refTimes_b (n : Int) (c : Sp) (w : World) (n0 : -9223372036854775808 ≤ n) (n1 : n ≤ 9223372036854775807) (h : Hid (sq (4 * n) = c)) : Calls Tryd.prog 31 #[spV ⟨1189, 3667, false⟩, .int .i64 n] w fun e w' => e = .returned (spV c) ∧ Below w.heap.size w w' :=
  refTimes_e ⟨1189, 3667, false⟩ c 4 n w n0 n1 sq_4.symm h
set_option maxHeartbeats 1000000 in
theorem refBy_e (n : Int) (c : Sp) (w : World) (n0 : -9223372036854775808 ≤ n) (n1 : n ≤ 9223372036854775807) (h : Hid (sq (4 * n) = c)) : Calls Tryd.prog 37 #[.int .i64 n] w fun e w' => e = .returned (spV c) ∧ Below w.heap.size w w' := by
  go_enter Tryd.func37, Tryd.ntmps37
  go_wp2_with fail
  refine (refBase_k _).mono ?_; rintro e w1 ⟨rfl, hb⟩
  obtain ⟨hc1, hf1⟩ := bcell hb
  have z1 := hb.size
  try simp only [World.size_alloc, World.size_setCell, World.size_drew] at z1
  have s1_0 : w.heap.size < w1.heap.size := by omega
  have hB1 : Below w.heap.size w w1 := below_seq (by repeat (first | exact Below.refl _ _ | refine balloc ?_ _ | refine Below.drew ?_ | refine below_drewN ?_ _ | refine below_set ?_ (by first | omega | (dsimp only; omega)) _)) hb
  clear hb
  go_wp2_with fail
  refine (refTimes_b n c _ n0 n1 h).mono ?_; rintro e w2 ⟨rfl, hb⟩
  obtain ⟨hc2, hf2⟩ := bcell hb
  have z2 := hb.size
  try simp only [World.size_alloc, World.size_setCell, World.size_drew] at z2
  have s2_0 : w.heap.size < w2.heap.size := by omega
  have hB2 : Below w.heap.size w w2 := below_seq (by repeat (first | exact hB1 | exact Below.refl _ _ | refine balloc ?_ _ | refine Below.drew ?_ | refine below_drewN ?_ _ | refine below_set ?_ (by first | omega | (dsimp only; omega)) _)) hb
  clear hb
  have r0 : w2.cell? ⟨w.heap.size, 0, none⟩ = some (.int .i64 0) := by go_simp
  have r1 : w2.cell? ⟨w.heap.size, 1, none⟩ = some (.int .i64 0) := by go_simp
  have r2 : w2.cell? ⟨w.heap.size, 2, none⟩ = some (.bool false) := by go_simp
  go_wp2
  have k := set3_cell (w := w2) (x := .int .i64 (c).x) (y := .int .i64 (c).y) (z := .bool (c).far) r0 r1 r2
  refine bodyPost_ret (v := spV (c)) (by simp [results, Tryd.results37, go_sem, k.1, k.2.1, k.2.2]) rfl ⟨rfl, set3_below (by repeat (first | exact hB2 | exact Below.refl _ _ | refine balloc ?_ _ | refine Below.drew ?_ | refine below_drewN ?_ _ | refine below_set ?_ (by first | omega | (dsimp only; omega)) _)) (by omega)⟩
set_option maxHeartbeats 2000000 in
theorem refSum_e (n m u : Int) (s A B C : Sp) (w : World) (n0 : -9223372036854775808 ≤ n) (n1 : n ≤ 9223372036854775807) (m0 : -9223372036854775808 ≤ m) (m1 : m ≤ 9223372036854775807) (hs : Hid (s = sq u)) (hA : Hid (sq (4 * n) = A)) (hB' : Hid (sq (u * m) = B)) (oA : Ok A) (oB : Ok B) (hC : Hid (sSum A B = C)) : Calls Tryd.prog 29 #[.int .i64 n, .int .i64 m, spV s] w fun e w' => e = .returned (spV C) ∧ Below w.heap.size w w' := by
  go_enter Tryd.func29, Tryd.ntmps29
  go_wp2_with fail
  refine (refBase_k _).mono ?_; rintro e w1 ⟨rfl, hb⟩
  obtain ⟨hc1, hf1⟩ := bcell hb
  have z1 := hb.size
  try simp only [World.size_alloc, World.size_setCell, World.size_drew] at z1
  have s1_0 : w.heap.size < w1.heap.size := by omega
  have s1_1 : w.heap.size + 1 < w1.heap.size := by omega
  have hB1 : Below w.heap.size w w1 := below_seq (by repeat (first | exact Below.refl _ _ | refine balloc ?_ _ | refine Below.drew ?_ | refine below_drewN ?_ _ | refine below_set ?_ (by first | omega | (dsimp only; omega)) _)) hb
  clear hb
  go_wp2_with fail
  refine (refTimes_b n A _ n0 n1 hA).mono ?_; rintro e w2 ⟨rfl, hb⟩
  obtain ⟨hc2, hf2⟩ := bcell hb
  have z2 := hb.size
  try simp only [World.size_alloc, World.size_setCell, World.size_drew] at z2
  have s2_0 : w.heap.size < w2.heap.size := by omega
  have s2_1 : w.heap.size + 1 < w2.heap.size := by omega
  have hB2 : Below w.heap.size w w2 := below_seq (by repeat (first | exact hB1 | exact Below.refl _ _ | refine balloc ?_ _ | refine Below.drew ?_ | refine below_drewN ?_ _ | refine below_set ?_ (by first | omega | (dsimp only; omega)) _)) hb
  clear hb
  go_wp2_with fail
  refine (refTimes_e s B u m _ m0 m1 hs hB').mono ?_; rintro e w3 ⟨rfl, hb⟩
  obtain ⟨hc3, hf3⟩ := bcell hb
  have z3 := hb.size
  try simp only [World.size_alloc, World.size_setCell, World.size_drew] at z3
  have s3_0 : w.heap.size < w3.heap.size := by omega
  have s3_1 : w.heap.size + 1 < w3.heap.size := by omega
  have s3_2 : w2.heap.size < w3.heap.size := by omega
  have hB3 : Below w.heap.size w w3 := below_seq (by repeat (first | exact hB2 | exact Below.refl _ _ | refine balloc ?_ _ | refine Below.drew ?_ | refine below_drewN ?_ _ | refine below_set ?_ (by first | omega | (dsimp only; omega)) _)) hb
  clear hb
  have m3_0_0 : w3.cell? ⟨w2.heap.size, 0, none⟩ = some (.int .i64 A.x) := by go_simp
  have m3_0_1 : w3.cell? ⟨w2.heap.size, 1, none⟩ = some (.int .i64 A.y) := by go_simp
  have m3_0_2 : w3.cell? ⟨w2.heap.size, 2, none⟩ = some (.bool A.far) := by go_simp
  go_wp2_with fail
  refine (refAdd_e A B C _ oA oB hC).mono ?_; rintro e w4 ⟨rfl, hb⟩
  obtain ⟨hc4, hf4⟩ := bcell hb
  have z4 := hb.size
  try simp only [World.size_alloc, World.size_setCell, World.size_drew] at z4
  have s4_0 : w.heap.size < w4.heap.size := by omega
  have s4_1 : w.heap.size + 1 < w4.heap.size := by omega
  have s4_2 : w2.heap.size < w4.heap.size := by omega
  have s4_3 : w3.heap.size < w4.heap.size := by omega
  have hB4 : Below w.heap.size w w4 := below_seq (by repeat (first | exact hB3 | exact Below.refl _ _ | refine balloc ?_ _ | refine Below.drew ?_ | refine below_drewN ?_ _ | refine below_set ?_ (by first | omega | (dsimp only; omega)) _)) hb
  clear hb
  have m4_0_0 : w4.cell? ⟨w2.heap.size, 0, none⟩ = some (.int .i64 A.x) := by go_simp
  have m4_0_1 : w4.cell? ⟨w2.heap.size, 1, none⟩ = some (.int .i64 A.y) := by go_simp
  have m4_0_2 : w4.cell? ⟨w2.heap.size, 2, none⟩ = some (.bool A.far) := by go_simp
  have m4_1_0 : w4.cell? ⟨w3.heap.size, 0, none⟩ = some (.int .i64 B.x) := by go_simp
  have m4_1_1 : w4.cell? ⟨w3.heap.size, 1, none⟩ = some (.int .i64 B.y) := by go_simp
  have m4_1_2 : w4.cell? ⟨w3.heap.size, 2, none⟩ = some (.bool B.far) := by go_simp
  clear m3_0_0 m3_0_1 m3_0_2
  have r0 : w4.cell? ⟨w.heap.size + 1, 0, none⟩ = some (.int .i64 0) := by go_simp
  have r1 : w4.cell? ⟨w.heap.size + 1, 1, none⟩ = some (.int .i64 0) := by go_simp
  have r2 : w4.cell? ⟨w.heap.size + 1, 2, none⟩ = some (.bool false) := by go_simp
  go_wp2
  have k := set3_cell (w := w4) (x := .int .i64 (C).x) (y := .int .i64 (C).y) (z := .bool (C).far) r0 r1 r2
  refine bodyPost_ret (v := spV (C)) (by simp [results, Tryd.results29, go_sem, k.1, k.2.1, k.2.2]) rfl ⟨rfl, set3_below (by repeat (first | exact hB4 | exact Below.refl _ _ | refine balloc ?_ _ | refine Below.drew ?_ | refine below_drewN ?_ _ | refine below_set ?_ (by first | omega | (dsimp only; omega)) _)) (by omega)⟩
set_option maxHeartbeats 1000000 in
theorem rAsk_e (r key : Sp) (t : ByteArray) (c : Int) (w : World) (hr : Ok r) (hk : Ok key) (hz : t.size ≤ 60) (h : Hid (askN r key t.data.toList = c)) : Calls Tryd.prog 28 #[spV r, spV key, .string t] w fun e w' => e = .returned (.int .i64 c) ∧ Below w.heap.size w w' := by
  rw [← h.out]
  have z1 := sBytes_size r
  have z2 := sBytes_size key
  have n1 : ¬ (9223372036854775807 < (sBytes r).size + (sBytes key).size) := by omega
  have n2 : ¬ (9223372036854775807 < (sBytes r).size + (sBytes key).size + t.size) := by omega
  have z4 : Hid ((sBytes r ++ sBytes key ++ t).size ≤ 9223372036854775807) := by show _ ≤ _; rw [ByteArray.size_append, ByteArray.size_append]; omega
  go_enter Tryd.func28, Tryd.ntmps28
  go_wp2_with fail
  refine wp_region_grow Tryd.mixed (by kernel_rfl) ?_
  repeat (quiet_step ((first | (go_at_call 93; exact grow_of (refBytes_c _ _ (by assumption))) | (go_at_call 92; exact grow_of (refNumber_c _ _ z4.out)))))
  refine wpQuiet_nil ?_
  intro _ hw'
  obtain ⟨x, rfl⟩ := hw'
  go_wp2
  go_ret
  exact ⟨rfl, below_seq (balloc (below_alloc _ _) _) x.h⟩
end Go.Proofs.YtfnifdmnbccblaaDoor
