/- Walks of the document's answer, the greater field: TwinPower. -/
import Derived.Laws.Entries
import Derived.Test.YtfnifdmnbccblaaDoorRt
namespace Go.Proofs.YtfnifdmnbccblaaDoor
open Go.RowKit
set_option maxRecDepth 100000
set_option linter.unusedVariables false
set_option linter.unusedSimpArgs false
theorem refTwinMul_e (y z v : Z) (w : World) (h : Hid (y.mul z = v)) : Calls Tryd.prog 23 #[twR y, twR z] w fun e w' => e = .returned (twR v) ∧ Below w.heap.size w w' := by
  have := refTwinMul_c y z w; rw [h.out] at this; exact this
set_option maxHeartbeats 1000000 in
theorem refTwinPower_0 (a : Z) (w : World) : Calls Tryd.prog 86 #[twR a, .int .i64 0] w fun e w' => e = .returned (.agg #[.int .i64 1, .int .i64 0]) ∧ Below w.heap.size w w' := by
  go_enter Tryd.func86, Tryd.ntmps86
  go_wp2
  refine bodyPost_ret (v := .agg #[.int .i64 1, .int .i64 0]) (by simp [results, Tryd.results86, go_sem]) rfl ⟨rfl, ?_⟩
  repeat (first | exact Below.refl _ _ | refine Below.drew ?_ | refine balloc ?_ _ | refine below_set ?_ (by simp) _)
set_option maxHeartbeats 2000000 in
theorem refTwinPower_even (a H V : Z) (k : Int) (w : World) (k0 : 0 < k) (k1 : k ≤ 9223372036854775807) (hp : (k % 2 == 1) = false)
    (hr : Hid (∀ w : World, Calls Tryd.prog 86 #[twR a, .int .i64 (k / 2)] w fun e w' => e = .returned (twR H) ∧ Below w.heap.size w w')) (hV : Hid (H.mul H = V)) : Calls Tryd.prog 86 #[twR a, .int .i64 k] w fun e w' => e = .returned (twR V) ∧ Below w.heap.size w w' := by
  go_enter Tryd.func86, Tryd.ntmps86
  go_wp2_with fail
  refine (hr.out _).mono ?_; rintro e w1 ⟨rfl, hb⟩
  obtain ⟨hc1, hf1⟩ := bcell hb
  have z1 := hb.size
  try simp only [World.size_alloc, World.size_setCell, World.size_drew] at z1
  have s1_0 : w.heap.size < w1.heap.size := by omega
  have s1_1 : w.heap.size + 1 < w1.heap.size := by omega
  have hB1 : Below w.heap.size w w1 := below_seq (by repeat (first | exact Below.refl _ _ | refine balloc ?_ _ | refine Below.drew ?_ | refine below_drewN ?_ _ | refine below_set ?_ (by first | omega | (dsimp only; omega)) _)) hb
  clear hb
  have m1_0_0 : w1.cell? ⟨w.heap.size, 0, none⟩ = some (.int .i64 (fz a.re)) := by go_simp
  have m1_0_1 : w1.cell? ⟨w.heap.size, 1, none⟩ = some (.int .i64 (fz a.im)) := by go_simp
  have m1_1_0 : w1.cell? ⟨w.heap.size + 1, 0, none⟩ = some (.int .i64 0) := by go_simp
  have m1_1_1 : w1.cell? ⟨w.heap.size + 1, 1, none⟩ = some (.int .i64 0) := by go_simp
  go_wp2_with fail
  refine (refTwinMul_e H H V _ hV).mono ?_; rintro e w2 ⟨rfl, hb⟩
  obtain ⟨hc2, hf2⟩ := bcell hb
  have z2 := hb.size
  try simp only [World.size_alloc, World.size_setCell, World.size_drew] at z2
  have s2_0 : w.heap.size < w2.heap.size := by omega
  have s2_1 : w.heap.size + 1 < w2.heap.size := by omega
  have s2_2 : w1.heap.size < w2.heap.size := by omega
  have hB2 : Below w.heap.size w w2 := below_seq (by repeat (first | exact hB1 | exact Below.refl _ _ | refine balloc ?_ _ | refine Below.drew ?_ | refine below_drewN ?_ _ | refine below_set ?_ (by first | omega | (dsimp only; omega)) _)) hb
  clear hb
  have m2_0_0 : w2.cell? ⟨w.heap.size, 0, none⟩ = some (.int .i64 (fz a.re)) := by go_simp
  have m2_0_1 : w2.cell? ⟨w.heap.size, 1, none⟩ = some (.int .i64 (fz a.im)) := by go_simp
  have m2_1_0 : w2.cell? ⟨w.heap.size + 1, 0, none⟩ = some (.int .i64 0) := by go_simp
  have m2_1_1 : w2.cell? ⟨w.heap.size + 1, 1, none⟩ = some (.int .i64 0) := by go_simp
  have m2_2_0 : w2.cell? ⟨w1.heap.size, 0, none⟩ = some (.int .i64 (fz H.re)) := by go_simp
  have m2_2_1 : w2.cell? ⟨w1.heap.size, 1, none⟩ = some (.int .i64 (fz H.im)) := by go_simp
  clear m1_0_0 m1_0_1 m1_1_0 m1_1_1
  go_wp2
  have q0 := (set2_other (w := w2) (b := w1.heap.size) (c := w.heap.size + 1) (k := 0) (x := .int .i64 (fz V.re)) (y := .int .i64 (fz V.im)) (by omega)).trans m2_1_0
  have q1 := (set2_other (w := w2) (b := w1.heap.size) (c := w.heap.size + 1) (k := 1) (x := .int .i64 (fz V.re)) (y := .int .i64 (fz V.im)) (by omega)).trans m2_1_1
  have k := set2_cell (x := .int .i64 (fz V.re)) (y := .int .i64 (fz V.im)) q0 q1
  refine bodyPost_ret (v := twR V) (by simp [results, Tryd.results86, go_sem, k.1, k.2]) rfl ⟨rfl, set2_below (set2_below hB2 (by omega)) (by omega)⟩
set_option maxHeartbeats 2000000 in
theorem refTwinPower_odd (a H G V : Z) (k : Int) (w : World) (k0 : 0 < k) (k1 : k ≤ 9223372036854775807) (hp : (k % 2 == 1) = true)
    (hr : Hid (∀ w : World, Calls Tryd.prog 86 #[twR a, .int .i64 (k / 2)] w fun e w' => e = .returned (twR H) ∧ Below w.heap.size w w')) (hG : Hid (H.mul H = G)) (hV : Hid (G.mul a = V)) : Calls Tryd.prog 86 #[twR a, .int .i64 k] w fun e w' => e = .returned (twR V) ∧ Below w.heap.size w w' := by
  go_enter Tryd.func86, Tryd.ntmps86
  go_wp2_with fail
  refine (hr.out _).mono ?_; rintro e w1 ⟨rfl, hb⟩
  obtain ⟨hc1, hf1⟩ := bcell hb
  have z1 := hb.size
  try simp only [World.size_alloc, World.size_setCell, World.size_drew] at z1
  have s1_0 : w.heap.size < w1.heap.size := by omega
  have s1_1 : w.heap.size + 1 < w1.heap.size := by omega
  have hB1 : Below w.heap.size w w1 := below_seq (by repeat (first | exact Below.refl _ _ | refine balloc ?_ _ | refine Below.drew ?_ | refine below_drewN ?_ _ | refine below_set ?_ (by first | omega | (dsimp only; omega)) _)) hb
  clear hb
  have m1_0_0 : w1.cell? ⟨w.heap.size, 0, none⟩ = some (.int .i64 (fz a.re)) := by go_simp
  have m1_0_1 : w1.cell? ⟨w.heap.size, 1, none⟩ = some (.int .i64 (fz a.im)) := by go_simp
  have m1_1_0 : w1.cell? ⟨w.heap.size + 1, 0, none⟩ = some (.int .i64 0) := by go_simp
  have m1_1_1 : w1.cell? ⟨w.heap.size + 1, 1, none⟩ = some (.int .i64 0) := by go_simp
  go_wp2_with fail
  refine (refTwinMul_e H H G _ hG).mono ?_; rintro e w2 ⟨rfl, hb⟩
  obtain ⟨hc2, hf2⟩ := bcell hb
  have z2 := hb.size
  try simp only [World.size_alloc, World.size_setCell, World.size_drew] at z2
  have s2_0 : w.heap.size < w2.heap.size := by omega
  have s2_1 : w.heap.size + 1 < w2.heap.size := by omega
  have s2_2 : w1.heap.size < w2.heap.size := by omega
  have hB2 : Below w.heap.size w w2 := below_seq (by repeat (first | exact hB1 | exact Below.refl _ _ | refine balloc ?_ _ | refine Below.drew ?_ | refine below_drewN ?_ _ | refine below_set ?_ (by first | omega | (dsimp only; omega)) _)) hb
  clear hb
  have m2_0_0 : w2.cell? ⟨w.heap.size, 0, none⟩ = some (.int .i64 (fz a.re)) := by go_simp
  have m2_0_1 : w2.cell? ⟨w.heap.size, 1, none⟩ = some (.int .i64 (fz a.im)) := by go_simp
  have m2_1_0 : w2.cell? ⟨w.heap.size + 1, 0, none⟩ = some (.int .i64 0) := by go_simp
  have m2_1_1 : w2.cell? ⟨w.heap.size + 1, 1, none⟩ = some (.int .i64 0) := by go_simp
  have m2_2_0 : w2.cell? ⟨w1.heap.size, 0, none⟩ = some (.int .i64 (fz H.re)) := by go_simp
  have m2_2_1 : w2.cell? ⟨w1.heap.size, 1, none⟩ = some (.int .i64 (fz H.im)) := by go_simp
  clear m1_0_0 m1_0_1 m1_1_0 m1_1_1
  have kG := set2_cell (w := w2) (x := .int .i64 (fz G.re)) (y := .int .i64 (fz G.im)) m2_2_0 m2_2_1
  go_wp2_with fail
  refine (refTwinMul_e G a V _ hV).mono ?_; rintro e w3 ⟨rfl, hb⟩
  obtain ⟨hc3, hf3⟩ := bcell hb
  have z3 := hb.size
  try simp only [World.size_alloc, World.size_setCell, World.size_drew] at z3
  have s3_0 : w.heap.size < w3.heap.size := by omega
  have s3_1 : w.heap.size + 1 < w3.heap.size := by omega
  have s3_2 : w1.heap.size < w3.heap.size := by omega
  have hB3 : Below w.heap.size w w3 := below_seq (by repeat (first | exact hB2 | exact Below.refl _ _ | refine balloc ?_ _ | refine Below.drew ?_ | refine below_drewN ?_ _ | refine below_set ?_ (by first | omega | (dsimp only; omega)) _)) hb
  clear hb
  have m3_0_0 : w3.cell? ⟨w.heap.size, 0, none⟩ = some (.int .i64 (fz a.re)) := by go_simp
  have m3_0_1 : w3.cell? ⟨w.heap.size, 1, none⟩ = some (.int .i64 (fz a.im)) := by go_simp
  have m3_1_0 : w3.cell? ⟨w.heap.size + 1, 0, none⟩ = some (.int .i64 0) := by go_simp
  have m3_1_1 : w3.cell? ⟨w.heap.size + 1, 1, none⟩ = some (.int .i64 0) := by go_simp
  clear m2_0_0 m2_0_1 m2_1_0 m2_1_1 m2_2_0 m2_2_1
  have g0 := (hc3 w1.heap.size 0 (by simp only [set2_size]; omega)).trans kG.1
  have g1 := (hc3 w1.heap.size 1 (by simp only [set2_size]; omega)).trans kG.2
  go_wp2
  have q0 := (set2_other (w := w3) (b := w1.heap.size) (c := w.heap.size + 1) (k := 0) (x := .int .i64 (fz V.re)) (y := .int .i64 (fz V.im)) (by omega)).trans m3_1_0
  have q1 := (set2_other (w := w3) (b := w1.heap.size) (c := w.heap.size + 1) (k := 1) (x := .int .i64 (fz V.re)) (y := .int .i64 (fz V.im)) (by omega)).trans m3_1_1
  have k := set2_cell (x := .int .i64 (fz V.re)) (y := .int .i64 (fz V.im)) q0 q1
  refine bodyPost_ret (v := twR V) (by simp [results, Tryd.results86, go_sem, k.1, k.2]) rfl ⟨rfl, set2_below (set2_below hB3 (by omega)) (by omega)⟩
theorem zp_even (z : Z) (k : Int) (h0 : 0 ≤ k) (h : k % 2 = 0) : (z.pow (k / 2).toNat).mul (z.pow (k / 2).toNat) = z.pow k.toNat := by
  rw [← Z.pow_add]; congr 1; omega
theorem zp_odd (z : Z) (k : Int) (h0 : 0 ≤ k) (h : k % 2 = 1) : ((z.pow (k / 2).toNat).mul (z.pow (k / 2).toNat)).mul z = z.pow k.toNat := by
  rw [← Z.pow_add, ← Z.pow_succ]; congr 1; omega
theorem refTwinPower_n (a : Z) : ∀ (N : Nat) (k : Int) (w : World), k.toNat ≤ N → 0 ≤ k → k ≤ 9223372036854775807 → Calls Tryd.prog 86 #[twR a, .int .i64 k] w fun e w' => e = .returned (twR (a.pow k.toNat)) ∧ Below w.heap.size w w' := by
  have zero : ∀ w : World, Calls Tryd.prog 86 #[twR a, .int .i64 0] w fun e w' => e = .returned (twR (a.pow (0 : Int).toNat)) ∧ Below w.heap.size w w' := fun w => by
    have e : twR (a.pow (0 : Int).toNat) = .agg #[.int .i64 1, .int .i64 0] := by
      rw [show (0 : Int).toNat = 0 from rfl, Z.pow_zero]
      show Value.agg #[.int .i64 (fz Z.one.re), .int .i64 (fz Z.one.im)] = _
      have h1 : fz Z.one.re = 1 := by decide
      have h2 : fz Z.one.im = 0 := by decide
      rw [h1, h2]
    rw [e]; exact refTwinPower_0 a w
  intro N
  induction N with
  | zero =>
    intro k w hN k0 k1
    obtain rfl : k = 0 := by omega
    exact zero w
  | succ N ih =>
    intro k w hN k0 k1
    by_cases h0 : k = 0
    · subst h0; exact zero w
    · have r : ∀ w : World, Calls Tryd.prog 86 #[twR a, .int .i64 (k / 2)] w fun e w' => e = .returned (twR (a.pow (k / 2).toNat)) ∧ Below w.heap.size w w' := fun w => ih (k / 2) w (by omega) (by omega) (by omega)
      cases hp : (k % 2 == 1)
      · have hp' : k % 2 = 0 := by have : ¬ k % 2 = 1 := by simpa using hp
                                   omega
        exact refTwinPower_even a _ _ k w (by omega) k1 hp r (zp_even a k k0 hp')
      · have hp' : k % 2 = 1 := by simpa using hp
        exact refTwinPower_odd a _ _ _ k w (by omega) k1 hp r rfl (zp_odd a k k0 hp')
theorem refTwinPower_e (a V : Z) (k : Int) (w : World) (k0 : 0 ≤ k) (k1 : k ≤ 9223372036854775807) (h : Hid (a.pow k.toNat = V)) : Calls Tryd.prog 86 #[twR a, .int .i64 k] w fun e w' => e = .returned (twR V) ∧ Below w.heap.size w w' := by
  have := refTwinPower_n a _ k w (Nat.le_refl _) k0 k1; rw [h.out] at this; exact this
end Go.Proofs.YtfnifdmnbccblaaDoor
