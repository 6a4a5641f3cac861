/- Walks of the document's answer, texts: Times, Base, Long, Number, Of. -/
import Derived.Test.YtjjmelhhalomaaaGreatDoorRb
import Derived.Test.YtjjmelhhalomaaaGreatDoorHa
namespace Go.Proofs.YtjjmelhhalomaaaGreatDoor
open Go.RowKit
set_option maxRecDepth 100000
set_option linter.unusedVariables false
set_option linter.unusedSimpArgs false
set_option maxHeartbeats 1000000 in
theorem refTimes_0 (a : Sp) (n : Int) (w : World) (n0 : -9223372036854775808 ≤ n) (n1 : n ≤ 9223372036854775807) (hm : Hid (n % 4052 = 0)) : Calls Tryz.prog 74 #[spV a, .int .i64 n] w fun e w' => e = .returned (spV ⟨0, 0, true⟩) ∧ Below w.heap.size w w' := by
  go_enter Tryz.func74, Tryz.ntmps74
  go_wp2_with fail
  refine (refMod_e n 4052 0 _ n0 n1 (by omega) (by omega) hm).mono ?_; rintro e w' ⟨rfl, rfl⟩
  go_wp2
  refine bodyPost_ret (v := spV ⟨0, 0, true⟩) (by simp [results, Tryz.results74, go_sem]) rfl ⟨rfl, ?_⟩
  repeat (first | exact Below.refl _ _ | refine Below.drew ?_ | refine balloc ?_ _ | refine below_set ?_ (by simp) _)
set_option maxHeartbeats 2000000 in
theorem refTimes_even (a H V : Sp) (n m : Int) (w : World) (n0 : -9223372036854775808 ≤ n) (n1 : n ≤ 9223372036854775807) (m0 : 0 < m) (m1 : m < 4052) (hm : Hid (n % 4052 = m)) (hp : (m % 2 == 1) = false)
    (hr : Hid (∀ w : World, Calls Tryz.prog 74 #[spV a, .int .i64 (m / 2)] w fun e w' => e = .returned (spV H) ∧ Below w.heap.size w w')) (oH : Ok H) (hV : Hid (sSum H H = V)) : Calls Tryz.prog 74 #[spV a, .int .i64 n] w fun e w' => e = .returned (spV V) ∧ Below w.heap.size w w' := by
  go_enter Tryz.func74, Tryz.ntmps74
  go_wp2_with fail
  refine (refMod_e n 4052 m _ n0 n1 (by omega) (by omega) hm).mono ?_; rintro e w' ⟨rfl, rfl⟩
  go_wp2_with fail
  refine (hr.out _).mono ?_; rintro e w1 ⟨rfl, hb⟩
  obtain ⟨hc1, hf1⟩ := bcell hb
  have z1 := hb.size
  try simp only [World.size_alloc, World.size_setCell, World.size_drew] at z1
  have s1_0 : w.heap.size < w1.heap.size := by omega
  have s1_1 : w.heap.size + 1 < w1.heap.size := by omega
  have hB1 : Below w.heap.size w w1 := below_seq (by repeat (first | exact Below.refl _ _ | refine balloc ?_ _ | refine Below.drew ?_ | refine below_drewN ?_ _ | refine below_set ?_ (by first | omega | (dsimp only; omega)) _)) hb
  clear hb
  have m1_0_0 : w1.cell? ⟨w.heap.size, 0, none⟩ = some (.int .i64 a.x) := by go_simp
  have m1_0_1 : w1.cell? ⟨w.heap.size, 1, none⟩ = some (.int .i64 a.y) := by go_simp
  have m1_0_2 : w1.cell? ⟨w.heap.size, 2, none⟩ = some (.bool a.far) := by go_simp
  have m1_1_0 : w1.cell? ⟨w.heap.size + 1, 0, none⟩ = some (.int .i64 0) := by go_simp
  have m1_1_1 : w1.cell? ⟨w.heap.size + 1, 1, none⟩ = some (.int .i64 0) := by go_simp
  have m1_1_2 : w1.cell? ⟨w.heap.size + 1, 2, none⟩ = some (.bool false) := by go_simp
  go_wp2_with fail
  refine (refAdd_e H H V _ oH oH hV).mono ?_; rintro e w2 ⟨rfl, hb⟩
  obtain ⟨hc2, hf2⟩ := bcell hb
  have z2 := hb.size
  try simp only [World.size_alloc, World.size_setCell, World.size_drew] at z2
  have s2_0 : w.heap.size < w2.heap.size := by omega
  have s2_1 : w.heap.size + 1 < w2.heap.size := by omega
  have s2_2 : w1.heap.size < w2.heap.size := by omega
  have hB2 : Below w.heap.size w w2 := below_seq (by repeat (first | exact hB1 | exact Below.refl _ _ | refine balloc ?_ _ | refine Below.drew ?_ | refine below_drewN ?_ _ | refine below_set ?_ (by first | omega | (dsimp only; omega)) _)) hb
  clear hb
  have m2_0_0 : w2.cell? ⟨w.heap.size, 0, none⟩ = some (.int .i64 a.x) := by go_simp
  have m2_0_1 : w2.cell? ⟨w.heap.size, 1, none⟩ = some (.int .i64 a.y) := by go_simp
  have m2_0_2 : w2.cell? ⟨w.heap.size, 2, none⟩ = some (.bool a.far) := by go_simp
  have m2_1_0 : w2.cell? ⟨w.heap.size + 1, 0, none⟩ = some (.int .i64 0) := by go_simp
  have m2_1_1 : w2.cell? ⟨w.heap.size + 1, 1, none⟩ = some (.int .i64 0) := by go_simp
  have m2_1_2 : w2.cell? ⟨w.heap.size + 1, 2, none⟩ = some (.bool false) := by go_simp
  have m2_2_0 : w2.cell? ⟨w1.heap.size, 0, none⟩ = some (.int .i64 H.x) := by go_simp
  have m2_2_1 : w2.cell? ⟨w1.heap.size, 1, none⟩ = some (.int .i64 H.y) := by go_simp
  have m2_2_2 : w2.cell? ⟨w1.heap.size, 2, none⟩ = some (.bool H.far) := by go_simp
  clear m1_0_0 m1_0_1 m1_0_2 m1_1_0 m1_1_1 m1_1_2
  go_wp2
  have q0 := (set3_other (w := w2) (b := w1.heap.size) (c := w.heap.size + 1) (k := 0) (x := .int .i64 V.x) (y := .int .i64 V.y) (z := .bool V.far) (by omega)).trans m2_1_0
  have q1 := (set3_other (w := w2) (b := w1.heap.size) (c := w.heap.size + 1) (k := 1) (x := .int .i64 V.x) (y := .int .i64 V.y) (z := .bool V.far) (by omega)).trans m2_1_1
  have q2 := (set3_other (w := w2) (b := w1.heap.size) (c := w.heap.size + 1) (k := 2) (x := .int .i64 V.x) (y := .int .i64 V.y) (z := .bool V.far) (by omega)).trans m2_1_2
  have k := set3_cell (x := .int .i64 V.x) (y := .int .i64 V.y) (z := .bool V.far) q0 q1 q2
  refine bodyPost_ret (v := spV V) (by simp [results, Tryz.results74, go_sem, k.1, k.2.1, k.2.2]) rfl ⟨rfl, set3_below (set3_below hB2 (by omega)) (by omega)⟩
set_option maxHeartbeats 2000000 in
theorem refTimes_odd (a H G V : Sp) (n m : Int) (w : World) (n0 : -9223372036854775808 ≤ n) (n1 : n ≤ 9223372036854775807) (m0 : 0 < m) (m1 : m < 4052) (hm : Hid (n % 4052 = m)) (hp : (m % 2 == 1) = true)
    (hr : Hid (∀ w : World, Calls Tryz.prog 74 #[spV a, .int .i64 (m / 2)] w fun e w' => e = .returned (spV H) ∧ Below w.heap.size w w')) (oH : Ok H) (oG : Ok G) (oa : Ok a) (hG : Hid (sSum H H = G)) (hV : Hid (sSum G a = V)) : Calls Tryz.prog 74 #[spV a, .int .i64 n] w fun e w' => e = .returned (spV V) ∧ Below w.heap.size w w' := by
  go_enter Tryz.func74, Tryz.ntmps74
  go_wp2_with fail
  refine (refMod_e n 4052 m _ n0 n1 (by omega) (by omega) hm).mono ?_; rintro e w' ⟨rfl, rfl⟩
  go_wp2_with fail
  refine (hr.out _).mono ?_; rintro e w1 ⟨rfl, hb⟩
  obtain ⟨hc1, hf1⟩ := bcell hb
  have z1 := hb.size
  try simp only [World.size_alloc, World.size_setCell, World.size_drew] at z1
  have s1_0 : w.heap.size < w1.heap.size := by omega
  have s1_1 : w.heap.size + 1 < w1.heap.size := by omega
  have hB1 : Below w.heap.size w w1 := below_seq (by repeat (first | exact Below.refl _ _ | refine balloc ?_ _ | refine Below.drew ?_ | refine below_drewN ?_ _ | refine below_set ?_ (by first | omega | (dsimp only; omega)) _)) hb
  clear hb
  have m1_0_0 : w1.cell? ⟨w.heap.size, 0, none⟩ = some (.int .i64 a.x) := by go_simp
  have m1_0_1 : w1.cell? ⟨w.heap.size, 1, none⟩ = some (.int .i64 a.y) := by go_simp
  have m1_0_2 : w1.cell? ⟨w.heap.size, 2, none⟩ = some (.bool a.far) := by go_simp
  have m1_1_0 : w1.cell? ⟨w.heap.size + 1, 0, none⟩ = some (.int .i64 0) := by go_simp
  have m1_1_1 : w1.cell? ⟨w.heap.size + 1, 1, none⟩ = some (.int .i64 0) := by go_simp
  have m1_1_2 : w1.cell? ⟨w.heap.size + 1, 2, none⟩ = some (.bool false) := by go_simp
  go_wp2_with fail
  refine (refAdd_e H H G _ oH oH hG).mono ?_; rintro e w2 ⟨rfl, hb⟩
  obtain ⟨hc2, hf2⟩ := bcell hb
  have z2 := hb.size
  try simp only [World.size_alloc, World.size_setCell, World.size_drew] at z2
  have s2_0 : w.heap.size < w2.heap.size := by omega
  have s2_1 : w.heap.size + 1 < w2.heap.size := by omega
  have s2_2 : w1.heap.size < w2.heap.size := by omega
  have hB2 : Below w.heap.size w w2 := below_seq (by repeat (first | exact hB1 | exact Below.refl _ _ | refine balloc ?_ _ | refine Below.drew ?_ | refine below_drewN ?_ _ | refine below_set ?_ (by first | omega | (dsimp only; omega)) _)) hb
  clear hb
  have m2_0_0 : w2.cell? ⟨w.heap.size, 0, none⟩ = some (.int .i64 a.x) := by go_simp
  have m2_0_1 : w2.cell? ⟨w.heap.size, 1, none⟩ = some (.int .i64 a.y) := by go_simp
  have m2_0_2 : w2.cell? ⟨w.heap.size, 2, none⟩ = some (.bool a.far) := by go_simp
  have m2_1_0 : w2.cell? ⟨w.heap.size + 1, 0, none⟩ = some (.int .i64 0) := by go_simp
  have m2_1_1 : w2.cell? ⟨w.heap.size + 1, 1, none⟩ = some (.int .i64 0) := by go_simp
  have m2_1_2 : w2.cell? ⟨w.heap.size + 1, 2, none⟩ = some (.bool false) := by go_simp
  have m2_2_0 : w2.cell? ⟨w1.heap.size, 0, none⟩ = some (.int .i64 H.x) := by go_simp
  have m2_2_1 : w2.cell? ⟨w1.heap.size, 1, none⟩ = some (.int .i64 H.y) := by go_simp
  have m2_2_2 : w2.cell? ⟨w1.heap.size, 2, none⟩ = some (.bool H.far) := by go_simp
  clear m1_0_0 m1_0_1 m1_0_2 m1_1_0 m1_1_1 m1_1_2
  have kG := set3_cell (w := w2) (x := .int .i64 G.x) (y := .int .i64 G.y) (z := .bool G.far) m2_2_0 m2_2_1 m2_2_2
  go_wp2_with fail
  refine (refAdd_e G a V _ oG oa hV).mono ?_; rintro e w3 ⟨rfl, hb⟩
  obtain ⟨hc3, hf3⟩ := bcell hb
  have z3 := hb.size
  try simp only [World.size_alloc, World.size_setCell, World.size_drew] at z3
  have s3_0 : w.heap.size < w3.heap.size := by omega
  have s3_1 : w.heap.size + 1 < w3.heap.size := by omega
  have s3_2 : w1.heap.size < w3.heap.size := by omega
  have hB3 : Below w.heap.size w w3 := below_seq (by repeat (first | exact hB2 | exact Below.refl _ _ | refine balloc ?_ _ | refine Below.drew ?_ | refine below_drewN ?_ _ | refine below_set ?_ (by first | omega | (dsimp only; omega)) _)) hb
  clear hb
  have m3_0_0 : w3.cell? ⟨w.heap.size, 0, none⟩ = some (.int .i64 a.x) := by go_simp
  have m3_0_1 : w3.cell? ⟨w.heap.size, 1, none⟩ = some (.int .i64 a.y) := by go_simp
  have m3_0_2 : w3.cell? ⟨w.heap.size, 2, none⟩ = some (.bool a.far) := by go_simp
  have m3_1_0 : w3.cell? ⟨w.heap.size + 1, 0, none⟩ = some (.int .i64 0) := by go_simp
  have m3_1_1 : w3.cell? ⟨w.heap.size + 1, 1, none⟩ = some (.int .i64 0) := by go_simp
  have m3_1_2 : w3.cell? ⟨w.heap.size + 1, 2, none⟩ = some (.bool false) := by go_simp
  clear m2_0_0 m2_0_1 m2_0_2 m2_1_0 m2_1_1 m2_1_2 m2_2_0 m2_2_1 m2_2_2
  have g0 := (hc3 w1.heap.size 0 (by simp only [set3_size]; omega)).trans kG.1
  have g1 := (hc3 w1.heap.size 1 (by simp only [set3_size]; omega)).trans kG.2.1
  have g2 := (hc3 w1.heap.size 2 (by simp only [set3_size]; omega)).trans kG.2.2
  go_wp2
  have q0 := (set3_other (w := w3) (b := w1.heap.size) (c := w.heap.size + 1) (k := 0) (x := .int .i64 V.x) (y := .int .i64 V.y) (z := .bool V.far) (by omega)).trans m3_1_0
  have q1 := (set3_other (w := w3) (b := w1.heap.size) (c := w.heap.size + 1) (k := 1) (x := .int .i64 V.x) (y := .int .i64 V.y) (z := .bool V.far) (by omega)).trans m3_1_1
  have q2 := (set3_other (w := w3) (b := w1.heap.size) (c := w.heap.size + 1) (k := 2) (x := .int .i64 V.x) (y := .int .i64 V.y) (z := .bool V.far) (by omega)).trans m3_1_2
  have k := set3_cell (x := .int .i64 V.x) (y := .int .i64 V.y) (z := .bool V.far) q0 q1 q2
  refine bodyPost_ret (v := spV V) (by simp [results, Tryz.results74, go_sem, k.1, k.2.1, k.2.2]) rfl ⟨rfl, set3_below (set3_below hB3 (by omega)) (by omega)⟩
theorem refTimes_n (a : Sp) (u : Int) (hu : a = sq u) : ∀ (N : Nat) (n : Int) (w : World), (n % 4052).toNat ≤ N → -9223372036854775808 ≤ n → n ≤ 9223372036854775807 → Calls Tryz.prog 74 #[spV a, .int .i64 n] w fun e w' => e = .returned (spV (sq (u * n))) ∧ Below w.heap.size w w' := by
  have zero : ∀ (n : Int) (w : World), n % 4052 = 0 → -9223372036854775808 ≤ n → n ≤ 9223372036854775807 → Calls Tryz.prog 74 #[spV a, .int .i64 n] w fun e w' => e = .returned (spV (sq (u * n))) ∧ Below w.heap.size w w' := by
    intro n w h0 n0 n1
    have e : sq (u * n) = ⟨0, 0, true⟩ := by rw [sq_left u 0 n (by rw [h0]; rfl), Int.mul_zero]; exact sq_zero
    rw [e]; exact refTimes_0 a n w n0 n1 h0
  intro N
  induction N with
  | zero => intro n w hN n0 n1; exact zero n w (by omega) n0 n1
  | succ N ih =>
    intro n w hN n0 n1
    by_cases h0 : n % 4052 = 0
    · exact zero n w h0 n0 n1
    · have r : ∀ w : World, Calls Tryz.prog 74 #[spV a, .int .i64 (n % 4052 / 2)] w fun e w' => e = .returned (spV (sq (u * (n % 4052 / 2)))) ∧ Below w.heap.size w w' := fun w => ih (n % 4052 / 2) w (by omega) (by omega) (by omega)
      have e0 : sq (u * n) = sq (0 + u * (n % 4052)) := sq_left u (n % 4052) n (by omega)
      have oa : Ok a := ok_of hu
      cases hp : (n % 4052 % 2 == 1)
      · have hp' : n % 4052 % 2 = 0 := by have : ¬ n % 4052 % 2 = 1 := by simpa using hp
                                          omega
        have e : sSum (sq (u * (n % 4052 / 2))) (sq (u * (n % 4052 / 2))) = sq (u * n) := by
          rw [sq_add, e0, ← Int.mul_add, Int.zero_add]; congr 2; omega
        exact refTimes_even a _ _ n (n % 4052) w n0 n1 (by omega) (by omega) rfl hp r (sq_ok _) e
      · have hp' : n % 4052 % 2 = 1 := by simpa using hp
        have e : sSum (sq (u * (n % 4052 / 2) + u * (n % 4052 / 2))) a = sq (u * n) := by
          rw [hu, sq_add, e0, ← Int.mul_add, Int.zero_add]
          conv => lhs; arg 1; rhs; rw [← Int.mul_one u]
          rw [← Int.mul_add]; congr 2; omega
        exact refTimes_odd a _ _ _ n (n % 4052) w n0 n1 (by omega) (by omega) rfl hp r (sq_ok _) (sq_ok _) oa (sq_add _ _) e
theorem refTimes_e (a c : Sp) (u n : Int) (w : World) (n0 : -9223372036854775808 ≤ n) (n1 : n ≤ 9223372036854775807) (ha : Hid (a = sq u)) (h : Hid (sq (u * n) = c)) : Calls Tryz.prog 74 #[spV a, .int .i64 n] w fun e w' => e = .returned (spV c) ∧ Below w.heap.size w w' := by
  have := refTimes_n a u ha.out _ n w (Nat.le_refl _) n0 n1; rw [h.out] at this; exact this
theorem refFour_c (s : Sp) (w : World) (h : Ok s) : Calls Tryz.prog 74 #[spV s, .int .i64 4] w fun e w' => e = .returned (spV (sFour s)) ∧ Below w.heap.size w w' := by
  obtain ⟨u, -, -, e⟩ := sq_all h
  exact refTimes_e s _ u 4 w (by omega) (by omega) e (by show _ = _; rw [e, four_sq])
set_option maxHeartbeats 1000000 in
theorem refBase_c (w : World) : Calls Tryz.prog 112 #[] w fun e w' => e = .returned (spV (sq 4)) ∧ Below w.heap.size w w' := by
  go_enter Tryz.func112, Tryz.ntmps112
  go_wp2
  go_loopw [1] (fun i wr => ∃ k : Int, 0 ≤ k ∧ k ≤ 3 ∧ i = .int .i64 k ∧ SpAt wr w.heap.size ⟨0, 0, false⟩ ∧ Below w.heap.size w wr) (fun i _ => (4 - intOf i).toNat)
  case atStart => exact ⟨0, by omega, by omega, rfl, SpAt.fresh _ _ _ _ _, below_alloc _ _⟩
  case round =>
    obtain ⟨k, h0, h3, rfl, hr, hB⟩ := hrel
    have hk : k = 0 ∨ k = 1 ∨ k = 2 ∨ k = 3 := by omega
    clear h0 h3
    rcases hk with rfl | rfl | rfl | rfl
    · go_wp2_with fail
      refine (refLift_y 0 ⟨0, 0, false⟩ _ (by decide) isq0 (by show _ = _; rw [lift0, sq_2026])).mono ?_; rintro e w1 ⟨rfl, hb⟩
      have hr1 := hr.below hb
      have hB1 := below_seq hB hb
      clear hr hb hB
      go_wp2_with fail
      refine (refTimes_e ⟨0, 0, false⟩ ⟨0, 0, true⟩ 2026 4 _ (by omega) (by omega) sq_2026.symm four00).mono ?_; rintro e w2 ⟨rfl, hb⟩
      have hr2 := (hr1.alloc _).below hb
      have hB2 := below_seq (balloc hB1 _) hb
      clear hr1 hb hB1
      go_wp2
      go_roundw
      case rel => exact ⟨1, by omega, by omega, rfl, hr2.alloc _, balloc hB2 _⟩
      case measure => simp [intOf]
    · go_wp2_with fail
      refine (refLift_n 1 _ (by decide) isq1).mono ?_; rintro e w1 ⟨rfl, hb⟩
      have hr1 := hr.below hb
      have hB1 := below_seq hB hb
      clear hr hb hB
      go_wp2
      go_roundw
      case rel => exact ⟨2, by omega, by omega, rfl, hr1.alloc _, balloc hB1 _⟩
      case measure => simp [intOf]
    · go_wp2_with fail
      refine (refLift_n 2 _ (by decide) isq2).mono ?_; rintro e w1 ⟨rfl, hb⟩
      have hr1 := hr.below hb
      have hB1 := below_seq hB hb
      clear hr hb hB
      go_wp2
      go_roundw
      case rel => exact ⟨3, by omega, by omega, rfl, hr1.alloc _, balloc hB1 _⟩
      case measure => simp [intOf]
    · go_wp2_with fail
      refine (refLift_y 3 ⟨3, 156, false⟩ _ (by decide) isq3 (by show _ = _; rw [lift3, sq_1])).mono ?_; rintro e w1 ⟨rfl, hb⟩
      have hr1 := hr.below hb
      have hB1 := below_seq hB hb
      clear hr hb hB
      go_wp2_with fail
      refine (refTimes_e ⟨3, 156, false⟩ (sq 4) 1 4 _ (by omega) (by omega) sq_1.symm (by show _ = _; rw [Int.one_mul])).mono ?_; rintro e w2 ⟨rfl, hb⟩
      have f4 := four1
      have hr2 := (hr1.alloc _).below hb
      have hB2 := below_seq (balloc hB1 _) hb
      clear hr1 hb hB1
      obtain ⟨r0, r1, r2, fr0, fr1, fr2, hrl⟩ := hr2
      go_wp2
      have k := set3_cell (w := w2) (x := .int .i64 (sq 4).x) (y := .int .i64 (sq 4).y) (z := .bool false) r0 r1 r2
      refine bodyPost_ret (v := spV (sq 4)) (by simp [results, Tryz.results112, go_sem, k.1, k.2.1, k.2.2, four1, hrl]) rfl ⟨rfl, balloc (set3_below hB2 (by omega)) _⟩
end Go.Proofs.YtjjmelhhalomaaaGreatDoor
