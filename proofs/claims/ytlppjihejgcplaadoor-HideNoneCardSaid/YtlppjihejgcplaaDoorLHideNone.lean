/- The law HideNone, walked: nought by nought is far, and by nothing else. -/
import Derived.Test.YtlppjihejgcplaaDoorFi
namespace Go.Proofs.YtlppjihejgcplaaDoor
open Go.RowKit
set_option maxRecDepth 100000
set_option linter.unusedVariables false
set_option linter.unusedSimpArgs false
theorem second_e (C : Sp) (w : World) (hF : FarAt w) (h : Hid (sq (4 * hJ) = C)) : Calls Tryd.prog 40 #[] w fun e w' => e = .returned (spV C) ∧ Below w.heap.size w w' := by
  have := second_c w hF; rw [h.out] at this; exact this
set_option maxHeartbeats 2000000 in
theorem hn_bad (v : Int) (X Y : Int) (w : World) (hF : FarAt w) (hH : Hid (sq (4 * hJ) = ⟨X, Y, false⟩)) (h : ¬ (0 ≤ v ∧ v < 1013)) (R : Bool) (h2 : v < 0 ∨ 1013 ≤ v) : Calls Tryd.prog 10 #[.int .i64 v] w fun e w' => e = .returned (.bool true) ∧ Below w.heap.size w w' := by
  rcases h2 with h2 | h2
  all_goals
    go_enter Tryd.func10, Tryd.ntmps10
    have hB0 := Below.refl w.heap.size w
    go_wp2_with fail
    refine (second_e _ _ (hF.below (by repeat (first | exact hB0 | exact Below.refl _ _ | refine balloc ?_ _ | refine Below.drew ?_ | refine below_drewN ?_ _ | refine below_set ?_ (by first | omega | (dsimp only; omega)) _))) hH).mono ?_; rintro e w1 ⟨rfl, hb⟩
    obtain ⟨hc1, hf1⟩ := bcell hb
    have z1 := hb.size
    try simp only [World.size_alloc, World.size_setCell, World.size_drew] at z1
    have hB1 : Below w.heap.size w w1 := below_seq (by repeat (first | exact hB0 | exact Below.refl _ _ | refine balloc ?_ _ | refine Below.drew ?_ | refine below_drewN ?_ _ | refine below_set ?_ (by first | omega | (dsimp only; omega)) _)) hb
    clear hb
    go_wp2_with fail
    refine (in_e ⟨X, Y, false⟩ (4 * hJ) true _ (hF.below (by repeat (first | exact hB1 | exact Below.refl _ _ | refine balloc ?_ _ | refine Below.drew ?_ | refine below_drewN ?_ _ | refine below_set ?_ (by first | omega | (dsimp only; omega)) _))) (show _ = _ from hH.out.symm) (sq_far.mpr (by omega))).mono ?_; rintro e w2 ⟨rfl, hb⟩
    obtain ⟨hc2, hf2⟩ := bcell hb
    have z2 := hb.size
    try simp only [World.size_alloc, World.size_setCell, World.size_drew] at z2
    have s2_0 : w1.heap.size < w2.heap.size := by omega
    have hB2 : Below w.heap.size w w2 := below_seq (by repeat (first | exact hB1 | exact Below.refl _ _ | refine balloc ?_ _ | refine Below.drew ?_ | refine below_drewN ?_ _ | refine below_set ?_ (by first | omega | (dsimp only; omega)) _)) hb
    clear hb
    go_wp2_with fail
    refine (find_n ⟨0, 0, true⟩ 0 v _ (hF.below (by repeat (first | exact hB2 | exact Below.refl _ _ | refine balloc ?_ _ | refine Below.drew ?_ | refine below_drewN ?_ _ | refine below_set ?_ (by first | omega | (dsimp only; omega)) _))) (show _ = _ from sq_zero.symm) h).mono ?_; rintro e w3 ⟨rfl, hb⟩
    obtain ⟨hc3, hf3⟩ := bcell hb
    have z3 := hb.size
    try simp only [World.size_alloc, World.size_setCell, World.size_drew] at z3
    have s3_0 : w1.heap.size < w3.heap.size := by omega
    have hB3 : Below w.heap.size w w3 := below_seq (by repeat (first | exact hB2 | exact Below.refl _ _ | refine balloc ?_ _ | refine Below.drew ?_ | refine below_drewN ?_ _ | refine below_set ?_ (by first | omega | (dsimp only; omega)) _)) hb
    clear hb
    go_wp2
    go_ret
    exact ⟨rfl, (by repeat (first | exact hB3 | exact Below.refl _ _ | refine balloc ?_ _ | refine Below.drew ?_ | refine below_drewN ?_ _ | refine below_set ?_ (by first | omega | (dsimp only; omega)) _))⟩
set_option maxHeartbeats 2000000 in
theorem hn_ok (v N : Int) (X Y : Int) (w : World) (hF : FarAt w) (hH : Hid (sq (4 * hJ) = ⟨X, Y, false⟩)) (v0 : 0 ≤ v) (v1 : v < 1013) (n0 : 0 ≤ N) (n1 : N < 1013) (hN : Hid (hS v N = ⟨0, 0, true⟩)) (hN2 : Hid (sq (4 * v + 4 * hJ * N) = ⟨0, 0, true⟩)) (hz : (N == 0) = (v == 0)) : Calls Tryd.prog 10 #[.int .i64 v] w fun e w' => e = .returned (.bool true) ∧ Below w.heap.size w w' := by
  have hzz : ((N == 0) == (v == 0)) = true := by rw [hz]; simp
  clear hz
  go_enter Tryd.func10, Tryd.ntmps10
  go_wp2_with fail
  refine (second_e _ _ (hF.below (by repeat (first | exact Below.refl _ _ | refine balloc ?_ _ | refine Below.drew ?_ | refine below_drewN ?_ _ | refine below_set ?_ (by first | omega | (dsimp only; omega)) _))) hH).mono ?_; rintro e w1 ⟨rfl, hb⟩
  obtain ⟨hc1, hf1⟩ := bcell hb
  have z1 := hb.size
  try simp only [World.size_alloc, World.size_setCell, World.size_drew] at z1
  have hB1 : Below w.heap.size w w1 := below_seq (by repeat (first | exact Below.refl _ _ | refine balloc ?_ _ | refine Below.drew ?_ | refine below_drewN ?_ _ | refine below_set ?_ (by first | omega | (dsimp only; omega)) _)) hb
  clear hb
  go_wp2_with fail
  refine (in_e ⟨X, Y, false⟩ (4 * hJ) true _ (hF.below (by repeat (first | exact hB1 | exact Below.refl _ _ | refine balloc ?_ _ | refine Below.drew ?_ | refine below_drewN ?_ _ | refine below_set ?_ (by first | omega | (dsimp only; omega)) _))) (show _ = _ from hH.out.symm) (sq_far.mpr (by omega))).mono ?_; rintro e w2 ⟨rfl, hb⟩
  obtain ⟨hc2, hf2⟩ := bcell hb
  have z2 := hb.size
  try simp only [World.size_alloc, World.size_setCell, World.size_drew] at z2
  have s2_0 : w1.heap.size < w2.heap.size := by omega
  have hB2 : Below w.heap.size w w2 := below_seq (by repeat (first | exact hB1 | exact Below.refl _ _ | refine balloc ?_ _ | refine Below.drew ?_ | refine below_drewN ?_ _ | refine below_set ?_ (by first | omega | (dsimp only; omega)) _)) hb
  clear hb
  go_wp2_with fail
  refine (find_y ⟨0, 0, true⟩ 0 v N _ (hF.below (by repeat (first | exact hB2 | exact Below.refl _ _ | refine balloc ?_ _ | refine Below.drew ?_ | refine below_drewN ?_ _ | refine below_set ?_ (by first | omega | (dsimp only; omega)) _))) (show _ = _ from sq_zero.symm) v0 v1 n0 n1 hN).mono ?_; rintro e w3 ⟨rfl, hb⟩
  obtain ⟨hc3, hf3⟩ := bcell hb
  have z3 := hb.size
  try simp only [World.size_alloc, World.size_setCell, World.size_drew] at z3
  have s3_0 : w1.heap.size < w3.heap.size := by omega
  have hB3 : Below w.heap.size w w3 := below_seq (by repeat (first | exact hB2 | exact Below.refl _ _ | refine balloc ?_ _ | refine Below.drew ?_ | refine below_drewN ?_ _ | refine below_set ?_ (by first | omega | (dsimp only; omega)) _)) hb
  clear hb
  go_wp2_with fail
  refine (hide_y v N ⟨0, 0, true⟩ _ (hF.below (by repeat (first | exact hB3 | exact Below.refl _ _ | refine balloc ?_ _ | refine Below.drew ?_ | refine below_drewN ?_ _ | refine below_set ?_ (by first | omega | (dsimp only; omega)) _))) v0 v1 n0 n1 hN2).mono ?_; rintro e w4 ⟨rfl, hb⟩
  obtain ⟨hc4, hf4⟩ := bcell hb
  have z4 := hb.size
  try simp only [World.size_alloc, World.size_setCell, World.size_drew] at z4
  have s4_0 : w1.heap.size < w4.heap.size := by omega
  have hB4 : Below w.heap.size w w4 := below_seq (by repeat (first | exact hB3 | exact Below.refl _ _ | refine balloc ?_ _ | refine Below.drew ?_ | refine below_drewN ?_ _ | refine below_set ?_ (by first | omega | (dsimp only; omega)) _)) hb
  clear hb
  go_wp2
  go_ret
  exact ⟨rfl, (by repeat (first | exact hB4 | exact Below.refl _ _ | refine balloc ?_ _ | refine Below.drew ?_ | refine below_drewN ?_ _ | refine below_set ?_ (by first | omega | (dsimp only; omega)) _))⟩
theorem hideNone_law (v : Int) (hv : (Lit.int .i64 v).wf = true) (w : World) (hF : FarAt w) : Calls Tryd.prog 10 #[.int .i64 v] w fun e w' => e = .returned (.bool true) ∧ Below w.heap.size w w' := by
  obtain ⟨j1, j2, -⟩ := hJ_spec
  have hf : (sq (4 * hJ)).far = false := sq_far_not (by omega)
  have hH : sq (4 * hJ) = ⟨(sq (4 * hJ)).x, (sq (4 * hJ)).y, false⟩ := Sp.ext' rfl rfl hf
  by_cases h : 0 ≤ v ∧ v < 1013
  · obtain ⟨N, n0, n1, e⟩ := hS_solve v 0
    have e0 : hS v N = ⟨0, 0, true⟩ := e.trans sq_zero
    have e1 : sq (4 * v + 4 * hJ * N) = ⟨0, 0, true⟩ := by rw [← e0]; unfold hS; rfl
    have e2 := (sq_eq_iff (a := 4 * v + 4 * hJ * N) (b := 0)).mp (e1.trans sq_zero.symm)
    have hz : (N == 0) = (v == 0) := by
      by_cases hv0 : v = 0
      · subst hv0
        have : hS 0 N = hS 0 0 := by rw [e, ← hS_zero]
        have := hS_eq this
        have : N = 0 := by omega
        rw [this]
      · have hN : N ≠ 0 := fun c => by subst c; rw [Int.mul_zero] at e2; omega
        rw [beq_eq_false_iff_ne.mpr hN, beq_eq_false_iff_ne.mpr hv0]
    exact hn_ok v N _ _ w hF hH h.1 h.2 n0 n1 e0 e1 hz
  · exact hn_bad v _ _ w hF hH h true (by omega)
end Go.Proofs.YtlppjihejgcplaaDoor
