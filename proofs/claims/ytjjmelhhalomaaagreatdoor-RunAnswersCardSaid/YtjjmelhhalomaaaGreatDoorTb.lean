/- Walk of times.Base and times.By: where all begins. -/
import Derived.Test.YtjjmelhhalomaaaGreatDoorWl
import Derived.Test.YtjjmelhhalomaaaGreatDoorLf
import Derived.Test.YtjjmelhhalomaaaGreatDoorWr
namespace Go.Proofs.YtjjmelhhalomaaaGreatDoor
open Go.RowKit
set_option maxRecDepth 100000
set_option linter.unusedVariables false
set_option linter.unusedSimpArgs false
theorem four0 : (sq (2026 * 4)).far = true := sq_far.mpr (by decide)
theorem four1 : (sq 4).far = false := sq_far_not (by decide)
theorem four00 : sq (2026 * 4) = ⟨0, 0, true⟩ := (sq_ok _).far_eq four0
theorem timesOf_e (s t : Sp) (u n : Int) (w : World) (hF : FarAt w) (e : s = sq u) (e' : sq (u * n) = t) : Calls Tryz.prog 37 #[spV s, .int .i64 n] w fun e w' => e = .returned (spV t) ∧ Below w.heap.size w w' := by
  rw [e, ← e']; exact timesOf_c u n w hF
set_option maxHeartbeats 2000000 in
theorem base_c (w : World) (hF : FarAt w) : Calls Tryz.prog 11 #[] w fun e w' => e = .returned (spV (sq 4)) ∧ Below w.heap.size w w' := by
  have hF' := Lib.hid hF
  clear hF
  go_enter Tryz.func11, Tryz.ntmps11
  go_wp2
  go_loopw [5] (fun i wr => ∃ k : Int, 0 ≤ k ∧ k ≤ 3 ∧ i = .int .i64 k ∧ SpAt wr w.heap.size ⟨0, 0, false⟩ ∧ Below w.heap.size w wr) (fun i _ => (4 - intOf i).toNat)
  case atStart => exact ⟨0, by omega, by omega, rfl, SpAt.fresh _ _ _ _ _, below_alloc _ _⟩
  case round =>
    obtain ⟨k, h0, h3, rfl, hr, hB⟩ := hrel
    have hk : k = 0 ∨ k = 1 ∨ k = 2 ∨ k = 3 := by omega
    clear h0 h3
    rcases hk with rfl | rfl | rfl | rfl
    · go_wp2_with fail
      refine (lift_yes 0 _ (by decide) isq0).mono ?_; rintro e w1 ⟨rfl, hb⟩
      rw [prt0]
      have hr1 := hr.below hb
      have hB1 := below_seq hB hb
      clear hr hb hB
      go_wp2_with fail
      refine (timesOf_e ⟨0, 0, false⟩ ⟨0, 0, true⟩ 2026 4 _ (hF'.out.below (by exact balloc hB1 _)) sq_2026.symm four00).mono ?_; rintro e w2 ⟨rfl, hb⟩
      have hr2 := (hr1.alloc _).below hb
      have hB2 := below_seq (balloc hB1 _) hb
      clear hr1 hb hB1
      go_wp2
      go_roundw
      case rel => exact ⟨1, by omega, by omega, rfl, hr2.alloc _, balloc hB2 _⟩
      case measure => simp [intOf]
    · go_wp2_with fail
      refine (lift_no 1 _ (by decide) isq1).mono ?_; rintro e w1 ⟨rfl, hb⟩
      have hr1 := hr.below hb
      have hB1 := below_seq hB hb
      clear hr hb hB
      go_wp2
      go_roundw
      case rel => exact ⟨2, by omega, by omega, rfl, hr1.alloc _, balloc hB1 _⟩
      case measure => simp [intOf]
    · go_wp2_with fail
      refine (lift_no 2 _ (by decide) isq2).mono ?_; rintro e w1 ⟨rfl, hb⟩
      have hr1 := hr.below hb
      have hB1 := below_seq hB hb
      clear hr hb hB
      go_wp2
      go_roundw
      case rel => exact ⟨3, by omega, by omega, rfl, hr1.alloc _, balloc hB1 _⟩
      case measure => simp [intOf]
    · go_wp2_with fail
      refine (lift_yes 3 _ (by decide) isq3).mono ?_; rintro e w1 ⟨rfl, hb⟩
      rw [prt3]
      have hr1 := hr.below hb
      have hB1 := below_seq hB hb
      clear hr hb hB
      go_wp2_with fail
      refine (timesOf_e ⟨3, 156, false⟩ (sq 4) 1 4 _ (hF'.out.below (by exact balloc hB1 _)) sq_1.symm (by rw [Int.one_mul])).mono ?_; rintro e w2 ⟨rfl, hb⟩
      have f4 := four1
      have hr2 := (hr1.alloc _).below hb
      have hB2 := below_seq (balloc hB1 _) hb
      clear hr1 hb hB1
      obtain ⟨r0, r1, r2, fr0, fr1, fr2, hrl⟩ := hr2
      go_wp2
      have k := set3_cell (w := w2) (x := .int .i64 (sq 4).x) (y := .int .i64 (sq 4).y) (z := .bool false) r0 r1 r2
      refine bodyPost_ret (v := spV (sq 4)) (by simp [results, Tryz.results11, go_sem, k.1, k.2.1, k.2.2, four1, hrl]) rfl ⟨rfl, balloc (set3_below hB2 (by omega)) _⟩
theorem by_c (n : Int) (w : World) (hF : FarAt w) : Calls Tryz.prog 82 #[.int .i64 n] w fun e w' => e = .returned (spV (sq (4 * n))) ∧ Below w.heap.size w w' := by
  go_enter Tryz.func82, Tryz.ntmps82
  go_wp2_with fail
  refine (base_c _ (hF.below (by repeat (first | exact Below.refl _ _ | refine balloc ?_ _ | refine Below.drew ?_ | refine below_drewN ?_ _ | refine below_set ?_ (by first | omega | (dsimp only; omega)) _)))).mono ?_; rintro e w1 ⟨rfl, hb⟩
  obtain ⟨hc1, hf1⟩ := bcell hb
  have z1 := hb.size
  try simp only [World.size_alloc, World.size_setCell, World.size_drew] at z1
  have s1_0 : w.heap.size < w1.heap.size := by omega
  have hB1 : Below w.heap.size w w1 := below_seq (by repeat (first | exact Below.refl _ _ | refine balloc ?_ _ | refine Below.drew ?_ | refine below_drewN ?_ _ | refine below_set ?_ (by first | omega | (dsimp only; omega)) _)) hb
  clear hb
  go_wp2_with fail
  refine (timesOf_c 4 n _ (hF.below (by repeat (first | exact hB1 | exact Below.refl _ _ | refine balloc ?_ _ | refine Below.drew ?_ | refine below_drewN ?_ _ | refine below_set ?_ (by first | omega | (dsimp only; omega)) _)))).mono ?_; rintro e w2 ⟨rfl, hb⟩
  obtain ⟨hc2, hf2⟩ := bcell hb
  have z2 := hb.size
  try simp only [World.size_alloc, World.size_setCell, World.size_drew] at z2
  have s2_0 : w.heap.size < w2.heap.size := by omega
  have hB2 : Below w.heap.size w w2 := below_seq (by repeat (first | exact hB1 | exact Below.refl _ _ | refine balloc ?_ _ | refine Below.drew ?_ | refine below_drewN ?_ _ | refine below_set ?_ (by first | omega | (dsimp only; omega)) _)) hb
  clear hb
  have r0 : w2.cell? ⟨w.heap.size, 0, none⟩ = some (.int .i64 0) := by go_simp
  have r1 : w2.cell? ⟨w.heap.size, 1, none⟩ = some (.int .i64 0) := by go_simp
  have r2 : w2.cell? ⟨w.heap.size, 2, none⟩ = some (.bool false) := by go_simp
  go_wp2
  have k := set3_cell (w := w2) (x := .int .i64 (sq (4 * n)).x) (y := .int .i64 (sq (4 * n)).y) (z := .bool (sq (4 * n)).far) r0 r1 r2
  refine bodyPost_ret (v := spV (sq (4 * n))) (by simp [results, Tryz.results82, go_sem, k.1, k.2.1, k.2.2]) rfl ⟨rfl, set3_below (by repeat (first | exact hB2 | exact Below.refl _ _ | refine balloc ?_ _ | refine Below.drew ?_ | refine below_drewN ?_ _ | refine below_set ?_ (by first | omega | (dsimp only; omega)) _)) (by omega)⟩
end Go.Proofs.YtjjmelhhalomaaaGreatDoor
