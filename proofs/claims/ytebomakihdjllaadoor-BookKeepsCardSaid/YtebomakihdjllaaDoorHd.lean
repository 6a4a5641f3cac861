/- Walks of layer hide. -/
import Derived.Test.YtebomakihdjllaaDoorSf
namespace Go.Proofs.YtebomakihdjllaaDoor
open Go.RowKit
set_option maxRecDepth 100000
set_option linter.unusedVariables false
set_option linter.unusedSimpArgs false
/-- The second base is four times so many. -/
def hJn : Nat := ((List.range 1013).find? fun (j : Nat) => Sp.beq (hSpot [115, 101, 99, 111, 110, 100]) (sq (4 * (j : Int)))).getD 0
def hJ : Int := hJn
theorem hJ_spec : 1 ≤ hJ ∧ hJ < 1013 ∧ hSpot [115, 101, 99, 111, 110, 100] = sq (4 * hJ) := by
  obtain ⟨j, j0, j1, e⟩ := hSpot_four [115, 101, 99, 111, 110, 100]
  have key : hJn < 1013 ∧ hSpot [115, 101, 99, 111, 110, 100] = sq (4 * (hJn : Int)) := by
    unfold hJn
    cases hf : (List.range 1013).find? fun (j : Nat) => Sp.beq (hSpot [115, 101, 99, 111, 110, 100]) (sq (4 * (j : Int))) with
    | none =>
      exfalso
      have := List.find?_eq_none.mp hf j.toNat (List.mem_range.mpr (by omega))
      rw [e, show ((j.toNat : Nat) : Int) = j by omega] at this
      exact this (Sp.beq_refl _)
    | some n =>
      have h1 := List.find?_some hf
      have h2 := List.mem_range.mp (List.mem_of_find?_eq_some hf)
      exact ⟨h2, Sp.beq_iff.mp h1⟩
  refine ⟨?_, by unfold hJ; omega, key.2⟩
  have h := key.2
  rw [e] at h
  have := sq_eq_iff.mp h
  unfold hJ; omega
attribute [irreducible] hJn
set_option maxHeartbeats 1000000 in
theorem second_c (w : World) (hF : FarAt w) : Calls Tryd.prog 42 #[] w fun e w' => e = .returned (spV (sq (4 * hJ))) ∧ Below w.heap.size w w' := by
  go_enter Tryd.func42, Tryd.ntmps42
  go_wp2_with fail
  refine (hashSpot_c ⟨#[115, 101, 99, 111, 110, 100]⟩ _ (hF.below (by repeat (first | exact Below.refl _ _ | refine balloc ?_ _ | refine Below.drew ?_ | refine below_drewN ?_ _ | refine below_set ?_ (by first | omega | (dsimp only; omega)) _))) (by show 6 ≤ _; omega)).mono ?_; rintro e w1 ⟨rfl, hb⟩
  rw [show hSpot (⟨#[115, 101, 99, 111, 110, 100]⟩ : ByteArray).data.toList = sq (4 * hJ) from hJ_spec.2.2]
  obtain ⟨hc1, hf1⟩ := bcell hb
  have z1 := hb.size
  try simp only [World.size_alloc, World.size_setCell, World.size_drew] at z1
  have s1_0 : w.heap.size < w1.heap.size := by omega
  have hB1 : Below w.heap.size w w1 := below_seq (by repeat (first | exact Below.refl _ _ | refine balloc ?_ _ | refine Below.drew ?_ | refine below_drewN ?_ _ | refine below_set ?_ (by first | omega | (dsimp only; omega)) _)) hb
  clear hb
  have r0 : w1.cell? ⟨w.heap.size, 0, none⟩ = some (.int .i64 0) := by go_simp
  have r1 : w1.cell? ⟨w.heap.size, 1, none⟩ = some (.int .i64 0) := by go_simp
  have r2 : w1.cell? ⟨w.heap.size, 2, none⟩ = some (.bool false) := by go_simp
  go_wp2
  have k := set3_cell (w := w1) (x := .int .i64 (sq (4 * hJ)).x) (y := .int .i64 (sq (4 * hJ)).y) (z := .bool (sq (4 * hJ)).far) r0 r1 r2
  refine bodyPost_ret (v := spV (sq (4 * hJ))) (by simp [results, Tryd.results42, go_sem, k.1, k.2.1, k.2.2]) rfl ⟨rfl, set3_below (by repeat (first | exact hB1 | exact Below.refl _ _ | refine balloc ?_ _ | refine Below.drew ?_ | refine below_drewN ?_ _ | refine below_set ?_ (by first | omega | (dsimp only; omega)) _)) (by omega)⟩
set_option maxHeartbeats 1000000 in
theorem hideOf_c (v r : Int) (w : World) (hF : FarAt w) : Calls Tryd.prog 33 #[.int .i64 v, .int .i64 r] w fun e w' => e = .returned (spV (sq (4 * v + 4 * hJ * r))) ∧ Below w.heap.size w w' := by
  have hs := Lib.hid (sq_add (4 * v) (4 * hJ * r))
  go_enter Tryd.func33, Tryd.ntmps33
  go_wp2_with fail
  refine (by_c v _ (hF.below (by repeat (first | exact Below.refl _ _ | refine balloc ?_ _ | refine Below.drew ?_ | refine below_drewN ?_ _ | refine below_set ?_ (by first | omega | (dsimp only; omega)) _)))).mono ?_; rintro e w1 ⟨rfl, hb⟩
  obtain ⟨hc1, hf1⟩ := bcell hb
  have z1 := hb.size
  try simp only [World.size_alloc, World.size_setCell, World.size_drew] at z1
  have s1_0 : w.heap.size < w1.heap.size := by omega
  have hB1 : Below w.heap.size w w1 := below_seq (by repeat (first | exact Below.refl _ _ | refine balloc ?_ _ | refine Below.drew ?_ | refine below_drewN ?_ _ | refine below_set ?_ (by first | omega | (dsimp only; omega)) _)) hb
  clear hb
  go_wp2_with fail
  refine (second_c _ (hF.below (by repeat (first | exact hB1 | exact Below.refl _ _ | refine balloc ?_ _ | refine Below.drew ?_ | refine below_drewN ?_ _ | refine below_set ?_ (by first | omega | (dsimp only; omega)) _)))).mono ?_; rintro e w2 ⟨rfl, hb⟩
  obtain ⟨hc2, hf2⟩ := bcell hb
  have z2 := hb.size
  try simp only [World.size_alloc, World.size_setCell, World.size_drew] at z2
  have s2_0 : w.heap.size < w2.heap.size := by omega
  have hB2 : Below w.heap.size w w2 := below_seq (by repeat (first | exact hB1 | exact Below.refl _ _ | refine balloc ?_ _ | refine Below.drew ?_ | refine below_drewN ?_ _ | refine below_set ?_ (by first | omega | (dsimp only; omega)) _)) hb
  clear hb
  go_wp2_with fail
  refine (timesOf_c (4 * hJ) r _ (hF.below (by repeat (first | exact hB2 | exact Below.refl _ _ | refine balloc ?_ _ | refine Below.drew ?_ | refine below_drewN ?_ _ | refine below_set ?_ (by first | omega | (dsimp only; omega)) _)))).mono ?_; rintro e w3 ⟨rfl, hb⟩
  obtain ⟨hc3, hf3⟩ := bcell hb
  have z3 := hb.size
  try simp only [World.size_alloc, World.size_setCell, World.size_drew] at z3
  have s3_0 : w.heap.size < w3.heap.size := by omega
  have hB3 : Below w.heap.size w w3 := below_seq (by repeat (first | exact hB2 | exact Below.refl _ _ | refine balloc ?_ _ | refine Below.drew ?_ | refine below_drewN ?_ _ | refine below_set ?_ (by first | omega | (dsimp only; omega)) _)) hb
  clear hb
  go_wp2_with fail
  refine (sum_e _ _ _ _ (hF.below (by repeat (first | exact hB3 | exact Below.refl _ _ | refine balloc ?_ _ | refine Below.drew ?_ | refine below_drewN ?_ _ | refine below_set ?_ (by first | omega | (dsimp only; omega)) _))) (sq_ok _) (sq_ok _) hs).mono ?_; rintro e w4 ⟨rfl, hb⟩
  obtain ⟨hc4, hf4⟩ := bcell hb
  have z4 := hb.size
  try simp only [World.size_alloc, World.size_setCell, World.size_drew] at z4
  have s4_0 : w.heap.size < w4.heap.size := by omega
  have hB4 : Below w.heap.size w w4 := below_seq (by repeat (first | exact hB3 | exact Below.refl _ _ | refine balloc ?_ _ | refine Below.drew ?_ | refine below_drewN ?_ _ | refine below_set ?_ (by first | omega | (dsimp only; omega)) _)) hb
  clear hb
  have r0 : w4.cell? ⟨w.heap.size, 0, none⟩ = some (.int .i64 0) := by go_simp
  have r1 : w4.cell? ⟨w.heap.size, 1, none⟩ = some (.int .i64 0) := by go_simp
  have r2 : w4.cell? ⟨w.heap.size, 2, none⟩ = some (.bool false) := by go_simp
  go_wp2
  have k := set3_cell (w := w4) (x := .int .i64 (sq (4 * v + 4 * hJ * r)).x) (y := .int .i64 (sq (4 * v + 4 * hJ * r)).y) (z := .bool (sq (4 * v + 4 * hJ * r)).far) r0 r1 r2
  refine bodyPost_ret (v := spV (sq (4 * v + 4 * hJ * r))) (by simp [results, Tryd.results33, go_sem, k.1, k.2.1, k.2.2]) rfl ⟨rfl, set3_below (by repeat (first | exact hB4 | exact Below.refl _ _ | refine balloc ?_ _ | refine Below.drew ?_ | refine below_drewN ?_ _ | refine below_set ?_ (by first | omega | (dsimp only; omega)) _)) (by omega)⟩
set_option maxHeartbeats 1000000 in
theorem hide_y (v r : Int) (C : Sp) (w : World) (hF : FarAt w) (v0 : 0 ≤ v) (v1 : v < 1013) (r0 : 0 ≤ r) (r1 : r < 1013) (hC : Hid (sq (4 * v + 4 * hJ * r) = C)) : Calls Tryd.prog 6 #[.int .i64 v, .int .i64 r] w fun e w' => e = .returned (.tuple #[spV C, .nilIface]) ∧ Below w.heap.size w w' := by
  go_enter Tryd.func6, Tryd.ntmps6
  go_wp2_with fail
  refine (rest_y v _ v0 v1).mono ?_; rintro e w' ⟨rfl, rfl⟩
  go_wp2_with fail
  refine (rest_y r _ r0 r1).mono ?_; rintro e w' ⟨rfl, rfl⟩
  clear r0 r1 v0 v1
  go_wp2_with fail
  refine (hideOf_c v r _ (hF.below (by repeat (first | exact Below.refl _ _ | refine balloc ?_ _ | refine Below.drew ?_ | refine below_drewN ?_ _ | refine below_set ?_ (by first | omega | (dsimp only; omega)) _)))).mono ?_; rintro e w1 ⟨rfl, hb⟩
  rw [hC.out]
  obtain ⟨hc1, hf1⟩ := bcell hb
  have z1 := hb.size
  try simp only [World.size_alloc, World.size_setCell, World.size_drew] at z1
  have s1_0 : w.heap.size < w1.heap.size := by omega
  have hB1 : Below w.heap.size w w1 := below_seq (by repeat (first | exact Below.refl _ _ | refine balloc ?_ _ | refine Below.drew ?_ | refine below_drewN ?_ _ | refine below_set ?_ (by first | omega | (dsimp only; omega)) _)) hb
  clear hb
  have r0 : w1.cell? ⟨w.heap.size, 0, none⟩ = some (.int .i64 0) := by go_simp
  have r1 : w1.cell? ⟨w.heap.size, 1, none⟩ = some (.int .i64 0) := by go_simp
  have r2 : w1.cell? ⟨w.heap.size, 2, none⟩ = some (.bool false) := by go_simp
  go_wp2
  have k := set3_cell (w := w1) (x := .int .i64 (C).x) (y := .int .i64 (C).y) (z := .bool (C).far) r0 r1 r2
  refine bodyPost_ret (v := .tuple #[spV (C), .nilIface]) (by simp [results, Tryd.results6, go_sem, k.1, k.2.1, k.2.2]) rfl ⟨rfl, set3_below (by repeat (first | exact hB1 | exact Below.refl _ _ | refine balloc ?_ _ | refine Below.drew ?_ | refine below_drewN ?_ _ | refine below_set ?_ (by first | omega | (dsimp only; omega)) _)) (by omega)⟩
set_option maxHeartbeats 1000000 in
theorem hide_n1 (v r : Int) (w : World) (h : ¬ (0 ≤ v ∧ v < 1013)) : Calls Tryd.prog 6 #[.int .i64 v, .int .i64 r] w fun e w' => e = .returned (.tuple #[spV ⟨0, 0, false⟩, .iface 69 (.int .i64 1)]) ∧ Below w.heap.size w w' := by
  go_enter Tryd.func6, Tryd.ntmps6
  go_wp2_with fail
  refine (rest_n v _ h).mono ?_; rintro e w' ⟨rfl, rfl⟩
  go_wp2
  refine bodyPost_ret (v := .tuple #[spV ⟨0, 0, false⟩, .iface 69 (.int .i64 1)]) (by simp [results, Tryd.results6, go_sem]) rfl ⟨rfl, (by repeat (first | exact Below.refl _ _ | refine balloc ?_ _ | refine Below.drew ?_ | refine below_drewN ?_ _ | refine below_set ?_ (by first | omega | (dsimp only; omega)) _))⟩
set_option maxHeartbeats 1000000 in
theorem hide_n2 (v r : Int) (w : World) (v0 : 0 ≤ v) (v1 : v < 1013) (h : ¬ (0 ≤ r ∧ r < 1013)) : Calls Tryd.prog 6 #[.int .i64 v, .int .i64 r] w fun e w' => e = .returned (.tuple #[spV ⟨0, 0, false⟩, .iface 69 (.int .i64 1)]) ∧ Below w.heap.size w w' := by
  go_enter Tryd.func6, Tryd.ntmps6
  go_wp2_with fail
  refine (rest_y v _ v0 v1).mono ?_; rintro e w' ⟨rfl, rfl⟩
  go_wp2_with fail
  refine (rest_n r _ h).mono ?_; rintro e w' ⟨rfl, rfl⟩
  go_wp2
  refine bodyPost_ret (v := .tuple #[spV ⟨0, 0, false⟩, .iface 69 (.int .i64 1)]) (by simp [results, Tryd.results6, go_sem]) rfl ⟨rfl, (by repeat (first | exact Below.refl _ _ | refine balloc ?_ _ | refine Below.drew ?_ | refine below_drewN ?_ _ | refine below_set ?_ (by first | omega | (dsimp only; omega)) _))⟩
theorem hide_n (v r : Int) (w : World) (h : ¬ (0 ≤ v ∧ v < 1013 ∧ 0 ≤ r ∧ r < 1013)) : Calls Tryd.prog 6 #[.int .i64 v, .int .i64 r] w fun e w' => e = .returned (.tuple #[spV ⟨0, 0, false⟩, .iface 69 (.int .i64 1)]) ∧ Below w.heap.size w w' := by
  by_cases hv : 0 ≤ v ∧ v < 1013
  · exact hide_n2 v r w hv.1 hv.2 (by omega)
  · exact hide_n1 v r w hv
end Go.Proofs.YtebomakihdjllaaDoor
