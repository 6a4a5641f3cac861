/- Walks of the document's answer, what is hidden: Second, Hide. -/
import Derived.Test.YtopcdihgkojjlaaDoorQa
import Derived.Test.YtopcdihgkojjlaaDoorHd
namespace Go.Proofs.YtopcdihgkojjlaaDoor
open Go.RowKit
set_option maxRecDepth 100000
set_option linter.unusedVariables false
set_option linter.unusedSimpArgs false
set_option maxHeartbeats 1000000 in
theorem rSecond_c (w : World) (hF : FarAt w) : Calls Tryd.prog 50 #[] w fun e w' => e = .returned (spV (sq (4 * hJ))) ∧ Below w.heap.size w w' := by
  go_enter Tryd.func50, Tryd.ntmps50
  go_wp2_with fail
  refine (refOf_c ⟨#[115, 101, 99, 111, 110, 100]⟩ _ (hF.below (by repeat (first | exact Below.refl _ _ | refine balloc ?_ _ | refine Below.drew ?_ | refine below_drewN ?_ _ | refine below_set ?_ (by first | omega | (dsimp only; omega)) _))) (by show 6 ≤ _; omega)).mono ?_; rintro e w1 ⟨rfl, hb⟩
  rw [show hSpot (⟨#[115, 101, 99, 111, 110, 100]⟩ : ByteArray).data.toList = sq (4 * hJ) from hJ_spec.2.2]
  obtain ⟨hc1, hf1⟩ := bcell hb
  have z1 := hb.size
  try simp only [World.size_alloc, World.size_setCell, World.size_drew] at z1
  have s1_0 : w.heap.size < w1.heap.size := by omega
  have hB1 : Below w.heap.size w w1 := below_seq (by repeat (first | exact Below.refl _ _ | refine balloc ?_ _ | refine Below.drew ?_ | refine below_drewN ?_ _ | refine below_set ?_ (by first | omega | (dsimp only; omega)) _)) hb
  clear hb
  have r0 : w1.cell? ⟨w.heap.size, 0, none⟩ = some (.int .i64 0) := by go_simp
  have r1 : w1.cell? ⟨w.heap.size, 1, none⟩ = some (.int .i64 0) := by go_simp
  have r2 : w1.cell? ⟨w.heap.size, 2, none⟩ = some (.bool false) := by go_simp
  go_wp2
  have k := set3_cell (w := w1) (x := .int .i64 (sq (4 * hJ)).x) (y := .int .i64 (sq (4 * hJ)).y) (z := .bool (sq (4 * hJ)).far) r0 r1 r2
  refine bodyPost_ret (v := spV (sq (4 * hJ))) (by simp [results, Tryd.results50, go_sem, k.1, k.2.1, k.2.2]) rfl ⟨rfl, set3_below (by repeat (first | exact hB1 | exact Below.refl _ _ | refine balloc ?_ _ | refine Below.drew ?_ | refine below_drewN ?_ _ | refine below_set ?_ (by first | omega | (dsimp only; omega)) _)) (by omega)⟩
set_option maxHeartbeats 1000000 in
theorem rHide_e (v r : Int) (C : Sp) (w : World) (hF : FarAt w) (v0 : 0 ≤ v) (v1 : v < 1013) (r0 : 0 ≤ r) (r1 : r < 1013) (hC : Hid (sq (4 * v + 4 * hJ * r) = C)) : Calls Tryd.prog 45 #[.int .i64 v, .int .i64 r] w fun e w' => e = .returned (spV C) ∧ Below w.heap.size w w' := by
  have hs : Hid (sSum (sq (4 * v)) (sq (4 * hJ * r)) = C) := by show _ = _; rw [sq_add, hC.out]
  have v2 : -9223372036854775808 ≤ v := by omega
  have v3 : v ≤ 9223372036854775807 := by omega
  have r2 : -9223372036854775808 ≤ r := by omega
  have r3 : r ≤ 9223372036854775807 := by omega
  clear v0 v1 r0 r1 hC
  go_enter Tryd.func45, Tryd.ntmps45
  go_wp2_with fail
  refine (rSecond_c _ (hF.below (by repeat (first | exact Below.refl _ _ | refine balloc ?_ _ | refine Below.drew ?_ | refine below_drewN ?_ _ | refine below_set ?_ (by first | omega | (dsimp only; omega)) _)))).mono ?_; rintro e w1 ⟨rfl, hb⟩
  obtain ⟨hc1, hf1⟩ := bcell hb
  have z1 := hb.size
  try simp only [World.size_alloc, World.size_setCell, World.size_drew] at z1
  have s1_0 : w.heap.size < w1.heap.size := by omega
  have hB1 : Below w.heap.size w w1 := below_seq (by repeat (first | exact Below.refl _ _ | refine balloc ?_ _ | refine Below.drew ?_ | refine below_drewN ?_ _ | refine below_set ?_ (by first | omega | (dsimp only; omega)) _)) hb
  clear hb
  go_wp2_with fail
  refine (refSum_e v r (4 * hJ) (sq (4 * hJ)) _ _ C _ v2 v3 r2 r3 rfl rfl rfl (sq_ok _) (sq_ok _) hs).mono ?_; rintro e w2 ⟨rfl, hb⟩
  obtain ⟨hc2, hf2⟩ := bcell hb
  have z2 := hb.size
  try simp only [World.size_alloc, World.size_setCell, World.size_drew] at z2
  have s2_0 : w.heap.size < w2.heap.size := by omega
  have hB2 : Below w.heap.size w w2 := below_seq (by repeat (first | exact hB1 | exact Below.refl _ _ | refine balloc ?_ _ | refine Below.drew ?_ | refine below_drewN ?_ _ | refine below_set ?_ (by first | omega | (dsimp only; omega)) _)) hb
  clear hb
  have r0 : w2.cell? ⟨w.heap.size, 0, none⟩ = some (.int .i64 0) := by go_simp
  have r1 : w2.cell? ⟨w.heap.size, 1, none⟩ = some (.int .i64 0) := by go_simp
  have r2 : w2.cell? ⟨w.heap.size, 2, none⟩ = some (.bool false) := by go_simp
  go_wp2
  have k := set3_cell (w := w2) (x := .int .i64 (C).x) (y := .int .i64 (C).y) (z := .bool (C).far) r0 r1 r2
  refine bodyPost_ret (v := spV (C)) (by simp [results, Tryd.results45, go_sem, k.1, k.2.1, k.2.2]) rfl ⟨rfl, set3_below (by repeat (first | exact hB2 | exact Below.refl _ _ | refine balloc ?_ _ | refine Below.drew ?_ | refine below_drewN ?_ _ | refine below_set ?_ (by first | omega | (dsimp only; omega)) _)) (by omega)⟩
end Go.Proofs.YtopcdihgkojjlaaDoor
