/- Walks of layer curve: slopes, turned ones, sums. -/
import Derived.Test.YtjjmelhhalomaaaGreatDoorWv
namespace Go.Proofs.YtjjmelhhalomaaaGreatDoor
open Go.RowKit
set_option maxRecDepth 100000 in
set_option maxHeartbeats 400000 in
theorem slope_unlike (x y u v : Int) (f g : Bool) (w : World) (h : (x != u) = true) : Calls Tryz.prog 89 #[.agg #[.int .i64 x, .int .i64 y, .bool f], .agg #[.int .i64 u, .int .i64 v, .bool g]] w fun e w' => e = .returned (.tuple #[.int .i64 (pMul (pSub y v) (pInv (pSub x u))), .bool true]) ∧ Below w.heap.size w w' := by
  go_enter Tryz.func89, Tryz.ntmps89
  go_wp2
  go_quiet (first | (go_at_call 79; exact quiet_left (primeMul_c _ _ _)) | (go_at_call 90; exact quiet_left (primeSub_c _ _ _)) | (go_at_call 125; exact quiet_left (primeInverse_c _ _)))
  go_wp2
  go_ret2
  exact ⟨rfl, by repeat (first | exact Below.refl _ _ | refine below_drewN ?_ _ | refine Below.drew ?_ | refine balloc ?_ _)⟩
set_option maxRecDepth 100000 in
set_option maxHeartbeats 400000 in
theorem slope_upright1 (x y u v : Int) (f g : Bool) (w : World) (h : (x != u) = false) (h2 : (y != v) = true) : Calls Tryz.prog 89 #[.agg #[.int .i64 x, .int .i64 y, .bool f], .agg #[.int .i64 u, .int .i64 v, .bool g]] w fun e w' => e = .returned (.tuple #[.int .i64 0, .bool false]) ∧ Below w.heap.size w w' := by
  go_enter Tryz.func89, Tryz.ntmps89
  go_wp2
  go_ret2
  exact ⟨rfl, by repeat (first | exact Below.refl _ _ | refine below_drewN ?_ _ | refine Below.drew ?_ | refine balloc ?_ _)⟩
set_option maxRecDepth 100000 in
set_option maxHeartbeats 400000 in
theorem slope_upright2 (x y u v : Int) (f g : Bool) (w : World) (h : (x != u) = false) (h2 : (y != v) = false) (h3 : (y == 0) = true) : Calls Tryz.prog 89 #[.agg #[.int .i64 x, .int .i64 y, .bool f], .agg #[.int .i64 u, .int .i64 v, .bool g]] w fun e w' => e = .returned (.tuple #[.int .i64 0, .bool false]) ∧ Below w.heap.size w w' := by
  go_enter Tryz.func89, Tryz.ntmps89
  go_wp2
  go_ret2
  exact ⟨rfl, by repeat (first | exact Below.refl _ _ | refine below_drewN ?_ _ | refine Below.drew ?_ | refine balloc ?_ _)⟩
set_option maxRecDepth 100000 in
set_option maxHeartbeats 400000 in
theorem slope_same (x y u v : Int) (f g : Bool) (w : World) (h : (x != u) = false) (h2 : (y != v) = false) (h3 : (y == 0) = false) (y0 : 0 ≤ y) (y1 : y < 4051) : Calls Tryz.prog 89 #[.agg #[.int .i64 x, .int .i64 y, .bool f], .agg #[.int .i64 u, .int .i64 v, .bool g]] w fun e w' => e = .returned (.tuple #[.int .i64 (pMul (pMul 3 (pMul x x) + 1) (pInv (2 * y))), .bool true]) ∧ Below w.heap.size w w' := by
  have m1 := (r_pMul 3 (pMul x x)).1
  have m2 := (r_pMul 3 (pMul x x)).2
  go_enter Tryz.func89, Tryz.ntmps89
  go_wp2
  go_quiet (first | (go_at_call 79; exact quiet_left (primeMul_c _ _ _)) | (go_at_call 90; exact quiet_left (primeSub_c _ _ _)) | (go_at_call 125; exact quiet_left (primeInverse_c _ _)))
  go_wp2
  go_ret2
  exact ⟨rfl, by repeat (first | exact Below.refl _ _ | refine below_drewN ?_ _ | refine Below.drew ?_ | refine balloc ?_ _)⟩
set_option maxRecDepth 100000 in
set_option maxHeartbeats 400000 in
theorem turned_c (x y : Int) (f : Bool) (w : World) (y0 : 0 ≤ y) (y1 : y < 4051) : Calls Tryz.prog 48 #[.agg #[.int .i64 x, .int .i64 y, .bool f]] w fun e w' => e = .returned (.agg #[.int .i64 x, .int .i64 (pOf (-y)), .bool f]) ∧ Below w.heap.size w w' := by
  go_enter Tryz.func48, Tryz.ntmps48
  go_wp2
  refine wp_region_st 9 Tryz.mixed (by kernel_rfl) ?_
  simp only [List.take_succ_cons, List.take_zero, List.drop_succ_cons, List.drop_zero]
  repeat (first | still_step | still_call (stl (primeOf_c _ _)))
  refine wpStill_nil ?_
  go_wp2
  refine bodyPost_ret (v := .agg #[.int .i64 x, .int .i64 (pOf (-y)), .bool f]) (by simp [results, Tryz.results48, go_sem]) rfl ⟨rfl, ?_⟩
  repeat (first | exact Below.refl _ _ | refine Below.drew ?_ | refine balloc ?_ _)
theorem set3_cell {w : World} {b : Nat} {u v t x y z : Value} (h0 : w.cell? ⟨b, 0, none⟩ = some u) (h1 : w.cell? ⟨b, 1, none⟩ = some v) (h2 : w.cell? ⟨b, 2, none⟩ = some t) :
    (((w.setCell ⟨b, 0, none⟩ x).setCell ⟨b, 1, none⟩ y).setCell ⟨b, 2, none⟩ z).cell? ⟨b, 0, none⟩ = some x ∧ (((w.setCell ⟨b, 0, none⟩ x).setCell ⟨b, 1, none⟩ y).setCell ⟨b, 2, none⟩ z).cell? ⟨b, 1, none⟩ = some y ∧ (((w.setCell ⟨b, 0, none⟩ x).setCell ⟨b, 1, none⟩ y).setCell ⟨b, 2, none⟩ z).cell? ⟨b, 2, none⟩ = some z := by
  refine ⟨?_, ?_, ?_⟩
  · rw [World.cell?_setCell_other (h := by simp), World.cell?_setCell_other (h := by simp)]; exact World.cell?_setCell_same _ _ _ h0
  · rw [World.cell?_setCell_other (h := by simp)]; exact World.cell?_setCell_same _ _ _ (by rw [World.cell?_setCell_other (h := by simp)]; exact h1)
  · exact World.cell?_setCell_same _ _ _ (by rw [World.cell?_setCell_other (h := by simp), World.cell?_setCell_other (h := by simp)]; exact h2)
theorem set3_below {B : Nat} {a w : World} {b : Nat} {x y z : Value} (h : Below B a w) (hb : B ≤ b) : Below B a (((w.setCell ⟨b, 0, none⟩ x).setCell ⟨b, 1, none⟩ y).setCell ⟨b, 2, none⟩ z) := ((h.setCell hb x).setCell hb y).setCell hb z
set_option maxRecDepth 100000 in
set_option maxHeartbeats 1000000 in
theorem sum_farl (x y u v : Int) (g : Bool) (w : World) (_hF : FarAt w)  : Calls Tryz.prog 47 #[.agg #[.int .i64 x, .int .i64 y, .bool true], .agg #[.int .i64 u, .int .i64 v, .bool g]] w fun e w' => e = .returned (.agg #[.int .i64 u, .int .i64 v, .bool g]) ∧ Below w.heap.size w w' := by
  go_enter Tryz.func47, Tryz.ntmps47
  go_wp2
  refine bodyPost_ret (v := .agg #[.int .i64 u, .int .i64 v, .bool g]) (by simp [results, Tryz.results47, go_sem]) rfl ⟨rfl, ?_⟩
  repeat (first | exact Below.refl _ _ | refine below_drewN ?_ _ | refine Below.drew ?_ | refine balloc ?_ _)
set_option maxRecDepth 100000 in
set_option maxHeartbeats 1000000 in
theorem sum_farr (x y u v : Int) (w : World) (_hF : FarAt w)  : Calls Tryz.prog 47 #[.agg #[.int .i64 x, .int .i64 y, .bool false], .agg #[.int .i64 u, .int .i64 v, .bool true]] w fun e w' => e = .returned (.agg #[.int .i64 x, .int .i64 y, .bool false]) ∧ Below w.heap.size w w' := by
  go_enter Tryz.func47, Tryz.ntmps47
  go_wp2
  refine bodyPost_ret (v := .agg #[.int .i64 x, .int .i64 y, .bool false]) (by simp [results, Tryz.results47, go_sem]) rfl ⟨rfl, ?_⟩
  repeat (first | exact Below.refl _ _ | refine below_drewN ?_ _ | refine Below.drew ?_ | refine balloc ?_ _)
set_option maxRecDepth 100000 in
set_option maxHeartbeats 1000000 in
theorem sum_up1 (x y u v : Int) (w : World) (hF : FarAt w) (h : (x != u) = false) (h2 : (y != v) = true) : Calls Tryz.prog 47 #[.agg #[.int .i64 x, .int .i64 y, .bool false], .agg #[.int .i64 u, .int .i64 v, .bool false]] w fun e w' => e = .returned (.agg #[.int .i64 0, .int .i64 0, .bool true]) ∧ Below w.heap.size w w' := by
  obtain ⟨c0, c1, c2, hlt⟩ := hF
  go_enter Tryz.func47, Tryz.ntmps47
  go_wp2_with fail
  refine (slope_upright1 x y u v false false _ h h2).mono ?_; rintro e w1 ⟨rfl, hb⟩
  obtain ⟨hc, hf⟩ := bcell hb
  have s0 : w.heap.size < w1.heap.size := by have := hb.size; simp at this; omega
  have s1 : w.heap.size + 1 < w1.heap.size := by have := hb.size; simp at this; omega
  have s2 : w.heap.size + 1 + 1 < w1.heap.size := by have := hb.size; simp at this; omega
  have hbb := below_seq (balloc (balloc (below_alloc w _) _) _) hb
  have hl : 0 < w.heap.size := hlt
  have r0 : w1.cell? ⟨w.heap.size + 1 + 1, 0, none⟩ = some (.int .i64 0) := by go_simp
  have r1 : w1.cell? ⟨w.heap.size + 1 + 1, 1, none⟩ = some (.int .i64 0) := by go_simp
  have r2 : w1.cell? ⟨w.heap.size + 1 + 1, 2, none⟩ = some (.bool false) := by go_simp
  have g0 : w1.cell? ⟨0, 0, none⟩ = some (.int .i64 0) := (FarAt.below ⟨c0, c1, c2, hlt⟩ hbb).c0
  have g1 : w1.cell? ⟨0, 1, none⟩ = some (.int .i64 0) := (FarAt.below ⟨c0, c1, c2, hlt⟩ hbb).c1
  have g2 : w1.cell? ⟨0, 2, none⟩ = some (.bool true) := (FarAt.below ⟨c0, c1, c2, hlt⟩ hbb).c2
  clear hb
  go_wp2
  have k := set3_cell (x := .int .i64 0) (y := .int .i64 0) (z := .bool true) r0 r1 r2
  refine bodyPost_ret (v := .agg #[.int .i64 0, .int .i64 0, .bool true]) (by simp [results, Tryz.results47, go_sem, k.1, k.2.1, k.2.2]) rfl ⟨rfl, set3_below hbb (by omega)⟩
set_option maxRecDepth 100000 in
set_option maxHeartbeats 1000000 in
theorem sum_up2 (x y u v : Int) (w : World) (hF : FarAt w) (h : (x != u) = false) (h2 : (y != v) = false) (h3 : (y == 0) = true) : Calls Tryz.prog 47 #[.agg #[.int .i64 x, .int .i64 y, .bool false], .agg #[.int .i64 u, .int .i64 v, .bool false]] w fun e w' => e = .returned (.agg #[.int .i64 0, .int .i64 0, .bool true]) ∧ Below w.heap.size w w' := by
  obtain ⟨c0, c1, c2, hlt⟩ := hF
  go_enter Tryz.func47, Tryz.ntmps47
  go_wp2_with fail
  refine (slope_upright2 x y u v false false _ h h2 h3).mono ?_; rintro e w1 ⟨rfl, hb⟩
  obtain ⟨hc, hf⟩ := bcell hb
  have s0 : w.heap.size < w1.heap.size := by have := hb.size; simp at this; omega
  have s1 : w.heap.size + 1 < w1.heap.size := by have := hb.size; simp at this; omega
  have s2 : w.heap.size + 1 + 1 < w1.heap.size := by have := hb.size; simp at this; omega
  have hbb := below_seq (balloc (balloc (below_alloc w _) _) _) hb
  have hl : 0 < w.heap.size := hlt
  have r0 : w1.cell? ⟨w.heap.size + 1 + 1, 0, none⟩ = some (.int .i64 0) := by go_simp
  have r1 : w1.cell? ⟨w.heap.size + 1 + 1, 1, none⟩ = some (.int .i64 0) := by go_simp
  have r2 : w1.cell? ⟨w.heap.size + 1 + 1, 2, none⟩ = some (.bool false) := by go_simp
  have g0 : w1.cell? ⟨0, 0, none⟩ = some (.int .i64 0) := (FarAt.below ⟨c0, c1, c2, hlt⟩ hbb).c0
  have g1 : w1.cell? ⟨0, 1, none⟩ = some (.int .i64 0) := (FarAt.below ⟨c0, c1, c2, hlt⟩ hbb).c1
  have g2 : w1.cell? ⟨0, 2, none⟩ = some (.bool true) := (FarAt.below ⟨c0, c1, c2, hlt⟩ hbb).c2
  clear hb
  go_wp2
  have k := set3_cell (x := .int .i64 0) (y := .int .i64 0) (z := .bool true) r0 r1 r2
  refine bodyPost_ret (v := .agg #[.int .i64 0, .int .i64 0, .bool true]) (by simp [results, Tryz.results47, go_sem, k.1, k.2.1, k.2.2]) rfl ⟨rfl, set3_below hbb (by omega)⟩
set_option maxRecDepth 100000 in
set_option maxHeartbeats 1000000 in
theorem sum_unlike (x y u v : Int) (w : World) (hF : FarAt w) (h : (x != u) = true) (x0 : 0 ≤ x) (x1 : x < 4051) (u0 : 0 ≤ u) (u1 : u < 4051) : Calls Tryz.prog 47 #[.agg #[.int .i64 x, .int .i64 y, .bool false], .agg #[.int .i64 u, .int .i64 v, .bool false]] w fun e w' => e = .returned (spV (sThird ⟨x, y, false⟩ ⟨u, v, false⟩ (pMul (pSub y v) (pInv (pSub x u))))) ∧ Below w.heap.size w w' := by
  obtain ⟨c0, c1, c2, hlt⟩ := hF
  go_enter Tryz.func47, Tryz.ntmps47
  go_wp2_with fail
  refine (slope_unlike x y u v false false _ h).mono ?_; rintro e w1 ⟨rfl, hb⟩
  obtain ⟨hc, hf⟩ := bcell hb
  have s0 : w.heap.size < w1.heap.size := by have := hb.size; simp at this; omega
  have s1 : w.heap.size + 1 < w1.heap.size := by have := hb.size; simp at this; omega
  have s2 : w.heap.size + 1 + 1 < w1.heap.size := by have := hb.size; simp at this; omega
  have hbb := below_seq (balloc (balloc (below_alloc w _) _) _) hb
  have hl : 0 < w.heap.size := hlt
  have r0 : w1.cell? ⟨w.heap.size + 1 + 1, 0, none⟩ = some (.int .i64 0) := by go_simp
  have r1 : w1.cell? ⟨w.heap.size + 1 + 1, 1, none⟩ = some (.int .i64 0) := by go_simp
  have r2 : w1.cell? ⟨w.heap.size + 1 + 1, 2, none⟩ = some (.bool false) := by go_simp
  clear hb c0 c1 c2
  go_wp2
  go_quiet (first | (go_at_call 79; exact quiet_left (primeMul_c _ _ _)) | (go_at_call 90; exact quiet_left (primeSub_c _ _ _)))
  go_wp2
  refine wp_region_st 11 Tryz.mixed (by kernel_rfl) ?_
  simp only [List.take_succ_cons, List.take_zero, List.drop_succ_cons, List.drop_zero]
  repeat (first | still_step | still_call (stl (primeMul_c _ _ _)) | still_call (stl (primeSub_c _ _ _)))
  refine wpStill_nil ?_
  go_wp2
  have k := set3_cell (w := w1.drewN (nq + 1)) (x := .int .i64 (sThird ⟨x, y, false⟩ ⟨u, v, false⟩ (pMul (pSub y v) (pInv (pSub x u)))).x) (y := .int .i64 (sThird ⟨x, y, false⟩ ⟨u, v, false⟩ (pMul (pSub y v) (pInv (pSub x u)))).y) (z := .bool false) r0 r1 r2
  simp only [sThird] at k
  refine bodyPost_ret (v := spV (sThird ⟨x, y, false⟩ ⟨u, v, false⟩ (pMul (pSub y v) (pInv (pSub x u))))) (by simp [results, Tryz.results47, go_sem, sThird, k.1, k.2.1, k.2.2]) rfl ⟨rfl, set3_below (below_drewN hbb _) (by omega)⟩
set_option maxRecDepth 100000 in
set_option maxHeartbeats 1000000 in
theorem sum_same (x y u v : Int) (w : World) (hF : FarAt w) (h : (x != u) = false) (h2 : (y != v) = false) (h3 : (y == 0) = false) (y0 : 0 ≤ y) (y1 : y < 4051) (x0 : 0 ≤ x) (x1 : x < 4051) (u0 : 0 ≤ u) (u1 : u < 4051) : Calls Tryz.prog 47 #[.agg #[.int .i64 x, .int .i64 y, .bool false], .agg #[.int .i64 u, .int .i64 v, .bool false]] w fun e w' => e = .returned (spV (sThird ⟨x, y, false⟩ ⟨u, v, false⟩ (pMul (pMul 3 (pMul x x) + 1) (pInv (2 * y))))) ∧ Below w.heap.size w w' := by
  obtain ⟨c0, c1, c2, hlt⟩ := hF
  go_enter Tryz.func47, Tryz.ntmps47
  go_wp2_with fail
  refine (slope_same x y u v false false _ h h2 h3 y0 y1).mono ?_; rintro e w1 ⟨rfl, hb⟩
  obtain ⟨hc, hf⟩ := bcell hb
  have s0 : w.heap.size < w1.heap.size := by have := hb.size; simp at this; omega
  have s1 : w.heap.size + 1 < w1.heap.size := by have := hb.size; simp at this; omega
  have s2 : w.heap.size + 1 + 1 < w1.heap.size := by have := hb.size; simp at this; omega
  have hbb := below_seq (balloc (balloc (below_alloc w _) _) _) hb
  have hl : 0 < w.heap.size := hlt
  have r0 : w1.cell? ⟨w.heap.size + 1 + 1, 0, none⟩ = some (.int .i64 0) := by go_simp
  have r1 : w1.cell? ⟨w.heap.size + 1 + 1, 1, none⟩ = some (.int .i64 0) := by go_simp
  have r2 : w1.cell? ⟨w.heap.size + 1 + 1, 2, none⟩ = some (.bool false) := by go_simp
  clear hb c0 c1 c2
  go_wp2
  go_quiet (first | (go_at_call 79; exact quiet_left (primeMul_c _ _ _)) | (go_at_call 90; exact quiet_left (primeSub_c _ _ _)))
  go_wp2
  refine wp_region_st 11 Tryz.mixed (by kernel_rfl) ?_
  simp only [List.take_succ_cons, List.take_zero, List.drop_succ_cons, List.drop_zero]
  repeat (first | still_step | still_call (stl (primeMul_c _ _ _)) | still_call (stl (primeSub_c _ _ _)))
  refine wpStill_nil ?_
  go_wp2
  have k := set3_cell (w := w1.drewN (nq + 1)) (x := .int .i64 (sThird ⟨x, y, false⟩ ⟨u, v, false⟩ (pMul (pMul 3 (pMul x x) + 1) (pInv (2 * y)))).x) (y := .int .i64 (sThird ⟨x, y, false⟩ ⟨u, v, false⟩ (pMul (pMul 3 (pMul x x) + 1) (pInv (2 * y)))).y) (z := .bool false) r0 r1 r2
  simp only [sThird] at k
  refine bodyPost_ret (v := spV (sThird ⟨x, y, false⟩ ⟨u, v, false⟩ (pMul (pMul 3 (pMul x x) + 1) (pInv (2 * y))))) (by simp [results, Tryz.results47, go_sem, sThird, k.1, k.2.1, k.2.2]) rfl ⟨rfl, set3_below (below_drewN hbb _) (by omega)⟩
end Go.Proofs.YtjjmelhhalomaaaGreatDoor
