/- Walks of layer twin, with two results. -/
import Derived.Test.YtopcdihgkojjlaaDoorWt
namespace Go.Proofs.YtopcdihgkojjlaaDoor
open Go.RowKit
set_option maxHeartbeats 400000 in
theorem twinPow_ok (a b n : Int) (w : World) (hn : 0 ≤ n) (hm : n ≤ 9223372036854775807) : Calls Tryd.prog 29 #[.agg #[.int .i64 a, .int .i64 b], .int .i64 n] w fun e w' => e = .returned (.tuple #[twR ((zi a b).pow n.toNat), .nilIface]) ∧ Below w.heap.size w w' := by
  go_enter Tryd.func29, Tryd.ntmps29
  go_wp2_with fail
  refine (twinPower_c _ _ _ _ hn hm).mono ?_; rintro e w1 ⟨rfl, hb⟩
  have hsz := hb.size
  have r0 : w1.cell? ⟨w.heap.size + 1, 0, none⟩ = some (.int .i64 0) := (hb.cell (p := ⟨w.heap.size + 1, 0, none⟩) (by simp)).trans (by go_simp)
  have r1 : w1.cell? ⟨w.heap.size + 1, 1, none⟩ = some (.int .i64 0) := (hb.cell (p := ⟨w.heap.size + 1, 1, none⟩) (by simp)).trans (by go_simp)
  have f0 : w1.frozen? ⟨w.heap.size + 1, 0, none⟩ = false := (hb.frozen (p := ⟨w.heap.size + 1, 0, none⟩) (by simp)).trans (by go_simp)
  have f1 : w1.frozen? ⟨w.heap.size + 1, 1, none⟩ = false := (hb.frozen (p := ⟨w.heap.size + 1, 1, none⟩) (by simp)).trans (by go_simp)
  have hb0 := below_seq (balloc (below_alloc w _) _) hb
  clear hb
  go_wp2
  have k := set2_cell (x := .int .i64 (fz ((zi a b).pow n.toNat).re)) (y := .int .i64 (fz ((zi a b).pow n.toNat).im)) r0 r1
  refine bodyPost_ret (v := .tuple #[twR ((zi a b).pow n.toNat), .nilIface]) (by simp [results, Tryd.results29, go_sem, k.1, k.2]) rfl ⟨rfl, set2_below hb0 (by omega)⟩
set_option maxHeartbeats 400000 in
theorem twinPow_bad (a b n : Int) (w : World) (hn : n < 0) : Calls Tryd.prog 29 #[.agg #[.int .i64 a, .int .i64 b], .int .i64 n] w fun e w' => e = .returned (.tuple #[.agg #[.int .i64 0, .int .i64 0], .iface 117 (.int .i64 1)]) ∧ Below w.heap.size w w' := by
  go_enter Tryd.func29, Tryd.ntmps29
  go_wp2
  refine bodyPost_ret (v := .tuple #[.agg #[.int .i64 0, .int .i64 0], .iface 117 (.int .i64 1)]) (by simp [results, Tryd.results29, go_sem]) rfl ⟨rfl, ?_⟩
  repeat (first | exact Below.refl _ _ | refine Below.drew ?_ | refine balloc ?_ _)
set_option maxHeartbeats 400000 in
theorem twinInv_some (a b : Int) (w : World) (h : (pOf (fz (zi a b).norm) == 0) = false) : Calls Tryd.prog 26 #[.agg #[.int .i64 a, .int .i64 b]] w fun e w' => e = .returned (.tuple #[twR ((zi a b).conj.mul (zi (pInv (fz (zi a b).norm)) 0)), .nilIface]) ∧ Below w.heap.size w w' := by
  go_enter Tryd.func26, Tryd.ntmps26
  go_wp2_with fail
  refine (twinNorm_c _ _ _).mono ?_; rintro e w1 ⟨rfl, hb1⟩
  obtain ⟨hc1, hf1⟩ := bcell hb1
  have hs1 : w.heap.size < w1.heap.size := by have := hb1.size; simp at this; omega
  have hs1' : w.heap.size + 1 < w1.heap.size := by have := hb1.size; simp at this; omega
  go_wp2_with fail
  refine (primeInv_some _ _ h).mono ?_; rintro e w2 ⟨rfl, rfl⟩
  go_wp2_with fail
  refine (twinConj_c _ _ _).mono ?_; rintro e w2 ⟨rfl, hb2⟩
  obtain ⟨hc2, hf2⟩ := bcell hb2
  have hs2 : w.heap.size + 1 < w2.heap.size := by have := hb2.size; omega
  go_wp2_with fail
  refine (twinMul_c _ _ _ _ _).mono ?_; rintro e w3 ⟨rfl, hb3⟩
  obtain ⟨hc3, hf3⟩ := bcell hb3
  have hs3 : w.heap.size + 1 < w3.heap.size := by have := hb3.size; omega
  have r0 : w3.cell? ⟨w.heap.size + 1, 0, none⟩ = some (.int .i64 0) := by go_simp
  have r1 : w3.cell? ⟨w.heap.size + 1, 1, none⟩ = some (.int .i64 0) := by go_simp
  have hbb := below_seq (below_seq (below_seq (balloc (below_alloc w _) _) hb1) hb2) hb3
  rw [zi_fz]
  clear hb1 hb2 hb3
  go_wp2
  generalize ((zi a b).conj.mul (zi (pInv (fz (zi a b).norm)) 0)) = z at *
  have k := set2_cell (x := .int .i64 (fz z.re)) (y := .int .i64 (fz z.im)) r0 r1
  refine bodyPost_ret (v := .tuple #[twR z, .nilIface]) (by simp [results, Tryd.results26, go_sem, k.1, k.2]) rfl ⟨rfl, set2_below hbb (by omega)⟩
set_option maxHeartbeats 400000 in
theorem twinInv_none (a b : Int) (w : World) (h : (pOf (fz (zi a b).norm) == 0) = true) : Calls Tryd.prog 26 #[.agg #[.int .i64 a, .int .i64 b]] w fun e w' => e = .returned (.tuple #[.agg #[.int .i64 0, .int .i64 0], .iface 117 (.int .i64 5)]) ∧ Below w.heap.size w w' := by
  go_enter Tryd.func26, Tryd.ntmps26
  go_wp2_with fail
  refine (twinNorm_c _ _ _).mono ?_; rintro e w1 ⟨rfl, hb1⟩
  obtain ⟨hc1, hf1⟩ := bcell hb1
  have hs1' : w.heap.size + 1 < w1.heap.size := by have := hb1.size; simp at this; omega
  go_wp2_with fail
  refine (primeInv_none _ _ h).mono ?_; rintro e w2 ⟨rfl, rfl⟩
  have r0 : w1.cell? ⟨w.heap.size + 1, 0, none⟩ = some (.int .i64 0) := by go_simp
  have r1 : w1.cell? ⟨w.heap.size + 1, 1, none⟩ = some (.int .i64 0) := by go_simp
  have hbb := below_seq (balloc (below_alloc w _) _) hb1
  clear hb1
  go_wp2
  have k := set2_cell (x := .int .i64 0) (y := .int .i64 0) r0 r1
  refine bodyPost_ret (v := .tuple #[.agg #[.int .i64 0, .int .i64 0], .iface 117 (.int .i64 5)]) (by simp [results, Tryd.results26, go_sem, k.1, k.2]) rfl ⟨rfl, set2_below hbb (by omega)⟩
end Go.Proofs.YtopcdihgkojjlaaDoor
