/- Walks of layer twin, with two results. -/
import Derived.Test.YtkcfblogfnpbnaaWt
namespace Go.Proofs.Ytkcfblogfnpbnaa
open Go.RowKit
set_option maxHeartbeats 400000 in
theorem twinPow_ok (a b n : Int) (w : World) (hn : 0 ≤ n) (hm : n ≤ 9223372036854775807) : Calls Try.prog 16 #[.agg #[.int .i64 a, .int .i64 b], .int .i64 n] w fun e w' => e = .returned (.tuple #[twR ((zi a b).pow n.toNat), .nilIface]) ∧ Below w.heap.size w w' := by
  go_enter Try.func16, Try.ntmps16
  go_wp2_with fail
  refine (twinPower_c _ _ _ _ hn hm).mono ?_; rintro e w1 ⟨rfl, hb⟩
  have hsz := hb.size
  have r0 : w1.cell? ⟨w.heap.size + 1, 0, none⟩ = some (.int .i64 0) := (hb.cell (p := ⟨w.heap.size + 1, 0, none⟩) (by simp)).trans (by go_simp)
  have r1 : w1.cell? ⟨w.heap.size + 1, 1, none⟩ = some (.int .i64 0) := (hb.cell (p := ⟨w.heap.size + 1, 1, none⟩) (by simp)).trans (by go_simp)
  have f0 : w1.frozen? ⟨w.heap.size + 1, 0, none⟩ = false := (hb.frozen (p := ⟨w.heap.size + 1, 0, none⟩) (by simp)).trans (by go_simp)
  have f1 : w1.frozen? ⟨w.heap.size + 1, 1, none⟩ = false := (hb.frozen (p := ⟨w.heap.size + 1, 1, none⟩) (by simp)).trans (by go_simp)
  have hb0 := below_seq (balloc (below_alloc w _) _) hb
  clear hb
  go_wp2
  have k := set2_cell (x := .int .i64 (fz ((zi a b).pow n.toNat).re)) (y := .int .i64 (fz ((zi a b).pow n.toNat).im)) r0 r1
  refine bodyPost_ret (v := .tuple #[twR ((zi a b).pow n.toNat), .nilIface]) (by simp [results, Try.results16, go_sem, k.1, k.2]) rfl ⟨rfl, set2_below hb0 (by omega)⟩
set_option maxHeartbeats 400000 in
theorem twinPow_bad (a b n : Int) (w : World) (hn : n < 0) : Calls Try.prog 16 #[.agg #[.int .i64 a, .int .i64 b], .int .i64 n] w fun e w' => e = .returned (.tuple #[.agg #[.int .i64 0, .int .i64 0], .iface 26 (.int .i64 1)]) ∧ Below w.heap.size w w' := by
  go_enter Try.func16, Try.ntmps16
  go_wp2
  refine bodyPost_ret (v := .tuple #[.agg #[.int .i64 0, .int .i64 0], .iface 26 (.int .i64 1)]) (by simp [results, Try.results16, go_sem]) rfl ⟨rfl, ?_⟩
  repeat (first | exact Below.refl _ _ | refine Below.drew ?_ | refine balloc ?_ _)
end Go.Proofs.Ytkcfblogfnpbnaa
