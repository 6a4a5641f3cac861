/- Walks of layer curve: Neg, Add, Lift. -/
import Derived.Test.YtebomakihdjllaaDoorWy
namespace Go.Proofs.YtebomakihdjllaaDoor
open Go.RowKit
theorem spots_two (a b : Sp) (w : World) (k : Nat) (hk : k < w.heap.size) (h0 : w.cell? ⟨k, 0, none⟩ = some (.int .i64 a.x)) (h1 : w.cell? ⟨k, 1, none⟩ = some (.int .i64 a.y)) (h2 : w.cell? ⟨k, 2, none⟩ = some (.bool a.far))
    (h3 : w.cell? ⟨k, 3, none⟩ = some (.int .i64 b.x)) (h4 : w.cell? ⟨k, 4, none⟩ = some (.int .i64 b.y)) (h5 : w.cell? ⟨k, 5, none⟩ = some (.bool b.far)) : SpotsAt w k 0 [a, b] := by
  refine ⟨hk, ?_, ?_, ?_⟩ <;> intro i hi <;> (have hi' : i = 0 ∨ i = 1 := by simp at hi; omega) <;> rcases hi' with rfl | rfl <;> assumption
set_option maxHeartbeats 1000000 in
theorem add_ok (a b : Sp) (w : World) (hF : FarAt w) (ha : Ok a) (hb : Ok b) : Calls Tryd.prog 31 #[spV a, spV b] w fun e w' => e = .returned (.tuple #[spV (sSum a b), .nilIface]) ∧ Below w.heap.size w w' := by
  go_enter Tryd.func31, Tryd.ntmps31
  go_wp2_with fail
  refine (all_ok [a, b] _ 0 2 _ (hF.below (balloc (balloc (balloc (below_alloc w _) _) _) _)) (by simp) (spots_two a b _ _ (by simp) (by go_simp) (by go_simp) (by go_simp) (by go_simp) (by go_simp) (by go_simp)) (by
    intro i hi; have hi' : i = 0 ∨ i = 1 := by simp at hi; omega
    rcases hi' with rfl | rfl <;> assumption)).mono ?_; rintro e w1 ⟨rfl, hb1⟩
  obtain ⟨hc, hf⟩ := bcell hb1
  have s0 : w.heap.size < w1.heap.size := by have := hb1.size; simp at this; omega
  have s1 : w.heap.size + 1 < w1.heap.size := by have := hb1.size; simp at this; omega
  have s2 : w.heap.size + 1 + 1 < w1.heap.size := by have := hb1.size; simp at this; omega
  have hbb := below_seq (balloc (balloc (balloc (below_alloc w _) _) _) _) hb1
  have hF1 := hF.below hbb
  clear hb1
  go_wp2_with fail
  refine (sum_k a b _ hF1 ha hb).mono ?_; rintro e w2 ⟨rfl, hb1⟩
  obtain ⟨hc2, hf2⟩ := bcell hb1
  have t2 : w.heap.size + 1 + 1 < w2.heap.size := Nat.lt_of_lt_of_le s2 hb1.size
  have hb2 := below_seq hbb hb1
  clear hb1
  have r0 : w2.cell? ⟨w.heap.size + 1 + 1, 0, none⟩ = some (.int .i64 0) := by go_simp
  have r1 : w2.cell? ⟨w.heap.size + 1 + 1, 1, none⟩ = some (.int .i64 0) := by go_simp
  have r2 : w2.cell? ⟨w.heap.size + 1 + 1, 2, none⟩ = some (.bool false) := by go_simp
  go_wp2
  have k := set3_cell (w := w2) (x := .int .i64 (sSum a b).x) (y := .int .i64 (sSum a b).y) (z := .bool (sSum a b).far) r0 r1 r2
  refine bodyPost_ret (v := .tuple #[spV (sSum a b), .nilIface]) (by simp [results, Tryd.results31, go_sem, k.1, k.2.1, k.2.2]) rfl ⟨rfl, set3_below hb2 (by omega)⟩
set_option maxHeartbeats 1000000 in
theorem add_core (a b : Sp) (E : Int) (w : World) (hF : FarAt w) (k : Nat) (hk : k < 2) (h : ∀ i (h : i < [a, b].length), i < k → Ok [a, b][i]) (he : sCheck [a, b][k] = E) (h0 : E ≠ 0) :
    Calls Tryd.prog 31 #[spV a, spV b] w fun e w' => e = .returned (.tuple #[spV ⟨0, 0, false⟩, .iface 69 (.int .i64 E)]) ∧ Below w.heap.size w w' := by
  go_enter Tryd.func31, Tryd.ntmps31
  go_wp2_with fail
  refine (all_bad [a, b] _ 0 2 _ (hF.below (balloc (balloc (balloc (below_alloc w _) _) _) _)) (by simp) (spots_two a b _ _ (by simp) (by go_simp) (by go_simp) (by go_simp) (by go_simp) (by go_simp) (by go_simp)) k hk h (he ▸ h0)).mono ?_; rintro e w1 ⟨rfl, hb1⟩
  rw [he]
  obtain ⟨hc, hf⟩ := bcell hb1
  have s0 : w.heap.size < w1.heap.size := by have := hb1.size; simp at this; omega
  have s1 : w.heap.size + 1 < w1.heap.size := by have := hb1.size; simp at this; omega
  have s2 : w.heap.size + 1 + 1 < w1.heap.size := by have := hb1.size; simp at this; omega
  have hbb := below_seq (balloc (balloc (balloc (below_alloc w _) _) _) _) hb1
  clear hb1 he h
  have r0 : w1.cell? ⟨w.heap.size + 1 + 1, 0, none⟩ = some (.int .i64 0) := by go_simp
  have r1 : w1.cell? ⟨w.heap.size + 1 + 1, 1, none⟩ = some (.int .i64 0) := by go_simp
  have r2 : w1.cell? ⟨w.heap.size + 1 + 1, 2, none⟩ = some (.bool false) := by go_simp
  go_wp2
  have k := set3_cell (w := w1) (x := .int .i64 0) (y := .int .i64 0) (z := .bool false) r0 r1 r2
  refine bodyPost_ret (v := .tuple #[spV ⟨0, 0, false⟩, .iface 69 (.int .i64 E)]) (by simp [results, Tryd.results31, go_sem, k.1, k.2.1, k.2.2]) rfl ⟨rfl, set3_below hbb (by omega)⟩
theorem add_bad1 (a b : Sp) (w : World) (hF : FarAt w) (h : sCheck a ≠ 0) :
    Calls Tryd.prog 31 #[spV a, spV b] w fun e w' => e = .returned (.tuple #[spV ⟨0, 0, false⟩, .iface 69 (.int .i64 (sCheck a))]) ∧ Below w.heap.size w w' :=
  add_core a b _ w hF 0 (by omega) (fun i _ h => absurd h (by omega)) rfl h
theorem ok_first (a b : Sp) (ha : Ok a) (i : Nat) (hi : i < [a, b].length) (h : i < 1) : Ok [a, b][i] := by
  obtain rfl : i = 0 := by omega
  exact ha
theorem add_bad2 (a b : Sp) (w : World) (hF : FarAt w) (ha : Ok a) (h : sCheck b ≠ 0) :
    Calls Tryd.prog 31 #[spV a, spV b] w fun e w' => e = .returned (.tuple #[spV ⟨0, 0, false⟩, .iface 69 (.int .i64 (sCheck b))]) ∧ Below w.heap.size w w' :=
  add_core a b _ w hF 1 (by omega) (ok_first a b ha) rfl h
end Go.Proofs.YtebomakihdjllaaDoor
