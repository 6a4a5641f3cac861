/- Walks of layer seal, the small ones: what may be a secret, a rest, a text; keys. -/
import Derived.Test.YtjjmelhhalomaaaGreatDoorHa
import Derived.Test.YtjjmelhhalomaaaGreatDoorGt
namespace Go.Proofs.YtjjmelhhalomaaaGreatDoor
open Go.RowKit
set_option maxRecDepth 100000
set_option linter.unusedVariables false
set_option linter.unusedSimpArgs false
set_option maxHeartbeats 400000 in
theorem secret_y (n : Int) (w : World) (h1 : 1 ≤ n) (h2 : n < 1013) : Calls Tryz.prog 49 #[.int .i64 n] w fun e w' => e = .returned (.bool true) ∧ w = w' := by
  go_enter Tryz.func49, Tryz.ntmps49
  go_wp2
  go_ret
  exact ⟨rfl, rfl⟩
set_option maxHeartbeats 400000 in
theorem secret_n (n : Int) (w : World) (h : ¬ (1 ≤ n ∧ n < 1013)) : Calls Tryz.prog 49 #[.int .i64 n] w fun e w' => e = .returned (.bool false) ∧ w = w' := by
  by_cases h1 : 1 ≤ n
  · have h2 : ¬ n < 1013 := fun c => h ⟨h1, c⟩
    clear h
    go_enter Tryz.func49, Tryz.ntmps49
    go_wp2
    go_ret
    exact ⟨rfl, rfl⟩
  · clear h
    go_enter Tryz.func49, Tryz.ntmps49
    go_wp2
    go_ret
    exact ⟨rfl, rfl⟩
set_option maxHeartbeats 400000 in
theorem rest_y (n : Int) (w : World) (h1 : 0 ≤ n) (h2 : n < 1013) : Calls Tryz.prog 42 #[.int .i64 n] w fun e w' => e = .returned (.bool true) ∧ w = w' := by
  go_enter Tryz.func42, Tryz.ntmps42
  go_wp2
  go_ret
  exact ⟨rfl, rfl⟩
set_option maxHeartbeats 400000 in
theorem rest_n (n : Int) (w : World) (h : ¬ (0 ≤ n ∧ n < 1013)) : Calls Tryz.prog 42 #[.int .i64 n] w fun e w' => e = .returned (.bool false) ∧ w = w' := by
  by_cases h1 : 0 ≤ n
  · have h2 : ¬ n < 1013 := fun c => h ⟨h1, c⟩
    clear h
    go_enter Tryz.func42, Tryz.ntmps42
    go_wp2
    go_ret
    exact ⟨rfl, rfl⟩
  · clear h
    go_enter Tryz.func42, Tryz.ntmps42
    go_wp2
    go_ret
    exact ⟨rfl, rfl⟩
set_option maxHeartbeats 400000 in
theorem text_y (s : ByteArray) (w : World) (h : s.size ≤ 60) : Calls Tryz.prog 83 #[.string s] w fun e w' => e = .returned (.bool true) ∧ w = w' := by
  go_enter Tryz.func83, Tryz.ntmps83
  go_wp2
  go_ret
  exact ⟨ret_bool (by simp; omega), rfl⟩
set_option maxHeartbeats 400000 in
theorem text_n (s : ByteArray) (w : World) (h : 60 < s.size) (hz : s.size ≤ 140737488351232) : Calls Tryz.prog 83 #[.string s] w fun e w' => e = .returned (.bool false) ∧ w = w' := by
  go_enter Tryz.func83, Tryz.ntmps83
  go_wp2
  go_ret
  exact ⟨ret_bool (by simp; omega), rfl⟩
set_option maxHeartbeats 400000 in
theorem key_y (n : Int) (w : World) (hF : FarAt w) (h1 : 1 ≤ n) (h2 : n < 1013) : Calls Tryz.prog 39 #[.int .i64 n] w fun e w' => e = .returned (.tuple #[spV (sq (4 * n)), .nilIface]) ∧ Below w.heap.size w w' := by
  go_enter Tryz.func39, Tryz.ntmps39
  go_wp2_with fail
  refine (secret_y n _ h1 h2).mono ?_; rintro e w' ⟨rfl, rfl⟩
  go_wp2_with fail
  refine (by_c n _ (hF.below (by repeat (first | exact Below.refl _ _ | refine balloc ?_ _ | refine Below.drew ?_ | refine below_drewN ?_ _ | refine below_set ?_ (by first | omega | (dsimp only; omega)) _)))).mono ?_; rintro e w1 ⟨rfl, hb⟩
  obtain ⟨hc1, hf1⟩ := bcell hb
  have z1 := hb.size
  try simp only [World.size_alloc, World.size_setCell, World.size_drew] at z1
  have s1_0 : w.heap.size < w1.heap.size := by omega
  have hB1 : Below w.heap.size w w1 := below_seq (by repeat (first | exact Below.refl _ _ | refine balloc ?_ _ | refine Below.drew ?_ | refine below_drewN ?_ _ | refine below_set ?_ (by first | omega | (dsimp only; omega)) _)) hb
  clear hb
  have r0 : w1.cell? ⟨w.heap.size, 0, none⟩ = some (.int .i64 0) := by go_simp
  have r1 : w1.cell? ⟨w.heap.size, 1, none⟩ = some (.int .i64 0) := by go_simp
  have r2 : w1.cell? ⟨w.heap.size, 2, none⟩ = some (.bool false) := by go_simp
  go_wp2
  have k := set3_cell (w := w1) (x := .int .i64 (sq (4 * n)).x) (y := .int .i64 (sq (4 * n)).y) (z := .bool (sq (4 * n)).far) r0 r1 r2
  refine bodyPost_ret (v := .tuple #[spV (sq (4 * n)), .nilIface]) (by simp [results, Tryz.results39, go_sem, k.1, k.2.1, k.2.2]) rfl ⟨rfl, set3_below (by repeat (first | exact hB1 | exact Below.refl _ _ | refine balloc ?_ _ | refine Below.drew ?_ | refine below_drewN ?_ _ | refine below_set ?_ (by first | omega | (dsimp only; omega)) _)) (by omega)⟩
set_option maxHeartbeats 400000 in
theorem key_n (n : Int) (w : World) (h : ¬ (1 ≤ n ∧ n < 1013)) : Calls Tryz.prog 39 #[.int .i64 n] w fun e w' => e = .returned (.tuple #[spV ⟨0, 0, false⟩, .iface 84 (.int .i64 1)]) ∧ Below w.heap.size w w' := by
  go_enter Tryz.func39, Tryz.ntmps39
  go_wp2_with fail
  refine (secret_n n _ h).mono ?_; rintro e w' ⟨rfl, rfl⟩
  go_wp2
  refine bodyPost_ret (v := .tuple #[spV ⟨0, 0, false⟩, .iface 84 (.int .i64 1)]) (by simp [results, Tryz.results39, go_sem]) rfl ⟨rfl, (by repeat (first | exact Below.refl _ _ | refine balloc ?_ _ | refine Below.drew ?_ | refine below_drewN ?_ _ | refine below_set ?_ (by first | omega | (dsimp only; omega)) _))⟩
theorem ok_two {a b : Sp} (ha : Ok a) (hb : Ok b) : ∀ i (h : i < [a, b].length), Ok [a, b][i] := by
  intro i hi; have hi' : i = 0 ∨ i = 1 := by simp at hi; omega
  rcases hi' with rfl | rfl <;> assumption
/-- The challenge of two spots and a text. -/
def askN (r key : Sp) (t : List UInt8) : Int := hnum ((sBytes r).data.toList ++ ((sBytes key).data.toList ++ t))
theorem askN_bd (r key : Sp) (t : List UInt8) : 0 ≤ askN r key t ∧ askN r key t < 1013 := hnum_bd _
set_option maxHeartbeats 1000000 in
theorem askOf_c (r key : Sp) (t : ByteArray) (w : World) (hr : Ok r) (hk : Ok key) (hz : t.size ≤ 60) : Calls Tryz.prog 84 #[spV r, spV key, .string t] w fun e w' => e = .returned (.int .i64 (askN r key t.data.toList)) ∧ Below w.heap.size w w' := by
  have z1 := sBytes_size r
  have z2 := sBytes_size key
  have n1 : ¬ (9223372036854775807 < (sBytes r).size + (sBytes key).size) := by omega
  have n2 : ¬ (9223372036854775807 < (sBytes r).size + (sBytes key).size + t.size) := by omega
  have z4 : Hid ((sBytes r ++ sBytes key ++ t).size ≤ 9223372036854775807) := by show _ ≤ _; rw [ByteArray.size_append, ByteArray.size_append]; omega
  go_enter Tryz.func84, Tryz.ntmps84
  go_wp2_with fail
  refine wp_region_grow Tryz.mixed (by kernel_rfl) ?_
  repeat (quiet_step ((first | (go_at_call 96; exact grow_of (bytesOf_c _ _ (by assumption))) | (go_at_call 94; exact grow_of (hashNumber_c _ _ z4.out)))))
  refine wpQuiet_nil ?_
  intro _ hw'
  obtain ⟨x, rfl⟩ := hw'
  go_wp2
  go_ret
  exact ⟨rfl, below_seq (balloc (below_alloc _ _) _) x.h⟩
end Go.Proofs.YtjjmelhhalomaaaGreatDoor
