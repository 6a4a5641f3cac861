/- Walks of layer short: Sign. -/
import Derived.Test.YtnlaofapjldciaaDoorSf
import Derived.Test.YtnlaofapjldciaaDoorHa
namespace Go.Proofs.YtnlaofapjldciaaDoor
open Go.RowKit
set_option maxRecDepth 100000
set_option linter.unusedVariables false
set_option linter.unusedSimpArgs false
theorem hashSpot_e (t : ByteArray) (H : Sp) (w : World) (hF : FarAt w) (hs : t.size ≤ 140737488351232) (h : Hid (hSpot t.data.toList = H)) : Calls Tryd.prog 30 #[.string t] w fun e w' => e = .returned (spV H) ∧ Below w.heap.size w w' := by
  have := hashSpot_c t w hF hs; rw [h.out] at this; exact this
set_option maxHeartbeats 1000000 in
theorem short_y (x j : Int) (t : ByteArray) (H S : Sp) (w : World) (hF : FarAt w) (x1 : 1 ≤ x) (x2 : x < 1013) (hz : t.size ≤ 60) (hH : Hid (hSpot t.data.toList = H)) (hu : Hid (H = sq (4 * j))) (hS : Hid (sq (4 * j * x) = S)) : Calls Tryd.prog 33 #[.int .i64 x, .string t] w fun e w' => e = .returned (.tuple #[spV S, .nilIface]) ∧ Below w.heap.size w w' := by
  go_enter Tryd.func33, Tryd.ntmps33
  go_wp2_with fail
  refine (secret_y x _ x1 x2).mono ?_; rintro e w' ⟨rfl, rfl⟩
  go_wp2_with fail
  refine (text_y t _ hz).mono ?_; rintro e w' ⟨rfl, rfl⟩
  go_wp2_with fail
  refine (hashSpot_e t H _ (hF.below (by repeat (first | exact Below.refl _ _ | refine balloc ?_ _ | refine Below.drew ?_ | refine below_drewN ?_ _ | refine below_set ?_ (by first | omega | (dsimp only; omega)) _))) (by omega) hH).mono ?_; rintro e w1 ⟨rfl, hb⟩
  obtain ⟨hc1, hf1⟩ := bcell hb
  have z1 := hb.size
  try simp only [World.size_alloc, World.size_setCell, World.size_drew] at z1
  have s1_0 : w.heap.size < w1.heap.size := by omega
  have hB1 : Below w.heap.size w w1 := below_seq (by repeat (first | exact Below.refl _ _ | refine balloc ?_ _ | refine Below.drew ?_ | refine below_drewN ?_ _ | refine below_set ?_ (by first | omega | (dsimp only; omega)) _)) hb
  clear hb
  go_wp2_with fail
  refine (of_e H S (4 * j) x _ (hF.below (by repeat (first | exact hB1 | exact Below.refl _ _ | refine balloc ?_ _ | refine Below.drew ?_ | refine below_drewN ?_ _ | refine below_set ?_ (by first | omega | (dsimp only; omega)) _))) hu hS).mono ?_; rintro e w2 ⟨rfl, hb⟩
  obtain ⟨hc2, hf2⟩ := bcell hb
  have z2 := hb.size
  try simp only [World.size_alloc, World.size_setCell, World.size_drew] at z2
  have s2_0 : w.heap.size < w2.heap.size := by omega
  have hB2 : Below w.heap.size w w2 := below_seq (by repeat (first | exact hB1 | exact Below.refl _ _ | refine balloc ?_ _ | refine Below.drew ?_ | refine below_drewN ?_ _ | refine below_set ?_ (by first | omega | (dsimp only; omega)) _)) hb
  clear hb
  have r0 : w2.cell? ⟨w.heap.size, 0, none⟩ = some (.int .i64 0) := by go_simp
  have r1 : w2.cell? ⟨w.heap.size, 1, none⟩ = some (.int .i64 0) := by go_simp
  have r2 : w2.cell? ⟨w.heap.size, 2, none⟩ = some (.bool false) := by go_simp
  go_wp2
  have k := set3_cell (w := w2) (x := .int .i64 (S).x) (y := .int .i64 (S).y) (z := .bool (S).far) r0 r1 r2
  refine bodyPost_ret (v := .tuple #[spV (S), .nilIface]) (by simp [results, Tryd.results33, go_sem, k.1, k.2.1, k.2.2]) rfl ⟨rfl, set3_below (by repeat (first | exact hB2 | exact Below.refl _ _ | refine balloc ?_ _ | refine Below.drew ?_ | refine below_drewN ?_ _ | refine below_set ?_ (by first | omega | (dsimp only; omega)) _)) (by omega)⟩
set_option maxHeartbeats 1000000 in
theorem short_n1 (x : Int) (t : ByteArray) (w : World) (h : ¬ (1 ≤ x ∧ x < 1013)) : Calls Tryd.prog 33 #[.int .i64 x, .string t] w fun e w' => e = .returned (.tuple #[spV ⟨0, 0, false⟩, .iface 125 (.int .i64 1)]) ∧ Below w.heap.size w w' := by
  go_enter Tryd.func33, Tryd.ntmps33
  go_wp2_with fail
  refine (secret_n x _ h).mono ?_; rintro e w' ⟨rfl, rfl⟩
  go_wp2
  refine bodyPost_ret (v := .tuple #[spV ⟨0, 0, false⟩, .iface 125 (.int .i64 1)]) (by simp [results, Tryd.results33, go_sem]) rfl ⟨rfl, (by repeat (first | exact Below.refl _ _ | refine balloc ?_ _ | refine Below.drew ?_ | refine below_drewN ?_ _ | refine below_set ?_ (by first | omega | (dsimp only; omega)) _))⟩
set_option maxHeartbeats 1000000 in
theorem short_n2 (x : Int) (t : ByteArray) (w : World) (x1 : 1 ≤ x) (x2 : x < 1013) (h : 60 < t.size) (hz : t.size ≤ 140737488351232) : Calls Tryd.prog 33 #[.int .i64 x, .string t] w fun e w' => e = .returned (.tuple #[spV ⟨0, 0, false⟩, .iface 125 (.int .i64 4)]) ∧ Below w.heap.size w w' := by
  go_enter Tryd.func33, Tryd.ntmps33
  go_wp2_with fail
  refine (secret_y x _ x1 x2).mono ?_; rintro e w' ⟨rfl, rfl⟩
  go_wp2_with fail
  refine (text_n t _ h hz).mono ?_; rintro e w' ⟨rfl, rfl⟩
  go_wp2
  refine bodyPost_ret (v := .tuple #[spV ⟨0, 0, false⟩, .iface 125 (.int .i64 4)]) (by simp [results, Tryd.results33, go_sem]) rfl ⟨rfl, (by repeat (first | exact Below.refl _ _ | refine balloc ?_ _ | refine Below.drew ?_ | refine below_drewN ?_ _ | refine below_set ?_ (by first | omega | (dsimp only; omega)) _))⟩
/-- A short seal, whatever comes of it. -/
def ShortIs (x : Int) (t : ByteArray) (S : Sp) (E : Value) : Prop := ∀ w : World, FarAt w → Calls Tryd.prog 33 #[.int .i64 x, .string t] w fun e w' => e = .returned (.tuple #[spV S, E]) ∧ Below w.heap.size w w'
theorem short_n (x : Int) (t : ByteArray) (hz : t.size ≤ 140737488351232) (h : ¬ (1 ≤ x ∧ x < 1013 ∧ t.size ≤ 60)) : ∃ E : Int, ShortIs x t ⟨0, 0, false⟩ (.iface 125 (.int .i64 E)) := by
  by_cases hx : 1 ≤ x ∧ x < 1013
  · exact ⟨4, fun w _ => short_n2 x t w hx.1 hx.2 (by omega) hz⟩
  · exact ⟨1, fun w _ => short_n1 x t w hx⟩
theorem short_is (x : Int) (t : ByteArray) (hz : t.size ≤ 140737488351232) : (∃ S E, ShortIs x t S E) := by
  by_cases h : 1 ≤ x ∧ x < 1013 ∧ t.size ≤ 60
  · obtain ⟨j, j1, j2, e⟩ := hSpot_four t.data.toList
    exact ⟨_, _, fun w hF => short_y x j t _ _ w hF h.1 h.2.1 h.2.2 rfl e rfl⟩
  · obtain ⟨E, hE⟩ := short_n x t hz h
    exact ⟨_, _, hE⟩
end Go.Proofs.YtnlaofapjldciaaDoor
