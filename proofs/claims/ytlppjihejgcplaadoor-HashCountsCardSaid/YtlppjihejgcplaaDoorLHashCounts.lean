/- The law HashCounts, walked: each text has a spot that counts. -/
import Derived.Test.YtlppjihejgcplaaDoorHa
import Derived.Test.YtlppjihejgcplaaDoorWr
namespace Go.Proofs.YtlppjihejgcplaaDoor
open Go.RowKit
set_option maxRecDepth 100000
set_option linter.unusedVariables false
set_option linter.unusedSimpArgs false
theorem lng_e : lng (⟨#[]⟩ : ByteArray).data.toList = 5 := lng_nil
theorem lng_ea : lng (⟨#[97]⟩ : ByteArray).data.toList = 1413 := lng_a
theorem long_e (w : World) : Calls Tryd.prog 25 #[.string ⟨#[]⟩] w fun e w' => e = .returned (.int .i64 5) ∧ Below w.heap.size w w' := by
  have := hashLong_c ⟨#[]⟩ w (Nat.zero_le _); rw [lng_e] at this; exact this
theorem long_a (w : World) : Calls Tryd.prog 25 #[.string ⟨#[97]⟩] w fun e w' => e = .returned (.int .i64 1413) ∧ Below w.heap.size w w' := by
  have := hashLong_c ⟨#[97]⟩ w (by show 1 ≤ _; omega); rw [lng_ea] at this; exact this
set_option maxHeartbeats 1000000 in
theorem hc_core (t : ByteArray) (j H N : Int) (w : World) (hF : FarAt w) (hz : t.size ≤ 140737488351232) (hs : Hid (hSpot t.data.toList = sq (4 * j))) (hf0 : Hid ((sq (4 * j)).far = false)) (hin : Hid ((sq (4 * j * 1013)).far = true)) (hH : Hid (lng t.data.toList = H)) (hN : Hid (hnum t.data.toList = N))
    (b0 : 0 ≤ N) (b1 : N < 1013) (b2 : 0 ≤ H) (b3 : H < 1000003) (hm : (H % 1013 == N) = true) :
    Calls Tryd.prog 7 #[.string t] w fun e w' => e = .returned (.bool true) ∧ Below w.heap.size w w' := by
  go_enter Tryd.func7, Tryd.ntmps7
  go_wp2_with fail
  refine (long_e _).mono ?_; rintro e w1 ⟨rfl, hb⟩
  obtain ⟨hc1, hf1⟩ := bcell hb
  have z1 := hb.size
  try simp only [World.size_alloc, World.size_setCell, World.size_drew] at z1
  have hB1 : Below w.heap.size w w1 := below_seq (by repeat (first | exact Below.refl _ _ | refine balloc ?_ _ | refine Below.drew ?_ | refine below_drewN ?_ _ | refine below_set ?_ (by first | omega | (dsimp only; omega)) _)) hb
  clear hb
  go_wp2_with fail
  refine (long_a _).mono ?_; rintro e w2 ⟨rfl, hb⟩
  obtain ⟨hc2, hf2⟩ := bcell hb
  have z2 := hb.size
  try simp only [World.size_alloc, World.size_setCell, World.size_drew] at z2
  have hB2 : Below w.heap.size w w2 := below_seq (by repeat (first | exact hB1 | exact Below.refl _ _ | refine balloc ?_ _ | refine Below.drew ?_ | refine below_drewN ?_ _ | refine below_set ?_ (by first | omega | (dsimp only; omega)) _)) hb
  clear hb
  go_wp2_with fail
  refine (hashSpot_c t _ (hF.below (by repeat (first | exact hB2 | exact Below.refl _ _ | refine balloc ?_ _ | refine Below.drew ?_ | refine below_drewN ?_ _ | refine below_set ?_ (by first | omega | (dsimp only; omega)) _))) hz).mono ?_; rintro e w3 ⟨rfl, hb⟩
  rw [hs.out]
  obtain ⟨hc3, hf3⟩ := bcell hb
  have z3 := hb.size
  try simp only [World.size_alloc, World.size_setCell, World.size_drew] at z3
  have hB3 : Below w.heap.size w w3 := below_seq (by repeat (first | exact hB2 | exact Below.refl _ _ | refine balloc ?_ _ | refine Below.drew ?_ | refine below_drewN ?_ _ | refine below_set ?_ (by first | omega | (dsimp only; omega)) _)) hb
  clear hb
  go_wp2_with fail
  refine (timesIn_ok (4 * j) _ (hF.below (by repeat (first | exact hB3 | exact Below.refl _ _ | refine balloc ?_ _ | refine Below.drew ?_ | refine below_drewN ?_ _ | refine below_set ?_ (by first | omega | (dsimp only; omega)) _)))).mono ?_; rintro e w4 ⟨rfl, hb⟩
  rw [hin.out]
  obtain ⟨hc4, hf4⟩ := bcell hb
  have z4 := hb.size
  try simp only [World.size_alloc, World.size_setCell, World.size_drew] at z4
  have s4_0 : w3.heap.size < w4.heap.size := by omega
  have hB4 : Below w.heap.size w w4 := below_seq (by repeat (first | exact hB3 | exact Below.refl _ _ | refine balloc ?_ _ | refine Below.drew ?_ | refine below_drewN ?_ _ | refine below_set ?_ (by first | omega | (dsimp only; omega)) _)) hb
  clear hb
  go_wp2_with fail
  refine (hashNumber_c t _ (by omega)).mono ?_; rintro e w5 ⟨rfl, hb⟩
  rw [hN.out]
  obtain ⟨hc5, hf5⟩ := bcell hb
  have z5 := hb.size
  try simp only [World.size_alloc, World.size_setCell, World.size_drew] at z5
  have s5_0 : w3.heap.size < w5.heap.size := by omega
  have hB5 : Below w.heap.size w w5 := below_seq (by repeat (first | exact hB4 | exact Below.refl _ _ | refine balloc ?_ _ | refine Below.drew ?_ | refine below_drewN ?_ _ | refine below_set ?_ (by first | omega | (dsimp only; omega)) _)) hb
  clear hb
  go_wp2_with fail
  refine (hashLong_c t _ (by omega)).mono ?_; rintro e w6 ⟨rfl, hb⟩
  rw [hH.out]
  obtain ⟨hc6, hf6⟩ := bcell hb
  have z6 := hb.size
  try simp only [World.size_alloc, World.size_setCell, World.size_drew] at z6
  have s6_0 : w3.heap.size < w6.heap.size := by omega
  have hB6 : Below w.heap.size w w6 := below_seq (by repeat (first | exact hB5 | exact Below.refl _ _ | refine balloc ?_ _ | refine Below.drew ?_ | refine below_drewN ?_ _ | refine below_set ?_ (by first | omega | (dsimp only; omega)) _)) hb
  clear hb
  have hf := hf0.out
  go_wp2
  go_ret
  exact ⟨rfl, (by repeat (first | exact hB6 | exact Below.refl _ _ | refine balloc ?_ _ | refine Below.drew ?_ | refine below_drewN ?_ _ | refine below_set ?_ (by first | omega | (dsimp only; omega)) _))⟩
theorem hashCounts_law (t : ByteArray) (hz : t.size ≤ 140737488351232) (w : World) (hF : FarAt w) : Calls Tryd.prog 7 #[.string t] w fun e w' => e = .returned (.bool true) ∧ Below w.heap.size w w' := by
  obtain ⟨j, j0, j1, e⟩ := hSpot_four t.data.toList
  exact hc_core t j _ _ w hF hz e (sq_far_not (by omega)) (sq_far.mpr (by omega)) rfl rfl (hnum_bd _).1 (hnum_bd _).2 (lng_bd _).1 (lng_bd _).2 (by unfold hnum; simp)
end Go.Proofs.YtlppjihejgcplaaDoor
