/- The law HashTells, walked. -/
import Derived.Test.YtijemkecjohagaaDoorRe
namespace Go.Proofs.YtijemkecjohagaaDoor
open Go.RowKit
set_option maxRecDepth 100000
set_option linter.unusedVariables false
set_option linter.unusedSimpArgs false
theorem long_e (t : ByteArray) (n : Int) (w : World) (hs : t.size ≤ 9223372036854775807) (h : Hid (lng t.data.toList = n)) : Calls Tryd.prog 80 #[.string t] w fun e w' => e = .returned (.int .i64 n) ∧ Below w.heap.size w w' := by
  have := hashLong_c t w hs; rw [h.out] at this; exact this
theorem rlong_e (t : ByteArray) (n : Int) (w : World) (hs : t.size ≤ 9223372036854775807) (h : Hid (lng t.data.toList = n)) : Calls Tryd.prog 81 #[.string t] w fun e w' => e = .returned (.int .i64 n) ∧ Below w.heap.size w w' := by
  have := refLong_c t w hs; rw [h.out] at this; exact this
theorem num_e (t : ByteArray) (n : Int) (w : World) (hs : t.size ≤ 9223372036854775807) (h : Hid (hnum t.data.toList = n)) : Calls Tryd.prog 82 #[.string t] w fun e w' => e = .returned (.int .i64 n) ∧ Below w.heap.size w w' := by
  have := hashNumber_c t w hs; rw [h.out] at this; exact this
theorem rnum_e (t : ByteArray) (n : Int) (w : World) (hs : t.size ≤ 9223372036854775807) (h : Hid (hnum t.data.toList = n)) : Calls Tryd.prog 83 #[.string t] w fun e w' => e = .returned (.int .i64 n) ∧ Below w.heap.size w w' := by
  have := refNumber_c t w hs; rw [h.out] at this; exact this
theorem spot_e (t : ByteArray) (H : Sp) (w : World) (hF : FarAt w) (hs : t.size ≤ 140737488351232) (h : Hid (hSpot t.data.toList = H)) : Calls Tryd.prog 51 #[.string t] w fun e w' => e = .returned (spV H) ∧ Below w.heap.size w w' := by
  have := hashSpot_c t w hF hs; rw [h.out] at this; exact this
theorem rspot_e (t : ByteArray) (H : Sp) (w : World) (hF : FarAt w) (hs : t.size ≤ 140737488351232) (h : Hid (hSpot t.data.toList = H)) : Calls Tryd.prog 84 #[.string t] w fun e w' => e = .returned (spV H) ∧ Below w.heap.size w w' := by
  have := refOf_c t w hF hs; rw [h.out] at this; exact this
set_option maxHeartbeats 1000000 in
theorem ht_core (t : ByteArray) (n m : Int) (H : Sp) (w : World) (hF : FarAt w) (hz : t.size ≤ 140737488351232) (hn : Hid (lng t.data.toList = n)) (hm : Hid (hnum t.data.toList = m)) (hH : Hid (hSpot t.data.toList = H)) : Calls Tryd.prog 17 #[.string t] w fun e w' => e = .returned (.bool true) ∧ Below w.heap.size w w' := by
  go_enter Tryd.func17, Tryd.ntmps17
  go_wp2_with fail
  refine (long_e t n _ (by omega) hn).mono ?_; rintro e w1 ⟨rfl, hb⟩
  obtain ⟨hc1, hf1⟩ := bcell hb
  have z1 := hb.size
  try simp only [World.size_alloc, World.size_setCell, World.size_drew] at z1
  have hB1 : Below w.heap.size w w1 := below_seq (by repeat (first | exact Below.refl _ _ | refine balloc ?_ _ | refine Below.drew ?_ | refine below_drewN ?_ _ | refine below_set ?_ (by first | omega | (dsimp only; omega)) _)) hb
  clear hb
  go_wp2_with fail
  refine (rlong_e t n _ (by omega) hn).mono ?_; rintro e w2 ⟨rfl, hb⟩
  obtain ⟨hc2, hf2⟩ := bcell hb
  have z2 := hb.size
  try simp only [World.size_alloc, World.size_setCell, World.size_drew] at z2
  have hB2 : Below w.heap.size w w2 := below_seq (by repeat (first | exact hB1 | exact Below.refl _ _ | refine balloc ?_ _ | refine Below.drew ?_ | refine below_drewN ?_ _ | refine below_set ?_ (by first | omega | (dsimp only; omega)) _)) hb
  clear hb
  go_wp2_with fail
  refine (num_e t m _ (by omega) hm).mono ?_; rintro e w3 ⟨rfl, hb⟩
  obtain ⟨hc3, hf3⟩ := bcell hb
  have z3 := hb.size
  try simp only [World.size_alloc, World.size_setCell, World.size_drew] at z3
  have hB3 : Below w.heap.size w w3 := below_seq (by repeat (first | exact hB2 | exact Below.refl _ _ | refine balloc ?_ _ | refine Below.drew ?_ | refine below_drewN ?_ _ | refine below_set ?_ (by first | omega | (dsimp only; omega)) _)) hb
  clear hb
  go_wp2_with fail
  refine (rnum_e t m _ (by omega) hm).mono ?_; rintro e w4 ⟨rfl, hb⟩
  obtain ⟨hc4, hf4⟩ := bcell hb
  have z4 := hb.size
  try simp only [World.size_alloc, World.size_setCell, World.size_drew] at z4
  have hB4 : Below w.heap.size w w4 := below_seq (by repeat (first | exact hB3 | exact Below.refl _ _ | refine balloc ?_ _ | refine Below.drew ?_ | refine below_drewN ?_ _ | refine below_set ?_ (by first | omega | (dsimp only; omega)) _)) hb
  clear hb
  go_wp2_with fail
  refine (spot_e t H _ (hF.below (by repeat (first | exact hB4 | exact Below.refl _ _ | refine balloc ?_ _ | refine Below.drew ?_ | refine below_drewN ?_ _ | refine below_set ?_ (by first | omega | (dsimp only; omega)) _))) hz hH).mono ?_; rintro e w5 ⟨rfl, hb⟩
  obtain ⟨hc5, hf5⟩ := bcell hb
  have z5 := hb.size
  try simp only [World.size_alloc, World.size_setCell, World.size_drew] at z5
  have hB5 : Below w.heap.size w w5 := below_seq (by repeat (first | exact hB4 | exact Below.refl _ _ | refine balloc ?_ _ | refine Below.drew ?_ | refine below_drewN ?_ _ | refine below_set ?_ (by first | omega | (dsimp only; omega)) _)) hb
  clear hb
  go_wp2_with fail
  refine (rspot_e t H _ (hF.below (by repeat (first | exact hB5 | exact Below.refl _ _ | refine balloc ?_ _ | refine Below.drew ?_ | refine below_drewN ?_ _ | refine below_set ?_ (by first | omega | (dsimp only; omega)) _))) hz hH).mono ?_; rintro e w6 ⟨rfl, hb⟩
  obtain ⟨hc6, hf6⟩ := bcell hb
  have z6 := hb.size
  try simp only [World.size_alloc, World.size_setCell, World.size_drew] at z6
  have hB6 : Below w.heap.size w w6 := below_seq (by repeat (first | exact hB5 | exact Below.refl _ _ | refine balloc ?_ _ | refine Below.drew ?_ | refine below_drewN ?_ _ | refine below_set ?_ (by first | omega | (dsimp only; omega)) _)) hb
  clear hb
  go_wp2
  go_ret
  exact ⟨rfl, (by repeat (first | exact hB6 | exact Below.refl _ _ | refine balloc ?_ _ | refine Below.drew ?_ | refine below_drewN ?_ _ | refine below_set ?_ (by first | omega | (dsimp only; omega)) _))⟩
theorem hashTells_law (t : ByteArray) (hz : t.size ≤ 140737488351232) (w : World) (hF : FarAt w) : Calls Tryd.prog 17 #[.string t] w fun e w' => e = .returned (.bool true) ∧ Below w.heap.size w w' := ht_core t _ _ _ w hF hz rfl rfl rfl
end Go.Proofs.YtijemkecjohagaaDoor
