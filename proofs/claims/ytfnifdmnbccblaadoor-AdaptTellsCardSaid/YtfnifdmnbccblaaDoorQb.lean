/- Walks of the document's answer, seals: Seal, Right. -/
import Derived.Test.YtfnifdmnbccblaaDoorQa
import Derived.Test.YtfnifdmnbccblaaDoorAe
import Derived.Test.YtfnifdmnbccblaaDoorSt
namespace Go.Proofs.YtfnifdmnbccblaaDoor
open Go.RowKit
set_option maxRecDepth 100000
set_option linter.unusedVariables false
set_option linter.unusedSimpArgs false
set_option maxHeartbeats 1000000 in
theorem rSeal_4 (key R : Sp) (S : Int) (t : ByteArray) (w : World) (h : 60 < t.size) (hz : t.size ≤ 140737488351232) : Calls Tryd.prog 26 #[spV key, .string t, slV R S] w fun e w' => e = .returned (.int .i64 4) ∧ Below w.heap.size w w' := by
  go_enter Tryd.func26, Tryd.ntmps26
  go_wp2
  go_ret
  exact ⟨rfl, (by repeat (first | exact Below.refl _ _ | refine balloc ?_ _ | refine Below.drew ?_ | refine below_drewN ?_ _ | refine below_set ?_ (by first | omega | (dsimp only; omega)) _))⟩
set_option maxHeartbeats 1000000 in
theorem rSeal_k (key R : Sp) (S n : Int) (B : Bool) (t : ByteArray) (w : World) (hz : t.size ≤ 60) (hn : Hid (sCheck key = n)) (h0 : (n == 0) = false) (hB : Hid (resB S = B)) : Calls Tryd.prog 26 #[spV key, .string t, slV R S] w fun e w' => e = .returned (.int .i64 n) ∧ Below w.heap.size w w' := by
  go_enter Tryd.func26, Tryd.ntmps26
  go_wp2_with fail
  refine (refSpot_e key n _ hn).mono ?_; rintro e w1 ⟨rfl, hb⟩
  obtain ⟨hc1, hf1⟩ := bcell hb
  have z1 := hb.size
  try simp only [World.size_alloc, World.size_setCell, World.size_drew] at z1
  have s1_0 : w.heap.size < w1.heap.size := by omega
  have s1_1 : w.heap.size + 1 < w1.heap.size := by omega
  have hB1 : Below w.heap.size w w1 := below_seq (by repeat (first | exact Below.refl _ _ | refine balloc ?_ _ | refine Below.drew ?_ | refine below_drewN ?_ _ | refine below_set ?_ (by first | omega | (dsimp only; omega)) _)) hb
  clear hb
  go_wp2_with fail
  refine (rRest_b S B _ hB).mono ?_; rintro e w' ⟨rfl, rfl⟩
  go_wp2
  go_ret
  exact ⟨rfl, (by repeat (first | exact hB1 | exact Below.refl _ _ | refine balloc ?_ _ | refine Below.drew ?_ | refine below_drewN ?_ _ | refine below_set ?_ (by first | omega | (dsimp only; omega)) _))⟩
set_option maxHeartbeats 1000000 in
theorem rSeal_r (key R : Sp) (S n : Int) (B : Bool) (t : ByteArray) (w : World) (hz : t.size ≤ 60) (hk : Hid (sCheck key = 0)) (hn : Hid (sCheck R = n)) (h0 : (n == 0) = false) (hB : Hid (resB S = B)) : Calls Tryd.prog 26 #[spV key, .string t, slV R S] w fun e w' => e = .returned (.int .i64 n) ∧ Below w.heap.size w w' := by
  go_enter Tryd.func26, Tryd.ntmps26
  go_wp2_with fail
  refine (refSpot_e key 0 _ hk).mono ?_; rintro e w1 ⟨rfl, hb⟩
  obtain ⟨hc1, hf1⟩ := bcell hb
  have z1 := hb.size
  try simp only [World.size_alloc, World.size_setCell, World.size_drew] at z1
  have s1_0 : w.heap.size < w1.heap.size := by omega
  have s1_1 : w.heap.size + 1 < w1.heap.size := by omega
  have hB1 : Below w.heap.size w w1 := below_seq (by repeat (first | exact Below.refl _ _ | refine balloc ?_ _ | refine Below.drew ?_ | refine below_drewN ?_ _ | refine below_set ?_ (by first | omega | (dsimp only; omega)) _)) hb
  clear hb
  go_wp2_with fail
  refine (refSpot_e R n _ hn).mono ?_; rintro e w2 ⟨rfl, hb⟩
  obtain ⟨hc2, hf2⟩ := bcell hb
  have z2 := hb.size
  try simp only [World.size_alloc, World.size_setCell, World.size_drew] at z2
  have s2_0 : w.heap.size < w2.heap.size := by omega
  have s2_1 : w.heap.size + 1 < w2.heap.size := by omega
  have hB2 : Below w.heap.size w w2 := below_seq (by repeat (first | exact hB1 | exact Below.refl _ _ | refine balloc ?_ _ | refine Below.drew ?_ | refine below_drewN ?_ _ | refine below_set ?_ (by first | omega | (dsimp only; omega)) _)) hb
  clear hb
  go_wp2_with fail
  refine (rRest_b S B _ hB).mono ?_; rintro e w' ⟨rfl, rfl⟩
  go_wp2
  go_ret
  exact ⟨rfl, (by repeat (first | exact hB2 | exact Below.refl _ _ | refine balloc ?_ _ | refine Below.drew ?_ | refine below_drewN ?_ _ | refine below_set ?_ (by first | omega | (dsimp only; omega)) _))⟩
set_option maxHeartbeats 1000000 in
theorem rSeal_s (key R : Sp) (S : Int) (t : ByteArray) (w : World) (hz : t.size ≤ 60) (hk : Hid (sCheck key = 0)) (hn : Hid (sCheck R = 0)) (hB : Hid (resB S = false)) : Calls Tryd.prog 26 #[spV key, .string t, slV R S] w fun e w' => e = .returned (.int .i64 1) ∧ Below w.heap.size w w' := by
  go_enter Tryd.func26, Tryd.ntmps26
  go_wp2_with fail
  refine (refSpot_e key 0 _ hk).mono ?_; rintro e w1 ⟨rfl, hb⟩
  obtain ⟨hc1, hf1⟩ := bcell hb
  have z1 := hb.size
  try simp only [World.size_alloc, World.size_setCell, World.size_drew] at z1
  have s1_0 : w.heap.size < w1.heap.size := by omega
  have s1_1 : w.heap.size + 1 < w1.heap.size := by omega
  have hB1 : Below w.heap.size w w1 := below_seq (by repeat (first | exact Below.refl _ _ | refine balloc ?_ _ | refine Below.drew ?_ | refine below_drewN ?_ _ | refine below_set ?_ (by first | omega | (dsimp only; omega)) _)) hb
  clear hb
  go_wp2_with fail
  refine (refSpot_e R 0 _ hn).mono ?_; rintro e w2 ⟨rfl, hb⟩
  obtain ⟨hc2, hf2⟩ := bcell hb
  have z2 := hb.size
  try simp only [World.size_alloc, World.size_setCell, World.size_drew] at z2
  have s2_0 : w.heap.size < w2.heap.size := by omega
  have s2_1 : w.heap.size + 1 < w2.heap.size := by omega
  have hB2 : Below w.heap.size w w2 := below_seq (by repeat (first | exact hB1 | exact Below.refl _ _ | refine balloc ?_ _ | refine Below.drew ?_ | refine below_drewN ?_ _ | refine below_set ?_ (by first | omega | (dsimp only; omega)) _)) hb
  clear hb
  go_wp2_with fail
  refine (rRest_b S false _ hB).mono ?_; rintro e w' ⟨rfl, rfl⟩
  go_wp2
  go_ret
  exact ⟨rfl, (by repeat (first | exact hB2 | exact Below.refl _ _ | refine balloc ?_ _ | refine Below.drew ?_ | refine below_drewN ?_ _ | refine below_set ?_ (by first | omega | (dsimp only; omega)) _))⟩
set_option maxHeartbeats 1000000 in
theorem rSeal_0 (key R : Sp) (S : Int) (t : ByteArray) (w : World) (hz : t.size ≤ 60) (hk : Hid (sCheck key = 0)) (hn : Hid (sCheck R = 0)) (hB : Hid (resB S = true)) : Calls Tryd.prog 26 #[spV key, .string t, slV R S] w fun e w' => e = .returned (.int .i64 0) ∧ Below w.heap.size w w' := by
  go_enter Tryd.func26, Tryd.ntmps26
  go_wp2_with fail
  refine (refSpot_e key 0 _ hk).mono ?_; rintro e w1 ⟨rfl, hb⟩
  obtain ⟨hc1, hf1⟩ := bcell hb
  have z1 := hb.size
  try simp only [World.size_alloc, World.size_setCell, World.size_drew] at z1
  have s1_0 : w.heap.size < w1.heap.size := by omega
  have s1_1 : w.heap.size + 1 < w1.heap.size := by omega
  have hB1 : Below w.heap.size w w1 := below_seq (by repeat (first | exact Below.refl _ _ | refine balloc ?_ _ | refine Below.drew ?_ | refine below_drewN ?_ _ | refine below_set ?_ (by first | omega | (dsimp only; omega)) _)) hb
  clear hb
  go_wp2_with fail
  refine (refSpot_e R 0 _ hn).mono ?_; rintro e w2 ⟨rfl, hb⟩
  obtain ⟨hc2, hf2⟩ := bcell hb
  have z2 := hb.size
  try simp only [World.size_alloc, World.size_setCell, World.size_drew] at z2
  have s2_0 : w.heap.size < w2.heap.size := by omega
  have s2_1 : w.heap.size + 1 < w2.heap.size := by omega
  have hB2 : Below w.heap.size w w2 := below_seq (by repeat (first | exact hB1 | exact Below.refl _ _ | refine balloc ?_ _ | refine Below.drew ?_ | refine below_drewN ?_ _ | refine below_set ?_ (by first | omega | (dsimp only; omega)) _)) hb
  clear hb
  go_wp2_with fail
  refine (rRest_b S true _ hB).mono ?_; rintro e w' ⟨rfl, rfl⟩
  go_wp2
  go_ret
  exact ⟨rfl, (by repeat (first | exact hB2 | exact Below.refl _ _ | refine balloc ?_ _ | refine Below.drew ?_ | refine below_drewN ?_ _ | refine below_set ?_ (by first | omega | (dsimp only; omega)) _))⟩
theorem rSeal_e (key R : Sp) (S n : Int) (t : ByteArray) (w : World) (hz : t.size ≤ 140737488351232) (hn : Hid (sealF key R S t.size = n)) : Calls Tryd.prog 26 #[spV key, .string t, slV R S] w fun e w' => e = .returned (.int .i64 n) ∧ Below w.heap.size w w' := by
  have hn := hn.out
  unfold sealF at hn
  split at hn
  · subst hn; exact rSeal_4 key R S t w (by assumption) hz
  · split at hn
    · subst hn; exact rSeal_k key R S _ _ t w (by omega) rfl (by simpa using (by assumption)) rfl
    · have ok : sCheck key = 0 := by rename_i h; simpa using h
      split at hn
      · subst hn; exact rSeal_r key R S _ _ t w (by omega) ok rfl (by simpa using (by assumption)) rfl
      · have oR : sCheck R = 0 := by rename_i h; simpa using h
        split at hn
        · subst hn; exact rSeal_0 key R S t w (by omega) ok oR (decide_eq_true (by assumption))
        · subst hn; exact rSeal_s key R S t w (by omega) ok oR (decide_eq_false (by assumption))
set_option maxHeartbeats 4000000 in
theorem rRight_core (key R M A C D : Sp) (a u c S : Int) (t : ByteArray) (w : World) (hk : Ok key) (hR : Ok R) (hz : t.size ≤ 60) (s0 : 0 ≤ S) (s1 : S < 1013) (hc : Hid (askN R key t.data.toList = c)) (c0 : 0 ≤ c) (c1 : c < 1013) (ha : Hid (key = sq a)) (hu : Hid (M = sq u))
    (hA : Hid (∀ w : World, Calls Tryd.prog 29 #[.int .i64 S, .int .i64 1, spV M] w fun e w' => e = .returned (spV A) ∧ Below w.heap.size w w')) (hC : Hid (sq (a * c) = C)) (oC : Ok C) (hD : Hid (sSum R C = D)) (b : Bool) (hb2 : Sp.beq A D = b) :
    Calls Tryd.prog 33 #[spV key, .string t, slV R S, spV M] w fun e w' => e = .returned (.bool b) ∧ Below w.heap.size w w' := by
  go_enter Tryd.func33, Tryd.ntmps33
  go_wp2_with fail
  refine (rAsk_e R key t c _ hR hk hz hc).mono ?_; rintro e w1 ⟨rfl, hb⟩
  obtain ⟨hc1, hf1⟩ := bcell hb
  have z1 := hb.size
  try simp only [World.size_alloc, World.size_setCell, World.size_drew] at z1
  have s1_0 : w.heap.size < w1.heap.size := by omega
  have s1_1 : w.heap.size + 1 < w1.heap.size := by omega
  have s1_2 : w.heap.size + 1 + 1 < w1.heap.size := by omega
  have hB1 : Below w.heap.size w w1 := below_seq (by repeat (first | exact Below.refl _ _ | refine balloc ?_ _ | refine Below.drew ?_ | refine below_drewN ?_ _ | refine below_set ?_ (by first | omega | (dsimp only; omega)) _)) hb
  clear hb
  have m1_0_0 : w1.cell? ⟨w.heap.size, 0, none⟩ = some (.int .i64 key.x) := by go_simp
  have m1_0_1 : w1.cell? ⟨w.heap.size, 1, none⟩ = some (.int .i64 key.y) := by go_simp
  have m1_0_2 : w1.cell? ⟨w.heap.size, 2, none⟩ = some (.bool key.far) := by go_simp
  have m1_1_0 : w1.cell? ⟨w.heap.size + 1, 0, none⟩ = some (.int .i64 R.x) := by go_simp
  have m1_1_1 : w1.cell? ⟨w.heap.size + 1, 1, none⟩ = some (.int .i64 R.y) := by go_simp
  have m1_1_2 : w1.cell? ⟨w.heap.size + 1, 2, none⟩ = some (.bool R.far) := by go_simp
  have m1_1_3 : w1.cell? ⟨w.heap.size + 1, 3, none⟩ = some (.int .i64 S) := by go_simp
  have m1_2_0 : w1.cell? ⟨w.heap.size + 1 + 1, 0, none⟩ = some (.int .i64 M.x) := by go_simp
  have m1_2_1 : w1.cell? ⟨w.heap.size + 1 + 1, 1, none⟩ = some (.int .i64 M.y) := by go_simp
  have m1_2_2 : w1.cell? ⟨w.heap.size + 1 + 1, 2, none⟩ = some (.bool M.far) := by go_simp
  clear hc1
  go_wp2_with fail
  refine (hA.out _).mono ?_; rintro e w2 ⟨rfl, hb⟩
  obtain ⟨hc2, hf2⟩ := bcell hb
  have z2 := hb.size
  try simp only [World.size_alloc, World.size_setCell, World.size_drew] at z2
  have s2_0 : w.heap.size < w2.heap.size := by omega
  have s2_1 : w.heap.size + 1 < w2.heap.size := by omega
  have s2_2 : w.heap.size + 1 + 1 < w2.heap.size := by omega
  have hB2 : Below w.heap.size w w2 := below_seq (by repeat (first | exact hB1 | exact Below.refl _ _ | refine balloc ?_ _ | refine Below.drew ?_ | refine below_drewN ?_ _ | refine below_set ?_ (by first | omega | (dsimp only; omega)) _)) hb
  clear hb
  have m2_0_0 : w2.cell? ⟨w.heap.size, 0, none⟩ = some (.int .i64 key.x) := by go_simp
  have m2_0_1 : w2.cell? ⟨w.heap.size, 1, none⟩ = some (.int .i64 key.y) := by go_simp
  have m2_0_2 : w2.cell? ⟨w.heap.size, 2, none⟩ = some (.bool key.far) := by go_simp
  have m2_1_0 : w2.cell? ⟨w.heap.size + 1, 0, none⟩ = some (.int .i64 R.x) := by go_simp
  have m2_1_1 : w2.cell? ⟨w.heap.size + 1, 1, none⟩ = some (.int .i64 R.y) := by go_simp
  have m2_1_2 : w2.cell? ⟨w.heap.size + 1, 2, none⟩ = some (.bool R.far) := by go_simp
  have m2_1_3 : w2.cell? ⟨w.heap.size + 1, 3, none⟩ = some (.int .i64 S) := by go_simp
  have m2_2_0 : w2.cell? ⟨w.heap.size + 1 + 1, 0, none⟩ = some (.int .i64 M.x) := by go_simp
  have m2_2_1 : w2.cell? ⟨w.heap.size + 1 + 1, 1, none⟩ = some (.int .i64 M.y) := by go_simp
  have m2_2_2 : w2.cell? ⟨w.heap.size + 1 + 1, 2, none⟩ = some (.bool M.far) := by go_simp
  clear m1_0_0 m1_0_1 m1_0_2 m1_1_0 m1_1_1 m1_1_2 m1_1_3 m1_2_0 m1_2_1 m1_2_2
  clear hc2
  go_upto_region 3 with fail
  have n0 : -9223372036854775808 ≤ c := by omega
  have n1 : c ≤ 9223372036854775807 := by omega
  have y0 : (w2.alloc (.cells #[.int .i64 A.x, .int .i64 A.y, .bool A.far] 25)).cell? ⟨w2.heap.size, 0, none⟩ = some (.int .i64 A.x) := by go_simp
  have y1 : (w2.alloc (.cells #[.int .i64 A.x, .int .i64 A.y, .bool A.far] 25)).cell? ⟨w2.heap.size, 1, none⟩ = some (.int .i64 A.y) := by go_simp
  have y2 : (w2.alloc (.cells #[.int .i64 A.x, .int .i64 A.y, .bool A.far] 25)).cell? ⟨w2.heap.size, 2, none⟩ = some (.bool A.far) := by go_simp
  have g0 : (w2.alloc (.cells #[.int .i64 A.x, .int .i64 A.y, .bool A.far] 25)).cell? ⟨w.heap.size, 0, none⟩ = some (.int .i64 key.x) := by go_simp
  have g1 : (w2.alloc (.cells #[.int .i64 A.x, .int .i64 A.y, .bool A.far] 25)).cell? ⟨w.heap.size, 1, none⟩ = some (.int .i64 key.y) := by go_simp
  have g2 : (w2.alloc (.cells #[.int .i64 A.x, .int .i64 A.y, .bool A.far] 25)).cell? ⟨w.heap.size, 2, none⟩ = some (.bool key.far) := by go_simp
  have r0 : (w2.alloc (.cells #[.int .i64 A.x, .int .i64 A.y, .bool A.far] 25)).cell? ⟨w.heap.size + 1, 0, none⟩ = some (.int .i64 R.x) := by go_simp
  have r1 : (w2.alloc (.cells #[.int .i64 A.x, .int .i64 A.y, .bool A.far] 25)).cell? ⟨w.heap.size + 1, 1, none⟩ = some (.int .i64 R.y) := by go_simp
  have r2 : (w2.alloc (.cells #[.int .i64 A.x, .int .i64 A.y, .bool A.far] 25)).cell? ⟨w.heap.size + 1, 2, none⟩ = some (.bool R.far) := by go_simp
  have hB3 : Below w.heap.size w (w2.alloc (.cells #[.int .i64 A.x, .int .i64 A.y, .bool A.far] 25)) := balloc hB2 _
  have q0 : w.heap.size < (w2.alloc (.cells #[.int .i64 A.x, .int .i64 A.y, .bool A.far] 25)).heap.size := by simp only [World.size_alloc]; omega
  have q1 : w.heap.size + 1 < (w2.alloc (.cells #[.int .i64 A.x, .int .i64 A.y, .bool A.far] 25)).heap.size := by simp only [World.size_alloc]; omega
  have q2 : w2.heap.size < (w2.alloc (.cells #[.int .i64 A.x, .int .i64 A.y, .bool A.far] 25)).heap.size := by simp only [World.size_alloc]; omega
  have hy := Lib.hid hB2
  clear m2_0_0 m2_0_1 m2_0_2 m2_1_0 m2_1_1 m2_1_2 m2_1_3 m2_2_0 m2_2_1 m2_2_2 hf1 hf2 hB1 hB2 z1 z2 s1_0 s1_1 s1_2 s2_0 s2_1 s2_2
  generalize w2.alloc (.cells #[.int .i64 A.x, .int .i64 A.y, .bool A.far] 25) = wz at *
  go_cut [11] (fun s11 wx => ∃ p : Nat, s11 = .pointer (some ⟨p, 0, none⟩) ∧ SpAt wx p D ∧ Below wz.heap.size wz wx)
  case first =>
    go_region_with (first | (go_at_call 31; refine (refTimes_e key C a c _ n0 n1 ha hC).mono ?_; rintro e wa ⟨rfl, ha2⟩; have hwa : Below wz.heap.size wz wa := below_seq (by repeat (first | exact Below.refl _ _ | refine balloc ?_ _ | refine Below.drew ?_)) ha2; have hza := hwa.size; have sA1 : w.heap.size + 1 < wa.heap.size := Nat.lt_of_lt_of_le q1 hza; have ta0 := ((bcell hwa).1 _ 0 q1).trans r0; have ta1 := ((bcell hwa).1 _ 1 q1).trans r1; have ta2 := ((bcell hwa).1 _ 2 q1).trans r2; (first | (refine hav_ (P := SpAt wa wz.heap.size ⟨0, 0, false⟩) (SpAt.below (SpAt.fresh _ _ _ _ _) ha2) (fun kA => ?_)) | (refine hav_ (P := SpAt wa wz.heap.size ⟨0, 0, false⟩) (SpAt.below (SpAt.drew (SpAt.fresh _ _ _ _ _)) ha2) (fun kA => ?_)) | skip)) | (go_at_call 30; refine (refAdd_e R C D _ hR oC hD).mono ?_; rintro e wb ⟨rfl, hb⟩; have hwb : Below wa.heap.size wa wb := below_seq (by repeat (first | exact Below.refl _ _ | refine balloc ?_ _ | refine Below.drew ?_)) hb; have hzb := hwb.size; (first | (have kB := kA.below hwb; obtain ⟨b0, b1, b2, b3, b4, b5, b6⟩ := kA.below hwb) | skip); (first | (refine hav_ (P := SpAt wb wa.heap.size ⟨0, 0, false⟩) (SpAt.below (SpAt.fresh _ _ _ _ _) hb) (fun kC => ?_); obtain ⟨c0, c1, c2, c3, c4, c5, c6⟩ := kC) | (refine hav_ (P := SpAt wb wa.heap.size ⟨0, 0, false⟩) (SpAt.below (SpAt.drew (SpAt.fresh _ _ _ _ _)) hb) (fun kC => ?_); obtain ⟨c0, c1, c2, c3, c4, c5, c6⟩ := kC) | skip)))
    all_goals
      go_wp2_with fail
      go_meet
      have hBx := below_seq hwa hwb
      first
      | exact ⟨_, rfl, SpAt.fresh _ _ _ _ _, balloc hBx _⟩
      | exact ⟨_, rfl, kB.set3 D, set3_below hBx (by omega)⟩
      | exact ⟨_, rfl, (SpAt.zero_of (by assumption) (by assumption) (by assumption) (by assumption) (by assumption) (by assumption) (by assumption)).set3 D, set3_below hBx (by omega)⟩
  case rest =>
    obtain ⟨p, rfl, hp, hw⟩ := hcut
    have hBw : Below w.heap.size w wc := below_seq hB3 hw
    have v0 := ((bcell hw).1 _ 0 q2).trans y0
    have v1 := ((bcell hw).1 _ 1 q2).trans y1
    have v2 := ((bcell hw).1 _ 2 q2).trans y2
    obtain ⟨d0, d1, d2, d3, d4, d5, d6⟩ := hp
    clear r0 r1 r2 g0 g1 g2 y0 y1 y2
    go_wp2
    go_ret
    exact ⟨ret_bool (by rw [← hb2]), hBw⟩
/-- Is a seal right, with a spot more: of the key sq a, the spots sq r and sq u. -/
theorem rRight_e (key R M : Sp) (a r u c S : Int) (b : Bool) (t : ByteArray) (w : World) (hz : t.size ≤ 60) (s0 : 0 ≤ S) (s1 : S < 1013) (ha : Hid (key = sq a)) (hr : Hid (R = sq r)) (hu : Hid (M = sq u)) (hc : Hid (askN R key t.data.toList = c)) (hb : Hid ((sq (4 * S + -(r + a * c) + u)).far = b)) :
    Calls Tryd.prog 33 #[spV key, .string t, slV R S, spV M] w fun e w' => e = .returned (.bool b) ∧ Below w.heap.size w w' := by
  have bd := askN_bd R key t.data.toList
  rw [hc.out] at bd
  refine rRight_core key R M (sq (4 * S + u)) (sq (a * c)) (sq (r + a * c)) a u c S t w (ok_of ha.out) (ok_of hr.out) hz s0 s1 hc bd.1 bd.2 ha hu (fun w => refSum_e S 1 u M (sq (4 * S)) (sq (u * 1)) _ w (by omega) (by omega) (by omega) (by omega) hu rfl rfl (sq_ok _) (sq_ok _) (by show _ = _; rw [sq_add, Int.mul_one])) rfl (sq_ok _) (by show _ = _; rw [hr.out, sq_add]) b ?_
  rw [← hb.out]
  cases h : (sq (4 * S + -(r + a * c) + u)).far
  · cases h2 : Sp.beq (sq (4 * S + u)) (sq (r + a * c))
    · rfl
    · have := sq_eq_iff.mp (Sp.beq_iff.mp h2)
      rw [sq_far.mpr (by omega)] at h; exact Bool.noConfusion h
  · have := sq_far.mp h
    exact Sp.beq_iff.mpr (sq_eq_iff.mpr (by omega))
end Go.Proofs.YtfnifdmnbccblaaDoor
