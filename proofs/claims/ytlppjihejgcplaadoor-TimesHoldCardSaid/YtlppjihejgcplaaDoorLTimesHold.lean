/- The law TimesHold, walked: times add, and multiply. (Printed by gen_th.py.) -/
import Derived.Test.YtlppjihejgcplaaDoorKe
namespace Go.Proofs.YtlppjihejgcplaaDoor
open Go.RowKit
set_option maxRecDepth 100000
set_option linter.unusedVariables false
set_option linter.unusedSimpArgs false
theorem base_in (w : World) (hF : FarAt w) : Calls Tryd.prog 34 #[spV ⟨1189, 3667, false⟩] w fun e w' => e = .returned (.tuple #[.bool true, .nilIface]) ∧ Below w.heap.size w w' :=
  in_e _ 4 true w hF sq_4.symm (sq_far.mpr (by decide))
theorem order_e (a : Sp) (u k : Int) (w : World) (hF : FarAt w) (ha : Hid (a = sq u)) (h : Hid (ordOf u = k)) : Calls Tryd.prog 36 #[spV a] w fun e w' => e = .returned (.tuple #[.int .i64 k, .nilIface]) ∧ Below w.heap.size w w' := by
  have := timesOrder_ok u w hF; rw [h.out, ← ha.out] at this; exact this
theorem ordOf_div (u : Int) : ((4052 : Int) % ordOf u != 0) = false := by
  unfold ordOf
  repeat (split; · rfl)
  rfl
theorem ordOf_pos (u : Int) : 1 ≤ ordOf u ∧ ordOf u ≤ 4052 := by
  unfold ordOf
  repeat (split; · omega)
  omega
set_option maxHeartbeats 4000000 in
theorem th_1 (s t : Sp) (n m : Int) (w : World) (hF : FarAt w) (h : n < -100000) : Calls Tryd.prog 8 #[spV s, spV t, .int .i64 n, .int .i64 m] w fun e w' => e = .returned (.bool true) ∧ Below w.heap.size w w' := by
  go_enter Tryd.func8, Tryd.ntmps8
  go_wp2_with fail
  refine (base_k _ (hF.below (by repeat (first | exact Below.refl _ _ | refine balloc ?_ _ | refine Below.drew ?_ | refine below_drewN ?_ _ | refine below_set ?_ (by first | omega | (dsimp only; omega)) _)))).mono ?_; rintro e w1 ⟨rfl, hb⟩
  obtain ⟨hc1, hf1⟩ := bcell hb
  have z1 := hb.size
  try simp only [World.size_alloc, World.size_setCell, World.size_drew] at z1
  have s1_0 : w.heap.size < w1.heap.size := by omega
  have s1_1 : w.heap.size + 1 < w1.heap.size := by omega
  have hB1 : Below w.heap.size w w1 := below_seq (by repeat (first | exact Below.refl _ _ | refine balloc ?_ _ | refine Below.drew ?_ | refine below_drewN ?_ _ | refine below_set ?_ (by first | omega | (dsimp only; omega)) _)) hb
  clear hb
  go_wp2_with fail
  refine (base_in _ (hF.below (by repeat (first | exact hB1 | exact Below.refl _ _ | refine balloc ?_ _ | refine Below.drew ?_ | refine below_drewN ?_ _ | refine below_set ?_ (by first | omega | (dsimp only; omega)) _)))).mono ?_; rintro e w2 ⟨rfl, hb⟩
  obtain ⟨hc2, hf2⟩ := bcell hb
  have z2 := hb.size
  try simp only [World.size_alloc, World.size_setCell, World.size_drew] at z2
  have s2_0 : w.heap.size < w2.heap.size := by omega
  have s2_1 : w.heap.size + 1 < w2.heap.size := by omega
  have s2_2 : w1.heap.size < w2.heap.size := by omega
  have hB2 : Below w.heap.size w w2 := below_seq (by repeat (first | exact hB1 | exact Below.refl _ _ | refine balloc ?_ _ | refine Below.drew ?_ | refine below_drewN ?_ _ | refine below_set ?_ (by first | omega | (dsimp only; omega)) _)) hb
  clear hb
  go_wp2
  go_ret
  exact ⟨rfl, (by repeat (first | exact hB2 | exact Below.refl _ _ | refine balloc ?_ _ | refine Below.drew ?_ | refine below_drewN ?_ _ | refine below_set ?_ (by first | omega | (dsimp only; omega)) _))⟩
set_option maxHeartbeats 4000000 in
theorem th_2 (s t : Sp) (n m : Int) (w : World) (hF : FarAt w) (h1 : ¬ n < -100000) (h : 100000 < n) : Calls Tryd.prog 8 #[spV s, spV t, .int .i64 n, .int .i64 m] w fun e w' => e = .returned (.bool true) ∧ Below w.heap.size w w' := by
  go_enter Tryd.func8, Tryd.ntmps8
  go_wp2_with fail
  refine (base_k _ (hF.below (by repeat (first | exact Below.refl _ _ | refine balloc ?_ _ | refine Below.drew ?_ | refine below_drewN ?_ _ | refine below_set ?_ (by first | omega | (dsimp only; omega)) _)))).mono ?_; rintro e w1 ⟨rfl, hb⟩
  obtain ⟨hc1, hf1⟩ := bcell hb
  have z1 := hb.size
  try simp only [World.size_alloc, World.size_setCell, World.size_drew] at z1
  have s1_0 : w.heap.size < w1.heap.size := by omega
  have s1_1 : w.heap.size + 1 < w1.heap.size := by omega
  have hB1 : Below w.heap.size w w1 := below_seq (by repeat (first | exact Below.refl _ _ | refine balloc ?_ _ | refine Below.drew ?_ | refine below_drewN ?_ _ | refine below_set ?_ (by first | omega | (dsimp only; omega)) _)) hb
  clear hb
  go_wp2_with fail
  refine (base_in _ (hF.below (by repeat (first | exact hB1 | exact Below.refl _ _ | refine balloc ?_ _ | refine Below.drew ?_ | refine below_drewN ?_ _ | refine below_set ?_ (by first | omega | (dsimp only; omega)) _)))).mono ?_; rintro e w2 ⟨rfl, hb⟩
  obtain ⟨hc2, hf2⟩ := bcell hb
  have z2 := hb.size
  try simp only [World.size_alloc, World.size_setCell, World.size_drew] at z2
  have s2_0 : w.heap.size < w2.heap.size := by omega
  have s2_1 : w.heap.size + 1 < w2.heap.size := by omega
  have s2_2 : w1.heap.size < w2.heap.size := by omega
  have hB2 : Below w.heap.size w w2 := below_seq (by repeat (first | exact hB1 | exact Below.refl _ _ | refine balloc ?_ _ | refine Below.drew ?_ | refine below_drewN ?_ _ | refine below_set ?_ (by first | omega | (dsimp only; omega)) _)) hb
  clear hb
  go_wp2
  go_ret
  exact ⟨rfl, (by repeat (first | exact hB2 | exact Below.refl _ _ | refine balloc ?_ _ | refine Below.drew ?_ | refine below_drewN ?_ _ | refine below_set ?_ (by first | omega | (dsimp only; omega)) _))⟩
set_option maxHeartbeats 4000000 in
theorem th_3 (s t : Sp) (n m : Int) (w : World) (hF : FarAt w) (h1 : ¬ n < -100000) (h2 : n ≤ 100000) (h : m < -100000) : Calls Tryd.prog 8 #[spV s, spV t, .int .i64 n, .int .i64 m] w fun e w' => e = .returned (.bool true) ∧ Below w.heap.size w w' := by
  go_enter Tryd.func8, Tryd.ntmps8
  go_wp2_with fail
  refine (base_k _ (hF.below (by repeat (first | exact Below.refl _ _ | refine balloc ?_ _ | refine Below.drew ?_ | refine below_drewN ?_ _ | refine below_set ?_ (by first | omega | (dsimp only; omega)) _)))).mono ?_; rintro e w1 ⟨rfl, hb⟩
  obtain ⟨hc1, hf1⟩ := bcell hb
  have z1 := hb.size
  try simp only [World.size_alloc, World.size_setCell, World.size_drew] at z1
  have s1_0 : w.heap.size < w1.heap.size := by omega
  have s1_1 : w.heap.size + 1 < w1.heap.size := by omega
  have hB1 : Below w.heap.size w w1 := below_seq (by repeat (first | exact Below.refl _ _ | refine balloc ?_ _ | refine Below.drew ?_ | refine below_drewN ?_ _ | refine below_set ?_ (by first | omega | (dsimp only; omega)) _)) hb
  clear hb
  go_wp2_with fail
  refine (base_in _ (hF.below (by repeat (first | exact hB1 | exact Below.refl _ _ | refine balloc ?_ _ | refine Below.drew ?_ | refine below_drewN ?_ _ | refine below_set ?_ (by first | omega | (dsimp only; omega)) _)))).mono ?_; rintro e w2 ⟨rfl, hb⟩
  obtain ⟨hc2, hf2⟩ := bcell hb
  have z2 := hb.size
  try simp only [World.size_alloc, World.size_setCell, World.size_drew] at z2
  have s2_0 : w.heap.size < w2.heap.size := by omega
  have s2_1 : w.heap.size + 1 < w2.heap.size := by omega
  have s2_2 : w1.heap.size < w2.heap.size := by omega
  have hB2 : Below w.heap.size w w2 := below_seq (by repeat (first | exact hB1 | exact Below.refl _ _ | refine balloc ?_ _ | refine Below.drew ?_ | refine below_drewN ?_ _ | refine below_set ?_ (by first | omega | (dsimp only; omega)) _)) hb
  clear hb
  go_wp2
  go_ret
  exact ⟨rfl, (by repeat (first | exact hB2 | exact Below.refl _ _ | refine balloc ?_ _ | refine Below.drew ?_ | refine below_drewN ?_ _ | refine below_set ?_ (by first | omega | (dsimp only; omega)) _))⟩
set_option maxHeartbeats 4000000 in
theorem th_4 (s t : Sp) (n m : Int) (w : World) (hF : FarAt w) (h1 : ¬ n < -100000) (h2 : n ≤ 100000) (h3 : ¬ m < -100000) (h : 100000 < m) : Calls Tryd.prog 8 #[spV s, spV t, .int .i64 n, .int .i64 m] w fun e w' => e = .returned (.bool true) ∧ Below w.heap.size w w' := by
  go_enter Tryd.func8, Tryd.ntmps8
  go_wp2_with fail
  refine (base_k _ (hF.below (by repeat (first | exact Below.refl _ _ | refine balloc ?_ _ | refine Below.drew ?_ | refine below_drewN ?_ _ | refine below_set ?_ (by first | omega | (dsimp only; omega)) _)))).mono ?_; rintro e w1 ⟨rfl, hb⟩
  obtain ⟨hc1, hf1⟩ := bcell hb
  have z1 := hb.size
  try simp only [World.size_alloc, World.size_setCell, World.size_drew] at z1
  have s1_0 : w.heap.size < w1.heap.size := by omega
  have s1_1 : w.heap.size + 1 < w1.heap.size := by omega
  have hB1 : Below w.heap.size w w1 := below_seq (by repeat (first | exact Below.refl _ _ | refine balloc ?_ _ | refine Below.drew ?_ | refine below_drewN ?_ _ | refine below_set ?_ (by first | omega | (dsimp only; omega)) _)) hb
  clear hb
  go_wp2_with fail
  refine (base_in _ (hF.below (by repeat (first | exact hB1 | exact Below.refl _ _ | refine balloc ?_ _ | refine Below.drew ?_ | refine below_drewN ?_ _ | refine below_set ?_ (by first | omega | (dsimp only; omega)) _)))).mono ?_; rintro e w2 ⟨rfl, hb⟩
  obtain ⟨hc2, hf2⟩ := bcell hb
  have z2 := hb.size
  try simp only [World.size_alloc, World.size_setCell, World.size_drew] at z2
  have s2_0 : w.heap.size < w2.heap.size := by omega
  have s2_1 : w.heap.size + 1 < w2.heap.size := by omega
  have s2_2 : w1.heap.size < w2.heap.size := by omega
  have hB2 : Below w.heap.size w w2 := below_seq (by repeat (first | exact hB1 | exact Below.refl _ _ | refine balloc ?_ _ | refine Below.drew ?_ | refine below_drewN ?_ _ | refine below_set ?_ (by first | omega | (dsimp only; omega)) _)) hb
  clear hb
  go_wp2
  go_ret
  exact ⟨rfl, (by repeat (first | exact hB2 | exact Below.refl _ _ | refine balloc ?_ _ | refine Below.drew ?_ | refine below_drewN ?_ _ | refine below_set ?_ (by first | omega | (dsimp only; omega)) _))⟩
set_option maxHeartbeats 4000000 in
theorem th_bad (s t : Sp) (n m : Int) (w : World) (hF : FarAt w) (h1 : -100000 ≤ n) (h2 : n ≤ 100000) (h3 : -100000 ≤ m) (h4 : m ≤ 100000) (h : sCheck s ≠ 0) : Calls Tryd.prog 8 #[spV s, spV t, .int .i64 n, .int .i64 m] w fun e w' => e = .returned (.bool true) ∧ Below w.heap.size w w' := by
  go_enter Tryd.func8, Tryd.ntmps8
  go_wp2_with fail
  refine (base_k _ (hF.below (by repeat (first | exact Below.refl _ _ | refine balloc ?_ _ | refine Below.drew ?_ | refine below_drewN ?_ _ | refine below_set ?_ (by first | omega | (dsimp only; omega)) _)))).mono ?_; rintro e w1 ⟨rfl, hb⟩
  obtain ⟨hc1, hf1⟩ := bcell hb
  have z1 := hb.size
  try simp only [World.size_alloc, World.size_setCell, World.size_drew] at z1
  have s1_0 : w.heap.size < w1.heap.size := by omega
  have s1_1 : w.heap.size + 1 < w1.heap.size := by omega
  have hB1 : Below w.heap.size w w1 := below_seq (by repeat (first | exact Below.refl _ _ | refine balloc ?_ _ | refine Below.drew ?_ | refine below_drewN ?_ _ | refine below_set ?_ (by first | omega | (dsimp only; omega)) _)) hb
  clear hb
  go_wp2_with fail
  refine (base_in _ (hF.below (by repeat (first | exact hB1 | exact Below.refl _ _ | refine balloc ?_ _ | refine Below.drew ?_ | refine below_drewN ?_ _ | refine below_set ?_ (by first | omega | (dsimp only; omega)) _)))).mono ?_; rintro e w2 ⟨rfl, hb⟩
  obtain ⟨hc2, hf2⟩ := bcell hb
  have z2 := hb.size
  try simp only [World.size_alloc, World.size_setCell, World.size_drew] at z2
  have s2_0 : w.heap.size < w2.heap.size := by omega
  have s2_1 : w.heap.size + 1 < w2.heap.size := by omega
  have s2_2 : w1.heap.size < w2.heap.size := by omega
  have hB2 : Below w.heap.size w w2 := below_seq (by repeat (first | exact hB1 | exact Below.refl _ _ | refine balloc ?_ _ | refine Below.drew ?_ | refine below_drewN ?_ _ | refine below_set ?_ (by first | omega | (dsimp only; omega)) _)) hb
  clear hb
  go_wp2_with fail
  refine (timesTimes_bad s n _ (hF.below (by repeat (first | exact hB2 | exact Below.refl _ _ | refine balloc ?_ _ | refine Below.drew ?_ | refine below_drewN ?_ _ | refine below_set ?_ (by first | omega | (dsimp only; omega)) _))) h).mono ?_; rintro e w3 ⟨rfl, hb⟩
  obtain ⟨hc3, hf3⟩ := bcell hb
  have z3 := hb.size
  try simp only [World.size_alloc, World.size_setCell, World.size_drew] at z3
  have s3_0 : w.heap.size < w3.heap.size := by omega
  have s3_1 : w.heap.size + 1 < w3.heap.size := by omega
  have s3_2 : w1.heap.size < w3.heap.size := by omega
  have hB3 : Below w.heap.size w w3 := below_seq (by repeat (first | exact hB2 | exact Below.refl _ _ | refine balloc ?_ _ | refine Below.drew ?_ | refine below_drewN ?_ _ | refine below_set ?_ (by first | omega | (dsimp only; omega)) _)) hb
  clear hb
  go_wp2
  go_ret
  exact ⟨rfl, (by repeat (first | exact hB3 | exact Below.refl _ _ | refine balloc ?_ _ | refine Below.drew ?_ | refine below_drewN ?_ _ | refine below_set ?_ (by first | omega | (dsimp only; omega)) _))⟩
set_option maxHeartbeats 4000000 in
theorem th_ok_bad (s t : Sp) (n m : Int) (w : World) (hF : FarAt w) (h1 : -100000 ≤ n) (h2 : n ≤ 100000) (h3 : -100000 ≤ m) (h4 : m ≤ 100000) (p1 : -10000000000 ≤ n * m) (p2 : n * m ≤ 10000000000) (a k : Int) (A B C F : Sp) (hs : Hid (s = sq a)) (hA : Hid (sq (a * n) = A)) (hB : Hid (sq (a * m) = B)) (hC : Hid (sq (a * (n + m)) = C)) (hF1 : Hid (sq (a * n * m) = F)) (hF2 : Hid (sq (a * (n * m)) = F)) (hd : Hid (sSum A B = C)) (ho : Hid (sq (a * 4052) = ⟨0, 0, true⟩)) (hk : Hid (ordOf a = k)) (k1 : 1 ≤ k) (k2 : k ≤ 4052) (k3 : ((4052 : Int) % k != 0) = false) (oA : Ok A) (oB : Ok B) (ht : sCheck t ≠ 0) : Calls Tryd.prog 8 #[spV s, spV t, .int .i64 n, .int .i64 m] w fun e w' => e = .returned (.bool true) ∧ Below w.heap.size w w' := by
  go_enter Tryd.func8, Tryd.ntmps8
  go_wp2_with fail
  refine (base_k _ (hF.below (by repeat (first | exact Below.refl _ _ | refine balloc ?_ _ | refine Below.drew ?_ | refine below_drewN ?_ _ | refine below_set ?_ (by first | omega | (dsimp only; omega)) _)))).mono ?_; rintro e w1 ⟨rfl, hb⟩
  obtain ⟨hc1, hf1⟩ := bcell hb
  have z1 := hb.size
  try simp only [World.size_alloc, World.size_setCell, World.size_drew] at z1
  have s1_0 : w.heap.size < w1.heap.size := by omega
  have s1_1 : w.heap.size + 1 < w1.heap.size := by omega
  have hB1 : Below w.heap.size w w1 := below_seq (by repeat (first | exact Below.refl _ _ | refine balloc ?_ _ | refine Below.drew ?_ | refine below_drewN ?_ _ | refine below_set ?_ (by first | omega | (dsimp only; omega)) _)) hb
  clear hb
  go_wp2_with fail
  refine (base_in _ (hF.below (by repeat (first | exact hB1 | exact Below.refl _ _ | refine balloc ?_ _ | refine Below.drew ?_ | refine below_drewN ?_ _ | refine below_set ?_ (by first | omega | (dsimp only; omega)) _)))).mono ?_; rintro e w2 ⟨rfl, hb⟩
  obtain ⟨hc2, hf2⟩ := bcell hb
  have z2 := hb.size
  try simp only [World.size_alloc, World.size_setCell, World.size_drew] at z2
  have s2_0 : w.heap.size < w2.heap.size := by omega
  have s2_1 : w.heap.size + 1 < w2.heap.size := by omega
  have s2_2 : w1.heap.size < w2.heap.size := by omega
  have hB2 : Below w.heap.size w w2 := below_seq (by repeat (first | exact hB1 | exact Below.refl _ _ | refine balloc ?_ _ | refine Below.drew ?_ | refine below_drewN ?_ _ | refine below_set ?_ (by first | omega | (dsimp only; omega)) _)) hb
  clear hb
  go_wp2_with fail
  refine (times_e s A a n _ (hF.below (by repeat (first | exact hB2 | exact Below.refl _ _ | refine balloc ?_ _ | refine Below.drew ?_ | refine below_drewN ?_ _ | refine below_set ?_ (by first | omega | (dsimp only; omega)) _))) hs hA).mono ?_; rintro e w3 ⟨rfl, hb⟩
  obtain ⟨hc3, hf3⟩ := bcell hb
  have z3 := hb.size
  try simp only [World.size_alloc, World.size_setCell, World.size_drew] at z3
  have s3_0 : w.heap.size < w3.heap.size := by omega
  have s3_1 : w.heap.size + 1 < w3.heap.size := by omega
  have s3_2 : w1.heap.size < w3.heap.size := by omega
  have hB3 : Below w.heap.size w w3 := below_seq (by repeat (first | exact hB2 | exact Below.refl _ _ | refine balloc ?_ _ | refine Below.drew ?_ | refine below_drewN ?_ _ | refine below_set ?_ (by first | omega | (dsimp only; omega)) _)) hb
  clear hb
  go_wp2_with fail
  refine (times_e s B a m _ (hF.below (by repeat (first | exact hB3 | exact Below.refl _ _ | refine balloc ?_ _ | refine Below.drew ?_ | refine below_drewN ?_ _ | refine below_set ?_ (by first | omega | (dsimp only; omega)) _))) hs hB).mono ?_; rintro e w4 ⟨rfl, hb⟩
  obtain ⟨hc4, hf4⟩ := bcell hb
  have z4 := hb.size
  try simp only [World.size_alloc, World.size_setCell, World.size_drew] at z4
  have s4_0 : w.heap.size < w4.heap.size := by omega
  have s4_1 : w.heap.size + 1 < w4.heap.size := by omega
  have s4_2 : w1.heap.size < w4.heap.size := by omega
  have s4_3 : w3.heap.size < w4.heap.size := by omega
  have hB4 : Below w.heap.size w w4 := below_seq (by repeat (first | exact hB3 | exact Below.refl _ _ | refine balloc ?_ _ | refine Below.drew ?_ | refine below_drewN ?_ _ | refine below_set ?_ (by first | omega | (dsimp only; omega)) _)) hb
  clear hb
  go_wp2_with fail
  refine (times_e s C a (n + m) _ (hF.below (by repeat (first | exact hB4 | exact Below.refl _ _ | refine balloc ?_ _ | refine Below.drew ?_ | refine below_drewN ?_ _ | refine below_set ?_ (by first | omega | (dsimp only; omega)) _))) hs hC).mono ?_; rintro e w5 ⟨rfl, hb⟩
  obtain ⟨hc5, hf5⟩ := bcell hb
  have z5 := hb.size
  try simp only [World.size_alloc, World.size_setCell, World.size_drew] at z5
  have s5_0 : w.heap.size < w5.heap.size := by omega
  have s5_1 : w.heap.size + 1 < w5.heap.size := by omega
  have s5_2 : w1.heap.size < w5.heap.size := by omega
  have s5_3 : w3.heap.size < w5.heap.size := by omega
  have s5_4 : w4.heap.size < w5.heap.size := by omega
  have hB5 : Below w.heap.size w w5 := below_seq (by repeat (first | exact hB4 | exact Below.refl _ _ | refine balloc ?_ _ | refine Below.drew ?_ | refine below_drewN ?_ _ | refine below_set ?_ (by first | omega | (dsimp only; omega)) _)) hb
  clear hb
  go_wp2_with fail
  refine (add_e A B C _ (hF.below (by repeat (first | exact hB5 | exact Below.refl _ _ | refine balloc ?_ _ | refine Below.drew ?_ | refine below_drewN ?_ _ | refine below_set ?_ (by first | omega | (dsimp only; omega)) _))) oA oB hd).mono ?_; rintro e w6 ⟨rfl, hb⟩
  obtain ⟨hc6, hf6⟩ := bcell hb
  have z6 := hb.size
  try simp only [World.size_alloc, World.size_setCell, World.size_drew] at z6
  have s6_0 : w.heap.size < w6.heap.size := by omega
  have s6_1 : w.heap.size + 1 < w6.heap.size := by omega
  have s6_2 : w1.heap.size < w6.heap.size := by omega
  have s6_3 : w3.heap.size < w6.heap.size := by omega
  have s6_4 : w4.heap.size < w6.heap.size := by omega
  have s6_5 : w5.heap.size < w6.heap.size := by omega
  have hB6 : Below w.heap.size w w6 := below_seq (by repeat (first | exact hB5 | exact Below.refl _ _ | refine balloc ?_ _ | refine Below.drew ?_ | refine below_drewN ?_ _ | refine below_set ?_ (by first | omega | (dsimp only; omega)) _)) hb
  clear hb
  go_wp2_with fail
  refine (times_e A F (a * n) m _ (hF.below (by repeat (first | exact hB6 | exact Below.refl _ _ | refine balloc ?_ _ | refine Below.drew ?_ | refine below_drewN ?_ _ | refine below_set ?_ (by first | omega | (dsimp only; omega)) _))) (show _ = _ from hA.out.symm) hF1).mono ?_; rintro e w7 ⟨rfl, hb⟩
  obtain ⟨hc7, hf7⟩ := bcell hb
  have z7 := hb.size
  try simp only [World.size_alloc, World.size_setCell, World.size_drew] at z7
  have s7_0 : w.heap.size < w7.heap.size := by omega
  have s7_1 : w.heap.size + 1 < w7.heap.size := by omega
  have s7_2 : w1.heap.size < w7.heap.size := by omega
  have s7_3 : w3.heap.size < w7.heap.size := by omega
  have s7_4 : w4.heap.size < w7.heap.size := by omega
  have s7_5 : w5.heap.size < w7.heap.size := by omega
  have s7_6 : w6.heap.size < w7.heap.size := by omega
  have hB7 : Below w.heap.size w w7 := below_seq (by repeat (first | exact hB6 | exact Below.refl _ _ | refine balloc ?_ _ | refine Below.drew ?_ | refine below_drewN ?_ _ | refine below_set ?_ (by first | omega | (dsimp only; omega)) _)) hb
  clear hb
  go_wp2_with fail
  refine (times_e s F a (n * m) _ (hF.below (by repeat (first | exact hB7 | exact Below.refl _ _ | refine balloc ?_ _ | refine Below.drew ?_ | refine below_drewN ?_ _ | refine below_set ?_ (by first | omega | (dsimp only; omega)) _))) hs hF2).mono ?_; rintro e w8 ⟨rfl, hb⟩
  obtain ⟨hc8, hf8⟩ := bcell hb
  have z8 := hb.size
  try simp only [World.size_alloc, World.size_setCell, World.size_drew] at z8
  have s8_0 : w.heap.size < w8.heap.size := by omega
  have s8_1 : w.heap.size + 1 < w8.heap.size := by omega
  have s8_2 : w1.heap.size < w8.heap.size := by omega
  have s8_3 : w3.heap.size < w8.heap.size := by omega
  have s8_4 : w4.heap.size < w8.heap.size := by omega
  have s8_5 : w5.heap.size < w8.heap.size := by omega
  have s8_6 : w6.heap.size < w8.heap.size := by omega
  have s8_7 : w7.heap.size < w8.heap.size := by omega
  have hB8 : Below w.heap.size w w8 := below_seq (by repeat (first | exact hB7 | exact Below.refl _ _ | refine balloc ?_ _ | refine Below.drew ?_ | refine below_drewN ?_ _ | refine below_set ?_ (by first | omega | (dsimp only; omega)) _)) hb
  clear hb
  go_wp2_with fail
  refine (times_e s ⟨0, 0, true⟩ a 4052 _ (hF.below (by repeat (first | exact hB8 | exact Below.refl _ _ | refine balloc ?_ _ | refine Below.drew ?_ | refine below_drewN ?_ _ | refine below_set ?_ (by first | omega | (dsimp only; omega)) _))) hs ho).mono ?_; rintro e w9 ⟨rfl, hb⟩
  obtain ⟨hc9, hf9⟩ := bcell hb
  have z9 := hb.size
  try simp only [World.size_alloc, World.size_setCell, World.size_drew] at z9
  have s9_0 : w.heap.size < w9.heap.size := by omega
  have s9_1 : w.heap.size + 1 < w9.heap.size := by omega
  have s9_2 : w1.heap.size < w9.heap.size := by omega
  have s9_3 : w3.heap.size < w9.heap.size := by omega
  have s9_4 : w4.heap.size < w9.heap.size := by omega
  have s9_5 : w5.heap.size < w9.heap.size := by omega
  have s9_6 : w6.heap.size < w9.heap.size := by omega
  have s9_7 : w7.heap.size < w9.heap.size := by omega
  have s9_8 : w8.heap.size < w9.heap.size := by omega
  have hB9 : Below w.heap.size w w9 := below_seq (by repeat (first | exact hB8 | exact Below.refl _ _ | refine balloc ?_ _ | refine Below.drew ?_ | refine below_drewN ?_ _ | refine below_set ?_ (by first | omega | (dsimp only; omega)) _)) hb
  clear hb
  go_wp2_with fail
  refine (order_e s a k _ (hF.below (by repeat (first | exact hB9 | exact Below.refl _ _ | refine balloc ?_ _ | refine Below.drew ?_ | refine below_drewN ?_ _ | refine below_set ?_ (by first | omega | (dsimp only; omega)) _))) hs hk).mono ?_; rintro e w10 ⟨rfl, hb⟩
  obtain ⟨hc10, hf10⟩ := bcell hb
  have z10 := hb.size
  try simp only [World.size_alloc, World.size_setCell, World.size_drew] at z10
  have s10_0 : w.heap.size < w10.heap.size := by omega
  have s10_1 : w.heap.size + 1 < w10.heap.size := by omega
  have s10_2 : w1.heap.size < w10.heap.size := by omega
  have s10_3 : w3.heap.size < w10.heap.size := by omega
  have s10_4 : w4.heap.size < w10.heap.size := by omega
  have s10_5 : w5.heap.size < w10.heap.size := by omega
  have s10_6 : w6.heap.size < w10.heap.size := by omega
  have s10_7 : w7.heap.size < w10.heap.size := by omega
  have s10_8 : w8.heap.size < w10.heap.size := by omega
  have s10_9 : w9.heap.size < w10.heap.size := by omega
  have hB10 : Below w.heap.size w w10 := below_seq (by repeat (first | exact hB9 | exact Below.refl _ _ | refine balloc ?_ _ | refine Below.drew ?_ | refine below_drewN ?_ _ | refine below_set ?_ (by first | omega | (dsimp only; omega)) _)) hb
  clear hb
  go_wp2_with fail
  refine (timesTimes_bad t n _ (hF.below (by repeat (first | exact hB10 | exact Below.refl _ _ | refine balloc ?_ _ | refine Below.drew ?_ | refine below_drewN ?_ _ | refine below_set ?_ (by first | omega | (dsimp only; omega)) _))) ht).mono ?_; rintro e w11 ⟨rfl, hb⟩
  obtain ⟨hc11, hf11⟩ := bcell hb
  have z11 := hb.size
  try simp only [World.size_alloc, World.size_setCell, World.size_drew] at z11
  have s11_0 : w.heap.size < w11.heap.size := by omega
  have s11_1 : w.heap.size + 1 < w11.heap.size := by omega
  have s11_2 : w1.heap.size < w11.heap.size := by omega
  have s11_3 : w3.heap.size < w11.heap.size := by omega
  have s11_4 : w4.heap.size < w11.heap.size := by omega
  have s11_5 : w5.heap.size < w11.heap.size := by omega
  have s11_6 : w6.heap.size < w11.heap.size := by omega
  have s11_7 : w7.heap.size < w11.heap.size := by omega
  have s11_8 : w8.heap.size < w11.heap.size := by omega
  have s11_9 : w9.heap.size < w11.heap.size := by omega
  have hB11 : Below w.heap.size w w11 := below_seq (by repeat (first | exact hB10 | exact Below.refl _ _ | refine balloc ?_ _ | refine Below.drew ?_ | refine below_drewN ?_ _ | refine below_set ?_ (by first | omega | (dsimp only; omega)) _)) hb
  clear hb
  go_wp2
  go_ret
  exact ⟨rfl, (by repeat (first | exact hB11 | exact Below.refl _ _ | refine balloc ?_ _ | refine Below.drew ?_ | refine below_drewN ?_ _ | refine below_set ?_ (by first | omega | (dsimp only; omega)) _))⟩
set_option maxHeartbeats 4000000 in
theorem th_ok (s t : Sp) (n m : Int) (w : World) (hF : FarAt w) (h1 : -100000 ≤ n) (h2 : n ≤ 100000) (h3 : -100000 ≤ m) (h4 : m ≤ 100000) (p1 : -10000000000 ≤ n * m) (p2 : n * m ≤ 10000000000) (a k : Int) (A B C F : Sp) (hs : Hid (s = sq a)) (hA : Hid (sq (a * n) = A)) (hB : Hid (sq (a * m) = B)) (hC : Hid (sq (a * (n + m)) = C)) (hF1 : Hid (sq (a * n * m) = F)) (hF2 : Hid (sq (a * (n * m)) = F)) (hd : Hid (sSum A B = C)) (ho : Hid (sq (a * 4052) = ⟨0, 0, true⟩)) (hk : Hid (ordOf a = k)) (k1 : 1 ≤ k) (k2 : k ≤ 4052) (k3 : ((4052 : Int) % k != 0) = false) (oA : Ok A) (oB : Ok B) (b : Int) (X U V : Sp) (ht : Hid (t = sq b)) (hX : Hid (sq (b * n) = X)) (hU : Hid (sSum s t = U)) (hU2 : Hid (U = sq (a + b))) (hV : Hid (sq ((a + b) * n) = V)) (hV2 : Hid (sSum A X = V)) (os : Ok s) (ot : Ok t) (oX : Ok X) : Calls Tryd.prog 8 #[spV s, spV t, .int .i64 n, .int .i64 m] w fun e w' => e = .returned (.bool true) ∧ Below w.heap.size w w' := by
  go_enter Tryd.func8, Tryd.ntmps8
  go_wp2_with fail
  refine (base_k _ (hF.below (by repeat (first | exact Below.refl _ _ | refine balloc ?_ _ | refine Below.drew ?_ | refine below_drewN ?_ _ | refine below_set ?_ (by first | omega | (dsimp only; omega)) _)))).mono ?_; rintro e w1 ⟨rfl, hb⟩
  obtain ⟨hc1, hf1⟩ := bcell hb
  have z1 := hb.size
  try simp only [World.size_alloc, World.size_setCell, World.size_drew] at z1
  have s1_0 : w.heap.size < w1.heap.size := by omega
  have s1_1 : w.heap.size + 1 < w1.heap.size := by omega
  have hB1 : Below w.heap.size w w1 := below_seq (by repeat (first | exact Below.refl _ _ | refine balloc ?_ _ | refine Below.drew ?_ | refine below_drewN ?_ _ | refine below_set ?_ (by first | omega | (dsimp only; omega)) _)) hb
  clear hb
  go_wp2_with fail
  refine (base_in _ (hF.below (by repeat (first | exact hB1 | exact Below.refl _ _ | refine balloc ?_ _ | refine Below.drew ?_ | refine below_drewN ?_ _ | refine below_set ?_ (by first | omega | (dsimp only; omega)) _)))).mono ?_; rintro e w2 ⟨rfl, hb⟩
  obtain ⟨hc2, hf2⟩ := bcell hb
  have z2 := hb.size
  try simp only [World.size_alloc, World.size_setCell, World.size_drew] at z2
  have s2_0 : w.heap.size < w2.heap.size := by omega
  have s2_1 : w.heap.size + 1 < w2.heap.size := by omega
  have s2_2 : w1.heap.size < w2.heap.size := by omega
  have hB2 : Below w.heap.size w w2 := below_seq (by repeat (first | exact hB1 | exact Below.refl _ _ | refine balloc ?_ _ | refine Below.drew ?_ | refine below_drewN ?_ _ | refine below_set ?_ (by first | omega | (dsimp only; omega)) _)) hb
  clear hb
  go_wp2_with fail
  refine (times_e s A a n _ (hF.below (by repeat (first | exact hB2 | exact Below.refl _ _ | refine balloc ?_ _ | refine Below.drew ?_ | refine below_drewN ?_ _ | refine below_set ?_ (by first | omega | (dsimp only; omega)) _))) hs hA).mono ?_; rintro e w3 ⟨rfl, hb⟩
  obtain ⟨hc3, hf3⟩ := bcell hb
  have z3 := hb.size
  try simp only [World.size_alloc, World.size_setCell, World.size_drew] at z3
  have s3_0 : w.heap.size < w3.heap.size := by omega
  have s3_1 : w.heap.size + 1 < w3.heap.size := by omega
  have s3_2 : w1.heap.size < w3.heap.size := by omega
  have hB3 : Below w.heap.size w w3 := below_seq (by repeat (first | exact hB2 | exact Below.refl _ _ | refine balloc ?_ _ | refine Below.drew ?_ | refine below_drewN ?_ _ | refine below_set ?_ (by first | omega | (dsimp only; omega)) _)) hb
  clear hb
  go_wp2_with fail
  refine (times_e s B a m _ (hF.below (by repeat (first | exact hB3 | exact Below.refl _ _ | refine balloc ?_ _ | refine Below.drew ?_ | refine below_drewN ?_ _ | refine below_set ?_ (by first | omega | (dsimp only; omega)) _))) hs hB).mono ?_; rintro e w4 ⟨rfl, hb⟩
  obtain ⟨hc4, hf4⟩ := bcell hb
  have z4 := hb.size
  try simp only [World.size_alloc, World.size_setCell, World.size_drew] at z4
  have s4_0 : w.heap.size < w4.heap.size := by omega
  have s4_1 : w.heap.size + 1 < w4.heap.size := by omega
  have s4_2 : w1.heap.size < w4.heap.size := by omega
  have s4_3 : w3.heap.size < w4.heap.size := by omega
  have hB4 : Below w.heap.size w w4 := below_seq (by repeat (first | exact hB3 | exact Below.refl _ _ | refine balloc ?_ _ | refine Below.drew ?_ | refine below_drewN ?_ _ | refine below_set ?_ (by first | omega | (dsimp only; omega)) _)) hb
  clear hb
  go_wp2_with fail
  refine (times_e s C a (n + m) _ (hF.below (by repeat (first | exact hB4 | exact Below.refl _ _ | refine balloc ?_ _ | refine Below.drew ?_ | refine below_drewN ?_ _ | refine below_set ?_ (by first | omega | (dsimp only; omega)) _))) hs hC).mono ?_; rintro e w5 ⟨rfl, hb⟩
  obtain ⟨hc5, hf5⟩ := bcell hb
  have z5 := hb.size
  try simp only [World.size_alloc, World.size_setCell, World.size_drew] at z5
  have s5_0 : w.heap.size < w5.heap.size := by omega
  have s5_1 : w.heap.size + 1 < w5.heap.size := by omega
  have s5_2 : w1.heap.size < w5.heap.size := by omega
  have s5_3 : w3.heap.size < w5.heap.size := by omega
  have s5_4 : w4.heap.size < w5.heap.size := by omega
  have hB5 : Below w.heap.size w w5 := below_seq (by repeat (first | exact hB4 | exact Below.refl _ _ | refine balloc ?_ _ | refine Below.drew ?_ | refine below_drewN ?_ _ | refine below_set ?_ (by first | omega | (dsimp only; omega)) _)) hb
  clear hb
  go_wp2_with fail
  refine (add_e A B C _ (hF.below (by repeat (first | exact hB5 | exact Below.refl _ _ | refine balloc ?_ _ | refine Below.drew ?_ | refine below_drewN ?_ _ | refine below_set ?_ (by first | omega | (dsimp only; omega)) _))) oA oB hd).mono ?_; rintro e w6 ⟨rfl, hb⟩
  obtain ⟨hc6, hf6⟩ := bcell hb
  have z6 := hb.size
  try simp only [World.size_alloc, World.size_setCell, World.size_drew] at z6
  have s6_0 : w.heap.size < w6.heap.size := by omega
  have s6_1 : w.heap.size + 1 < w6.heap.size := by omega
  have s6_2 : w1.heap.size < w6.heap.size := by omega
  have s6_3 : w3.heap.size < w6.heap.size := by omega
  have s6_4 : w4.heap.size < w6.heap.size := by omega
  have s6_5 : w5.heap.size < w6.heap.size := by omega
  have hB6 : Below w.heap.size w w6 := below_seq (by repeat (first | exact hB5 | exact Below.refl _ _ | refine balloc ?_ _ | refine Below.drew ?_ | refine below_drewN ?_ _ | refine below_set ?_ (by first | omega | (dsimp only; omega)) _)) hb
  clear hb
  go_wp2_with fail
  refine (times_e A F (a * n) m _ (hF.below (by repeat (first | exact hB6 | exact Below.refl _ _ | refine balloc ?_ _ | refine Below.drew ?_ | refine below_drewN ?_ _ | refine below_set ?_ (by first | omega | (dsimp only; omega)) _))) (show _ = _ from hA.out.symm) hF1).mono ?_; rintro e w7 ⟨rfl, hb⟩
  obtain ⟨hc7, hf7⟩ := bcell hb
  have z7 := hb.size
  try simp only [World.size_alloc, World.size_setCell, World.size_drew] at z7
  have s7_0 : w.heap.size < w7.heap.size := by omega
  have s7_1 : w.heap.size + 1 < w7.heap.size := by omega
  have s7_2 : w1.heap.size < w7.heap.size := by omega
  have s7_3 : w3.heap.size < w7.heap.size := by omega
  have s7_4 : w4.heap.size < w7.heap.size := by omega
  have s7_5 : w5.heap.size < w7.heap.size := by omega
  have s7_6 : w6.heap.size < w7.heap.size := by omega
  have hB7 : Below w.heap.size w w7 := below_seq (by repeat (first | exact hB6 | exact Below.refl _ _ | refine balloc ?_ _ | refine Below.drew ?_ | refine below_drewN ?_ _ | refine below_set ?_ (by first | omega | (dsimp only; omega)) _)) hb
  clear hb
  go_wp2_with fail
  refine (times_e s F a (n * m) _ (hF.below (by repeat (first | exact hB7 | exact Below.refl _ _ | refine balloc ?_ _ | refine Below.drew ?_ | refine below_drewN ?_ _ | refine below_set ?_ (by first | omega | (dsimp only; omega)) _))) hs hF2).mono ?_; rintro e w8 ⟨rfl, hb⟩
  obtain ⟨hc8, hf8⟩ := bcell hb
  have z8 := hb.size
  try simp only [World.size_alloc, World.size_setCell, World.size_drew] at z8
  have s8_0 : w.heap.size < w8.heap.size := by omega
  have s8_1 : w.heap.size + 1 < w8.heap.size := by omega
  have s8_2 : w1.heap.size < w8.heap.size := by omega
  have s8_3 : w3.heap.size < w8.heap.size := by omega
  have s8_4 : w4.heap.size < w8.heap.size := by omega
  have s8_5 : w5.heap.size < w8.heap.size := by omega
  have s8_6 : w6.heap.size < w8.heap.size := by omega
  have s8_7 : w7.heap.size < w8.heap.size := by omega
  have hB8 : Below w.heap.size w w8 := below_seq (by repeat (first | exact hB7 | exact Below.refl _ _ | refine balloc ?_ _ | refine Below.drew ?_ | refine below_drewN ?_ _ | refine below_set ?_ (by first | omega | (dsimp only; omega)) _)) hb
  clear hb
  go_wp2_with fail
  refine (times_e s ⟨0, 0, true⟩ a 4052 _ (hF.below (by repeat (first | exact hB8 | exact Below.refl _ _ | refine balloc ?_ _ | refine Below.drew ?_ | refine below_drewN ?_ _ | refine below_set ?_ (by first | omega | (dsimp only; omega)) _))) hs ho).mono ?_; rintro e w9 ⟨rfl, hb⟩
  obtain ⟨hc9, hf9⟩ := bcell hb
  have z9 := hb.size
  try simp only [World.size_alloc, World.size_setCell, World.size_drew] at z9
  have s9_0 : w.heap.size < w9.heap.size := by omega
  have s9_1 : w.heap.size + 1 < w9.heap.size := by omega
  have s9_2 : w1.heap.size < w9.heap.size := by omega
  have s9_3 : w3.heap.size < w9.heap.size := by omega
  have s9_4 : w4.heap.size < w9.heap.size := by omega
  have s9_5 : w5.heap.size < w9.heap.size := by omega
  have s9_6 : w6.heap.size < w9.heap.size := by omega
  have s9_7 : w7.heap.size < w9.heap.size := by omega
  have s9_8 : w8.heap.size < w9.heap.size := by omega
  have hB9 : Below w.heap.size w w9 := below_seq (by repeat (first | exact hB8 | exact Below.refl _ _ | refine balloc ?_ _ | refine Below.drew ?_ | refine below_drewN ?_ _ | refine below_set ?_ (by first | omega | (dsimp only; omega)) _)) hb
  clear hb
  go_wp2_with fail
  refine (order_e s a k _ (hF.below (by repeat (first | exact hB9 | exact Below.refl _ _ | refine balloc ?_ _ | refine Below.drew ?_ | refine below_drewN ?_ _ | refine below_set ?_ (by first | omega | (dsimp only; omega)) _))) hs hk).mono ?_; rintro e w10 ⟨rfl, hb⟩
  obtain ⟨hc10, hf10⟩ := bcell hb
  have z10 := hb.size
  try simp only [World.size_alloc, World.size_setCell, World.size_drew] at z10
  have s10_0 : w.heap.size < w10.heap.size := by omega
  have s10_1 : w.heap.size + 1 < w10.heap.size := by omega
  have s10_2 : w1.heap.size < w10.heap.size := by omega
  have s10_3 : w3.heap.size < w10.heap.size := by omega
  have s10_4 : w4.heap.size < w10.heap.size := by omega
  have s10_5 : w5.heap.size < w10.heap.size := by omega
  have s10_6 : w6.heap.size < w10.heap.size := by omega
  have s10_7 : w7.heap.size < w10.heap.size := by omega
  have s10_8 : w8.heap.size < w10.heap.size := by omega
  have s10_9 : w9.heap.size < w10.heap.size := by omega
  have hB10 : Below w.heap.size w w10 := below_seq (by repeat (first | exact hB9 | exact Below.refl _ _ | refine balloc ?_ _ | refine Below.drew ?_ | refine below_drewN ?_ _ | refine below_set ?_ (by first | omega | (dsimp only; omega)) _)) hb
  clear hb
  go_wp2_with fail
  refine (times_e t X b n _ (hF.below (by repeat (first | exact hB10 | exact Below.refl _ _ | refine balloc ?_ _ | refine Below.drew ?_ | refine below_drewN ?_ _ | refine below_set ?_ (by first | omega | (dsimp only; omega)) _))) ht hX).mono ?_; rintro e w11 ⟨rfl, hb⟩
  obtain ⟨hc11, hf11⟩ := bcell hb
  have z11 := hb.size
  try simp only [World.size_alloc, World.size_setCell, World.size_drew] at z11
  have s11_0 : w.heap.size < w11.heap.size := by omega
  have s11_1 : w.heap.size + 1 < w11.heap.size := by omega
  have s11_2 : w1.heap.size < w11.heap.size := by omega
  have s11_3 : w3.heap.size < w11.heap.size := by omega
  have s11_4 : w4.heap.size < w11.heap.size := by omega
  have s11_5 : w5.heap.size < w11.heap.size := by omega
  have s11_6 : w6.heap.size < w11.heap.size := by omega
  have s11_7 : w7.heap.size < w11.heap.size := by omega
  have s11_8 : w8.heap.size < w11.heap.size := by omega
  have s11_9 : w9.heap.size < w11.heap.size := by omega
  have hB11 : Below w.heap.size w w11 := below_seq (by repeat (first | exact hB10 | exact Below.refl _ _ | refine balloc ?_ _ | refine Below.drew ?_ | refine below_drewN ?_ _ | refine below_set ?_ (by first | omega | (dsimp only; omega)) _)) hb
  clear hb
  go_wp2_with fail
  refine (add_e s t U _ (hF.below (by repeat (first | exact hB11 | exact Below.refl _ _ | refine balloc ?_ _ | refine Below.drew ?_ | refine below_drewN ?_ _ | refine below_set ?_ (by first | omega | (dsimp only; omega)) _))) os ot hU).mono ?_; rintro e w12 ⟨rfl, hb⟩
  obtain ⟨hc12, hf12⟩ := bcell hb
  have z12 := hb.size
  try simp only [World.size_alloc, World.size_setCell, World.size_drew] at z12
  have s12_0 : w.heap.size < w12.heap.size := by omega
  have s12_1 : w.heap.size + 1 < w12.heap.size := by omega
  have s12_2 : w1.heap.size < w12.heap.size := by omega
  have s12_3 : w3.heap.size < w12.heap.size := by omega
  have s12_4 : w4.heap.size < w12.heap.size := by omega
  have s12_5 : w5.heap.size < w12.heap.size := by omega
  have s12_6 : w6.heap.size < w12.heap.size := by omega
  have s12_7 : w7.heap.size < w12.heap.size := by omega
  have s12_8 : w8.heap.size < w12.heap.size := by omega
  have s12_9 : w9.heap.size < w12.heap.size := by omega
  have s12_10 : w11.heap.size < w12.heap.size := by omega
  have hB12 : Below w.heap.size w w12 := below_seq (by repeat (first | exact hB11 | exact Below.refl _ _ | refine balloc ?_ _ | refine Below.drew ?_ | refine below_drewN ?_ _ | refine below_set ?_ (by first | omega | (dsimp only; omega)) _)) hb
  clear hb
  go_wp2_with fail
  refine (times_e U V (a + b) n _ (hF.below (by repeat (first | exact hB12 | exact Below.refl _ _ | refine balloc ?_ _ | refine Below.drew ?_ | refine below_drewN ?_ _ | refine below_set ?_ (by first | omega | (dsimp only; omega)) _))) hU2 hV).mono ?_; rintro e w13 ⟨rfl, hb⟩
  obtain ⟨hc13, hf13⟩ := bcell hb
  have z13 := hb.size
  try simp only [World.size_alloc, World.size_setCell, World.size_drew] at z13
  have s13_0 : w.heap.size < w13.heap.size := by omega
  have s13_1 : w.heap.size + 1 < w13.heap.size := by omega
  have s13_2 : w1.heap.size < w13.heap.size := by omega
  have s13_3 : w3.heap.size < w13.heap.size := by omega
  have s13_4 : w4.heap.size < w13.heap.size := by omega
  have s13_5 : w5.heap.size < w13.heap.size := by omega
  have s13_6 : w6.heap.size < w13.heap.size := by omega
  have s13_7 : w7.heap.size < w13.heap.size := by omega
  have s13_8 : w8.heap.size < w13.heap.size := by omega
  have s13_9 : w9.heap.size < w13.heap.size := by omega
  have s13_10 : w11.heap.size < w13.heap.size := by omega
  have s13_11 : w12.heap.size < w13.heap.size := by omega
  have hB13 : Below w.heap.size w w13 := below_seq (by repeat (first | exact hB12 | exact Below.refl _ _ | refine balloc ?_ _ | refine Below.drew ?_ | refine below_drewN ?_ _ | refine below_set ?_ (by first | omega | (dsimp only; omega)) _)) hb
  clear hb
  go_wp2_with fail
  refine (add_e A X V _ (hF.below (by repeat (first | exact hB13 | exact Below.refl _ _ | refine balloc ?_ _ | refine Below.drew ?_ | refine below_drewN ?_ _ | refine below_set ?_ (by first | omega | (dsimp only; omega)) _))) oA oX hV2).mono ?_; rintro e w14 ⟨rfl, hb⟩
  obtain ⟨hc14, hf14⟩ := bcell hb
  have z14 := hb.size
  try simp only [World.size_alloc, World.size_setCell, World.size_drew] at z14
  have s14_0 : w.heap.size < w14.heap.size := by omega
  have s14_1 : w.heap.size + 1 < w14.heap.size := by omega
  have s14_2 : w1.heap.size < w14.heap.size := by omega
  have s14_3 : w3.heap.size < w14.heap.size := by omega
  have s14_4 : w4.heap.size < w14.heap.size := by omega
  have s14_5 : w5.heap.size < w14.heap.size := by omega
  have s14_6 : w6.heap.size < w14.heap.size := by omega
  have s14_7 : w7.heap.size < w14.heap.size := by omega
  have s14_8 : w8.heap.size < w14.heap.size := by omega
  have s14_9 : w9.heap.size < w14.heap.size := by omega
  have s14_10 : w11.heap.size < w14.heap.size := by omega
  have s14_11 : w12.heap.size < w14.heap.size := by omega
  have s14_12 : w13.heap.size < w14.heap.size := by omega
  have hB14 : Below w.heap.size w w14 := below_seq (by repeat (first | exact hB13 | exact Below.refl _ _ | refine balloc ?_ _ | refine Below.drew ?_ | refine below_drewN ?_ _ | refine below_set ?_ (by first | omega | (dsimp only; omega)) _)) hb
  clear hb
  go_wp2
  go_ret
  exact ⟨rfl, (by repeat (first | exact hB14 | exact Below.refl _ _ | refine balloc ?_ _ | refine Below.drew ?_ | refine below_drewN ?_ _ | refine below_set ?_ (by first | omega | (dsimp only; omega)) _))⟩
theorem mul_box {n m : Int} (h1 : -100000 ≤ n) (h2 : n ≤ 100000) (h3 : -100000 ≤ m) (h4 : m ≤ 100000) : -10000000000 ≤ n * m ∧ n * m ≤ 10000000000 := by
  have a1 := Int.mul_nonneg (show 0 ≤ 100000 - n by omega) (show 0 ≤ 100000 - m by omega)
  have a2 := Int.mul_nonneg (show 0 ≤ 100000 + n by omega) (show 0 ≤ 100000 + m by omega)
  have a3 := Int.mul_nonneg (show 0 ≤ 100000 - n by omega) (show 0 ≤ 100000 + m by omega)
  have a4 := Int.mul_nonneg (show 0 ≤ 100000 + n by omega) (show 0 ≤ 100000 - m by omega)
  rw [Int.sub_mul, Int.mul_sub, Int.mul_sub] at a1
  rw [Int.add_mul, Int.mul_add, Int.mul_add] at a2
  rw [Int.sub_mul, Int.mul_add, Int.mul_add] at a3
  rw [Int.add_mul, Int.mul_sub, Int.mul_sub] at a4
  omega
theorem timesHold_law (s t : Sp) (n : Int) (hn : (Lit.int .i64 n).wf = true) (m : Int) (hm : (Lit.int .i64 m).wf = true) (w : World) (hF : FarAt w) : Calls Tryd.prog 8 #[spV s, spV t, .int .i64 n, .int .i64 m] w fun e w' => e = .returned (.bool true) ∧ Below w.heap.size w w' := by
  by_cases h1 : n < -100000
  · exact th_1 s t n m w hF h1
  by_cases h2 : 100000 < n
  · exact th_2 s t n m w hF h1 h2
  by_cases h3 : m < -100000
  · exact th_3 s t n m w hF h1 (by omega) h3
  by_cases h4 : 100000 < m
  · exact th_4 s t n m w hF h1 (by omega) h3 h4
  by_cases cs : sCheck s = 0
  case neg => exact th_bad s t n m w hF (by omega) (by omega) (by omega) (by omega) cs
  have os := (ok_iff _).mp cs
  obtain ⟨a, -, -, ea⟩ := sq_all os
  obtain ⟨p1, p2⟩ := mul_box (n := n) (m := m) (by omega) (by omega) (by omega) (by omega)
  have e1 : sSum (sq (a * n)) (sq (a * m)) = sq (a * (n + m)) := by rw [sq_add, Int.mul_add]
  have e2 : sq (a * n * m) = sq (a * (n * m)) := by rw [Int.mul_assoc]
  have e3 : sq (a * 4052) = ⟨0, 0, true⟩ := ((sq_eq_iff (a := a * 4052) (b := 0)).mpr (by omega)).trans sq_zero
  by_cases ct : sCheck t = 0
  case neg => exact th_ok_bad s t n m w hF (by omega) (by omega) (by omega) (by omega) p1 p2 a _ _ _ _ _ ea rfl rfl rfl e2 rfl e1 e3 rfl (ordOf_pos a).1 (ordOf_pos a).2 (ordOf_div a) (sq_ok _) (sq_ok _) ct
  have ot := (ok_iff _).mp ct
  obtain ⟨b, -, -, eb⟩ := sq_all ot
  have e4 : sSum s t = sq (a + b) := by rw [ea, eb, sq_add]
  have e5 : sSum (sq (a * n)) (sq (b * n)) = sq ((a + b) * n) := by rw [sq_add, Int.add_mul]
  exact th_ok s t n m w hF (by omega) (by omega) (by omega) (by omega) p1 p2 a _ _ _ _ _ ea rfl rfl rfl e2 rfl e1 e3 rfl (ordOf_pos a).1 (ordOf_pos a).2 (ordOf_div a) (sq_ok _) (sq_ok _) b _ _ _ eb rfl e4 rfl rfl e5 os ot (sq_ok _)
end Go.Proofs.YtlppjihejgcplaaDoor
