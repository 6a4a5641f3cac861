/- The law PrimeTells, walked. (Printed by gen_pt.py.) -/
import Derived.Test.YtijemkecjohagaaDoorRa
import Derived.Test.YtijemkecjohagaaDoorTl
namespace Go.Proofs.YtijemkecjohagaaDoor
open Go.RowKit
set_option maxRecDepth 100000
set_option linter.unusedVariables false
set_option linter.unusedSimpArgs false
set_option maxHeartbeats 4000000 in
theorem pt_0 (a b n : Int) (w : World) (hE : ErrAt w) (a0 : -9223372036854775808 ≤ a) (a1 : a ≤ 9223372036854775807) (b0 : -9223372036854775808 ≤ b) (b1 : b ≤ 9223372036854775807) (n0 : -9223372036854775808 ≤ n) (n1 : n ≤ 9223372036854775807) (X Y A S M : Int) (x0 : 0 ≤ X) (x1 : X < 4051) (y0 : 0 ≤ Y) (y1 : Y < 4051) (p0 : 0 ≤ X * Y) (p1 : X * Y ≤ 16402500) (hX : Hid (a % 4051 = X)) (hY : Hid (b % 4051 = Y)) (oX : Hid (pOf a = X)) (hA : Hid (pAdd a b = A)) (sA : (X + Y) % 4051 = A) (hS : Hid (pSub a b = S)) (sS : Hid ((X - Y) % 4051 = S)) (hM : Hid (pMul a b = M)) (sM : X * Y % 4051 = M) (K1 : Int) (E1 E2 E3 : Value) (h1 : Hid (∀ w : World, Calls Tryd.prog 62 #[.int .i64 a] w fun e w' => e = .returned (.tuple #[.int .i64 0, E1]) ∧ w = w')) (e1 : Hid (E1 = errV 5)) (hx : (X == 0) = true) (K2 : Int) (h2 : Hid (∀ w : World, Calls Tryd.prog 64 #[.int .i64 a, .int .i64 n] w fun e w' => e = .returned (.tuple #[.int .i64 0, E2]) ∧ w = w')) (e2 : Hid (E2 = errV 1)) (hn : n < 0) (W : Int) (hW : Hid (rRoot (X % 4051) = W)) (h3 : Hid (∀ w : World, Calls Tryd.prog 66 #[.int .i64 a] w fun e w' => e = .returned (.tuple #[.int .i64 0, E3]) ∧ w = w')) (e3 : Hid (E3 = errV 5)) (hw : W < 0) : Calls Tryd.prog 14 #[.int .i64 a, .int .i64 b, .int .i64 n] w fun e w' => e = .returned (.bool true) ∧ Below w.heap.size w w' := by
  go_enter Tryd.func14, Tryd.ntmps14
  go_wp2_with fail
  refine (refMod_e a 4051 X _ a0 a1 (by omega) (by omega) hX).mono ?_; rintro e w' ⟨rfl, rfl⟩
  go_wp2_with fail
  refine (refMod_e b 4051 Y _ b0 b1 (by omega) (by omega) hY).mono ?_; rintro e w' ⟨rfl, rfl⟩
  go_wp2_with fail
  refine (primeOf_c a _).mono ?_; rintro e w' ⟨rfl, rfl⟩
  rw [oX.out]
  go_wp2_with fail
  refine (primeAdd_c a b _).mono ?_; rintro e w' ⟨rfl, rfl⟩
  rw [hA.out]
  go_wp2_with fail
  refine (primeSub_c a b _).mono ?_; rintro e w' ⟨rfl, rfl⟩
  rw [hS.out]
  go_wp2_with fail
  refine (refMod_e (X - Y) 4051 S _ (by omega) (by omega) (by omega) (by omega) sS).mono ?_; rintro e w' ⟨rfl, rfl⟩
  go_wp2_with fail
  refine (primeMul_c a b _).mono ?_; rintro e w' ⟨rfl, rfl⟩
  rw [hM.out]
  go_wp2_with fail
  refine (h1.out _).mono ?_; rintro e w' ⟨rfl, rfl⟩
  go_wp2_with fail
  refine (error_same E1 5 _ (hE.below (by repeat (first | exact Below.refl _ _ | refine balloc ?_ _ | refine Below.drew ?_ | refine below_drewN ?_ _ | refine below_set ?_ (by first | omega | (dsimp only; omega)) _))) e1).mono ?_; rintro e w1 ⟨rfl, hb⟩
  obtain ⟨hc1, hf1⟩ := bcell hb
  have z1 := hb.size
  try simp only [World.size_alloc, World.size_setCell, World.size_drew] at z1
  have hB1 : Below w.heap.size w w1 := below_seq (by repeat (first | exact Below.refl _ _ | refine balloc ?_ _ | refine Below.drew ?_ | refine below_drewN ?_ _ | refine below_set ?_ (by first | omega | (dsimp only; omega)) _)) hb
  clear hb
  go_wp2_with fail
  refine (h2.out _).mono ?_; rintro e w' ⟨rfl, rfl⟩
  go_wp2_with fail
  refine (error_same E2 1 _ (hE.below (by repeat (first | exact hB1 | exact Below.refl _ _ | refine balloc ?_ _ | refine Below.drew ?_ | refine below_drewN ?_ _ | refine below_set ?_ (by first | omega | (dsimp only; omega)) _))) e2).mono ?_; rintro e w2 ⟨rfl, hb⟩
  obtain ⟨hc2, hf2⟩ := bcell hb
  have z2 := hb.size
  try simp only [World.size_alloc, World.size_setCell, World.size_drew] at z2
  have hB2 : Below w.heap.size w w2 := below_seq (by repeat (first | exact hB1 | exact Below.refl _ _ | refine balloc ?_ _ | refine Below.drew ?_ | refine below_drewN ?_ _ | refine below_set ?_ (by first | omega | (dsimp only; omega)) _)) hb
  clear hb
  go_wp2_with fail
  refine (refRoot_c X _ (by omega) (by omega)).mono ?_; rintro e w' ⟨rfl, rfl⟩
  rw [hW.out]
  go_wp2_with fail
  refine (h3.out _).mono ?_; rintro e w' ⟨rfl, rfl⟩
  go_wp2_with fail
  refine (error_same E3 5 _ (hE.below (by repeat (first | exact hB2 | exact Below.refl _ _ | refine balloc ?_ _ | refine Below.drew ?_ | refine below_drewN ?_ _ | refine below_set ?_ (by first | omega | (dsimp only; omega)) _))) e3).mono ?_; rintro e w3 ⟨rfl, hb⟩
  obtain ⟨hc3, hf3⟩ := bcell hb
  have z3 := hb.size
  try simp only [World.size_alloc, World.size_setCell, World.size_drew] at z3
  have hB3 : Below w.heap.size w w3 := below_seq (by repeat (first | exact hB2 | exact Below.refl _ _ | refine balloc ?_ _ | refine Below.drew ?_ | refine below_drewN ?_ _ | refine below_set ?_ (by first | omega | (dsimp only; omega)) _)) hb
  clear hb
  go_wp2
  go_ret
  exact ⟨rfl, (by repeat (first | exact hB3 | exact Below.refl _ _ | refine balloc ?_ _ | refine Below.drew ?_ | refine below_drewN ?_ _ | refine below_set ?_ (by first | omega | (dsimp only; omega)) _))⟩
set_option maxHeartbeats 4000000 in
theorem pt_1 (a b n : Int) (w : World) (hE : ErrAt w) (a0 : -9223372036854775808 ≤ a) (a1 : a ≤ 9223372036854775807) (b0 : -9223372036854775808 ≤ b) (b1 : b ≤ 9223372036854775807) (n0 : -9223372036854775808 ≤ n) (n1 : n ≤ 9223372036854775807) (X Y A S M : Int) (x0 : 0 ≤ X) (x1 : X < 4051) (y0 : 0 ≤ Y) (y1 : Y < 4051) (p0 : 0 ≤ X * Y) (p1 : X * Y ≤ 16402500) (hX : Hid (a % 4051 = X)) (hY : Hid (b % 4051 = Y)) (oX : Hid (pOf a = X)) (hA : Hid (pAdd a b = A)) (sA : (X + Y) % 4051 = A) (hS : Hid (pSub a b = S)) (sS : Hid ((X - Y) % 4051 = S)) (hM : Hid (pMul a b = M)) (sM : X * Y % 4051 = M) (K1 : Int) (E1 E2 E3 : Value) (h1 : Hid (∀ w : World, Calls Tryd.prog 62 #[.int .i64 a] w fun e w' => e = .returned (.tuple #[.int .i64 K1, E1]) ∧ w = w')) (e1 : Hid (E1 = errV 0)) (hx : (X == 0) = false) (xp : 1 ≤ X) (t1 : Hid (pInv X = K1)) (K2 : Int) (h2 : Hid (∀ w : World, Calls Tryd.prog 64 #[.int .i64 a, .int .i64 n] w fun e w' => e = .returned (.tuple #[.int .i64 0, E2]) ∧ w = w')) (e2 : Hid (E2 = errV 1)) (hn : n < 0) (W : Int) (hW : Hid (rRoot (X % 4051) = W)) (h3 : Hid (∀ w : World, Calls Tryd.prog 66 #[.int .i64 a] w fun e w' => e = .returned (.tuple #[.int .i64 0, E3]) ∧ w = w')) (e3 : Hid (E3 = errV 5)) (hw : W < 0) : Calls Tryd.prog 14 #[.int .i64 a, .int .i64 b, .int .i64 n] w fun e w' => e = .returned (.bool true) ∧ Below w.heap.size w w' := by
  go_enter Tryd.func14, Tryd.ntmps14
  go_wp2_with fail
  refine (refMod_e a 4051 X _ a0 a1 (by omega) (by omega) hX).mono ?_; rintro e w' ⟨rfl, rfl⟩
  go_wp2_with fail
  refine (refMod_e b 4051 Y _ b0 b1 (by omega) (by omega) hY).mono ?_; rintro e w' ⟨rfl, rfl⟩
  go_wp2_with fail
  refine (primeOf_c a _).mono ?_; rintro e w' ⟨rfl, rfl⟩
  rw [oX.out]
  go_wp2_with fail
  refine (primeAdd_c a b _).mono ?_; rintro e w' ⟨rfl, rfl⟩
  rw [hA.out]
  go_wp2_with fail
  refine (primeSub_c a b _).mono ?_; rintro e w' ⟨rfl, rfl⟩
  rw [hS.out]
  go_wp2_with fail
  refine (refMod_e (X - Y) 4051 S _ (by omega) (by omega) (by omega) (by omega) sS).mono ?_; rintro e w' ⟨rfl, rfl⟩
  go_wp2_with fail
  refine (primeMul_c a b _).mono ?_; rintro e w' ⟨rfl, rfl⟩
  rw [hM.out]
  go_wp2_with fail
  refine (refTurn_p X _ xp x1).mono ?_; rintro e w' ⟨rfl, rfl⟩
  rw [t1.out]
  go_wp2_with fail
  refine (h1.out _).mono ?_; rintro e w' ⟨rfl, rfl⟩
  go_wp2_with fail
  refine (error_same E1 0 _ (hE.below (by repeat (first | exact Below.refl _ _ | refine balloc ?_ _ | refine Below.drew ?_ | refine below_drewN ?_ _ | refine below_set ?_ (by first | omega | (dsimp only; omega)) _))) e1).mono ?_; rintro e w1 ⟨rfl, hb⟩
  obtain ⟨hc1, hf1⟩ := bcell hb
  have z1 := hb.size
  try simp only [World.size_alloc, World.size_setCell, World.size_drew] at z1
  have hB1 : Below w.heap.size w w1 := below_seq (by repeat (first | exact Below.refl _ _ | refine balloc ?_ _ | refine Below.drew ?_ | refine below_drewN ?_ _ | refine below_set ?_ (by first | omega | (dsimp only; omega)) _)) hb
  clear hb
  go_wp2_with fail
  refine (h2.out _).mono ?_; rintro e w' ⟨rfl, rfl⟩
  go_wp2_with fail
  refine (error_same E2 1 _ (hE.below (by repeat (first | exact hB1 | exact Below.refl _ _ | refine balloc ?_ _ | refine Below.drew ?_ | refine below_drewN ?_ _ | refine below_set ?_ (by first | omega | (dsimp only; omega)) _))) e2).mono ?_; rintro e w2 ⟨rfl, hb⟩
  obtain ⟨hc2, hf2⟩ := bcell hb
  have z2 := hb.size
  try simp only [World.size_alloc, World.size_setCell, World.size_drew] at z2
  have hB2 : Below w.heap.size w w2 := below_seq (by repeat (first | exact hB1 | exact Below.refl _ _ | refine balloc ?_ _ | refine Below.drew ?_ | refine below_drewN ?_ _ | refine below_set ?_ (by first | omega | (dsimp only; omega)) _)) hb
  clear hb
  go_wp2_with fail
  refine (refRoot_c X _ (by omega) (by omega)).mono ?_; rintro e w' ⟨rfl, rfl⟩
  rw [hW.out]
  go_wp2_with fail
  refine (h3.out _).mono ?_; rintro e w' ⟨rfl, rfl⟩
  go_wp2_with fail
  refine (error_same E3 5 _ (hE.below (by repeat (first | exact hB2 | exact Below.refl _ _ | refine balloc ?_ _ | refine Below.drew ?_ | refine below_drewN ?_ _ | refine below_set ?_ (by first | omega | (dsimp only; omega)) _))) e3).mono ?_; rintro e w3 ⟨rfl, hb⟩
  obtain ⟨hc3, hf3⟩ := bcell hb
  have z3 := hb.size
  try simp only [World.size_alloc, World.size_setCell, World.size_drew] at z3
  have hB3 : Below w.heap.size w w3 := below_seq (by repeat (first | exact hB2 | exact Below.refl _ _ | refine balloc ?_ _ | refine Below.drew ?_ | refine below_drewN ?_ _ | refine below_set ?_ (by first | omega | (dsimp only; omega)) _)) hb
  clear hb
  go_wp2
  go_ret
  exact ⟨rfl, (by repeat (first | exact hB3 | exact Below.refl _ _ | refine balloc ?_ _ | refine Below.drew ?_ | refine below_drewN ?_ _ | refine below_set ?_ (by first | omega | (dsimp only; omega)) _))⟩
set_option maxHeartbeats 4000000 in
theorem pt_2 (a b n : Int) (w : World) (hE : ErrAt w) (a0 : -9223372036854775808 ≤ a) (a1 : a ≤ 9223372036854775807) (b0 : -9223372036854775808 ≤ b) (b1 : b ≤ 9223372036854775807) (n0 : -9223372036854775808 ≤ n) (n1 : n ≤ 9223372036854775807) (X Y A S M : Int) (x0 : 0 ≤ X) (x1 : X < 4051) (y0 : 0 ≤ Y) (y1 : Y < 4051) (p0 : 0 ≤ X * Y) (p1 : X * Y ≤ 16402500) (hX : Hid (a % 4051 = X)) (hY : Hid (b % 4051 = Y)) (oX : Hid (pOf a = X)) (hA : Hid (pAdd a b = A)) (sA : (X + Y) % 4051 = A) (hS : Hid (pSub a b = S)) (sS : Hid ((X - Y) % 4051 = S)) (hM : Hid (pMul a b = M)) (sM : X * Y % 4051 = M) (K1 : Int) (E1 E2 E3 : Value) (h1 : Hid (∀ w : World, Calls Tryd.prog 62 #[.int .i64 a] w fun e w' => e = .returned (.tuple #[.int .i64 0, E1]) ∧ w = w')) (e1 : Hid (E1 = errV 5)) (hx : (X == 0) = true) (K2 : Int) (h2 : Hid (∀ w : World, Calls Tryd.prog 64 #[.int .i64 a, .int .i64 n] w fun e w' => e = .returned (.tuple #[.int .i64 K2, E2]) ∧ w = w')) (e2 : Hid (E2 = errV 0)) (hn : 0 ≤ n) (t2 : Hid (pPow X n.toNat = K2)) (W : Int) (hW : Hid (rRoot (X % 4051) = W)) (h3 : Hid (∀ w : World, Calls Tryd.prog 66 #[.int .i64 a] w fun e w' => e = .returned (.tuple #[.int .i64 0, E3]) ∧ w = w')) (e3 : Hid (E3 = errV 5)) (hw : W < 0) : Calls Tryd.prog 14 #[.int .i64 a, .int .i64 b, .int .i64 n] w fun e w' => e = .returned (.bool true) ∧ Below w.heap.size w w' := by
  go_enter Tryd.func14, Tryd.ntmps14
  go_wp2_with fail
  refine (refMod_e a 4051 X _ a0 a1 (by omega) (by omega) hX).mono ?_; rintro e w' ⟨rfl, rfl⟩
  go_wp2_with fail
  refine (refMod_e b 4051 Y _ b0 b1 (by omega) (by omega) hY).mono ?_; rintro e w' ⟨rfl, rfl⟩
  go_wp2_with fail
  refine (primeOf_c a _).mono ?_; rintro e w' ⟨rfl, rfl⟩
  rw [oX.out]
  go_wp2_with fail
  refine (primeAdd_c a b _).mono ?_; rintro e w' ⟨rfl, rfl⟩
  rw [hA.out]
  go_wp2_with fail
  refine (primeSub_c a b _).mono ?_; rintro e w' ⟨rfl, rfl⟩
  rw [hS.out]
  go_wp2_with fail
  refine (refMod_e (X - Y) 4051 S _ (by omega) (by omega) (by omega) (by omega) sS).mono ?_; rintro e w' ⟨rfl, rfl⟩
  go_wp2_with fail
  refine (primeMul_c a b _).mono ?_; rintro e w' ⟨rfl, rfl⟩
  rw [hM.out]
  go_wp2_with fail
  refine (h1.out _).mono ?_; rintro e w' ⟨rfl, rfl⟩
  go_wp2_with fail
  refine (error_same E1 5 _ (hE.below (by repeat (first | exact Below.refl _ _ | refine balloc ?_ _ | refine Below.drew ?_ | refine below_drewN ?_ _ | refine below_set ?_ (by first | omega | (dsimp only; omega)) _))) e1).mono ?_; rintro e w1 ⟨rfl, hb⟩
  obtain ⟨hc1, hf1⟩ := bcell hb
  have z1 := hb.size
  try simp only [World.size_alloc, World.size_setCell, World.size_drew] at z1
  have hB1 : Below w.heap.size w w1 := below_seq (by repeat (first | exact Below.refl _ _ | refine balloc ?_ _ | refine Below.drew ?_ | refine below_drewN ?_ _ | refine below_set ?_ (by first | omega | (dsimp only; omega)) _)) hb
  clear hb
  go_wp2_with fail
  refine (refPower_p X n K2 _ x0 x1 hn n1 t2).mono ?_; rintro e w' ⟨rfl, rfl⟩
  go_wp2_with fail
  refine (h2.out _).mono ?_; rintro e w' ⟨rfl, rfl⟩
  go_wp2_with fail
  refine (error_same E2 0 _ (hE.below (by repeat (first | exact hB1 | exact Below.refl _ _ | refine balloc ?_ _ | refine Below.drew ?_ | refine below_drewN ?_ _ | refine below_set ?_ (by first | omega | (dsimp only; omega)) _))) e2).mono ?_; rintro e w2 ⟨rfl, hb⟩
  obtain ⟨hc2, hf2⟩ := bcell hb
  have z2 := hb.size
  try simp only [World.size_alloc, World.size_setCell, World.size_drew] at z2
  have hB2 : Below w.heap.size w w2 := below_seq (by repeat (first | exact hB1 | exact Below.refl _ _ | refine balloc ?_ _ | refine Below.drew ?_ | refine below_drewN ?_ _ | refine below_set ?_ (by first | omega | (dsimp only; omega)) _)) hb
  clear hb
  go_wp2_with fail
  refine (refRoot_c X _ (by omega) (by omega)).mono ?_; rintro e w' ⟨rfl, rfl⟩
  rw [hW.out]
  go_wp2_with fail
  refine (h3.out _).mono ?_; rintro e w' ⟨rfl, rfl⟩
  go_wp2_with fail
  refine (error_same E3 5 _ (hE.below (by repeat (first | exact hB2 | exact Below.refl _ _ | refine balloc ?_ _ | refine Below.drew ?_ | refine below_drewN ?_ _ | refine below_set ?_ (by first | omega | (dsimp only; omega)) _))) e3).mono ?_; rintro e w3 ⟨rfl, hb⟩
  obtain ⟨hc3, hf3⟩ := bcell hb
  have z3 := hb.size
  try simp only [World.size_alloc, World.size_setCell, World.size_drew] at z3
  have hB3 : Below w.heap.size w w3 := below_seq (by repeat (first | exact hB2 | exact Below.refl _ _ | refine balloc ?_ _ | refine Below.drew ?_ | refine below_drewN ?_ _ | refine below_set ?_ (by first | omega | (dsimp only; omega)) _)) hb
  clear hb
  go_wp2
  go_ret
  exact ⟨rfl, (by repeat (first | exact hB3 | exact Below.refl _ _ | refine balloc ?_ _ | refine Below.drew ?_ | refine below_drewN ?_ _ | refine below_set ?_ (by first | omega | (dsimp only; omega)) _))⟩
set_option maxHeartbeats 4000000 in
theorem pt_3 (a b n : Int) (w : World) (hE : ErrAt w) (a0 : -9223372036854775808 ≤ a) (a1 : a ≤ 9223372036854775807) (b0 : -9223372036854775808 ≤ b) (b1 : b ≤ 9223372036854775807) (n0 : -9223372036854775808 ≤ n) (n1 : n ≤ 9223372036854775807) (X Y A S M : Int) (x0 : 0 ≤ X) (x1 : X < 4051) (y0 : 0 ≤ Y) (y1 : Y < 4051) (p0 : 0 ≤ X * Y) (p1 : X * Y ≤ 16402500) (hX : Hid (a % 4051 = X)) (hY : Hid (b % 4051 = Y)) (oX : Hid (pOf a = X)) (hA : Hid (pAdd a b = A)) (sA : (X + Y) % 4051 = A) (hS : Hid (pSub a b = S)) (sS : Hid ((X - Y) % 4051 = S)) (hM : Hid (pMul a b = M)) (sM : X * Y % 4051 = M) (K1 : Int) (E1 E2 E3 : Value) (h1 : Hid (∀ w : World, Calls Tryd.prog 62 #[.int .i64 a] w fun e w' => e = .returned (.tuple #[.int .i64 K1, E1]) ∧ w = w')) (e1 : Hid (E1 = errV 0)) (hx : (X == 0) = false) (xp : 1 ≤ X) (t1 : Hid (pInv X = K1)) (K2 : Int) (h2 : Hid (∀ w : World, Calls Tryd.prog 64 #[.int .i64 a, .int .i64 n] w fun e w' => e = .returned (.tuple #[.int .i64 K2, E2]) ∧ w = w')) (e2 : Hid (E2 = errV 0)) (hn : 0 ≤ n) (t2 : Hid (pPow X n.toNat = K2)) (W : Int) (hW : Hid (rRoot (X % 4051) = W)) (h3 : Hid (∀ w : World, Calls Tryd.prog 66 #[.int .i64 a] w fun e w' => e = .returned (.tuple #[.int .i64 0, E3]) ∧ w = w')) (e3 : Hid (E3 = errV 5)) (hw : W < 0) : Calls Tryd.prog 14 #[.int .i64 a, .int .i64 b, .int .i64 n] w fun e w' => e = .returned (.bool true) ∧ Below w.heap.size w w' := by
  go_enter Tryd.func14, Tryd.ntmps14
  go_wp2_with fail
  refine (refMod_e a 4051 X _ a0 a1 (by omega) (by omega) hX).mono ?_; rintro e w' ⟨rfl, rfl⟩
  go_wp2_with fail
  refine (refMod_e b 4051 Y _ b0 b1 (by omega) (by omega) hY).mono ?_; rintro e w' ⟨rfl, rfl⟩
  go_wp2_with fail
  refine (primeOf_c a _).mono ?_; rintro e w' ⟨rfl, rfl⟩
  rw [oX.out]
  go_wp2_with fail
  refine (primeAdd_c a b _).mono ?_; rintro e w' ⟨rfl, rfl⟩
  rw [hA.out]
  go_wp2_with fail
  refine (primeSub_c a b _).mono ?_; rintro e w' ⟨rfl, rfl⟩
  rw [hS.out]
  go_wp2_with fail
  refine (refMod_e (X - Y) 4051 S _ (by omega) (by omega) (by omega) (by omega) sS).mono ?_; rintro e w' ⟨rfl, rfl⟩
  go_wp2_with fail
  refine (primeMul_c a b _).mono ?_; rintro e w' ⟨rfl, rfl⟩
  rw [hM.out]
  go_wp2_with fail
  refine (refTurn_p X _ xp x1).mono ?_; rintro e w' ⟨rfl, rfl⟩
  rw [t1.out]
  go_wp2_with fail
  refine (h1.out _).mono ?_; rintro e w' ⟨rfl, rfl⟩
  go_wp2_with fail
  refine (error_same E1 0 _ (hE.below (by repeat (first | exact Below.refl _ _ | refine balloc ?_ _ | refine Below.drew ?_ | refine below_drewN ?_ _ | refine below_set ?_ (by first | omega | (dsimp only; omega)) _))) e1).mono ?_; rintro e w1 ⟨rfl, hb⟩
  obtain ⟨hc1, hf1⟩ := bcell hb
  have z1 := hb.size
  try simp only [World.size_alloc, World.size_setCell, World.size_drew] at z1
  have hB1 : Below w.heap.size w w1 := below_seq (by repeat (first | exact Below.refl _ _ | refine balloc ?_ _ | refine Below.drew ?_ | refine below_drewN ?_ _ | refine below_set ?_ (by first | omega | (dsimp only; omega)) _)) hb
  clear hb
  go_wp2_with fail
  refine (refPower_p X n K2 _ x0 x1 hn n1 t2).mono ?_; rintro e w' ⟨rfl, rfl⟩
  go_wp2_with fail
  refine (h2.out _).mono ?_; rintro e w' ⟨rfl, rfl⟩
  go_wp2_with fail
  refine (error_same E2 0 _ (hE.below (by repeat (first | exact hB1 | exact Below.refl _ _ | refine balloc ?_ _ | refine Below.drew ?_ | refine below_drewN ?_ _ | refine below_set ?_ (by first | omega | (dsimp only; omega)) _))) e2).mono ?_; rintro e w2 ⟨rfl, hb⟩
  obtain ⟨hc2, hf2⟩ := bcell hb
  have z2 := hb.size
  try simp only [World.size_alloc, World.size_setCell, World.size_drew] at z2
  have hB2 : Below w.heap.size w w2 := below_seq (by repeat (first | exact hB1 | exact Below.refl _ _ | refine balloc ?_ _ | refine Below.drew ?_ | refine below_drewN ?_ _ | refine below_set ?_ (by first | omega | (dsimp only; omega)) _)) hb
  clear hb
  go_wp2_with fail
  refine (refRoot_c X _ (by omega) (by omega)).mono ?_; rintro e w' ⟨rfl, rfl⟩
  rw [hW.out]
  go_wp2_with fail
  refine (h3.out _).mono ?_; rintro e w' ⟨rfl, rfl⟩
  go_wp2_with fail
  refine (error_same E3 5 _ (hE.below (by repeat (first | exact hB2 | exact Below.refl _ _ | refine balloc ?_ _ | refine Below.drew ?_ | refine below_drewN ?_ _ | refine below_set ?_ (by first | omega | (dsimp only; omega)) _))) e3).mono ?_; rintro e w3 ⟨rfl, hb⟩
  obtain ⟨hc3, hf3⟩ := bcell hb
  have z3 := hb.size
  try simp only [World.size_alloc, World.size_setCell, World.size_drew] at z3
  have hB3 : Below w.heap.size w w3 := below_seq (by repeat (first | exact hB2 | exact Below.refl _ _ | refine balloc ?_ _ | refine Below.drew ?_ | refine below_drewN ?_ _ | refine below_set ?_ (by first | omega | (dsimp only; omega)) _)) hb
  clear hb
  go_wp2
  go_ret
  exact ⟨rfl, (by repeat (first | exact hB3 | exact Below.refl _ _ | refine balloc ?_ _ | refine Below.drew ?_ | refine below_drewN ?_ _ | refine below_set ?_ (by first | omega | (dsimp only; omega)) _))⟩
set_option maxHeartbeats 4000000 in
theorem pt_4 (a b n : Int) (w : World) (hE : ErrAt w) (a0 : -9223372036854775808 ≤ a) (a1 : a ≤ 9223372036854775807) (b0 : -9223372036854775808 ≤ b) (b1 : b ≤ 9223372036854775807) (n0 : -9223372036854775808 ≤ n) (n1 : n ≤ 9223372036854775807) (X Y A S M : Int) (x0 : 0 ≤ X) (x1 : X < 4051) (y0 : 0 ≤ Y) (y1 : Y < 4051) (p0 : 0 ≤ X * Y) (p1 : X * Y ≤ 16402500) (hX : Hid (a % 4051 = X)) (hY : Hid (b % 4051 = Y)) (oX : Hid (pOf a = X)) (hA : Hid (pAdd a b = A)) (sA : (X + Y) % 4051 = A) (hS : Hid (pSub a b = S)) (sS : Hid ((X - Y) % 4051 = S)) (hM : Hid (pMul a b = M)) (sM : X * Y % 4051 = M) (K1 : Int) (E1 E2 E3 : Value) (h1 : Hid (∀ w : World, Calls Tryd.prog 62 #[.int .i64 a] w fun e w' => e = .returned (.tuple #[.int .i64 0, E1]) ∧ w = w')) (e1 : Hid (E1 = errV 5)) (hx : (X == 0) = true) (K2 : Int) (h2 : Hid (∀ w : World, Calls Tryd.prog 64 #[.int .i64 a, .int .i64 n] w fun e w' => e = .returned (.tuple #[.int .i64 0, E2]) ∧ w = w')) (e2 : Hid (E2 = errV 1)) (hn : n < 0) (W : Int) (hW : Hid (rRoot (X % 4051) = W)) (h3 : Hid (∀ w : World, Calls Tryd.prog 66 #[.int .i64 a] w fun e w' => e = .returned (.tuple #[.int .i64 W, E3]) ∧ w = w')) (e3 : Hid (E3 = errV 0)) (hw : 0 ≤ W) : Calls Tryd.prog 14 #[.int .i64 a, .int .i64 b, .int .i64 n] w fun e w' => e = .returned (.bool true) ∧ Below w.heap.size w w' := by
  go_enter Tryd.func14, Tryd.ntmps14
  go_wp2_with fail
  refine (refMod_e a 4051 X _ a0 a1 (by omega) (by omega) hX).mono ?_; rintro e w' ⟨rfl, rfl⟩
  go_wp2_with fail
  refine (refMod_e b 4051 Y _ b0 b1 (by omega) (by omega) hY).mono ?_; rintro e w' ⟨rfl, rfl⟩
  go_wp2_with fail
  refine (primeOf_c a _).mono ?_; rintro e w' ⟨rfl, rfl⟩
  rw [oX.out]
  go_wp2_with fail
  refine (primeAdd_c a b _).mono ?_; rintro e w' ⟨rfl, rfl⟩
  rw [hA.out]
  go_wp2_with fail
  refine (primeSub_c a b _).mono ?_; rintro e w' ⟨rfl, rfl⟩
  rw [hS.out]
  go_wp2_with fail
  refine (refMod_e (X - Y) 4051 S _ (by omega) (by omega) (by omega) (by omega) sS).mono ?_; rintro e w' ⟨rfl, rfl⟩
  go_wp2_with fail
  refine (primeMul_c a b _).mono ?_; rintro e w' ⟨rfl, rfl⟩
  rw [hM.out]
  go_wp2_with fail
  refine (h1.out _).mono ?_; rintro e w' ⟨rfl, rfl⟩
  go_wp2_with fail
  refine (error_same E1 5 _ (hE.below (by repeat (first | exact Below.refl _ _ | refine balloc ?_ _ | refine Below.drew ?_ | refine below_drewN ?_ _ | refine below_set ?_ (by first | omega | (dsimp only; omega)) _))) e1).mono ?_; rintro e w1 ⟨rfl, hb⟩
  obtain ⟨hc1, hf1⟩ := bcell hb
  have z1 := hb.size
  try simp only [World.size_alloc, World.size_setCell, World.size_drew] at z1
  have hB1 : Below w.heap.size w w1 := below_seq (by repeat (first | exact Below.refl _ _ | refine balloc ?_ _ | refine Below.drew ?_ | refine below_drewN ?_ _ | refine below_set ?_ (by first | omega | (dsimp only; omega)) _)) hb
  clear hb
  go_wp2_with fail
  refine (h2.out _).mono ?_; rintro e w' ⟨rfl, rfl⟩
  go_wp2_with fail
  refine (error_same E2 1 _ (hE.below (by repeat (first | exact hB1 | exact Below.refl _ _ | refine balloc ?_ _ | refine Below.drew ?_ | refine below_drewN ?_ _ | refine below_set ?_ (by first | omega | (dsimp only; omega)) _))) e2).mono ?_; rintro e w2 ⟨rfl, hb⟩
  obtain ⟨hc2, hf2⟩ := bcell hb
  have z2 := hb.size
  try simp only [World.size_alloc, World.size_setCell, World.size_drew] at z2
  have hB2 : Below w.heap.size w w2 := below_seq (by repeat (first | exact hB1 | exact Below.refl _ _ | refine balloc ?_ _ | refine Below.drew ?_ | refine below_drewN ?_ _ | refine below_set ?_ (by first | omega | (dsimp only; omega)) _)) hb
  clear hb
  go_wp2_with fail
  refine (refRoot_c X _ (by omega) (by omega)).mono ?_; rintro e w' ⟨rfl, rfl⟩
  rw [hW.out]
  go_wp2_with fail
  refine (h3.out _).mono ?_; rintro e w' ⟨rfl, rfl⟩
  go_wp2_with fail
  refine (error_same E3 0 _ (hE.below (by repeat (first | exact hB2 | exact Below.refl _ _ | refine balloc ?_ _ | refine Below.drew ?_ | refine below_drewN ?_ _ | refine below_set ?_ (by first | omega | (dsimp only; omega)) _))) e3).mono ?_; rintro e w3 ⟨rfl, hb⟩
  obtain ⟨hc3, hf3⟩ := bcell hb
  have z3 := hb.size
  try simp only [World.size_alloc, World.size_setCell, World.size_drew] at z3
  have hB3 : Below w.heap.size w w3 := below_seq (by repeat (first | exact hB2 | exact Below.refl _ _ | refine balloc ?_ _ | refine Below.drew ?_ | refine below_drewN ?_ _ | refine below_set ?_ (by first | omega | (dsimp only; omega)) _)) hb
  clear hb
  go_wp2
  go_ret
  exact ⟨rfl, (by repeat (first | exact hB3 | exact Below.refl _ _ | refine balloc ?_ _ | refine Below.drew ?_ | refine below_drewN ?_ _ | refine below_set ?_ (by first | omega | (dsimp only; omega)) _))⟩
set_option maxHeartbeats 4000000 in
theorem pt_5 (a b n : Int) (w : World) (hE : ErrAt w) (a0 : -9223372036854775808 ≤ a) (a1 : a ≤ 9223372036854775807) (b0 : -9223372036854775808 ≤ b) (b1 : b ≤ 9223372036854775807) (n0 : -9223372036854775808 ≤ n) (n1 : n ≤ 9223372036854775807) (X Y A S M : Int) (x0 : 0 ≤ X) (x1 : X < 4051) (y0 : 0 ≤ Y) (y1 : Y < 4051) (p0 : 0 ≤ X * Y) (p1 : X * Y ≤ 16402500) (hX : Hid (a % 4051 = X)) (hY : Hid (b % 4051 = Y)) (oX : Hid (pOf a = X)) (hA : Hid (pAdd a b = A)) (sA : (X + Y) % 4051 = A) (hS : Hid (pSub a b = S)) (sS : Hid ((X - Y) % 4051 = S)) (hM : Hid (pMul a b = M)) (sM : X * Y % 4051 = M) (K1 : Int) (E1 E2 E3 : Value) (h1 : Hid (∀ w : World, Calls Tryd.prog 62 #[.int .i64 a] w fun e w' => e = .returned (.tuple #[.int .i64 K1, E1]) ∧ w = w')) (e1 : Hid (E1 = errV 0)) (hx : (X == 0) = false) (xp : 1 ≤ X) (t1 : Hid (pInv X = K1)) (K2 : Int) (h2 : Hid (∀ w : World, Calls Tryd.prog 64 #[.int .i64 a, .int .i64 n] w fun e w' => e = .returned (.tuple #[.int .i64 0, E2]) ∧ w = w')) (e2 : Hid (E2 = errV 1)) (hn : n < 0) (W : Int) (hW : Hid (rRoot (X % 4051) = W)) (h3 : Hid (∀ w : World, Calls Tryd.prog 66 #[.int .i64 a] w fun e w' => e = .returned (.tuple #[.int .i64 W, E3]) ∧ w = w')) (e3 : Hid (E3 = errV 0)) (hw : 0 ≤ W) : Calls Tryd.prog 14 #[.int .i64 a, .int .i64 b, .int .i64 n] w fun e w' => e = .returned (.bool true) ∧ Below w.heap.size w w' := by
  go_enter Tryd.func14, Tryd.ntmps14
  go_wp2_with fail
  refine (refMod_e a 4051 X _ a0 a1 (by omega) (by omega) hX).mono ?_; rintro e w' ⟨rfl, rfl⟩
  go_wp2_with fail
  refine (refMod_e b 4051 Y _ b0 b1 (by omega) (by omega) hY).mono ?_; rintro e w' ⟨rfl, rfl⟩
  go_wp2_with fail
  refine (primeOf_c a _).mono ?_; rintro e w' ⟨rfl, rfl⟩
  rw [oX.out]
  go_wp2_with fail
  refine (primeAdd_c a b _).mono ?_; rintro e w' ⟨rfl, rfl⟩
  rw [hA.out]
  go_wp2_with fail
  refine (primeSub_c a b _).mono ?_; rintro e w' ⟨rfl, rfl⟩
  rw [hS.out]
  go_wp2_with fail
  refine (refMod_e (X - Y) 4051 S _ (by omega) (by omega) (by omega) (by omega) sS).mono ?_; rintro e w' ⟨rfl, rfl⟩
  go_wp2_with fail
  refine (primeMul_c a b _).mono ?_; rintro e w' ⟨rfl, rfl⟩
  rw [hM.out]
  go_wp2_with fail
  refine (refTurn_p X _ xp x1).mono ?_; rintro e w' ⟨rfl, rfl⟩
  rw [t1.out]
  go_wp2_with fail
  refine (h1.out _).mono ?_; rintro e w' ⟨rfl, rfl⟩
  go_wp2_with fail
  refine (error_same E1 0 _ (hE.below (by repeat (first | exact Below.refl _ _ | refine balloc ?_ _ | refine Below.drew ?_ | refine below_drewN ?_ _ | refine below_set ?_ (by first | omega | (dsimp only; omega)) _))) e1).mono ?_; rintro e w1 ⟨rfl, hb⟩
  obtain ⟨hc1, hf1⟩ := bcell hb
  have z1 := hb.size
  try simp only [World.size_alloc, World.size_setCell, World.size_drew] at z1
  have hB1 : Below w.heap.size w w1 := below_seq (by repeat (first | exact Below.refl _ _ | refine balloc ?_ _ | refine Below.drew ?_ | refine below_drewN ?_ _ | refine below_set ?_ (by first | omega | (dsimp only; omega)) _)) hb
  clear hb
  go_wp2_with fail
  refine (h2.out _).mono ?_; rintro e w' ⟨rfl, rfl⟩
  go_wp2_with fail
  refine (error_same E2 1 _ (hE.below (by repeat (first | exact hB1 | exact Below.refl _ _ | refine balloc ?_ _ | refine Below.drew ?_ | refine below_drewN ?_ _ | refine below_set ?_ (by first | omega | (dsimp only; omega)) _))) e2).mono ?_; rintro e w2 ⟨rfl, hb⟩
  obtain ⟨hc2, hf2⟩ := bcell hb
  have z2 := hb.size
  try simp only [World.size_alloc, World.size_setCell, World.size_drew] at z2
  have hB2 : Below w.heap.size w w2 := below_seq (by repeat (first | exact hB1 | exact Below.refl _ _ | refine balloc ?_ _ | refine Below.drew ?_ | refine below_drewN ?_ _ | refine below_set ?_ (by first | omega | (dsimp only; omega)) _)) hb
  clear hb
  go_wp2_with fail
  refine (refRoot_c X _ (by omega) (by omega)).mono ?_; rintro e w' ⟨rfl, rfl⟩
  rw [hW.out]
  go_wp2_with fail
  refine (h3.out _).mono ?_; rintro e w' ⟨rfl, rfl⟩
  go_wp2_with fail
  refine (error_same E3 0 _ (hE.below (by repeat (first | exact hB2 | exact Below.refl _ _ | refine balloc ?_ _ | refine Below.drew ?_ | refine below_drewN ?_ _ | refine below_set ?_ (by first | omega | (dsimp only; omega)) _))) e3).mono ?_; rintro e w3 ⟨rfl, hb⟩
  obtain ⟨hc3, hf3⟩ := bcell hb
  have z3 := hb.size
  try simp only [World.size_alloc, World.size_setCell, World.size_drew] at z3
  have hB3 : Below w.heap.size w w3 := below_seq (by repeat (first | exact hB2 | exact Below.refl _ _ | refine balloc ?_ _ | refine Below.drew ?_ | refine below_drewN ?_ _ | refine below_set ?_ (by first | omega | (dsimp only; omega)) _)) hb
  clear hb
  go_wp2
  go_ret
  exact ⟨rfl, (by repeat (first | exact hB3 | exact Below.refl _ _ | refine balloc ?_ _ | refine Below.drew ?_ | refine below_drewN ?_ _ | refine below_set ?_ (by first | omega | (dsimp only; omega)) _))⟩
set_option maxHeartbeats 4000000 in
theorem pt_6 (a b n : Int) (w : World) (hE : ErrAt w) (a0 : -9223372036854775808 ≤ a) (a1 : a ≤ 9223372036854775807) (b0 : -9223372036854775808 ≤ b) (b1 : b ≤ 9223372036854775807) (n0 : -9223372036854775808 ≤ n) (n1 : n ≤ 9223372036854775807) (X Y A S M : Int) (x0 : 0 ≤ X) (x1 : X < 4051) (y0 : 0 ≤ Y) (y1 : Y < 4051) (p0 : 0 ≤ X * Y) (p1 : X * Y ≤ 16402500) (hX : Hid (a % 4051 = X)) (hY : Hid (b % 4051 = Y)) (oX : Hid (pOf a = X)) (hA : Hid (pAdd a b = A)) (sA : (X + Y) % 4051 = A) (hS : Hid (pSub a b = S)) (sS : Hid ((X - Y) % 4051 = S)) (hM : Hid (pMul a b = M)) (sM : X * Y % 4051 = M) (K1 : Int) (E1 E2 E3 : Value) (h1 : Hid (∀ w : World, Calls Tryd.prog 62 #[.int .i64 a] w fun e w' => e = .returned (.tuple #[.int .i64 0, E1]) ∧ w = w')) (e1 : Hid (E1 = errV 5)) (hx : (X == 0) = true) (K2 : Int) (h2 : Hid (∀ w : World, Calls Tryd.prog 64 #[.int .i64 a, .int .i64 n] w fun e w' => e = .returned (.tuple #[.int .i64 K2, E2]) ∧ w = w')) (e2 : Hid (E2 = errV 0)) (hn : 0 ≤ n) (t2 : Hid (pPow X n.toNat = K2)) (W : Int) (hW : Hid (rRoot (X % 4051) = W)) (h3 : Hid (∀ w : World, Calls Tryd.prog 66 #[.int .i64 a] w fun e w' => e = .returned (.tuple #[.int .i64 W, E3]) ∧ w = w')) (e3 : Hid (E3 = errV 0)) (hw : 0 ≤ W) : Calls Tryd.prog 14 #[.int .i64 a, .int .i64 b, .int .i64 n] w fun e w' => e = .returned (.bool true) ∧ Below w.heap.size w w' := by
  go_enter Tryd.func14, Tryd.ntmps14
  go_wp2_with fail
  refine (refMod_e a 4051 X _ a0 a1 (by omega) (by omega) hX).mono ?_; rintro e w' ⟨rfl, rfl⟩
  go_wp2_with fail
  refine (refMod_e b 4051 Y _ b0 b1 (by omega) (by omega) hY).mono ?_; rintro e w' ⟨rfl, rfl⟩
  go_wp2_with fail
  refine (primeOf_c a _).mono ?_; rintro e w' ⟨rfl, rfl⟩
  rw [oX.out]
  go_wp2_with fail
  refine (primeAdd_c a b _).mono ?_; rintro e w' ⟨rfl, rfl⟩
  rw [hA.out]
  go_wp2_with fail
  refine (primeSub_c a b _).mono ?_; rintro e w' ⟨rfl, rfl⟩
  rw [hS.out]
  go_wp2_with fail
  refine (refMod_e (X - Y) 4051 S _ (by omega) (by omega) (by omega) (by omega) sS).mono ?_; rintro e w' ⟨rfl, rfl⟩
  go_wp2_with fail
  refine (primeMul_c a b _).mono ?_; rintro e w' ⟨rfl, rfl⟩
  rw [hM.out]
  go_wp2_with fail
  refine (h1.out _).mono ?_; rintro e w' ⟨rfl, rfl⟩
  go_wp2_with fail
  refine (error_same E1 5 _ (hE.below (by repeat (first | exact Below.refl _ _ | refine balloc ?_ _ | refine Below.drew ?_ | refine below_drewN ?_ _ | refine below_set ?_ (by first | omega | (dsimp only; omega)) _))) e1).mono ?_; rintro e w1 ⟨rfl, hb⟩
  obtain ⟨hc1, hf1⟩ := bcell hb
  have z1 := hb.size
  try simp only [World.size_alloc, World.size_setCell, World.size_drew] at z1
  have hB1 : Below w.heap.size w w1 := below_seq (by repeat (first | exact Below.refl _ _ | refine balloc ?_ _ | refine Below.drew ?_ | refine below_drewN ?_ _ | refine below_set ?_ (by first | omega | (dsimp only; omega)) _)) hb
  clear hb
  go_wp2_with fail
  refine (refPower_p X n K2 _ x0 x1 hn n1 t2).mono ?_; rintro e w' ⟨rfl, rfl⟩
  go_wp2_with fail
  refine (h2.out _).mono ?_; rintro e w' ⟨rfl, rfl⟩
  go_wp2_with fail
  refine (error_same E2 0 _ (hE.below (by repeat (first | exact hB1 | exact Below.refl _ _ | refine balloc ?_ _ | refine Below.drew ?_ | refine below_drewN ?_ _ | refine below_set ?_ (by first | omega | (dsimp only; omega)) _))) e2).mono ?_; rintro e w2 ⟨rfl, hb⟩
  obtain ⟨hc2, hf2⟩ := bcell hb
  have z2 := hb.size
  try simp only [World.size_alloc, World.size_setCell, World.size_drew] at z2
  have hB2 : Below w.heap.size w w2 := below_seq (by repeat (first | exact hB1 | exact Below.refl _ _ | refine balloc ?_ _ | refine Below.drew ?_ | refine below_drewN ?_ _ | refine below_set ?_ (by first | omega | (dsimp only; omega)) _)) hb
  clear hb
  go_wp2_with fail
  refine (refRoot_c X _ (by omega) (by omega)).mono ?_; rintro e w' ⟨rfl, rfl⟩
  rw [hW.out]
  go_wp2_with fail
  refine (h3.out _).mono ?_; rintro e w' ⟨rfl, rfl⟩
  go_wp2_with fail
  refine (error_same E3 0 _ (hE.below (by repeat (first | exact hB2 | exact Below.refl _ _ | refine balloc ?_ _ | refine Below.drew ?_ | refine below_drewN ?_ _ | refine below_set ?_ (by first | omega | (dsimp only; omega)) _))) e3).mono ?_; rintro e w3 ⟨rfl, hb⟩
  obtain ⟨hc3, hf3⟩ := bcell hb
  have z3 := hb.size
  try simp only [World.size_alloc, World.size_setCell, World.size_drew] at z3
  have hB3 : Below w.heap.size w w3 := below_seq (by repeat (first | exact hB2 | exact Below.refl _ _ | refine balloc ?_ _ | refine Below.drew ?_ | refine below_drewN ?_ _ | refine below_set ?_ (by first | omega | (dsimp only; omega)) _)) hb
  clear hb
  go_wp2
  go_ret
  exact ⟨rfl, (by repeat (first | exact hB3 | exact Below.refl _ _ | refine balloc ?_ _ | refine Below.drew ?_ | refine below_drewN ?_ _ | refine below_set ?_ (by first | omega | (dsimp only; omega)) _))⟩
set_option maxHeartbeats 4000000 in
theorem pt_7 (a b n : Int) (w : World) (hE : ErrAt w) (a0 : -9223372036854775808 ≤ a) (a1 : a ≤ 9223372036854775807) (b0 : -9223372036854775808 ≤ b) (b1 : b ≤ 9223372036854775807) (n0 : -9223372036854775808 ≤ n) (n1 : n ≤ 9223372036854775807) (X Y A S M : Int) (x0 : 0 ≤ X) (x1 : X < 4051) (y0 : 0 ≤ Y) (y1 : Y < 4051) (p0 : 0 ≤ X * Y) (p1 : X * Y ≤ 16402500) (hX : Hid (a % 4051 = X)) (hY : Hid (b % 4051 = Y)) (oX : Hid (pOf a = X)) (hA : Hid (pAdd a b = A)) (sA : (X + Y) % 4051 = A) (hS : Hid (pSub a b = S)) (sS : Hid ((X - Y) % 4051 = S)) (hM : Hid (pMul a b = M)) (sM : X * Y % 4051 = M) (K1 : Int) (E1 E2 E3 : Value) (h1 : Hid (∀ w : World, Calls Tryd.prog 62 #[.int .i64 a] w fun e w' => e = .returned (.tuple #[.int .i64 K1, E1]) ∧ w = w')) (e1 : Hid (E1 = errV 0)) (hx : (X == 0) = false) (xp : 1 ≤ X) (t1 : Hid (pInv X = K1)) (K2 : Int) (h2 : Hid (∀ w : World, Calls Tryd.prog 64 #[.int .i64 a, .int .i64 n] w fun e w' => e = .returned (.tuple #[.int .i64 K2, E2]) ∧ w = w')) (e2 : Hid (E2 = errV 0)) (hn : 0 ≤ n) (t2 : Hid (pPow X n.toNat = K2)) (W : Int) (hW : Hid (rRoot (X % 4051) = W)) (h3 : Hid (∀ w : World, Calls Tryd.prog 66 #[.int .i64 a] w fun e w' => e = .returned (.tuple #[.int .i64 W, E3]) ∧ w = w')) (e3 : Hid (E3 = errV 0)) (hw : 0 ≤ W) : Calls Tryd.prog 14 #[.int .i64 a, .int .i64 b, .int .i64 n] w fun e w' => e = .returned (.bool true) ∧ Below w.heap.size w w' := by
  go_enter Tryd.func14, Tryd.ntmps14
  go_wp2_with fail
  refine (refMod_e a 4051 X _ a0 a1 (by omega) (by omega) hX).mono ?_; rintro e w' ⟨rfl, rfl⟩
  go_wp2_with fail
  refine (refMod_e b 4051 Y _ b0 b1 (by omega) (by omega) hY).mono ?_; rintro e w' ⟨rfl, rfl⟩
  go_wp2_with fail
  refine (primeOf_c a _).mono ?_; rintro e w' ⟨rfl, rfl⟩
  rw [oX.out]
  go_wp2_with fail
  refine (primeAdd_c a b _).mono ?_; rintro e w' ⟨rfl, rfl⟩
  rw [hA.out]
  go_wp2_with fail
  refine (primeSub_c a b _).mono ?_; rintro e w' ⟨rfl, rfl⟩
  rw [hS.out]
  go_wp2_with fail
  refine (refMod_e (X - Y) 4051 S _ (by omega) (by omega) (by omega) (by omega) sS).mono ?_; rintro e w' ⟨rfl, rfl⟩
  go_wp2_with fail
  refine (primeMul_c a b _).mono ?_; rintro e w' ⟨rfl, rfl⟩
  rw [hM.out]
  go_wp2_with fail
  refine (refTurn_p X _ xp x1).mono ?_; rintro e w' ⟨rfl, rfl⟩
  rw [t1.out]
  go_wp2_with fail
  refine (h1.out _).mono ?_; rintro e w' ⟨rfl, rfl⟩
  go_wp2_with fail
  refine (error_same E1 0 _ (hE.below (by repeat (first | exact Below.refl _ _ | refine balloc ?_ _ | refine Below.drew ?_ | refine below_drewN ?_ _ | refine below_set ?_ (by first | omega | (dsimp only; omega)) _))) e1).mono ?_; rintro e w1 ⟨rfl, hb⟩
  obtain ⟨hc1, hf1⟩ := bcell hb
  have z1 := hb.size
  try simp only [World.size_alloc, World.size_setCell, World.size_drew] at z1
  have hB1 : Below w.heap.size w w1 := below_seq (by repeat (first | exact Below.refl _ _ | refine balloc ?_ _ | refine Below.drew ?_ | refine below_drewN ?_ _ | refine below_set ?_ (by first | omega | (dsimp only; omega)) _)) hb
  clear hb
  go_wp2_with fail
  refine (refPower_p X n K2 _ x0 x1 hn n1 t2).mono ?_; rintro e w' ⟨rfl, rfl⟩
  go_wp2_with fail
  refine (h2.out _).mono ?_; rintro e w' ⟨rfl, rfl⟩
  go_wp2_with fail
  refine (error_same E2 0 _ (hE.below (by repeat (first | exact hB1 | exact Below.refl _ _ | refine balloc ?_ _ | refine Below.drew ?_ | refine below_drewN ?_ _ | refine below_set ?_ (by first | omega | (dsimp only; omega)) _))) e2).mono ?_; rintro e w2 ⟨rfl, hb⟩
  obtain ⟨hc2, hf2⟩ := bcell hb
  have z2 := hb.size
  try simp only [World.size_alloc, World.size_setCell, World.size_drew] at z2
  have hB2 : Below w.heap.size w w2 := below_seq (by repeat (first | exact hB1 | exact Below.refl _ _ | refine balloc ?_ _ | refine Below.drew ?_ | refine below_drewN ?_ _ | refine below_set ?_ (by first | omega | (dsimp only; omega)) _)) hb
  clear hb
  go_wp2_with fail
  refine (refRoot_c X _ (by omega) (by omega)).mono ?_; rintro e w' ⟨rfl, rfl⟩
  rw [hW.out]
  go_wp2_with fail
  refine (h3.out _).mono ?_; rintro e w' ⟨rfl, rfl⟩
  go_wp2_with fail
  refine (error_same E3 0 _ (hE.below (by repeat (first | exact hB2 | exact Below.refl _ _ | refine balloc ?_ _ | refine Below.drew ?_ | refine below_drewN ?_ _ | refine below_set ?_ (by first | omega | (dsimp only; omega)) _))) e3).mono ?_; rintro e w3 ⟨rfl, hb⟩
  obtain ⟨hc3, hf3⟩ := bcell hb
  have z3 := hb.size
  try simp only [World.size_alloc, World.size_setCell, World.size_drew] at z3
  have hB3 : Below w.heap.size w w3 := below_seq (by repeat (first | exact hB2 | exact Below.refl _ _ | refine balloc ?_ _ | refine Below.drew ?_ | refine below_drewN ?_ _ | refine below_set ?_ (by first | omega | (dsimp only; omega)) _)) hb
  clear hb
  go_wp2
  go_ret
  exact ⟨rfl, (by repeat (first | exact hB3 | exact Below.refl _ _ | refine balloc ?_ _ | refine Below.drew ?_ | refine below_drewN ?_ _ | refine below_set ?_ (by first | omega | (dsimp only; omega)) _))⟩
theorem one_le {x : Int} (h : 0 ≤ x) (z : (x == 0) = false) : 1 ≤ x := by
  have : x ≠ 0 := by simpa using z
  omega
theorem rRoot_neg {n : Int} (h : isSq n = false) : rRoot n = -1 := by unfold rRoot; rw [h]; rfl
theorem rRoot_pos {n : Int} (h : isSq n = true) : rRoot n = pRoot n := by unfold rRoot; rw [h]; rfl
theorem primeTells_law (a : Int) (ha : (Lit.int .i64 a).wf = true) (b : Int) (hb : (Lit.int .i64 b).wf = true) (n : Int) (hn : (Lit.int .i64 n).wf = true) (w : World) (hL : ErrAt w) : Calls Tryd.prog 14 #[.int .i64 a, .int .i64 b, .int .i64 n] w fun e w' => e = .returned (.bool true) ∧ Below w.heap.size w w' := by
  obtain ⟨a0, a1⟩ := wf64 ha
  obtain ⟨b0, b1⟩ := wf64 hb
  obtain ⟨n0, n1⟩ := wf64 hn
  have rx := r_pOf a
  have ry := r_pOf b
  have pm := mul_bd rx ry
  have sA : (pOf a + pOf b) % 4051 = pAdd a b := pAdd_of a b
  have sS : (pOf a - pOf b) % 4051 = pSub a b := pSub_of a b
  have sM : pOf a * pOf b % 4051 = pMul a b := pMul_of a b
  have hi : pInv (pOf a) = pInv a := by unfold pInv; exact pPow_of a _
  have hr : pOf a % 4051 = pOf a := by unfold pOf; omega
  cases z1 : (pOf a == 0)
  · by_cases z2 : 0 ≤ n
    · cases z3 : isSq a
      · skip
        exact pt_3 a b n w hL a0 a1 b0 b1 n0 n1 (pOf a) (pOf b) (pAdd a b) (pSub a b) (pMul a b) rx.1 rx.2 ry.1 ry.2 pm.1 pm.2 rfl rfl rfl rfl sA rfl sS rfl sM (pInv a) .nilIface .nilIface (errV 5) (fun w => primeInv_some a w z1) rfl z1 (one_le rx.1 z1) hi (pPow a n.toNat) (fun w => primePow_ok a n w z2 n1) rfl z2 (pPow_of a _) (-1) (by show _ = _; rw [hr, rRoot_neg (by rw [isSq_of]; exact z3)]) (fun w => primeSqrt_no a w z3) rfl (by omega)
      · skip
        exact pt_7 a b n w hL a0 a1 b0 b1 n0 n1 (pOf a) (pOf b) (pAdd a b) (pSub a b) (pMul a b) rx.1 rx.2 ry.1 ry.2 pm.1 pm.2 rfl rfl rfl rfl sA rfl sS rfl sM (pInv a) .nilIface .nilIface .nilIface (fun w => primeInv_some a w z1) rfl z1 (one_le rx.1 z1) hi (pPow a n.toNat) (fun w => primePow_ok a n w z2 n1) rfl z2 (pPow_of a _) (pRoot a) (by show _ = _; rw [hr, rRoot_pos (by rw [isSq_of]; exact z3), pRoot_of]) (fun w => primeSqrt_yes a w z3) rfl (pRoot_bd a).1
    · cases z3 : isSq a
      · skip
        exact pt_1 a b n w hL a0 a1 b0 b1 n0 n1 (pOf a) (pOf b) (pAdd a b) (pSub a b) (pMul a b) rx.1 rx.2 ry.1 ry.2 pm.1 pm.2 rfl rfl rfl rfl sA rfl sS rfl sM (pInv a) .nilIface (errV 1) (errV 5) (fun w => primeInv_some a w z1) rfl z1 (one_le rx.1 z1) hi 0 (fun w => primePow_bad a n w (by omega)) rfl (by omega) (-1) (by show _ = _; rw [hr, rRoot_neg (by rw [isSq_of]; exact z3)]) (fun w => primeSqrt_no a w z3) rfl (by omega)
      · skip
        exact pt_5 a b n w hL a0 a1 b0 b1 n0 n1 (pOf a) (pOf b) (pAdd a b) (pSub a b) (pMul a b) rx.1 rx.2 ry.1 ry.2 pm.1 pm.2 rfl rfl rfl rfl sA rfl sS rfl sM (pInv a) .nilIface (errV 1) .nilIface (fun w => primeInv_some a w z1) rfl z1 (one_le rx.1 z1) hi 0 (fun w => primePow_bad a n w (by omega)) rfl (by omega) (pRoot a) (by show _ = _; rw [hr, rRoot_pos (by rw [isSq_of]; exact z3), pRoot_of]) (fun w => primeSqrt_yes a w z3) rfl (pRoot_bd a).1
  · by_cases z2 : 0 ≤ n
    · cases z3 : isSq a
      · skip
        exact pt_2 a b n w hL a0 a1 b0 b1 n0 n1 (pOf a) (pOf b) (pAdd a b) (pSub a b) (pMul a b) rx.1 rx.2 ry.1 ry.2 pm.1 pm.2 rfl rfl rfl rfl sA rfl sS rfl sM 0 (errV 5) .nilIface (errV 5) (fun w => primeInv_none a w z1) rfl z1 (pPow a n.toNat) (fun w => primePow_ok a n w z2 n1) rfl z2 (pPow_of a _) (-1) (by show _ = _; rw [hr, rRoot_neg (by rw [isSq_of]; exact z3)]) (fun w => primeSqrt_no a w z3) rfl (by omega)
      · skip
        exact pt_6 a b n w hL a0 a1 b0 b1 n0 n1 (pOf a) (pOf b) (pAdd a b) (pSub a b) (pMul a b) rx.1 rx.2 ry.1 ry.2 pm.1 pm.2 rfl rfl rfl rfl sA rfl sS rfl sM 0 (errV 5) .nilIface .nilIface (fun w => primeInv_none a w z1) rfl z1 (pPow a n.toNat) (fun w => primePow_ok a n w z2 n1) rfl z2 (pPow_of a _) (pRoot a) (by show _ = _; rw [hr, rRoot_pos (by rw [isSq_of]; exact z3), pRoot_of]) (fun w => primeSqrt_yes a w z3) rfl (pRoot_bd a).1
    · cases z3 : isSq a
      · skip
        exact pt_0 a b n w hL a0 a1 b0 b1 n0 n1 (pOf a) (pOf b) (pAdd a b) (pSub a b) (pMul a b) rx.1 rx.2 ry.1 ry.2 pm.1 pm.2 rfl rfl rfl rfl sA rfl sS rfl sM 0 (errV 5) (errV 1) (errV 5) (fun w => primeInv_none a w z1) rfl z1 0 (fun w => primePow_bad a n w (by omega)) rfl (by omega) (-1) (by show _ = _; rw [hr, rRoot_neg (by rw [isSq_of]; exact z3)]) (fun w => primeSqrt_no a w z3) rfl (by omega)
      · skip
        exact pt_4 a b n w hL a0 a1 b0 b1 n0 n1 (pOf a) (pOf b) (pAdd a b) (pSub a b) (pMul a b) rx.1 rx.2 ry.1 ry.2 pm.1 pm.2 rfl rfl rfl rfl sA rfl sS rfl sM 0 (errV 5) (errV 1) .nilIface (fun w => primeInv_none a w z1) rfl z1 0 (fun w => primePow_bad a n w (by omega)) rfl (by omega) (pRoot a) (by show _ = _; rw [hr, rRoot_pos (by rw [isSq_of]; exact z3), pRoot_of]) (fun w => primeSqrt_yes a w z3) rfl (pRoot_bd a).1
end Go.Proofs.YtijemkecjohagaaDoor
