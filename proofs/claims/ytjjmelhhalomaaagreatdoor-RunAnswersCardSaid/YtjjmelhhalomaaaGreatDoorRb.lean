/- Walks of the document's answer, spots: what is wrong with one, Lift, Neg, Slope, Add. -/
import Derived.Test.YtjjmelhhalomaaaGreatDoorRa
import Derived.Test.YtjjmelhhalomaaaGreatDoorKe
import Derived.Test.YtjjmelhhalomaaaGreatDoorSf
import Derived.Test.YtjjmelhhalomaaaGreatDoorLf
namespace Go.Proofs.YtjjmelhhalomaaaGreatDoor
open Go.RowKit
set_option maxRecDepth 100000
set_option linter.unusedVariables false
set_option linter.unusedSimpArgs false
theorem refRoot_e (n v : Int) (w : World) (n0 : -9223372036854775808 ≤ n) (n1 : n ≤ 9223372036854775807) (h : Hid (rRoot (n % 4051) = v)) : Calls Tryz.prog 113 #[.int .i64 n] w fun e w' => e = .returned (.int .i64 v) ∧ w = w' := by
  have := refRoot_c n w n0 n1; rw [h.out] at this; exact this
theorem refTurn_e (n I : Int) (w : World) (h1 : 1 ≤ n) (h2 : n < 4051) (h : Hid (pInv n = I)) : Calls Tryz.prog 155 #[.int .i64 n, .int .i64 4051] w fun e w' => e = .returned (.int .i64 I) ∧ w = w' := by
  have := refTurn_p n w h1 h2; rw [h.out] at this; exact this
theorem height_ref {x : Int} : (x * x % 4051 * x + x) % 4051 % 4051 = height x := by
  unfold height pAdd pMul; omega
set_option maxHeartbeats 1000000 in
theorem refLift_core (x V : Int) (w : World) (x0 : 0 ≤ x) (x1 : x < 4051) (p0 : 0 ≤ x * x) (p1 : x * x ≤ 16402500) (q0 : 0 ≤ x * x % 4051 * x) (q1 : x * x % 4051 * x ≤ 16402500) (h : Hid (rRoot ((x * x % 4051 * x + x) % 4051) = V)) (hV : 0 ≤ V) : Calls Tryz.prog 69 #[.int .i64 x] w fun e w' => e = .returned (.tuple #[spV ⟨x, V, false⟩, .bool true]) ∧ Below w.heap.size w w' := by
  go_enter Tryz.func69, Tryz.ntmps69
  go_wp2_with fail
  refine (refRoot_e (x * x % 4051 * x + x) V _ (by omega) (by omega) h).mono ?_; rintro e w' ⟨rfl, rfl⟩
  go_wp2
  refine bodyPost_ret (v := .tuple #[spV ⟨x, V, false⟩, .bool true]) (by simp [results, Tryz.results69, go_sem]) rfl ⟨rfl, (by repeat (first | exact Below.refl _ _ | refine balloc ?_ _ | refine Below.drew ?_ | refine below_drewN ?_ _ | refine below_set ?_ (by first | omega | (dsimp only; omega)) _))⟩
set_option maxHeartbeats 1000000 in
theorem refLift_none (x V : Int) (w : World) (x0 : 0 ≤ x) (x1 : x < 4051) (p0 : 0 ≤ x * x) (p1 : x * x ≤ 16402500) (q0 : 0 ≤ x * x % 4051 * x) (q1 : x * x % 4051 * x ≤ 16402500) (h : Hid (rRoot ((x * x % 4051 * x + x) % 4051) = V)) (hV : V < 0) : Calls Tryz.prog 69 #[.int .i64 x] w fun e w' => e = .returned (.tuple #[spV ⟨0, 0, false⟩, .bool false]) ∧ Below w.heap.size w w' := by
  go_enter Tryz.func69, Tryz.ntmps69
  go_wp2_with fail
  refine (refRoot_e (x * x % 4051 * x + x) V _ (by omega) (by omega) h).mono ?_; rintro e w' ⟨rfl, rfl⟩
  go_wp2
  refine bodyPost_ret (v := .tuple #[spV ⟨0, 0, false⟩, .bool false]) (by simp [results, Tryz.results69, go_sem]) rfl ⟨rfl, (by repeat (first | exact Below.refl _ _ | refine balloc ?_ _ | refine Below.drew ?_ | refine below_drewN ?_ _ | refine below_set ?_ (by first | omega | (dsimp only; omega)) _))⟩
theorem lift_bd {x : Int} (x0 : 0 ≤ x) (x1 : x < 4051) : (0 ≤ x * x ∧ x * x ≤ 16402500) ∧ (0 ≤ x * x % 4051 * x ∧ x * x % 4051 * x ≤ 16402500) :=
  ⟨sq_bd x0 x1, mul_bd ⟨by omega, by omega⟩ ⟨x0, x1⟩⟩
theorem refLift_y (x : Int) (l : Sp) (w : World) (h : inside x = true) (hs : isSq (height x) = true) (hl : Hid (lifted x = l)) : Calls Tryz.prog 69 #[.int .i64 x] w fun e w' => e = .returned (.tuple #[spV l, .bool true]) ∧ Below w.heap.size w w' := by
  have hb := ins_iff.mp h
  have b := lift_bd hb.1 hb.2
  have := refLift_core x (pRoot (height x)) w hb.1 hb.2 b.1.1 b.1.2 b.2.1 b.2.2 (by
    show _ = _
    have : (x * x % 4051 * x + x) % 4051 = height x := by rw [← height_ref, Int.emod_emod_of_dvd _ (Int.dvd_refl _)]
    rw [this]; unfold rRoot; rw [if_pos hs]) (pRoot_bd _).1
  rw [← hl.out]; exact this
theorem refLift_n (x : Int) (w : World) (h : inside x = true) (hs : isSq (height x) = false) : Calls Tryz.prog 69 #[.int .i64 x] w fun e w' => e = .returned (.tuple #[spV ⟨0, 0, false⟩, .bool false]) ∧ Below w.heap.size w w' := by
  have hb := ins_iff.mp h
  have b := lift_bd hb.1 hb.2
  exact refLift_none x (-1) w hb.1 hb.2 b.1.1 b.1.2 b.2.1 b.2.2 (by
    show _ = _
    have : (x * x % 4051 * x + x) % 4051 = height x := by rw [← height_ref, Int.emod_emod_of_dvd _ (Int.dvd_refl _)]
    rw [this]; unfold rRoot; rw [hs]; rfl) (by decide)
set_option maxHeartbeats 1000000 in
theorem refSlope_1 (x y u v : Int) (f g : Bool) (w : World) (h : (x == u) = true) (h2 : (y != v) = true) : Calls Tryz.prog 116 #[.agg #[.int .i64 x, .int .i64 y, .bool f], .agg #[.int .i64 u, .int .i64 v, .bool g]] w fun e w' => e = .returned (.tuple #[.int .i64 0, .bool false]) ∧ Below w.heap.size w w' := by
  go_enter Tryz.func116, Tryz.ntmps116
  go_wp2
  go_ret2
  exact ⟨rfl, (by repeat (first | exact Below.refl _ _ | refine balloc ?_ _ | refine Below.drew ?_ | refine below_drewN ?_ _ | refine below_set ?_ (by first | omega | (dsimp only; omega)) _))⟩
set_option maxHeartbeats 1000000 in
theorem refSlope_2 (x y u v : Int) (f g : Bool) (w : World) (h : (x == u) = true) (h2 : (y != v) = false) (h3 : (y == 0) = true) : Calls Tryz.prog 116 #[.agg #[.int .i64 x, .int .i64 y, .bool f], .agg #[.int .i64 u, .int .i64 v, .bool g]] w fun e w' => e = .returned (.tuple #[.int .i64 0, .bool false]) ∧ Below w.heap.size w w' := by
  go_enter Tryz.func116, Tryz.ntmps116
  go_wp2
  go_ret2
  exact ⟨rfl, (by repeat (first | exact Below.refl _ _ | refine balloc ?_ _ | refine Below.drew ?_ | refine below_drewN ?_ _ | refine below_set ?_ (by first | omega | (dsimp only; omega)) _))⟩
set_option maxHeartbeats 2000000 in
theorem refSlope_3 (x y u v I V : Int) (f g : Bool) (w : World) (h : (x == u) = true) (h2 : (y != v) = false) (h3 : (y == 0) = false) (x0 : 0 ≤ x) (x1 : x < 4051) (y0 : 0 ≤ y) (y1 : y < 4051) (m0 : 0 ≤ 3 * x * x) (m1 : 3 * x * x ≤ 49207500) (d : 1 ≤ 2 * y % 4051) (hI : Hid (pInv (2 * y % 4051) = I)) (p0 : 0 ≤ (3 * x * x + 1) % 4051 * I) (p1 : (3 * x * x + 1) % 4051 * I ≤ 16402500) (hV : (3 * x * x + 1) % 4051 * I % 4051 = V) : Calls Tryz.prog 116 #[.agg #[.int .i64 x, .int .i64 y, .bool f], .agg #[.int .i64 u, .int .i64 v, .bool g]] w fun e w' => e = .returned (.tuple #[.int .i64 V, .bool true]) ∧ Below w.heap.size w w' := by
  subst hV
  go_enter Tryz.func116, Tryz.ntmps116
  go_wp2
  go_quiet (first | (go_at_call 155; exact quiet_left (refTurn_e (2 * y % 4051) I _ d (by omega) hI)))
  go_wp2
  go_ret2
  exact ⟨rfl, by repeat (first | exact Below.refl _ _ | refine below_drewN ?_ _ | refine Below.drew ?_ | refine balloc ?_ _)⟩
set_option maxHeartbeats 2000000 in
theorem refSlope_4 (x y u v A B I V : Int) (f g : Bool) (w : World) (h : (x == u) = false) (x0 : 0 ≤ x) (x1 : x < 4051) (y0 : 0 ≤ y) (y1 : y < 4051) (u0 : 0 ≤ u) (u1 : u < 4051) (v0 : 0 ≤ v) (v1 : v < 4051) (hA : Hid ((y - v) % 4051 = A)) (hB : Hid ((x - u) % 4051 = B)) (b0 : 1 ≤ B) (b1 : B < 4051) (hI : Hid (pInv B = I)) (p0 : 0 ≤ A * I) (p1 : A * I ≤ 16402500) (hV : A * I % 4051 = V) : Calls Tryz.prog 116 #[.agg #[.int .i64 x, .int .i64 y, .bool f], .agg #[.int .i64 u, .int .i64 v, .bool g]] w fun e w' => e = .returned (.tuple #[.int .i64 V, .bool true]) ∧ Below w.heap.size w w' := by
  subst hV
  go_enter Tryz.func116, Tryz.ntmps116
  go_wp2
  go_quiet (first | (go_at_call 155; exact quiet_left (refTurn_e B I _ b0 b1 hI)) | (go_at_call_of 19 (Value.int .i64 (y - v)); exact quiet_left (refMod_e (y - v) 4051 A _ (by omega) (by omega) (by omega) (by omega) hA)) | (go_at_call 19; exact quiet_left (refMod_e (x - u) 4051 B _ (by omega) (by omega) (by omega) (by omega) hB)))
  go_wp2
  go_ret2
  exact ⟨rfl, by repeat (first | exact Below.refl _ _ | refine below_drewN ?_ _ | refine Below.drew ?_ | refine balloc ?_ _)⟩
set_option maxHeartbeats 1000000 in
theorem refAdd_1 (a b : Sp) (w : World) (h : a.far = true) : Calls Tryz.prog 114 #[spV a, spV b] w fun e w' => e = .returned (spV b) ∧ Below w.heap.size w w' := by
  go_enter Tryz.func114, Tryz.ntmps114
  go_wp2
  refine bodyPost_ret (v := spV b) (by simp [results, Tryz.results114, go_sem]) rfl ⟨rfl, ?_⟩
  repeat (first | exact Below.refl _ _ | refine Below.drew ?_ | refine balloc ?_ _ | refine below_set ?_ (by simp) _)
set_option maxHeartbeats 1000000 in
theorem refAdd_2 (a b : Sp) (w : World) (h : a.far = false) (h2 : b.far = true) : Calls Tryz.prog 114 #[spV a, spV b] w fun e w' => e = .returned (spV a) ∧ Below w.heap.size w w' := by
  go_enter Tryz.func114, Tryz.ntmps114
  go_wp2
  refine bodyPost_ret (v := spV a) (by simp [results, Tryz.results114, go_sem, h]) rfl ⟨rfl, ?_⟩
  repeat (first | exact Below.refl _ _ | refine Below.drew ?_ | refine balloc ?_ _ | refine below_set ?_ (by simp) _)
set_option maxHeartbeats 1000000 in
theorem refAdd_3 (x y u v : Int) (w : World) (hs : Hid (∀ w : World, Calls Tryz.prog 116 #[.agg #[.int .i64 x, .int .i64 y, .bool false], .agg #[.int .i64 u, .int .i64 v, .bool false]] w fun e w' => e = .returned (.tuple #[.int .i64 0, .bool false]) ∧ Below w.heap.size w w')) : Calls Tryz.prog 114 #[.agg #[.int .i64 x, .int .i64 y, .bool false], .agg #[.int .i64 u, .int .i64 v, .bool false]] w fun e w' => e = .returned (spV ⟨0, 0, true⟩) ∧ Below w.heap.size w w' := by
  go_enter Tryz.func114, Tryz.ntmps114
  go_wp2_with fail
  refine (hs.out _).mono ?_; rintro e w1 ⟨rfl, hb⟩
  obtain ⟨hc1, hf1⟩ := bcell hb
  have z1 := hb.size
  try simp only [World.size_alloc, World.size_setCell, World.size_drew] at z1
  have s1_0 : w.heap.size < w1.heap.size := by omega
  have s1_1 : w.heap.size + 1 < w1.heap.size := by omega
  have s1_2 : w.heap.size + 1 + 1 < w1.heap.size := by omega
  have hB1 : Below w.heap.size w w1 := below_seq (by repeat (first | exact Below.refl _ _ | refine balloc ?_ _ | refine Below.drew ?_ | refine below_drewN ?_ _ | refine below_set ?_ (by first | omega | (dsimp only; omega)) _)) hb
  clear hb
  have r0 : w1.cell? ⟨w.heap.size + 1 + 1, 0, none⟩ = some (.int .i64 0) := by go_simp
  have r1 : w1.cell? ⟨w.heap.size + 1 + 1, 1, none⟩ = some (.int .i64 0) := by go_simp
  have r2 : w1.cell? ⟨w.heap.size + 1 + 1, 2, none⟩ = some (.bool false) := by go_simp
  go_wp2
  have k := set3_cell (w := w1) (x := .int .i64 ((⟨0, 0, true⟩ : Sp)).x) (y := .int .i64 ((⟨0, 0, true⟩ : Sp)).y) (z := .bool ((⟨0, 0, true⟩ : Sp)).far) r0 r1 r2
  refine bodyPost_ret (v := spV ((⟨0, 0, true⟩ : Sp))) (by simp [results, Tryz.results114, go_sem, k.1, k.2.1, k.2.2]) rfl ⟨rfl, set3_below (by repeat (first | exact hB1 | exact Below.refl _ _ | refine balloc ?_ _ | refine Below.drew ?_ | refine below_drewN ?_ _ | refine below_set ?_ (by first | omega | (dsimp only; omega)) _)) (by omega)⟩
set_option maxHeartbeats 2000000 in
theorem refAdd_4 (x y u v s X Y : Int) (w : World) (x0 : 0 ≤ x) (x1 : x < 4051) (y0 : 0 ≤ y) (y1 : y < 4051) (u0 : 0 ≤ u) (u1 : u < 4051) (s0 : 0 ≤ s * s) (s2 : s * s ≤ 16402500) (hs : Hid (∀ w : World, Calls Tryz.prog 116 #[.agg #[.int .i64 x, .int .i64 y, .bool false], .agg #[.int .i64 u, .int .i64 v, .bool false]] w fun e w' => e = .returned (.tuple #[.int .i64 s, .bool true]) ∧ Below w.heap.size w w')) (hX : Hid ((s * s - x - u) % 4051 = X)) (g0 : 0 ≤ X) (g1 : X < 4051) (q0 : -16402500 ≤ s * (x - X)) (q1 : s * (x - X) ≤ 16402500) (hY : Hid ((s * (x - X) - y) % 4051 = Y)) : Calls Tryz.prog 114 #[.agg #[.int .i64 x, .int .i64 y, .bool false], .agg #[.int .i64 u, .int .i64 v, .bool false]] w fun e w' => e = .returned (spV ⟨X, Y, false⟩) ∧ Below w.heap.size w w' := by
  go_enter Tryz.func114, Tryz.ntmps114
  go_wp2_with fail
  refine (hs.out _).mono ?_; rintro e w1 ⟨rfl, hb⟩
  obtain ⟨hc1, hf1⟩ := bcell hb
  have z1 := hb.size
  try simp only [World.size_alloc, World.size_setCell, World.size_drew] at z1
  have s1_0 : w.heap.size < w1.heap.size := by omega
  have s1_1 : w.heap.size + 1 < w1.heap.size := by omega
  have s1_2 : w.heap.size + 1 + 1 < w1.heap.size := by omega
  have hB1 : Below w.heap.size w w1 := below_seq (by repeat (first | exact Below.refl _ _ | refine balloc ?_ _ | refine Below.drew ?_ | refine below_drewN ?_ _ | refine below_set ?_ (by first | omega | (dsimp only; omega)) _)) hb
  clear hb
  go_wp2_with fail
  refine (refMod_e (s * s - x - u) 4051 X _ (by omega) (by omega) (by omega) (by omega) hX).mono ?_; rintro e w' ⟨rfl, rfl⟩
  go_wp2_with fail
  refine (refMod_e (s * (x - X) - y) 4051 Y _ (by omega) (by omega) (by omega) (by omega) hY).mono ?_; rintro e w' ⟨rfl, rfl⟩
  have r0 : w1.cell? ⟨w.heap.size + 1 + 1, 0, none⟩ = some (.int .i64 0) := by go_simp
  have r1 : w1.cell? ⟨w.heap.size + 1 + 1, 1, none⟩ = some (.int .i64 0) := by go_simp
  have r2 : w1.cell? ⟨w.heap.size + 1 + 1, 2, none⟩ = some (.bool false) := by go_simp
  go_wp2
  have k := set3_cell (w := w1) (x := .int .i64 ((⟨X, Y, false⟩ : Sp)).x) (y := .int .i64 ((⟨X, Y, false⟩ : Sp)).y) (z := .bool ((⟨X, Y, false⟩ : Sp)).far) r0 r1 r2
  refine bodyPost_ret (v := spV ((⟨X, Y, false⟩ : Sp))) (by simp [results, Tryz.results114, go_sem, k.1, k.2.1, k.2.2]) rfl ⟨rfl, set3_below (by repeat (first | exact hB1 | exact Below.refl _ _ | refine balloc ?_ _ | refine Below.drew ?_ | refine below_drewN ?_ _ | refine below_set ?_ (by first | omega | (dsimp only; omega)) _)) (by omega)⟩
theorem third_ref {s x y u : Int} : pSub (pMul s s) (x + u) = (s * s - x - u) % 4051 ∧ ∀ X, pSub (pMul s (pSub x X)) y = (s * (x - X) - y) % 4051 := by
  refine ⟨?_, fun X => ?_⟩
  · unfold pSub pMul; generalize s * s = q; omega
  · refine fi_inj (r_pSub _ _) ⟨by omega, by omega⟩ ?_
    rw [fi_pSub, fi_pMul, fi_pSub, fi_mod, fi_sub, fi_mul, fi_sub]
theorem slope_bd (a b : Sp) (s : Int) (h : sSlope a b = some s) : 0 ≤ s ∧ s < 4051 := by
  unfold sSlope at h
  split at h
  · rw [← Option.some.inj h]; exact r_pMul _ _
  · split at h
    · cases h
    · rw [← Option.some.inj h]; exact r_pMul _ _
theorem dbl_one {y : Int} (y0 : 0 ≤ y) (y1 : y < 4051) (h : y ≠ 0) : 1 ≤ 2 * y % 4051 := by
  rcases Int.lt_or_le 0 (2 * y % 4051) with c | c
  · exact c
  · exfalso
    have q : 2 * y % 4051 = 0 := Int.le_antisymm c (Int.emod_nonneg _ (by decide))
    have f : fi 2 * fi y = 0 := by rw [← fi_mul, ← fi_mod, q]; rfl
    rcases mul_zero_or f with g | g
    · exact absurd g (by decide)
    · exact h ((fi_zero_iff ⟨y0, y1⟩).mp g)
theorem tri_bd {x : Int} (x0 : 0 ≤ x) (x1 : x < 4051) : (0 ≤ 3 * x * x ∧ 3 * x * x ≤ 49207500) ∧ 0 ≤ (3 * x * x + 1) % 4051 ∧ (3 * x * x + 1) % 4051 < 4051 := by
  have h := sq_bd x0 x1
  have e : 3 * x * x = 3 * (x * x) := Int.mul_assoc _ _ _
  rw [e]
  generalize x * x = q at *
  omega
theorem tri_eq {x y s : Int} (h : pMul (pMul 3 (pMul x x) + 1) (pInv (2 * y)) = s) : (3 * x * x + 1) % 4051 * pInv (2 * y % 4051) % 4051 = s := by
  rw [← h]
  refine fi_inj ⟨Int.emod_nonneg _ (by decide), Int.emod_lt_of_pos _ (by decide)⟩ (r_pMul _ _) ?_
  rw [fi_mod, fi_mul, fi_mod, fi_pInv, fi_mod, Int.mul_assoc 3 x x, fi_add, fi_mul 3 (x * x), fi_mul x x, fi_pMul, fi_pInv, fi_add, fi_pMul, fi_pMul]
theorem refSlope_y (a b : Sp) (s : Int) (ha : Ok a) (hb : Ok b) (h : sSlope a b = some s) (w : World) : Calls Tryz.prog 116 #[.agg #[.int .i64 a.x, .int .i64 a.y, .bool false], .agg #[.int .i64 b.x, .int .i64 b.y, .bool false]] w fun e w' => e = .returned (.tuple #[.int .i64 s, .bool true]) ∧ Below w.heap.size w w' := by
  obtain ⟨x0, x1, y0, y1, -, -⟩ := ha
  obtain ⟨u0, u1, v0, v1, -, -⟩ := hb
  unfold sSlope at h
  split at h
  · next e =>
    have hB : pSub a.x b.x ≠ 0 := fun c => e (by unfold pSub at c; omega)
    have rB := r_pSub a.x b.x
    have pm := mul_bd (r_pSub a.y b.y) (r_pInv (pSub a.x b.x))
    have hV : pSub a.y b.y * pInv (pSub a.x b.x) % 4051 = s := by rw [← Option.some.inj h]; unfold pMul; rfl
    have hA : Hid ((a.y - b.y) % 4051 = pSub a.y b.y) := by show _ = _; unfold pSub; rfl
    have hBB : Hid ((a.x - b.x) % 4051 = pSub a.x b.x) := by show _ = _; unfold pSub; rfl
    have b1 : 1 ≤ pSub a.x b.x := by omega
    have hx : (a.x == b.x) = false := by simpa using e
    exact refSlope_4 a.x a.y b.x b.y (pSub a.y b.y) (pSub a.x b.x) (pInv (pSub a.x b.x)) s false false w hx x0 x1 y0 y1 u0 u1 v0 v1 hA hBB b1 rB.2 (Lib.hid rfl) pm.1 pm.2 hV
  · next e =>
    split at h
    · cases h
    · next e2 =>
      have exu : a.x = b.x := Classical.not_not.mp e
      have e3 : a.y = b.y ∧ a.y ≠ 0 := ⟨Classical.not_not.mp fun c => e2 (.inl c), fun c => e2 (.inr c)⟩
      have t := tri_bd x0 x1
      have pm := mul_bd t.2 (r_pInv (2 * a.y % 4051))
      have hq : (a.x == b.x) = true := by simpa using exu
      have hr : (a.y != b.y) = false := by simpa using e3.1
      have ht : (a.y == 0) = false := by simpa using e3.2
      exact refSlope_3 a.x a.y b.x b.y (pInv (2 * a.y % 4051)) s false false w hq hr ht x0 x1 y0 y1 t.1.1 t.1.2 (dbl_one y0 y1 e3.2) (Lib.hid rfl) pm.1 pm.2 (tri_eq (Option.some.inj h))
theorem refSlope_n (a b : Sp) (ha : Ok a) (hb : Ok b) (h : sSlope a b = none) (w : World) : Calls Tryz.prog 116 #[.agg #[.int .i64 a.x, .int .i64 a.y, .bool false], .agg #[.int .i64 b.x, .int .i64 b.y, .bool false]] w fun e w' => e = .returned (.tuple #[.int .i64 0, .bool false]) ∧ Below w.heap.size w w' := by
  unfold sSlope at h
  split at h
  · cases h
  · next e =>
    have exu : a.x = b.x := Classical.not_not.mp e
    split at h
    · next e2 =>
      by_cases c : a.y = b.y
      · exact refSlope_2 a.x a.y b.x b.y false false w (by simpa using exu) (by simpa using c) (by simpa using e2.resolve_left (fun k => k c))
      · exact refSlope_1 a.x a.y b.x b.y false false w (by simpa using exu) (by simpa using c)
    · cases h
theorem refAdd_c (a b : Sp) (w : World) (ha : Ok a) (hb : Ok b) : Calls Tryz.prog 114 #[spV a, spV b] w fun e w' => e = .returned (spV (sSum a b)) ∧ Below w.heap.size w w' := by
  unfold sSum
  cases fa : a.far
  · cases fb : b.far
    · simp only [Bool.false_eq_true, if_false]
      cases hs : sSlope a b with
      | none =>
        have := refAdd_3 a.x a.y b.x b.y w (fun w => refSlope_n a b ha hb hs w)
        rw [show spV a = .agg #[.int .i64 a.x, .int .i64 a.y, .bool false] by rw [← fa], show spV b = .agg #[.int .i64 b.x, .int .i64 b.y, .bool false] by rw [← fb]]; exact this
      | some s =>
        have sb := slope_bd a b s hs
        have ss := sq_bd sb.1 sb.2
        have t := @third_ref s a.x a.y b.x
        have rX := r_pSub (pMul s s) (a.x + b.x)
        have hp : -16402500 ≤ s * (a.x - pSub (pMul s s) (a.x + b.x)) ∧ s * (a.x - pSub (pMul s s) (a.x + b.x)) ≤ 16402500 := by
          have d1 : -4050 ≤ a.x - pSub (pMul s s) (a.x + b.x) := by have := ha.x0; omega
          have d2 : a.x - pSub (pMul s s) (a.x + b.x) ≤ 4050 := by have := ha.x1; omega
          have l1 := Int.mul_le_mul_of_nonneg_left d1 sb.1
          have l2 := Int.mul_le_mul_of_nonneg_left d2 sb.1
          omega
        have := refAdd_4 a.x a.y b.x b.y s (pSub (pMul s s) (a.x + b.x)) (pSub (pMul s (pSub a.x (pSub (pMul s s) (a.x + b.x)))) a.y) w ha.x0 ha.x1 ha.y0 ha.y1 hb.x0 hb.x1 ss.1 ss.2 (fun w => refSlope_y a b s ha hb hs w) t.1.symm rX.1 rX.2 hp.1 hp.2 (t.2 _).symm
        rw [show spV a = .agg #[.int .i64 a.x, .int .i64 a.y, .bool false] by rw [← fa], show spV b = .agg #[.int .i64 b.x, .int .i64 b.y, .bool false] by rw [← fb]]; exact this
    · simp only [Bool.false_eq_true, if_false, if_true]
      exact refAdd_2 a b w fa fb
  · simp only [if_true]
    exact refAdd_1 a b w fa
theorem refAdd_e (a b c : Sp) (w : World) (ha : Ok a) (hb : Ok b) (h : Hid (sSum a b = c)) : Calls Tryz.prog 114 #[spV a, spV b] w fun e w' => e = .returned (spV c) ∧ Below w.heap.size w w' := by
  have := refAdd_c a b w ha hb; rw [h.out] at this; exact this
end Go.Proofs.YtjjmelhhalomaaaGreatDoor
