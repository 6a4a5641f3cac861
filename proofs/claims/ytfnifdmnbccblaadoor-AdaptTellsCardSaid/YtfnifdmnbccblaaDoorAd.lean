/- Walks of layer adapt. -/
import Derived.Test.YtfnifdmnbccblaaDoorSb
import Derived.Test.YtfnifdmnbccblaaDoorEq
import Derived.Test.YtfnifdmnbccblaaDoorKe
import Derived.Deep.DeepCutAuto
import Derived.Deep.RegionWith
namespace Go.Proofs.YtfnifdmnbccblaaDoor
open Go.RowKit
set_option maxRecDepth 100000
set_option linter.unusedVariables false
set_option linter.unusedSimpArgs false
set_option maxHeartbeats 1000000 in
theorem right_y (R : Sp) (S : Int) (w : World) (hF : FarAt w) (hR : Ok R) (s0 : 0 ≤ S) (s1 : S < 1013) : Calls Tryd.prog 99 #[slV R S] w fun e w' => e = .returned .nilIface ∧ Below w.heap.size w w' := by
  go_enter Tryd.func99, Tryd.ntmps99
  go_wp2_with fail
  refine (check_ok R _ (hF.below (by repeat (first | exact Below.refl _ _ | refine balloc ?_ _ | refine Below.drew ?_ | refine below_drewN ?_ _ | refine below_set ?_ (by first | omega | (dsimp only; omega)) _))) hR).mono ?_; rintro e w1 ⟨rfl, hb⟩
  obtain ⟨hc1, hf1⟩ := bcell hb
  have z1 := hb.size
  try simp only [World.size_alloc, World.size_setCell, World.size_drew] at z1
  have s1_0 : w.heap.size < w1.heap.size := by omega
  have hB1 : Below w.heap.size w w1 := below_seq (by repeat (first | exact Below.refl _ _ | refine balloc ?_ _ | refine Below.drew ?_ | refine below_drewN ?_ _ | refine below_set ?_ (by first | omega | (dsimp only; omega)) _)) hb
  clear hb
  go_wp2_with fail
  refine (rest_y S _ s0 s1).mono ?_; rintro e w' ⟨rfl, rfl⟩
  go_wp2
  go_ret
  exact ⟨rfl, (by repeat (first | exact hB1 | exact Below.refl _ _ | refine balloc ?_ _ | refine Below.drew ?_ | refine below_drewN ?_ _ | refine below_set ?_ (by first | omega | (dsimp only; omega)) _))⟩
set_option maxHeartbeats 1000000 in
theorem fill_y (R : Sp) (S t T : Int) (w : World) (hF : FarAt w) (hR : Ok R) (s0 : 0 ≤ S) (s1 : S < 1013) (t0 : 0 ≤ t) (t1 : t < 1013) (hT : (S + t) % 1013 = T) : Calls Tryd.prog 41 #[slV R S, .int .i64 t] w fun e w' => e = .returned (.tuple #[slV R T, .nilIface]) ∧ Below w.heap.size w w' := by
  subst hT
  go_enter Tryd.func41, Tryd.ntmps41
  go_wp2_with fail
  refine (right_y R S _ (hF.below (by repeat (first | exact Below.refl _ _ | refine balloc ?_ _ | refine Below.drew ?_ | refine below_drewN ?_ _ | refine below_set ?_ (by first | omega | (dsimp only; omega)) _))) hR s0 s1).mono ?_; rintro e w1 ⟨rfl, hb⟩
  obtain ⟨hc1, hf1⟩ := bcell hb
  have z1 := hb.size
  try simp only [World.size_alloc, World.size_setCell, World.size_drew] at z1
  have s1_0 : w.heap.size < w1.heap.size := by omega
  have s1_1 : w.heap.size + 1 < w1.heap.size := by omega
  have hB1 : Below w.heap.size w w1 := below_seq (by repeat (first | exact Below.refl _ _ | refine balloc ?_ _ | refine Below.drew ?_ | refine below_drewN ?_ _ | refine below_set ?_ (by first | omega | (dsimp only; omega)) _)) hb
  clear hb
  go_wp2_with fail
  refine (rest_y t _ t0 t1).mono ?_; rintro e w' ⟨rfl, rfl⟩
  have r0 : w1.cell? ⟨w.heap.size + 1, 0, none⟩ = some (.int .i64 0) := by go_simp
  have r1 : w1.cell? ⟨w.heap.size + 1, 1, none⟩ = some (.int .i64 0) := by go_simp
  have r2 : w1.cell? ⟨w.heap.size + 1, 2, none⟩ = some (.bool false) := by go_simp
  have r3 : w1.cell? ⟨w.heap.size + 1, 3, none⟩ = some (.int .i64 0) := by go_simp
  go_wp2
  have k := set4_cell (w := w1) (x := .int .i64 R.x) (y := .int .i64 R.y) (z := .bool R.far) (p := .int .i64 ((S + t) % 1013)) r0 r1 r2 r3
  refine bodyPost_ret (v := .tuple #[slV R ((S + t) % 1013), .nilIface]) (by simp [results, Tryd.results41, go_sem, k.1, k.2.1, k.2.2.1, k.2.2.2]) rfl ⟨rfl, set4_below (by repeat (first | exact hB1 | exact Below.refl _ _ | refine balloc ?_ _ | refine Below.drew ?_ | refine below_drewN ?_ _ | refine below_set ?_ (by first | omega | (dsimp only; omega)) _)) (by omega)⟩
set_option maxHeartbeats 1000000 in
theorem fill_n (R : Sp) (S t : Int) (w : World) (hF : FarAt w) (hR : Ok R) (s0 : 0 ≤ S) (s1 : S < 1013) (h : ¬ (0 ≤ t ∧ t < 1013)) : Calls Tryd.prog 41 #[slV R S, .int .i64 t] w fun e w' => e = .returned (.tuple #[slV ⟨0, 0, false⟩ 0, .iface 118 (.int .i64 1)]) ∧ Below w.heap.size w w' := by
  go_enter Tryd.func41, Tryd.ntmps41
  go_wp2_with fail
  refine (right_y R S _ (hF.below (by repeat (first | exact Below.refl _ _ | refine balloc ?_ _ | refine Below.drew ?_ | refine below_drewN ?_ _ | refine below_set ?_ (by first | omega | (dsimp only; omega)) _))) hR s0 s1).mono ?_; rintro e w1 ⟨rfl, hb⟩
  obtain ⟨hc1, hf1⟩ := bcell hb
  have z1 := hb.size
  try simp only [World.size_alloc, World.size_setCell, World.size_drew] at z1
  have s1_0 : w.heap.size < w1.heap.size := by omega
  have s1_1 : w.heap.size + 1 < w1.heap.size := by omega
  have hB1 : Below w.heap.size w w1 := below_seq (by repeat (first | exact Below.refl _ _ | refine balloc ?_ _ | refine Below.drew ?_ | refine below_drewN ?_ _ | refine below_set ?_ (by first | omega | (dsimp only; omega)) _)) hb
  clear hb
  go_wp2_with fail
  refine (rest_n t _ h).mono ?_; rintro e w' ⟨rfl, rfl⟩
  have r0 : w1.cell? ⟨w.heap.size + 1, 0, none⟩ = some (.int .i64 0) := by go_simp
  have r1 : w1.cell? ⟨w.heap.size + 1, 1, none⟩ = some (.int .i64 0) := by go_simp
  have r2 : w1.cell? ⟨w.heap.size + 1, 2, none⟩ = some (.bool false) := by go_simp
  have r3 : w1.cell? ⟨w.heap.size + 1, 3, none⟩ = some (.int .i64 0) := by go_simp
  go_wp2
  have k := set4_cell (w := w1) (x := .int .i64 0) (y := .int .i64 0) (z := .bool false) (p := .int .i64 0) r0 r1 r2 r3
  refine bodyPost_ret (v := .tuple #[slV ⟨0, 0, false⟩ 0, .iface 118 (.int .i64 1)]) (by simp [results, Tryd.results41, go_sem, k.1, k.2.1, k.2.2.1, k.2.2.2]) rfl ⟨rfl, set4_below (by repeat (first | exact hB1 | exact Below.refl _ _ | refine balloc ?_ _ | refine Below.drew ?_ | refine below_drewN ?_ _ | refine below_set ?_ (by first | omega | (dsimp only; omega)) _)) (by omega)⟩
set_option maxHeartbeats 1000000 in
theorem find2_y (R : Sp) (S T n : Int) (w : World) (hF : FarAt w) (hR : Ok R) (s0 : 0 ≤ S) (s1 : S < 1013) (t0 : 0 ≤ T) (t1 : T < 1013) (hn : (T - S + 1013) % 1013 = n) : Calls Tryd.prog 43 #[slV R S, slV R T] w fun e w' => e = .returned (.tuple #[.int .i64 n, .nilIface]) ∧ Below w.heap.size w w' := by
  subst hn
  go_enter Tryd.func43, Tryd.ntmps43
  go_wp2_with fail
  refine (all_ok [R, R] _ 0 2 _ (hF.below (by repeat (first | exact Below.refl _ _ | refine balloc ?_ _ | refine Below.drew ?_ | refine below_drewN ?_ _ | refine below_set ?_ (by first | omega | (dsimp only; omega)) _))) (by simp) (spots_two R R _ _ (by simp) (by go_simp) (by go_simp) (by go_simp) (by go_simp) (by go_simp) (by go_simp)) (ok_two hR hR)).mono ?_; rintro e w1 ⟨rfl, hb⟩
  obtain ⟨hc1, hf1⟩ := bcell hb
  have z1 := hb.size
  try simp only [World.size_alloc, World.size_setCell, World.size_drew] at z1
  have s1_0 : w.heap.size < w1.heap.size := by omega
  have s1_1 : w.heap.size + 1 < w1.heap.size := by omega
  have s1_2 : w.heap.size + 1 + 1 < w1.heap.size := by omega
  have hB1 : Below w.heap.size w w1 := below_seq (by repeat (first | exact Below.refl _ _ | refine balloc ?_ _ | refine Below.drew ?_ | refine below_drewN ?_ _ | refine below_set ?_ (by first | omega | (dsimp only; omega)) _)) hb
  clear hb
  go_wp2_with fail
  refine (rest_y S _ s0 s1).mono ?_; rintro e w' ⟨rfl, rfl⟩
  go_wp2_with fail
  refine (rest_y T _ t0 t1).mono ?_; rintro e w' ⟨rfl, rfl⟩
  go_wp2
  go_ret2
  exact ⟨rfl, (by repeat (first | exact hB1 | exact Below.refl _ _ | refine balloc ?_ _ | refine Below.drew ?_ | refine below_drewN ?_ _ | refine below_set ?_ (by first | omega | (dsimp only; omega)) _))⟩
set_option maxHeartbeats 1000000 in
theorem find2_n (R Q : Sp) (S T : Int) (w : World) (hF : FarAt w) (hR : Ok R) (hQ : Ok Q) (hne : Sp.beq R Q = false) (s0 : 0 ≤ S) (s1 : S < 1013) (t0 : 0 ≤ T) (t1 : T < 1013) : Calls Tryd.prog 43 #[slV R S, slV Q T] w fun e w' => e = .returned (.tuple #[.int .i64 0, .iface 118 (.int .i64 3)]) ∧ Below w.heap.size w w' := by
  go_enter Tryd.func43, Tryd.ntmps43
  go_wp2_with fail
  refine (all_ok [R, Q] _ 0 2 _ (hF.below (by repeat (first | exact Below.refl _ _ | refine balloc ?_ _ | refine Below.drew ?_ | refine below_drewN ?_ _ | refine below_set ?_ (by first | omega | (dsimp only; omega)) _))) (by simp) (spots_two R Q _ _ (by simp) (by go_simp) (by go_simp) (by go_simp) (by go_simp) (by go_simp) (by go_simp)) (ok_two hR hQ)).mono ?_; rintro e w1 ⟨rfl, hb⟩
  obtain ⟨hc1, hf1⟩ := bcell hb
  have z1 := hb.size
  try simp only [World.size_alloc, World.size_setCell, World.size_drew] at z1
  have s1_0 : w.heap.size < w1.heap.size := by omega
  have s1_1 : w.heap.size + 1 < w1.heap.size := by omega
  have s1_2 : w.heap.size + 1 + 1 < w1.heap.size := by omega
  have hB1 : Below w.heap.size w w1 := below_seq (by repeat (first | exact Below.refl _ _ | refine balloc ?_ _ | refine Below.drew ?_ | refine below_drewN ?_ _ | refine below_set ?_ (by first | omega | (dsimp only; omega)) _)) hb
  clear hb
  go_wp2_with fail
  refine (rest_y S _ s0 s1).mono ?_; rintro e w' ⟨rfl, rfl⟩
  go_wp2_with fail
  refine (rest_y T _ t0 t1).mono ?_; rintro e w' ⟨rfl, rfl⟩
  go_wp2
  go_ret2
  exact ⟨rfl, (by repeat (first | exact hB1 | exact Below.refl _ _ | refine balloc ?_ _ | refine Below.drew ?_ | refine below_drewN ?_ _ | refine below_set ?_ (by first | omega | (dsimp only; omega)) _))⟩
set_option maxHeartbeats 2000000 in
theorem acheck_y (key T R O Z : Sp) (S : Int) (b : Bool) (t : ByteArray) (w : World) (hF : FarAt w) (hk : Ok key) (hT : Ok T) (hR : Ok R) (hz : t.size ≤ 60) (s0 : 0 ≤ S) (s1 : S < 1013)
    (hO : Hid (∀ w1 : World, FarAt w1 → Calls Tryd.prog 96 #[spV key, .string t, slV R S] w1 fun e w' => e = .returned (spV O) ∧ Below w1.heap.size w1 w')) (oO : Ok O) (hZ : Hid (sSum O T = Z)) (hb : Z.far = b) :
    Calls Tryd.prog 39 #[spV key, spV T, .string t, slV R S] w fun e w' => e = .returned (.tuple #[.bool b, .nilIface]) ∧ Below w.heap.size w w' := by
  subst hb
  go_enter Tryd.func39, Tryd.ntmps39
  go_wp2_with fail
  refine (sealCheck_ok key R S t _ (hF.below (by repeat (first | exact Below.refl _ _ | refine balloc ?_ _ | refine Below.drew ?_ | refine below_drewN ?_ _ | refine below_set ?_ (by first | omega | (dsimp only; omega)) _))) hk hR hz s0 s1).mono ?_; rintro e w1 ⟨rfl, hb⟩
  obtain ⟨hc1, hf1⟩ := bcell hb
  have z1 := hb.size
  try simp only [World.size_alloc, World.size_setCell, World.size_drew] at z1
  have s1_0 : w.heap.size < w1.heap.size := by omega
  have s1_1 : w.heap.size + 1 < w1.heap.size := by omega
  have s1_2 : w.heap.size + 1 + 1 < w1.heap.size := by omega
  have hB1 : Below w.heap.size w w1 := below_seq (by repeat (first | exact Below.refl _ _ | refine balloc ?_ _ | refine Below.drew ?_ | refine below_drewN ?_ _ | refine below_set ?_ (by first | omega | (dsimp only; omega)) _)) hb
  clear hb
  go_wp2_with fail
  refine (check_ok T _ (hF.below (by repeat (first | exact hB1 | exact Below.refl _ _ | refine balloc ?_ _ | refine Below.drew ?_ | refine below_drewN ?_ _ | refine below_set ?_ (by first | omega | (dsimp only; omega)) _))) hT).mono ?_; rintro e w2 ⟨rfl, hb⟩
  obtain ⟨hc2, hf2⟩ := bcell hb
  have z2 := hb.size
  try simp only [World.size_alloc, World.size_setCell, World.size_drew] at z2
  have s2_0 : w.heap.size < w2.heap.size := by omega
  have s2_1 : w.heap.size + 1 < w2.heap.size := by omega
  have s2_2 : w.heap.size + 1 + 1 < w2.heap.size := by omega
  have hB2 : Below w.heap.size w w2 := below_seq (by repeat (first | exact hB1 | exact Below.refl _ _ | refine balloc ?_ _ | refine Below.drew ?_ | refine below_drewN ?_ _ | refine below_set ?_ (by first | omega | (dsimp only; omega)) _)) hb
  clear hb
  go_wp2_with fail
  refine wp_region_grow Tryd.mixed (by kernel_rfl) ?_
  repeat (quiet_step ((first | (go_at_call 96; exact grow_of (hO.out _ (hF.below (below_seq (by repeat (first | exact hB2 | exact Below.refl _ _ | refine balloc ?_ _ | refine Below.drew ?_ | refine below_drewN ?_ _ | refine below_set ?_ (by first | omega | (dsimp only; omega)) _)) (Grew.h _))))) | (go_at_call 83; exact grow_of (sum_e O T Z _ (hF.below (below_seq (by repeat (first | exact hB2 | exact Below.refl _ _ | refine balloc ?_ _ | refine Below.drew ?_ | refine below_drewN ?_ _ | refine below_set ?_ (by first | omega | (dsimp only; omega)) _)) (Grew.h _))) oO hT hZ)))))
  refine wpQuiet_nil ?_
  intro _ hw'
  obtain ⟨x3, rfl⟩ := hw'
  have z3 := x3.h.size
  try simp only [World.size_alloc, World.size_setCell, World.size_drew] at z3
  have s3_0 : w.heap.size < x3.w.heap.size := by omega
  have s3_1 : w.heap.size + 1 < x3.w.heap.size := by omega
  have s3_2 : w.heap.size + 1 + 1 < x3.w.heap.size := by omega
  have hB3 : Below w.heap.size w x3.w := below_seq (by repeat (first | exact hB2 | exact Below.refl _ _ | refine balloc ?_ _ | refine Below.drew ?_ | refine below_drewN ?_ _ | refine below_set ?_ (by first | omega | (dsimp only; omega)) _)) x3.h
  go_wp2
  go_ret2
  exact ⟨rfl, (by repeat (first | exact hB3 | exact Below.refl _ _ | refine balloc ?_ _ | refine Below.drew ?_ | refine below_drewN ?_ _ | refine below_set ?_ (by first | omega | (dsimp only; omega)) _))⟩
/-- What seal.Off comes to. -/
theorem off_e (key R : Sp) (a r c S : Int) (t : ByteArray) (hz : t.size ≤ 60) (ha : Hid (key = sq a)) (hr : Hid (R = sq r)) (hc : Hid (askN R key t.data.toList = c)) (w : World) (hF : FarAt w) :
    Calls Tryd.prog 96 #[spV key, .string t, slV R S] w fun e w' => e = .returned (spV (sq (4 * S + -(r + a * c)))) ∧ Below w.heap.size w w' := by
  have oR : Ok R := ok_of hr.out
  have oK : Ok key := ok_of ha.out
  refine sealOff_ok key R _ _ (sq (r + a * c)) _ (sq (4 * S + -(r + a * c))) a c S t w hF oK oR hz hc ha rfl rfl ?_ rfl ?_ (sq_ok _) (sq_ok _) (sq_ok _) (turned_ok (sq_ok _)).1
  · show _ = _; rw [hr.out, sq_add]
  · show _ = _; rw [sq_neg, sq_add]
theorem acheck_e (key T R : Sp) (a r u c S : Int) (b : Bool) (t : ByteArray) (w : World) (hF : FarAt w) (hz : t.size ≤ 60) (s0 : 0 ≤ S) (s1 : S < 1013) (ha : Hid (key = sq a)) (hr : Hid (R = sq r)) (hu : Hid (T = sq u)) (hc : Hid (askN R key t.data.toList = c)) (hb : Hid ((sq (4 * S + -(r + a * c) + u)).far = b)) :
    Calls Tryd.prog 39 #[spV key, spV T, .string t, slV R S] w fun e w' => e = .returned (.tuple #[.bool b, .nilIface]) ∧ Below w.heap.size w w' := by
  refine acheck_y key T R _ _ S b t w hF (ok_of ha.out) (ok_of hu.out) (ok_of hr.out) hz s0 s1 (fun w1 h1 => off_e key R a r c S t hz ha hr hc w1 h1) (sq_ok _) (by show _ = _; rw [hu.out, sq_add]) hb.out
set_option maxHeartbeats 1000000 in
theorem pre_n1 (x k : Int) (T : Sp) (t : ByteArray) (w : World) (h : ¬ (1 ≤ x ∧ x < 1013)) : Calls Tryd.prog 38 #[.int .i64 x, .int .i64 k, spV T, .string t] w fun e w' => e = .returned (.tuple #[slV ⟨0, 0, false⟩ 0, .iface 118 (.int .i64 1)]) ∧ Below w.heap.size w w' := by
  go_enter Tryd.func38, Tryd.ntmps38
  go_wp2_with fail
  refine (secret_n x _ h).mono ?_; rintro e w' ⟨rfl, rfl⟩
  go_wp2
  refine bodyPost_ret (v := .tuple #[slV ⟨0, 0, false⟩ 0, .iface 118 (.int .i64 1)]) (by simp [results, Tryd.results38, go_sem]) rfl ⟨rfl, (by repeat (first | exact Below.refl _ _ | refine balloc ?_ _ | refine Below.drew ?_ | refine below_drewN ?_ _ | refine below_set ?_ (by first | omega | (dsimp only; omega)) _))⟩
set_option maxHeartbeats 1000000 in
theorem pre_n2 (x k : Int) (T : Sp) (t : ByteArray) (w : World) (x1 : 1 ≤ x) (x2 : x < 1013) (h : ¬ (1 ≤ k ∧ k < 1013)) : Calls Tryd.prog 38 #[.int .i64 x, .int .i64 k, spV T, .string t] w fun e w' => e = .returned (.tuple #[slV ⟨0, 0, false⟩ 0, .iface 118 (.int .i64 1)]) ∧ Below w.heap.size w w' := by
  go_enter Tryd.func38, Tryd.ntmps38
  go_wp2_with fail
  refine (secret_y x _ x1 x2).mono ?_; rintro e w' ⟨rfl, rfl⟩
  go_wp2_with fail
  refine (secret_n k _ h).mono ?_; rintro e w' ⟨rfl, rfl⟩
  go_wp2
  refine bodyPost_ret (v := .tuple #[slV ⟨0, 0, false⟩ 0, .iface 118 (.int .i64 1)]) (by simp [results, Tryd.results38, go_sem]) rfl ⟨rfl, (by repeat (first | exact Below.refl _ _ | refine balloc ?_ _ | refine Below.drew ?_ | refine below_drewN ?_ _ | refine below_set ?_ (by first | omega | (dsimp only; omega)) _))⟩
set_option maxHeartbeats 1000000 in
theorem pre_n3 (x k : Int) (T : Sp) (t : ByteArray) (w : World) (hF : FarAt w) (x1 : 1 ≤ x) (x2 : x < 1013) (k1 : 1 ≤ k) (k2 : k < 1013) (hT : Ok T) (h : 60 < t.size) (hz : t.size ≤ 140737488351232) : Calls Tryd.prog 38 #[.int .i64 x, .int .i64 k, spV T, .string t] w fun e w' => e = .returned (.tuple #[slV ⟨0, 0, false⟩ 0, .iface 118 (.int .i64 4)]) ∧ Below w.heap.size w w' := by
  go_enter Tryd.func38, Tryd.ntmps38
  go_wp2_with fail
  refine (secret_y x _ x1 x2).mono ?_; rintro e w' ⟨rfl, rfl⟩
  go_wp2_with fail
  refine (secret_y k _ k1 k2).mono ?_; rintro e w' ⟨rfl, rfl⟩
  go_wp2_with fail
  refine (check_ok T _ (hF.below (by repeat (first | exact Below.refl _ _ | refine balloc ?_ _ | refine Below.drew ?_ | refine below_drewN ?_ _ | refine below_set ?_ (by first | omega | (dsimp only; omega)) _))) hT).mono ?_; rintro e w1 ⟨rfl, hb⟩
  obtain ⟨hc1, hf1⟩ := bcell hb
  have z1 := hb.size
  try simp only [World.size_alloc, World.size_setCell, World.size_drew] at z1
  have s1_0 : w.heap.size < w1.heap.size := by omega
  have s1_1 : w.heap.size + 1 < w1.heap.size := by omega
  have hB1 : Below w.heap.size w w1 := below_seq (by repeat (first | exact Below.refl _ _ | refine balloc ?_ _ | refine Below.drew ?_ | refine below_drewN ?_ _ | refine below_set ?_ (by first | omega | (dsimp only; omega)) _)) hb
  clear hb
  go_wp2_with fail
  refine (text_n t _ h hz).mono ?_; rintro e w' ⟨rfl, rfl⟩
  have r0 : w1.cell? ⟨w.heap.size + 1, 0, none⟩ = some (.int .i64 0) := by go_simp
  have r1 : w1.cell? ⟨w.heap.size + 1, 1, none⟩ = some (.int .i64 0) := by go_simp
  have r2 : w1.cell? ⟨w.heap.size + 1, 2, none⟩ = some (.bool false) := by go_simp
  have r3 : w1.cell? ⟨w.heap.size + 1, 3, none⟩ = some (.int .i64 0) := by go_simp
  go_wp2
  have k := set4_cell (w := w1) (x := .int .i64 0) (y := .int .i64 0) (z := .bool false) (p := .int .i64 0) r0 r1 r2 r3
  refine bodyPost_ret (v := .tuple #[slV ⟨0, 0, false⟩ 0, .iface 118 (.int .i64 4)]) (by simp [results, Tryd.results38, go_sem, k.1, k.2.1, k.2.2.1, k.2.2.2]) rfl ⟨rfl, set4_below (by repeat (first | exact hB1 | exact Below.refl _ _ | refine balloc ?_ _ | refine Below.drew ?_ | refine below_drewN ?_ _ | refine below_set ?_ (by first | omega | (dsimp only; omega)) _)) (by omega)⟩
theorem SpAt.zero_of {w : World} {b : Nat} (h0 : w.cell? ⟨b, 0, none⟩ = some (.int .i64 0)) (h1 : w.cell? ⟨b, 1, none⟩ = some (.int .i64 0)) (h2 : w.cell? ⟨b, 2, none⟩ = some (.bool false)) (f0 : w.frozen? ⟨b, 0, none⟩ = false) (f1 : w.frozen? ⟨b, 1, none⟩ = false) (f2 : w.frozen? ⟨b, 2, none⟩ = false) (hl : b < w.heap.size) : SpAt w b ⟨0, 0, false⟩ := ⟨h0, h1, h2, f0, f1, f2, hl⟩
end Go.Proofs.YtfnifdmnbccblaaDoor
