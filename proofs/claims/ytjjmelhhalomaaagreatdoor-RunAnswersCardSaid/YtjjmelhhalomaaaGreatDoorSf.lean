/- Walks of layer seal: sign, check, off, verify. -/
import Derived.Test.YtjjmelhhalomaaaGreatDoorKe
namespace Go.Proofs.YtjjmelhhalomaaaGreatDoor
open Go.RowKit
set_option maxRecDepth 100000
set_option linter.unusedVariables false
set_option linter.unusedSimpArgs false
/-- A seal, as the program has it. -/
abbrev slV (r : Sp) (s : Int) : Value := .agg #[.int .i64 r.x, .int .i64 r.y, .bool r.far, .int .i64 s]
theorem set4_cell {w : World} {b : Nat} {u v t q x y z p : Value} (h0 : w.cell? ⟨b, 0, none⟩ = some u) (h1 : w.cell? ⟨b, 1, none⟩ = some v) (h2 : w.cell? ⟨b, 2, none⟩ = some t) (h3 : w.cell? ⟨b, 3, none⟩ = some q) :
    ((((w.setCell ⟨b, 0, none⟩ x).setCell ⟨b, 1, none⟩ y).setCell ⟨b, 2, none⟩ z).setCell ⟨b, 3, none⟩ p).cell? ⟨b, 0, none⟩ = some x ∧ ((((w.setCell ⟨b, 0, none⟩ x).setCell ⟨b, 1, none⟩ y).setCell ⟨b, 2, none⟩ z).setCell ⟨b, 3, none⟩ p).cell? ⟨b, 1, none⟩ = some y ∧
    ((((w.setCell ⟨b, 0, none⟩ x).setCell ⟨b, 1, none⟩ y).setCell ⟨b, 2, none⟩ z).setCell ⟨b, 3, none⟩ p).cell? ⟨b, 2, none⟩ = some z ∧ ((((w.setCell ⟨b, 0, none⟩ x).setCell ⟨b, 1, none⟩ y).setCell ⟨b, 2, none⟩ z).setCell ⟨b, 3, none⟩ p).cell? ⟨b, 3, none⟩ = some p := by
  have k := set3_cell (x := x) (y := y) (z := z) h0 h1 h2
  refine ⟨?_, ?_, ?_, ?_⟩
  · rw [World.cell?_setCell_other (h := by simp)]; exact k.1
  · rw [World.cell?_setCell_other (h := by simp)]; exact k.2.1
  · rw [World.cell?_setCell_other (h := by simp)]; exact k.2.2
  · exact World.cell?_setCell_same _ _ _ (by rw [World.cell?_setCell_other (h := by simp), World.cell?_setCell_other (h := by simp), World.cell?_setCell_other (h := by simp)]; exact h3)
theorem set4_below {B : Nat} {a w : World} {b : Nat} {x y z p : Value} (h : Below B a w) (hb : B ≤ b) : Below B a ((((w.setCell ⟨b, 0, none⟩ x).setCell ⟨b, 1, none⟩ y).setCell ⟨b, 2, none⟩ z).setCell ⟨b, 3, none⟩ p) := (set3_below h hb).setCell hb p
theorem ask_e (r key : Sp) (t : ByteArray) (c : Int) (w : World) (hr : Ok r) (hk : Ok key) (hz : t.size ≤ 60) (h : Hid (askN r key t.data.toList = c)) : Calls Tryz.prog 84 #[spV r, spV key, .string t] w fun e w' => e = .returned (.int .i64 c) ∧ Below w.heap.size w w' := by
  have := askOf_c r key t w hr hk hz; rw [h.out] at this; exact this
theorem by_e (n : Int) (c : Sp) (w : World) (hF : FarAt w) (h : Hid (sq (4 * n) = c)) : Calls Tryz.prog 82 #[.int .i64 n] w fun e w' => e = .returned (spV c) ∧ Below w.heap.size w w' := by
  have := by_c n w hF; rw [h.out] at this; exact this
theorem of_e (a c : Sp) (u n : Int) (w : World) (hF : FarAt w) (ha : Hid (a = sq u)) (h : Hid (sq (u * n) = c)) : Calls Tryz.prog 37 #[spV a, .int .i64 n] w fun e w' => e = .returned (spV c) ∧ Below w.heap.size w w' := by
  have := timesOf_c u n w hF; rw [h.out, ← ha.out] at this; exact this
theorem sum_e (a b c : Sp) (w : World) (hF : FarAt w) (ha : Ok a) (hb : Ok b) (h : Hid (sSum a b = c)) : Calls Tryz.prog 47 #[spV a, spV b] w fun e w' => e = .returned (spV c) ∧ Below w.heap.size w w' := by
  have := sum_k a b w hF ha hb; rw [h.out] at this; exact this
theorem turned_e (a c : Sp) (w : World) (ha : Ok a) (h : Hid (sTurned a = c)) : Calls Tryz.prog 48 #[spV a] w fun e w' => e = .returned (spV c) ∧ Below w.heap.size w w' := by
  have := turned_k a w ha; rw [h.out] at this; exact this
set_option maxHeartbeats 2000000 in
theorem sign_ok (x k : Int) (t : ByteArray) (R K : Sp) (c S : Int) (w : World) (hF : FarAt w) (x1 : 1 ≤ x) (x2 : x < 1013) (k1 : 1 ≤ k) (k2 : k < 1013) (hz : t.size ≤ 60) (hR : Hid (sq (4 * k) = R)) (hK : Hid (sq (4 * x) = K)) (oR : Ok R) (oK : Ok K) (hc : Hid (askN R K t.data.toList = c)) (e1 : IntKind.i64.wrap (c * x) = c * x) (e2 : IntKind.i64.wrap (k + c * x) = k + c * x) (e3 : (k + c * x).tmod 1013 = S) :
    Calls Tryz.prog 40 #[.int .i64 x, .int .i64 k, .string t] w fun e w' => e = .returned (.tuple #[slV R S, .nilIface]) ∧ Below w.heap.size w w' := by
  go_enter Tryz.func40, Tryz.ntmps40
  go_wp2_with fail
  refine (secret_y x _ x1 x2).mono ?_; rintro e w' ⟨rfl, rfl⟩
  go_wp2_with fail
  refine (secret_y k _ k1 k2).mono ?_; rintro e w' ⟨rfl, rfl⟩
  go_wp2_with fail
  refine (text_y t _ hz).mono ?_; rintro e w' ⟨rfl, rfl⟩
  go_wp2_with fail
  refine (by_e k R _ (hF.below (by repeat (first | exact Below.refl _ _ | refine balloc ?_ _ | refine Below.drew ?_ | refine below_drewN ?_ _ | refine below_set ?_ (by first | omega | (dsimp only; omega)) _))) hR).mono ?_; rintro e w1 ⟨rfl, hb⟩
  obtain ⟨hc1, hf1⟩ := bcell hb
  have z1 := hb.size
  try simp only [World.size_alloc, World.size_setCell, World.size_drew] at z1
  have s1_0 : w.heap.size < w1.heap.size := by omega
  have hB1 : Below w.heap.size w w1 := below_seq (by repeat (first | exact Below.refl _ _ | refine balloc ?_ _ | refine Below.drew ?_ | refine below_drewN ?_ _ | refine below_set ?_ (by first | omega | (dsimp only; omega)) _)) hb
  clear hb
  go_wp2_with fail
  refine wp_region_grow_tail 12 Tryz.mixed (by kernel_rfl) ?_
  simp only [List.take_succ_cons, List.take_zero, List.drop_succ_cons, List.drop_zero]
  repeat (quiet_step ((first | (go_at_call 82; exact grow_of (by_e x K _ (hF.below (below_seq (by repeat (first | exact hB1 | exact Below.refl _ _ | refine balloc ?_ _ | refine Below.drew ?_ | refine below_drewN ?_ _ | refine below_set ?_ (by first | omega | (dsimp only; omega)) _)) (Grew.h _))) hK)) | (go_at_call 84; exact grow_of (ask_e R K t c _ oR oK hz hc)))))
  refine wpQuiet_nil ?_
  intro _ hw'
  obtain ⟨x2, rfl⟩ := hw'
  have z2 := x2.h.size
  try simp only [World.size_alloc, World.size_setCell, World.size_drew] at z2
  have s2_0 : w.heap.size < x2.w.heap.size := by omega
  have s2_1 : w1.heap.size < x2.w.heap.size := by omega
  have hB2 : Below w.heap.size w x2.w := below_seq (by repeat (first | exact hB1 | exact Below.refl _ _ | refine balloc ?_ _ | refine Below.drew ?_ | refine below_drewN ?_ _ | refine below_set ?_ (by first | omega | (dsimp only; omega)) _)) x2.h
  have r0 : x2.w.cell? ⟨w.heap.size, 0, none⟩ = some (.int .i64 0) := by go_simp
  have r1 : x2.w.cell? ⟨w.heap.size, 1, none⟩ = some (.int .i64 0) := by go_simp
  have r2 : x2.w.cell? ⟨w.heap.size, 2, none⟩ = some (.bool false) := by go_simp
  have r3 : x2.w.cell? ⟨w.heap.size, 3, none⟩ = some (.int .i64 0) := by go_simp
  clear e1 e2 e3
  go_wp2
  have k := set4_cell (w := x2.w) (x := .int .i64 R.x) (y := .int .i64 R.y) (z := .bool R.far) (p := .int .i64 S) r0 r1 r2 r3
  refine bodyPost_ret (v := .tuple #[slV R S, .nilIface]) (by simp [results, Tryz.results40, go_sem, k.1, k.2.1, k.2.2.1, k.2.2.2]) rfl ⟨rfl, set4_below (by repeat (first | exact hB2 | exact Below.refl _ _ | refine balloc ?_ _ | refine Below.drew ?_ | refine below_drewN ?_ _ | refine below_set ?_ (by first | omega | (dsimp only; omega)) _)) (by omega)⟩
end Go.Proofs.YtjjmelhhalomaaaGreatDoor
