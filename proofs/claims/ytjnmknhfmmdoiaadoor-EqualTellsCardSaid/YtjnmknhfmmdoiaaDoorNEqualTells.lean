/- The law EqualTells, walked. (Printed by gen_et.py.) -/
import Derived.Laws.Entries
import Derived.Test.YtjnmknhfmmdoiaaDoorMEqualTells
import Derived.Test.YtjnmknhfmmdoiaaDoorTl
import Derived.Deep.DeepCutAuto
import Derived.BigQuiet
namespace Go.Proofs.YtjnmknhfmmdoiaaDoor
open Go.RowKit
set_option maxRecDepth 100000
set_option linter.unusedVariables false
set_option linter.unusedSimpArgs false
set_option maxHeartbeats 32000000 in
theorem et_all (x k : Int) (a b c r s : Sp) (C S : Int) (w : World) (hF : FarAt w) (hE : ErrAt w) (E1 E2 E3 E4 N1 : Int) (B1 B2 B3 B5 B6 B7 : Bool) (jE1 : Hid (spotsF [a, b, c, r, s] = E1)) (h1 : Hid ((E1 = 0 ∧ (∀ z ∈ [a, b, c, r, s], Ok z) ∧ ask5 [a, b, c, r, s] = N1) ∨ ((E1 == 0) = false ∧ N1 = 0))) (kAsk : Hid (∀ w : World, FarAt w → Calls Tryd.prog 30 #[spV a, spV b, spV c, spV r, spV s] w fun e w' => e = .returned (.tuple #[.int .i64 N1, errV E1]) ∧ Below w.heap.size w w')) (jB1 : Hid (secB x = B1)) (jB2 : Hid (secB k = B2)) (jB3 : Hid ((!(B1 && B2)) = B3)) (h2 : Hid ((B3 = true ∧ E2 = 1) ∨ (B3 = false ∧ sCheck b = E2))) (U V R1 Q1 : Sp) (T Y j : Int) (h3 : Hid ((E2 = 0 ∧ 1 ≤ x ∧ x < 1013 ∧ 1 ≤ k ∧ k < 1013 ∧ b = sq j ∧ sq (4 * x) = U ∧ sq (j * x) = V ∧ sq (4 * k) = R1 ∧ sq (j * k) = Q1 ∧ (∀ z ∈ [U, b, V, R1, Q1], Ok z) ∧ ask5 [U, b, V, R1, Q1] = T ∧ 0 ≤ T * x ∧ T * x ≤ 1024144 ∧ (k + T * x) % 1013 = Y) ∨ ((E2 == 0) = false ∧ U = ⟨0, 0, false⟩ ∧ V = ⟨0, 0, false⟩ ∧ T = 0 ∧ Y = 0))) (kPr : Hid (ProveIs x k b U V T Y (errV E2))) (jE3 : Hid (spotsF [a, b, c] = E3)) (jB5 : Hid (resB C = B5)) (jB6 : Hid (resB S = B6)) (h7 : Hid ((E3 = 0 ∧ B5 = true ∧ B6 = true ∧ B7 = false) ∨ (E3 = 0 ∧ B5 = true ∧ B6 = false ∧ B7 = true) ∨ (E3 = 0 ∧ B5 = false ∧ B7 = true) ∨ ((E3 == 0) = false ∧ B7 = false))) (h8 : Hid ((B7 = true ∧ E4 = 1) ∨ (B7 = false ∧ E4 = E3))) (RT : Bool) (h6 : Hid ((E4 = 0 ∧ (∀ w : World, Calls Tryd.prog 38 #[spV a, spV b, spV c, .agg #[.int .i64 C, .int .i64 S]] w fun e w' => e = .returned (.bool RT) ∧ Below w.heap.size w w')) ∨ ((E4 == 0) = false ∧ RT = false))) (kVer : Hid (∀ w : World, FarAt w → Calls Tryd.prog 39 #[spV a, spV b, spV c, .agg #[.int .i64 C, .int .i64 S]] w fun e w' => e = .returned (.tuple #[.bool RT, errV E4]) ∧ Below w.heap.size w w')) :
    Calls Tryd.prog 8 #[.int .i64 x, .int .i64 k, spV a, spV b, spV c, spV r, spV s, .agg #[.int .i64 C, .int .i64 S]] w fun e w' => e = .returned (.bool true) ∧ Below w.heap.size w w' := by
  go_enter Tryd.func8, Tryd.ntmps8
  go_wp2_with fail
  refine (rSpots_e [a, b, c, r, s] _ 0 5 _ (by simp) (spots_at _ [a, b, c, r, s] _ _ _ (by simp) rfl) E1 jE1).mono ?_; rintro e w1 ⟨rfl, hb⟩
  obtain ⟨hc1, hf1⟩ := bcell hb
  have z1 := hb.size
  try simp only [World.size_alloc, World.size_setCell, World.size_drew] at z1
  have s1_0 : w.heap.size < w1.heap.size := by omega
  have s1_1 : w.heap.size + 1 < w1.heap.size := by omega
  have s1_2 : w.heap.size + 1 + 1 < w1.heap.size := by omega
  have s1_3 : w.heap.size + 1 + 1 + 1 < w1.heap.size := by omega
  have s1_4 : w.heap.size + 1 + 1 + 1 + 1 < w1.heap.size := by omega
  have s1_5 : w.heap.size + 1 + 1 + 1 + 1 + 1 < w1.heap.size := by omega
  have hB1 : Below w.heap.size w w1 := below_seq (by repeat (first | exact Below.refl _ _ | refine balloc ?_ _ | refine Below.drew ?_ | refine below_drewN ?_ _ | refine below_set ?_ (by first | omega | (dsimp only; omega)) _)) hb
  clear hb
  have m1_0_0 : w1.cell? ⟨w.heap.size, 0, none⟩ = some (.int .i64 a.x) := by go_simp
  have m1_0_1 : w1.cell? ⟨w.heap.size, 1, none⟩ = some (.int .i64 a.y) := by go_simp
  have m1_0_2 : w1.cell? ⟨w.heap.size, 2, none⟩ = some (.bool a.far) := by go_simp
  have m1_1_0 : w1.cell? ⟨w.heap.size + 1, 0, none⟩ = some (.int .i64 b.x) := by go_simp
  have m1_1_1 : w1.cell? ⟨w.heap.size + 1, 1, none⟩ = some (.int .i64 b.y) := by go_simp
  have m1_1_2 : w1.cell? ⟨w.heap.size + 1, 2, none⟩ = some (.bool b.far) := by go_simp
  have m1_2_0 : w1.cell? ⟨w.heap.size + 1 + 1, 0, none⟩ = some (.int .i64 c.x) := by go_simp
  have m1_2_1 : w1.cell? ⟨w.heap.size + 1 + 1, 1, none⟩ = some (.int .i64 c.y) := by go_simp
  have m1_2_2 : w1.cell? ⟨w.heap.size + 1 + 1, 2, none⟩ = some (.bool c.far) := by go_simp
  have m1_3_0 : w1.cell? ⟨w.heap.size + 1 + 1 + 1, 0, none⟩ = some (.int .i64 r.x) := by go_simp
  have m1_3_1 : w1.cell? ⟨w.heap.size + 1 + 1 + 1, 1, none⟩ = some (.int .i64 r.y) := by go_simp
  have m1_3_2 : w1.cell? ⟨w.heap.size + 1 + 1 + 1, 2, none⟩ = some (.bool r.far) := by go_simp
  have m1_4_0 : w1.cell? ⟨w.heap.size + 1 + 1 + 1 + 1, 0, none⟩ = some (.int .i64 s.x) := by go_simp
  have m1_4_1 : w1.cell? ⟨w.heap.size + 1 + 1 + 1 + 1, 1, none⟩ = some (.int .i64 s.y) := by go_simp
  have m1_4_2 : w1.cell? ⟨w.heap.size + 1 + 1 + 1 + 1, 2, none⟩ = some (.bool s.far) := by go_simp
  have m1_5_0 : w1.cell? ⟨w.heap.size + 1 + 1 + 1 + 1 + 1, 0, none⟩ = some (.int .i64 C) := by go_simp
  have m1_5_1 : w1.cell? ⟨w.heap.size + 1 + 1 + 1 + 1 + 1, 1, none⟩ = some (.int .i64 S) := by go_simp
  clear hc1
  go_upto_if 43 with fail
  go_cut [18] (fun s18 wx => s18 = .int .i64 N1 ∧ Below w.heap.size w wx ∧ w.heap.size < wx.heap.size ∧ w.heap.size + 1 < wx.heap.size ∧ w.heap.size + 1 + 1 < wx.heap.size ∧ w.heap.size + 1 + 1 + 1 < wx.heap.size ∧ w.heap.size + 1 + 1 + 1 + 1 < wx.heap.size ∧ w.heap.size + 1 + 1 + 1 + 1 + 1 < wx.heap.size ∧ wx.cell? ⟨w.heap.size, 0, none⟩ = some (.int .i64 a.x) ∧ wx.cell? ⟨w.heap.size, 1, none⟩ = some (.int .i64 a.y) ∧ wx.cell? ⟨w.heap.size, 2, none⟩ = some (.bool a.far) ∧ wx.cell? ⟨w.heap.size + 1, 0, none⟩ = some (.int .i64 b.x) ∧ wx.cell? ⟨w.heap.size + 1, 1, none⟩ = some (.int .i64 b.y) ∧ wx.cell? ⟨w.heap.size + 1, 2, none⟩ = some (.bool b.far) ∧ wx.cell? ⟨w.heap.size + 1 + 1, 0, none⟩ = some (.int .i64 c.x) ∧ wx.cell? ⟨w.heap.size + 1 + 1, 1, none⟩ = some (.int .i64 c.y) ∧ wx.cell? ⟨w.heap.size + 1 + 1, 2, none⟩ = some (.bool c.far) ∧ wx.cell? ⟨w.heap.size + 1 + 1 + 1, 0, none⟩ = some (.int .i64 r.x) ∧ wx.cell? ⟨w.heap.size + 1 + 1 + 1, 1, none⟩ = some (.int .i64 r.y) ∧ wx.cell? ⟨w.heap.size + 1 + 1 + 1, 2, none⟩ = some (.bool r.far) ∧ wx.cell? ⟨w.heap.size + 1 + 1 + 1 + 1, 0, none⟩ = some (.int .i64 s.x) ∧ wx.cell? ⟨w.heap.size + 1 + 1 + 1 + 1, 1, none⟩ = some (.int .i64 s.y) ∧ wx.cell? ⟨w.heap.size + 1 + 1 + 1 + 1, 2, none⟩ = some (.bool s.far) ∧ wx.cell? ⟨w.heap.size + 1 + 1 + 1 + 1 + 1, 0, none⟩ = some (.int .i64 C) ∧ wx.cell? ⟨w.heap.size + 1 + 1 + 1 + 1 + 1, 1, none⟩ = some (.int .i64 S))
  case first =>
    rcases h1.out with ⟨e1, e2, e3⟩ | ⟨e1, e2⟩
    · subst e1
      replace e2 := Lib.hid e2
      replace e3 := Lib.hid e3
      clear h1
      go_wp2_with fail
      refine (rEqAsk_e a b c r s N1 _ e2 e3).mono ?_; rintro e w2 ⟨rfl, hb⟩
      obtain ⟨hc2, hf2⟩ := bcell hb
      have z2 := hb.size
      try simp only [World.size_alloc, World.size_setCell, World.size_drew] at z2
      have s2_0 : w.heap.size < w2.heap.size := by omega
      have s2_1 : w.heap.size + 1 < w2.heap.size := by omega
      have s2_2 : w.heap.size + 1 + 1 < w2.heap.size := by omega
      have s2_3 : w.heap.size + 1 + 1 + 1 < w2.heap.size := by omega
      have s2_4 : w.heap.size + 1 + 1 + 1 + 1 < w2.heap.size := by omega
      have s2_5 : w.heap.size + 1 + 1 + 1 + 1 + 1 < w2.heap.size := by omega
      have hB2 : Below w.heap.size w w2 := below_seq (by repeat (first | exact hB1 | exact Below.refl _ _ | refine balloc ?_ _ | refine Below.drew ?_ | refine below_drewN ?_ _ | refine below_set ?_ (by first | omega | (dsimp only; omega)) _)) hb
      clear hb
      have m2_0_0 : w2.cell? ⟨w.heap.size, 0, none⟩ = some (.int .i64 a.x) := by go_simp
      have m2_0_1 : w2.cell? ⟨w.heap.size, 1, none⟩ = some (.int .i64 a.y) := by go_simp
      have m2_0_2 : w2.cell? ⟨w.heap.size, 2, none⟩ = some (.bool a.far) := by go_simp
      have m2_1_0 : w2.cell? ⟨w.heap.size + 1, 0, none⟩ = some (.int .i64 b.x) := by go_simp
      have m2_1_1 : w2.cell? ⟨w.heap.size + 1, 1, none⟩ = some (.int .i64 b.y) := by go_simp
      have m2_1_2 : w2.cell? ⟨w.heap.size + 1, 2, none⟩ = some (.bool b.far) := by go_simp
      have m2_2_0 : w2.cell? ⟨w.heap.size + 1 + 1, 0, none⟩ = some (.int .i64 c.x) := by go_simp
      have m2_2_1 : w2.cell? ⟨w.heap.size + 1 + 1, 1, none⟩ = some (.int .i64 c.y) := by go_simp
      have m2_2_2 : w2.cell? ⟨w.heap.size + 1 + 1, 2, none⟩ = some (.bool c.far) := by go_simp
      have m2_3_0 : w2.cell? ⟨w.heap.size + 1 + 1 + 1, 0, none⟩ = some (.int .i64 r.x) := by go_simp
      have m2_3_1 : w2.cell? ⟨w.heap.size + 1 + 1 + 1, 1, none⟩ = some (.int .i64 r.y) := by go_simp
      have m2_3_2 : w2.cell? ⟨w.heap.size + 1 + 1 + 1, 2, none⟩ = some (.bool r.far) := by go_simp
      have m2_4_0 : w2.cell? ⟨w.heap.size + 1 + 1 + 1 + 1, 0, none⟩ = some (.int .i64 s.x) := by go_simp
      have m2_4_1 : w2.cell? ⟨w.heap.size + 1 + 1 + 1 + 1, 1, none⟩ = some (.int .i64 s.y) := by go_simp
      have m2_4_2 : w2.cell? ⟨w.heap.size + 1 + 1 + 1 + 1, 2, none⟩ = some (.bool s.far) := by go_simp
      have m2_5_0 : w2.cell? ⟨w.heap.size + 1 + 1 + 1 + 1 + 1, 0, none⟩ = some (.int .i64 C) := by go_simp
      have m2_5_1 : w2.cell? ⟨w.heap.size + 1 + 1 + 1 + 1 + 1, 1, none⟩ = some (.int .i64 S) := by go_simp
      clear m1_0_0 m1_0_1 m1_0_2 m1_1_0 m1_1_1 m1_1_2 m1_2_0 m1_2_1 m1_2_2 m1_3_0 m1_3_1 m1_3_2 m1_4_0 m1_4_1 m1_4_2 m1_5_0 m1_5_1
      clear hc2
      go_wp2_with fail
      go_meet
      exact ⟨rfl, (by repeat (first | exact hB2 | exact Below.refl _ _ | refine balloc ?_ _ | refine Below.drew ?_ | refine below_drewN ?_ _ | refine below_set ?_ (by first | omega | (dsimp only; omega)) _)), (by first | omega | (simp only [World.size_alloc, World.size_setCell, World.size_drew]; omega)), (by first | omega | (simp only [World.size_alloc, World.size_setCell, World.size_drew]; omega)), (by first | omega | (simp only [World.size_alloc, World.size_setCell, World.size_drew]; omega)), (by first | omega | (simp only [World.size_alloc, World.size_setCell, World.size_drew]; omega)), (by first | omega | (simp only [World.size_alloc, World.size_setCell, World.size_drew]; omega)), (by first | omega | (simp only [World.size_alloc, World.size_setCell, World.size_drew]; omega)), (by go_simp), (by go_simp), (by go_simp), (by go_simp), (by go_simp), (by go_simp), (by go_simp), (by go_simp), (by go_simp), (by go_simp), (by go_simp), (by go_simp), (by go_simp), (by go_simp), (by go_simp), (by go_simp), (by go_simp)⟩
    · skip
      subst e2
      clear h1
      go_wp2_with fail
      go_meet
      exact ⟨rfl, (by repeat (first | exact hB1 | exact Below.refl _ _ | refine balloc ?_ _ | refine Below.drew ?_ | refine below_drewN ?_ _ | refine below_set ?_ (by first | omega | (dsimp only; omega)) _)), (by first | omega | (simp only [World.size_alloc, World.size_setCell, World.size_drew]; omega)), (by first | omega | (simp only [World.size_alloc, World.size_setCell, World.size_drew]; omega)), (by first | omega | (simp only [World.size_alloc, World.size_setCell, World.size_drew]; omega)), (by first | omega | (simp only [World.size_alloc, World.size_setCell, World.size_drew]; omega)), (by first | omega | (simp only [World.size_alloc, World.size_setCell, World.size_drew]; omega)), (by first | omega | (simp only [World.size_alloc, World.size_setCell, World.size_drew]; omega)), (by go_simp), (by go_simp), (by go_simp), (by go_simp), (by go_simp), (by go_simp), (by go_simp), (by go_simp), (by go_simp), (by go_simp), (by go_simp), (by go_simp), (by go_simp), (by go_simp), (by go_simp), (by go_simp), (by go_simp)⟩
  case rest =>
    obtain ⟨w2, hwq⟩ : ∃ x, x = wc := ⟨_, rfl⟩
    subst hwq
    obtain ⟨rfl, hB2, s2_0, s2_1, s2_2, s2_3, s2_4, s2_5, m2_0_0, m2_0_1, m2_0_2, m2_1_0, m2_1_1, m2_1_2, m2_2_0, m2_2_1, m2_2_2, m2_3_0, m2_3_1, m2_3_2, m2_4_0, m2_4_1, m2_4_2, m2_5_0, m2_5_1⟩ := hcut
    clear m1_0_0 m1_0_1 m1_0_2 m1_1_0 m1_1_1 m1_1_2 m1_2_0 m1_2_1 m1_2_2 m1_3_0 m1_3_1 m1_3_2 m1_4_0 m1_4_1 m1_4_2 m1_5_0 m1_5_1
    clear h1
    go_wp2_with fail
    refine (kAsk.out _ (hF.below (by repeat (first | exact hB2 | exact Below.refl _ _ | refine balloc ?_ _ | refine Below.drew ?_ | refine below_drewN ?_ _ | refine below_set ?_ (by first | omega | (dsimp only; omega)) _)))).mono ?_; rintro e w3 ⟨rfl, hb⟩
    obtain ⟨hc3, hf3⟩ := bcell hb
    have z3 := hb.size
    try simp only [World.size_alloc, World.size_setCell, World.size_drew] at z3
    have s3_0 : w.heap.size < w3.heap.size := by omega
    have s3_1 : w.heap.size + 1 < w3.heap.size := by omega
    have s3_2 : w.heap.size + 1 + 1 < w3.heap.size := by omega
    have s3_3 : w.heap.size + 1 + 1 + 1 < w3.heap.size := by omega
    have s3_4 : w.heap.size + 1 + 1 + 1 + 1 < w3.heap.size := by omega
    have s3_5 : w.heap.size + 1 + 1 + 1 + 1 + 1 < w3.heap.size := by omega
    have hB3 : Below w.heap.size w w3 := below_seq (by repeat (first | exact hB2 | exact Below.refl _ _ | refine balloc ?_ _ | refine Below.drew ?_ | refine below_drewN ?_ _ | refine below_set ?_ (by first | omega | (dsimp only; omega)) _)) hb
    clear hb
    have m3_0_0 : w3.cell? ⟨w.heap.size, 0, none⟩ = some (.int .i64 a.x) := by go_simp
    have m3_0_1 : w3.cell? ⟨w.heap.size, 1, none⟩ = some (.int .i64 a.y) := by go_simp
    have m3_0_2 : w3.cell? ⟨w.heap.size, 2, none⟩ = some (.bool a.far) := by go_simp
    have m3_1_0 : w3.cell? ⟨w.heap.size + 1, 0, none⟩ = some (.int .i64 b.x) := by go_simp
    have m3_1_1 : w3.cell? ⟨w.heap.size + 1, 1, none⟩ = some (.int .i64 b.y) := by go_simp
    have m3_1_2 : w3.cell? ⟨w.heap.size + 1, 2, none⟩ = some (.bool b.far) := by go_simp
    have m3_2_0 : w3.cell? ⟨w.heap.size + 1 + 1, 0, none⟩ = some (.int .i64 c.x) := by go_simp
    have m3_2_1 : w3.cell? ⟨w.heap.size + 1 + 1, 1, none⟩ = some (.int .i64 c.y) := by go_simp
    have m3_2_2 : w3.cell? ⟨w.heap.size + 1 + 1, 2, none⟩ = some (.bool c.far) := by go_simp
    have m3_3_0 : w3.cell? ⟨w.heap.size + 1 + 1 + 1, 0, none⟩ = some (.int .i64 r.x) := by go_simp
    have m3_3_1 : w3.cell? ⟨w.heap.size + 1 + 1 + 1, 1, none⟩ = some (.int .i64 r.y) := by go_simp
    have m3_3_2 : w3.cell? ⟨w.heap.size + 1 + 1 + 1, 2, none⟩ = some (.bool r.far) := by go_simp
    have m3_4_0 : w3.cell? ⟨w.heap.size + 1 + 1 + 1 + 1, 0, none⟩ = some (.int .i64 s.x) := by go_simp
    have m3_4_1 : w3.cell? ⟨w.heap.size + 1 + 1 + 1 + 1, 1, none⟩ = some (.int .i64 s.y) := by go_simp
    have m3_4_2 : w3.cell? ⟨w.heap.size + 1 + 1 + 1 + 1, 2, none⟩ = some (.bool s.far) := by go_simp
    have m3_5_0 : w3.cell? ⟨w.heap.size + 1 + 1 + 1 + 1 + 1, 0, none⟩ = some (.int .i64 C) := by go_simp
    have m3_5_1 : w3.cell? ⟨w.heap.size + 1 + 1 + 1 + 1 + 1, 1, none⟩ = some (.int .i64 S) := by go_simp
    clear m2_0_0 m2_0_1 m2_0_2 m2_1_0 m2_1_1 m2_1_2 m2_2_0 m2_2_1 m2_2_2 m2_3_0 m2_3_1 m2_3_2 m2_4_0 m2_4_1 m2_4_2 m2_5_0 m2_5_1
    clear hc3
    go_wp2_with fail
    refine (error_same (errV E1) E1 _ (hE.below (by repeat (first | exact hB3 | exact Below.refl _ _ | refine balloc ?_ _ | refine Below.drew ?_ | refine below_drewN ?_ _ | refine below_set ?_ (by first | omega | (dsimp only; omega)) _))) (Lib.hid rfl)).mono ?_; rintro e w4 ⟨rfl, hb⟩
    obtain ⟨hc4, hf4⟩ := bcell hb
    have z4 := hb.size
    try simp only [World.size_alloc, World.size_setCell, World.size_drew] at z4
    have s4_0 : w.heap.size < w4.heap.size := by omega
    have s4_1 : w.heap.size + 1 < w4.heap.size := by omega
    have s4_2 : w.heap.size + 1 + 1 < w4.heap.size := by omega
    have s4_3 : w.heap.size + 1 + 1 + 1 < w4.heap.size := by omega
    have s4_4 : w.heap.size + 1 + 1 + 1 + 1 < w4.heap.size := by omega
    have s4_5 : w.heap.size + 1 + 1 + 1 + 1 + 1 < w4.heap.size := by omega
    have hB4 : Below w.heap.size w w4 := below_seq (by repeat (first | exact hB3 | exact Below.refl _ _ | refine balloc ?_ _ | refine Below.drew ?_ | refine below_drewN ?_ _ | refine below_set ?_ (by first | omega | (dsimp only; omega)) _)) hb
    clear hb
    have m4_0_0 : w4.cell? ⟨w.heap.size, 0, none⟩ = some (.int .i64 a.x) := by go_simp
    have m4_0_1 : w4.cell? ⟨w.heap.size, 1, none⟩ = some (.int .i64 a.y) := by go_simp
    have m4_0_2 : w4.cell? ⟨w.heap.size, 2, none⟩ = some (.bool a.far) := by go_simp
    have m4_1_0 : w4.cell? ⟨w.heap.size + 1, 0, none⟩ = some (.int .i64 b.x) := by go_simp
    have m4_1_1 : w4.cell? ⟨w.heap.size + 1, 1, none⟩ = some (.int .i64 b.y) := by go_simp
    have m4_1_2 : w4.cell? ⟨w.heap.size + 1, 2, none⟩ = some (.bool b.far) := by go_simp
    have m4_2_0 : w4.cell? ⟨w.heap.size + 1 + 1, 0, none⟩ = some (.int .i64 c.x) := by go_simp
    have m4_2_1 : w4.cell? ⟨w.heap.size + 1 + 1, 1, none⟩ = some (.int .i64 c.y) := by go_simp
    have m4_2_2 : w4.cell? ⟨w.heap.size + 1 + 1, 2, none⟩ = some (.bool c.far) := by go_simp
    have m4_3_0 : w4.cell? ⟨w.heap.size + 1 + 1 + 1, 0, none⟩ = some (.int .i64 r.x) := by go_simp
    have m4_3_1 : w4.cell? ⟨w.heap.size + 1 + 1 + 1, 1, none⟩ = some (.int .i64 r.y) := by go_simp
    have m4_3_2 : w4.cell? ⟨w.heap.size + 1 + 1 + 1, 2, none⟩ = some (.bool r.far) := by go_simp
    have m4_4_0 : w4.cell? ⟨w.heap.size + 1 + 1 + 1 + 1, 0, none⟩ = some (.int .i64 s.x) := by go_simp
    have m4_4_1 : w4.cell? ⟨w.heap.size + 1 + 1 + 1 + 1, 1, none⟩ = some (.int .i64 s.y) := by go_simp
    have m4_4_2 : w4.cell? ⟨w.heap.size + 1 + 1 + 1 + 1, 2, none⟩ = some (.bool s.far) := by go_simp
    have m4_5_0 : w4.cell? ⟨w.heap.size + 1 + 1 + 1 + 1 + 1, 0, none⟩ = some (.int .i64 C) := by go_simp
    have m4_5_1 : w4.cell? ⟨w.heap.size + 1 + 1 + 1 + 1 + 1, 1, none⟩ = some (.int .i64 S) := by go_simp
    clear m3_0_0 m3_0_1 m3_0_2 m3_1_0 m3_1_1 m3_1_2 m3_2_0 m3_2_1 m3_2_2 m3_3_0 m3_3_1 m3_3_2 m3_4_0 m3_4_1 m3_4_2 m3_5_0 m3_5_1
    clear hc4
    go_wp2_with fail
    refine (rSecret_b x B1 _ jB1).mono ?_; rintro e w' ⟨rfl, rfl⟩
    go_wp2_with fail
    refine (rSecret_b k B2 _ jB2).mono ?_; rintro e w' ⟨rfl, rfl⟩
    go_upto_region 10 with fail
    go_cut [76] (fun s76 wx => s76 = .bool B3 ∧ Below w.heap.size w wx ∧ w.heap.size < wx.heap.size ∧ w.heap.size + 1 < wx.heap.size ∧ w.heap.size + 1 + 1 < wx.heap.size ∧ w.heap.size + 1 + 1 + 1 < wx.heap.size ∧ w.heap.size + 1 + 1 + 1 + 1 < wx.heap.size ∧ w.heap.size + 1 + 1 + 1 + 1 + 1 < wx.heap.size ∧ wx.cell? ⟨w.heap.size, 0, none⟩ = some (.int .i64 a.x) ∧ wx.cell? ⟨w.heap.size, 1, none⟩ = some (.int .i64 a.y) ∧ wx.cell? ⟨w.heap.size, 2, none⟩ = some (.bool a.far) ∧ wx.cell? ⟨w.heap.size + 1, 0, none⟩ = some (.int .i64 b.x) ∧ wx.cell? ⟨w.heap.size + 1, 1, none⟩ = some (.int .i64 b.y) ∧ wx.cell? ⟨w.heap.size + 1, 2, none⟩ = some (.bool b.far) ∧ wx.cell? ⟨w.heap.size + 1 + 1, 0, none⟩ = some (.int .i64 c.x) ∧ wx.cell? ⟨w.heap.size + 1 + 1, 1, none⟩ = some (.int .i64 c.y) ∧ wx.cell? ⟨w.heap.size + 1 + 1, 2, none⟩ = some (.bool c.far) ∧ wx.cell? ⟨w.heap.size + 1 + 1 + 1 + 1 + 1, 0, none⟩ = some (.int .i64 C) ∧ wx.cell? ⟨w.heap.size + 1 + 1 + 1 + 1 + 1, 1, none⟩ = some (.int .i64 S))
    case first =>
      cases B1 <;> cases B2
      · go_wp2_with fail
        go_meet
        exact ⟨(by rw [← jB3.out]; rfl), (by repeat (first | exact hB4 | exact Below.refl _ _ | refine balloc ?_ _ | refine Below.drew ?_ | refine below_drewN ?_ _ | refine below_set ?_ (by first | omega | (dsimp only; omega)) _)), (by first | omega | (simp only [World.size_alloc, World.size_setCell, World.size_drew]; omega)), (by first | omega | (simp only [World.size_alloc, World.size_setCell, World.size_drew]; omega)), (by first | omega | (simp only [World.size_alloc, World.size_setCell, World.size_drew]; omega)), (by first | omega | (simp only [World.size_alloc, World.size_setCell, World.size_drew]; omega)), (by first | omega | (simp only [World.size_alloc, World.size_setCell, World.size_drew]; omega)), (by first | omega | (simp only [World.size_alloc, World.size_setCell, World.size_drew]; omega)), (by go_simp), (by go_simp), (by go_simp), (by go_simp), (by go_simp), (by go_simp), (by go_simp), (by go_simp), (by go_simp), (by go_simp), (by go_simp)⟩
      · go_wp2_with fail
        go_meet
        exact ⟨(by rw [← jB3.out]; rfl), (by repeat (first | exact hB4 | exact Below.refl _ _ | refine balloc ?_ _ | refine Below.drew ?_ | refine below_drewN ?_ _ | refine below_set ?_ (by first | omega | (dsimp only; omega)) _)), (by first | omega | (simp only [World.size_alloc, World.size_setCell, World.size_drew]; omega)), (by first | omega | (simp only [World.size_alloc, World.size_setCell, World.size_drew]; omega)), (by first | omega | (simp only [World.size_alloc, World.size_setCell, World.size_drew]; omega)), (by first | omega | (simp only [World.size_alloc, World.size_setCell, World.size_drew]; omega)), (by first | omega | (simp only [World.size_alloc, World.size_setCell, World.size_drew]; omega)), (by first | omega | (simp only [World.size_alloc, World.size_setCell, World.size_drew]; omega)), (by go_simp), (by go_simp), (by go_simp), (by go_simp), (by go_simp), (by go_simp), (by go_simp), (by go_simp), (by go_simp), (by go_simp), (by go_simp)⟩
      · go_wp2_with fail
        go_meet
        exact ⟨(by rw [← jB3.out]; rfl), (by repeat (first | exact hB4 | exact Below.refl _ _ | refine balloc ?_ _ | refine Below.drew ?_ | refine below_drewN ?_ _ | refine below_set ?_ (by first | omega | (dsimp only; omega)) _)), (by first | omega | (simp only [World.size_alloc, World.size_setCell, World.size_drew]; omega)), (by first | omega | (simp only [World.size_alloc, World.size_setCell, World.size_drew]; omega)), (by first | omega | (simp only [World.size_alloc, World.size_setCell, World.size_drew]; omega)), (by first | omega | (simp only [World.size_alloc, World.size_setCell, World.size_drew]; omega)), (by first | omega | (simp only [World.size_alloc, World.size_setCell, World.size_drew]; omega)), (by first | omega | (simp only [World.size_alloc, World.size_setCell, World.size_drew]; omega)), (by go_simp), (by go_simp), (by go_simp), (by go_simp), (by go_simp), (by go_simp), (by go_simp), (by go_simp), (by go_simp), (by go_simp), (by go_simp)⟩
      · go_wp2_with fail
        go_meet
        exact ⟨(by rw [← jB3.out]; rfl), (by repeat (first | exact hB4 | exact Below.refl _ _ | refine balloc ?_ _ | refine Below.drew ?_ | refine below_drewN ?_ _ | refine below_set ?_ (by first | omega | (dsimp only; omega)) _)), (by first | omega | (simp only [World.size_alloc, World.size_setCell, World.size_drew]; omega)), (by first | omega | (simp only [World.size_alloc, World.size_setCell, World.size_drew]; omega)), (by first | omega | (simp only [World.size_alloc, World.size_setCell, World.size_drew]; omega)), (by first | omega | (simp only [World.size_alloc, World.size_setCell, World.size_drew]; omega)), (by first | omega | (simp only [World.size_alloc, World.size_setCell, World.size_drew]; omega)), (by first | omega | (simp only [World.size_alloc, World.size_setCell, World.size_drew]; omega)), (by go_simp), (by go_simp), (by go_simp), (by go_simp), (by go_simp), (by go_simp), (by go_simp), (by go_simp), (by go_simp), (by go_simp), (by go_simp)⟩
    case rest =>
      obtain ⟨w5, hwq⟩ : ∃ x, x = wc := ⟨_, rfl⟩
      subst hwq
      obtain ⟨rfl, hB5, s5_0, s5_1, s5_2, s5_3, s5_4, s5_5, m5_0_0, m5_0_1, m5_0_2, m5_1_0, m5_1_1, m5_1_2, m5_2_0, m5_2_1, m5_2_2, m5_3_0, m5_3_1⟩ := hcut
      clear m4_0_0 m4_0_1 m4_0_2 m4_1_0 m4_1_1 m4_1_2 m4_2_0 m4_2_1 m4_2_2 m4_3_0 m4_3_1 m4_3_2 m4_4_0 m4_4_1 m4_4_2 m4_5_0 m4_5_1
      go_upto_if 76 with fail
      go_cut [17] (fun s17 wx => s17 = .int .i64 E2 ∧ Below w.heap.size w wx ∧ w.heap.size < wx.heap.size ∧ w.heap.size + 1 < wx.heap.size ∧ w.heap.size + 1 + 1 < wx.heap.size ∧ w.heap.size + 1 + 1 + 1 < wx.heap.size ∧ w.heap.size + 1 + 1 + 1 + 1 < wx.heap.size ∧ w.heap.size + 1 + 1 + 1 + 1 + 1 < wx.heap.size ∧ wx.cell? ⟨w.heap.size, 0, none⟩ = some (.int .i64 a.x) ∧ wx.cell? ⟨w.heap.size, 1, none⟩ = some (.int .i64 a.y) ∧ wx.cell? ⟨w.heap.size, 2, none⟩ = some (.bool a.far) ∧ wx.cell? ⟨w.heap.size + 1, 0, none⟩ = some (.int .i64 b.x) ∧ wx.cell? ⟨w.heap.size + 1, 1, none⟩ = some (.int .i64 b.y) ∧ wx.cell? ⟨w.heap.size + 1, 2, none⟩ = some (.bool b.far) ∧ wx.cell? ⟨w.heap.size + 1 + 1, 0, none⟩ = some (.int .i64 c.x) ∧ wx.cell? ⟨w.heap.size + 1 + 1, 1, none⟩ = some (.int .i64 c.y) ∧ wx.cell? ⟨w.heap.size + 1 + 1, 2, none⟩ = some (.bool c.far) ∧ wx.cell? ⟨w.heap.size + 1 + 1 + 1 + 1 + 1, 0, none⟩ = some (.int .i64 C) ∧ wx.cell? ⟨w.heap.size + 1 + 1 + 1 + 1 + 1, 1, none⟩ = some (.int .i64 S))
      case first =>
        rcases h2.out with ⟨e1, e2⟩ | ⟨e1, e2⟩
        · subst e1 e2
          clear h2
          go_wp2_with fail
          go_meet
          exact ⟨rfl, (by repeat (first | exact hB5 | exact Below.refl _ _ | refine balloc ?_ _ | refine Below.drew ?_ | refine below_drewN ?_ _ | refine below_set ?_ (by first | omega | (dsimp only; omega)) _)), (by first | omega | (simp only [World.size_alloc, World.size_setCell, World.size_drew]; omega)), (by first | omega | (simp only [World.size_alloc, World.size_setCell, World.size_drew]; omega)), (by first | omega | (simp only [World.size_alloc, World.size_setCell, World.size_drew]; omega)), (by first | omega | (simp only [World.size_alloc, World.size_setCell, World.size_drew]; omega)), (by first | omega | (simp only [World.size_alloc, World.size_setCell, World.size_drew]; omega)), (by first | omega | (simp only [World.size_alloc, World.size_setCell, World.size_drew]; omega)), (by go_simp), (by go_simp), (by go_simp), (by go_simp), (by go_simp), (by go_simp), (by go_simp), (by go_simp), (by go_simp), (by go_simp), (by go_simp)⟩
        · skip
          subst e1
          replace e2 := Lib.hid e2
          clear h2
          go_wp2_with fail
          refine (refSpot_e b E2 _ e2).mono ?_; rintro e w6 ⟨rfl, hb⟩
          obtain ⟨hc6, hf6⟩ := bcell hb
          have z6 := hb.size
          try simp only [World.size_alloc, World.size_setCell, World.size_drew] at z6
          have s6_0 : w.heap.size < w6.heap.size := by omega
          have s6_1 : w.heap.size + 1 < w6.heap.size := by omega
          have s6_2 : w.heap.size + 1 + 1 < w6.heap.size := by omega
          have s6_3 : w.heap.size + 1 + 1 + 1 < w6.heap.size := by omega
          have s6_4 : w.heap.size + 1 + 1 + 1 + 1 < w6.heap.size := by omega
          have s6_5 : w.heap.size + 1 + 1 + 1 + 1 + 1 < w6.heap.size := by omega
          have hB6 : Below w.heap.size w w6 := below_seq (by repeat (first | exact hB5 | exact Below.refl _ _ | refine balloc ?_ _ | refine Below.drew ?_ | refine below_drewN ?_ _ | refine below_set ?_ (by first | omega | (dsimp only; omega)) _)) hb
          clear hb
          have m6_0_0 : w6.cell? ⟨w.heap.size, 0, none⟩ = some (.int .i64 a.x) := by go_simp
          have m6_0_1 : w6.cell? ⟨w.heap.size, 1, none⟩ = some (.int .i64 a.y) := by go_simp
          have m6_0_2 : w6.cell? ⟨w.heap.size, 2, none⟩ = some (.bool a.far) := by go_simp
          have m6_1_0 : w6.cell? ⟨w.heap.size + 1, 0, none⟩ = some (.int .i64 b.x) := by go_simp
          have m6_1_1 : w6.cell? ⟨w.heap.size + 1, 1, none⟩ = some (.int .i64 b.y) := by go_simp
          have m6_1_2 : w6.cell? ⟨w.heap.size + 1, 2, none⟩ = some (.bool b.far) := by go_simp
          have m6_2_0 : w6.cell? ⟨w.heap.size + 1 + 1, 0, none⟩ = some (.int .i64 c.x) := by go_simp
          have m6_2_1 : w6.cell? ⟨w.heap.size + 1 + 1, 1, none⟩ = some (.int .i64 c.y) := by go_simp
          have m6_2_2 : w6.cell? ⟨w.heap.size + 1 + 1, 2, none⟩ = some (.bool c.far) := by go_simp
          have m6_3_0 : w6.cell? ⟨w.heap.size + 1 + 1 + 1 + 1 + 1, 0, none⟩ = some (.int .i64 C) := by go_simp
          have m6_3_1 : w6.cell? ⟨w.heap.size + 1 + 1 + 1 + 1 + 1, 1, none⟩ = some (.int .i64 S) := by go_simp
          clear m5_0_0 m5_0_1 m5_0_2 m5_1_0 m5_1_1 m5_1_2 m5_2_0 m5_2_1 m5_2_2 m5_3_0 m5_3_1
          clear hc6
          go_wp2_with fail
          go_meet
          exact ⟨rfl, (by repeat (first | exact hB6 | exact Below.refl _ _ | refine balloc ?_ _ | refine Below.drew ?_ | refine below_drewN ?_ _ | refine below_set ?_ (by first | omega | (dsimp only; omega)) _)), (by first | omega | (simp only [World.size_alloc, World.size_setCell, World.size_drew]; omega)), (by first | omega | (simp only [World.size_alloc, World.size_setCell, World.size_drew]; omega)), (by first | omega | (simp only [World.size_alloc, World.size_setCell, World.size_drew]; omega)), (by first | omega | (simp only [World.size_alloc, World.size_setCell, World.size_drew]; omega)), (by first | omega | (simp only [World.size_alloc, World.size_setCell, World.size_drew]; omega)), (by first | omega | (simp only [World.size_alloc, World.size_setCell, World.size_drew]; omega)), (by go_simp), (by go_simp), (by go_simp), (by go_simp), (by go_simp), (by go_simp), (by go_simp), (by go_simp), (by go_simp), (by go_simp), (by go_simp)⟩
      case rest =>
        obtain ⟨w6, hwq⟩ : ∃ x, x = wc := ⟨_, rfl⟩
        subst hwq
        obtain ⟨rfl, hB6, s6_0, s6_1, s6_2, s6_3, s6_4, s6_5, m6_0_0, m6_0_1, m6_0_2, m6_1_0, m6_1_1, m6_1_2, m6_2_0, m6_2_1, m6_2_2, m6_3_0, m6_3_1⟩ := hcut
        clear m5_0_0 m5_0_1 m5_0_2 m5_1_0 m5_1_1 m5_1_2 m5_2_0 m5_2_1 m5_2_2 m5_3_0 m5_3_1
        clear h2
        go_upto_if 80 with fail
        go_cut [27] (fun s27 wx => True ∧ Below w.heap.size w wx ∧ w.heap.size < wx.heap.size ∧ w.heap.size + 1 < wx.heap.size ∧ w.heap.size + 1 + 1 < wx.heap.size ∧ w.heap.size + 1 + 1 + 1 < wx.heap.size ∧ w.heap.size + 1 + 1 + 1 + 1 < wx.heap.size ∧ w.heap.size + 1 + 1 + 1 + 1 + 1 < wx.heap.size ∧ w6.heap.size < wx.heap.size ∧ w6.heap.size + 1 < wx.heap.size ∧ w6.heap.size + 1 + 1 < wx.heap.size ∧ wx.cell? ⟨w.heap.size, 0, none⟩ = some (.int .i64 a.x) ∧ wx.cell? ⟨w.heap.size, 1, none⟩ = some (.int .i64 a.y) ∧ wx.cell? ⟨w.heap.size, 2, none⟩ = some (.bool a.far) ∧ wx.cell? ⟨w.heap.size + 1, 0, none⟩ = some (.int .i64 b.x) ∧ wx.cell? ⟨w.heap.size + 1, 1, none⟩ = some (.int .i64 b.y) ∧ wx.cell? ⟨w.heap.size + 1, 2, none⟩ = some (.bool b.far) ∧ wx.cell? ⟨w.heap.size + 1 + 1, 0, none⟩ = some (.int .i64 c.x) ∧ wx.cell? ⟨w.heap.size + 1 + 1, 1, none⟩ = some (.int .i64 c.y) ∧ wx.cell? ⟨w.heap.size + 1 + 1, 2, none⟩ = some (.bool c.far) ∧ wx.cell? ⟨w.heap.size + 1 + 1 + 1 + 1 + 1, 0, none⟩ = some (.int .i64 C) ∧ wx.cell? ⟨w.heap.size + 1 + 1 + 1 + 1 + 1, 1, none⟩ = some (.int .i64 S) ∧ wx.cell? ⟨w6.heap.size, 0, none⟩ = some (.int .i64 U.x) ∧ wx.cell? ⟨w6.heap.size, 1, none⟩ = some (.int .i64 U.y) ∧ wx.cell? ⟨w6.heap.size, 2, none⟩ = some (.bool U.far) ∧ wx.cell? ⟨w6.heap.size + 1, 0, none⟩ = some (.int .i64 V.x) ∧ wx.cell? ⟨w6.heap.size + 1, 1, none⟩ = some (.int .i64 V.y) ∧ wx.cell? ⟨w6.heap.size + 1, 2, none⟩ = some (.bool V.far) ∧ wx.cell? ⟨w6.heap.size + 1 + 1, 0, none⟩ = some (.int .i64 T) ∧ wx.cell? ⟨w6.heap.size + 1 + 1, 1, none⟩ = some (.int .i64 Y) ∧ wx.frozen? ⟨w6.heap.size, 0, none⟩ = false ∧ wx.frozen? ⟨w6.heap.size, 1, none⟩ = false ∧ wx.frozen? ⟨w6.heap.size, 2, none⟩ = false ∧ wx.frozen? ⟨w6.heap.size + 1, 0, none⟩ = false ∧ wx.frozen? ⟨w6.heap.size + 1, 1, none⟩ = false ∧ wx.frozen? ⟨w6.heap.size + 1, 2, none⟩ = false ∧ wx.frozen? ⟨w6.heap.size + 1 + 1, 0, none⟩ = false ∧ wx.frozen? ⟨w6.heap.size + 1 + 1, 1, none⟩ = false)
        case first =>
          rcases h3.out with ⟨e1, x1, x2, k1, k2, hj, hU, hV, hR, hQ, h5, hT, m0, m1, hY⟩ | ⟨e1, e2, e3, e4, e5⟩
          · subst e1 hY
            replace hj := Lib.hid hj
            replace hU := Lib.hid hU
            replace hV := Lib.hid hV
            replace hR := Lib.hid hR
            replace hQ := Lib.hid hQ
            replace h5 := Lib.hid h5
            replace hT := Lib.hid hT
            clear h3
            have xa : -9223372036854775808 ≤ x := by omega
            have xb : x ≤ 9223372036854775807 := by omega
            have ka : -9223372036854775808 ≤ k := by omega
            have kb : k ≤ 9223372036854775807 := by omega
            go_wp2_with fail
            refine (refBy_e x U _ xa xb hU).mono ?_; rintro e w7 ⟨rfl, hb⟩
            obtain ⟨hc7, hf7⟩ := bcell hb
            have z7 := hb.size
            try simp only [World.size_alloc, World.size_setCell, World.size_drew] at z7
            have s7_0 : w.heap.size < w7.heap.size := by omega
            have s7_1 : w.heap.size + 1 < w7.heap.size := by omega
            have s7_2 : w.heap.size + 1 + 1 < w7.heap.size := by omega
            have s7_3 : w.heap.size + 1 + 1 + 1 < w7.heap.size := by omega
            have s7_4 : w.heap.size + 1 + 1 + 1 + 1 < w7.heap.size := by omega
            have s7_5 : w.heap.size + 1 + 1 + 1 + 1 + 1 < w7.heap.size := by omega
            have s7_6 : w6.heap.size < w7.heap.size := by omega
            have s7_7 : w6.heap.size + 1 < w7.heap.size := by omega
            have s7_8 : w6.heap.size + 1 + 1 < w7.heap.size := by omega
            have hB7 : Below w.heap.size w w7 := below_seq (by repeat (first | exact hB6 | exact Below.refl _ _ | refine balloc ?_ _ | refine Below.drew ?_ | refine below_drewN ?_ _ | refine below_set ?_ (by first | omega | (dsimp only; omega)) _)) hb
            clear hb
            have m7_0_0 : w7.cell? ⟨w.heap.size, 0, none⟩ = some (.int .i64 a.x) := by go_simp
            have m7_0_1 : w7.cell? ⟨w.heap.size, 1, none⟩ = some (.int .i64 a.y) := by go_simp
            have m7_0_2 : w7.cell? ⟨w.heap.size, 2, none⟩ = some (.bool a.far) := by go_simp
            have m7_1_0 : w7.cell? ⟨w.heap.size + 1, 0, none⟩ = some (.int .i64 b.x) := by go_simp
            have m7_1_1 : w7.cell? ⟨w.heap.size + 1, 1, none⟩ = some (.int .i64 b.y) := by go_simp
            have m7_1_2 : w7.cell? ⟨w.heap.size + 1, 2, none⟩ = some (.bool b.far) := by go_simp
            have m7_2_0 : w7.cell? ⟨w.heap.size + 1 + 1, 0, none⟩ = some (.int .i64 c.x) := by go_simp
            have m7_2_1 : w7.cell? ⟨w.heap.size + 1 + 1, 1, none⟩ = some (.int .i64 c.y) := by go_simp
            have m7_2_2 : w7.cell? ⟨w.heap.size + 1 + 1, 2, none⟩ = some (.bool c.far) := by go_simp
            have m7_3_0 : w7.cell? ⟨w.heap.size + 1 + 1 + 1 + 1 + 1, 0, none⟩ = some (.int .i64 C) := by go_simp
            have m7_3_1 : w7.cell? ⟨w.heap.size + 1 + 1 + 1 + 1 + 1, 1, none⟩ = some (.int .i64 S) := by go_simp
            have m7_4_0 : w7.cell? ⟨w6.heap.size, 0, none⟩ = some (.int .i64 0) := by go_simp
            have m7_4_1 : w7.cell? ⟨w6.heap.size, 1, none⟩ = some (.int .i64 0) := by go_simp
            have m7_4_2 : w7.cell? ⟨w6.heap.size, 2, none⟩ = some (.bool false) := by go_simp
            have m7_5_0 : w7.cell? ⟨w6.heap.size + 1, 0, none⟩ = some (.int .i64 0) := by go_simp
            have m7_5_1 : w7.cell? ⟨w6.heap.size + 1, 1, none⟩ = some (.int .i64 0) := by go_simp
            have m7_5_2 : w7.cell? ⟨w6.heap.size + 1, 2, none⟩ = some (.bool false) := by go_simp
            have m7_6_0 : w7.cell? ⟨w6.heap.size + 1 + 1, 0, none⟩ = some (.int .i64 0) := by go_simp
            have m7_6_1 : w7.cell? ⟨w6.heap.size + 1 + 1, 1, none⟩ = some (.int .i64 0) := by go_simp
            clear m6_0_0 m6_0_1 m6_0_2 m6_1_0 m6_1_1 m6_1_2 m6_2_0 m6_2_1 m6_2_2 m6_3_0 m6_3_1
            clear hc7
            go_wp2_with fail
            refine (refTimes_e b V j x _ xa xb hj hV).mono ?_; rintro e w8 ⟨rfl, hb⟩
            obtain ⟨hc8, hf8⟩ := bcell hb
            have z8 := hb.size
            try simp only [World.size_alloc, World.size_setCell, World.size_drew] at z8
            have s8_0 : w.heap.size < w8.heap.size := by omega
            have s8_1 : w.heap.size + 1 < w8.heap.size := by omega
            have s8_2 : w.heap.size + 1 + 1 < w8.heap.size := by omega
            have s8_3 : w.heap.size + 1 + 1 + 1 < w8.heap.size := by omega
            have s8_4 : w.heap.size + 1 + 1 + 1 + 1 < w8.heap.size := by omega
            have s8_5 : w.heap.size + 1 + 1 + 1 + 1 + 1 < w8.heap.size := by omega
            have s8_6 : w6.heap.size < w8.heap.size := by omega
            have s8_7 : w6.heap.size + 1 < w8.heap.size := by omega
            have s8_8 : w6.heap.size + 1 + 1 < w8.heap.size := by omega
            have hB8 : Below w.heap.size w w8 := below_seq (by repeat (first | exact hB7 | exact Below.refl _ _ | refine balloc ?_ _ | refine Below.drew ?_ | refine below_drewN ?_ _ | refine below_set ?_ (by first | omega | (dsimp only; omega)) _)) hb
            clear hb
            have m8_0_0 : w8.cell? ⟨w.heap.size, 0, none⟩ = some (.int .i64 a.x) := by go_simp
            have m8_0_1 : w8.cell? ⟨w.heap.size, 1, none⟩ = some (.int .i64 a.y) := by go_simp
            have m8_0_2 : w8.cell? ⟨w.heap.size, 2, none⟩ = some (.bool a.far) := by go_simp
            have m8_1_0 : w8.cell? ⟨w.heap.size + 1, 0, none⟩ = some (.int .i64 b.x) := by go_simp
            have m8_1_1 : w8.cell? ⟨w.heap.size + 1, 1, none⟩ = some (.int .i64 b.y) := by go_simp
            have m8_1_2 : w8.cell? ⟨w.heap.size + 1, 2, none⟩ = some (.bool b.far) := by go_simp
            have m8_2_0 : w8.cell? ⟨w.heap.size + 1 + 1, 0, none⟩ = some (.int .i64 c.x) := by go_simp
            have m8_2_1 : w8.cell? ⟨w.heap.size + 1 + 1, 1, none⟩ = some (.int .i64 c.y) := by go_simp
            have m8_2_2 : w8.cell? ⟨w.heap.size + 1 + 1, 2, none⟩ = some (.bool c.far) := by go_simp
            have m8_3_0 : w8.cell? ⟨w.heap.size + 1 + 1 + 1 + 1 + 1, 0, none⟩ = some (.int .i64 C) := by go_simp
            have m8_3_1 : w8.cell? ⟨w.heap.size + 1 + 1 + 1 + 1 + 1, 1, none⟩ = some (.int .i64 S) := by go_simp
            have m8_4_0 : w8.cell? ⟨w6.heap.size, 0, none⟩ = some (.int .i64 U.x) := by go_simp
            have m8_4_1 : w8.cell? ⟨w6.heap.size, 1, none⟩ = some (.int .i64 U.y) := by go_simp
            have m8_4_2 : w8.cell? ⟨w6.heap.size, 2, none⟩ = some (.bool U.far) := by go_simp
            have m8_5_0 : w8.cell? ⟨w6.heap.size + 1, 0, none⟩ = some (.int .i64 0) := by go_simp
            have m8_5_1 : w8.cell? ⟨w6.heap.size + 1, 1, none⟩ = some (.int .i64 0) := by go_simp
            have m8_5_2 : w8.cell? ⟨w6.heap.size + 1, 2, none⟩ = some (.bool false) := by go_simp
            have m8_6_0 : w8.cell? ⟨w6.heap.size + 1 + 1, 0, none⟩ = some (.int .i64 0) := by go_simp
            have m8_6_1 : w8.cell? ⟨w6.heap.size + 1 + 1, 1, none⟩ = some (.int .i64 0) := by go_simp
            clear m7_0_0 m7_0_1 m7_0_2 m7_1_0 m7_1_1 m7_1_2 m7_2_0 m7_2_1 m7_2_2 m7_3_0 m7_3_1 m7_4_0 m7_4_1 m7_4_2 m7_5_0 m7_5_1 m7_5_2 m7_6_0 m7_6_1
            clear hc8
            go_wp2_with fail
            refine wp_region_grow Tryd.mixed (by kernel_rfl) ?_
            repeat (go_big_quiet_step ((first | (go_at_call 34; exact grow_of (refBy_e k R1 _ ka kb hR)) | (go_at_call 35; exact grow_of (refTimes_e b Q1 j k _ ka kb hj hQ)) | (go_at_call 29; exact grow_of (rEqAsk_e U b V R1 Q1 T _ h5 hT)))))
            refine wpQuiet_nil ?_
            intro _ hw'
            obtain ⟨x9, rfl⟩ := hw'
            have z9 := x9.h.size
            try simp only [World.size_alloc, World.size_setCell, World.size_drew] at z9
            have s9_0 : w.heap.size < x9.w.heap.size := by omega
            have s9_1 : w.heap.size + 1 < x9.w.heap.size := by omega
            have s9_2 : w.heap.size + 1 + 1 < x9.w.heap.size := by omega
            have s9_3 : w.heap.size + 1 + 1 + 1 < x9.w.heap.size := by omega
            have s9_4 : w.heap.size + 1 + 1 + 1 + 1 < x9.w.heap.size := by omega
            have s9_5 : w.heap.size + 1 + 1 + 1 + 1 + 1 < x9.w.heap.size := by omega
            have s9_6 : w6.heap.size < x9.w.heap.size := by omega
            have s9_7 : w6.heap.size + 1 < x9.w.heap.size := by omega
            have s9_8 : w6.heap.size + 1 + 1 < x9.w.heap.size := by omega
            have hB9 : Below w.heap.size w x9.w := below_seq (by repeat (first | exact hB8 | exact Below.refl _ _ | refine balloc ?_ _ | refine Below.drew ?_ | refine below_drewN ?_ _ | refine below_set ?_ (by first | omega | (dsimp only; omega)) _)) x9.h
            have m9_0_0 : x9.w.cell? ⟨w.heap.size, 0, none⟩ = some (.int .i64 a.x) := by go_simp
            have m9_0_1 : x9.w.cell? ⟨w.heap.size, 1, none⟩ = some (.int .i64 a.y) := by go_simp
            have m9_0_2 : x9.w.cell? ⟨w.heap.size, 2, none⟩ = some (.bool a.far) := by go_simp
            have m9_1_0 : x9.w.cell? ⟨w.heap.size + 1, 0, none⟩ = some (.int .i64 b.x) := by go_simp
            have m9_1_1 : x9.w.cell? ⟨w.heap.size + 1, 1, none⟩ = some (.int .i64 b.y) := by go_simp
            have m9_1_2 : x9.w.cell? ⟨w.heap.size + 1, 2, none⟩ = some (.bool b.far) := by go_simp
            have m9_2_0 : x9.w.cell? ⟨w.heap.size + 1 + 1, 0, none⟩ = some (.int .i64 c.x) := by go_simp
            have m9_2_1 : x9.w.cell? ⟨w.heap.size + 1 + 1, 1, none⟩ = some (.int .i64 c.y) := by go_simp
            have m9_2_2 : x9.w.cell? ⟨w.heap.size + 1 + 1, 2, none⟩ = some (.bool c.far) := by go_simp
            have m9_3_0 : x9.w.cell? ⟨w.heap.size + 1 + 1 + 1 + 1 + 1, 0, none⟩ = some (.int .i64 C) := by go_simp
            have m9_3_1 : x9.w.cell? ⟨w.heap.size + 1 + 1 + 1 + 1 + 1, 1, none⟩ = some (.int .i64 S) := by go_simp
            have m9_4_0 : x9.w.cell? ⟨w6.heap.size, 0, none⟩ = some (.int .i64 U.x) := by go_simp
            have m9_4_1 : x9.w.cell? ⟨w6.heap.size, 1, none⟩ = some (.int .i64 U.y) := by go_simp
            have m9_4_2 : x9.w.cell? ⟨w6.heap.size, 2, none⟩ = some (.bool U.far) := by go_simp
            have m9_5_0 : x9.w.cell? ⟨w6.heap.size + 1, 0, none⟩ = some (.int .i64 V.x) := by go_simp
            have m9_5_1 : x9.w.cell? ⟨w6.heap.size + 1, 1, none⟩ = some (.int .i64 V.y) := by go_simp
            have m9_5_2 : x9.w.cell? ⟨w6.heap.size + 1, 2, none⟩ = some (.bool V.far) := by go_simp
            have m9_6_0 : x9.w.cell? ⟨w6.heap.size + 1 + 1, 0, none⟩ = some (.int .i64 0) := by go_simp
            have m9_6_1 : x9.w.cell? ⟨w6.heap.size + 1 + 1, 1, none⟩ = some (.int .i64 0) := by go_simp
            clear m8_0_0 m8_0_1 m8_0_2 m8_1_0 m8_1_1 m8_1_2 m8_2_0 m8_2_1 m8_2_2 m8_3_0 m8_3_1 m8_4_0 m8_4_1 m8_4_2 m8_5_0 m8_5_1 m8_5_2 m8_6_0 m8_6_1
            go_wp2_with fail
            go_meet
            exact ⟨trivial, (by repeat (first | exact hB9 | exact Below.refl _ _ | refine balloc ?_ _ | refine Below.drew ?_ | refine below_drewN ?_ _ | refine below_set ?_ (by first | omega | (dsimp only; omega)) _)), (by first | omega | (simp only [World.size_alloc, World.size_setCell, World.size_drew]; omega)), (by first | omega | (simp only [World.size_alloc, World.size_setCell, World.size_drew]; omega)), (by first | omega | (simp only [World.size_alloc, World.size_setCell, World.size_drew]; omega)), (by first | omega | (simp only [World.size_alloc, World.size_setCell, World.size_drew]; omega)), (by first | omega | (simp only [World.size_alloc, World.size_setCell, World.size_drew]; omega)), (by first | omega | (simp only [World.size_alloc, World.size_setCell, World.size_drew]; omega)), (by first | omega | (simp only [World.size_alloc, World.size_setCell, World.size_drew]; omega)), (by first | omega | (simp only [World.size_alloc, World.size_setCell, World.size_drew]; omega)), (by first | omega | (simp only [World.size_alloc, World.size_setCell, World.size_drew]; omega)), (by go_simp), (by go_simp), (by go_simp), (by go_simp), (by go_simp), (by go_simp), (by go_simp), (by go_simp), (by go_simp), (by go_simp), (by go_simp), (by go_simp), (by go_simp), (by go_simp), (by go_simp), (by go_simp), (by go_simp), (by go_simp), (by go_simp), (by go_simp), (by go_simp), (by go_simp), (by go_simp), (by go_simp), (by go_simp), (by go_simp), (by go_simp)⟩
          · skip
            subst e2 e3 e4 e5
            clear h3
            go_wp2_with fail
            go_meet
            exact ⟨trivial, (by repeat (first | exact hB6 | exact Below.refl _ _ | refine balloc ?_ _ | refine Below.drew ?_ | refine below_drewN ?_ _ | refine below_set ?_ (by first | omega | (dsimp only; omega)) _)), (by first | omega | (simp only [World.size_alloc, World.size_setCell, World.size_drew]; omega)), (by first | omega | (simp only [World.size_alloc, World.size_setCell, World.size_drew]; omega)), (by first | omega | (simp only [World.size_alloc, World.size_setCell, World.size_drew]; omega)), (by first | omega | (simp only [World.size_alloc, World.size_setCell, World.size_drew]; omega)), (by first | omega | (simp only [World.size_alloc, World.size_setCell, World.size_drew]; omega)), (by first | omega | (simp only [World.size_alloc, World.size_setCell, World.size_drew]; omega)), (by first | omega | (simp only [World.size_alloc, World.size_setCell, World.size_drew]; omega)), (by first | omega | (simp only [World.size_alloc, World.size_setCell, World.size_drew]; omega)), (by first | omega | (simp only [World.size_alloc, World.size_setCell, World.size_drew]; omega)), (by go_simp), (by go_simp), (by go_simp), (by go_simp), (by go_simp), (by go_simp), (by go_simp), (by go_simp), (by go_simp), (by go_simp), (by go_simp), (by go_simp), (by go_simp), (by go_simp), (by go_simp), (by go_simp), (by go_simp), (by go_simp), (by go_simp), (by go_simp), (by go_simp), (by go_simp), (by go_simp), (by go_simp), (by go_simp), (by go_simp), (by go_simp)⟩
        case rest =>
          obtain ⟨w7, hwq⟩ : ∃ x, x = wc := ⟨_, rfl⟩
          subst hwq
          obtain ⟨-, hB7, s7_0, s7_1, s7_2, s7_3, s7_4, s7_5, s7_6, s7_7, s7_8, m7_0_0, m7_0_1, m7_0_2, m7_1_0, m7_1_1, m7_1_2, m7_2_0, m7_2_1, m7_2_2, m7_3_0, m7_3_1, m7_4_0, m7_4_1, m7_4_2, m7_5_0, m7_5_1, m7_5_2, m7_6_0, m7_6_1, y7_0_0, y7_0_1, y7_0_2, y7_1_0, y7_1_1, y7_1_2, y7_2_0, y7_2_1⟩ := hcut
          clear m6_0_0 m6_0_1 m6_0_2 m6_1_0 m6_1_1 m6_1_2 m6_2_0 m6_2_1 m6_2_2 m6_3_0 m6_3_1
          clear h3
          go_wp2_with fail
          refine (kPr.out _ (hF.below (by repeat (first | exact hB7 | exact Below.refl _ _ | refine balloc ?_ _ | refine Below.drew ?_ | refine below_drewN ?_ _ | refine below_set ?_ (by first | omega | (dsimp only; omega)) _)))).mono ?_; rintro e w8 ⟨rfl, hb⟩
          obtain ⟨hc8, hf8⟩ := bcell hb
          have z8 := hb.size
          try simp only [World.size_alloc, World.size_setCell, World.size_drew] at z8
          have s8_0 : w.heap.size < w8.heap.size := by omega
          have s8_1 : w.heap.size + 1 < w8.heap.size := by omega
          have s8_2 : w.heap.size + 1 + 1 < w8.heap.size := by omega
          have s8_3 : w.heap.size + 1 + 1 + 1 < w8.heap.size := by omega
          have s8_4 : w.heap.size + 1 + 1 + 1 + 1 < w8.heap.size := by omega
          have s8_5 : w.heap.size + 1 + 1 + 1 + 1 + 1 < w8.heap.size := by omega
          have s8_6 : w6.heap.size < w8.heap.size := by omega
          have s8_7 : w6.heap.size + 1 < w8.heap.size := by omega
          have s8_8 : w6.heap.size + 1 + 1 < w8.heap.size := by omega
          have hB8 : Below w.heap.size w w8 := below_seq (by repeat (first | exact hB7 | exact Below.refl _ _ | refine balloc ?_ _ | refine Below.drew ?_ | refine below_drewN ?_ _ | refine below_set ?_ (by first | omega | (dsimp only; omega)) _)) hb
          clear hb
          have m8_0_0 : w8.cell? ⟨w.heap.size, 0, none⟩ = some (.int .i64 a.x) := by go_simp
          have m8_0_1 : w8.cell? ⟨w.heap.size, 1, none⟩ = some (.int .i64 a.y) := by go_simp
          have m8_0_2 : w8.cell? ⟨w.heap.size, 2, none⟩ = some (.bool a.far) := by go_simp
          have m8_1_0 : w8.cell? ⟨w.heap.size + 1, 0, none⟩ = some (.int .i64 b.x) := by go_simp
          have m8_1_1 : w8.cell? ⟨w.heap.size + 1, 1, none⟩ = some (.int .i64 b.y) := by go_simp
          have m8_1_2 : w8.cell? ⟨w.heap.size + 1, 2, none⟩ = some (.bool b.far) := by go_simp
          have m8_2_0 : w8.cell? ⟨w.heap.size + 1 + 1, 0, none⟩ = some (.int .i64 c.x) := by go_simp
          have m8_2_1 : w8.cell? ⟨w.heap.size + 1 + 1, 1, none⟩ = some (.int .i64 c.y) := by go_simp
          have m8_2_2 : w8.cell? ⟨w.heap.size + 1 + 1, 2, none⟩ = some (.bool c.far) := by go_simp
          have m8_3_0 : w8.cell? ⟨w.heap.size + 1 + 1 + 1 + 1 + 1, 0, none⟩ = some (.int .i64 C) := by go_simp
          have m8_3_1 : w8.cell? ⟨w.heap.size + 1 + 1 + 1 + 1 + 1, 1, none⟩ = some (.int .i64 S) := by go_simp
          have m8_4_0 : w8.cell? ⟨w6.heap.size, 0, none⟩ = some (.int .i64 U.x) := by go_simp
          have m8_4_1 : w8.cell? ⟨w6.heap.size, 1, none⟩ = some (.int .i64 U.y) := by go_simp
          have m8_4_2 : w8.cell? ⟨w6.heap.size, 2, none⟩ = some (.bool U.far) := by go_simp
          have m8_5_0 : w8.cell? ⟨w6.heap.size + 1, 0, none⟩ = some (.int .i64 V.x) := by go_simp
          have m8_5_1 : w8.cell? ⟨w6.heap.size + 1, 1, none⟩ = some (.int .i64 V.y) := by go_simp
          have m8_5_2 : w8.cell? ⟨w6.heap.size + 1, 2, none⟩ = some (.bool V.far) := by go_simp
          have m8_6_0 : w8.cell? ⟨w6.heap.size + 1 + 1, 0, none⟩ = some (.int .i64 T) := by go_simp
          have m8_6_1 : w8.cell? ⟨w6.heap.size + 1 + 1, 1, none⟩ = some (.int .i64 Y) := by go_simp
          clear m7_0_0 m7_0_1 m7_0_2 m7_1_0 m7_1_1 m7_1_2 m7_2_0 m7_2_1 m7_2_2 m7_3_0 m7_3_1 m7_4_0 m7_4_1 m7_4_2 m7_5_0 m7_5_1 m7_5_2 m7_6_0 m7_6_1
          clear hc8
          go_wp2_with fail
          refine (error_same (errV E2) E2 _ (hE.below (by repeat (first | exact hB8 | exact Below.refl _ _ | refine balloc ?_ _ | refine Below.drew ?_ | refine below_drewN ?_ _ | refine below_set ?_ (by first | omega | (dsimp only; omega)) _))) (Lib.hid rfl)).mono ?_; rintro e w9 ⟨rfl, hb⟩
          obtain ⟨hc9, hf9⟩ := bcell hb
          have z9 := hb.size
          try simp only [World.size_alloc, World.size_setCell, World.size_drew] at z9
          have s9_0 : w.heap.size < w9.heap.size := by omega
          have s9_1 : w.heap.size + 1 < w9.heap.size := by omega
          have s9_2 : w.heap.size + 1 + 1 < w9.heap.size := by omega
          have s9_3 : w.heap.size + 1 + 1 + 1 < w9.heap.size := by omega
          have s9_4 : w.heap.size + 1 + 1 + 1 + 1 < w9.heap.size := by omega
          have s9_5 : w.heap.size + 1 + 1 + 1 + 1 + 1 < w9.heap.size := by omega
          have s9_6 : w6.heap.size < w9.heap.size := by omega
          have s9_7 : w6.heap.size + 1 < w9.heap.size := by omega
          have s9_8 : w6.heap.size + 1 + 1 < w9.heap.size := by omega
          have s9_9 : w8.heap.size < w9.heap.size := by omega
          have s9_10 : w8.heap.size + 1 < w9.heap.size := by omega
          have s9_11 : w8.heap.size + 1 + 1 < w9.heap.size := by omega
          have hB9 : Below w.heap.size w w9 := below_seq (by repeat (first | exact hB8 | exact Below.refl _ _ | refine balloc ?_ _ | refine Below.drew ?_ | refine below_drewN ?_ _ | refine below_set ?_ (by first | omega | (dsimp only; omega)) _)) hb
          clear hb
          have m9_0_0 : w9.cell? ⟨w.heap.size, 0, none⟩ = some (.int .i64 a.x) := by go_simp
          have m9_0_1 : w9.cell? ⟨w.heap.size, 1, none⟩ = some (.int .i64 a.y) := by go_simp
          have m9_0_2 : w9.cell? ⟨w.heap.size, 2, none⟩ = some (.bool a.far) := by go_simp
          have m9_1_0 : w9.cell? ⟨w.heap.size + 1, 0, none⟩ = some (.int .i64 b.x) := by go_simp
          have m9_1_1 : w9.cell? ⟨w.heap.size + 1, 1, none⟩ = some (.int .i64 b.y) := by go_simp
          have m9_1_2 : w9.cell? ⟨w.heap.size + 1, 2, none⟩ = some (.bool b.far) := by go_simp
          have m9_2_0 : w9.cell? ⟨w.heap.size + 1 + 1, 0, none⟩ = some (.int .i64 c.x) := by go_simp
          have m9_2_1 : w9.cell? ⟨w.heap.size + 1 + 1, 1, none⟩ = some (.int .i64 c.y) := by go_simp
          have m9_2_2 : w9.cell? ⟨w.heap.size + 1 + 1, 2, none⟩ = some (.bool c.far) := by go_simp
          have m9_3_0 : w9.cell? ⟨w.heap.size + 1 + 1 + 1 + 1 + 1, 0, none⟩ = some (.int .i64 C) := by go_simp
          have m9_3_1 : w9.cell? ⟨w.heap.size + 1 + 1 + 1 + 1 + 1, 1, none⟩ = some (.int .i64 S) := by go_simp
          have m9_4_0 : w9.cell? ⟨w6.heap.size, 0, none⟩ = some (.int .i64 U.x) := by go_simp
          have m9_4_1 : w9.cell? ⟨w6.heap.size, 1, none⟩ = some (.int .i64 U.y) := by go_simp
          have m9_4_2 : w9.cell? ⟨w6.heap.size, 2, none⟩ = some (.bool U.far) := by go_simp
          have m9_5_0 : w9.cell? ⟨w6.heap.size + 1, 0, none⟩ = some (.int .i64 V.x) := by go_simp
          have m9_5_1 : w9.cell? ⟨w6.heap.size + 1, 1, none⟩ = some (.int .i64 V.y) := by go_simp
          have m9_5_2 : w9.cell? ⟨w6.heap.size + 1, 2, none⟩ = some (.bool V.far) := by go_simp
          have m9_6_0 : w9.cell? ⟨w6.heap.size + 1 + 1, 0, none⟩ = some (.int .i64 T) := by go_simp
          have m9_6_1 : w9.cell? ⟨w6.heap.size + 1 + 1, 1, none⟩ = some (.int .i64 Y) := by go_simp
          have m9_7_0 : w9.cell? ⟨w8.heap.size, 0, none⟩ = some (.int .i64 U.x) := by go_simp
          have m9_7_1 : w9.cell? ⟨w8.heap.size, 1, none⟩ = some (.int .i64 U.y) := by go_simp
          have m9_7_2 : w9.cell? ⟨w8.heap.size, 2, none⟩ = some (.bool U.far) := by go_simp
          have m9_8_0 : w9.cell? ⟨w8.heap.size + 1, 0, none⟩ = some (.int .i64 V.x) := by go_simp
          have m9_8_1 : w9.cell? ⟨w8.heap.size + 1, 1, none⟩ = some (.int .i64 V.y) := by go_simp
          have m9_8_2 : w9.cell? ⟨w8.heap.size + 1, 2, none⟩ = some (.bool V.far) := by go_simp
          have m9_9_0 : w9.cell? ⟨w8.heap.size + 1 + 1, 0, none⟩ = some (.int .i64 T) := by go_simp
          have m9_9_1 : w9.cell? ⟨w8.heap.size + 1 + 1, 1, none⟩ = some (.int .i64 Y) := by go_simp
          clear m8_0_0 m8_0_1 m8_0_2 m8_1_0 m8_1_1 m8_1_2 m8_2_0 m8_2_1 m8_2_2 m8_3_0 m8_3_1 m8_4_0 m8_4_1 m8_4_2 m8_5_0 m8_5_1 m8_5_2 m8_6_0 m8_6_1
          clear hc9
          go_wp2_with fail
          refine (rSpots_e [a, b, c] _ 0 3 _ (by simp) (spots_at _ [a, b, c] _ _ _ (by simp) rfl) E3 jE3).mono ?_; rintro e w10 ⟨rfl, hb⟩
          obtain ⟨hc10, hf10⟩ := bcell hb
          have z10 := hb.size
          try simp only [World.size_alloc, World.size_setCell, World.size_drew] at z10
          have s10_0 : w.heap.size < w10.heap.size := by omega
          have s10_1 : w.heap.size + 1 < w10.heap.size := by omega
          have s10_2 : w.heap.size + 1 + 1 < w10.heap.size := by omega
          have s10_3 : w.heap.size + 1 + 1 + 1 < w10.heap.size := by omega
          have s10_4 : w.heap.size + 1 + 1 + 1 + 1 < w10.heap.size := by omega
          have s10_5 : w.heap.size + 1 + 1 + 1 + 1 + 1 < w10.heap.size := by omega
          have s10_6 : w6.heap.size < w10.heap.size := by omega
          have s10_7 : w6.heap.size + 1 < w10.heap.size := by omega
          have s10_8 : w6.heap.size + 1 + 1 < w10.heap.size := by omega
          have s10_9 : w8.heap.size < w10.heap.size := by omega
          have s10_10 : w8.heap.size + 1 < w10.heap.size := by omega
          have s10_11 : w8.heap.size + 1 + 1 < w10.heap.size := by omega
          have hB10 : Below w.heap.size w w10 := below_seq (by repeat (first | exact hB9 | exact Below.refl _ _ | refine balloc ?_ _ | refine Below.drew ?_ | refine below_drewN ?_ _ | refine below_set ?_ (by first | omega | (dsimp only; omega)) _)) hb
          clear hb
          have m10_0_0 : w10.cell? ⟨w.heap.size, 0, none⟩ = some (.int .i64 a.x) := by go_simp
          have m10_0_1 : w10.cell? ⟨w.heap.size, 1, none⟩ = some (.int .i64 a.y) := by go_simp
          have m10_0_2 : w10.cell? ⟨w.heap.size, 2, none⟩ = some (.bool a.far) := by go_simp
          have m10_1_0 : w10.cell? ⟨w.heap.size + 1, 0, none⟩ = some (.int .i64 b.x) := by go_simp
          have m10_1_1 : w10.cell? ⟨w.heap.size + 1, 1, none⟩ = some (.int .i64 b.y) := by go_simp
          have m10_1_2 : w10.cell? ⟨w.heap.size + 1, 2, none⟩ = some (.bool b.far) := by go_simp
          have m10_2_0 : w10.cell? ⟨w.heap.size + 1 + 1, 0, none⟩ = some (.int .i64 c.x) := by go_simp
          have m10_2_1 : w10.cell? ⟨w.heap.size + 1 + 1, 1, none⟩ = some (.int .i64 c.y) := by go_simp
          have m10_2_2 : w10.cell? ⟨w.heap.size + 1 + 1, 2, none⟩ = some (.bool c.far) := by go_simp
          have m10_3_0 : w10.cell? ⟨w.heap.size + 1 + 1 + 1 + 1 + 1, 0, none⟩ = some (.int .i64 C) := by go_simp
          have m10_3_1 : w10.cell? ⟨w.heap.size + 1 + 1 + 1 + 1 + 1, 1, none⟩ = some (.int .i64 S) := by go_simp
          clear m9_0_0 m9_0_1 m9_0_2 m9_1_0 m9_1_1 m9_1_2 m9_2_0 m9_2_1 m9_2_2 m9_3_0 m9_3_1 m9_4_0 m9_4_1 m9_4_2 m9_5_0 m9_5_1 m9_5_2 m9_6_0 m9_6_1 m9_7_0 m9_7_1 m9_7_2 m9_8_0 m9_8_1 m9_8_2 m9_9_0 m9_9_1
          clear hc10
          go_wp2_with fail
          refine (rRest_b C B5 _ jB5).mono ?_; rintro e w' ⟨rfl, rfl⟩
          go_wp2_with fail
          refine (rRest_b S B6 _ jB6).mono ?_; rintro e w' ⟨rfl, rfl⟩
          go_upto_region 25 with fail
          go_cut [150] (fun s150 wx => s150 = .bool B7 ∧ Below w.heap.size w wx ∧ w.heap.size < wx.heap.size ∧ w.heap.size + 1 < wx.heap.size ∧ w.heap.size + 1 + 1 < wx.heap.size ∧ w.heap.size + 1 + 1 + 1 < wx.heap.size ∧ w.heap.size + 1 + 1 + 1 + 1 < wx.heap.size ∧ w.heap.size + 1 + 1 + 1 + 1 + 1 < wx.heap.size ∧ w6.heap.size < wx.heap.size ∧ w6.heap.size + 1 < wx.heap.size ∧ w6.heap.size + 1 + 1 < wx.heap.size ∧ w8.heap.size < wx.heap.size ∧ w8.heap.size + 1 < wx.heap.size ∧ w8.heap.size + 1 + 1 < wx.heap.size ∧ wx.cell? ⟨w.heap.size, 0, none⟩ = some (.int .i64 a.x) ∧ wx.cell? ⟨w.heap.size, 1, none⟩ = some (.int .i64 a.y) ∧ wx.cell? ⟨w.heap.size, 2, none⟩ = some (.bool a.far) ∧ wx.cell? ⟨w.heap.size + 1, 0, none⟩ = some (.int .i64 b.x) ∧ wx.cell? ⟨w.heap.size + 1, 1, none⟩ = some (.int .i64 b.y) ∧ wx.cell? ⟨w.heap.size + 1, 2, none⟩ = some (.bool b.far) ∧ wx.cell? ⟨w.heap.size + 1 + 1, 0, none⟩ = some (.int .i64 c.x) ∧ wx.cell? ⟨w.heap.size + 1 + 1, 1, none⟩ = some (.int .i64 c.y) ∧ wx.cell? ⟨w.heap.size + 1 + 1, 2, none⟩ = some (.bool c.far) ∧ wx.cell? ⟨w.heap.size + 1 + 1 + 1 + 1 + 1, 0, none⟩ = some (.int .i64 C) ∧ wx.cell? ⟨w.heap.size + 1 + 1 + 1 + 1 + 1, 1, none⟩ = some (.int .i64 S))
          case first =>
            rcases h7.out with ⟨e1, e2, e3, e4⟩ | ⟨e1, e2, e3, e4⟩ | ⟨e1, e2, e3⟩ | ⟨e1, e2⟩
            · subst e1 e2 e3 e4
              clear h7
              go_wp2_with fail
              go_meet
              exact ⟨rfl, (by repeat (first | exact hB10 | exact Below.refl _ _ | refine balloc ?_ _ | refine Below.drew ?_ | refine below_drewN ?_ _ | refine below_set ?_ (by first | omega | (dsimp only; omega)) _)), (by first | omega | (simp only [World.size_alloc, World.size_setCell, World.size_drew]; omega)), (by first | omega | (simp only [World.size_alloc, World.size_setCell, World.size_drew]; omega)), (by first | omega | (simp only [World.size_alloc, World.size_setCell, World.size_drew]; omega)), (by first | omega | (simp only [World.size_alloc, World.size_setCell, World.size_drew]; omega)), (by first | omega | (simp only [World.size_alloc, World.size_setCell, World.size_drew]; omega)), (by first | omega | (simp only [World.size_alloc, World.size_setCell, World.size_drew]; omega)), (by first | omega | (simp only [World.size_alloc, World.size_setCell, World.size_drew]; omega)), (by first | omega | (simp only [World.size_alloc, World.size_setCell, World.size_drew]; omega)), (by first | omega | (simp only [World.size_alloc, World.size_setCell, World.size_drew]; omega)), (by first | omega | (simp only [World.size_alloc, World.size_setCell, World.size_drew]; omega)), (by first | omega | (simp only [World.size_alloc, World.size_setCell, World.size_drew]; omega)), (by first | omega | (simp only [World.size_alloc, World.size_setCell, World.size_drew]; omega)), (by go_simp), (by go_simp), (by go_simp), (by go_simp), (by go_simp), (by go_simp), (by go_simp), (by go_simp), (by go_simp), (by go_simp), (by go_simp)⟩
            · skip
              subst e1 e2 e3 e4
              clear h7
              go_wp2_with fail
              go_meet
              exact ⟨rfl, (by repeat (first | exact hB10 | exact Below.refl _ _ | refine balloc ?_ _ | refine Below.drew ?_ | refine below_drewN ?_ _ | refine below_set ?_ (by first | omega | (dsimp only; omega)) _)), (by first | omega | (simp only [World.size_alloc, World.size_setCell, World.size_drew]; omega)), (by first | omega | (simp only [World.size_alloc, World.size_setCell, World.size_drew]; omega)), (by first | omega | (simp only [World.size_alloc, World.size_setCell, World.size_drew]; omega)), (by first | omega | (simp only [World.size_alloc, World.size_setCell, World.size_drew]; omega)), (by first | omega | (simp only [World.size_alloc, World.size_setCell, World.size_drew]; omega)), (by first | omega | (simp only [World.size_alloc, World.size_setCell, World.size_drew]; omega)), (by first | omega | (simp only [World.size_alloc, World.size_setCell, World.size_drew]; omega)), (by first | omega | (simp only [World.size_alloc, World.size_setCell, World.size_drew]; omega)), (by first | omega | (simp only [World.size_alloc, World.size_setCell, World.size_drew]; omega)), (by first | omega | (simp only [World.size_alloc, World.size_setCell, World.size_drew]; omega)), (by first | omega | (simp only [World.size_alloc, World.size_setCell, World.size_drew]; omega)), (by first | omega | (simp only [World.size_alloc, World.size_setCell, World.size_drew]; omega)), (by go_simp), (by go_simp), (by go_simp), (by go_simp), (by go_simp), (by go_simp), (by go_simp), (by go_simp), (by go_simp), (by go_simp), (by go_simp)⟩
            · skip
              subst e1 e2 e3
              clear h7
              go_wp2_with fail
              go_meet
              exact ⟨rfl, (by repeat (first | exact hB10 | exact Below.refl _ _ | refine balloc ?_ _ | refine Below.drew ?_ | refine below_drewN ?_ _ | refine below_set ?_ (by first | omega | (dsimp only; omega)) _)), (by first | omega | (simp only [World.size_alloc, World.size_setCell, World.size_drew]; omega)), (by first | omega | (simp only [World.size_alloc, World.size_setCell, World.size_drew]; omega)), (by first | omega | (simp only [World.size_alloc, World.size_setCell, World.size_drew]; omega)), (by first | omega | (simp only [World.size_alloc, World.size_setCell, World.size_drew]; omega)), (by first | omega | (simp only [World.size_alloc, World.size_setCell, World.size_drew]; omega)), (by first | omega | (simp only [World.size_alloc, World.size_setCell, World.size_drew]; omega)), (by first | omega | (simp only [World.size_alloc, World.size_setCell, World.size_drew]; omega)), (by first | omega | (simp only [World.size_alloc, World.size_setCell, World.size_drew]; omega)), (by first | omega | (simp only [World.size_alloc, World.size_setCell, World.size_drew]; omega)), (by first | omega | (simp only [World.size_alloc, World.size_setCell, World.size_drew]; omega)), (by first | omega | (simp only [World.size_alloc, World.size_setCell, World.size_drew]; omega)), (by first | omega | (simp only [World.size_alloc, World.size_setCell, World.size_drew]; omega)), (by go_simp), (by go_simp), (by go_simp), (by go_simp), (by go_simp), (by go_simp), (by go_simp), (by go_simp), (by go_simp), (by go_simp), (by go_simp)⟩
            · skip
              subst e2
              clear h7
              go_wp2_with fail
              go_meet
              exact ⟨rfl, (by repeat (first | exact hB10 | exact Below.refl _ _ | refine balloc ?_ _ | refine Below.drew ?_ | refine below_drewN ?_ _ | refine below_set ?_ (by first | omega | (dsimp only; omega)) _)), (by first | omega | (simp only [World.size_alloc, World.size_setCell, World.size_drew]; omega)), (by first | omega | (simp only [World.size_alloc, World.size_setCell, World.size_drew]; omega)), (by first | omega | (simp only [World.size_alloc, World.size_setCell, World.size_drew]; omega)), (by first | omega | (simp only [World.size_alloc, World.size_setCell, World.size_drew]; omega)), (by first | omega | (simp only [World.size_alloc, World.size_setCell, World.size_drew]; omega)), (by first | omega | (simp only [World.size_alloc, World.size_setCell, World.size_drew]; omega)), (by first | omega | (simp only [World.size_alloc, World.size_setCell, World.size_drew]; omega)), (by first | omega | (simp only [World.size_alloc, World.size_setCell, World.size_drew]; omega)), (by first | omega | (simp only [World.size_alloc, World.size_setCell, World.size_drew]; omega)), (by first | omega | (simp only [World.size_alloc, World.size_setCell, World.size_drew]; omega)), (by first | omega | (simp only [World.size_alloc, World.size_setCell, World.size_drew]; omega)), (by first | omega | (simp only [World.size_alloc, World.size_setCell, World.size_drew]; omega)), (by go_simp), (by go_simp), (by go_simp), (by go_simp), (by go_simp), (by go_simp), (by go_simp), (by go_simp), (by go_simp), (by go_simp), (by go_simp)⟩
          case rest =>
            obtain ⟨w11, hwq⟩ : ∃ x, x = wc := ⟨_, rfl⟩
            subst hwq
            obtain ⟨rfl, hB11, s11_0, s11_1, s11_2, s11_3, s11_4, s11_5, s11_6, s11_7, s11_8, s11_9, s11_10, s11_11, m11_0_0, m11_0_1, m11_0_2, m11_1_0, m11_1_1, m11_1_2, m11_2_0, m11_2_1, m11_2_2, m11_3_0, m11_3_1⟩ := hcut
            clear m10_0_0 m10_0_1 m10_0_2 m10_1_0 m10_1_1 m10_1_2 m10_2_0 m10_2_1 m10_2_2 m10_3_0 m10_3_1
            clear h7
            go_upto_if 150 with fail
            go_cut [17] (fun s17 wx => s17 = .int .i64 E4 ∧ Below w.heap.size w wx ∧ w.heap.size < wx.heap.size ∧ w.heap.size + 1 < wx.heap.size ∧ w.heap.size + 1 + 1 < wx.heap.size ∧ w.heap.size + 1 + 1 + 1 < wx.heap.size ∧ w.heap.size + 1 + 1 + 1 + 1 < wx.heap.size ∧ w.heap.size + 1 + 1 + 1 + 1 + 1 < wx.heap.size ∧ w6.heap.size < wx.heap.size ∧ w6.heap.size + 1 < wx.heap.size ∧ w6.heap.size + 1 + 1 < wx.heap.size ∧ w8.heap.size < wx.heap.size ∧ w8.heap.size + 1 < wx.heap.size ∧ w8.heap.size + 1 + 1 < wx.heap.size ∧ wx.cell? ⟨w.heap.size, 0, none⟩ = some (.int .i64 a.x) ∧ wx.cell? ⟨w.heap.size, 1, none⟩ = some (.int .i64 a.y) ∧ wx.cell? ⟨w.heap.size, 2, none⟩ = some (.bool a.far) ∧ wx.cell? ⟨w.heap.size + 1, 0, none⟩ = some (.int .i64 b.x) ∧ wx.cell? ⟨w.heap.size + 1, 1, none⟩ = some (.int .i64 b.y) ∧ wx.cell? ⟨w.heap.size + 1, 2, none⟩ = some (.bool b.far) ∧ wx.cell? ⟨w.heap.size + 1 + 1, 0, none⟩ = some (.int .i64 c.x) ∧ wx.cell? ⟨w.heap.size + 1 + 1, 1, none⟩ = some (.int .i64 c.y) ∧ wx.cell? ⟨w.heap.size + 1 + 1, 2, none⟩ = some (.bool c.far) ∧ wx.cell? ⟨w.heap.size + 1 + 1 + 1 + 1 + 1, 0, none⟩ = some (.int .i64 C) ∧ wx.cell? ⟨w.heap.size + 1 + 1 + 1 + 1 + 1, 1, none⟩ = some (.int .i64 S))
            case first =>
              rcases h8.out with ⟨e1, e2⟩ | ⟨e1, e2⟩
              · subst e1 e2
                clear h8
                go_wp2_with fail
                go_meet
                exact ⟨rfl, (by repeat (first | exact hB11 | exact Below.refl _ _ | refine balloc ?_ _ | refine Below.drew ?_ | refine below_drewN ?_ _ | refine below_set ?_ (by first | omega | (dsimp only; omega)) _)), (by first | omega | (simp only [World.size_alloc, World.size_setCell, World.size_drew]; omega)), (by first | omega | (simp only [World.size_alloc, World.size_setCell, World.size_drew]; omega)), (by first | omega | (simp only [World.size_alloc, World.size_setCell, World.size_drew]; omega)), (by first | omega | (simp only [World.size_alloc, World.size_setCell, World.size_drew]; omega)), (by first | omega | (simp only [World.size_alloc, World.size_setCell, World.size_drew]; omega)), (by first | omega | (simp only [World.size_alloc, World.size_setCell, World.size_drew]; omega)), (by first | omega | (simp only [World.size_alloc, World.size_setCell, World.size_drew]; omega)), (by first | omega | (simp only [World.size_alloc, World.size_setCell, World.size_drew]; omega)), (by first | omega | (simp only [World.size_alloc, World.size_setCell, World.size_drew]; omega)), (by first | omega | (simp only [World.size_alloc, World.size_setCell, World.size_drew]; omega)), (by first | omega | (simp only [World.size_alloc, World.size_setCell, World.size_drew]; omega)), (by first | omega | (simp only [World.size_alloc, World.size_setCell, World.size_drew]; omega)), (by go_simp), (by go_simp), (by go_simp), (by go_simp), (by go_simp), (by go_simp), (by go_simp), (by go_simp), (by go_simp), (by go_simp), (by go_simp)⟩
              · skip
                subst e1 e2
                clear h8
                go_wp2_with fail
                go_meet
                exact ⟨rfl, (by repeat (first | exact hB11 | exact Below.refl _ _ | refine balloc ?_ _ | refine Below.drew ?_ | refine below_drewN ?_ _ | refine below_set ?_ (by first | omega | (dsimp only; omega)) _)), (by first | omega | (simp only [World.size_alloc, World.size_setCell, World.size_drew]; omega)), (by first | omega | (simp only [World.size_alloc, World.size_setCell, World.size_drew]; omega)), (by first | omega | (simp only [World.size_alloc, World.size_setCell, World.size_drew]; omega)), (by first | omega | (simp only [World.size_alloc, World.size_setCell, World.size_drew]; omega)), (by first | omega | (simp only [World.size_alloc, World.size_setCell, World.size_drew]; omega)), (by first | omega | (simp only [World.size_alloc, World.size_setCell, World.size_drew]; omega)), (by first | omega | (simp only [World.size_alloc, World.size_setCell, World.size_drew]; omega)), (by first | omega | (simp only [World.size_alloc, World.size_setCell, World.size_drew]; omega)), (by first | omega | (simp only [World.size_alloc, World.size_setCell, World.size_drew]; omega)), (by first | omega | (simp only [World.size_alloc, World.size_setCell, World.size_drew]; omega)), (by first | omega | (simp only [World.size_alloc, World.size_setCell, World.size_drew]; omega)), (by first | omega | (simp only [World.size_alloc, World.size_setCell, World.size_drew]; omega)), (by go_simp), (by go_simp), (by go_simp), (by go_simp), (by go_simp), (by go_simp), (by go_simp), (by go_simp), (by go_simp), (by go_simp), (by go_simp)⟩
            case rest =>
              obtain ⟨w12, hwq⟩ : ∃ x, x = wc := ⟨_, rfl⟩
              subst hwq
              obtain ⟨rfl, hB12, s12_0, s12_1, s12_2, s12_3, s12_4, s12_5, s12_6, s12_7, s12_8, s12_9, s12_10, s12_11, m12_0_0, m12_0_1, m12_0_2, m12_1_0, m12_1_1, m12_1_2, m12_2_0, m12_2_1, m12_2_2, m12_3_0, m12_3_1⟩ := hcut
              clear m11_0_0 m11_0_1 m11_0_2 m11_1_0 m11_1_1 m11_1_2 m11_2_0 m11_2_1 m11_2_2 m11_3_0 m11_3_1
              clear h8
              go_upto_region 27 with fail
              go_cut [32] (fun s32 wx => s32 = .bool RT ∧ Below w.heap.size w wx ∧ w.heap.size < wx.heap.size ∧ w.heap.size + 1 < wx.heap.size ∧ w.heap.size + 1 + 1 < wx.heap.size ∧ w.heap.size + 1 + 1 + 1 < wx.heap.size ∧ w.heap.size + 1 + 1 + 1 + 1 < wx.heap.size ∧ w.heap.size + 1 + 1 + 1 + 1 + 1 < wx.heap.size ∧ w6.heap.size < wx.heap.size ∧ w6.heap.size + 1 < wx.heap.size ∧ w6.heap.size + 1 + 1 < wx.heap.size ∧ w8.heap.size < wx.heap.size ∧ w8.heap.size + 1 < wx.heap.size ∧ w8.heap.size + 1 + 1 < wx.heap.size ∧ wx.cell? ⟨w.heap.size, 0, none⟩ = some (.int .i64 a.x) ∧ wx.cell? ⟨w.heap.size, 1, none⟩ = some (.int .i64 a.y) ∧ wx.cell? ⟨w.heap.size, 2, none⟩ = some (.bool a.far) ∧ wx.cell? ⟨w.heap.size + 1, 0, none⟩ = some (.int .i64 b.x) ∧ wx.cell? ⟨w.heap.size + 1, 1, none⟩ = some (.int .i64 b.y) ∧ wx.cell? ⟨w.heap.size + 1, 2, none⟩ = some (.bool b.far) ∧ wx.cell? ⟨w.heap.size + 1 + 1, 0, none⟩ = some (.int .i64 c.x) ∧ wx.cell? ⟨w.heap.size + 1 + 1, 1, none⟩ = some (.int .i64 c.y) ∧ wx.cell? ⟨w.heap.size + 1 + 1, 2, none⟩ = some (.bool c.far) ∧ wx.cell? ⟨w.heap.size + 1 + 1 + 1 + 1 + 1, 0, none⟩ = some (.int .i64 C) ∧ wx.cell? ⟨w.heap.size + 1 + 1 + 1 + 1 + 1, 1, none⟩ = some (.int .i64 S))
              case first =>
                rcases h6.out with ⟨e1, e2⟩ | ⟨e1, e2⟩
                · subst e1
                  replace e2 := Lib.hid e2
                  clear h6
                  go_wp2_with fail
                  refine (e2.out _).mono ?_; rintro e w13 ⟨rfl, hb⟩
                  obtain ⟨hc13, hf13⟩ := bcell hb
                  have z13 := hb.size
                  try simp only [World.size_alloc, World.size_setCell, World.size_drew] at z13
                  have s13_0 : w.heap.size < w13.heap.size := by omega
                  have s13_1 : w.heap.size + 1 < w13.heap.size := by omega
                  have s13_2 : w.heap.size + 1 + 1 < w13.heap.size := by omega
                  have s13_3 : w.heap.size + 1 + 1 + 1 < w13.heap.size := by omega
                  have s13_4 : w.heap.size + 1 + 1 + 1 + 1 < w13.heap.size := by omega
                  have s13_5 : w.heap.size + 1 + 1 + 1 + 1 + 1 < w13.heap.size := by omega
                  have s13_6 : w6.heap.size < w13.heap.size := by omega
                  have s13_7 : w6.heap.size + 1 < w13.heap.size := by omega
                  have s13_8 : w6.heap.size + 1 + 1 < w13.heap.size := by omega
                  have s13_9 : w8.heap.size < w13.heap.size := by omega
                  have s13_10 : w8.heap.size + 1 < w13.heap.size := by omega
                  have s13_11 : w8.heap.size + 1 + 1 < w13.heap.size := by omega
                  have hB13 : Below w.heap.size w w13 := below_seq (by repeat (first | exact hB12 | exact Below.refl _ _ | refine balloc ?_ _ | refine Below.drew ?_ | refine below_drewN ?_ _ | refine below_set ?_ (by first | omega | (dsimp only; omega)) _)) hb
                  clear hb
                  have m13_0_0 : w13.cell? ⟨w.heap.size, 0, none⟩ = some (.int .i64 a.x) := by go_simp
                  have m13_0_1 : w13.cell? ⟨w.heap.size, 1, none⟩ = some (.int .i64 a.y) := by go_simp
                  have m13_0_2 : w13.cell? ⟨w.heap.size, 2, none⟩ = some (.bool a.far) := by go_simp
                  have m13_1_0 : w13.cell? ⟨w.heap.size + 1, 0, none⟩ = some (.int .i64 b.x) := by go_simp
                  have m13_1_1 : w13.cell? ⟨w.heap.size + 1, 1, none⟩ = some (.int .i64 b.y) := by go_simp
                  have m13_1_2 : w13.cell? ⟨w.heap.size + 1, 2, none⟩ = some (.bool b.far) := by go_simp
                  have m13_2_0 : w13.cell? ⟨w.heap.size + 1 + 1, 0, none⟩ = some (.int .i64 c.x) := by go_simp
                  have m13_2_1 : w13.cell? ⟨w.heap.size + 1 + 1, 1, none⟩ = some (.int .i64 c.y) := by go_simp
                  have m13_2_2 : w13.cell? ⟨w.heap.size + 1 + 1, 2, none⟩ = some (.bool c.far) := by go_simp
                  have m13_3_0 : w13.cell? ⟨w.heap.size + 1 + 1 + 1 + 1 + 1, 0, none⟩ = some (.int .i64 C) := by go_simp
                  have m13_3_1 : w13.cell? ⟨w.heap.size + 1 + 1 + 1 + 1 + 1, 1, none⟩ = some (.int .i64 S) := by go_simp
                  clear m12_0_0 m12_0_1 m12_0_2 m12_1_0 m12_1_1 m12_1_2 m12_2_0 m12_2_1 m12_2_2 m12_3_0 m12_3_1
                  clear hc13
                  go_wp2_with fail
                  go_meet
                  exact ⟨rfl, (by repeat (first | exact hB13 | exact Below.refl _ _ | refine balloc ?_ _ | refine Below.drew ?_ | refine below_drewN ?_ _ | refine below_set ?_ (by first | omega | (dsimp only; omega)) _)), (by first | omega | (simp only [World.size_alloc, World.size_setCell, World.size_drew]; omega)), (by first | omega | (simp only [World.size_alloc, World.size_setCell, World.size_drew]; omega)), (by first | omega | (simp only [World.size_alloc, World.size_setCell, World.size_drew]; omega)), (by first | omega | (simp only [World.size_alloc, World.size_setCell, World.size_drew]; omega)), (by first | omega | (simp only [World.size_alloc, World.size_setCell, World.size_drew]; omega)), (by first | omega | (simp only [World.size_alloc, World.size_setCell, World.size_drew]; omega)), (by first | omega | (simp only [World.size_alloc, World.size_setCell, World.size_drew]; omega)), (by first | omega | (simp only [World.size_alloc, World.size_setCell, World.size_drew]; omega)), (by first | omega | (simp only [World.size_alloc, World.size_setCell, World.size_drew]; omega)), (by first | omega | (simp only [World.size_alloc, World.size_setCell, World.size_drew]; omega)), (by first | omega | (simp only [World.size_alloc, World.size_setCell, World.size_drew]; omega)), (by first | omega | (simp only [World.size_alloc, World.size_setCell, World.size_drew]; omega)), (by go_simp), (by go_simp), (by go_simp), (by go_simp), (by go_simp), (by go_simp), (by go_simp), (by go_simp), (by go_simp), (by go_simp), (by go_simp)⟩
                · skip
                  subst e2
                  clear h6
                  go_wp2_with fail
                  go_meet
                  exact ⟨rfl, (by repeat (first | exact hB12 | exact Below.refl _ _ | refine balloc ?_ _ | refine Below.drew ?_ | refine below_drewN ?_ _ | refine below_set ?_ (by first | omega | (dsimp only; omega)) _)), (by first | omega | (simp only [World.size_alloc, World.size_setCell, World.size_drew]; omega)), (by first | omega | (simp only [World.size_alloc, World.size_setCell, World.size_drew]; omega)), (by first | omega | (simp only [World.size_alloc, World.size_setCell, World.size_drew]; omega)), (by first | omega | (simp only [World.size_alloc, World.size_setCell, World.size_drew]; omega)), (by first | omega | (simp only [World.size_alloc, World.size_setCell, World.size_drew]; omega)), (by first | omega | (simp only [World.size_alloc, World.size_setCell, World.size_drew]; omega)), (by first | omega | (simp only [World.size_alloc, World.size_setCell, World.size_drew]; omega)), (by first | omega | (simp only [World.size_alloc, World.size_setCell, World.size_drew]; omega)), (by first | omega | (simp only [World.size_alloc, World.size_setCell, World.size_drew]; omega)), (by first | omega | (simp only [World.size_alloc, World.size_setCell, World.size_drew]; omega)), (by first | omega | (simp only [World.size_alloc, World.size_setCell, World.size_drew]; omega)), (by first | omega | (simp only [World.size_alloc, World.size_setCell, World.size_drew]; omega)), (by go_simp), (by go_simp), (by go_simp), (by go_simp), (by go_simp), (by go_simp), (by go_simp), (by go_simp), (by go_simp), (by go_simp), (by go_simp)⟩
              case rest =>
                obtain ⟨w13, hwq⟩ : ∃ x, x = wc := ⟨_, rfl⟩
                subst hwq
                obtain ⟨rfl, hB13, s13_0, s13_1, s13_2, s13_3, s13_4, s13_5, s13_6, s13_7, s13_8, s13_9, s13_10, s13_11, m13_0_0, m13_0_1, m13_0_2, m13_1_0, m13_1_1, m13_1_2, m13_2_0, m13_2_1, m13_2_2, m13_3_0, m13_3_1⟩ := hcut
                clear m12_0_0 m12_0_1 m12_0_2 m12_1_0 m12_1_1 m12_1_2 m12_2_0 m12_2_1 m12_2_2 m12_3_0 m12_3_1
                clear h6
                go_wp2_with fail
                refine (kVer.out _ (hF.below (by repeat (first | exact hB13 | exact Below.refl _ _ | refine balloc ?_ _ | refine Below.drew ?_ | refine below_drewN ?_ _ | refine below_set ?_ (by first | omega | (dsimp only; omega)) _)))).mono ?_; rintro e w14 ⟨rfl, hb⟩
                obtain ⟨hc14, hf14⟩ := bcell hb
                have z14 := hb.size
                try simp only [World.size_alloc, World.size_setCell, World.size_drew] at z14
                have s14_0 : w.heap.size < w14.heap.size := by omega
                have s14_1 : w.heap.size + 1 < w14.heap.size := by omega
                have s14_2 : w.heap.size + 1 + 1 < w14.heap.size := by omega
                have s14_3 : w.heap.size + 1 + 1 + 1 < w14.heap.size := by omega
                have s14_4 : w.heap.size + 1 + 1 + 1 + 1 < w14.heap.size := by omega
                have s14_5 : w.heap.size + 1 + 1 + 1 + 1 + 1 < w14.heap.size := by omega
                have s14_6 : w6.heap.size < w14.heap.size := by omega
                have s14_7 : w6.heap.size + 1 < w14.heap.size := by omega
                have s14_8 : w6.heap.size + 1 + 1 < w14.heap.size := by omega
                have s14_9 : w8.heap.size < w14.heap.size := by omega
                have s14_10 : w8.heap.size + 1 < w14.heap.size := by omega
                have s14_11 : w8.heap.size + 1 + 1 < w14.heap.size := by omega
                have hB14 : Below w.heap.size w w14 := below_seq (by repeat (first | exact hB13 | exact Below.refl _ _ | refine balloc ?_ _ | refine Below.drew ?_ | refine below_drewN ?_ _ | refine below_set ?_ (by first | omega | (dsimp only; omega)) _)) hb
                clear hb
                have m14_0_0 : w14.cell? ⟨w.heap.size, 0, none⟩ = some (.int .i64 a.x) := by go_simp
                have m14_0_1 : w14.cell? ⟨w.heap.size, 1, none⟩ = some (.int .i64 a.y) := by go_simp
                have m14_0_2 : w14.cell? ⟨w.heap.size, 2, none⟩ = some (.bool a.far) := by go_simp
                have m14_1_0 : w14.cell? ⟨w.heap.size + 1, 0, none⟩ = some (.int .i64 b.x) := by go_simp
                have m14_1_1 : w14.cell? ⟨w.heap.size + 1, 1, none⟩ = some (.int .i64 b.y) := by go_simp
                have m14_1_2 : w14.cell? ⟨w.heap.size + 1, 2, none⟩ = some (.bool b.far) := by go_simp
                have m14_2_0 : w14.cell? ⟨w.heap.size + 1 + 1, 0, none⟩ = some (.int .i64 c.x) := by go_simp
                have m14_2_1 : w14.cell? ⟨w.heap.size + 1 + 1, 1, none⟩ = some (.int .i64 c.y) := by go_simp
                have m14_2_2 : w14.cell? ⟨w.heap.size + 1 + 1, 2, none⟩ = some (.bool c.far) := by go_simp
                have m14_3_0 : w14.cell? ⟨w.heap.size + 1 + 1 + 1 + 1 + 1, 0, none⟩ = some (.int .i64 C) := by go_simp
                have m14_3_1 : w14.cell? ⟨w.heap.size + 1 + 1 + 1 + 1 + 1, 1, none⟩ = some (.int .i64 S) := by go_simp
                clear m13_0_0 m13_0_1 m13_0_2 m13_1_0 m13_1_1 m13_1_2 m13_2_0 m13_2_1 m13_2_2 m13_3_0 m13_3_1
                clear hc14
                go_wp2_with fail
                refine (error_same (errV E4) E4 _ (hE.below (by repeat (first | exact hB14 | exact Below.refl _ _ | refine balloc ?_ _ | refine Below.drew ?_ | refine below_drewN ?_ _ | refine below_set ?_ (by first | omega | (dsimp only; omega)) _))) (Lib.hid rfl)).mono ?_; rintro e w15 ⟨rfl, hb⟩
                obtain ⟨hc15, hf15⟩ := bcell hb
                have z15 := hb.size
                try simp only [World.size_alloc, World.size_setCell, World.size_drew] at z15
                have s15_0 : w.heap.size < w15.heap.size := by omega
                have s15_1 : w.heap.size + 1 < w15.heap.size := by omega
                have s15_2 : w.heap.size + 1 + 1 < w15.heap.size := by omega
                have s15_3 : w.heap.size + 1 + 1 + 1 < w15.heap.size := by omega
                have s15_4 : w.heap.size + 1 + 1 + 1 + 1 < w15.heap.size := by omega
                have s15_5 : w.heap.size + 1 + 1 + 1 + 1 + 1 < w15.heap.size := by omega
                have s15_6 : w6.heap.size < w15.heap.size := by omega
                have s15_7 : w6.heap.size + 1 < w15.heap.size := by omega
                have s15_8 : w6.heap.size + 1 + 1 < w15.heap.size := by omega
                have s15_9 : w8.heap.size < w15.heap.size := by omega
                have s15_10 : w8.heap.size + 1 < w15.heap.size := by omega
                have s15_11 : w8.heap.size + 1 + 1 < w15.heap.size := by omega
                have hB15 : Below w.heap.size w w15 := below_seq (by repeat (first | exact hB14 | exact Below.refl _ _ | refine balloc ?_ _ | refine Below.drew ?_ | refine below_drewN ?_ _ | refine below_set ?_ (by first | omega | (dsimp only; omega)) _)) hb
                clear hb
                have m15_0_0 : w15.cell? ⟨w.heap.size, 0, none⟩ = some (.int .i64 a.x) := by go_simp
                have m15_0_1 : w15.cell? ⟨w.heap.size, 1, none⟩ = some (.int .i64 a.y) := by go_simp
                have m15_0_2 : w15.cell? ⟨w.heap.size, 2, none⟩ = some (.bool a.far) := by go_simp
                have m15_1_0 : w15.cell? ⟨w.heap.size + 1, 0, none⟩ = some (.int .i64 b.x) := by go_simp
                have m15_1_1 : w15.cell? ⟨w.heap.size + 1, 1, none⟩ = some (.int .i64 b.y) := by go_simp
                have m15_1_2 : w15.cell? ⟨w.heap.size + 1, 2, none⟩ = some (.bool b.far) := by go_simp
                have m15_2_0 : w15.cell? ⟨w.heap.size + 1 + 1, 0, none⟩ = some (.int .i64 c.x) := by go_simp
                have m15_2_1 : w15.cell? ⟨w.heap.size + 1 + 1, 1, none⟩ = some (.int .i64 c.y) := by go_simp
                have m15_2_2 : w15.cell? ⟨w.heap.size + 1 + 1, 2, none⟩ = some (.bool c.far) := by go_simp
                have m15_3_0 : w15.cell? ⟨w.heap.size + 1 + 1 + 1 + 1 + 1, 0, none⟩ = some (.int .i64 C) := by go_simp
                have m15_3_1 : w15.cell? ⟨w.heap.size + 1 + 1 + 1 + 1 + 1, 1, none⟩ = some (.int .i64 S) := by go_simp
                clear m14_0_0 m14_0_1 m14_0_2 m14_1_0 m14_1_1 m14_1_2 m14_2_0 m14_2_1 m14_2_2 m14_3_0 m14_3_1
                clear hc15
                go_wp2
                go_ret
                exact ⟨rfl, (by repeat (first | exact hB15 | exact Below.refl _ _ | refine balloc ?_ _ | refine Below.drew ?_ | refine below_drewN ?_ _ | refine below_set ?_ (by first | omega | (dsimp only; omega)) _))⟩
end Go.Proofs.YtjnmknhfmmdoiaaDoor
