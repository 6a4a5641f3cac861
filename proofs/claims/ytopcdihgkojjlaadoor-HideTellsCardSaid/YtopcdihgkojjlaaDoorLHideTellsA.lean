/- The law HideTells, walked. -/
import Derived.Laws.Entries
import Derived.Test.YtopcdihgkojjlaaDoorQh
import Derived.Test.YtopcdihgkojjlaaDoorEq
import Derived.Test.YtopcdihgkojjlaaDoorTl
import Derived.Deep.DeepCutAuto
import Derived.BigQuiet
namespace Go.Proofs.YtopcdihgkojjlaaDoor
open Go.RowKit
set_option maxRecDepth 100000
set_option linter.unusedVariables false
set_option linter.unusedSimpArgs false
def HideGives (v r : Int) (W : Sp) : Prop := ∀ w : World, FarAt w → Calls Tryd.prog 45 #[.int .i64 v, .int .i64 r] w fun e w' => e = .returned (spV W) ∧ Below w.heap.size w w'
def InGives (c : Sp) (b : Bool) : Prop := ∀ w : World, Calls Tryd.prog 33 #[spV c] w fun e w' => e = .returned (.bool b) ∧ Below w.heap.size w w'
set_option maxHeartbeats 16000000 in
theorem hl_all (v r : Int) (c : Sp) (w : World) (hF : FarAt w) (hE : ErrAt w) (B1 B2 B3 B4 : Bool) (jB1 : Hid (resB v = B1)) (jB2 : Hid (resB r = B2)) (jB3 : Hid ((!(B1 && B2)) = B3)) (W : Sp) (E1 : Int)
    (hA : Hid ((B3 = false ∧ E1 = 0 ∧ HideGives v r W) ∨ (B3 = true ∧ E1 = 1 ∧ W = ⟨0, 0, false⟩)))
    (kHide : Hid (∀ w : World, FarAt w → Calls Tryd.prog 46 #[.int .i64 v, .int .i64 r] w fun e w' => e = .returned (.tuple #[spV W, errV E1]) ∧ Below w.heap.size w w'))
    (F0 G : Int) (P : Bool) (hF0 : Hid (sCheck c = F0)) (hG : Hid ((F0 = 0 ∧ G = E1) ∨ ((F0 == 0) = false ∧ G = F0)))
    (kOpen : Hid (∀ w : World, FarAt w → Calls Tryd.prog 47 #[spV c, .int .i64 v, .int .i64 r] w fun e w' => e = .returned (.tuple #[.bool P, errV G]) ∧ Below w.heap.size w w'))
    (hP : Hid ((G = 0 ∧ Sp.beq c W = P) ∨ ((G == 0) = false ∧ P = false)))
    (F1 F2 : Int) (h1 : Hid ((F0 = 0 ∧ InGives c true ∧ F1 = 0) ∨ (F0 = 0 ∧ InGives c false ∧ F1 = 3) ∨ ((F0 == 0) = false ∧ F1 = F0)))
    (jC4 : Hid ((F1 = 0 ∧ B1 = true ∧ B4 = false) ∨ (F1 = 0 ∧ B1 = false ∧ B4 = true) ∨ ((F1 == 0) = false ∧ B4 = false)))
    (hF2 : Hid ((B4 = true ∧ F2 = 1) ∨ (B4 = false ∧ F2 = F1)))
    (NN : Int) (kFind : Hid (∀ w : World, FarAt w → Calls Tryd.prog 48 #[spV c, .int .i64 v] w fun e w' => e = .returned (.tuple #[.int .i64 NN, errV F2]) ∧ Below w.heap.size w w'))
    (hN : Hid ((F2 = 0 ∧ 0 ≤ NN ∧ NN < 1013 ∧ HideGives v NN c) ∨ (F2 = 1 ∧ NN = 0) ∨ (F2 = 3 ∧ NN = 0))) :
    Calls Tryd.prog 7 #[.int .i64 v, .int .i64 r, spV c] w fun e w' => e = .returned (.bool true) ∧ Below w.heap.size w w' := by
  go_enter Tryd.func7, Tryd.ntmps7
  go_wp2_with fail
  refine (rRest_b v B1 _ jB1).mono ?_; rintro e w' ⟨rfl, rfl⟩
  go_wp2_with fail
  refine (rRest_b r B2 _ jB2).mono ?_; rintro e w' ⟨rfl, rfl⟩
  go_upto_region 5 with fail
  go_cut [30] (fun s30 wx => s30 = .bool B3 ∧ Below w.heap.size w wx ∧ w.heap.size < wx.heap.size ∧ w.heap.size + 1 < wx.heap.size ∧ wx.cell? ⟨w.heap.size, 0, none⟩ = some (.int .i64 c.x) ∧ wx.cell? ⟨w.heap.size, 1, none⟩ = some (.int .i64 c.y) ∧ wx.cell? ⟨w.heap.size, 2, none⟩ = some (.bool c.far) ∧ wx.cell? ⟨w.heap.size + 1, 0, none⟩ = some (.int .i64 0) ∧ wx.cell? ⟨w.heap.size + 1, 1, none⟩ = some (.int .i64 0) ∧ wx.cell? ⟨w.heap.size + 1, 2, none⟩ = some (.bool false) ∧ wx.frozen? ⟨w.heap.size + 1, 0, none⟩ = false ∧ wx.frozen? ⟨w.heap.size + 1, 1, none⟩ = false ∧ wx.frozen? ⟨w.heap.size + 1, 2, none⟩ = false)
  case first =>
    cases B1 <;> cases B2
    · go_wp2_with fail
      go_meet
      exact ⟨(by rw [← jB3.out]; rfl), (by repeat (first | exact Below.refl _ _ | refine balloc ?_ _ | refine Below.drew ?_ | refine below_drewN ?_ _ | refine below_set ?_ (by first | omega | (dsimp only; omega)) _)), (by first | omega | (simp only [World.size_alloc, World.size_setCell, World.size_drew]; omega)), (by first | omega | (simp only [World.size_alloc, World.size_setCell, World.size_drew]; omega)), (by go_simp), (by go_simp), (by go_simp), (by go_simp), (by go_simp), (by go_simp), (by go_simp), (by go_simp), (by go_simp)⟩
    · go_wp2_with fail
      go_meet
      exact ⟨(by rw [← jB3.out]; rfl), (by repeat (first | exact Below.refl _ _ | refine balloc ?_ _ | refine Below.drew ?_ | refine below_drewN ?_ _ | refine below_set ?_ (by first | omega | (dsimp only; omega)) _)), (by first | omega | (simp only [World.size_alloc, World.size_setCell, World.size_drew]; omega)), (by first | omega | (simp only [World.size_alloc, World.size_setCell, World.size_drew]; omega)), (by go_simp), (by go_simp), (by go_simp), (by go_simp), (by go_simp), (by go_simp), (by go_simp), (by go_simp), (by go_simp)⟩
    · go_wp2_with fail
      go_meet
      exact ⟨(by rw [← jB3.out]; rfl), (by repeat (first | exact Below.refl _ _ | refine balloc ?_ _ | refine Below.drew ?_ | refine below_drewN ?_ _ | refine below_set ?_ (by first | omega | (dsimp only; omega)) _)), (by first | omega | (simp only [World.size_alloc, World.size_setCell, World.size_drew]; omega)), (by first | omega | (simp only [World.size_alloc, World.size_setCell, World.size_drew]; omega)), (by go_simp), (by go_simp), (by go_simp), (by go_simp), (by go_simp), (by go_simp), (by go_simp), (by go_simp), (by go_simp)⟩
    · go_wp2_with fail
      go_meet
      exact ⟨(by rw [← jB3.out]; rfl), (by repeat (first | exact Below.refl _ _ | refine balloc ?_ _ | refine Below.drew ?_ | refine below_drewN ?_ _ | refine below_set ?_ (by first | omega | (dsimp only; omega)) _)), (by first | omega | (simp only [World.size_alloc, World.size_setCell, World.size_drew]; omega)), (by first | omega | (simp only [World.size_alloc, World.size_setCell, World.size_drew]; omega)), (by go_simp), (by go_simp), (by go_simp), (by go_simp), (by go_simp), (by go_simp), (by go_simp), (by go_simp), (by go_simp)⟩
  case rest =>
    obtain ⟨w1, hwq⟩ : ∃ x, x = wc := ⟨_, rfl⟩
    subst hwq
    obtain ⟨rfl, hB1, s1_0, s1_1, m1_0_0, m1_0_1, m1_0_2, m1_1_0, m1_1_1, m1_1_2, y1_0_0, y1_0_1, y1_0_2⟩ := hcut
    go_upto_if 30 with fail
    go_cut [7] (fun s7 wx => s7 = .int .i64 E1 ∧ Below w.heap.size w wx ∧ w.heap.size < wx.heap.size ∧ w.heap.size + 1 < wx.heap.size ∧ wx.cell? ⟨w.heap.size, 0, none⟩ = some (.int .i64 c.x) ∧ wx.cell? ⟨w.heap.size, 1, none⟩ = some (.int .i64 c.y) ∧ wx.cell? ⟨w.heap.size, 2, none⟩ = some (.bool c.far) ∧ wx.cell? ⟨w.heap.size + 1, 0, none⟩ = some (.int .i64 W.x) ∧ wx.cell? ⟨w.heap.size + 1, 1, none⟩ = some (.int .i64 W.y) ∧ wx.cell? ⟨w.heap.size + 1, 2, none⟩ = some (.bool W.far) ∧ wx.frozen? ⟨w.heap.size + 1, 0, none⟩ = false ∧ wx.frozen? ⟨w.heap.size + 1, 1, none⟩ = false ∧ wx.frozen? ⟨w.heap.size + 1, 2, none⟩ = false)
    case first =>
      rcases hA.out with ⟨e1, e2, e3⟩ | ⟨e1, e2, e3⟩
      · subst e1 e2
        have e3 := Lib.hid e3
        clear hA
        go_wp2_with fail
        refine (e3.out _ (hF.below (by repeat (first | exact hB1 | exact Below.refl _ _ | refine balloc ?_ _ | refine Below.drew ?_ | refine below_drewN ?_ _ | refine below_set ?_ (by first | omega | (dsimp only; omega)) _)))).mono ?_; rintro e w2 ⟨rfl, hb⟩
        obtain ⟨hc2, hf2⟩ := bcell hb
        have z2 := hb.size
        try simp only [World.size_alloc, World.size_setCell, World.size_drew] at z2
        have s2_0 : w.heap.size < w2.heap.size := by omega
        have s2_1 : w.heap.size + 1 < w2.heap.size := by omega
        have hB2 : Below w.heap.size w w2 := below_seq (by repeat (first | exact hB1 | exact Below.refl _ _ | refine balloc ?_ _ | refine Below.drew ?_ | refine below_drewN ?_ _ | refine below_set ?_ (by first | omega | (dsimp only; omega)) _)) hb
        clear hb
        have m2_0_0 : w2.cell? ⟨w.heap.size, 0, none⟩ = some (.int .i64 c.x) := by go_simp
        have m2_0_1 : w2.cell? ⟨w.heap.size, 1, none⟩ = some (.int .i64 c.y) := by go_simp
        have m2_0_2 : w2.cell? ⟨w.heap.size, 2, none⟩ = some (.bool c.far) := by go_simp
        have m2_1_0 : w2.cell? ⟨w.heap.size + 1, 0, none⟩ = some (.int .i64 0) := by go_simp
        have m2_1_1 : w2.cell? ⟨w.heap.size + 1, 1, none⟩ = some (.int .i64 0) := by go_simp
        have m2_1_2 : w2.cell? ⟨w.heap.size + 1, 2, none⟩ = some (.bool false) := by go_simp
        clear m1_0_0 m1_0_1 m1_0_2 m1_1_0 m1_1_1 m1_1_2
        clear hc2
        go_wp2_with fail
        go_meet
        exact ⟨rfl, (by repeat (first | exact hB2 | exact Below.refl _ _ | refine balloc ?_ _ | refine Below.drew ?_ | refine below_drewN ?_ _ | refine below_set ?_ (by first | omega | (dsimp only; omega)) _)), (by first | omega | (simp only [World.size_alloc, World.size_setCell, World.size_drew]; omega)), (by first | omega | (simp only [World.size_alloc, World.size_setCell, World.size_drew]; omega)), (by go_simp), (by go_simp), (by go_simp), (by go_simp), (by go_simp), (by go_simp), (by go_simp), (by go_simp), (by go_simp)⟩
      · subst e1 e2 e3
        clear hA
        go_wp2_with fail
        go_meet
        exact ⟨rfl, (by repeat (first | exact hB1 | exact Below.refl _ _ | refine balloc ?_ _ | refine Below.drew ?_ | refine below_drewN ?_ _ | refine below_set ?_ (by first | omega | (dsimp only; omega)) _)), (by first | omega | (simp only [World.size_alloc, World.size_setCell, World.size_drew]; omega)), (by first | omega | (simp only [World.size_alloc, World.size_setCell, World.size_drew]; omega)), (by go_simp), (by go_simp), (by go_simp), (by go_simp), (by go_simp), (by go_simp), (by go_simp), (by go_simp), (by go_simp)⟩
    case rest =>
      obtain ⟨w2, hwq⟩ : ∃ x, x = wc := ⟨_, rfl⟩
      subst hwq
      obtain ⟨rfl, hB2, s2_0, s2_1, m2_0_0, m2_0_1, m2_0_2, m2_1_0, m2_1_1, m2_1_2, y2_0_0, y2_0_1, y2_0_2⟩ := hcut
      clear m1_0_0 m1_0_1 m1_0_2 m1_1_0 m1_1_1 m1_1_2
      clear hA
      go_wp2_with fail
      refine (kHide.out _ (hF.below (by repeat (first | exact hB2 | exact Below.refl _ _ | refine balloc ?_ _ | refine Below.drew ?_ | refine below_drewN ?_ _ | refine below_set ?_ (by first | omega | (dsimp only; omega)) _)))).mono ?_; rintro e w3 ⟨rfl, hb⟩
      obtain ⟨hc3, hf3⟩ := bcell hb
      have z3 := hb.size
      try simp only [World.size_alloc, World.size_setCell, World.size_drew] at z3
      have s3_0 : w.heap.size < w3.heap.size := by omega
      have s3_1 : w.heap.size + 1 < w3.heap.size := by omega
      have hB3 : Below w.heap.size w w3 := below_seq (by repeat (first | exact hB2 | exact Below.refl _ _ | refine balloc ?_ _ | refine Below.drew ?_ | refine below_drewN ?_ _ | refine below_set ?_ (by first | omega | (dsimp only; omega)) _)) hb
      clear hb
      have m3_0_0 : w3.cell? ⟨w.heap.size, 0, none⟩ = some (.int .i64 c.x) := by go_simp
      have m3_0_1 : w3.cell? ⟨w.heap.size, 1, none⟩ = some (.int .i64 c.y) := by go_simp
      have m3_0_2 : w3.cell? ⟨w.heap.size, 2, none⟩ = some (.bool c.far) := by go_simp
      have m3_1_0 : w3.cell? ⟨w.heap.size + 1, 0, none⟩ = some (.int .i64 W.x) := by go_simp
      have m3_1_1 : w3.cell? ⟨w.heap.size + 1, 1, none⟩ = some (.int .i64 W.y) := by go_simp
      have m3_1_2 : w3.cell? ⟨w.heap.size + 1, 2, none⟩ = some (.bool W.far) := by go_simp
      clear m2_0_0 m2_0_1 m2_0_2 m2_1_0 m2_1_1 m2_1_2
      clear hc3
      go_wp2_with fail
      refine (error_same (errV E1) E1 _ (hE.below (by repeat (first | exact hB3 | exact Below.refl _ _ | refine balloc ?_ _ | refine Below.drew ?_ | refine below_drewN ?_ _ | refine below_set ?_ (by first | omega | (dsimp only; omega)) _))) (Lib.hid rfl)).mono ?_; rintro e w4 ⟨rfl, hb⟩
      obtain ⟨hc4, hf4⟩ := bcell hb
      have z4 := hb.size
      try simp only [World.size_alloc, World.size_setCell, World.size_drew] at z4
      have s4_0 : w.heap.size < w4.heap.size := by omega
      have s4_1 : w.heap.size + 1 < w4.heap.size := by omega
      have s4_2 : w3.heap.size < w4.heap.size := by omega
      have hB4 : Below w.heap.size w w4 := below_seq (by repeat (first | exact hB3 | exact Below.refl _ _ | refine balloc ?_ _ | refine Below.drew ?_ | refine below_drewN ?_ _ | refine below_set ?_ (by first | omega | (dsimp only; omega)) _)) hb
      clear hb
      have m4_0_0 : w4.cell? ⟨w.heap.size, 0, none⟩ = some (.int .i64 c.x) := by go_simp
      have m4_0_1 : w4.cell? ⟨w.heap.size, 1, none⟩ = some (.int .i64 c.y) := by go_simp
      have m4_0_2 : w4.cell? ⟨w.heap.size, 2, none⟩ = some (.bool c.far) := by go_simp
      have m4_1_0 : w4.cell? ⟨w.heap.size + 1, 0, none⟩ = some (.int .i64 W.x) := by go_simp
      have m4_1_1 : w4.cell? ⟨w.heap.size + 1, 1, none⟩ = some (.int .i64 W.y) := by go_simp
      have m4_1_2 : w4.cell? ⟨w.heap.size + 1, 2, none⟩ = some (.bool W.far) := by go_simp
      have m4_2_0 : w4.cell? ⟨w3.heap.size, 0, none⟩ = some (.int .i64 W.x) := by go_simp
      have m4_2_1 : w4.cell? ⟨w3.heap.size, 1, none⟩ = some (.int .i64 W.y) := by go_simp
      have m4_2_2 : w4.cell? ⟨w3.heap.size, 2, none⟩ = some (.bool W.far) := by go_simp
      clear m3_0_0 m3_0_1 m3_0_2 m3_1_0 m3_1_1 m3_1_2
      clear hc4
      go_wp2_with fail
      refine (refSpot_e c F0 _ hF0).mono ?_; rintro e w5 ⟨rfl, hb⟩
      obtain ⟨hc5, hf5⟩ := bcell hb
      have z5 := hb.size
      try simp only [World.size_alloc, World.size_setCell, World.size_drew] at z5
      have s5_0 : w.heap.size < w5.heap.size := by omega
      have s5_1 : w.heap.size + 1 < w5.heap.size := by omega
      have s5_2 : w3.heap.size < w5.heap.size := by omega
      have hB5 : Below w.heap.size w w5 := below_seq (by repeat (first | exact hB4 | exact Below.refl _ _ | refine balloc ?_ _ | refine Below.drew ?_ | refine below_drewN ?_ _ | refine below_set ?_ (by first | omega | (dsimp only; omega)) _)) hb
      clear hb
      have m5_0_0 : w5.cell? ⟨w.heap.size, 0, none⟩ = some (.int .i64 c.x) := by go_simp
      have m5_0_1 : w5.cell? ⟨w.heap.size, 1, none⟩ = some (.int .i64 c.y) := by go_simp
      have m5_0_2 : w5.cell? ⟨w.heap.size, 2, none⟩ = some (.bool c.far) := by go_simp
      have m5_1_0 : w5.cell? ⟨w.heap.size + 1, 0, none⟩ = some (.int .i64 W.x) := by go_simp
      have m5_1_1 : w5.cell? ⟨w.heap.size + 1, 1, none⟩ = some (.int .i64 W.y) := by go_simp
      have m5_1_2 : w5.cell? ⟨w.heap.size + 1, 2, none⟩ = some (.bool W.far) := by go_simp
      clear m4_0_0 m4_0_1 m4_0_2 m4_1_0 m4_1_1 m4_1_2 m4_2_0 m4_2_1 m4_2_2
      clear hc5
      go_upto_if 52 with fail
      go_cut [15] (fun s15 wx => s15 = .int .i64 G ∧ Below w.heap.size w wx ∧ w.heap.size < wx.heap.size ∧ w.heap.size + 1 < wx.heap.size ∧ w3.heap.size < wx.heap.size ∧ wx.cell? ⟨w.heap.size, 0, none⟩ = some (.int .i64 c.x) ∧ wx.cell? ⟨w.heap.size, 1, none⟩ = some (.int .i64 c.y) ∧ wx.cell? ⟨w.heap.size, 2, none⟩ = some (.bool c.far) ∧ wx.cell? ⟨w.heap.size + 1, 0, none⟩ = some (.int .i64 W.x) ∧ wx.cell? ⟨w.heap.size + 1, 1, none⟩ = some (.int .i64 W.y) ∧ wx.cell? ⟨w.heap.size + 1, 2, none⟩ = some (.bool W.far))
      case first =>
        rcases hG.out with ⟨e1, e2⟩ | ⟨e1, e2⟩
        · subst e1 e2
          clear hG
          go_wp2_with fail
          go_meet
          exact ⟨rfl, (by repeat (first | exact hB5 | exact Below.refl _ _ | refine balloc ?_ _ | refine Below.drew ?_ | refine below_drewN ?_ _ | refine below_set ?_ (by first | omega | (dsimp only; omega)) _)), (by first | omega | (simp only [World.size_alloc, World.size_setCell, World.size_drew]; omega)), (by first | omega | (simp only [World.size_alloc, World.size_setCell, World.size_drew]; omega)), (by first | omega | (simp only [World.size_alloc, World.size_setCell, World.size_drew]; omega)), (by go_simp), (by go_simp), (by go_simp), (by go_simp), (by go_simp), (by go_simp)⟩
        · subst e2
          clear hG
          go_wp2_with fail
          go_meet
          exact ⟨rfl, (by repeat (first | exact hB5 | exact Below.refl _ _ | refine balloc ?_ _ | refine Below.drew ?_ | refine below_drewN ?_ _ | refine below_set ?_ (by first | omega | (dsimp only; omega)) _)), (by first | omega | (simp only [World.size_alloc, World.size_setCell, World.size_drew]; omega)), (by first | omega | (simp only [World.size_alloc, World.size_setCell, World.size_drew]; omega)), (by first | omega | (simp only [World.size_alloc, World.size_setCell, World.size_drew]; omega)), (by go_simp), (by go_simp), (by go_simp), (by go_simp), (by go_simp), (by go_simp)⟩
      case rest =>
        obtain ⟨w6, hwq⟩ : ∃ x, x = wc := ⟨_, rfl⟩
        subst hwq
        obtain ⟨rfl, hB6, s6_0, s6_1, s6_2, m6_0_0, m6_0_1, m6_0_2, m6_1_0, m6_1_1, m6_1_2⟩ := hcut
        clear m5_0_0 m5_0_1 m5_0_2 m5_1_0 m5_1_1 m5_1_2
        clear hG
        go_wp2_with fail
        refine (kOpen.out _ (hF.below (by repeat (first | exact hB6 | exact Below.refl _ _ | refine balloc ?_ _ | refine Below.drew ?_ | refine below_drewN ?_ _ | refine below_set ?_ (by first | omega | (dsimp only; omega)) _)))).mono ?_; rintro e w7 ⟨rfl, hb⟩
        obtain ⟨hc7, hf7⟩ := bcell hb
        have z7 := hb.size
        try simp only [World.size_alloc, World.size_setCell, World.size_drew] at z7
        have s7_0 : w.heap.size < w7.heap.size := by omega
        have s7_1 : w.heap.size + 1 < w7.heap.size := by omega
        have s7_2 : w3.heap.size < w7.heap.size := by omega
        have hB7 : Below w.heap.size w w7 := below_seq (by repeat (first | exact hB6 | exact Below.refl _ _ | refine balloc ?_ _ | refine Below.drew ?_ | refine below_drewN ?_ _ | refine below_set ?_ (by first | omega | (dsimp only; omega)) _)) hb
        clear hb
        have m7_0_0 : w7.cell? ⟨w.heap.size, 0, none⟩ = some (.int .i64 c.x) := by go_simp
        have m7_0_1 : w7.cell? ⟨w.heap.size, 1, none⟩ = some (.int .i64 c.y) := by go_simp
        have m7_0_2 : w7.cell? ⟨w.heap.size, 2, none⟩ = some (.bool c.far) := by go_simp
        have m7_1_0 : w7.cell? ⟨w.heap.size + 1, 0, none⟩ = some (.int .i64 W.x) := by go_simp
        have m7_1_1 : w7.cell? ⟨w.heap.size + 1, 1, none⟩ = some (.int .i64 W.y) := by go_simp
        have m7_1_2 : w7.cell? ⟨w.heap.size + 1, 2, none⟩ = some (.bool W.far) := by go_simp
        clear m6_0_0 m6_0_1 m6_0_2 m6_1_0 m6_1_1 m6_1_2
        clear hc7
        go_upto_region 15 with fail
        go_cut [17] (fun s17 wx => s17 = .bool true ∧ Below w.heap.size w wx ∧ w.heap.size < wx.heap.size ∧ w.heap.size + 1 < wx.heap.size ∧ w3.heap.size < wx.heap.size ∧ wx.cell? ⟨w.heap.size, 0, none⟩ = some (.int .i64 c.x) ∧ wx.cell? ⟨w.heap.size, 1, none⟩ = some (.int .i64 c.y) ∧ wx.cell? ⟨w.heap.size, 2, none⟩ = some (.bool c.far) ∧ wx.cell? ⟨w.heap.size + 1, 0, none⟩ = some (.int .i64 W.x) ∧ wx.cell? ⟨w.heap.size + 1, 1, none⟩ = some (.int .i64 W.y) ∧ wx.cell? ⟨w.heap.size + 1, 2, none⟩ = some (.bool W.far))
        case first =>
          rcases hP.out with ⟨e1, e2⟩ | ⟨e1, e2⟩
          · subst e1
            clear hP
            go_wp2_with fail
            refine (error_same (errV 0) 0 _ (hE.below (by repeat (first | exact hB7 | exact Below.refl _ _ | refine balloc ?_ _ | refine Below.drew ?_ | refine below_drewN ?_ _ | refine below_set ?_ (by first | omega | (dsimp only; omega)) _))) (Lib.hid rfl)).mono ?_; rintro e w8 ⟨rfl, hb⟩
            obtain ⟨hc8, hf8⟩ := bcell hb
            have z8 := hb.size
            try simp only [World.size_alloc, World.size_setCell, World.size_drew] at z8
            have s8_0 : w.heap.size < w8.heap.size := by omega
            have s8_1 : w.heap.size + 1 < w8.heap.size := by omega
            have s8_2 : w3.heap.size < w8.heap.size := by omega
            have hB8 : Below w.heap.size w w8 := below_seq (by repeat (first | exact hB7 | exact Below.refl _ _ | refine balloc ?_ _ | refine Below.drew ?_ | refine below_drewN ?_ _ | refine below_set ?_ (by first | omega | (dsimp only; omega)) _)) hb
            clear hb
            have m8_0_0 : w8.cell? ⟨w.heap.size, 0, none⟩ = some (.int .i64 c.x) := by go_simp
            have m8_0_1 : w8.cell? ⟨w.heap.size, 1, none⟩ = some (.int .i64 c.y) := by go_simp
            have m8_0_2 : w8.cell? ⟨w.heap.size, 2, none⟩ = some (.bool c.far) := by go_simp
            have m8_1_0 : w8.cell? ⟨w.heap.size + 1, 0, none⟩ = some (.int .i64 W.x) := by go_simp
            have m8_1_1 : w8.cell? ⟨w.heap.size + 1, 1, none⟩ = some (.int .i64 W.y) := by go_simp
            have m8_1_2 : w8.cell? ⟨w.heap.size + 1, 2, none⟩ = some (.bool W.far) := by go_simp
            clear m7_0_0 m7_0_1 m7_0_2 m7_1_0 m7_1_1 m7_1_2
            clear hc8
            go_wp2_with fail
            go_meet
            exact ⟨rfl, (by repeat (first | exact hB8 | exact Below.refl _ _ | refine balloc ?_ _ | refine Below.drew ?_ | refine below_drewN ?_ _ | refine below_set ?_ (by first | omega | (dsimp only; omega)) _)), (by first | omega | (simp only [World.size_alloc, World.size_setCell, World.size_drew]; omega)), (by first | omega | (simp only [World.size_alloc, World.size_setCell, World.size_drew]; omega)), (by first | omega | (simp only [World.size_alloc, World.size_setCell, World.size_drew]; omega)), (by go_simp), (by go_simp), (by go_simp), (by go_simp), (by go_simp), (by go_simp)⟩
          · subst e2
            clear hP
            go_wp2_with fail
            refine (error_same (errV G) G _ (hE.below (by repeat (first | exact hB7 | exact Below.refl _ _ | refine balloc ?_ _ | refine Below.drew ?_ | refine below_drewN ?_ _ | refine below_set ?_ (by first | omega | (dsimp only; omega)) _))) (Lib.hid rfl)).mono ?_; rintro e w8 ⟨rfl, hb⟩
            obtain ⟨hc8, hf8⟩ := bcell hb
            have z8 := hb.size
            try simp only [World.size_alloc, World.size_setCell, World.size_drew] at z8
            have s8_0 : w.heap.size < w8.heap.size := by omega
            have s8_1 : w.heap.size + 1 < w8.heap.size := by omega
            have s8_2 : w3.heap.size < w8.heap.size := by omega
            have hB8 : Below w.heap.size w w8 := below_seq (by repeat (first | exact hB7 | exact Below.refl _ _ | refine balloc ?_ _ | refine Below.drew ?_ | refine below_drewN ?_ _ | refine below_set ?_ (by first | omega | (dsimp only; omega)) _)) hb
            clear hb
            have m8_0_0 : w8.cell? ⟨w.heap.size, 0, none⟩ = some (.int .i64 c.x) := by go_simp
            have m8_0_1 : w8.cell? ⟨w.heap.size, 1, none⟩ = some (.int .i64 c.y) := by go_simp
            have m8_0_2 : w8.cell? ⟨w.heap.size, 2, none⟩ = some (.bool c.far) := by go_simp
            have m8_1_0 : w8.cell? ⟨w.heap.size + 1, 0, none⟩ = some (.int .i64 W.x) := by go_simp
            have m8_1_1 : w8.cell? ⟨w.heap.size + 1, 1, none⟩ = some (.int .i64 W.y) := by go_simp
            have m8_1_2 : w8.cell? ⟨w.heap.size + 1, 2, none⟩ = some (.bool W.far) := by go_simp
            clear m7_0_0 m7_0_1 m7_0_2 m7_1_0 m7_1_1 m7_1_2
            clear hc8
            go_wp2_with fail
            go_meet
            exact ⟨rfl, (by repeat (first | exact hB8 | exact Below.refl _ _ | refine balloc ?_ _ | refine Below.drew ?_ | refine below_drewN ?_ _ | refine below_set ?_ (by first | omega | (dsimp only; omega)) _)), (by first | omega | (simp only [World.size_alloc, World.size_setCell, World.size_drew]; omega)), (by first | omega | (simp only [World.size_alloc, World.size_setCell, World.size_drew]; omega)), (by first | omega | (simp only [World.size_alloc, World.size_setCell, World.size_drew]; omega)), (by go_simp), (by go_simp), (by go_simp), (by go_simp), (by go_simp), (by go_simp)⟩
        case rest =>
          obtain ⟨w8, hwq⟩ : ∃ x, x = wc := ⟨_, rfl⟩
          subst hwq
          obtain ⟨rfl, hB8, s8_0, s8_1, s8_2, m8_0_0, m8_0_1, m8_0_2, m8_1_0, m8_1_1, m8_1_2⟩ := hcut
          clear m7_0_0 m7_0_1 m7_0_2 m7_1_0 m7_1_1 m7_1_2
          clear hP
          go_upto_if 76 with fail
          go_cut [14, 18] (fun s14 s18 wx => s14 = .int .i64 F1 ∧ Below w.heap.size w wx ∧ w.heap.size < wx.heap.size ∧ w.heap.size + 1 < wx.heap.size ∧ w3.heap.size < wx.heap.size ∧ wx.cell? ⟨w.heap.size, 0, none⟩ = some (.int .i64 c.x) ∧ wx.cell? ⟨w.heap.size, 1, none⟩ = some (.int .i64 c.y) ∧ wx.cell? ⟨w.heap.size, 2, none⟩ = some (.bool c.far) ∧ wx.cell? ⟨w.heap.size + 1, 0, none⟩ = some (.int .i64 W.x) ∧ wx.cell? ⟨w.heap.size + 1, 1, none⟩ = some (.int .i64 W.y) ∧ wx.cell? ⟨w.heap.size + 1, 2, none⟩ = some (.bool W.far))
          case first =>
            rcases h1.out with ⟨e1, e2, e3⟩ | ⟨e1, e2, e3⟩ | ⟨e1, e2⟩
            · subst e1 e3
              have e2 := Lib.hid e2
              clear h1
              go_wp2_with fail
              refine (e2.out _).mono ?_; rintro e w9 ⟨rfl, hb⟩
              obtain ⟨hc9, hf9⟩ := bcell hb
              have z9 := hb.size
              try simp only [World.size_alloc, World.size_setCell, World.size_drew] at z9
              have s9_0 : w.heap.size < w9.heap.size := by omega
              have s9_1 : w.heap.size + 1 < w9.heap.size := by omega
              have s9_2 : w3.heap.size < w9.heap.size := by omega
              have hB9 : Below w.heap.size w w9 := below_seq (by repeat (first | exact hB8 | exact Below.refl _ _ | refine balloc ?_ _ | refine Below.drew ?_ | refine below_drewN ?_ _ | refine below_set ?_ (by first | omega | (dsimp only; omega)) _)) hb
              clear hb
              have m9_0_0 : w9.cell? ⟨w.heap.size, 0, none⟩ = some (.int .i64 c.x) := by go_simp
              have m9_0_1 : w9.cell? ⟨w.heap.size, 1, none⟩ = some (.int .i64 c.y) := by go_simp
              have m9_0_2 : w9.cell? ⟨w.heap.size, 2, none⟩ = some (.bool c.far) := by go_simp
              have m9_1_0 : w9.cell? ⟨w.heap.size + 1, 0, none⟩ = some (.int .i64 W.x) := by go_simp
              have m9_1_1 : w9.cell? ⟨w.heap.size + 1, 1, none⟩ = some (.int .i64 W.y) := by go_simp
              have m9_1_2 : w9.cell? ⟨w.heap.size + 1, 2, none⟩ = some (.bool W.far) := by go_simp
              clear m8_0_0 m8_0_1 m8_0_2 m8_1_0 m8_1_1 m8_1_2
              clear hc9
              go_wp2_with fail
              go_meet
              exact ⟨rfl, (by repeat (first | exact hB9 | exact Below.refl _ _ | refine balloc ?_ _ | refine Below.drew ?_ | refine below_drewN ?_ _ | refine below_set ?_ (by first | omega | (dsimp only; omega)) _)), (by first | omega | (simp only [World.size_alloc, World.size_setCell, World.size_drew]; omega)), (by first | omega | (simp only [World.size_alloc, World.size_setCell, World.size_drew]; omega)), (by first | omega | (simp only [World.size_alloc, World.size_setCell, World.size_drew]; omega)), (by go_simp), (by go_simp), (by go_simp), (by go_simp), (by go_simp), (by go_simp)⟩
            · subst e1 e3
              have e2 := Lib.hid e2
              clear h1
              go_wp2_with fail
              refine (e2.out _).mono ?_; rintro e w9 ⟨rfl, hb⟩
              obtain ⟨hc9, hf9⟩ := bcell hb
              have z9 := hb.size
              try simp only [World.size_alloc, World.size_setCell, World.size_drew] at z9
              have s9_0 : w.heap.size < w9.heap.size := by omega
              have s9_1 : w.heap.size + 1 < w9.heap.size := by omega
              have s9_2 : w3.heap.size < w9.heap.size := by omega
              have hB9 : Below w.heap.size w w9 := below_seq (by repeat (first | exact hB8 | exact Below.refl _ _ | refine balloc ?_ _ | refine Below.drew ?_ | refine below_drewN ?_ _ | refine below_set ?_ (by first | omega | (dsimp only; omega)) _)) hb
              clear hb
              have m9_0_0 : w9.cell? ⟨w.heap.size, 0, none⟩ = some (.int .i64 c.x) := by go_simp
              have m9_0_1 : w9.cell? ⟨w.heap.size, 1, none⟩ = some (.int .i64 c.y) := by go_simp
              have m9_0_2 : w9.cell? ⟨w.heap.size, 2, none⟩ = some (.bool c.far) := by go_simp
              have m9_1_0 : w9.cell? ⟨w.heap.size + 1, 0, none⟩ = some (.int .i64 W.x) := by go_simp
              have m9_1_1 : w9.cell? ⟨w.heap.size + 1, 1, none⟩ = some (.int .i64 W.y) := by go_simp
              have m9_1_2 : w9.cell? ⟨w.heap.size + 1, 2, none⟩ = some (.bool W.far) := by go_simp
              clear m8_0_0 m8_0_1 m8_0_2 m8_1_0 m8_1_1 m8_1_2
              clear hc9
              go_wp2_with fail
              go_meet
              exact ⟨rfl, (by repeat (first | exact hB9 | exact Below.refl _ _ | refine balloc ?_ _ | refine Below.drew ?_ | refine below_drewN ?_ _ | refine below_set ?_ (by first | omega | (dsimp only; omega)) _)), (by first | omega | (simp only [World.size_alloc, World.size_setCell, World.size_drew]; omega)), (by first | omega | (simp only [World.size_alloc, World.size_setCell, World.size_drew]; omega)), (by first | omega | (simp only [World.size_alloc, World.size_setCell, World.size_drew]; omega)), (by go_simp), (by go_simp), (by go_simp), (by go_simp), (by go_simp), (by go_simp)⟩
            · subst e2
              clear h1
              go_wp2_with fail
              go_meet
              exact ⟨rfl, (by repeat (first | exact hB8 | exact Below.refl _ _ | refine balloc ?_ _ | refine Below.drew ?_ | refine below_drewN ?_ _ | refine below_set ?_ (by first | omega | (dsimp only; omega)) _)), (by first | omega | (simp only [World.size_alloc, World.size_setCell, World.size_drew]; omega)), (by first | omega | (simp only [World.size_alloc, World.size_setCell, World.size_drew]; omega)), (by first | omega | (simp only [World.size_alloc, World.size_setCell, World.size_drew]; omega)), (by go_simp), (by go_simp), (by go_simp), (by go_simp), (by go_simp), (by go_simp)⟩
          case rest =>
            obtain ⟨w9, hwq⟩ : ∃ x, x = wc := ⟨_, rfl⟩
            subst hwq
            obtain ⟨rfl, hB9, s9_0, s9_1, s9_2, m9_0_0, m9_0_1, m9_0_2, m9_1_0, m9_1_1, m9_1_2⟩ := hcut
            clear m8_0_0 m8_0_1 m8_0_2 m8_1_0 m8_1_1 m8_1_2
            clear h1
            go_upto_region 20 with fail
            go_cut [86] (fun s86 wx => s86 = .bool B4 ∧ Below w.heap.size w wx ∧ w.heap.size < wx.heap.size ∧ w.heap.size + 1 < wx.heap.size ∧ w3.heap.size < wx.heap.size ∧ wx.cell? ⟨w.heap.size, 0, none⟩ = some (.int .i64 c.x) ∧ wx.cell? ⟨w.heap.size, 1, none⟩ = some (.int .i64 c.y) ∧ wx.cell? ⟨w.heap.size, 2, none⟩ = some (.bool c.far) ∧ wx.cell? ⟨w.heap.size + 1, 0, none⟩ = some (.int .i64 W.x) ∧ wx.cell? ⟨w.heap.size + 1, 1, none⟩ = some (.int .i64 W.y) ∧ wx.cell? ⟨w.heap.size + 1, 2, none⟩ = some (.bool W.far))
            case first =>
              rcases jC4.out with ⟨e1, e2, e3⟩ | ⟨e1, e2, e3⟩ | ⟨e1, e2⟩
              · subst e1 e2 e3
                go_wp2_with fail
                go_meet
                exact ⟨rfl, (by repeat (first | exact hB9 | exact Below.refl _ _ | refine balloc ?_ _ | refine Below.drew ?_ | refine below_drewN ?_ _ | refine below_set ?_ (by first | omega | (dsimp only; omega)) _)), (by first | omega | (simp only [World.size_alloc, World.size_setCell, World.size_drew]; omega)), (by first | omega | (simp only [World.size_alloc, World.size_setCell, World.size_drew]; omega)), (by first | omega | (simp only [World.size_alloc, World.size_setCell, World.size_drew]; omega)), (by go_simp), (by go_simp), (by go_simp), (by go_simp), (by go_simp), (by go_simp)⟩
              · subst e1 e2 e3
                go_wp2_with fail
                go_meet
                exact ⟨rfl, (by repeat (first | exact hB9 | exact Below.refl _ _ | refine balloc ?_ _ | refine Below.drew ?_ | refine below_drewN ?_ _ | refine below_set ?_ (by first | omega | (dsimp only; omega)) _)), (by first | omega | (simp only [World.size_alloc, World.size_setCell, World.size_drew]; omega)), (by first | omega | (simp only [World.size_alloc, World.size_setCell, World.size_drew]; omega)), (by first | omega | (simp only [World.size_alloc, World.size_setCell, World.size_drew]; omega)), (by go_simp), (by go_simp), (by go_simp), (by go_simp), (by go_simp), (by go_simp)⟩
              · subst e2
                go_wp2_with fail
                go_meet
                exact ⟨rfl, (by repeat (first | exact hB9 | exact Below.refl _ _ | refine balloc ?_ _ | refine Below.drew ?_ | refine below_drewN ?_ _ | refine below_set ?_ (by first | omega | (dsimp only; omega)) _)), (by first | omega | (simp only [World.size_alloc, World.size_setCell, World.size_drew]; omega)), (by first | omega | (simp only [World.size_alloc, World.size_setCell, World.size_drew]; omega)), (by first | omega | (simp only [World.size_alloc, World.size_setCell, World.size_drew]; omega)), (by go_simp), (by go_simp), (by go_simp), (by go_simp), (by go_simp), (by go_simp)⟩
            case rest =>
              obtain ⟨w10, hwq⟩ : ∃ x, x = wc := ⟨_, rfl⟩
              subst hwq
              obtain ⟨rfl, hB10, s10_0, s10_1, s10_2, m10_0_0, m10_0_1, m10_0_2, m10_1_0, m10_1_1, m10_1_2⟩ := hcut
              clear m9_0_0 m9_0_1 m9_0_2 m9_1_0 m9_1_1 m9_1_2
              clear jC4
              go_upto_if 86 with fail
              go_cut [14] (fun s14 wx => s14 = .int .i64 F2 ∧ Below w.heap.size w wx ∧ w.heap.size < wx.heap.size ∧ w.heap.size + 1 < wx.heap.size ∧ w3.heap.size < wx.heap.size ∧ wx.cell? ⟨w.heap.size, 0, none⟩ = some (.int .i64 c.x) ∧ wx.cell? ⟨w.heap.size, 1, none⟩ = some (.int .i64 c.y) ∧ wx.cell? ⟨w.heap.size, 2, none⟩ = some (.bool c.far) ∧ wx.cell? ⟨w.heap.size + 1, 0, none⟩ = some (.int .i64 W.x) ∧ wx.cell? ⟨w.heap.size + 1, 1, none⟩ = some (.int .i64 W.y) ∧ wx.cell? ⟨w.heap.size + 1, 2, none⟩ = some (.bool W.far))
              case first =>
                rcases hF2.out with ⟨e1, e2⟩ | ⟨e1, e2⟩
                · subst e1 e2
                  go_wp2_with fail
                  go_meet
                  exact ⟨rfl, (by repeat (first | exact hB10 | exact Below.refl _ _ | refine balloc ?_ _ | refine Below.drew ?_ | refine below_drewN ?_ _ | refine below_set ?_ (by first | omega | (dsimp only; omega)) _)), (by first | omega | (simp only [World.size_alloc, World.size_setCell, World.size_drew]; omega)), (by first | omega | (simp only [World.size_alloc, World.size_setCell, World.size_drew]; omega)), (by first | omega | (simp only [World.size_alloc, World.size_setCell, World.size_drew]; omega)), (by go_simp), (by go_simp), (by go_simp), (by go_simp), (by go_simp), (by go_simp)⟩
                · subst e1 e2
                  go_wp2_with fail
                  go_meet
                  exact ⟨rfl, (by repeat (first | exact hB10 | exact Below.refl _ _ | refine balloc ?_ _ | refine Below.drew ?_ | refine below_drewN ?_ _ | refine below_set ?_ (by first | omega | (dsimp only; omega)) _)), (by first | omega | (simp only [World.size_alloc, World.size_setCell, World.size_drew]; omega)), (by first | omega | (simp only [World.size_alloc, World.size_setCell, World.size_drew]; omega)), (by first | omega | (simp only [World.size_alloc, World.size_setCell, World.size_drew]; omega)), (by go_simp), (by go_simp), (by go_simp), (by go_simp), (by go_simp), (by go_simp)⟩
              case rest =>
                obtain ⟨w11, hwq⟩ : ∃ x, x = wc := ⟨_, rfl⟩
                subst hwq
                obtain ⟨rfl, hB11, s11_0, s11_1, s11_2, m11_0_0, m11_0_1, m11_0_2, m11_1_0, m11_1_1, m11_1_2⟩ := hcut
                clear m10_0_0 m10_0_1 m10_0_2 m10_1_0 m10_1_1 m10_1_2
                clear hF2
                go_wp2_with fail
                refine (kFind.out _ (hF.below (by repeat (first | exact hB11 | exact Below.refl _ _ | refine balloc ?_ _ | refine Below.drew ?_ | refine below_drewN ?_ _ | refine below_set ?_ (by first | omega | (dsimp only; omega)) _)))).mono ?_; rintro e w12 ⟨rfl, hb⟩
                obtain ⟨hc12, hf12⟩ := bcell hb
                have z12 := hb.size
                try simp only [World.size_alloc, World.size_setCell, World.size_drew] at z12
                have s12_0 : w.heap.size < w12.heap.size := by omega
                have s12_1 : w.heap.size + 1 < w12.heap.size := by omega
                have s12_2 : w3.heap.size < w12.heap.size := by omega
                have hB12 : Below w.heap.size w w12 := below_seq (by repeat (first | exact hB11 | exact Below.refl _ _ | refine balloc ?_ _ | refine Below.drew ?_ | refine below_drewN ?_ _ | refine below_set ?_ (by first | omega | (dsimp only; omega)) _)) hb
                clear hb
                have m12_0_0 : w12.cell? ⟨w.heap.size, 0, none⟩ = some (.int .i64 c.x) := by go_simp
                have m12_0_1 : w12.cell? ⟨w.heap.size, 1, none⟩ = some (.int .i64 c.y) := by go_simp
                have m12_0_2 : w12.cell? ⟨w.heap.size, 2, none⟩ = some (.bool c.far) := by go_simp
                have m12_1_0 : w12.cell? ⟨w.heap.size + 1, 0, none⟩ = some (.int .i64 W.x) := by go_simp
                have m12_1_1 : w12.cell? ⟨w.heap.size + 1, 1, none⟩ = some (.int .i64 W.y) := by go_simp
                have m12_1_2 : w12.cell? ⟨w.heap.size + 1, 2, none⟩ = some (.bool W.far) := by go_simp
                clear m11_0_0 m11_0_1 m11_0_2 m11_1_0 m11_1_1 m11_1_2
                clear hc12
                go_upto_region 23 with fail
                go_cut [20] (fun s20 wx => s20 = .bool true ∧ Below w.heap.size w wx ∧ w.heap.size < wx.heap.size ∧ w.heap.size + 1 < wx.heap.size ∧ w3.heap.size < wx.heap.size ∧ wx.cell? ⟨w.heap.size, 0, none⟩ = some (.int .i64 c.x) ∧ wx.cell? ⟨w.heap.size, 1, none⟩ = some (.int .i64 c.y) ∧ wx.cell? ⟨w.heap.size, 2, none⟩ = some (.bool c.far) ∧ wx.cell? ⟨w.heap.size + 1, 0, none⟩ = some (.int .i64 W.x) ∧ wx.cell? ⟨w.heap.size + 1, 1, none⟩ = some (.int .i64 W.y) ∧ wx.cell? ⟨w.heap.size + 1, 2, none⟩ = some (.bool W.far))
                case first =>
                  rcases hN.out with ⟨e1, e2, e3, e4⟩ | ⟨e1, e2⟩ | ⟨e1, e2⟩
                  · subst e1
                    have e4 := Lib.hid e4
                    clear hN
                    go_wp2_with fail
                    refine wp_region_grow Tryd.mixed (by kernel_rfl) ?_
                    repeat (quiet_step ((first | (go_at_call 27; exact grow_of (error_same (errV 0) 0 _ (hE.below (below_seq (by repeat (first | exact hB12 | exact Below.refl _ _ | refine balloc ?_ _ | refine Below.drew ?_ | refine below_drewN ?_ _ | refine below_set ?_ (by first | omega | (dsimp only; omega)) _)) (Grew.h _))) (Lib.hid rfl))) | (go_at_call 45; exact grow_of (e4.out _ (hF.below (below_seq (by repeat (first | exact hB12 | exact Below.refl _ _ | refine balloc ?_ _ | refine Below.drew ?_ | refine below_drewN ?_ _ | refine below_set ?_ (by first | omega | (dsimp only; omega)) _)) (Grew.h _))))))))
                    refine wpQuiet_nil ?_
                    intro _ hw'
                    obtain ⟨x13, rfl⟩ := hw'
                    have z13 := x13.h.size
                    try simp only [World.size_alloc, World.size_setCell, World.size_drew] at z13
                    have s13_0 : w.heap.size < x13.w.heap.size := by omega
                    have s13_1 : w.heap.size + 1 < x13.w.heap.size := by omega
                    have s13_2 : w3.heap.size < x13.w.heap.size := by omega
                    have hB13 : Below w.heap.size w x13.w := below_seq (by repeat (first | exact hB12 | exact Below.refl _ _ | refine balloc ?_ _ | refine Below.drew ?_ | refine below_drewN ?_ _ | refine below_set ?_ (by first | omega | (dsimp only; omega)) _)) x13.h
                    have m13_0_0 : x13.w.cell? ⟨w.heap.size, 0, none⟩ = some (.int .i64 c.x) := by go_simp
                    have m13_0_1 : x13.w.cell? ⟨w.heap.size, 1, none⟩ = some (.int .i64 c.y) := by go_simp
                    have m13_0_2 : x13.w.cell? ⟨w.heap.size, 2, none⟩ = some (.bool c.far) := by go_simp
                    have m13_1_0 : x13.w.cell? ⟨w.heap.size + 1, 0, none⟩ = some (.int .i64 W.x) := by go_simp
                    have m13_1_1 : x13.w.cell? ⟨w.heap.size + 1, 1, none⟩ = some (.int .i64 W.y) := by go_simp
                    have m13_1_2 : x13.w.cell? ⟨w.heap.size + 1, 2, none⟩ = some (.bool W.far) := by go_simp
                    clear m12_0_0 m12_0_1 m12_0_2 m12_1_0 m12_1_1 m12_1_2
                    go_wp2_with fail
                    go_meet
                    exact ⟨rfl, (by repeat (first | exact hB13 | exact Below.refl _ _ | refine balloc ?_ _ | refine Below.drew ?_ | refine below_drewN ?_ _ | refine below_set ?_ (by first | omega | (dsimp only; omega)) _)), (by first | omega | (simp only [World.size_alloc, World.size_setCell, World.size_drew]; omega)), (by first | omega | (simp only [World.size_alloc, World.size_setCell, World.size_drew]; omega)), (by first | omega | (simp only [World.size_alloc, World.size_setCell, World.size_drew]; omega)), (by go_simp), (by go_simp), (by go_simp), (by go_simp), (by go_simp), (by go_simp)⟩
                  · subst e1 e2
                    clear hN
                    go_wp2_with fail
                    refine wp_region_grow Tryd.mixed (by kernel_rfl) ?_
                    repeat (go_big_quiet_step ((go_at_call 27; exact grow_of (error_same (errV 1) 1 _ (hE.below (below_seq (by repeat (first | exact hB12 | exact Below.refl _ _ | refine balloc ?_ _ | refine Below.drew ?_ | refine below_drewN ?_ _ | refine below_set ?_ (by first | omega | (dsimp only; omega)) _)) (Grew.h _))) (Lib.hid rfl)))))
                    refine wpQuiet_nil ?_
                    intro _ hw'
                    obtain ⟨x13, rfl⟩ := hw'
                    have z13 := x13.h.size
                    try simp only [World.size_alloc, World.size_setCell, World.size_drew] at z13
                    have s13_0 : w.heap.size < x13.w.heap.size := by omega
                    have s13_1 : w.heap.size + 1 < x13.w.heap.size := by omega
                    have s13_2 : w3.heap.size < x13.w.heap.size := by omega
                    have hB13 : Below w.heap.size w x13.w := below_seq (by repeat (first | exact hB12 | exact Below.refl _ _ | refine balloc ?_ _ | refine Below.drew ?_ | refine below_drewN ?_ _ | refine below_set ?_ (by first | omega | (dsimp only; omega)) _)) x13.h
                    have m13_0_0 : x13.w.cell? ⟨w.heap.size, 0, none⟩ = some (.int .i64 c.x) := by go_simp
                    have m13_0_1 : x13.w.cell? ⟨w.heap.size, 1, none⟩ = some (.int .i64 c.y) := by go_simp
                    have m13_0_2 : x13.w.cell? ⟨w.heap.size, 2, none⟩ = some (.bool c.far) := by go_simp
                    have m13_1_0 : x13.w.cell? ⟨w.heap.size + 1, 0, none⟩ = some (.int .i64 W.x) := by go_simp
                    have m13_1_1 : x13.w.cell? ⟨w.heap.size + 1, 1, none⟩ = some (.int .i64 W.y) := by go_simp
                    have m13_1_2 : x13.w.cell? ⟨w.heap.size + 1, 2, none⟩ = some (.bool W.far) := by go_simp
                    clear m12_0_0 m12_0_1 m12_0_2 m12_1_0 m12_1_1 m12_1_2
                    go_wp2_with fail
                    go_meet
                    exact ⟨rfl, (by repeat (first | exact hB13 | exact Below.refl _ _ | refine balloc ?_ _ | refine Below.drew ?_ | refine below_drewN ?_ _ | refine below_set ?_ (by first | omega | (dsimp only; omega)) _)), (by first | omega | (simp only [World.size_alloc, World.size_setCell, World.size_drew]; omega)), (by first | omega | (simp only [World.size_alloc, World.size_setCell, World.size_drew]; omega)), (by first | omega | (simp only [World.size_alloc, World.size_setCell, World.size_drew]; omega)), (by go_simp), (by go_simp), (by go_simp), (by go_simp), (by go_simp), (by go_simp)⟩
                  · subst e1 e2
                    clear hN
                    go_wp2_with fail
                    refine wp_region_grow Tryd.mixed (by kernel_rfl) ?_
                    repeat (go_big_quiet_step ((go_at_call 27; exact grow_of (error_same (errV 3) 3 _ (hE.below (below_seq (by repeat (first | exact hB12 | exact Below.refl _ _ | refine balloc ?_ _ | refine Below.drew ?_ | refine below_drewN ?_ _ | refine below_set ?_ (by first | omega | (dsimp only; omega)) _)) (Grew.h _))) (Lib.hid rfl)))))
                    refine wpQuiet_nil ?_
                    intro _ hw'
                    obtain ⟨x13, rfl⟩ := hw'
                    have z13 := x13.h.size
                    try simp only [World.size_alloc, World.size_setCell, World.size_drew] at z13
                    have s13_0 : w.heap.size < x13.w.heap.size := by omega
                    have s13_1 : w.heap.size + 1 < x13.w.heap.size := by omega
                    have s13_2 : w3.heap.size < x13.w.heap.size := by omega
                    have hB13 : Below w.heap.size w x13.w := below_seq (by repeat (first | exact hB12 | exact Below.refl _ _ | refine balloc ?_ _ | refine Below.drew ?_ | refine below_drewN ?_ _ | refine below_set ?_ (by first | omega | (dsimp only; omega)) _)) x13.h
                    have m13_0_0 : x13.w.cell? ⟨w.heap.size, 0, none⟩ = some (.int .i64 c.x) := by go_simp
                    have m13_0_1 : x13.w.cell? ⟨w.heap.size, 1, none⟩ = some (.int .i64 c.y) := by go_simp
                    have m13_0_2 : x13.w.cell? ⟨w.heap.size, 2, none⟩ = some (.bool c.far) := by go_simp
                    have m13_1_0 : x13.w.cell? ⟨w.heap.size + 1, 0, none⟩ = some (.int .i64 W.x) := by go_simp
                    have m13_1_1 : x13.w.cell? ⟨w.heap.size + 1, 1, none⟩ = some (.int .i64 W.y) := by go_simp
                    have m13_1_2 : x13.w.cell? ⟨w.heap.size + 1, 2, none⟩ = some (.bool W.far) := by go_simp
                    clear m12_0_0 m12_0_1 m12_0_2 m12_1_0 m12_1_1 m12_1_2
                    go_wp2_with fail
                    go_meet
                    exact ⟨rfl, (by repeat (first | exact hB13 | exact Below.refl _ _ | refine balloc ?_ _ | refine Below.drew ?_ | refine below_drewN ?_ _ | refine below_set ?_ (by first | omega | (dsimp only; omega)) _)), (by first | omega | (simp only [World.size_alloc, World.size_setCell, World.size_drew]; omega)), (by first | omega | (simp only [World.size_alloc, World.size_setCell, World.size_drew]; omega)), (by first | omega | (simp only [World.size_alloc, World.size_setCell, World.size_drew]; omega)), (by go_simp), (by go_simp), (by go_simp), (by go_simp), (by go_simp), (by go_simp)⟩
                case rest =>
                  obtain ⟨w13, hwq⟩ : ∃ x, x = wc := ⟨_, rfl⟩
                  subst hwq
                  obtain ⟨rfl, hB13, s13_0, s13_1, s13_2, m13_0_0, m13_0_1, m13_0_2, m13_1_0, m13_1_1, m13_1_2⟩ := hcut
                  clear m12_0_0 m12_0_1 m12_0_2 m12_1_0 m12_1_1 m12_1_2
                  clear hN
                  go_wp2_with fail
                  refine (second_c _ (hF.below (by repeat (first | exact hB13 | exact Below.refl _ _ | refine balloc ?_ _ | refine Below.drew ?_ | refine below_drewN ?_ _ | refine below_set ?_ (by first | omega | (dsimp only; omega)) _)))).mono ?_; rintro e w14 ⟨rfl, hb⟩
                  obtain ⟨hc14, hf14⟩ := bcell hb
                  have z14 := hb.size
                  try simp only [World.size_alloc, World.size_setCell, World.size_drew] at z14
                  have s14_0 : w.heap.size < w14.heap.size := by omega
                  have s14_1 : w.heap.size + 1 < w14.heap.size := by omega
                  have s14_2 : w3.heap.size < w14.heap.size := by omega
                  have hB14 : Below w.heap.size w w14 := below_seq (by repeat (first | exact hB13 | exact Below.refl _ _ | refine balloc ?_ _ | refine Below.drew ?_ | refine below_drewN ?_ _ | refine below_set ?_ (by first | omega | (dsimp only; omega)) _)) hb
                  clear hb
                  have m14_0_0 : w14.cell? ⟨w.heap.size, 0, none⟩ = some (.int .i64 c.x) := by go_simp
                  have m14_0_1 : w14.cell? ⟨w.heap.size, 1, none⟩ = some (.int .i64 c.y) := by go_simp
                  have m14_0_2 : w14.cell? ⟨w.heap.size, 2, none⟩ = some (.bool c.far) := by go_simp
                  have m14_1_0 : w14.cell? ⟨w.heap.size + 1, 0, none⟩ = some (.int .i64 W.x) := by go_simp
                  have m14_1_1 : w14.cell? ⟨w.heap.size + 1, 1, none⟩ = some (.int .i64 W.y) := by go_simp
                  have m14_1_2 : w14.cell? ⟨w.heap.size + 1, 2, none⟩ = some (.bool W.far) := by go_simp
                  clear m13_0_0 m13_0_1 m13_0_2 m13_1_0 m13_1_1 m13_1_2
                  clear hc14
                  go_wp2_with fail
                  refine (rSecond_c _ (hF.below (by repeat (first | exact hB14 | exact Below.refl _ _ | refine balloc ?_ _ | refine Below.drew ?_ | refine below_drewN ?_ _ | refine below_set ?_ (by first | omega | (dsimp only; omega)) _)))).mono ?_; rintro e w15 ⟨rfl, hb⟩
                  obtain ⟨hc15, hf15⟩ := bcell hb
                  have z15 := hb.size
                  try simp only [World.size_alloc, World.size_setCell, World.size_drew] at z15
                  have s15_0 : w.heap.size < w15.heap.size := by omega
                  have s15_1 : w.heap.size + 1 < w15.heap.size := by omega
                  have s15_2 : w3.heap.size < w15.heap.size := by omega
                  have hB15 : Below w.heap.size w w15 := below_seq (by repeat (first | exact hB14 | exact Below.refl _ _ | refine balloc ?_ _ | refine Below.drew ?_ | refine below_drewN ?_ _ | refine below_set ?_ (by first | omega | (dsimp only; omega)) _)) hb
                  clear hb
                  have m15_0_0 : w15.cell? ⟨w.heap.size, 0, none⟩ = some (.int .i64 c.x) := by go_simp
                  have m15_0_1 : w15.cell? ⟨w.heap.size, 1, none⟩ = some (.int .i64 c.y) := by go_simp
                  have m15_0_2 : w15.cell? ⟨w.heap.size, 2, none⟩ = some (.bool c.far) := by go_simp
                  have m15_1_0 : w15.cell? ⟨w.heap.size + 1, 0, none⟩ = some (.int .i64 W.x) := by go_simp
                  have m15_1_1 : w15.cell? ⟨w.heap.size + 1, 1, none⟩ = some (.int .i64 W.y) := by go_simp
                  have m15_1_2 : w15.cell? ⟨w.heap.size + 1, 2, none⟩ = some (.bool W.far) := by go_simp
                  clear m14_0_0 m14_0_1 m14_0_2 m14_1_0 m14_1_1 m14_1_2
                  clear hc15
                  go_wp2
                  go_ret
                  exact ⟨rfl, (by repeat (first | exact hB15 | exact Below.refl _ _ | refine balloc ?_ _ | refine Below.drew ?_ | refine below_drewN ?_ _ | refine below_set ?_ (by first | omega | (dsimp only; omega)) _))⟩
end Go.Proofs.YtopcdihgkojjlaaDoor
