/- The statement of BookPlays: for every input the law returns true, and the arguments read as they did. (its listed variable reads as laid; the card ties it) -/
import Derived.Test.YtebomakihdjllaaDoorMBookPlays
import Derived.Test.YtebomakihdjllaaDoorKe
import Derived.Deep.DeepCutAuto
import Derived.Deep.CutBlock
import Derived.Deep.RegionWith
import Derived.BigQuiet
import Derived.Deep.DrawnRows
import Derived.Deep.RegionHeld3
import Derived.Test.YtebomakihdjllaaDoorRows
import Derived.Test.YtebomakihdjllaaDoorWv
import Derived.ProofKit
import Derived.LaidMore
import Derived.OpenShut
import Derived.MakeChecks
import Derived.Deep.Strs
import Derived.LaidHandle
import Derived.Test.YtebomakihdjllaaDoorFr
import Derived.Test.YtebomakihdjllaaDoorFs
import Derived.SizedLaws
import Derived.Test.YtebomakihdjllaaDoorTie
import Derived.Test.YtebomakihdjllaaDoorCards
import Derived.SevenTiedAt
namespace Go.Proofs.YtebomakihdjllaaDoor
open Go.RowKit
set_option maxRecDepth 100000
set_option linter.unusedVariables false
set_option linter.unusedSimpArgs false
attribute [local go_sem ↓] Go.wp_at_zero Go.wp_at_succ
set_option maxHeartbeats 64000000 in
theorem bp_core (L0 : List Sp) (ds : List DealR) (r k : Int) (a : Sp) (a0 a1 : Option Addr) (c0 c1 : Nat) (w : World) (hF : FarAt w) (hE : ErrAt w) (E0 n0 F Ws : Int) (Wp : Sp) (X Y : Bool)
    (l0 : L0.length ≤ 9223372036854775807) (l1 : ds.length ≤ 9223372036854775807)
    (h0 : 0 < L0.length → ∃ b o, a0 = some ⟨b, o, none⟩ ∧ SpotsAt w b o L0) (h1 : 0 < ds.length → ∃ b o, a1 = some ⟨b, o, none⟩ ∧ DealsAt w b o ds)
    (e0 : Hid (sCheck a = E0)) (e1 : Hid ((E0 = 0 ∧ Ok a ∧ bAsk a a = n0) ∨ ((E0 == 0) = false ∧ n0 = 0)))
    (k3 : Hid (∀ w1 : World, FarAt w1 → Calls Tryd.prog 18 #[spV a, spV a] w1 fun e w' => e = .returned (.tuple #[.int .i64 n0, errV E0]) ∧ Below w1.heap.size w1 w'))
    (eX : Hid (resB r = X)) (eY : Hid (secB k = Y)) (eF : Hid ((X = true ∧ Y = true ∧ F = E0) ∨ ((X && Y) = false ∧ F = 1)))
    (eW : Hid ((F = 0 ∧ Ok a ∧ 0 ≤ r ∧ r < 1013 ∧ 1 ≤ k ∧ k < 1013 ∧ sq (4 * hJ * k) = Wp ∧ (k + bAsk Wp a * r) % 1013 = Ws) ∨ ((F == 0) = false ∧ Wp = ⟨0, 0, false⟩ ∧ Ws = 0)))
    (k4 : Hid (∀ w1 : World, FarAt w1 → Calls Tryd.prog 10 #[.int .i64 r, .int .i64 k, spV a] w1 fun e w' => e = .returned (.tuple #[slV Wp Ws, errV F]) ∧ Below w1.heap.size w1 w')) :
    Calls Tryd.prog 4 #[.slice a0 L0.length c0, .slice a1 ds.length c1, .int .i64 r, .int .i64 k, spV a] w fun e w' => e = .returned (.bool true) ∧ Below w.heap.size w w' := by
  replace h0 := Lib.hid h0
  replace h1 := Lib.hid h1
  go_enter Tryd.func4, Tryd.ntmps4
  go_wp2_with fail
  refine (refSpot_e a E0 _ e0).mono ?_; rintro e w1 ⟨rfl, hb⟩
  obtain ⟨hc1, hf1⟩ := bcell hb
  have z1 := hb.size
  try simp only [World.size_alloc, World.size_setCell, World.size_drew] at z1
  have s1_0 : w.heap.size < w1.heap.size := by omega
  have hB1 : Below w.heap.size w w1 := below_seq (by repeat (first | with_reducible exact Below.refl _ _ | with_reducible refine below_set ?_ (by first | omega | (dsimp only; omega)) _ | with_reducible refine balloc ?_ _ | with_reducible refine Below.drew ?_ | with_reducible refine below_drewN ?_ _ | exact Below.refl _ _ | refine balloc ?_ _ | refine Below.drew ?_ | refine below_drewN ?_ _ | refine below_set ?_ (by first | omega | (dsimp only; omega)) _)) hb
  clear hb
  have m1_0_0 : w1.cell? ⟨w.heap.size, 0, none⟩ = some (.int .i64 a.x) := by go_simp
  have m1_0_1 : w1.cell? ⟨w.heap.size, 1, none⟩ = some (.int .i64 a.y) := by go_simp
  have m1_0_2 : w1.cell? ⟨w.heap.size, 2, none⟩ = some (.bool a.far) := by go_simp
  clear hc1
  clear hf1
  go_upto_if 32 with fail
  go_cut [12] from 31 to 35 (fun s12 wx => s12 = .int .i64 n0 ∧ Below w.heap.size w wx ∧ w.heap.size < wx.heap.size ∧ wx.cell? ⟨w.heap.size, 0, none⟩ = some (.int .i64 a.x) ∧ wx.cell? ⟨w.heap.size, 1, none⟩ = some (.int .i64 a.y) ∧ wx.cell? ⟨w.heap.size, 2, none⟩ = some (.bool a.far))
  case first =>
    rcases e1.out with ⟨g1, g2, g3⟩ | ⟨g1, g2⟩
    · subst g1
      go_wp2_with fail
      refine (rbask_c a a n0 _ g2 g2 (Lib.hid g3)).mono ?_; rintro e w2 ⟨rfl, hb⟩
      obtain ⟨hc2, hf2⟩ := bcell hb
      have z2 := hb.size
      try simp only [World.size_alloc, World.size_setCell, World.size_drew] at z2
      have s2_0 : w.heap.size < w2.heap.size := by omega
      have hB2 : Below w.heap.size w w2 := below_seq (by repeat (first | with_reducible exact hB1 | with_reducible exact Below.refl _ _ | with_reducible refine below_set ?_ (by first | omega | (dsimp only; omega)) _ | with_reducible refine balloc ?_ _ | with_reducible refine Below.drew ?_ | with_reducible refine below_drewN ?_ _ | exact hB1 | exact Below.refl _ _ | refine balloc ?_ _ | refine Below.drew ?_ | refine below_drewN ?_ _ | refine below_set ?_ (by first | omega | (dsimp only; omega)) _)) hb
      clear hb
      have m2_0_0 : w2.cell? ⟨w.heap.size, 0, none⟩ = some (.int .i64 a.x) := by go_simp
      have m2_0_1 : w2.cell? ⟨w.heap.size, 1, none⟩ = some (.int .i64 a.y) := by go_simp
      have m2_0_2 : w2.cell? ⟨w.heap.size, 2, none⟩ = some (.bool a.far) := by go_simp
      clear m1_0_0 m1_0_1 m1_0_2
      clear hc2
      clear z1 hB1 s1_0 hf2
      go_wp2_with fail
      go_meet
      exact ⟨rfl, (by repeat (first | with_reducible exact hB2 | with_reducible exact Below.refl _ _ | with_reducible refine below_set ?_ (by first | omega | (dsimp only; omega)) _ | with_reducible refine balloc ?_ _ | with_reducible refine Below.drew ?_ | with_reducible refine below_drewN ?_ _ | exact hB2 | exact Below.refl _ _ | refine balloc ?_ _ | refine Below.drew ?_ | refine below_drewN ?_ _ | refine below_set ?_ (by first | omega | (dsimp only; omega)) _)), (by first | with_reducible assumption | omega | (simp only [World.heap_drewN, World.size_alloc, World.size_setCell, World.size_drew]; omega)), (by first | with_reducible assumption | go_simp), (by first | with_reducible assumption | go_simp), (by first | with_reducible assumption | go_simp)⟩
    · subst g2
      go_wp2_with fail
      go_meet
      exact ⟨rfl, (by repeat (first | with_reducible exact hB1 | with_reducible exact Below.refl _ _ | with_reducible refine below_set ?_ (by first | omega | (dsimp only; omega)) _ | with_reducible refine balloc ?_ _ | with_reducible refine Below.drew ?_ | with_reducible refine below_drewN ?_ _ | exact hB1 | exact Below.refl _ _ | refine balloc ?_ _ | refine Below.drew ?_ | refine below_drewN ?_ _ | refine below_set ?_ (by first | omega | (dsimp only; omega)) _)), (by first | with_reducible assumption | omega | (simp only [World.heap_drewN, World.size_alloc, World.size_setCell, World.size_drew]; omega)), (by first | with_reducible assumption | go_simp), (by first | with_reducible assumption | go_simp), (by first | with_reducible assumption | go_simp)⟩
  case rest =>
    obtain ⟨w2, hwq⟩ : ∃ x, x = wc := ⟨_, rfl⟩
    subst hwq
    obtain ⟨rfl, hB2, s2_0, m2_0_0, m2_0_1, m2_0_2⟩ := hcut
    clear m1_0_0 m1_0_1 m1_0_2
    clear z1 hB1 s1_0
    go_wp2_with fail
    refine (k3.out _ (hF.below (by repeat (first | with_reducible exact hB2 | with_reducible exact Below.refl _ _ | with_reducible refine below_set ?_ (by first | omega | (dsimp only; omega)) _ | with_reducible refine balloc ?_ _ | with_reducible refine Below.drew ?_ | with_reducible refine below_drewN ?_ _ | exact hB2 | exact Below.refl _ _ | refine balloc ?_ _ | refine Below.drew ?_ | refine below_drewN ?_ _ | refine below_set ?_ (by first | omega | (dsimp only; omega)) _)))).mono ?_; rintro e w3 ⟨rfl, hb⟩
    obtain ⟨hc3, hf3⟩ := bcell hb
    have z3 := hb.size
    try simp only [World.size_alloc, World.size_setCell, World.size_drew] at z3
    have s3_0 : w.heap.size < w3.heap.size := by omega
    have hB3 : Below w.heap.size w w3 := below_seq (by repeat (first | with_reducible exact hB2 | with_reducible exact Below.refl _ _ | with_reducible refine below_set ?_ (by first | omega | (dsimp only; omega)) _ | with_reducible refine balloc ?_ _ | with_reducible refine Below.drew ?_ | with_reducible refine below_drewN ?_ _ | exact hB2 | exact Below.refl _ _ | refine balloc ?_ _ | refine Below.drew ?_ | refine below_drewN ?_ _ | refine below_set ?_ (by first | omega | (dsimp only; omega)) _)) hb
    clear hb
    have m3_0_0 : w3.cell? ⟨w.heap.size, 0, none⟩ = some (.int .i64 a.x) := by go_simp
    have m3_0_1 : w3.cell? ⟨w.heap.size, 1, none⟩ = some (.int .i64 a.y) := by go_simp
    have m3_0_2 : w3.cell? ⟨w.heap.size, 2, none⟩ = some (.bool a.far) := by go_simp
    clear m2_0_0 m2_0_1 m2_0_2
    clear hc3
    clear hB2 s2_0 hf3
    go_wp2_with fail
    refine (error_same _ E0 _ (hE.below (by repeat (first | with_reducible exact hB3 | with_reducible exact Below.refl _ _ | with_reducible refine below_set ?_ (by first | omega | (dsimp only; omega)) _ | with_reducible refine balloc ?_ _ | with_reducible refine Below.drew ?_ | with_reducible refine below_drewN ?_ _ | exact hB3 | exact Below.refl _ _ | refine balloc ?_ _ | refine Below.drew ?_ | refine below_drewN ?_ _ | refine below_set ?_ (by first | omega | (dsimp only; omega)) _))) (Lib.hid rfl)).mono ?_; rintro e w4 ⟨rfl, hb⟩
    obtain ⟨hc4, hf4⟩ := bcell hb
    have z4 := hb.size
    try simp only [World.size_alloc, World.size_setCell, World.size_drew] at z4
    have s4_0 : w.heap.size < w4.heap.size := by omega
    have hB4 : Below w.heap.size w w4 := below_seq (by repeat (first | with_reducible exact hB3 | with_reducible exact Below.refl _ _ | with_reducible refine below_set ?_ (by first | omega | (dsimp only; omega)) _ | with_reducible refine balloc ?_ _ | with_reducible refine Below.drew ?_ | with_reducible refine below_drewN ?_ _ | exact hB3 | exact Below.refl _ _ | refine balloc ?_ _ | refine Below.drew ?_ | refine below_drewN ?_ _ | refine below_set ?_ (by first | omega | (dsimp only; omega)) _)) hb
    clear hb
    have m4_0_0 : w4.cell? ⟨w.heap.size, 0, none⟩ = some (.int .i64 a.x) := by go_simp
    have m4_0_1 : w4.cell? ⟨w.heap.size, 1, none⟩ = some (.int .i64 a.y) := by go_simp
    have m4_0_2 : w4.cell? ⟨w.heap.size, 2, none⟩ = some (.bool a.far) := by go_simp
    clear m3_0_0 m3_0_1 m3_0_2
    clear hc4
    clear z3 hB3 s3_0 hf4
    go_wp2_with fail
    refine (rRest_b r X _ eX).mono ?_; rintro e w' ⟨rfl, rfl⟩
    go_wp2_with fail
    refine (rSecret_b k Y _ eY).mono ?_; rintro e w' ⟨rfl, rfl⟩
    go_upto_region 9 with fail
    go_cut [59] from 54 to 58 (fun s59 wx => s59 = .bool (!(X && Y)) ∧ Below w.heap.size w wx ∧ w.heap.size < wx.heap.size ∧ wx.cell? ⟨w.heap.size, 0, none⟩ = some (.int .i64 a.x) ∧ wx.cell? ⟨w.heap.size, 1, none⟩ = some (.int .i64 a.y) ∧ wx.cell? ⟨w.heap.size, 2, none⟩ = some (.bool a.far))
    case first =>
      cases X
      · go_wp2_with fail
        go_meet
        exact ⟨rfl, (by repeat (first | with_reducible exact hB4 | with_reducible exact Below.refl _ _ | with_reducible refine below_set ?_ (by first | omega | (dsimp only; omega)) _ | with_reducible refine balloc ?_ _ | with_reducible refine Below.drew ?_ | with_reducible refine below_drewN ?_ _ | exact hB4 | exact Below.refl _ _ | refine balloc ?_ _ | refine Below.drew ?_ | refine below_drewN ?_ _ | refine below_set ?_ (by first | omega | (dsimp only; omega)) _)), (by first | with_reducible assumption | omega | (simp only [World.heap_drewN, World.size_alloc, World.size_setCell, World.size_drew]; omega)), (by first | with_reducible assumption | go_simp), (by first | with_reducible assumption | go_simp), (by first | with_reducible assumption | go_simp)⟩
      · cases Y
        · go_wp2_with fail
          go_meet
          exact ⟨rfl, (by repeat (first | with_reducible exact hB4 | with_reducible exact Below.refl _ _ | with_reducible refine below_set ?_ (by first | omega | (dsimp only; omega)) _ | with_reducible refine balloc ?_ _ | with_reducible refine Below.drew ?_ | with_reducible refine below_drewN ?_ _ | exact hB4 | exact Below.refl _ _ | refine balloc ?_ _ | refine Below.drew ?_ | refine below_drewN ?_ _ | refine below_set ?_ (by first | omega | (dsimp only; omega)) _)), (by first | with_reducible assumption | omega | (simp only [World.heap_drewN, World.size_alloc, World.size_setCell, World.size_drew]; omega)), (by first | with_reducible assumption | go_simp), (by first | with_reducible assumption | go_simp), (by first | with_reducible assumption | go_simp)⟩
        · go_wp2_with fail
          go_meet
          exact ⟨rfl, (by repeat (first | with_reducible exact hB4 | with_reducible exact Below.refl _ _ | with_reducible refine below_set ?_ (by first | omega | (dsimp only; omega)) _ | with_reducible refine balloc ?_ _ | with_reducible refine Below.drew ?_ | with_reducible refine below_drewN ?_ _ | exact hB4 | exact Below.refl _ _ | refine balloc ?_ _ | refine Below.drew ?_ | refine below_drewN ?_ _ | refine below_set ?_ (by first | omega | (dsimp only; omega)) _)), (by first | with_reducible assumption | omega | (simp only [World.heap_drewN, World.size_alloc, World.size_setCell, World.size_drew]; omega)), (by first | with_reducible assumption | go_simp), (by first | with_reducible assumption | go_simp), (by first | with_reducible assumption | go_simp)⟩
    case rest =>
      obtain ⟨w5, hwq⟩ : ∃ x, x = wc := ⟨_, rfl⟩
      subst hwq
      obtain ⟨rfl, hB5, s5_0, m5_0_0, m5_0_1, m5_0_2⟩ := hcut
      clear m4_0_0 m4_0_1 m4_0_2
      clear z4 hB4 s4_0
      obtain ⟨Z, hZ⟩ : ∃ Z, (!(X && Y)) = Z := ⟨_, rfl⟩
      rw [hZ]
      go_upto_if 59 with fail
      go_cut [11] from 59 to 59 (fun s11 wx => s11 = .int .i64 F ∧ Below w.heap.size w wx ∧ w.heap.size < wx.heap.size ∧ wx.cell? ⟨w.heap.size, 0, none⟩ = some (.int .i64 a.x) ∧ wx.cell? ⟨w.heap.size, 1, none⟩ = some (.int .i64 a.y) ∧ wx.cell? ⟨w.heap.size, 2, none⟩ = some (.bool a.far))
      case first =>
        rcases eF.out with ⟨g1, g2, g3⟩ | ⟨g1, g2⟩
        · obtain rfl : Z = false := by rw [← hZ, g1, g2]; rfl
          clear hZ g1 g2
          subst g3
          go_wp2_with fail
          go_meet
          exact ⟨rfl, (by repeat (first | with_reducible exact hB5 | with_reducible exact Below.refl _ _ | with_reducible refine below_set ?_ (by first | omega | (dsimp only; omega)) _ | with_reducible refine balloc ?_ _ | with_reducible refine Below.drew ?_ | with_reducible refine below_drewN ?_ _ | exact hB5 | exact Below.refl _ _ | refine balloc ?_ _ | refine Below.drew ?_ | refine below_drewN ?_ _ | refine below_set ?_ (by first | omega | (dsimp only; omega)) _)), (by first | with_reducible assumption | omega | (simp only [World.heap_drewN, World.size_alloc, World.size_setCell, World.size_drew]; omega)), (by first | with_reducible assumption | go_simp), (by first | with_reducible assumption | go_simp), (by first | with_reducible assumption | go_simp)⟩
        · obtain rfl : Z = true := by rw [← hZ, g1]; rfl
          clear hZ g1
          subst g2
          go_wp2_with fail
          go_meet
          exact ⟨rfl, (by repeat (first | with_reducible exact hB5 | with_reducible exact Below.refl _ _ | with_reducible refine below_set ?_ (by first | omega | (dsimp only; omega)) _ | with_reducible refine balloc ?_ _ | with_reducible refine Below.drew ?_ | with_reducible refine below_drewN ?_ _ | exact hB5 | exact Below.refl _ _ | refine balloc ?_ _ | refine Below.drew ?_ | refine below_drewN ?_ _ | refine below_set ?_ (by first | omega | (dsimp only; omega)) _)), (by first | with_reducible assumption | omega | (simp only [World.heap_drewN, World.size_alloc, World.size_setCell, World.size_drew]; omega)), (by first | with_reducible assumption | go_simp), (by first | with_reducible assumption | go_simp), (by first | with_reducible assumption | go_simp)⟩
      case rest =>
        obtain ⟨w6, hwq⟩ : ∃ x, x = wc := ⟨_, rfl⟩
        subst hwq
        obtain ⟨rfl, hB6, s6_0, m6_0_0, m6_0_1, m6_0_2⟩ := hcut
        clear m5_0_0 m5_0_1 m5_0_2
        clear hB5 s5_0
        clear eF hZ
        go_upto_if 61 with fail
        have hse0 := SeAt.fresh w6 0 0 false 0 36
        replace hse0 := Lib.hid hse0
        go_cut [11, 19] from 60 to 74 (fun s11 s19 wx => (s11 = .int .i64 F ∧ SeAt wx w6.heap.size Wp Ws) ∧ Below w.heap.size w wx ∧ w.heap.size < wx.heap.size ∧ w6.heap.size < wx.heap.size ∧ wx.cell? ⟨w.heap.size, 0, none⟩ = some (.int .i64 a.x) ∧ wx.cell? ⟨w.heap.size, 1, none⟩ = some (.int .i64 a.y) ∧ wx.cell? ⟨w.heap.size, 2, none⟩ = some (.bool a.far))
        case first =>
          rcases eW.out with ⟨g1, oa, r0, r1, k0, k1, hP, hS⟩ | ⟨g1, g2, g3⟩
          · subst g1
            have oP : Ok Wp := by rw [← hP]; exact sq_ok _
            obtain ⟨cc, hcc⟩ : ∃ cc, bAsk Wp a = cc := ⟨_, rfl⟩
            have hcb := bAsk_bd Wp a
            rw [hcc] at hS hcb
            have hm0 : 0 ≤ cc * r := Int.mul_nonneg hcb.1 r0
            have hm1 : cc * r ≤ 1012 * 1012 := Int.mul_le_mul (by omega) (by omega) r0 (by omega)
            have f1 : IntKind.i64.wrap (cc * r) = cc * r := by rw [IntKind.wrap_i64]; omega
            have f2 : IntKind.i64.wrap (k + cc * r) = k + cc * r := by rw [IntKind.wrap_i64]; omega
            have f3 : (k + cc * r).tmod 1013 = Ws := by rw [Int.tmod_eq_emod_of_nonneg (by omega)]; exact hS
            clear hm0 hm1 hS
            replace hcc := Lib.hid hcc
            replace hP := Lib.hid hP
            have cS := Lib.hid (fun (w1 : World) hF1 => rSecond_c w1 hF1)
            obtain ⟨Z2, hZ2⟩ : ∃ Z2, Z2 = sq (4 * hJ) := ⟨_, rfl⟩
            rw [← hZ2] at cS
            replace hZ2 := Lib.hid hZ2
            go_wp2_with fail
            refine (cS.out _ (hF.below (by repeat (first | with_reducible exact hB6 | with_reducible exact Below.refl _ _ | with_reducible refine below_set ?_ (by first | omega | (dsimp only; omega)) _ | with_reducible refine balloc ?_ _ | with_reducible refine Below.drew ?_ | with_reducible refine below_drewN ?_ _ | exact hB6 | exact Below.refl _ _ | refine balloc ?_ _ | refine Below.drew ?_ | refine below_drewN ?_ _ | refine below_set ?_ (by first | omega | (dsimp only; omega)) _)))).mono ?_; rintro e w7 ⟨rfl, hb⟩
            obtain ⟨hc7, hf7⟩ := bcell hb
            have z7 := hb.size
            try simp only [World.size_alloc, World.size_setCell, World.size_drew] at z7
            have s7_0 : w.heap.size < w7.heap.size := by omega
            have s7_1 : w6.heap.size < w7.heap.size := by omega
            have hB7 : Below w.heap.size w w7 := below_seq (by repeat (first | with_reducible exact hB6 | with_reducible exact Below.refl _ _ | with_reducible refine below_set ?_ (by first | omega | (dsimp only; omega)) _ | with_reducible refine balloc ?_ _ | with_reducible refine Below.drew ?_ | with_reducible refine below_drewN ?_ _ | exact hB6 | exact Below.refl _ _ | refine balloc ?_ _ | refine Below.drew ?_ | refine below_drewN ?_ _ | refine below_set ?_ (by first | omega | (dsimp only; omega)) _)) hb
            clear hb
            have m7_0_0 : w7.cell? ⟨w.heap.size, 0, none⟩ = some (.int .i64 a.x) := by go_simp
            have m7_0_1 : w7.cell? ⟨w.heap.size, 1, none⟩ = some (.int .i64 a.y) := by go_simp
            have m7_0_2 : w7.cell? ⟨w.heap.size, 2, none⟩ = some (.bool a.far) := by go_simp
            have m7_1_0 : w7.cell? ⟨w6.heap.size, 0, none⟩ = some (.int .i64 0) := by go_simp
            have m7_1_1 : w7.cell? ⟨w6.heap.size, 1, none⟩ = some (.int .i64 0) := by go_simp
            have m7_1_2 : w7.cell? ⟨w6.heap.size, 2, none⟩ = some (.bool false) := by go_simp
            have m7_1_3 : w7.cell? ⟨w6.heap.size, 3, none⟩ = some (.int .i64 0) := by go_simp
            clear m6_0_0 m6_0_1 m6_0_2
            clear hc7
            have y7_0_0 : w7.frozen? ⟨w6.heap.size, 0, none⟩ = false := by go_simp
            have y7_0_1 : w7.frozen? ⟨w6.heap.size, 1, none⟩ = false := by go_simp
            have y7_0_2 : w7.frozen? ⟨w6.heap.size, 2, none⟩ = false := by go_simp
            have y7_0_3 : w7.frozen? ⟨w6.heap.size, 3, none⟩ = false := by go_simp
            clear hB6 hf7
            go_wp2_with fail
            refine (refTimes_e Z2 Wp (4 * hJ) k _ (by omega) (by omega) hZ2 hP).mono ?_; rintro e w8 ⟨rfl, hb⟩
            obtain ⟨hc8, hf8⟩ := bcell hb
            have z8 := hb.size
            try simp only [World.size_alloc, World.size_setCell, World.size_drew] at z8
            have s8_0 : w.heap.size < w8.heap.size := by omega
            have s8_1 : w6.heap.size < w8.heap.size := by omega
            have hB8 : Below w.heap.size w w8 := below_seq (by repeat (first | with_reducible exact hB7 | with_reducible exact Below.refl _ _ | with_reducible refine below_set ?_ (by first | omega | (dsimp only; omega)) _ | with_reducible refine balloc ?_ _ | with_reducible refine Below.drew ?_ | with_reducible refine below_drewN ?_ _ | exact hB7 | exact Below.refl _ _ | refine balloc ?_ _ | refine Below.drew ?_ | refine below_drewN ?_ _ | refine below_set ?_ (by first | omega | (dsimp only; omega)) _)) hb
            clear hb
            have m8_0_0 : w8.cell? ⟨w.heap.size, 0, none⟩ = some (.int .i64 a.x) := by go_simp
            have m8_0_1 : w8.cell? ⟨w.heap.size, 1, none⟩ = some (.int .i64 a.y) := by go_simp
            have m8_0_2 : w8.cell? ⟨w.heap.size, 2, none⟩ = some (.bool a.far) := by go_simp
            have m8_1_0 : w8.cell? ⟨w6.heap.size, 0, none⟩ = some (.int .i64 0) := by go_simp
            have m8_1_1 : w8.cell? ⟨w6.heap.size, 1, none⟩ = some (.int .i64 0) := by go_simp
            have m8_1_2 : w8.cell? ⟨w6.heap.size, 2, none⟩ = some (.bool false) := by go_simp
            have m8_1_3 : w8.cell? ⟨w6.heap.size, 3, none⟩ = some (.int .i64 0) := by go_simp
            clear m7_0_0 m7_0_1 m7_0_2 m7_1_0 m7_1_1 m7_1_2 m7_1_3
            clear hc8
            have y8_0_0 : w8.frozen? ⟨w6.heap.size, 0, none⟩ = false := by go_simp
            have y8_0_1 : w8.frozen? ⟨w6.heap.size, 1, none⟩ = false := by go_simp
            have y8_0_2 : w8.frozen? ⟨w6.heap.size, 2, none⟩ = false := by go_simp
            have y8_0_3 : w8.frozen? ⟨w6.heap.size, 3, none⟩ = false := by go_simp
            clear z7 hB7 s7_0 s7_1 y7_0_0 y7_0_1 y7_0_2 y7_0_3 hf8
            go_wp2_with fail
            refine wp_region_grow_tail 10 Tryd.mixed (by kernel_rfl) ?_
            simp only [List.take_succ_cons, List.take_zero, List.drop_succ_cons, List.drop_zero]
            repeat (quiet_step ((go_at_call 17; exact grow_of (rbask_c Wp a cc _ oP oa hcc))))
            refine wpQuiet_nil ?_
            intro _ hw'
            obtain ⟨x9, rfl⟩ := hw'
            have z9 := x9.h.size
            try simp only [World.size_alloc, World.size_setCell, World.size_drew] at z9
            have s9_0 : w.heap.size < x9.w.heap.size := by omega
            have s9_1 : w6.heap.size < x9.w.heap.size := by omega
            have s9_2 : w8.heap.size < x9.w.heap.size := by omega
            have hB9 : Below w.heap.size w x9.w := below_seq (by repeat (first | with_reducible exact hB8 | with_reducible exact Below.refl _ _ | with_reducible refine below_set ?_ (by first | omega | (dsimp only; omega)) _ | with_reducible refine balloc ?_ _ | with_reducible refine Below.drew ?_ | with_reducible refine below_drewN ?_ _ | exact hB8 | exact Below.refl _ _ | refine balloc ?_ _ | refine Below.drew ?_ | refine below_drewN ?_ _ | refine below_set ?_ (by first | omega | (dsimp only; omega)) _)) x9.h
            have m9_0_0 : x9.w.cell? ⟨w.heap.size, 0, none⟩ = some (.int .i64 a.x) := by go_simp
            have m9_0_1 : x9.w.cell? ⟨w.heap.size, 1, none⟩ = some (.int .i64 a.y) := by go_simp
            have m9_0_2 : x9.w.cell? ⟨w.heap.size, 2, none⟩ = some (.bool a.far) := by go_simp
            have m9_1_0 : x9.w.cell? ⟨w6.heap.size, 0, none⟩ = some (.int .i64 0) := by go_simp
            have m9_1_1 : x9.w.cell? ⟨w6.heap.size, 1, none⟩ = some (.int .i64 0) := by go_simp
            have m9_1_2 : x9.w.cell? ⟨w6.heap.size, 2, none⟩ = some (.bool false) := by go_simp
            have m9_1_3 : x9.w.cell? ⟨w6.heap.size, 3, none⟩ = some (.int .i64 0) := by go_simp
            have m9_2_0 : x9.w.cell? ⟨w8.heap.size, 0, none⟩ = some (.int .i64 Wp.x) := by go_simp
            have m9_2_1 : x9.w.cell? ⟨w8.heap.size, 1, none⟩ = some (.int .i64 Wp.y) := by go_simp
            have m9_2_2 : x9.w.cell? ⟨w8.heap.size, 2, none⟩ = some (.bool Wp.far) := by go_simp
            clear m8_0_0 m8_0_1 m8_0_2 m8_1_0 m8_1_1 m8_1_2 m8_1_3
            obtain ⟨-, hf9⟩ := bcell x9.h
            have y9_0_0 : x9.w.frozen? ⟨w6.heap.size, 0, none⟩ = false := by go_simp
            have y9_0_1 : x9.w.frozen? ⟨w6.heap.size, 1, none⟩ = false := by go_simp
            have y9_0_2 : x9.w.frozen? ⟨w6.heap.size, 2, none⟩ = false := by go_simp
            have y9_0_3 : x9.w.frozen? ⟨w6.heap.size, 3, none⟩ = false := by go_simp
            clear z8 hB8 y8_0_0 y8_0_1 y8_0_2 y8_0_3 hf9
            have hse := (SeAt.zero_of m9_1_0 m9_1_1 m9_1_2 m9_1_3 y9_0_0 y9_0_1 y9_0_2 y9_0_3 s9_1).set4 Wp Ws
            go_wp2_with fail
            go_meet
            exact ⟨⟨rfl, hse⟩, (by repeat (first | with_reducible exact hB9 | with_reducible exact Below.refl _ _ | with_reducible refine below_set ?_ (by first | omega | (dsimp only; omega)) _ | with_reducible refine balloc ?_ _ | with_reducible refine Below.drew ?_ | with_reducible refine below_drewN ?_ _ | exact hB9 | exact Below.refl _ _ | refine balloc ?_ _ | refine Below.drew ?_ | refine below_drewN ?_ _ | refine below_set ?_ (by first | omega | (dsimp only; omega)) _)), (by first | with_reducible assumption | omega | (simp only [World.heap_drewN, World.size_alloc, World.size_setCell, World.size_drew]; omega)), (by first | with_reducible assumption | omega | (simp only [World.heap_drewN, World.size_alloc, World.size_setCell, World.size_drew]; omega)), (by first | with_reducible assumption | go_simp), (by first | with_reducible assumption | go_simp), (by first | with_reducible assumption | go_simp)⟩
          · subst g2 g3
            have hse := hse0.out
            go_wp2_with fail
            go_meet
            exact ⟨⟨rfl, hse⟩, (by repeat (first | with_reducible exact hB6 | with_reducible exact Below.refl _ _ | with_reducible refine below_set ?_ (by first | omega | (dsimp only; omega)) _ | with_reducible refine balloc ?_ _ | with_reducible refine Below.drew ?_ | with_reducible refine below_drewN ?_ _ | exact hB6 | exact Below.refl _ _ | refine balloc ?_ _ | refine Below.drew ?_ | refine below_drewN ?_ _ | refine below_set ?_ (by first | omega | (dsimp only; omega)) _)), (by first | with_reducible assumption | omega | (simp only [World.heap_drewN, World.size_alloc, World.size_setCell, World.size_drew]; omega)), (by first | with_reducible assumption | omega | (simp only [World.heap_drewN, World.size_alloc, World.size_setCell, World.size_drew]; omega)), (by first | with_reducible assumption | go_simp), (by first | with_reducible assumption | go_simp), (by first | with_reducible assumption | go_simp)⟩
        case rest =>
          obtain ⟨w7, hwq⟩ : ∃ x, x = wc := ⟨_, rfl⟩
          subst hwq
          obtain ⟨⟨rfl, hse⟩, hB7, s7_0, s7_1, m7_0_0, m7_0_1, m7_0_2⟩ := hcut
          clear m6_0_0 m6_0_1 m6_0_2
          clear hB6
          replace hse := Lib.hid hse
          clear eW hse0
          go_wp2_with fail
          refine (k4.out _ (hF.below (by repeat (first | with_reducible exact hB7 | with_reducible exact Below.refl _ _ | with_reducible refine below_set ?_ (by first | omega | (dsimp only; omega)) _ | with_reducible refine balloc ?_ _ | with_reducible refine Below.drew ?_ | with_reducible refine below_drewN ?_ _ | exact hB7 | exact Below.refl _ _ | refine balloc ?_ _ | refine Below.drew ?_ | refine below_drewN ?_ _ | refine below_set ?_ (by first | omega | (dsimp only; omega)) _)))).mono ?_; rintro e w8 ⟨rfl, hb⟩; replace hse := Lib.hid (hse.out.below hb)
          obtain ⟨hc8, hf8⟩ := bcell hb
          have z8 := hb.size
          try simp only [World.size_alloc, World.size_setCell, World.size_drew] at z8
          have s8_0 : w.heap.size < w8.heap.size := by omega
          have s8_1 : w6.heap.size < w8.heap.size := by omega
          have hB8 : Below w.heap.size w w8 := below_seq (by repeat (first | with_reducible exact hB7 | with_reducible exact Below.refl _ _ | with_reducible refine below_set ?_ (by first | omega | (dsimp only; omega)) _ | with_reducible refine balloc ?_ _ | with_reducible refine Below.drew ?_ | with_reducible refine below_drewN ?_ _ | exact hB7 | exact Below.refl _ _ | refine balloc ?_ _ | refine Below.drew ?_ | refine below_drewN ?_ _ | refine below_set ?_ (by first | omega | (dsimp only; omega)) _)) hb
          clear hb
          have m8_0_0 : w8.cell? ⟨w.heap.size, 0, none⟩ = some (.int .i64 a.x) := by go_simp
          have m8_0_1 : w8.cell? ⟨w.heap.size, 1, none⟩ = some (.int .i64 a.y) := by go_simp
          have m8_0_2 : w8.cell? ⟨w.heap.size, 2, none⟩ = some (.bool a.far) := by go_simp
          clear m7_0_0 m7_0_1 m7_0_2
          clear hc8
          clear hB7 s7_0 s7_1 hf8
          replace hse := Lib.hid (hse.out.alloc (.cells #[.int .i64 Wp.x, .int .i64 Wp.y, .bool Wp.far, .int .i64 Ws] 36))
          go_wp2_with fail
          refine (error_same _ F _ (hE.below (by repeat (first | with_reducible exact hB8 | with_reducible exact Below.refl _ _ | with_reducible refine below_set ?_ (by first | omega | (dsimp only; omega)) _ | with_reducible refine balloc ?_ _ | with_reducible refine Below.drew ?_ | with_reducible refine below_drewN ?_ _ | exact hB8 | exact Below.refl _ _ | refine balloc ?_ _ | refine Below.drew ?_ | refine below_drewN ?_ _ | refine below_set ?_ (by first | omega | (dsimp only; omega)) _))) (Lib.hid rfl)).mono ?_; rintro e w9 ⟨rfl, hb⟩; replace hse := Lib.hid (hse.out.below hb)
          obtain ⟨hc9, hf9⟩ := bcell hb
          have z9 := hb.size
          try simp only [World.size_alloc, World.size_setCell, World.size_drew] at z9
          have s9_0 : w.heap.size < w9.heap.size := by omega
          have s9_1 : w6.heap.size < w9.heap.size := by omega
          have s9_2 : w8.heap.size < w9.heap.size := by omega
          have hB9 : Below w.heap.size w w9 := below_seq (by repeat (first | with_reducible exact hB8 | with_reducible exact Below.refl _ _ | with_reducible refine below_set ?_ (by first | omega | (dsimp only; omega)) _ | with_reducible refine balloc ?_ _ | with_reducible refine Below.drew ?_ | with_reducible refine below_drewN ?_ _ | exact hB8 | exact Below.refl _ _ | refine balloc ?_ _ | refine Below.drew ?_ | refine below_drewN ?_ _ | refine below_set ?_ (by first | omega | (dsimp only; omega)) _)) hb
          clear hb
          have m9_0_0 : w9.cell? ⟨w.heap.size, 0, none⟩ = some (.int .i64 a.x) := by go_simp
          have m9_0_1 : w9.cell? ⟨w.heap.size, 1, none⟩ = some (.int .i64 a.y) := by go_simp
          have m9_0_2 : w9.cell? ⟨w.heap.size, 2, none⟩ = some (.bool a.far) := by go_simp
          have m9_1_0 : w9.cell? ⟨w8.heap.size, 0, none⟩ = some (.int .i64 Wp.x) := by go_simp
          have m9_1_1 : w9.cell? ⟨w8.heap.size, 1, none⟩ = some (.int .i64 Wp.y) := by go_simp
          have m9_1_2 : w9.cell? ⟨w8.heap.size, 2, none⟩ = some (.bool Wp.far) := by go_simp
          have m9_1_3 : w9.cell? ⟨w8.heap.size, 3, none⟩ = some (.int .i64 Ws) := by go_simp
          clear m8_0_0 m8_0_1 m8_0_2
          clear hc9
          clear z8 hB8 hf9
          obtain ⟨q0, q1, q2, q3, -, -, -, -, ql⟩ := hse.out
          go_upto_region 19 with fail
          clear q0 q1 q2 q3 ql hse k3 k4 m9_0_0 m9_0_1 m9_0_2 m9_1_0 m9_1_1 m9_1_2 m9_1_3
          replace hB9 := Lib.hid hB9
          obtain ⟨EC, hM, hC⟩ := coins_out L0 l0
          replace hM := Lib.hid hM
          replace hC := Lib.hid hC
          have hs0 : Hid (∀ w', Below w.heap.size w w' → 0 < L0.length → ∃ b o, a0 = some ⟨b, o, none⟩ ∧ SpotsAt w' b o L0) := Lib.hid fun w' hb h => by obtain ⟨b, o, e, hs⟩ := h0.out h; exact ⟨b, o, e, hs.below hb⟩
          go_wp2_with fail
          refine (hC.out a0 c0 w9 (hF.below hB9.out) (hs0.out _ hB9.out)).2.mono ?_; rintro e wa ⟨rfl, hba⟩
          have hBa := Lib.hid (below_seq hB9.out hba)
          clear hba
          by_cases hEC : EC = 0
          case neg =>
            have hck := (hC.out a0 c0 wa (hF.below hBa.out) (hs0.out _ hBa.out)).1
            have hNw := Lib.hid (bnew_n L0.length (errV EC) a0 c0 wa ⟨EC, errVB_ne hEC⟩ hck)
            have g1 : (EC != 0) = true := by simpa using hEC
            clear hck hEC hC hM hs0
            go_wp2_with fail
            refine hNw.out.mono ?_; rintro e wb ⟨rfl, hbb⟩
            have hBb := Lib.hid (below_seq hBa.out hbb)
            clear hbb
            go_wp2_with fail
            refine (error_same _ EC _ (hE.below hBb.out) (Lib.hid rfl)).mono ?_; rintro e wd ⟨rfl, hbd⟩
            have hBd := Lib.hid (below_seq hBb.out hbd)
            clear hbd
            go_wp2_with fail
            go_ret
            exact ⟨rfl, hBd.out⟩
          subst hEC
          obtain ⟨M, hM12, hLM⟩ := hM.out rfl
          have hlM : M.length = L0.length := by rw [hLM, List.length_map]
          have hNw := bnew_y M a0 c0 wa hM12 (hF.below hBa.out) (by rw [← hLM]; exact hs0.out _ hBa.out)
          rw [hlM] at hNw
          replace hNw := Lib.hid hNw
          replace hLM := Lib.hid hLM
          replace hlM := Lib.hid hlM
          go_wp2_with fail
          refine hNw.out.mono ?_; rintro e wb ⟨p, rfl, hbk, hbb⟩
          have hBb := Lib.hid (below_seq hBa.out hbb)
          have hab := hbb.size
          replace hbk := Lib.hid hbk
          clear hbb hNw
          go_wp2_with fail
          refine (error_nil 0 _ true (Lib.hid rfl)).mono ?_; rintro e wd ⟨rfl, hbd⟩
          have hBd := Lib.hid (below_seq hBb.out hbd)
          replace hbk := Lib.hid (hbk.out.below hbd)
          have hbd2 := hbd.size
          clear hbd
          have hNb := rbook_y M a0 c0 wd hM12 (by rw [← hLM.out]; exact hs0.out _ hBd.out)
          rw [hlM.out] at hNb
          replace hNb := Lib.hid hNb
          go_wp2_with fail
          refine hNb.out.mono ?_; rintro e wf ⟨pc, rfl, hbc, hbf⟩
          have hBf := Lib.hid (below_seq hBd.out hbf)
          obtain ⟨vc, vg, hv⟩ := hbk.out
          have hvf := Lib.hid (hv.below hbf)
          obtain ⟨rc, rg, hr⟩ := hbc
          have hap : ∀ j, inB p vc vg j → ¬ inB pc rc rg j := fun j h1 h2 => by
            have := (hv.blk j h1).2
            have := (hr.blk j h2).1
            omega
          have hzw : w.heap.size ≤ wa.heap.size := hBa.out.size
          have hzd : wa.heap.size ≤ wd.heap.size := by omega
          have hr' := Lib.hid hr
          replace hap := Lib.hid hap
          have hlr : (List.replicate L0.length false).length = M.length := by rw [List.length_replicate, hlM.out]
          have hM1000 : M.length ≤ 1000 := by omega
          clear hNb hbk hv hr hbf hs0 hC hM hBa hBb hBd
          generalize List.replicate L0.length false = G0 at *
          go_wp2_with fail
          clear h0
          go_loopw [24] (fun i wr => ∃ (n : Nat) (N : List Int) (G : List Bool) (vc vg rc rg : Value), n ≤ ds.length ∧ i = .int .i64 n ∧ N.length ≤ 1000 ∧ G.length = N.length ∧ BkV wr wa.heap.size p vc vg N G ∧ BkV wr wd.heap.size pc rc rg N G ∧ (∀ j, inB p vc vg j → ¬ inB pc rc rg j) ∧ Below w.heap.size w wr) (fun i _ => ds.length - (intOf i).toNat)
          case atStart => exact ⟨0, M, G0, vc, vg, rc, rg, Nat.zero_le _, rfl, hM1000, hlr, hvf.out, hr'.out, hap.out, hBf.out⟩
          case round =>
            clear hvf hr' hap hBf hlr hM1000
            obtain ⟨n, N, G, vc, vg, rc, rg, hn, rfl, hN, hG, hv, hr, hap, hB⟩ := hrel
            replace hv := Lib.hid hv
            replace hr := Lib.hid hr
            replace hap := Lib.hid hap
            replace hB := Lib.hid hB
            obtain ⟨C, hCd⟩ : ∃ C, decide (n < ds.length ∧ n < 20) = C := ⟨_, rfl⟩
            go_upto_region 26 with fail
            go_cut [122] from 115 to 121 (fun s122 wx => s122 = .bool C ∧ wx = wr)
            case first =>
              clear hv hr hap hB
              by_cases q1 : n < ds.length
              · by_cases q2 : n < 20
                · rw [decide_eq_true ⟨q1, q2⟩] at hCd
                  subst hCd
                  have g3 : decide ((n : Int) < 20) = true := by rw [decide_eq_true_iff]; omega
                  go_wp2_with fail
                  go_meet
                  exact ⟨rfl, rfl⟩
                · rw [decide_eq_false (fun h => q2 h.2)] at hCd
                  subst hCd
                  have g3 : decide ((n : Int) < 20) = false := by rw [decide_eq_false_iff_not]; omega
                  go_wp2_with fail
                  go_meet
                  exact ⟨rfl, rfl⟩
              · rw [decide_eq_false (fun h => q1 h.1)] at hCd
                subst hCd
                go_wp2_with fail
                go_meet
                exact ⟨rfl, rfl⟩
            case rest =>
            obtain ⟨rfl, hwx⟩ := hcut
            obtain ⟨wA, rfl⟩ : ∃ x : World, x = wc := ⟨_, rfl⟩
            subst hwx
            cases C
            · go_wp2_with fail
              go_ret
              exact ⟨rfl, hB.out⟩
            · obtain ⟨q1, q2⟩ := of_decide_eq_true hCd
              clear hCd
              obtain ⟨bD, oD, rfl, hds⟩ := h1.out (by omega)
              have hok := hds.ok n q1
              have hbD := hds.lt
              have hdl0 : ∀ w', Below w.heap.size w w' → DealsAt w' bD oD ds := fun w' h => hds.below h
              obtain ⟨d, hd⟩ : ∃ d, ds[n] = d := ⟨_, rfl⟩
              rw [hd] at hok
              have hdl : Hid (∀ w' : World, Below w.heap.size w w' → w'.cell? ⟨bD, oD + n * 6, none⟩ = some (.slice d.ag d.G.length d.cg) ∧ w'.cell? ⟨bD, oD + n * 6 + 1, none⟩ = some (.slice d.an d.C.length d.cn) ∧ w'.cell? ⟨bD, oD + n * 6 + 2, none⟩ = some (.int .i64 d.r.x) ∧ w'.cell? ⟨bD, oD + n * 6 + 3, none⟩ = some (.int .i64 d.r.y) ∧ w'.cell? ⟨bD, oD + n * 6 + 4, none⟩ = some (.bool d.r.far) ∧ w'.cell? ⟨bD, oD + n * 6 + 5, none⟩ = some (.int .i64 d.s) ∧ bD < w'.heap.size) := Lib.hid fun w' h => by
                have hh := hdl0 w' h
                have e0 := hh.c0 n q1
                have e1 := hh.c1 n q1
                have e2 := hh.c2 n q1
                have e3 := hh.c3 n q1
                have e4 := hh.c4 n q1
                have e5 := hh.c5 n q1
                rw [hd] at e0 e1 e2 e3 e4 e5
                exact ⟨e0, e1, e2, e3, e4, e5, hh.lt⟩
              have hOk : Hid (∀ w' : World, Below w.heap.size w w' → DealOk w' d) := Lib.hid fun w' h => hok.below h
              have hg0 := hok.g0
              have hg1 := hok.g1
              have hn1 := hok.n1
              have en : (n : Int) < (ds.length : Int) := by omega
              clear hds hdl0 hd
              obtain ⟨V, E, -, -, xP, xD⟩ := ex_out N G d.G d.C hG (by omega) (by omega) hn1
              have kP : Hid (∀ w', Below w.heap.size w w' → Below wA.heap.size wA w' → Calls Tryd.prog 9 #[.pointer (some ⟨p, 0, none⟩), .slice d.ag d.G.length d.cg, .slice d.an d.C.length d.cn] w' fun e w1 => e = .returned (.tuple #[spV V, errV E]) ∧ Below w'.heap.size w' w1) := Lib.hid fun w' h h2 => xP wa.heap.size p d.ag d.an d.cg d.cn w' (hF.below h) ⟨_, _, hv.out.below h2⟩ hg0 hg1 (hOk.out w' h).gi (hOk.out w' h).ni
              have kD : Hid (∀ w', Below w.heap.size w w' → Below wA.heap.size wA w' → Calls Tryd.prog 25 #[.pointer (some ⟨pc, 0, none⟩), .slice d.ag d.G.length d.cg, .slice d.an d.C.length d.cn] w' fun e w1 => e = .returned (.tuple #[spV V, .int .i64 E]) ∧ Below w'.heap.size w' w1) := Lib.hid fun w' h h2 => xD wd.heap.size pc d.ag d.an d.cg d.cn w' (hF.below h) ⟨_, _, hr.out.below h2⟩ (hOk.out w' h).gi (hOk.out w' h).ni
              clear xP xD hok
              have hA0 := Lib.hid (Below.refl wA.heap.size wA)
              have kD' : Hid (∀ w', Below wA.heap.size wA w' → Calls Tryd.prog 25 #[.pointer (some ⟨pc, 0, none⟩), .slice d.ag d.G.length d.cg, .slice d.an d.C.length d.cn] w' fun e w1 => e = .returned (.tuple #[spV V, .int .i64 E]) ∧ Below w'.heap.size w' w1) := Lib.hid fun w' h => kD.out w' (below_seq hB.out h) h
              have kP' : Hid (∀ w', Below wA.heap.size wA w' → Calls Tryd.prog 9 #[.pointer (some ⟨p, 0, none⟩), .slice d.ag d.G.length d.cg, .slice d.an d.C.length d.cn] w' fun e w1 => e = .returned (.tuple #[spV V, errV E]) ∧ Below w'.heap.size w' w1) := Lib.hid fun w' h => kP.out w' (below_seq hB.out h) h
              clear kP kD
              go_upto_region 28 with fail
              have hS : Hid (∀ w', Below wA.heap.size wA w' → w'.cell? ⟨bD, oD + n * 6, none⟩ = some (.slice d.ag d.G.length d.cg) ∧ w'.cell? ⟨bD, oD + n * 6 + 1, none⟩ = some (.slice d.an d.C.length d.cn) ∧ bD < w'.heap.size ∧ Below wA.heap.size wA w') := Lib.hid fun w' h => ⟨(hdl.out _ (below_seq hB.out h)).1, (hdl.out _ (below_seq hB.out h)).2.1, (hdl.out _ (below_seq hB.out h)).2.2.2.2.2.2, h⟩
              obtain ⟨d0, d1, -, -, -, -, dl⟩ := hdl.out _ hB.out
              go_cut [25, 26] from 125 to 139 (fun s25 s26 wx => ∃ q : Nat, s25 = .pointer (some ⟨q, 0, none⟩) ∧ s26 = .int .i64 E ∧ SpAt wx q V ∧ Below wA.heap.size wA wx)
              case first =>
                go_region_held3 (fun w' => w'.cell? ⟨bD, oD + n * 6, none⟩ = some (.slice d.ag d.G.length d.cg) ∧ w'.cell? ⟨bD, oD + n * 6 + 1, none⟩ = some (.slice d.an d.C.length d.cn) ∧ bD < w'.heap.size ∧ Below wA.heap.size wA w') (first | (refine hS.out _ ?_; repeat (with_reducible first | exact Below.refl _ _ | exact hwt.out | refine balloc ?_ _ | refine Below.drew ?_ | refine below_set ?_ (by first | omega | (dsimp only; omega)) _))) (first | (go_at_call 25; refine (kD'.out _ (by repeat (with_reducible first | exact Below.refl _ _ | refine balloc ?_ _ | refine Below.drew ?_))).mono ?_; rintro e wt ⟨rfl, hbt⟩; have hwt := Lib.hid (show Below wA.heap.size wA wt from below_seq (by repeat (with_reducible first | exact Below.refl _ _ | refine balloc ?_ _ | refine Below.drew ?_)) hbt); have hza := hwt.out.size; (first | (refine hav_ (P := SpAt wt _ ⟨0, 0, false⟩) (SpAt.below (SpAt.fresh _ _ _ _ _) hbt) (fun kC => ?_); obtain ⟨c0', c1', c2', c3', c4', c5', c6'⟩ := kC) | (refine hav_ (P := SpAt wt _ ⟨0, 0, false⟩) (SpAt.below (SpAt.drew (SpAt.fresh _ _ _ _ _)) hbt) (fun kC => ?_); obtain ⟨c0', c1', c2', c3', c4', c5', c6'⟩ := kC) | skip); clear hbt) | fail)
                all_goals
                  go_wp2_with fail
                  go_meet
                  first
                  | exact ⟨_, rfl, rfl, SpAt.fresh _ _ _ _ _, balloc hwt.out _⟩
                  | exact ⟨_, rfl, rfl, (SpAt.zero_of (by assumption) (by assumption) (by assumption) (by assumption) (by assumption) (by assumption) (by assumption)).set3 V, set3_below hwt.out (by omega)⟩
              case rest =>
              obtain ⟨q25, rfl, rfl, hp25, hw25⟩ := hcut
              obtain ⟨u1, hu⟩ : ∃ x, x = wc := ⟨_, rfl⟩
              subst hu
              have hB1 := Lib.hid (below_seq hB.out hw25)
              have hA1 := Lib.hid hw25
              have hpA := Lib.hid hp25
              clear d0 d1 dl hS hp25 hw25
              go_upto_region 29 with fail
              have hS : Hid (∀ w', Below u1.heap.size u1 w' → w'.cell? ⟨bD, oD + n * 6, none⟩ = some (.slice d.ag d.G.length d.cg) ∧ w'.cell? ⟨bD, oD + n * 6 + 1, none⟩ = some (.slice d.an d.C.length d.cn) ∧ bD < w'.heap.size ∧ Below u1.heap.size u1 w') := Lib.hid fun w' h => ⟨(hdl.out _ (below_seq hB1.out h)).1, (hdl.out _ (below_seq hB1.out h)).2.1, (hdl.out _ (below_seq hB1.out h)).2.2.2.2.2.2, h⟩
              obtain ⟨d0, d1, -, -, -, -, dl⟩ := hdl.out _ hB1.out
              go_cut [27, 28] from 140 to 154 (fun s27 s28 wx => ∃ q : Nat, s27 = .pointer (some ⟨q, 0, none⟩) ∧ s28 = errV E ∧ SpAt wx q V ∧ Below u1.heap.size u1 wx)
              case first =>
                go_region_held3 (fun w' => w'.cell? ⟨bD, oD + n * 6, none⟩ = some (.slice d.ag d.G.length d.cg) ∧ w'.cell? ⟨bD, oD + n * 6 + 1, none⟩ = some (.slice d.an d.C.length d.cn) ∧ bD < w'.heap.size ∧ Below u1.heap.size u1 w') (first | (refine hS.out _ ?_; repeat (with_reducible first | exact Below.refl _ _ | exact hwt.out | refine balloc ?_ _ | refine Below.drew ?_ | refine below_set ?_ (by first | omega | (dsimp only; omega)) _))) (first | (go_at_call 9; refine (kP'.out _ (below_seq hA1.out (by repeat (with_reducible first | exact Below.refl _ _ | refine balloc ?_ _ | refine Below.drew ?_)))).mono ?_; rintro e wt ⟨rfl, hbt⟩; have hwt := Lib.hid (show Below u1.heap.size u1 wt from below_seq (by repeat (with_reducible first | exact Below.refl _ _ | refine balloc ?_ _ | refine Below.drew ?_)) hbt); have hza := hwt.out.size; (first | (refine hav_ (P := SpAt wt _ ⟨0, 0, false⟩) (SpAt.below (SpAt.fresh _ _ _ _ _) hbt) (fun kC => ?_); obtain ⟨c0', c1', c2', c3', c4', c5', c6'⟩ := kC) | (refine hav_ (P := SpAt wt _ ⟨0, 0, false⟩) (SpAt.below (SpAt.drew (SpAt.fresh _ _ _ _ _)) hbt) (fun kC => ?_); obtain ⟨c0', c1', c2', c3', c4', c5', c6'⟩ := kC) | skip); clear hbt) | fail)
                all_goals
                  go_wp2_with fail
                  go_meet
                  first
                  | exact ⟨_, rfl, rfl, SpAt.fresh _ _ _ _ _, balloc hwt.out _⟩
                  | exact ⟨_, rfl, rfl, (SpAt.zero_of (by assumption) (by assumption) (by assumption) (by assumption) (by assumption) (by assumption) (by assumption)).set3 V, set3_below hwt.out (by omega)⟩
              case rest =>
              obtain ⟨q27, rfl, rfl, hp27, hw27⟩ := hcut
              obtain ⟨u2, hu⟩ : ∃ x, x = wc := ⟨_, rfl⟩
              subst hu
              have hB2 := Lib.hid (below_seq hB1.out hw27)
              have hA2 := Lib.hid (below_seq hA1.out hw27)
              replace hpA := Lib.hid (hpA.out.below hw27)
              have hpB := Lib.hid hp27
              clear d0 d1 dl hS hp27 hw27 kP' kD'
              go_wp2_with fail
              refine (error_same _ E _ (hE.below hB2.out) (Lib.hid rfl)).mono ?_; rintro e u3 ⟨rfl, hb3⟩
              have hB3 := Lib.hid (below_seq hB2.out hb3)
              have hA3 := Lib.hid (below_seq hA2.out hb3)
              obtain ⟨x0, x1, x2, -, -, -, xl⟩ := hpA.out.below hb3
              obtain ⟨y0, y1, y2, -, -, -, yl⟩ := hpB.out.below hb3
              clear hb3 hB2 hA2 hB1 hA1
              go_upto_region 31 with fail
              clear x0 x1 x2 xl y0 y1 y2 yl hpA hpB
              obtain ⟨E2, N', G', hN', hG', dP, dD⟩ := do_out N G d.G d.C d.r d.s hG hN (by omega) hn1
              have hw0 := hOk.out w (Below.refl _ _)
              have hzr := (hr.out.blk pc (.inl rfl))
              have hzv := (hv.out.blk p (.inl rfl))
              have hA3z := hA3.out.size
              have hLC : Lies u3 pc rc rg d.ag d.an d.G d.C := ⟨fun h => by obtain ⟨b, o, e, hs⟩ := hw0.gi h; exact ⟨b, o, e, hs.below hB3.out, fun hi => by have := (hr.out.blk b hi).1; have := hs.lt; omega⟩, fun h => by obtain ⟨b, o, e, hs⟩ := hw0.ni h; exact ⟨b, o, e, hs.below hB3.out, fun hi => by have := (hr.out.blk b hi).1; have := hs.lt; omega⟩⟩
              have hDc := Lib.hid (dD wd.heap.size pc rc rg d.ag d.an d.cg d.cn u3 (hF.below hB3.out) (hr.out.below hA3.out) (by omega) hLC)
              have hr3 := Lib.hid (hr.out.below hA3.out)
              have hv3 := Lib.hid (hv.out.below hA3.out)
              replace dP := Lib.hid dP
              replace hw0 := Lib.hid hw0
              obtain ⟨d0, d1, d2, d3, d4, d5, dl⟩ := hdl.out _ hB3.out
              clear dD hLC
              go_wp2_with fail
              refine hDc.out.mono ?_; rintro e u4 ⟨rfl, rc', rg', hr4, hin4, hbut4⟩
              have hB4 : Below w.heap.size w u4 := hB3.out.trans (hbut4.below hB3.out.size (fun j hj => by have := (hr3.out.blk j hj).1; omega))
              have hv4 : BkV u4 wa.heap.size p vc vg N G := hv3.out.but hbut4 (fun j h1 h2 => hap.out j h1 h2)
              have hap4 : ∀ j, inB p vc vg j → ¬ inB pc rc' rg' j := fun j h1 h2 => (hin4 j h2).elim (hap.out j h1) (fun h => by have := (hv3.out.blk j h1).2; omega)
              have hLP : Lies u4 p vc vg d.ag d.an d.G d.C := ⟨fun h => by obtain ⟨b, o, e, hs⟩ := hw0.out.gi h; exact ⟨b, o, e, hs.below hB4, fun hi => by have := (hv.out.blk b hi).1; have := hs.lt; omega⟩, fun h => by obtain ⟨b, o, e, hs⟩ := hw0.out.ni h; exact ⟨b, o, e, hs.below hB4, fun hi => by have := (hv.out.blk b hi).1; have := hs.lt; omega⟩⟩
              have hz4 := hbut4.size
              have hDb := Lib.hid (dP.out wa.heap.size p vc vg d.ag d.an d.cg d.cn u4 (hF.below hB4) hv4 (by omega) hg0 hg1 hLP)
              replace hB4 := Lib.hid hB4
              replace hv4 := Lib.hid hv4
              replace hr4 := Lib.hid hr4
              replace hap4 := Lib.hid hap4
              clear d0 d1 d2 d3 d4 d5 dl hDc hin4 hbut4 hLP dP hw0 hv3 hr3
              obtain ⟨d0, d1, d2, d3, d4, d5, dl⟩ := hdl.out _ hB4.out
              go_wp2_with fail
              refine hDb.out.mono ?_; rintro e u5 ⟨rfl, vc', vg', hv5, hin5, hbut5⟩
              have hB5 := Lib.hid (hB4.out.trans (hbut5.below hB4.out.size (fun j hj => by have := (hv4.out.blk j hj).1; omega)))
              have hr5 := Lib.hid (hr4.out.but hbut5 (fun j h1 h2 => hap4.out j h2 h1))
              have hap5 : ∀ j, inB p vc' vg' j → ¬ inB pc rc' rg' j := fun j h1 h2 => (hin5 j h1).elim (fun h => hap4.out j h h2) (fun h => by have := (hr4.out.blk j h2).2; omega)
              replace hap5 := Lib.hid hap5
              replace hv5 := Lib.hid hv5
              clear d0 d1 d2 d3 d4 d5 dl hDb hin5 hbut5 hap4 hv4 hr4 hB4 hv hr hap hA3 hB3 hOk hdl
              go_wp2_with fail
              refine (error_same _ E2 _ (hE.below hB5.out) (Lib.hid rfl)).mono ?_; rintro e u6 ⟨rfl, hb6⟩
              have hB6 := Lib.hid (below_seq hB5.out hb6)
              have hv6 := Lib.hid (hv5.out.below hb6)
              have hr6 := Lib.hid (hr5.out.below hb6)
              clear hb6 hv5 hr5 hB5
              obtain ⟨acr, ccr, rfl⟩ := own_slB hr6.out.rc
              have hll : (liveN G' N'.length).length ≤ 1000000 := by have := liveN_len G' N'.length; omega
              have hlc : (N'.map qS).length ≤ 1000000 := by rw [List.length_map]; omega
              have hlm : N'.length = (N'.map qS).length := by rw [List.length_map]
              replace hlm := Lib.hid hlm
              obtain ⟨T, hT⟩ : ∃ T, qS (totN N' G' N'.length) = T := ⟨_, rfl⟩
              have kT1 : Hid (∀ w1, Below u6.heap.size u6 w1 → Calls Tryd.prog 14 #[.pointer (some ⟨p, 0, none⟩)] w1 fun e w' => e = .returned (spV T) ∧ Below w1.heap.size w1 w') := Lib.hid fun w1 h => by
                have := btotal_c N' G' wa.heap.size p w1 (hF.below (below_seq hB6.out h)) ⟨_, _, hv6.out.below h⟩ (by omega)
                rw [hT] at this
                exact this
              have kT2 : Hid (∀ w1, Below u6.heap.size u6 w1 → Calls Tryd.prog 30 #[.pointer (some ⟨pc, 0, none⟩)] w1 fun e w' => e = .returned (spV T) ∧ Below w1.heap.size w1 w') := Lib.hid fun w1 h => by
                have := rbtotal_c N' G' wd.heap.size pc w1 ⟨_, _, hr6.out.below h⟩ (by omega)
                rw [hT] at this
                exact this
              have kL1 := Lib.hid (fun (w1 : World) (h : Below u6.heap.size u6 w1) => blive_c N' G' wa.heap.size p w1 ⟨_, _, hv6.out.below h⟩ (by omega))
              have kL2 := Lib.hid (fun (w1 : World) (h : Below u6.heap.size u6 w1) => rblive_c N' G' wd.heap.size pc w1 ⟨_, _, hr6.out.below h⟩ (by omega))
              have kC := Lib.hid (fun (w1 : World) (h : Below u6.heap.size u6 w1) => bcoins_c N' G' wa.heap.size p w1 ⟨_, _, hv6.out.below h⟩ (by omega))
              have kSp := Lib.hid (fun (w1 : World) (h : Below u6.heap.size u6 w1) => (hr6.out.sp).below h)
              have hS : Hid (∀ w', Below u6.heap.size u6 w' → w'.cell? ⟨pc, 0, none⟩ = some (.slice acr N'.length ccr) ∧ pc < w'.heap.size ∧ Below u6.heap.size u6 w') := Lib.hid fun w' h => ⟨(hr6.out.below h).c0, (hr6.out.below h).lt, h⟩
              replace hT := Lib.hid hT
              go_upto_region 33 with fail
              obtain ⟨f0, f1, -⟩ := hS.out _ (Below.refl _ _)
              go_cut [207] from 177 to 206 (fun s207 wx => s207 = .bool false ∧ Below u6.heap.size u6 wx)
              case first =>
                clear hv6 hr6 hap5 hB6 hG hN hG' hN' hzr hzv hT
                go_region_held3 (fun w' => w'.cell? ⟨pc, 0, none⟩ = some (.slice acr N'.length ccr) ∧ pc < w'.heap.size ∧ Below u6.heap.size u6 w') (first | (refine hS.out _ ?_; repeat (with_reducible first | exact Below.refl _ _ | exact hwt.out | refine balloc ?_ _ | refine Below.drew ?_))) (first | (go_at_call 13; refine (kL1.out _ (by repeat (with_reducible first | exact Below.refl _ _ | exact hwt.out | refine balloc ?_ _ | refine Below.drew ?_))).mono ?_; rintro e wt ⟨v1, rfl, ho1, hbt⟩; obtain ⟨al1, cl1, rfl⟩ := own_slB ho1; have hwt := Lib.hid (show Below u6.heap.size u6 wt from below_seq (by repeat (with_reducible first | exact Below.refl _ _ | exact hwt.out | refine balloc ?_ _ | refine Below.drew ?_)) hbt); have hi1 := Lib.hid (own_ints ho1 rfl); (first | replace hi2 := Lib.hid (hi2.out.below hbt) | skip)) | (go_at_call 28; refine (kL2.out _ (by repeat (with_reducible first | exact Below.refl _ _ | exact hwt.out | refine balloc ?_ _ | refine Below.drew ?_))).mono ?_; rintro e wt ⟨v2, rfl, ho2, hbt⟩; obtain ⟨al2, cl2, rfl⟩ := own_slB ho2; have hwt := Lib.hid (show Below u6.heap.size u6 wt from below_seq (by repeat (with_reducible first | exact Below.refl _ _ | exact hwt.out | refine balloc ?_ _ | refine Below.drew ?_)) hbt); have hi2 := Lib.hid (own_ints ho2 rfl); (first | replace hi1 := Lib.hid (hi1.out.below hbt) | skip)) | (go_at_call 27; refine (ints_same (liveN G' N'.length) _ _ _ hll hi1.out hi2.out).mono ?_; rintro e wt ⟨rfl, hbt⟩; have hwt := Lib.hid (show Below u6.heap.size u6 wt from below_seq (by repeat (with_reducible first | exact Below.refl _ _ | exact hwt.out | refine balloc ?_ _ | refine Below.drew ?_)) hbt)) | (go_at_call 15; refine (kC.out _ (by repeat (with_reducible first | exact Below.refl _ _ | exact hwt.out | refine balloc ?_ _ | refine Below.drew ?_))).mono ?_; rintro e wt ⟨v3, rfl, ho3, hbt⟩; obtain ⟨al3, cl3, rfl⟩ := own_slB ho3; have hwt := Lib.hid (show Below u6.heap.size u6 wt from below_seq (by repeat (with_reducible first | exact Below.refl _ _ | exact hwt.out | refine balloc ?_ _ | refine Below.drew ?_)) hbt); have hi3 := Lib.hid (own_spots ho3 hlm)) | (go_at_call 29; refine (spots_same (N'.map qS) _ _ _ hlc hi3.out (kSp.out _ (by repeat (with_reducible first | exact Below.refl _ _ | exact hwt.out | refine balloc ?_ _ | refine Below.drew ?_)))).mono ?_; rintro e wt ⟨rfl, hbt⟩; have hwt := Lib.hid (show Below u6.heap.size u6 wt from below_seq (by repeat (with_reducible first | exact Below.refl _ _ | exact hwt.out | refine balloc ?_ _ | refine Below.drew ?_)) hbt)) | (go_at_call 14; refine (kT1.out _ (by repeat (with_reducible first | exact Below.refl _ _ | exact hwt.out | refine balloc ?_ _ | refine Below.drew ?_))).mono ?_; rintro e wt ⟨rfl, hbt⟩; have hwt := Lib.hid (show Below u6.heap.size u6 wt from below_seq (by repeat (with_reducible first | exact Below.refl _ _ | exact hwt.out | refine balloc ?_ _ | refine Below.drew ?_)) hbt)) | (go_at_call 30; refine (kT2.out _ (by repeat (with_reducible first | exact Below.refl _ _ | exact hwt.out | refine balloc ?_ _ | refine Below.drew ?_))).mono ?_; rintro e wt ⟨rfl, hbt⟩; have hwt := Lib.hid (show Below u6.heap.size u6 wt from below_seq (by repeat (with_reducible first | exact Below.refl _ _ | exact hwt.out | refine balloc ?_ _ | refine Below.drew ?_)) hbt)) | fail)
                all_goals
                  go_wp2_with fail
                  go_meet
                  exact ⟨rfl, hwt.out⟩
              case rest =>
              obtain ⟨rfl, hbx⟩ := hcut
              obtain ⟨u7, hu⟩ : ∃ x, x = wc := ⟨_, rfl⟩
              subst hu
              clear f0 f1 kT1 kT2 kL1 kL2 kC kSp hS
              go_wp2_with fail
              go_roundw
              case rel => exact ⟨n + 1, N', G', _, _, _, _, by omega, by go_num, hN', hG', hv6.out.below hbx, hr6.out.below hbx, hap5.out, below_seq hB6.out hbx⟩
              case measure => simp [intOf]; omega
end Go.Proofs.YtebomakihdjllaaDoor
namespace Go.Proofs.YtebomakihdjllaaDoor
open Go.RowKit
set_option linter.unusedVariables false
theorem bookPlays_law (v0 v1 : Value) (r : Int) (hr : (Lit.int .i64 r).wf = true) (k : Int) (hk : (Lit.int .i64 k).wf = true) (a : Sp) (w : World) (o0 : SpotsV w v0) (o1 : DealsV w v1) (hL : FarAt w ∧ ErrAt w) :
    Calls Tryd.prog 4 #[v0, v1, .int .i64 r, .int .i64 k, spV a] w fun e w' => e = .returned (.bool true) ∧ Below w.heap.size w w' := by
  obtain ⟨L0, ⟨a0, c0, rfl, h0⟩, m0⟩ := o0.sl
  obtain ⟨ds, a1, c1, rfl, h1, m1⟩ := o1
  obtain ⟨E0, hE0⟩ : ∃ E0, sCheck a = E0 := ⟨_, rfl⟩
  obtain ⟨n0, hn0, k3⟩ : ∃ n0 : Int, ((E0 = 0 ∧ Ok a ∧ bAsk a a = n0) ∨ ((E0 == 0) = false ∧ n0 = 0)) ∧ ∀ w1 : World, FarAt w1 → Calls Tryd.prog 18 #[spV a, spV a] w1 fun e w' => e = .returned (.tuple #[.int .i64 n0, errV E0]) ∧ Below w1.heap.size w1 w' := by
    by_cases h : E0 = 0
    · have oa : Ok a := (ok_iff a).mp (hE0.trans h)
      exact ⟨_, .inl ⟨h, oa, rfl⟩, fun w1 hF => by rw [h]; exact bask_y a a _ w1 hF oa oa (Lib.hid rfl)⟩
    · exact ⟨0, .inr ⟨by rw [beq_eq_false_iff_ne]; exact h, rfl⟩, fun w1 hF => by rw [errVB_ne h]; exact bask_n1 a a E0 w1 hF (Lib.hid hE0) h⟩
  have hX : ∀ b, resB r = b → (b = true ↔ 0 ≤ r ∧ r < 1013) := fun b e => by rw [← e]; unfold resB; exact decide_eq_true_iff
  have hY : ∀ b, secB k = b → (b = true ↔ 1 ≤ k ∧ k < 1013) := fun b e => by rw [← e]; unfold secB; exact decide_eq_true_iff
  by_cases hrk : 0 ≤ r ∧ r < 1013 ∧ 1 ≤ k ∧ k < 1013
  · obtain ⟨r0, r1, k0, k1⟩ := hrk
    have x1 := (hX _ rfl).mpr ⟨r0, r1⟩
    have y1 := (hY _ rfl).mpr ⟨k0, k1⟩
    by_cases h : E0 = 0
    · have oa : Ok a := (ok_iff a).mp (hE0.trans h)
      exact bp_core L0 ds r k a a0 a1 c0 c1 w hL.1 hL.2 E0 n0 E0 ((k + bAsk (sq (4 * hJ * k)) a * r) % 1013) (sq (4 * hJ * k)) true true m0 m1 h0 h1 (Lib.hid hE0) (Lib.hid hn0) (Lib.hid k3) (Lib.hid x1) (Lib.hid y1) (Lib.hid (.inl ⟨rfl, rfl, rfl⟩)) (Lib.hid (.inl ⟨h, oa, r0, r1, k0, k1, rfl, rfl⟩))
        (Lib.hid fun w1 hF => by rw [h]; exact bclose_y r k a _ _ _ w1 hF r0 r1 k0 k1 oa (Lib.hid rfl) (Lib.hid rfl) rfl)
    · exact bp_core L0 ds r k a a0 a1 c0 c1 w hL.1 hL.2 E0 n0 E0 0 ⟨0, 0, false⟩ true true m0 m1 h0 h1 (Lib.hid hE0) (Lib.hid hn0) (Lib.hid k3) (Lib.hid x1) (Lib.hid y1) (Lib.hid (.inl ⟨rfl, rfl, rfl⟩)) (Lib.hid (.inr ⟨by rw [beq_eq_false_iff_ne]; exact h, rfl, rfl⟩))
        (Lib.hid fun w1 hF => by rw [errVB_ne h]; exact bclose_v r k a _ E0 w1 hF r0 r1 k0 k1 (Lib.hid hE0) h (Lib.hid rfl))
  · have hxy : (resB r && secB k) = false := by
      cases h1 : resB r
      · rfl
      · cases h2 : secB k
        · rfl
        · exact absurd ⟨((hX _ h1).mp rfl).1, ((hX _ h1).mp rfl).2, ((hY _ h2).mp rfl).1, ((hY _ h2).mp rfl).2⟩ hrk
    exact bp_core L0 ds r k a a0 a1 c0 c1 w hL.1 hL.2 E0 n0 1 0 ⟨0, 0, false⟩ _ _ m0 m1 h0 h1 (Lib.hid hE0) (Lib.hid hn0) (Lib.hid k3) (Lib.hid rfl) (Lib.hid rfl) (Lib.hid (.inr ⟨hxy, rfl⟩)) (Lib.hid (.inr ⟨rfl, rfl, rfl⟩))
      (Lib.hid fun w1 hF => bclose_n r k a w1 hrk)
end Go.Proofs.YtebomakihdjllaaDoor
namespace Go.Proofs.YtebomakihdjllaaDoor
open Go.ChangeShapes Go.WideShapes Go.ChangeAt Go.WideMaps Go.WideElems Go.RowKit
set_option maxRecDepth 100000
abbrev farLaid : List (String × DataW Unit) := [("pairstone/curve.Far", Rows.laid_pairstone_curve_Far)]
theorem gFar : Tryd.prog.globalNamed "pairstone/curve.Far" = some 0 := by kernel_rfl
theorem tFar : (Tryd.prog.globals[0]?).map (·.type) = some 23 := by kernel_rfl
/-- The door's own heap meets the condition. -/
theorem farLaid_met (os : Os) (args : Array Value) : laidMetH Tryd.prog farLaid ((World.doorLaid Tryd.prog 400 os).forCall (fun _ _ => 0) ⟨#[], args, []⟩).memory :=
  laidMetH_of_parts3 (fuel := 8) (laidMet_of_run' 8 (by kernel_rfl) (by kernel_rfl)) (by kernel_rfl) (by kernel_rfl)
theorem lt_of_cell {w : World} {b o : Nat} {v : Value} (h : w.cell? ⟨b, o, none⟩ = some v) : b < w.heap.size := by
  rcases Nat.lt_or_ge b w.heap.size with h1 | h1
  · exact h1
  · simp [World.cell?, Array.getElem?_eq_none h1] at h
theorem farLaid_at {W : World} (h : laidMetH Tryd.prog farLaid W) : FarAt W := by
  rw [MakeChecks.laidMetH_plain _ _ _ (by kernel_rfl)] at h
  obtain ⟨ps, ⟨g0, t0, cs0, f0, p0, q0, hg0, ht0, hv0, hd0, _, _⟩, _, _⟩ := h
  obtain rfl := Option.some.inj (gFar.symm.trans hg0)
  obtain rfl := Option.some.inj (tFar.symm.trans ht0)
  obtain ⟨y0, y1, y2, n, hx, hlen, h0, h1, h2⟩ := Deep.trod_struct3 Tryd.underlying23 hd0
  simp only [Rows.laid_pairstone_curve_Far, Prod.mk.injEq, DataW.agg.injEq, List.cons.injEq, and_true] at hx
  obtain ⟨⟨e0, e1, e2⟩, _⟩ := hx
  obtain ⟨a, c0, rfl, _⟩ := DataW.trod_int Tryd.underlying3 h0
  obtain ⟨b, c1, rfl, _⟩ := DataW.trod_int Tryd.underlying3 h1
  obtain ⟨f, c2, rfl⟩ := DataW.trod_bool Tryd.underlying4 h2
  have k3 : Tryd.prog.cellsOf 23 = 3 := by kernel_rfl
  have ki : Tryd.prog.cellsOf 3 = 1 := by kernel_rfl
  have kb : Tryd.prog.cellsOf 4 = 1 := by kernel_rfl
  obtain ⟨l⟩ := cs0
  have h3 : l.length = 3 := by simpa using hlen.trans k3
  match l, h3 with
  | [x, y, z], _ =>
    simp [ki, kb] at c0 c1 c2
    subst c0 c1 c2
    have v0 := World.var?_cell hg0 hv0 0
    have v1 := World.var?_cell hg0 hv0 1
    have v2 := World.var?_cell hg0 hv0 2
    simp at e0 e1 e2 v0 v1 v2
    subst e0 e1 e2
    exact ⟨v0, v1, v2, lt_of_cell v0⟩
end Go.Proofs.YtebomakihdjllaaDoor
namespace Go.Proofs.YtebomakihdjllaaDoor
open Go.ChangeShapes Go.WideShapes Go.ChangeAt Go.WideMaps Go.WideElems Go.RowKit
set_option maxRecDepth 100000
theorem gErr : Tryd.prog.globalNamed "errors.errorType" = some 1 := by kernel_rfl
theorem cutR : (Tryd.prog.cutTypes.find? (·.1 == "internal/reflectlite.rtype")).map (·.2) = some 116 := by kernel_rfl
theorem rowError : ((List.range Tryd.prog.types.size).filter fun t => Tryd.prog.rowNamed t [101, 114, 114, 111, 114]) = [25] := by kernel_rfl
/-- What the condition on the variable says of its cell. -/
theorem err_of_handles {l : List (String × DataW Unit)} {W : World} (h : handlesMet Tryd.prog l W) (hm : ("errors.errorType", Rows.laid_errors_errorType) ∈ l) : ErrAt W := by
  obtain ⟨name, u, ty, e1, e2, e3, e4, e5⟩ := h _ hm
  have en : name = [101, 114, 114, 111, 114] := (Option.some.inj e1).symm
  subst en
  obtain rfl := Option.some.inj (cutR.symm.trans e2)
  have hm : ty ∈ (List.range Tryd.prog.types.size).filter fun t => Tryd.prog.rowNamed t [101, 114, 114, 111, 114] := List.mem_filter.2 ⟨List.mem_range.2 e3, e4⟩
  rw [rowError] at hm
  obtain rfl := List.mem_singleton.1 hm
  have hh : typeHandle Tryd.prog 25 = .pointer (some ⟨2, 25, none⟩) := by kernel_rfl
  rw [hh] at e5
  have v := World.var?_cell gErr e5 0
  simp at v
  exact ⟨v, lt_of_cell v⟩
abbrev errLaid : List (String × DataW Unit) := [("errors.errorType", Rows.laid_errors_errorType)]
abbrev farErrLaid : List (String × DataW Unit) := [("pairstone/curve.Far", Rows.laid_pairstone_curve_Far), ("errors.errorType", Rows.laid_errors_errorType)]
theorem errLaid_met (os : Os) (args : Array Value) : laidMetH Tryd.prog errLaid ((World.doorLaid Tryd.prog 400 os).forCall (fun _ _ => 0) ⟨#[], args, []⟩).memory :=
  laidMetH_of_parts ⟨[], rfl, List.nodup_nil, fun _ _ h => by cases h⟩ (by kernel_rfl)
theorem farErrLaid_met (os : Os) (args : Array Value) : laidMetH Tryd.prog farErrLaid ((World.doorLaid Tryd.prog 400 os).forCall (fun _ _ => 0) ⟨#[], args, []⟩).memory :=
  laidMetH_of_parts (laidMet_of_run' 8 (by kernel_rfl) (by kernel_rfl)) (by kernel_rfl)
theorem errLaid_at {W : World} (h : laidMetH Tryd.prog errLaid W) : ErrAt W := by
  have h' : laidMet Tryd.prog [] W ∧ handlesMet Tryd.prog errLaid W := h
  exact err_of_handles h'.2 (by simp)
theorem farErrLaid_at {W : World} (h : laidMetH Tryd.prog farErrLaid W) : FarAt W ∧ ErrAt W := by
  have h' : laidMet Tryd.prog farLaid W ∧ handlesMet Tryd.prog errLaid W := h
  exact ⟨farLaid_at (by rw [MakeChecks.laidMetH_plain _ _ _ (by kernel_rfl)]; exact h'.1), err_of_handles h'.2 (by simp)⟩
end Go.Proofs.YtebomakihdjllaaDoor
namespace Go.Proofs.YtebomakihdjllaaDoor
open Go.RowKit
set_option maxRecDepth 100000
theorem headL : ∃ l : List Char, Tryd.prog.initOrder = String.ofList l ∧ ((behindMainWord (wordsSigns l)).head? = some "cut".toList ∧
    (match wordsSigns l with
      | h :: s :: _ => if !isSumSigns s then none else if h == "harness".toList then some (true, s) else if h == "ownmain".toList then some (false, s) else none
      | _ => none) = some (true, "3a966905491734d8cd3a199d93d79b235007406c9601357167a4fc8b9c882912".toList)) := by
  refine ⟨?l, ?h1, ?h2, ?h3⟩
  case h1 =>
    unfold Tryd.prog
    first | rfl | (dsimp only; rfl)
  case h2 => kernel_rfl
  case h3 => kernel_rfl
theorem headCut : ∃ r, behindMainWord (wordsSigns Tryd.prog.initOrder.toList) = "cut".toList :: r := by
  obtain ⟨l, h, hw, -⟩ := headL
  rw [h, String.toList_ofList]
  cases e : behindMainWord (wordsSigns l) with
  | nil => rw [e] at hw; cases hw
  | cons c r => rw [e] at hw; exact ⟨r, by rw [Option.some.inj hw]⟩
theorem mainIsK : Tryd.prog.mainIs = some (true, "3a966905491734d8cd3a199d93d79b235007406c9601357167a4fc8b9c882912".toList) := by
  obtain ⟨l, h, -, hm⟩ := headL
  unfold Program.mainIs; rw [h, String.toList_ofList]; exact hm
theorem mayEnterK : Tryd.prog.mayEnter = true := by
  obtain ⟨r, h⟩ := headCut
  unfold Program.mayEnter; rw [h]; kernel_rfl
theorem headLiftsK : Tryd.prog.headLifts = [] := by
  obtain ⟨r, h⟩ := headCut
  unfold Program.headLifts; rw [h]; kernel_rfl
theorem liftsFinalK : Tryd.prog.liftsFinal = false := by
  obtain ⟨r, h⟩ := headCut
  unfold Program.liftsFinal; rw [h, headLiftsK]; kernel_rfl
theorem makeK : Tryd.prog.make = some .cut := by
  obtain ⟨r, h⟩ := headCut
  unfold Program.make; rw [h]; kernel_rfl
end Go.Proofs.YtebomakihdjllaaDoor
namespace Go.Proofs.YtebomakihdjllaaDoor.bookPlays
open Go.ChangeShapes Go.WideShapes Go.ChangeAt Go.RowKit
set_option linter.unusedVariables false
theorem typesOk : ([31, 47, 3, 3, 23].all fun t => Tryd.prog.readableRec t && decide (t < Tryd.prog.types.size)) = true := by kernel_rfl
set_option maxRecDepth 100000 in
theorem lifted (os : Os) (started : os.Started) (H : Type) (enc : TypeId × Value → H) :
    ReturnsInHanded {} Tryd.checked os 4 .any (fun w args => (Rows.bookPlaysSpec.pre enc Tryd.prog Tryd.f4 [] false w args ∧ laidMetH Tryd.prog farErrLaid w) ∧ sizedMet enc Tryd.prog Tryd.f4 (OpenSpec.ofChange Rows.bookPlaysSpec) false w args)
      (Rows.bookPlaysSpec.post enc Tryd.prog Tryd.f4 false true false false) := by
  refine returnsInHanded_of_change_and (C := Tryd.checked) (X := fun w _ => laidMetH Tryd.prog farErrLaid w) (fun _ _ _ hh h => h.of_heap hh) Tryd.ownK started (by kernel_rfl) Tryd.func4
    (ChangeSpec.witness_shaped (enc := enc) (C := Tryd.checked) (os := os) (X := fun w _ => laidMetH Tryd.prog farErrLaid w) false (World.doorLaid Tryd.prog 400 os) #[.slice none 0 0, .slice none 0 0, .int .i64 0, .int .i64 0, .agg #[.int .i64 0, .int .i64 0, .bool false]] 8 rfl (World.shaped_of_RefB (by kernel_rfl) (by kernel_rfl)) (by kernel_rfl) (by kernel_rfl) (by kernel_rfl) (farErrLaid_met os _)) ?_
  intro W base args ds gs before hval0 hW hcnd hsz0 hL hholds
  have hval : ∀ (j : Nat) t v, Tryd.f4.params[j]? = some t → args[j]? = some v → Value.okWide Tryd.prog W .any base t v := hval0
  have hW' := hW
  obtain ⟨p, q, hA0, hV, rfl, hfz, hnd⟩ := hW
  have hA : DataW.TrodAll enc Tryd.prog W 0 (fun _ => true) true Tryd.f4.params.toList args.toList ds p := hA0
  obtain ⟨rfl, rfl⟩ := trodVars_none hV
  simp only [List.append_nil] at hW'
  have hlt : ∀ x ∈ p, x.block < W.heap.size := fun x hx => hW'.lt x hx
  have hsz : (DataW.weightsEach Tryd.prog (Tryd.f4.params.toList ++ Rows.bookPlaysSpec.plain.varTypes Tryd.prog) (ds ++ [])).all (· ≤ reachBytes) = true := hsz0
  rw [Tryd.params4] at hA hval hsz
  have hK := hA
  obtain ⟨v0, vs0, d0, ds0, p0, q0, hargs, rfl, rfl, h0, r0⟩ := trodAll_cons hA
  obtain ⟨v1, vs1, d1, ds1, p1, q1, rfl, rfl, rfl, h1, r1⟩ := trodAll_cons r0
  obtain ⟨v2, vs2, d2, ds2, p2, q2, rfl, rfl, rfl, h2, r2⟩ := trodAll_cons r1
  obtain ⟨v3, vs3, d3, ds3, p3, q3, rfl, rfl, rfl, h3, r3⟩ := trodAll_cons r2
  obtain ⟨v4, vs4, d4, ds4, p4, q4, rfl, rfl, rfl, h4, r4⟩ := trodAll_cons r3
  obtain ⟨rfl, rfl, rfl⟩ := trodAll_nil r4
  obtain rfl : args = #[v0, v1, v2, v3, v4] := by cases args; simp_all
  have o0 := open_spots Tryd.underlying31 Tryd.underlying23 (by kernel_rfl) (by kernel_rfl) Tryd.underlying3 Tryd.underlying3 Tryd.underlying4 (hval 0 31 v0 rfl rfl) h0
  have o1 := open_deals Tryd.underlying47 Tryd.underlying42 (by kernel_rfl) rfl rfl rfl (by kernel_rfl) (by kernel_rfl) (by kernel_rfl) Tryd.underlying34 Tryd.underlying3 (by kernel_rfl) Tryd.underlying31 Tryd.underlying23 (by kernel_rfl) Tryd.underlying36 rfl rfl (by kernel_rfl) (by kernel_rfl) Tryd.underlying23 (by kernel_rfl) Tryd.underlying3 Tryd.underlying3 Tryd.underlying4 Tryd.underlying3 (hval 1 47 v1 rfl rfl) h1
  obtain ⟨a2, rfl, rfl, rfl, w2⟩ := open_int Tryd.underlying3 (hval 2 3 v2 rfl rfl) h2
  obtain ⟨a3, rfl, rfl, rfl, w3⟩ := open_int Tryd.underlying3 (hval 3 3 v3 rfl rfl) h3
  obtain ⟨a4, b4, f4, rfl, w4, u4⟩ := open_spot Tryd.underlying23 (by kernel_rfl) (by kernel_rfl) Tryd.underlying3 Tryd.underlying3 Tryd.underlying4 (hval 4 23 v4 rfl rfl) h4
  clear hA0 hval0
  refine (bookPlays_law v0 v1 a2 w2 a3 w3 ⟨a4, b4, f4⟩ W o0 o1 (farErrLaid_at hL)).mono fun e W' ⟨he, hg⟩ => ?_
  subst he
  exact ⟨_, rfl, post_of_below (pa := _) (pv := []) hW' (fun _ _ _ => (trodAll_cons_mk (shut_bool Tryd.underlying4 _) trodAll_mk0)) (fun sp hsp => trodAll_stays Tryd.laidOutK hg typesOk hK (fun x hx => ⟨hlt x hx, hsp x (by first | exact hx | (simp at hx) | simpa using hx)⟩)) (fun _ _ => rfl) (by simp) hg (ok_one (by kernel_rfl) rfl (okWide_bool_mk Tryd.underlying4 _))⟩

theorem over : Rows.bookPlaysRow.holds Tryd.pinned (OpenSpec.ofChange Rows.bookPlaysSpec) :=
  OpenClaim.holds_of_wide 4 Tryd.f4 rfl rfl rfl rfl rfl rfl rfl ⟨rfl, rfl, rfl, rfl, rfl⟩ rfl rfl rfl rfl rfl (by kernel_rfl) Tryd.func4 (by show joinedFacts Tryd.prog _ _ _ _ = true; unfold joinedFacts; rw [mayEnterK, liftsFinalK, makeK]; kernel_rfl)
    (of_decide_eq_true (by kernel_rfl)) (by unfold Func.isWrapper; first | (rw [if_pos (by decide +kernel)]; kernel_rfl) | (rw [if_neg (by decide +kernel)]; exact ⟨rfl, rfl⟩))
    (fun os started H enc _ => lifted os started H enc)
theorem card : Rows.BookPlaysCardSaid :=
  Claim7.holds_tied_plain_at .later [] [.data, .handle] true (true, "3a966905491734d8cd3a199d93d79b235007406c9601357167a4fc8b9c882912") true
    over (fun _ h => by cases h) (by kernel_rfl) (fun _ h => by cases h) bookPlays_row_tie rfl ⟨rfl, rfl⟩ mainIsK rfl
    (fun f fn hf hfn => by
      obtain rfl : f = 4 := Option.some.inj ((show Tryd.prog.funcNamed "pairstone/stonelaw3.BookPlays" = some 4 by kernel_rfl).symm.trans hf) |>.symm
      obtain rfl : fn = Tryd.f4 := (Option.some.inj (Tryd.func4.symm.trans hfn)).symm
      exact ⟨by kernel_rfl, fun j t ht => by
        rw [Tryd.params4] at ht
        have hm : t ∈ ([31, 47, 3, 3, 23] : List TypeId) := by simpa using Array.mem_of_getElem? ht
        have hall : (([31, 47, 3, 3, 23] : List TypeId).all fun u => !Tryd.prog.wantsStandIn u) = true := by kernel_rfl
        exact (show Tryd.prog.wantsStandIn t = false by simpa using List.all_eq_true.1 hall t hm)⟩)
    (by kernel_rfl)
#print axioms card
end Go.Proofs.YtebomakihdjllaaDoor.bookPlays
