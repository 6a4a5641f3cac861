/- The statement of HideTells: for every input the law returns true, and the arguments read as they did. (its listed variable reads as laid; the card ties it) -/
import Derived.Test.YtopcdihgkojjlaaDoorSh
import Derived.Test.YtopcdihgkojjlaaDoorHd
import Derived.Laws.Entries
import Derived.Test.YtopcdihgkojjlaaDoorRc
import Derived.Test.YtopcdihgkojjlaaDoorLHideTellsA
import Derived.Test.YtopcdihgkojjlaaDoorFr
import Derived.SizedLaws
import Derived.Test.YtopcdihgkojjlaaDoorTie
import Derived.Test.YtopcdihgkojjlaaDoorCards
import Derived.Test.YtopcdihgkojjlaaDoorFe
import Derived.Test.YtopcdihgkojjlaaDoorJf
import Derived.SevenTiedAt
namespace Go.Proofs.YtopcdihgkojjlaaDoor
theorem q_solve {h : Int} (d : Int) (h1 : 1 ≤ h) (h2 : h < 1013) : ∃ n : Int, 0 ≤ n ∧ n < 1013 ∧ (h * n) % 1013 = d % 1013 := by
  have hi := qmul_inv (qi_ne h1 h2)
  refine ⟨((qinv (qi h) * qi d).val : Int), by omega, by have := (qinv (qi h) * qi d).isLt; omega, ?_⟩
  apply qi_eq.mp
  have e : qi ((qinv (qi h) * qi d).val : Int) = qinv (qi h) * qi d := by
    symm; apply qi_ext; have := (qinv (qi h) * qi d).isLt; omega
  rw [qi_mul, e]
  generalize qinv (qi h) = i at *
  have : qi h * (i * qi d) = (qi h * i) * qi d := by grobner
  rw [this, hi]; grobner
theorem q_inj {h n m : Int} (h1 : 1 ≤ h) (h2 : h < 1013) (e : (h * n) % 1013 = (h * m) % 1013) : n % 1013 = m % 1013 := by
  have := qi_eq.mpr e
  rw [qi_mul, qi_mul] at this
  exact qi_eq.mp (qcancel (qi_ne h1 h2) this)
end Go.Proofs.YtopcdihgkojjlaaDoor
namespace Go.Proofs.YtopcdihgkojjlaaDoor
open Go.RowKit
set_option maxRecDepth 100000
set_option linter.unusedVariables false
set_option linter.unusedSimpArgs false
def hS (v n : Int) : Sp := sq (4 * v + 4 * hJ * n)
theorem hS_ok (v n : Int) : Ok (hS v n) := sq_ok _
theorem hS_zero (v : Int) : sq (4 * v) = hS v 0 := by unfold hS; rw [Int.mul_zero, Int.add_zero]
theorem hS_next (v n : Int) : sSum (hS v n) (sq (4 * hJ)) = hS v (n + 1) := by
  unfold hS; rw [sq_add]; congr 1; rw [Int.mul_add]; omega
theorem hS_eq {v n m : Int} (h : hS v n = hS v m) : n % 1013 = m % 1013 := by
  have := sq_eq_iff.mp h
  obtain ⟨h1, h2, -⟩ := hJ_spec
  refine q_inj h1 h2 ?_
  rw [Int.mul_assoc, Int.mul_assoc] at this
  generalize hJ * n = p at *
  generalize hJ * m = q at *
  omega
theorem hS_solve (v j : Int) : ∃ n : Int, 0 ≤ n ∧ n < 1013 ∧ hS v n = sq (4 * j) := by
  obtain ⟨h1, h2, -⟩ := hJ_spec
  obtain ⟨n, n0, n1, e⟩ := q_solve (h := hJ) (j - v) h1 h2
  refine ⟨n, n0, n1, sq_eq_iff.mpr ?_⟩
  rw [Int.mul_assoc]
  generalize hJ * n = p at *
  omega
attribute [irreducible] hS
set_option maxHeartbeats 1000000 in
theorem find_n (c : Sp) (j v : Int) (w : World) (hF : FarAt w) (hc : Hid (c = sq (4 * j))) (h : ¬ (0 ≤ v ∧ v < 1013)) : Calls Tryd.prog 48 #[spV c, .int .i64 v] w fun e w' => e = .returned (.tuple #[.int .i64 0, .iface 117 (.int .i64 1)]) ∧ Below w.heap.size w w' := by
  go_enter Tryd.func48, Tryd.ntmps48
  go_wp2_with fail
  refine (check_ok c _ (hF.below (by repeat (first | exact Below.refl _ _ | refine balloc ?_ _ | refine Below.drew ?_ | refine below_drewN ?_ _ | refine below_set ?_ (by first | omega | (dsimp only; omega)) _))) (ok_of hc.out)).mono ?_; rintro e w1 ⟨rfl, hb⟩
  obtain ⟨hc1, hf1⟩ := bcell hb
  have z1 := hb.size
  try simp only [World.size_alloc, World.size_setCell, World.size_drew] at z1
  have s1_0 : w.heap.size < w1.heap.size := by omega
  have hB1 : Below w.heap.size w w1 := below_seq (by repeat (first | exact Below.refl _ _ | refine balloc ?_ _ | refine Below.drew ?_ | refine below_drewN ?_ _ | refine below_set ?_ (by first | omega | (dsimp only; omega)) _)) hb
  clear hb
  go_wp2_with fail
  refine (inside_e c (4 * j) true _ (hF.below (by repeat (first | exact hB1 | exact Below.refl _ _ | refine balloc ?_ _ | refine Below.drew ?_ | refine below_drewN ?_ _ | refine below_set ?_ (by first | omega | (dsimp only; omega)) _))) hc (sq_far.mpr (by omega))).mono ?_; rintro e w2 ⟨rfl, hb⟩
  obtain ⟨hc2, hf2⟩ := bcell hb
  have z2 := hb.size
  try simp only [World.size_alloc, World.size_setCell, World.size_drew] at z2
  have s2_0 : w.heap.size < w2.heap.size := by omega
  have hB2 : Below w.heap.size w w2 := below_seq (by repeat (first | exact hB1 | exact Below.refl _ _ | refine balloc ?_ _ | refine Below.drew ?_ | refine below_drewN ?_ _ | refine below_set ?_ (by first | omega | (dsimp only; omega)) _)) hb
  clear hb
  go_wp2_with fail
  refine (rest_n v _ h).mono ?_; rintro e w' ⟨rfl, rfl⟩
  go_wp2
  go_ret2
  exact ⟨rfl, (by repeat (first | exact hB2 | exact Below.refl _ _ | refine balloc ?_ _ | refine Below.drew ?_ | refine below_drewN ?_ _ | refine below_set ?_ (by first | omega | (dsimp only; omega)) _))⟩
set_option maxHeartbeats 2000000 in
theorem find_y (c : Sp) (j v N : Int) (w : World) (hF : FarAt w) (hc : Hid (c = sq (4 * j))) (v0 : 0 ≤ v) (v1 : v < 1013) (n0 : 0 ≤ N) (n1 : N < 1013) (hN : Hid (hS v N = c)) : Calls Tryd.prog 48 #[spV c, .int .i64 v] w fun e w' => e = .returned (.tuple #[.int .i64 N, .nilIface]) ∧ Below w.heap.size w w' := by
  go_enter Tryd.func48, Tryd.ntmps48
  go_wp2_with fail
  refine (check_ok c _ (hF.below (by repeat (first | exact Below.refl _ _ | refine balloc ?_ _ | refine Below.drew ?_ | refine below_drewN ?_ _ | refine below_set ?_ (by first | omega | (dsimp only; omega)) _))) (ok_of hc.out)).mono ?_; rintro e w1 ⟨rfl, hb⟩
  obtain ⟨hc1, hf1⟩ := bcell hb
  have z1 := hb.size
  try simp only [World.size_alloc, World.size_setCell, World.size_drew] at z1
  have s1_0 : w.heap.size < w1.heap.size := by omega
  have hB1 : Below w.heap.size w w1 := below_seq (by repeat (first | exact Below.refl _ _ | refine balloc ?_ _ | refine Below.drew ?_ | refine below_drewN ?_ _ | refine below_set ?_ (by first | omega | (dsimp only; omega)) _)) hb
  clear hb
  go_wp2_with fail
  refine (inside_e c (4 * j) true _ (hF.below (by repeat (first | exact hB1 | exact Below.refl _ _ | refine balloc ?_ _ | refine Below.drew ?_ | refine below_drewN ?_ _ | refine below_set ?_ (by first | omega | (dsimp only; omega)) _))) hc (sq_far.mpr (by omega))).mono ?_; rintro e w2 ⟨rfl, hb⟩
  obtain ⟨hc2, hf2⟩ := bcell hb
  have z2 := hb.size
  try simp only [World.size_alloc, World.size_setCell, World.size_drew] at z2
  have s2_0 : w.heap.size < w2.heap.size := by omega
  have hB2 : Below w.heap.size w w2 := below_seq (by repeat (first | exact hB1 | exact Below.refl _ _ | refine balloc ?_ _ | refine Below.drew ?_ | refine below_drewN ?_ _ | refine below_set ?_ (by first | omega | (dsimp only; omega)) _)) hb
  clear hb
  go_wp2_with fail
  refine (rest_y v _ v0 v1).mono ?_; rintro e w' ⟨rfl, rfl⟩
  go_wp2_with fail
  refine (second_c _ (hF.below (by repeat (first | exact hB2 | exact Below.refl _ _ | refine balloc ?_ _ | refine Below.drew ?_ | refine below_drewN ?_ _ | refine below_set ?_ (by first | omega | (dsimp only; omega)) _)))).mono ?_; rintro e w3 ⟨rfl, hb⟩
  obtain ⟨hc3, hf3⟩ := bcell hb
  have z3 := hb.size
  try simp only [World.size_alloc, World.size_setCell, World.size_drew] at z3
  have s3_0 : w.heap.size < w3.heap.size := by omega
  have hB3 : Below w.heap.size w w3 := below_seq (by repeat (first | exact hB2 | exact Below.refl _ _ | refine balloc ?_ _ | refine Below.drew ?_ | refine below_drewN ?_ _ | refine below_set ?_ (by first | omega | (dsimp only; omega)) _)) hb
  clear hb
  go_wp2_with fail
  refine (by_e v (hS v 0) _ (hF.below (by repeat (first | exact hB3 | exact Below.refl _ _ | refine balloc ?_ _ | refine Below.drew ?_ | refine below_drewN ?_ _ | refine below_set ?_ (by first | omega | (dsimp only; omega)) _))) (hS_zero v)).mono ?_; rintro e w4 ⟨rfl, hb⟩
  obtain ⟨hc4, hf4⟩ := bcell hb
  have z4 := hb.size
  try simp only [World.size_alloc, World.size_setCell, World.size_drew] at z4
  have s4_0 : w.heap.size < w4.heap.size := by omega
  have s4_1 : w3.heap.size < w4.heap.size := by omega
  have hB4 : Below w.heap.size w w4 := below_seq (by repeat (first | exact hB3 | exact Below.refl _ _ | refine balloc ?_ _ | refine Below.drew ?_ | refine below_drewN ?_ _ | refine below_set ?_ (by first | omega | (dsimp only; omega)) _)) hb
  clear hb
  go_wp2
  have A0 : SpAt (w4.alloc (.cells #[.int .i64 (hS v 0).x, .int .i64 (hS v 0).y, .bool (hS v 0).far] 37)) w4.heap.size (hS v 0) := SpAt.fresh _ _ _ _ _
  have A1 : SpAt (w4.alloc (.cells #[.int .i64 (hS v 0).x, .int .i64 (hS v 0).y, .bool (hS v 0).far] 37)) w3.heap.size (sq (4 * hJ)) := by
    constructor <;> go_simp
  have A2 : SpAt (w4.alloc (.cells #[.int .i64 (hS v 0).x, .int .i64 (hS v 0).y, .bool (hS v 0).far] 37)) w.heap.size c := by
    constructor <;> go_simp
  have AB := balloc hB4 (.cells #[.int .i64 (hS v 0).x, .int .i64 (hS v 0).y, .bool (hS v 0).far] 37)
  have hFF := Lib.hid (hF.below AB)
  clear hc1 hf1 hc2 hf2 hc3 hf3 hc4 hf4 hB1 hB2 hB3 hB4 hF
  have zz : w.heap.size < w4.heap.size := by omega
  have zz2 : w3.heap.size < w4.heap.size := by omega
  have A0 := Lib.hid A0
  have A1 := Lib.hid A1
  have A2 := Lib.hid A2
  have AB := Lib.hid AB
  generalize w4.alloc (.cells #[.int .i64 (hS v 0).x, .int .i64 (hS v 0).y, .bool (hS v 0).far] 37) = w0 at *
  go_loopw [8, 9] (fun r s wr => ∃ (n : Int) (B : Nat), 0 ≤ n ∧ n ≤ N ∧ r = .int .i64 n ∧ s = .pointer (some ⟨B, 0, none⟩) ∧ SpAt wr B (hS v n) ∧ w3.heap.size < B ∧ Below w0.heap.size w0 wr) (fun r _ _ => (1013 - intOf r).toNat)
  case atStart => exact ⟨0, _, by omega, by omega, rfl, rfl, A0.out, zz2, Below.refl _ _⟩
  case round =>
    obtain ⟨n, B, hn0, hn1, rfl, rfl, hs, hBl, hb⟩ := hrel
    have hC := A2.out.below hb
    have hH := A1.out.below hb
    by_cases hnN : n = N
    · subst hnN
      have hq : Sp.beq (hS v n) c = true := Sp.beq_iff.mpr hN.out
      obtain ⟨a0, a1, a2, -, -, -, -⟩ := hs
      obtain ⟨c0, c1, c2, -, -, -, -⟩ := hC
      clear hH A0 A1 A2
      go_wp2
      go_ret2
      exact ⟨rfl, below_seq AB.out hb⟩
    · have hlt : n < N := by omega
      have hq : Sp.beq (hS v n) c = false := Sp.beq_ne (fun e => by
        have := hS_eq (e.trans hN.out.symm); omega)
      have hs' := hs
      have hH' := hH
      obtain ⟨a0, a1, a2, -, -, -, al⟩ := hs'
      obtain ⟨c0, c1, c2, -, -, -, cl⟩ := hC
      obtain ⟨h0, h1, h2, -, -, -, hl⟩ := hH'
      have hAc : SpAt (wr.alloc (.cells #[.int .i64 (hS v n).x, .int .i64 (hS v n).y, .bool (hS v n).far] 37)) wr.heap.size (hS v n) := SpAt.fresh _ _ _ _ _
      have hAc := Lib.hid hAc
      go_wp2_with fail
      refine (sum_e (hS v n) (sq (4 * hJ)) (hS v (n + 1)) _ (hFF.out.below (by exact balloc hb _)) (hS_ok _ _) (sq_ok _) (hS_next v n)).mono ?_; rintro e w5 ⟨rfl, hb5⟩
      have hN5 := hAc.out.below hb5
      have hB5 := below_seq (balloc hb _) hb5
      have z5 := hb5.size
      simp only [World.size_alloc] at z5
      have z0 := hb.size
      have zb : w3.heap.size < wr.heap.size := by omega
      have zc : w0.heap.size ≤ wr.heap.size := by omega
      clear a0 a1 a2 c0 c1 c2 h0 h1 h2 hb5 hs hH hq hb hAc
      have hN5' := hN5
      obtain ⟨a0, a1, a2, f0, f1, f2, al5⟩ := hN5'
      go_wp2
      go_roundw
      case rel => exact ⟨n + 1, _, by omega, by omega, rfl, rfl, hN5.set3 _, zb, set3_below hB5 zc⟩
      case measure => simp [intOf]; omega
end Go.Proofs.YtopcdihgkojjlaaDoor
namespace Go.Proofs.YtopcdihgkojjlaaDoor
open Go.RowKit
set_option maxRecDepth 100000
set_option linter.unusedVariables false
set_option linter.unusedSimpArgs false
set_option maxHeartbeats 1000000 in
theorem open_nc (c : Sp) (v r n : Int) (w : World) (hF : FarAt w) (hn : Hid (sCheck c = n)) (h0 : n ≠ 0) : Calls Tryd.prog 47 #[spV c, .int .i64 v, .int .i64 r] w fun e w' => e = .returned (.tuple #[.bool false, .iface 117 (.int .i64 n)]) ∧ Below w.heap.size w w' := by
  go_enter Tryd.func47, Tryd.ntmps47
  go_wp2_with fail
  refine (check_v c n _ (hF.below (by repeat (first | exact Below.refl _ _ | refine balloc ?_ _ | refine Below.drew ?_ | refine below_drewN ?_ _ | refine below_set ?_ (by first | omega | (dsimp only; omega)) _))) hn h0).mono ?_; rintro e w1 ⟨rfl, hb⟩
  obtain ⟨hc1, hf1⟩ := bcell hb
  have z1 := hb.size
  try simp only [World.size_alloc, World.size_setCell, World.size_drew] at z1
  have s1_0 : w.heap.size < w1.heap.size := by omega
  have hB1 : Below w.heap.size w w1 := below_seq (by repeat (first | exact Below.refl _ _ | refine balloc ?_ _ | refine Below.drew ?_ | refine below_drewN ?_ _ | refine below_set ?_ (by first | omega | (dsimp only; omega)) _)) hb
  clear hb
  go_wp2
  go_ret2
  exact ⟨rfl, (by repeat (first | exact hB1 | exact Below.refl _ _ | refine balloc ?_ _ | refine Below.drew ?_ | refine below_drewN ?_ _ | refine below_set ?_ (by first | omega | (dsimp only; omega)) _))⟩
set_option maxHeartbeats 1000000 in
theorem open_n1 (c : Sp) (v r : Int) (w : World) (hF : FarAt w) (hc : Ok c) (h : ¬ (0 ≤ v ∧ v < 1013 ∧ 0 ≤ r ∧ r < 1013)) : Calls Tryd.prog 47 #[spV c, .int .i64 v, .int .i64 r] w fun e w' => e = .returned (.tuple #[.bool false, .iface 117 (.int .i64 1)]) ∧ Below w.heap.size w w' := by
  go_enter Tryd.func47, Tryd.ntmps47
  go_wp2_with fail
  refine (check_ok c _ (hF.below (by repeat (first | exact Below.refl _ _ | refine balloc ?_ _ | refine Below.drew ?_ | refine below_drewN ?_ _ | refine below_set ?_ (by first | omega | (dsimp only; omega)) _))) hc).mono ?_; rintro e w1 ⟨rfl, hb⟩
  obtain ⟨hc1, hf1⟩ := bcell hb
  have z1 := hb.size
  try simp only [World.size_alloc, World.size_setCell, World.size_drew] at z1
  have s1_0 : w.heap.size < w1.heap.size := by omega
  have hB1 : Below w.heap.size w w1 := below_seq (by repeat (first | exact Below.refl _ _ | refine balloc ?_ _ | refine Below.drew ?_ | refine below_drewN ?_ _ | refine below_set ?_ (by first | omega | (dsimp only; omega)) _)) hb
  clear hb
  go_wp2_with fail
  refine (hide_n v r _ h).mono ?_; rintro e w2 ⟨rfl, hb⟩
  obtain ⟨hc2, hf2⟩ := bcell hb
  have z2 := hb.size
  try simp only [World.size_alloc, World.size_setCell, World.size_drew] at z2
  have s2_0 : w.heap.size < w2.heap.size := by omega
  have hB2 : Below w.heap.size w w2 := below_seq (by repeat (first | exact hB1 | exact Below.refl _ _ | refine balloc ?_ _ | refine Below.drew ?_ | refine below_drewN ?_ _ | refine below_set ?_ (by first | omega | (dsimp only; omega)) _)) hb
  clear hb
  go_wp2
  go_ret2
  exact ⟨rfl, (by repeat (first | exact hB2 | exact Below.refl _ _ | refine balloc ?_ _ | refine Below.drew ?_ | refine below_drewN ?_ _ | refine below_set ?_ (by first | omega | (dsimp only; omega)) _))⟩
set_option maxHeartbeats 1000000 in
theorem find_nc (c : Sp) (v n : Int) (w : World) (hF : FarAt w) (hn : Hid (sCheck c = n)) (h0 : n ≠ 0) : Calls Tryd.prog 48 #[spV c, .int .i64 v] w fun e w' => e = .returned (.tuple #[.int .i64 0, .iface 117 (.int .i64 n)]) ∧ Below w.heap.size w w' := by
  go_enter Tryd.func48, Tryd.ntmps48
  go_wp2_with fail
  refine (check_v c n _ (hF.below (by repeat (first | exact Below.refl _ _ | refine balloc ?_ _ | refine Below.drew ?_ | refine below_drewN ?_ _ | refine below_set ?_ (by first | omega | (dsimp only; omega)) _))) hn h0).mono ?_; rintro e w1 ⟨rfl, hb⟩
  obtain ⟨hc1, hf1⟩ := bcell hb
  have z1 := hb.size
  try simp only [World.size_alloc, World.size_setCell, World.size_drew] at z1
  have s1_0 : w.heap.size < w1.heap.size := by omega
  have hB1 : Below w.heap.size w w1 := below_seq (by repeat (first | exact Below.refl _ _ | refine balloc ?_ _ | refine Below.drew ?_ | refine below_drewN ?_ _ | refine below_set ?_ (by first | omega | (dsimp only; omega)) _)) hb
  clear hb
  go_wp2
  go_ret2
  exact ⟨rfl, (by repeat (first | exact hB1 | exact Below.refl _ _ | refine balloc ?_ _ | refine Below.drew ?_ | refine below_drewN ?_ _ | refine below_set ?_ (by first | omega | (dsimp only; omega)) _))⟩
set_option maxHeartbeats 1000000 in
theorem find_ni (c : Sp) (u v : Int) (w : World) (hF : FarAt w) (hc : Hid (c = sq u)) (hi : Hid ((sq (u * 1013)).far = false)) : Calls Tryd.prog 48 #[spV c, .int .i64 v] w fun e w' => e = .returned (.tuple #[.int .i64 0, .iface 117 (.int .i64 3)]) ∧ Below w.heap.size w w' := by
  go_enter Tryd.func48, Tryd.ntmps48
  go_wp2_with fail
  refine (check_ok c _ (hF.below (by repeat (first | exact Below.refl _ _ | refine balloc ?_ _ | refine Below.drew ?_ | refine below_drewN ?_ _ | refine below_set ?_ (by first | omega | (dsimp only; omega)) _))) (ok_of hc.out)).mono ?_; rintro e w1 ⟨rfl, hb⟩
  obtain ⟨hc1, hf1⟩ := bcell hb
  have z1 := hb.size
  try simp only [World.size_alloc, World.size_setCell, World.size_drew] at z1
  have s1_0 : w.heap.size < w1.heap.size := by omega
  have hB1 : Below w.heap.size w w1 := below_seq (by repeat (first | exact Below.refl _ _ | refine balloc ?_ _ | refine Below.drew ?_ | refine below_drewN ?_ _ | refine below_set ?_ (by first | omega | (dsimp only; omega)) _)) hb
  clear hb
  go_wp2_with fail
  refine (inside_e c u false _ (hF.below (by repeat (first | exact hB1 | exact Below.refl _ _ | refine balloc ?_ _ | refine Below.drew ?_ | refine below_drewN ?_ _ | refine below_set ?_ (by first | omega | (dsimp only; omega)) _))) hc hi).mono ?_; rintro e w2 ⟨rfl, hb⟩
  obtain ⟨hc2, hf2⟩ := bcell hb
  have z2 := hb.size
  try simp only [World.size_alloc, World.size_setCell, World.size_drew] at z2
  have s2_0 : w.heap.size < w2.heap.size := by omega
  have hB2 : Below w.heap.size w w2 := below_seq (by repeat (first | exact hB1 | exact Below.refl _ _ | refine balloc ?_ _ | refine Below.drew ?_ | refine below_drewN ?_ _ | refine below_set ?_ (by first | omega | (dsimp only; omega)) _)) hb
  clear hb
  go_wp2
  go_ret2
  exact ⟨rfl, (by repeat (first | exact hB2 | exact Below.refl _ _ | refine balloc ?_ _ | refine Below.drew ?_ | refine below_drewN ?_ _ | refine below_set ?_ (by first | omega | (dsimp only; omega)) _))⟩
end Go.Proofs.YtopcdihgkojjlaaDoor
namespace Go.Proofs.YtopcdihgkojjlaaDoor
open Go.RowKit
set_option maxRecDepth 100000
set_option linter.unusedVariables false
set_option linter.unusedSimpArgs false
theorem sCheck_3 (s : Sp) : sCheck s = 0 ∨ sCheck s = 1 ∨ sCheck s = 3 := by
  unfold sCheck; split
  · exact .inr (.inl rfl)
  · split
    · exact .inr (.inr rfl)
    · exact .inl rfl
theorem hideTells_law (v : Int) (hv : (Lit.int .i64 v).wf = true) (r : Int) (hr : (Lit.int .i64 r).wf = true) (c : Sp) (w : World) (hL : FarAt w ∧ ErrAt w) :
    Calls Tryd.prog 7 #[.int .i64 v, .int .i64 r, spV c] w fun e w' => e = .returned (.bool true) ∧ Below w.heap.size w w' := by
  obtain ⟨W, E1, p1, p2, p3⟩ : ∃ (W : Sp) (E1 : Int), (((!(resB v && resB r)) = false ∧ E1 = 0 ∧ HideGives v r W) ∨ ((!(resB v && resB r)) = true ∧ E1 = 1 ∧ W = ⟨0, 0, false⟩)) ∧
      (∀ w : World, FarAt w → Calls Tryd.prog 46 #[.int .i64 v, .int .i64 r] w fun e w' => e = .returned (.tuple #[spV W, errV E1]) ∧ Below w.heap.size w w') ∧
      (∀ w : World, FarAt w → Ok c → Calls Tryd.prog 47 #[spV c, .int .i64 v, .int .i64 r] w fun e w' => e = .returned (.tuple #[.bool (E1 == 0 && Sp.beq W c), errV E1]) ∧ Below w.heap.size w w') := by
    by_cases h1 : 0 ≤ v ∧ v < 1013
    · by_cases h2 : 0 ≤ r ∧ r < 1013
      · refine ⟨sq (4 * v + 4 * hJ * r), 0, .inl ⟨by rw [resB, resB, decide_eq_true h1, decide_eq_true h2]; rfl, rfl, fun w hF => rHide_e v r _ w hF h1.1 h1.2 h2.1 h2.2 rfl⟩, fun w hF => hide_y v r _ w hF h1.1 h1.2 h2.1 h2.2 rfl, fun w hF hc => ?_⟩
        exact open_y c _ v r _ w hF hc h1.1 h1.2 h2.1 h2.2 rfl rfl
      · exact ⟨_, 1, .inr ⟨by rw [resB, resB, decide_eq_true h1, decide_eq_false h2]; rfl, rfl, rfl⟩, fun w hF => hide_n v r w (by omega), fun w hF hc => open_n1 c v r w hF hc (by omega)⟩
    · exact ⟨_, 1, .inr ⟨by rw [resB, decide_eq_false h1]; rfl, rfl, rfl⟩, fun w hF => hide_n v r w (by omega), fun w hF hc => open_n1 c v r w hF hc (by omega)⟩
  obtain ⟨G, P, q1, q2, q3⟩ : ∃ (G : Int) (P : Bool), ((sCheck c = 0 ∧ G = E1) ∨ ((sCheck c == 0) = false ∧ G = sCheck c)) ∧ (∀ w : World, FarAt w → Calls Tryd.prog 47 #[spV c, .int .i64 v, .int .i64 r] w fun e w' => e = .returned (.tuple #[.bool P, errV G]) ∧ Below w.heap.size w w') ∧
      ((G = 0 ∧ Sp.beq c W = P) ∨ ((G == 0) = false ∧ P = false)) := by
    by_cases h : sCheck c = 0
    · refine ⟨E1, _, .inl ⟨h, rfl⟩, fun w hF => p3 w hF ((ok_iff _).mp h), ?_⟩
      by_cases e : E1 = 0
      · left; refine ⟨e, ?_⟩
        rw [e]
        cases h3 : Sp.beq c W
        · cases h4 : Sp.beq W c
          · rfl
          · rw [Sp.beq_iff.mp h4, Sp.beq_refl] at h3; exact Bool.noConfusion h3
        · rw [Sp.beq_iff.mp h3, Sp.beq_refl]; rfl
      · right; have : (E1 == 0) = false := by simpa using e
        exact ⟨this, by rw [this]; rfl⟩
    · exact ⟨_, false, .inr ⟨by simpa using h, rfl⟩, fun w hF => by rw [errV, if_neg h]; exact open_nc c v r _ w hF rfl h, .inr ⟨by simpa using h, rfl⟩⟩
  obtain ⟨F1, F2, B4, NN, u1, u2, u3, u4, u5⟩ : ∃ (F1 F2 : Int) (B4 : Bool) (NN : Int), ((sCheck c = 0 ∧ InGives c true ∧ F1 = 0) ∨ (sCheck c = 0 ∧ InGives c false ∧ F1 = 3) ∨ ((sCheck c == 0) = false ∧ F1 = sCheck c)) ∧
      ((F1 = 0 ∧ resB v = true ∧ B4 = false) ∨ (F1 = 0 ∧ resB v = false ∧ B4 = true) ∨ ((F1 == 0) = false ∧ B4 = false)) ∧ ((B4 = true ∧ F2 = 1) ∨ (B4 = false ∧ F2 = F1)) ∧
      (∀ w : World, FarAt w → Calls Tryd.prog 48 #[spV c, .int .i64 v] w fun e w' => e = .returned (.tuple #[.int .i64 NN, errV F2]) ∧ Below w.heap.size w w') ∧
      ((F2 = 0 ∧ 0 ≤ NN ∧ NN < 1013 ∧ HideGives v NN c) ∨ (F2 = 1 ∧ NN = 0) ∨ (F2 = 3 ∧ NN = 0)) := by
    by_cases h : sCheck c = 0
    · obtain ⟨u, -, -, eu⟩ := sq_all ((ok_iff _).mp h)
      by_cases hi : (sq (u * 1013)).far = true
      · have gi : InGives c true := fun w => refIn_e c u true w eu hi
        have h4 : u * 1013 % 4052 = 0 := sq_far.mp hi
        have e4 : c = sq (4 * (u / 4)) := by rw [eu]; exact sq_eq_iff.mpr (by omega)
        by_cases h1 : 0 ≤ v ∧ v < 1013
        · obtain ⟨N, n0, n1, eN⟩ := hS_solve v (u / 4)
          rw [← e4] at eN
          refine ⟨0, 0, false, N, .inl ⟨h, gi, rfl⟩, .inl ⟨rfl, decide_eq_true h1, rfl⟩, .inr ⟨rfl, rfl⟩, fun w hF => find_y c (u / 4) v N w hF e4 h1.1 h1.2 n0 n1 eN, .inl ⟨rfl, n0, n1, fun w hF => rHide_e v N c w hF h1.1 h1.2 n0 n1 ?_⟩⟩
          show _ = _
          rw [← eN]; unfold hS; rfl
        · exact ⟨0, 1, true, 0, .inl ⟨h, gi, rfl⟩, .inr (.inl ⟨rfl, decide_eq_false h1, rfl⟩), .inl ⟨rfl, rfl⟩, fun w hF => find_n c (u / 4) v w hF e4 h1, .inr (.inl ⟨rfl, rfl⟩)⟩
      · have hi' : (sq (u * 1013)).far = false := by simpa using hi
        exact ⟨3, 3, false, 0, .inr (.inl ⟨h, fun w => refIn_e c u false w eu hi', rfl⟩), .inr (.inr ⟨rfl, rfl⟩), .inr ⟨rfl, rfl⟩, fun w hF => find_ni c u v w hF eu hi', .inr (.inr ⟨rfl, rfl⟩)⟩
    · refine ⟨sCheck c, sCheck c, false, 0, .inr (.inr ⟨by simpa using h, rfl⟩), .inr (.inr ⟨by simpa using h, rfl⟩), .inr ⟨rfl, rfl⟩, fun w hF => by rw [errV, if_neg h]; exact find_nc c v _ w hF rfl h, ?_⟩
      rcases sCheck_3 c with e | e | e
      · exact absurd e h
      · exact .inr (.inl ⟨e, rfl⟩)
      · exact .inr (.inr ⟨e, rfl⟩)
  exact hl_all v r c w hL.1 hL.2 _ _ _ B4 rfl rfl rfl W E1 p1 p2 _ G P rfl q1 q2 q3 F1 F2 u1 u2 u3 NN u4 u5
end Go.Proofs.YtopcdihgkojjlaaDoor
namespace Go.Proofs.YtopcdihgkojjlaaDoor.hideTells
open Go.ChangeShapes Go.WideShapes Go.ChangeAt Go.RowKit
set_option linter.unusedVariables false
theorem typesOk : ([3, 3, 37].all fun t => Tryd.prog.readableRec t && decide (t < Tryd.prog.types.size)) = true := by kernel_rfl
set_option maxRecDepth 100000 in
theorem lifted (os : Os) (started : os.Started) (H : Type) (enc : TypeId × Value → H) :
    ReturnsInHanded {} Tryd.checked os 7 .any (fun w args => (Rows.hideTellsSpec.pre enc Tryd.prog Tryd.f7 [] false w args ∧ laidMetH Tryd.prog farErrLaid w) ∧ sizedMet enc Tryd.prog Tryd.f7 (OpenSpec.ofChange Rows.hideTellsSpec) false w args)
      (Rows.hideTellsSpec.post enc Tryd.prog Tryd.f7 false true false false) := by
  refine returnsInHanded_of_change_and (C := Tryd.checked) (X := fun w _ => laidMetH Tryd.prog farErrLaid w) (fun _ _ _ hh h => h.of_heap hh) Tryd.ownK started (by kernel_rfl) Tryd.func7
    (ChangeSpec.witness_shaped (enc := enc) (C := Tryd.checked) (os := os) (X := fun w _ => laidMetH Tryd.prog farErrLaid w) false (World.doorLaid Tryd.prog 400 os) #[.int .i64 0, .int .i64 0, .agg #[.int .i64 0, .int .i64 0, .bool false]] 8 rfl (World.shaped_of_RefB (by kernel_rfl) (by kernel_rfl)) (by kernel_rfl) (by kernel_rfl) (by kernel_rfl) (farErrLaid_met os _)) ?_
  intro W base args ds gs before hval0 hW hcnd hsz0 hL hholds
  have hval : ∀ (j : Nat) t v, Tryd.f7.params[j]? = some t → args[j]? = some v → Value.okWide Tryd.prog W .any base t v := hval0
  have hW' := hW
  obtain ⟨p, q, hA0, hV, rfl, hfz, hnd⟩ := hW
  have hA : DataW.TrodAll enc Tryd.prog W 0 (fun _ => true) true Tryd.f7.params.toList args.toList ds p := hA0
  obtain ⟨rfl, rfl⟩ := trodVars_none hV
  simp only [List.append_nil] at hW'
  have hlt : ∀ x ∈ p, x.block < W.heap.size := fun x hx => hW'.lt x hx
  have hsz : (DataW.weightsEach Tryd.prog (Tryd.f7.params.toList ++ Rows.hideTellsSpec.plain.varTypes Tryd.prog) (ds ++ [])).all (· ≤ reachBytes) = true := hsz0
  rw [Tryd.params7] at hA hval hsz
  have hK := hA
  obtain ⟨v0, vs0, d0, ds0, p0, q0, hargs, rfl, rfl, h0, r0⟩ := trodAll_cons hA
  obtain ⟨v1, vs1, d1, ds1, p1, q1, rfl, rfl, rfl, h1, r1⟩ := trodAll_cons r0
  obtain ⟨v2, vs2, d2, ds2, p2, q2, rfl, rfl, rfl, h2, r2⟩ := trodAll_cons r1
  obtain ⟨rfl, rfl, rfl⟩ := trodAll_nil r2
  obtain rfl : args = #[v0, v1, v2] := by cases args; simp_all
  obtain ⟨a0, rfl, rfl, rfl, w0⟩ := open_int Tryd.underlying3 (hval 0 3 v0 rfl rfl) h0
  obtain ⟨a1, rfl, rfl, rfl, w1⟩ := open_int Tryd.underlying3 (hval 1 3 v1 rfl rfl) h1
  obtain ⟨a2, b2, f2, rfl, w2, u2⟩ := open_spot Tryd.underlying37 (by kernel_rfl) (by kernel_rfl) Tryd.underlying3 Tryd.underlying3 Tryd.underlying4 (hval 2 37 v2 rfl rfl) h2
  clear hA0 hval0
  refine (hideTells_law a0 w0 a1 w1 ⟨a2, b2, f2⟩ W (farErrLaid_at hL)).mono fun e W' ⟨he, hg⟩ => ?_
  subst he
  exact ⟨_, rfl, post_of_below (pa := _) (pv := []) hW' (fun _ _ _ => (trodAll_cons_mk (shut_bool Tryd.underlying4 _) trodAll_mk0)) (fun sp hsp => trodAll_stays Tryd.laidOutK hg typesOk hK (fun x hx => ⟨hlt x hx, hsp x (by first | exact hx | (simp at hx) | simpa using hx)⟩)) (fun _ _ => rfl) (by simp) hg (ok_one (by kernel_rfl) rfl (okWide_bool_mk Tryd.underlying4 _))⟩

theorem over : Rows.hideTellsRow.holds Tryd.pinned (OpenSpec.ofChange Rows.hideTellsSpec) :=
  OpenClaim.holds_of_wide 7 Tryd.f7 rfl rfl rfl rfl rfl rfl rfl ⟨rfl, rfl, rfl, rfl, rfl⟩ rfl rfl rfl rfl rfl (by kernel_rfl) Tryd.func7 (by show joinedFacts Tryd.prog _ _ _ _ = true; unfold joinedFacts; rw [mayEnterK, liftsFinalK, makeK]; kernel_rfl)
    (of_decide_eq_true (by kernel_rfl)) (by unfold Func.isWrapper; first | (rw [if_pos (by decide +kernel)]; kernel_rfl) | (rw [if_neg (by decide +kernel)]; exact ⟨rfl, rfl⟩))
    (fun os started H enc _ => lifted os started H enc)
theorem card : Rows.HideTellsCardSaid :=
  Claim7.holds_tied_plain_at .later [] [.data, .handle] true (true, "32fe744af748dcde28962f5faf97cf85692eb597fee56aa250b8ae3699a448c7") true
    over (fun _ h => by cases h) (by kernel_rfl) (fun _ h => by cases h) hideTells_row_tie rfl ⟨rfl, rfl⟩ mainIsK rfl
    (fun f fn hf hfn => by
      obtain rfl : f = 7 := Option.some.inj ((show Tryd.prog.funcNamed "pairstone/stonelaw2.HideTells" = some 7 by kernel_rfl).symm.trans hf) |>.symm
      obtain rfl : fn = Tryd.f7 := (Option.some.inj (Tryd.func7.symm.trans hfn)).symm
      exact ⟨by kernel_rfl, fun j t ht => by
        rw [Tryd.params7] at ht
        have hm : t ∈ ([3, 3, 37] : List TypeId) := by simpa using Array.mem_of_getElem? ht
        have hall : (([3, 3, 37] : List TypeId).all fun u => !Tryd.prog.wantsStandIn u) = true := by kernel_rfl
        exact (show Tryd.prog.wantsStandIn t = false by simpa using List.all_eq_true.1 hall t hm)⟩)
    (by kernel_rfl)
#print axioms card
end Go.Proofs.YtopcdihgkojjlaaDoor.hideTells
