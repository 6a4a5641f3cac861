/- Walk of hide.Find: by what it is hidden. -/
import Derived.Test.YtlppjihejgcplaaDoorHd
import Derived.Test.YtlppjihejgcplaaDoorQm
namespace Go.Proofs.YtlppjihejgcplaaDoor
open Go.RowKit
set_option maxRecDepth 100000
set_option linter.unusedVariables false
set_option linter.unusedSimpArgs false
def hS (v n : Int) : Sp := sq (4 * v + 4 * hJ * n)
theorem hS_ok (v n : Int) : Ok (hS v n) := sq_ok _
theorem hS_zero (v : Int) : sq (4 * v) = hS v 0 := by unfold hS; rw [Int.mul_zero, Int.add_zero]
theorem hS_next (v n : Int) : sSum (hS v n) (sq (4 * hJ)) = hS v (n + 1) := by
  unfold hS; rw [sq_add]; congr 1; rw [Int.mul_add]; omega
theorem hS_eq {v n m : Int} (h : hS v n = hS v m) : n % 1013 = m % 1013 := by
  have := sq_eq_iff.mp h
  obtain ⟨h1, h2, -⟩ := hJ_spec
  refine q_inj h1 h2 ?_
  rw [Int.mul_assoc, Int.mul_assoc] at this
  generalize hJ * n = p at *
  generalize hJ * m = q at *
  omega
theorem hS_solve (v j : Int) : ∃ n : Int, 0 ≤ n ∧ n < 1013 ∧ hS v n = sq (4 * j) := by
  obtain ⟨h1, h2, -⟩ := hJ_spec
  obtain ⟨n, n0, n1, e⟩ := q_solve (h := hJ) (j - v) h1 h2
  refine ⟨n, n0, n1, sq_eq_iff.mpr ?_⟩
  rw [Int.mul_assoc]
  generalize hJ * n = p at *
  omega
theorem inside_e (a : Sp) (u : Int) (b : Bool) (w : World) (hF : FarAt w) (ha : Hid (a = sq u)) (h : Hid ((sq (u * 1013)).far = b)) : Calls Tryd.prog 89 #[spV a] w fun e w' => e = .returned (.bool b) ∧ Below w.heap.size w w' := by
  have := timesInside_c u w hF; rw [h.out, ← ha.out] at this; exact this
attribute [irreducible] hS
set_option maxHeartbeats 1000000 in
theorem find_n (c : Sp) (j v : Int) (w : World) (hF : FarAt w) (hc : Hid (c = sq (4 * j))) (h : ¬ (0 ≤ v ∧ v < 1013)) : Calls Tryd.prog 41 #[spV c, .int .i64 v] w fun e w' => e = .returned (.tuple #[.int .i64 0, .iface 101 (.int .i64 1)]) ∧ Below w.heap.size w w' := by
  go_enter Tryd.func41, Tryd.ntmps41
  go_wp2_with fail
  refine (check_ok c _ (hF.below (by repeat (first | exact Below.refl _ _ | refine balloc ?_ _ | refine Below.drew ?_ | refine below_drewN ?_ _ | refine below_set ?_ (by first | omega | (dsimp only; omega)) _))) (ok_of hc.out)).mono ?_; rintro e w1 ⟨rfl, hb⟩
  obtain ⟨hc1, hf1⟩ := bcell hb
  have z1 := hb.size
  try simp only [World.size_alloc, World.size_setCell, World.size_drew] at z1
  have s1_0 : w.heap.size < w1.heap.size := by omega
  have hB1 : Below w.heap.size w w1 := below_seq (by repeat (first | exact Below.refl _ _ | refine balloc ?_ _ | refine Below.drew ?_ | refine below_drewN ?_ _ | refine below_set ?_ (by first | omega | (dsimp only; omega)) _)) hb
  clear hb
  go_wp2_with fail
  refine (inside_e c (4 * j) true _ (hF.below (by repeat (first | exact hB1 | exact Below.refl _ _ | refine balloc ?_ _ | refine Below.drew ?_ | refine below_drewN ?_ _ | refine below_set ?_ (by first | omega | (dsimp only; omega)) _))) hc (sq_far.mpr (by omega))).mono ?_; rintro e w2 ⟨rfl, hb⟩
  obtain ⟨hc2, hf2⟩ := bcell hb
  have z2 := hb.size
  try simp only [World.size_alloc, World.size_setCell, World.size_drew] at z2
  have s2_0 : w.heap.size < w2.heap.size := by omega
  have hB2 : Below w.heap.size w w2 := below_seq (by repeat (first | exact hB1 | exact Below.refl _ _ | refine balloc ?_ _ | refine Below.drew ?_ | refine below_drewN ?_ _ | refine below_set ?_ (by first | omega | (dsimp only; omega)) _)) hb
  clear hb
  go_wp2_with fail
  refine (rest_n v _ h).mono ?_; rintro e w' ⟨rfl, rfl⟩
  go_wp2
  go_ret2
  exact ⟨rfl, (by repeat (first | exact hB2 | exact Below.refl _ _ | refine balloc ?_ _ | refine Below.drew ?_ | refine below_drewN ?_ _ | refine below_set ?_ (by first | omega | (dsimp only; omega)) _))⟩
set_option maxHeartbeats 2000000 in
theorem find_y (c : Sp) (j v N : Int) (w : World) (hF : FarAt w) (hc : Hid (c = sq (4 * j))) (v0 : 0 ≤ v) (v1 : v < 1013) (n0 : 0 ≤ N) (n1 : N < 1013) (hN : Hid (hS v N = c)) : Calls Tryd.prog 41 #[spV c, .int .i64 v] w fun e w' => e = .returned (.tuple #[.int .i64 N, .nilIface]) ∧ Below w.heap.size w w' := by
  go_enter Tryd.func41, Tryd.ntmps41
  go_wp2_with fail
  refine (check_ok c _ (hF.below (by repeat (first | exact Below.refl _ _ | refine balloc ?_ _ | refine Below.drew ?_ | refine below_drewN ?_ _ | refine below_set ?_ (by first | omega | (dsimp only; omega)) _))) (ok_of hc.out)).mono ?_; rintro e w1 ⟨rfl, hb⟩
  obtain ⟨hc1, hf1⟩ := bcell hb
  have z1 := hb.size
  try simp only [World.size_alloc, World.size_setCell, World.size_drew] at z1
  have s1_0 : w.heap.size < w1.heap.size := by omega
  have hB1 : Below w.heap.size w w1 := below_seq (by repeat (first | exact Below.refl _ _ | refine balloc ?_ _ | refine Below.drew ?_ | refine below_drewN ?_ _ | refine below_set ?_ (by first | omega | (dsimp only; omega)) _)) hb
  clear hb
  go_wp2_with fail
  refine (inside_e c (4 * j) true _ (hF.below (by repeat (first | exact hB1 | exact Below.refl _ _ | refine balloc ?_ _ | refine Below.drew ?_ | refine below_drewN ?_ _ | refine below_set ?_ (by first | omega | (dsimp only; omega)) _))) hc (sq_far.mpr (by omega))).mono ?_; rintro e w2 ⟨rfl, hb⟩
  obtain ⟨hc2, hf2⟩ := bcell hb
  have z2 := hb.size
  try simp only [World.size_alloc, World.size_setCell, World.size_drew] at z2
  have s2_0 : w.heap.size < w2.heap.size := by omega
  have hB2 : Below w.heap.size w w2 := below_seq (by repeat (first | exact hB1 | exact Below.refl _ _ | refine balloc ?_ _ | refine Below.drew ?_ | refine below_drewN ?_ _ | refine below_set ?_ (by first | omega | (dsimp only; omega)) _)) hb
  clear hb
  go_wp2_with fail
  refine (rest_y v _ v0 v1).mono ?_; rintro e w' ⟨rfl, rfl⟩
  go_wp2_with fail
  refine (second_c _ (hF.below (by repeat (first | exact hB2 | exact Below.refl _ _ | refine balloc ?_ _ | refine Below.drew ?_ | refine below_drewN ?_ _ | refine below_set ?_ (by first | omega | (dsimp only; omega)) _)))).mono ?_; rintro e w3 ⟨rfl, hb⟩
  obtain ⟨hc3, hf3⟩ := bcell hb
  have z3 := hb.size
  try simp only [World.size_alloc, World.size_setCell, World.size_drew] at z3
  have s3_0 : w.heap.size < w3.heap.size := by omega
  have hB3 : Below w.heap.size w w3 := below_seq (by repeat (first | exact hB2 | exact Below.refl _ _ | refine balloc ?_ _ | refine Below.drew ?_ | refine below_drewN ?_ _ | refine below_set ?_ (by first | omega | (dsimp only; omega)) _)) hb
  clear hb
  go_wp2_with fail
  refine (by_e v (hS v 0) _ (hF.below (by repeat (first | exact hB3 | exact Below.refl _ _ | refine balloc ?_ _ | refine Below.drew ?_ | refine below_drewN ?_ _ | refine below_set ?_ (by first | omega | (dsimp only; omega)) _))) (hS_zero v)).mono ?_; rintro e w4 ⟨rfl, hb⟩
  obtain ⟨hc4, hf4⟩ := bcell hb
  have z4 := hb.size
  try simp only [World.size_alloc, World.size_setCell, World.size_drew] at z4
  have s4_0 : w.heap.size < w4.heap.size := by omega
  have s4_1 : w3.heap.size < w4.heap.size := by omega
  have hB4 : Below w.heap.size w w4 := below_seq (by repeat (first | exact hB3 | exact Below.refl _ _ | refine balloc ?_ _ | refine Below.drew ?_ | refine below_drewN ?_ _ | refine below_set ?_ (by first | omega | (dsimp only; omega)) _)) hb
  clear hb
  go_wp2
  have A0 : SpAt (w4.alloc (.cells #[.int .i64 (hS v 0).x, .int .i64 (hS v 0).y, .bool (hS v 0).far] 28)) w4.heap.size (hS v 0) := SpAt.fresh _ _ _ _ _
  have A1 : SpAt (w4.alloc (.cells #[.int .i64 (hS v 0).x, .int .i64 (hS v 0).y, .bool (hS v 0).far] 28)) w3.heap.size (sq (4 * hJ)) := by
    constructor <;> go_simp
  have A2 : SpAt (w4.alloc (.cells #[.int .i64 (hS v 0).x, .int .i64 (hS v 0).y, .bool (hS v 0).far] 28)) w.heap.size c := by
    constructor <;> go_simp
  have AB := balloc hB4 (.cells #[.int .i64 (hS v 0).x, .int .i64 (hS v 0).y, .bool (hS v 0).far] 28)
  have hFF := Lib.hid (hF.below AB)
  clear hc1 hf1 hc2 hf2 hc3 hf3 hc4 hf4 hB1 hB2 hB3 hB4 hF
  have zz : w.heap.size < w4.heap.size := by omega
  have zz2 : w3.heap.size < w4.heap.size := by omega
  have A0 := Lib.hid A0
  have A1 := Lib.hid A1
  have A2 := Lib.hid A2
  have AB := Lib.hid AB
  generalize w4.alloc (.cells #[.int .i64 (hS v 0).x, .int .i64 (hS v 0).y, .bool (hS v 0).far] 28) = w0 at *
  go_loopw [8, 9] (fun r s wr => ∃ (n : Int) (B : Nat), 0 ≤ n ∧ n ≤ N ∧ r = .int .i64 n ∧ s = .pointer (some ⟨B, 0, none⟩) ∧ SpAt wr B (hS v n) ∧ w3.heap.size < B ∧ Below w0.heap.size w0 wr) (fun r _ _ => (1013 - intOf r).toNat)
  case atStart => exact ⟨0, _, by omega, by omega, rfl, rfl, A0.out, zz2, Below.refl _ _⟩
  case round =>
    obtain ⟨n, B, hn0, hn1, rfl, rfl, hs, hBl, hb⟩ := hrel
    have hC := A2.out.below hb
    have hH := A1.out.below hb
    by_cases hnN : n = N
    · subst hnN
      have hq : Sp.beq (hS v n) c = true := Sp.beq_iff.mpr hN.out
      obtain ⟨a0, a1, a2, -, -, -, -⟩ := hs
      obtain ⟨c0, c1, c2, -, -, -, -⟩ := hC
      clear hH A0 A1 A2
      go_wp2
      go_ret2
      exact ⟨rfl, below_seq AB.out hb⟩
    · have hlt : n < N := by omega
      have hq : Sp.beq (hS v n) c = false := Sp.beq_ne (fun e => by
        have := hS_eq (e.trans hN.out.symm); omega)
      have hs' := hs
      have hH' := hH
      obtain ⟨a0, a1, a2, -, -, -, al⟩ := hs'
      obtain ⟨c0, c1, c2, -, -, -, cl⟩ := hC
      obtain ⟨h0, h1, h2, -, -, -, hl⟩ := hH'
      have hAc : SpAt (wr.alloc (.cells #[.int .i64 (hS v n).x, .int .i64 (hS v n).y, .bool (hS v n).far] 28)) wr.heap.size (hS v n) := SpAt.fresh _ _ _ _ _
      have hAc := Lib.hid hAc
      go_wp2_with fail
      refine (sum_e (hS v n) (sq (4 * hJ)) (hS v (n + 1)) _ (hFF.out.below (by exact balloc hb _)) (hS_ok _ _) (sq_ok _) (hS_next v n)).mono ?_; rintro e w5 ⟨rfl, hb5⟩
      have hN5 := hAc.out.below hb5
      have hB5 := below_seq (balloc hb _) hb5
      have z5 := hb5.size
      simp only [World.size_alloc] at z5
      have z0 := hb.size
      have zb : w3.heap.size < wr.heap.size := by omega
      have zc : w0.heap.size ≤ wr.heap.size := by omega
      clear a0 a1 a2 c0 c1 c2 h0 h1 h2 hb5 hs hH hq hb hAc
      have hN5' := hN5
      obtain ⟨a0, a1, a2, f0, f1, f2, al5⟩ := hN5'
      go_wp2
      go_roundw
      case rel => exact ⟨n + 1, _, by omega, by omega, rfl, rfl, hN5.set3 _, zb, set3_below hB5 zc⟩
      case measure => simp [intOf]; omega
end Go.Proofs.YtlppjihejgcplaaDoor
