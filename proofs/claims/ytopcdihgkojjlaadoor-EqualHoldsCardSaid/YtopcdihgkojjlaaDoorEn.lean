/- Walk of equal.Prove, what comes of it; of equal.Verify. -/
import Derived.Test.YtopcdihgkojjlaaDoorEm
import Derived.Test.YtopcdihgkojjlaaDoorSt
import Derived.Test.YtopcdihgkojjlaaDoorTb
namespace Go.Proofs.YtopcdihgkojjlaaDoor
open Go.RowKit
set_option maxRecDepth 100000
set_option linter.unusedVariables false
set_option linter.unusedSimpArgs false
theorem set332 {w : World} {b c d : Nat} {x y z p q r u v o0 o1 o2 o3 o4 o5 o6 o7 : Value} (hbc : b ≠ c) (hbd : b ≠ d) (hcd : c ≠ d) (r0 : w.cell? ⟨b, 0, none⟩ = some o0) (r1 : w.cell? ⟨b, 1, none⟩ = some o1) (r2 : w.cell? ⟨b, 2, none⟩ = some o2) (q0 : w.cell? ⟨c, 0, none⟩ = some o3) (q1 : w.cell? ⟨c, 1, none⟩ = some o4) (q2 : w.cell? ⟨c, 2, none⟩ = some o5) (u0 : w.cell? ⟨d, 0, none⟩ = some o6) (u1 : w.cell? ⟨d, 1, none⟩ = some o7) :
    ((((((((w.setCell ⟨b, 0, none⟩ x).setCell ⟨b, 1, none⟩ y).setCell ⟨b, 2, none⟩ z).setCell ⟨c, 0, none⟩ p).setCell ⟨c, 1, none⟩ q).setCell ⟨c, 2, none⟩ r).setCell ⟨d, 0, none⟩ u).setCell ⟨d, 1, none⟩ v).cell? ⟨b, 0, none⟩ = some x ∧ ((((((((w.setCell ⟨b, 0, none⟩ x).setCell ⟨b, 1, none⟩ y).setCell ⟨b, 2, none⟩ z).setCell ⟨c, 0, none⟩ p).setCell ⟨c, 1, none⟩ q).setCell ⟨c, 2, none⟩ r).setCell ⟨d, 0, none⟩ u).setCell ⟨d, 1, none⟩ v).cell? ⟨b, 1, none⟩ = some y ∧ ((((((((w.setCell ⟨b, 0, none⟩ x).setCell ⟨b, 1, none⟩ y).setCell ⟨b, 2, none⟩ z).setCell ⟨c, 0, none⟩ p).setCell ⟨c, 1, none⟩ q).setCell ⟨c, 2, none⟩ r).setCell ⟨d, 0, none⟩ u).setCell ⟨d, 1, none⟩ v).cell? ⟨b, 2, none⟩ = some z ∧ ((((((((w.setCell ⟨b, 0, none⟩ x).setCell ⟨b, 1, none⟩ y).setCell ⟨b, 2, none⟩ z).setCell ⟨c, 0, none⟩ p).setCell ⟨c, 1, none⟩ q).setCell ⟨c, 2, none⟩ r).setCell ⟨d, 0, none⟩ u).setCell ⟨d, 1, none⟩ v).cell? ⟨c, 0, none⟩ = some p ∧ ((((((((w.setCell ⟨b, 0, none⟩ x).setCell ⟨b, 1, none⟩ y).setCell ⟨b, 2, none⟩ z).setCell ⟨c, 0, none⟩ p).setCell ⟨c, 1, none⟩ q).setCell ⟨c, 2, none⟩ r).setCell ⟨d, 0, none⟩ u).setCell ⟨d, 1, none⟩ v).cell? ⟨c, 1, none⟩ = some q ∧ ((((((((w.setCell ⟨b, 0, none⟩ x).setCell ⟨b, 1, none⟩ y).setCell ⟨b, 2, none⟩ z).setCell ⟨c, 0, none⟩ p).setCell ⟨c, 1, none⟩ q).setCell ⟨c, 2, none⟩ r).setCell ⟨d, 0, none⟩ u).setCell ⟨d, 1, none⟩ v).cell? ⟨c, 2, none⟩ = some r ∧ ((((((((w.setCell ⟨b, 0, none⟩ x).setCell ⟨b, 1, none⟩ y).setCell ⟨b, 2, none⟩ z).setCell ⟨c, 0, none⟩ p).setCell ⟨c, 1, none⟩ q).setCell ⟨c, 2, none⟩ r).setCell ⟨d, 0, none⟩ u).setCell ⟨d, 1, none⟩ v).cell? ⟨d, 0, none⟩ = some u ∧ ((((((((w.setCell ⟨b, 0, none⟩ x).setCell ⟨b, 1, none⟩ y).setCell ⟨b, 2, none⟩ z).setCell ⟨c, 0, none⟩ p).setCell ⟨c, 1, none⟩ q).setCell ⟨c, 2, none⟩ r).setCell ⟨d, 0, none⟩ u).setCell ⟨d, 1, none⟩ v).cell? ⟨d, 1, none⟩ = some v := by
  have l1 := set3_cell (w := w) (x := x) (y := y) (z := z) r0 r1 r2
  have l2 := set3_cell (w := (((w.setCell ⟨b, 0, none⟩ x).setCell ⟨b, 1, none⟩ y).setCell ⟨b, 2, none⟩ z)) (x := p) (y := q) (z := r) ((set3_other hbc).trans q0) ((set3_other hbc).trans q1) ((set3_other hbc).trans q2)
  have l3 := set2_cell (w := ((((((w.setCell ⟨b, 0, none⟩ x).setCell ⟨b, 1, none⟩ y).setCell ⟨b, 2, none⟩ z).setCell ⟨c, 0, none⟩ p).setCell ⟨c, 1, none⟩ q).setCell ⟨c, 2, none⟩ r)) (x := u) (y := v) ((set3_other hcd).trans ((set3_other hbd).trans u0)) ((set3_other hcd).trans ((set3_other hbd).trans u1))
  exact ⟨(set2_other hbd.symm).trans ((set3_other hbc.symm).trans l1.1), (set2_other hbd.symm).trans ((set3_other hbc.symm).trans l1.2.1), (set2_other hbd.symm).trans ((set3_other hbc.symm).trans l1.2.2), (set2_other hcd.symm).trans l2.1, (set2_other hcd.symm).trans l2.2.1, (set2_other hcd.symm).trans l2.2.2, l3.1, l3.2⟩
set_option maxHeartbeats 1000000 in
theorem prove_nb (x k n : Int) (b : Sp) (w : World) (hF : FarAt w) (x1 : 1 ≤ x) (x2 : x < 1013) (k1 : 1 ≤ k) (k2 : k < 1013) (hn : Hid (sCheck b = n)) (h0 : n ≠ 0) : Calls Tryd.prog 39 #[.int .i64 x, .int .i64 k, spV b] w fun e w' => e = .returned (.tuple #[spV ⟨0, 0, false⟩, spV ⟨0, 0, false⟩, .agg #[.int .i64 0, .int .i64 0], .iface 117 (.int .i64 n)]) ∧ Below w.heap.size w w' := by
  go_enter Tryd.func39, Tryd.ntmps39
  go_wp2_with fail
  refine (secret_y x _ x1 x2).mono ?_; rintro e w' ⟨rfl, rfl⟩
  go_wp2_with fail
  refine (secret_y k _ k1 k2).mono ?_; rintro e w' ⟨rfl, rfl⟩
  go_wp2_with fail
  refine (check_v b n _ (hF.below (by repeat (first | exact Below.refl _ _ | refine balloc ?_ _ | refine Below.drew ?_ | refine below_drewN ?_ _ | refine below_set ?_ (by first | omega | (dsimp only; omega)) _))) hn h0).mono ?_; rintro e w1 ⟨rfl, hb⟩
  obtain ⟨hc1, hf1⟩ := bcell hb
  have z1 := hb.size
  try simp only [World.size_alloc, World.size_setCell, World.size_drew] at z1
  have s1_0 : w.heap.size < w1.heap.size := by omega
  have s1_1 : w.heap.size + 1 < w1.heap.size := by omega
  have s1_2 : w.heap.size + 1 + 1 < w1.heap.size := by omega
  have s1_3 : w.heap.size + 1 + 1 + 1 < w1.heap.size := by omega
  have hB1 : Below w.heap.size w w1 := below_seq (by repeat (first | exact Below.refl _ _ | refine balloc ?_ _ | refine Below.drew ?_ | refine below_drewN ?_ _ | refine below_set ?_ (by first | omega | (dsimp only; omega)) _)) hb
  clear hb
  have r0 : w1.cell? ⟨w.heap.size + 1, 0, none⟩ = some (.int .i64 0) := by go_simp
  have r1 : w1.cell? ⟨w.heap.size + 1, 1, none⟩ = some (.int .i64 0) := by go_simp
  have r2 : w1.cell? ⟨w.heap.size + 1, 2, none⟩ = some (.bool false) := by go_simp
  have q0 : w1.cell? ⟨w.heap.size + 1 + 1, 0, none⟩ = some (.int .i64 0) := by go_simp
  have q1 : w1.cell? ⟨w.heap.size + 1 + 1, 1, none⟩ = some (.int .i64 0) := by go_simp
  have q2 : w1.cell? ⟨w.heap.size + 1 + 1, 2, none⟩ = some (.bool false) := by go_simp
  have u0 : w1.cell? ⟨w.heap.size + 1 + 1 + 1, 0, none⟩ = some (.int .i64 0) := by go_simp
  have u1 : w1.cell? ⟨w.heap.size + 1 + 1 + 1, 1, none⟩ = some (.int .i64 0) := by go_simp
  have l := set332 (x := .int .i64 0) (y := .int .i64 0) (z := .bool false) (p := .int .i64 0) (q := .int .i64 0) (r := .bool false) (u := .int .i64 0) (v := .int .i64 0) (by omega) (by omega) (by omega) r0 r1 r2 q0 q1 q2 u0 u1
  go_wp2
  refine bodyPost_ret (v := .tuple #[spV ⟨0, 0, false⟩, spV ⟨0, 0, false⟩, .agg #[.int .i64 0, .int .i64 0], .iface 117 (.int .i64 n)]) (by simp [results, Tryd.results39, go_sem, l.1, l.2.1, l.2.2.1, l.2.2.2.1, l.2.2.2.2.1, l.2.2.2.2.2.1, l.2.2.2.2.2.2.1, l.2.2.2.2.2.2.2]) rfl ⟨rfl, set2_below (set3_below (set3_below hB1 (by omega)) (by omega)) (by omega)⟩
/-- A proof, whatever comes of it. -/
def ProveIs (x k : Int) (b A D : Sp) (C S : Int) (E : Value) : Prop := ∀ w : World, FarAt w → Calls Tryd.prog 39 #[.int .i64 x, .int .i64 k, spV b] w fun e w' => e = .returned (.tuple #[spV A, spV D, .agg #[.int .i64 C, .int .i64 S], E]) ∧ Below w.heap.size w w'
def ask5P (x k u : Int) (b : Sp) : Int := ask5 [sq (4 * x), b, sq (u * x), sq (4 * k), sq (u * k)]
theorem prove_at (x k u : Int) (b : Sp) (x1 : 1 ≤ x) (x2 : x < 1013) (k1 : 1 ≤ k) (k2 : k < 1013) (hu : b = sq u) : ProveIs x k b (sq (4 * x)) (sq (u * x)) (ask5P x k u b) ((k + ask5P x k u b * x) % 1013) .nilIface := fun w hF => by
  have ob : Ok b := ok_of hu
  have bd : 0 ≤ ask5P x k u b ∧ ask5P x k u b < 1013 := ask5_bd _
  have hm := mul_q bd.1 bd.2 x1 x2
  exact prove_core x k u b _ _ _ _ _ _ w hF x1 x2 k1 k2 ob hu rfl rfl rfl rfl (by
    show ∀ z ∈ [sq (4 * x), b, sq (u * x), sq (4 * k), sq (u * k)], Ok z
    intro z hz
    simp only [List.mem_cons, List.not_mem_nil, or_false] at hz
    rcases hz with rfl | rfl | rfl | rfl | rfl <;> first | exact sq_ok _ | exact ob) rfl (IntWalk.i64_in _ (by omega)) (IntWalk.i64_in _ (by omega)) (Int.tmod_eq_emod_of_nonneg (by omega))
theorem prove_not (x k : Int) (b : Sp) (ob : Ok b) (h : ¬ (1 ≤ x ∧ x < 1013 ∧ 1 ≤ k ∧ k < 1013)) : ProveIs x k b ⟨0, 0, false⟩ ⟨0, 0, false⟩ 0 0 (.iface 117 (.int .i64 1)) := fun w hF => by
  by_cases hx : 1 ≤ x ∧ x < 1013
  · exact prove_n2 x k b w hx.1 hx.2 (by omega)
  · exact prove_n1 x k b w hx
theorem prove_is (x k : Int) (b : Sp) : ∃ A D C S E, ProveIs x k b A D C S E := by
  by_cases hx : 1 ≤ x ∧ x < 1013
  · by_cases hk : 1 ≤ k ∧ k < 1013
    · by_cases c : sCheck b = 0
      · obtain ⟨u, -, -, e⟩ := sq_all ((ok_iff _).mp c)
        exact ⟨_, _, _, _, _, prove_at x k u b hx.1 hx.2 hk.1 hk.2 e⟩
      · exact ⟨_, _, _, _, _, fun w hF => prove_nb x k _ b w hF hx.1 hx.2 hk.1 hk.2 rfl c⟩
    · exact ⟨_, _, _, _, _, fun w _ => prove_n2 x k b w hx.1 hx.2 hk⟩
  · exact ⟨_, _, _, _, _, fun w _ => prove_n1 x k b w hx⟩
theorem sq12_at : ∃ X Y : Int, Hid (sq 12 = ⟨X, Y, false⟩) := ⟨(sq 12).x, (sq 12).y, by
  have : (sq 12).far = false := sq_far_not (by decide)
  show sq 12 = ⟨(sq 12).x, (sq 12).y, false⟩
  rw [← this]⟩
theorem prove_31 (X Y : Int) (h : Hid (sq 12 = ⟨X, Y, false⟩)) : ∃ C S, Hid (ProveIs 3 1 ⟨1189, 3667, false⟩ ⟨X, Y, false⟩ ⟨X, Y, false⟩ C S .nilIface) := by
  have := prove_at 3 1 4 ⟨1189, 3667, false⟩ (by decide) (by decide) (by decide) (by decide) sq_4.symm
  rw [show (4 : Int) * 3 = 12 by decide, h.out] at this
  exact ⟨_, _, this⟩
theorem prove_11 : ∃ C S, Hid (ProveIs 1 1 ⟨1189, 3667, false⟩ ⟨1189, 3667, false⟩ ⟨1189, 3667, false⟩ C S .nilIface) := by
  have := prove_at 1 1 4 ⟨1189, 3667, false⟩ (by decide) (by decide) (by decide) (by decide) sq_4.symm
  rw [show (4 : Int) * 1 = 4 by decide, sq_4] at this
  exact ⟨_, _, this⟩
theorem in_v (s : Sp) (k : Int) (w : World) (hF : FarAt w) (h : Hid (sCheck s = k)) (h0 : k ≠ 0) : Calls Tryd.prog 36 #[spV s] w fun e w' => e = .returned (.tuple #[.bool false, .iface 117 (.int .i64 k)]) ∧ Below w.heap.size w w' := by
  have := timesIn_bad s w hF (by rw [h.out]; exact h0); rw [h.out] at this; exact this
theorem in4 : Hid ((sq (4 * 1013)).far = true) := sq_far.mpr (by decide)
/-- A verification, whatever comes of it. -/
def VerIs (a b c : Sp) (C S : Int) (v : Bool) : Prop := ∀ w : World, FarAt w → Calls Tryd.prog 40 #[spV a, spV b, spV c, .agg #[.int .i64 C, .int .i64 S]] w fun e w' => e = .returned (.tuple #[.bool v, .nilIface]) ∧ Below w.heap.size w w'
theorem ver_at (a b c : Sp) (i j l C S : Int) (ha : a = sq i) (hb : b = sq j) (hc : c = sq l) (c0 : 0 ≤ C) (c1 : C < 1013) (s0 : 0 ≤ S) (s1 : S < 1013) : VerIs a b c C S (ask5 [a, b, c, sq (4 * S + i * -C), sq (j * S + l * -C)] == C) := fun w hF => by
  refine verify3_y a b c _ _ C S _ w hF (ok_of ha) (ok_of hb) (ok_of hc) c0 c1 s0 s1 (fun w hF => less_e S C 4 i ⟨1189, 3667, false⟩ a _ _ _ w hF c0 c1 sq_4.symm ha rfl rfl (sq_ok _) (sq_ok _) (sq_add _ _)) (fun w hF => less_e S C j l b c _ _ _ w hF c0 c1 hb hc rfl rfl (sq_ok _) (sq_ok _) (sq_add _ _)) ?_ rfl
  show ∀ z ∈ [a, b, c, sq (4 * S + i * -C), sq (j * S + l * -C)], Ok z
  intro z hz
  simp only [List.mem_cons, List.not_mem_nil, or_false] at hz
  rcases hz with rfl | rfl | rfl | rfl | rfl <;> first | exact sq_ok _ | exact ok_of ha | exact ok_of hb | exact ok_of hc
theorem ver_right (x k u : Int) (b : Sp) (hu : b = sq u) (hI : (sq (u * 1013)).far = true) (x1 : 1 ≤ x) (x2 : x < 1013) : VerIs (sq (4 * x)) b (sq (u * x)) (ask5P x k u b) ((k + ask5P x k u b * x) % 1013) true := fun w hF => by
  have bd : 0 ≤ ask5P x k u b ∧ ask5P x k u b < 1013 := ask5_bd _
  have h4 : u * 1013 % 4052 = 0 := sq_far.mp hI
  have := ver_at (sq (4 * x)) b (sq (u * x)) (4 * x) u (u * x) (ask5P x k u b) ((k + ask5P x k u b * x) % 1013) rfl hu rfl bd.1 bd.2 (Int.emod_nonneg _ (by decide)) (Int.emod_lt_of_pos _ (by decide)) w hF
  have e1 : sq (4 * ((k + ask5P x k u b * x) % 1013) + 4 * x * -ask5P x k u b) = sq (4 * k) := by
    apply sq_eq_iff.mpr
    rw [Int.mul_assoc, Int.mul_neg, Int.mul_comm x]
    generalize ask5P x k u b * x = m
    omega
  have e2 : sq (u * ((k + ask5P x k u b * x) % 1013) + u * x * -ask5P x k u b) = sq (u * k) := by
    apply sq_eq_iff.mpr
    have e4 : u = 4 * (u / 4) := by omega
    rw [Int.mul_assoc, Int.mul_neg, Int.mul_comm x]
    generalize ask5P x k u b * x = m
    rw [e4, Int.mul_assoc, Int.mul_assoc, Int.mul_assoc, ← Int.mul_add, ← Int.mul_add]
    have e5 : (k + m) % 1013 + -m = k - 1013 * ((k + m) / 1013) := by omega
    rw [e5, Int.mul_sub, Int.mul_sub]
    have e6 : 4 * (u / 4 * (1013 * ((k + m) / 1013))) = 4052 * (u / 4 * ((k + m) / 1013)) := by
      rw [Int.mul_left_comm (u / 4) 1013, ← Int.mul_assoc]; rfl
    rw [e6]
    generalize u / 4 * ((k + m) / 1013) = g
    omega
  rw [e1, e2] at this
  have e3 : (ask5 [sq (4 * x), b, sq (u * x), sq (4 * k), sq (u * k)] == ask5P x k u b) = true := by unfold ask5P; simp
  rw [e3] at this
  exact this
end Go.Proofs.YtopcdihgkojjlaaDoor
