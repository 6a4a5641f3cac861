/- Walks of layer equal. -/
import Derived.Test.YtjnmknhfmmdoiaaDoorAe
import Derived.Test.YtjnmknhfmmdoiaaDoorHa
namespace Go.Proofs.YtjnmknhfmmdoiaaDoor
open Go.RowKit
set_option maxRecDepth 100000
set_option linter.unusedVariables false
set_option linter.unusedSimpArgs false
def flatS : List Sp → List Value
  | [] => []
  | s :: l => .int .i64 s.x :: .int .i64 s.y :: .bool s.far :: flatS l
theorem flatS_at : ∀ (l : List Sp) (i : Nat) (h : i < l.length), (flatS l)[i * 3]? = some (.int .i64 l[i].x) ∧ (flatS l)[i * 3 + 1]? = some (.int .i64 l[i].y) ∧ (flatS l)[i * 3 + 2]? = some (.bool l[i].far)
  | [], i, h => absurd h (by simp)
  | s :: l, 0, _ => ⟨rfl, rfl, rfl⟩
  | s :: l, i+1, h => by
    have := flatS_at l i (by simpa using h)
    rw [Nat.succ_mul]
    exact this
theorem spots_fresh (w : World) (l : List Sp) (t : TypeId) : SpotsAt (w.alloc (.cells (flatS l).toArray t)) w.heap.size 0 l := by
  have c : ∀ k, (w.alloc (.cells (flatS l).toArray t)).cell? ⟨w.heap.size, k, none⟩ = (flatS l)[k]? := fun k => by rw [World.cell?_alloc_at _ _ _ _ (by simp)]; simp
  refine ⟨by simp, fun i h => ?_, fun i h => ?_, fun i h => ?_⟩
  · rw [Nat.zero_add, c]; exact (flatS_at l i h).1
  · rw [Nat.zero_add, c]; exact (flatS_at l i h).2.1
  · rw [Nat.zero_add, c]; exact (flatS_at l i h).2.2
theorem spots_at (w : World) (l : List Sp) (k : Nat) (cs : Array Value) (t : TypeId) (hk : k = w.heap.size) (hc : cs = (flatS l).toArray) : SpotsAt (w.alloc (.cells cs t)) k 0 l := by
  subst hk hc; exact spots_fresh w l t
theorem ok_all {l : List Sp} (h : ∀ s ∈ l, Ok s) : ∀ i (hi : i < l.length), Ok l[i] := fun i hi => h _ (List.getElem_mem hi)
/-- The challenge of five spots. -/
def ask5 (l : List Sp) : Int := hnum (lsB 5 l).data.toList
theorem ask5_bd (l : List Sp) : 0 ≤ ask5 l ∧ ask5 l < 1013 := hnum_bd _
set_option maxHeartbeats 1000000 in
theorem eqAsk_e (a b c r s : Sp) (N : Int) (w : World) (hF : FarAt w) (h : Hid (∀ z ∈ [a, b, c, r, s], Ok z)) (hN : Hid (ask5 [a, b, c, r, s] = N)) : Calls Tryd.prog 30 #[spV a, spV b, spV c, spV r, spV s] w fun e w' => e = .returned (.tuple #[.int .i64 N, .nilIface]) ∧ Below w.heap.size w w' := by
  have hz := lsB_size 5 [a, b, c, r, s]
  simp only [List.length_cons, List.length_nil] at hz
  go_enter Tryd.func30, Tryd.ntmps30
  go_wp2_with fail
  refine (list_ok [a, b, c, r, s] _ 0 5 _ (hF.below (by repeat (first | exact Below.refl _ _ | refine balloc ?_ _ | refine Below.drew ?_ | refine below_drewN ?_ _ | refine below_set ?_ (by first | omega | (dsimp only; omega)) _))) (by simp) (spots_at _ [a, b, c, r, s] _ _ _ (by simp) rfl) (ok_all h.out)).mono ?_; rintro e w1 ⟨rfl, hb⟩
  obtain ⟨hc1, hf1⟩ := bcell hb
  have z1 := hb.size
  try simp only [World.size_alloc, World.size_setCell, World.size_drew] at z1
  have s1_0 : w.heap.size < w1.heap.size := by omega
  have s1_1 : w.heap.size + 1 < w1.heap.size := by omega
  have s1_2 : w.heap.size + 1 + 1 < w1.heap.size := by omega
  have s1_3 : w.heap.size + 1 + 1 + 1 < w1.heap.size := by omega
  have s1_4 : w.heap.size + 1 + 1 + 1 + 1 < w1.heap.size := by omega
  have s1_5 : w.heap.size + 1 + 1 + 1 + 1 + 1 < w1.heap.size := by omega
  have hB1 : Below w.heap.size w w1 := below_seq (by repeat (first | exact Below.refl _ _ | refine balloc ?_ _ | refine Below.drew ?_ | refine below_drewN ?_ _ | refine below_set ?_ (by first | omega | (dsimp only; omega)) _)) hb
  clear hb
  go_wp2_with fail
  refine (hashNumber_c (lsB 5 [a, b, c, r, s]) _ (by omega)).mono ?_; rintro e w2 ⟨rfl, hb⟩
  rw [(show hnum (lsB 5 [a, b, c, r, s]).data.toList = N from hN.out)]
  obtain ⟨hc2, hf2⟩ := bcell hb
  have z2 := hb.size
  try simp only [World.size_alloc, World.size_setCell, World.size_drew] at z2
  have s2_0 : w.heap.size < w2.heap.size := by omega
  have s2_1 : w.heap.size + 1 < w2.heap.size := by omega
  have s2_2 : w.heap.size + 1 + 1 < w2.heap.size := by omega
  have s2_3 : w.heap.size + 1 + 1 + 1 < w2.heap.size := by omega
  have s2_4 : w.heap.size + 1 + 1 + 1 + 1 < w2.heap.size := by omega
  have s2_5 : w.heap.size + 1 + 1 + 1 + 1 + 1 < w2.heap.size := by omega
  have hB2 : Below w.heap.size w w2 := below_seq (by repeat (first | exact hB1 | exact Below.refl _ _ | refine balloc ?_ _ | refine Below.drew ?_ | refine below_drewN ?_ _ | refine below_set ?_ (by first | omega | (dsimp only; omega)) _)) hb
  clear hb
  go_wp2
  go_ret2
  exact ⟨rfl, (by repeat (first | exact hB2 | exact Below.refl _ _ | refine balloc ?_ _ | refine Below.drew ?_ | refine below_drewN ?_ _ | refine below_set ?_ (by first | omega | (dsimp only; omega)) _))⟩
set_option maxHeartbeats 2000000 in
theorem less_e (S c u v : Int) (a b X Y Z : Sp) (w : World) (hF : FarAt w) (c0 : 0 ≤ c) (c1 : c < 1013) (ha : Hid (a = sq u)) (hb : Hid (b = sq v)) (hX : Hid (sq (u * S) = X)) (hY : Hid (sq (v * -c) = Y)) (oX : Ok X) (oY : Ok Y) (hZ : Hid (sSum X Y = Z)) : Calls Tryd.prog 88 #[.int .i64 S, spV a, .int .i64 c, spV b] w fun e w' => e = .returned (spV Z) ∧ Below w.heap.size w w' := by
  have hng : IntKind.i64.wrap (-c) = -c := IntWalk.i64_in _ (by omega)
  go_enter Tryd.func88, Tryd.ntmps88
  go_wp2_with fail
  refine wp_region_grow_tail 8 Tryd.mixed (by kernel_rfl) ?_
  simp only [List.take_succ_cons, List.take_zero, List.drop_succ_cons, List.drop_zero]
  repeat (quiet_step ((first | (go_at_call_of 60 a.x; exact grow_of (of_e a X u S _ (hF.below (below_seq (by repeat (first | exact Below.refl _ _ | refine balloc ?_ _ | refine Below.drew ?_ | refine below_drewN ?_ _ | refine below_set ?_ (by first | omega | (dsimp only; omega)) _)) (Grew.h _))) ha hX)) | (go_at_call 60; exact grow_of (of_e b Y v (-c) _ (hF.below (below_seq (by repeat (first | exact Below.refl _ _ | refine balloc ?_ _ | refine Below.drew ?_ | refine below_drewN ?_ _ | refine below_set ?_ (by first | omega | (dsimp only; omega)) _)) (Grew.h _))) hb hY)) | (go_at_call 59; exact grow_of (sum_e X Y Z _ (hF.below (below_seq (by repeat (first | exact Below.refl _ _ | refine balloc ?_ _ | refine Below.drew ?_ | refine below_drewN ?_ _ | refine below_set ?_ (by first | omega | (dsimp only; omega)) _)) (Grew.h _))) oX oY hZ)))))
  refine wpQuiet_nil ?_
  intro _ hw'
  obtain ⟨x1, rfl⟩ := hw'
  have z1 := x1.h.size
  try simp only [World.size_alloc, World.size_setCell, World.size_drew] at z1
  have s1_0 : w.heap.size < x1.w.heap.size := by omega
  have s1_1 : w.heap.size + 1 < x1.w.heap.size := by omega
  have s1_2 : w.heap.size + 1 + 1 < x1.w.heap.size := by omega
  have hB1 : Below w.heap.size w x1.w := below_seq (by repeat (first | exact Below.refl _ _ | refine balloc ?_ _ | refine Below.drew ?_ | refine below_drewN ?_ _ | refine below_set ?_ (by first | omega | (dsimp only; omega)) _)) x1.h
  have r0 : x1.w.cell? ⟨w.heap.size + 1 + 1, 0, none⟩ = some (.int .i64 0) := by go_simp
  have r1 : x1.w.cell? ⟨w.heap.size + 1 + 1, 1, none⟩ = some (.int .i64 0) := by go_simp
  have r2 : x1.w.cell? ⟨w.heap.size + 1 + 1, 2, none⟩ = some (.bool false) := by go_simp
  go_wp2
  have k := set3_cell (w := x1.w) (x := .int .i64 (Z).x) (y := .int .i64 (Z).y) (z := .bool (Z).far) r0 r1 r2
  refine bodyPost_ret (v := spV (Z)) (by simp [results, Tryd.results88, go_sem, k.1, k.2.1, k.2.2]) rfl ⟨rfl, set3_below (by repeat (first | exact hB1 | exact Below.refl _ _ | refine balloc ?_ _ | refine Below.drew ?_ | refine below_drewN ?_ _ | refine below_set ?_ (by first | omega | (dsimp only; omega)) _)) (by omega)⟩
set_option maxHeartbeats 4000000 in
theorem verify3_y (a b c R Q : Sp) (C S N : Int) (w : World) (hF : FarAt w) (oa : Ok a) (ob : Ok b) (oc : Ok c) (c0 : 0 ≤ C) (c1 : C < 1013) (s0 : 0 ≤ S) (s1 : S < 1013)
    (h1 : Hid (∀ w : World, FarAt w → Calls Tryd.prog 88 #[.int .i64 S, spV ⟨1189, 3667, false⟩, .int .i64 C, spV a] w fun e w' => e = .returned (spV R) ∧ Below w.heap.size w w'))
    (h2 : Hid (∀ w : World, FarAt w → Calls Tryd.prog 88 #[.int .i64 S, spV b, .int .i64 C, spV c] w fun e w' => e = .returned (spV Q) ∧ Below w.heap.size w w'))
    (h3 : Hid (∀ z ∈ [a, b, c, R, Q], Ok z)) (hN : Hid (ask5 [a, b, c, R, Q] = N)) :
    Calls Tryd.prog 39 #[spV a, spV b, spV c, .agg #[.int .i64 C, .int .i64 S]] w fun e w' => e = .returned (.tuple #[.bool (N == C), .nilIface]) ∧ Below w.heap.size w w' := by
  have h3' : ∀ z ∈ [a, b, c], Ok z := fun z hz => h3.out z (by simp at hz ⊢; rcases hz with e | e | e <;> simp [e])
  replace h3' := Lib.hid h3'
  go_enter Tryd.func39, Tryd.ntmps39
  go_wp2_with fail
  refine (all_ok [a, b, c] _ 0 3 _ (hF.below (by repeat (first | exact Below.refl _ _ | refine balloc ?_ _ | refine Below.drew ?_ | refine below_drewN ?_ _ | refine below_set ?_ (by first | omega | (dsimp only; omega)) _))) (by simp) (spots_at _ [a, b, c] _ _ _ (by simp) rfl) (ok_all h3'.out)).mono ?_; rintro e w1 ⟨rfl, hb⟩
  obtain ⟨hc1, hf1⟩ := bcell hb
  have z1 := hb.size
  try simp only [World.size_alloc, World.size_setCell, World.size_drew] at z1
  have s1_0 : w.heap.size < w1.heap.size := by omega
  have s1_1 : w.heap.size + 1 < w1.heap.size := by omega
  have s1_2 : w.heap.size + 1 + 1 < w1.heap.size := by omega
  have s1_3 : w.heap.size + 1 + 1 + 1 < w1.heap.size := by omega
  have s1_4 : w.heap.size + 1 + 1 + 1 + 1 < w1.heap.size := by omega
  have hB1 : Below w.heap.size w w1 := below_seq (by repeat (first | exact Below.refl _ _ | refine balloc ?_ _ | refine Below.drew ?_ | refine below_drewN ?_ _ | refine below_set ?_ (by first | omega | (dsimp only; omega)) _)) hb
  clear hb
  go_wp2_with fail
  refine (rest_y C _ c0 c1).mono ?_; rintro e w' ⟨rfl, rfl⟩
  go_wp2_with fail
  refine (rest_y S _ s0 s1).mono ?_; rintro e w' ⟨rfl, rfl⟩
  go_wp2_with fail
  refine wp_region_grow Tryd.mixed (by kernel_rfl) ?_
  repeat (quiet_step ((first | (go_at_call 78; exact grow_of (base_k _ (hF.below (below_seq (by repeat (first | exact hB1 | exact Below.refl _ _ | refine balloc ?_ _ | refine Below.drew ?_ | refine below_drewN ?_ _ | refine below_set ?_ (by first | omega | (dsimp only; omega)) _)) (Grew.h _))))) | (go_at_call_of 88 a.x; exact grow_of (h1.out _ (hF.below (below_seq (by repeat (first | exact hB1 | exact Below.refl _ _ | refine balloc ?_ _ | refine Below.drew ?_ | refine below_drewN ?_ _ | refine below_set ?_ (by first | omega | (dsimp only; omega)) _)) (Grew.h _))))) | (go_at_call 88; exact grow_of (h2.out _ (hF.below (below_seq (by repeat (first | exact hB1 | exact Below.refl _ _ | refine balloc ?_ _ | refine Below.drew ?_ | refine below_drewN ?_ _ | refine below_set ?_ (by first | omega | (dsimp only; omega)) _)) (Grew.h _))))) | (go_at_call 30; exact grow_of (eqAsk_e a b c R Q N _ (hF.below (below_seq (by repeat (first | exact hB1 | exact Below.refl _ _ | refine balloc ?_ _ | refine Below.drew ?_ | refine below_drewN ?_ _ | refine below_set ?_ (by first | omega | (dsimp only; omega)) _)) (Grew.h _))) h3 hN)))))
  refine wpQuiet_nil ?_
  intro _ hw'
  obtain ⟨x2, rfl⟩ := hw'
  have z2 := x2.h.size
  try simp only [World.size_alloc, World.size_setCell, World.size_drew] at z2
  have s2_0 : w.heap.size < x2.w.heap.size := by omega
  have s2_1 : w.heap.size + 1 < x2.w.heap.size := by omega
  have s2_2 : w.heap.size + 1 + 1 < x2.w.heap.size := by omega
  have s2_3 : w.heap.size + 1 + 1 + 1 < x2.w.heap.size := by omega
  have s2_4 : w.heap.size + 1 + 1 + 1 + 1 < x2.w.heap.size := by omega
  have hB2 : Below w.heap.size w x2.w := below_seq (by repeat (first | exact hB1 | exact Below.refl _ _ | refine balloc ?_ _ | refine Below.drew ?_ | refine below_drewN ?_ _ | refine below_set ?_ (by first | omega | (dsimp only; omega)) _)) x2.h
  go_wp2
  go_ret2
  exact ⟨rfl, (by repeat (first | exact hB2 | exact Below.refl _ _ | refine balloc ?_ _ | refine Below.drew ?_ | refine below_drewN ?_ _ | refine below_set ?_ (by first | omega | (dsimp only; omega)) _))⟩
theorem prove_n1 (x k : Int) (b : Sp) (w : World) (h : ¬ (1 ≤ x ∧ x < 1013)) : Calls Tryd.prog 36 #[.int .i64 x, .int .i64 k, spV b] w fun e w' => e = .returned (.tuple #[spV ⟨0, 0, false⟩, spV ⟨0, 0, false⟩, .agg #[.int .i64 0, .int .i64 0], .iface 95 (.int .i64 1)]) ∧ Below w.heap.size w w' := by
  go_enter Tryd.func36, Tryd.ntmps36
  go_wp2_with fail
  refine (secret_n x _ h).mono ?_; rintro e w' ⟨rfl, rfl⟩
  go_wp2
  refine bodyPost_ret (v := .tuple #[spV ⟨0, 0, false⟩, spV ⟨0, 0, false⟩, .agg #[.int .i64 0, .int .i64 0], .iface 95 (.int .i64 1)]) (by simp [results, Tryd.results36, go_sem]) rfl ⟨rfl, (by repeat (first | exact Below.refl _ _ | refine balloc ?_ _ | refine Below.drew ?_ | refine below_drewN ?_ _ | refine below_set ?_ (by first | omega | (dsimp only; omega)) _))⟩
theorem prove_n2 (x k : Int) (b : Sp) (w : World) (x1 : 1 ≤ x) (x2 : x < 1013) (h : ¬ (1 ≤ k ∧ k < 1013)) : Calls Tryd.prog 36 #[.int .i64 x, .int .i64 k, spV b] w fun e w' => e = .returned (.tuple #[spV ⟨0, 0, false⟩, spV ⟨0, 0, false⟩, .agg #[.int .i64 0, .int .i64 0], .iface 95 (.int .i64 1)]) ∧ Below w.heap.size w w' := by
  go_enter Tryd.func36, Tryd.ntmps36
  go_wp2_with fail
  refine (secret_y x _ x1 x2).mono ?_; rintro e w' ⟨rfl, rfl⟩
  go_wp2_with fail
  refine (secret_n k _ h).mono ?_; rintro e w' ⟨rfl, rfl⟩
  go_wp2
  refine bodyPost_ret (v := .tuple #[spV ⟨0, 0, false⟩, spV ⟨0, 0, false⟩, .agg #[.int .i64 0, .int .i64 0], .iface 95 (.int .i64 1)]) (by simp [results, Tryd.results36, go_sem]) rfl ⟨rfl, (by repeat (first | exact Below.refl _ _ | refine balloc ?_ _ | refine Below.drew ?_ | refine below_drewN ?_ _ | refine below_set ?_ (by first | omega | (dsimp only; omega)) _))⟩
end Go.Proofs.YtjnmknhfmmdoiaaDoor
