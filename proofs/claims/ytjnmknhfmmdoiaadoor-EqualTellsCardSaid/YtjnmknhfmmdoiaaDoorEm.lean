/- Walk of equal.Prove, all right. -/
import Derived.Test.YtjnmknhfmmdoiaaDoorEl
import Derived.Deep.RegionHeld3
import Derived.Test.YtjnmknhfmmdoiaaDoorWt
namespace Go.Proofs.YtjnmknhfmmdoiaaDoor
open Go.RowKit
set_option maxRecDepth 100000
set_option linter.unusedVariables false
set_option linter.unusedSimpArgs false
abbrev SB (w1 : World) (c : Nat) (b : Sp) (w' : World) : Prop := w'.cell? ⟨c, 0, none⟩ = some (.int .i64 b.x) ∧ w'.cell? ⟨c, 1, none⟩ = some (.int .i64 b.y) ∧ w'.cell? ⟨c, 2, none⟩ = some (.bool b.far) ∧ c < w1.heap.size ∧ Below w1.heap.size w1 w'
section
variable {w1 w w' : World} {c : Nat} {b : Sp}
theorem SB.start (h0 : w1.cell? ⟨c, 0, none⟩ = some (.int .i64 b.x)) (h1 : w1.cell? ⟨c, 1, none⟩ = some (.int .i64 b.y)) (h2 : w1.cell? ⟨c, 2, none⟩ = some (.bool b.far)) (hc : c < w1.heap.size) : SB w1 c b w1 := ⟨h0, h1, h2, hc, Below.refl _ _⟩
theorem SB.goes (h : SB w1 c b w) (hb : Below w.heap.size w w') : SB w1 c b w' :=
  have hc : c < w.heap.size := Nat.lt_of_lt_of_le h.2.2.2.1 h.2.2.2.2.size
  ⟨((bcell hb).1 _ _ hc).trans h.1, ((bcell hb).1 _ _ hc).trans h.2.1, ((bcell hb).1 _ _ hc).trans h.2.2.1, h.2.2.2.1, below_seq h.2.2.2.2 hb⟩
theorem SB.drew (h : SB w1 c b w) : SB w1 c b w.drew := h.goes (Below.refl _ _).drew
theorem SB.alloc (h : SB w1 c b w) (o : Obj) : SB w1 c b (w.alloc o) := h.goes (below_alloc _ _)
theorem SB.set (h : SB w1 c b w) {k : Nat} (hk : w1.heap.size ≤ k) (x y z : Value) : SB w1 c b (((w.setCell ⟨k, 0, none⟩ x).setCell ⟨k, 1, none⟩ y).setCell ⟨k, 2, none⟩ z) := by
  have hne : k ≠ c := fun e => by have := h.2.2.2.1; omega
  exact ⟨(set3_other hne).trans h.1, (set3_other hne).trans h.2.1, (set3_other hne).trans h.2.2.1, h.2.2.2.1, set3_below h.2.2.2.2 hk⟩
end
abbrev zS (t : TypeId) : Obj := .cells #[.int .i64 0, .int .i64 0, .bool false] t
theorem fr1 {w w' : World} {t : TypeId} (h : Below ((w.alloc (.cells #[.int .i64 0, .int .i64 0, .bool false] t)).drew).heap.size ((w.alloc (.cells #[.int .i64 0, .int .i64 0, .bool false] t)).drew) w') : SpAt w' w.heap.size ⟨0, 0, false⟩ := (SpAt.drew (SpAt.fresh w 0 0 false t)).below h
theorem fr2 {w w' : World} {t : TypeId} (h : Below (((w.alloc (.cells #[.int .i64 0, .int .i64 0, .bool false] t)).alloc (.cells #[.int .i64 0, .int .i64 0, .bool false] t)).drew).heap.size (((w.alloc (.cells #[.int .i64 0, .int .i64 0, .bool false] t)).alloc (.cells #[.int .i64 0, .int .i64 0, .bool false] t)).drew) w') : SpAt w' w.heap.size ⟨0, 0, false⟩ ∧ SpAt w' (w.heap.size + 1) ⟨0, 0, false⟩ := ⟨(SpAt.drew ((SpAt.fresh w 0 0 false t).alloc _)).below h, (SpAt.drew (SpAt.fresh1 w 0 0 false t _)).below h⟩
theorem fs1 {w w' : World} {t : TypeId} (h : Below (w.alloc (.cells #[.int .i64 0, .int .i64 0, .bool false] t)).heap.size (w.alloc (.cells #[.int .i64 0, .int .i64 0, .bool false] t)) w') : SpAt w' w.heap.size ⟨0, 0, false⟩ := (SpAt.fresh w 0 0 false t).below h
theorem fs2 {w w' : World} {t : TypeId} (h : Below ((w.alloc (.cells #[.int .i64 0, .int .i64 0, .bool false] t)).alloc (.cells #[.int .i64 0, .int .i64 0, .bool false] t)).heap.size ((w.alloc (.cells #[.int .i64 0, .int .i64 0, .bool false] t)).alloc (.cells #[.int .i64 0, .int .i64 0, .bool false] t)) w') : SpAt w' w.heap.size ⟨0, 0, false⟩ ∧ SpAt w' (w.heap.size + 1) ⟨0, 0, false⟩ := ⟨((SpAt.fresh w 0 0 false t).alloc _).below h, (SpAt.fresh1 w 0 0 false t _).below h⟩
theorem SpAt.freshs (w : World) (c : Nat) (u v q : Value) (s : Sp) (t : TypeId) : SpAt ((((w.setCell ⟨c, 0, none⟩ u).setCell ⟨c, 1, none⟩ v).setCell ⟨c, 2, none⟩ q).alloc (.cells #[.int .i64 s.x, .int .i64 s.y, .bool s.far] t)) w.heap.size s := by
  have h := SpAt.fresh (((w.setCell ⟨c, 0, none⟩ u).setCell ⟨c, 1, none⟩ v).setCell ⟨c, 2, none⟩ q) s.x s.y s.far t
  rw [set3_size] at h
  exact h
abbrev SC (p q : Nat) (A D : Sp) (w' : World) : Prop := w'.cell? ⟨p, 0, none⟩ = some (.int .i64 A.x) ∧ w'.cell? ⟨p, 1, none⟩ = some (.int .i64 A.y) ∧ w'.cell? ⟨p, 2, none⟩ = some (.bool A.far) ∧ w'.cell? ⟨q, 0, none⟩ = some (.int .i64 D.x) ∧ w'.cell? ⟨q, 1, none⟩ = some (.int .i64 D.y) ∧ w'.cell? ⟨q, 2, none⟩ = some (.bool D.far)
theorem SC.drew {p q : Nat} {A D : Sp} {w : World} (h : SC p q A D w) : SC p q A D w.drew := h
theorem SC.set {p q k : Nat} {A D : Sp} {w : World} (h : SC p q A D w) (h1 : k ≠ p) (h2 : k ≠ q) (x y z : Value) : SC p q A D (((w.setCell ⟨k, 0, none⟩ x).setCell ⟨k, 1, none⟩ y).setCell ⟨k, 2, none⟩ z) :=
  ⟨(set3_other h1).trans h.1, (set3_other h1).trans h.2.1, (set3_other h1).trans h.2.2.1, (set3_other h2).trans h.2.2.2.1, (set3_other h2).trans h.2.2.2.2.1, (set3_other h2).trans h.2.2.2.2.2⟩
theorem SC.set2 {p q k : Nat} {A D : Sp} {w : World} (h : SC p q A D w) (h1 : k ≠ p) (h2 : k ≠ q) (x y : Value) : SC p q A D ((w.setCell ⟨k, 0, none⟩ x).setCell ⟨k, 1, none⟩ y) :=
  ⟨(set2_other h1).trans h.1, (set2_other h1).trans h.2.1, (set2_other h1).trans h.2.2.1, (set2_other h2).trans h.2.2.2.1, (set2_other h2).trans h.2.2.2.2.1, (set2_other h2).trans h.2.2.2.2.2⟩
set_option maxHeartbeats 8000000 in
theorem prove_core (x k u : Int) (b A D R Q : Sp) (N S : Int) (w : World) (hF : FarAt w) (x1 : 1 ≤ x) (x2 : x < 1013) (k1 : 1 ≤ k) (k2 : k < 1013) (ob : Ok b) (hu : Hid (b = sq u)) (hA : Hid (sq (4 * x) = A)) (hD : Hid (sq (u * x) = D)) (hR : Hid (sq (4 * k) = R)) (hQ : Hid (sq (u * k) = Q)) (h5 : Hid (∀ z ∈ [A, b, D, R, Q], Ok z)) (hN : Hid (ask5 [A, b, D, R, Q] = N)) (E1 : Hid (IntKind.i64.wrap (N * x) = N * x)) (E2 : Hid (IntKind.i64.wrap (k + N * x) = k + N * x)) (E3 : Hid ((k + N * x).tmod 1013 = S)) :
    Calls Tryd.prog 36 #[.int .i64 x, .int .i64 k, spV b] w fun e w' => e = .returned (.tuple #[spV A, spV D, .agg #[.int .i64 N, .int .i64 S], .nilIface]) ∧ Below w.heap.size w w' := by
  go_enter Tryd.func36, Tryd.ntmps36
  go_wp2_with fail
  refine (secret_y x _ x1 x2).mono ?_; rintro e w' ⟨rfl, rfl⟩
  go_wp2_with fail
  refine (secret_y k _ k1 k2).mono ?_; rintro e w' ⟨rfl, rfl⟩
  go_wp2_with fail
  refine (check_ok b _ (hF.below (by repeat (first | exact Below.refl _ _ | refine balloc ?_ _ | refine Below.drew ?_ | refine below_drewN ?_ _ | refine below_set ?_ (by first | omega | (dsimp only; omega)) _))) ob).mono ?_; rintro e w1 ⟨rfl, hb⟩
  obtain ⟨hc1, hf1⟩ := bcell hb
  have z1 := hb.size
  try simp only [World.size_alloc, World.size_setCell, World.size_drew] at z1
  have s1_0 : w.heap.size < w1.heap.size := by omega
  have s1_1 : w.heap.size + 1 < w1.heap.size := by omega
  have s1_2 : w.heap.size + 1 + 1 < w1.heap.size := by omega
  have s1_3 : w.heap.size + 1 + 1 + 1 < w1.heap.size := by omega
  have hB1 : Below w.heap.size w w1 := below_seq (by repeat (first | exact Below.refl _ _ | refine balloc ?_ _ | refine Below.drew ?_ | refine below_drewN ?_ _ | refine below_set ?_ (by first | omega | (dsimp only; omega)) _)) hb
  clear hb
  go_upto_region 6 with fail
  have hFa : FarAt w1 := hF.below hB1
  have t0 : w1.cell? ⟨w.heap.size, 0, none⟩ = some (.int .i64 b.x) := by go_simp
  have t1 : w1.cell? ⟨w.heap.size, 1, none⟩ = some (.int .i64 b.y) := by go_simp
  have t2 : w1.cell? ⟨w.heap.size, 2, none⟩ = some (.bool b.far) := by go_simp
  go_cut [11, 12] (fun s11 s12 wx => ∃ p q : Nat, s11 = .pointer (some ⟨p, 0, none⟩) ∧ s12 = .pointer (some ⟨q, 0, none⟩) ∧ SpAt wx p A ∧ SpAt wx q D ∧ w1.heap.size ≤ p ∧ w1.heap.size ≤ q ∧ Below w1.heap.size w1 wx)
  case first =>
    have S0 : SB w1 w.heap.size b w1 := SB.start t0 t1 t2 s1_0
    go_region_held3 (fun w' => w'.cell? ⟨w.heap.size, 0, none⟩ = some (.int .i64 b.x) ∧ w'.cell? ⟨w.heap.size, 1, none⟩ = some (.int .i64 b.y) ∧ w'.cell? ⟨w.heap.size, 2, none⟩ = some (.bool b.far) ∧ w.heap.size < w1.heap.size ∧ Below w1.heap.size w1 w') (first | with_reducible exact S0.drew | with_reducible exact (S0.alloc _).drew | with_reducible exact ((S0.alloc _).alloc _).drew | with_reducible exact SB.goes S0 hwa | with_reducible exact (SB.goes S0 hwa).alloc _ | with_reducible exact ((SB.goes S0 hwa).alloc _).alloc _ | with_reducible exact SB.goes S0 (below_seq hwa hwb) | with_reducible exact (SB.goes S0 (below_seq hwa hwb)).alloc _ | with_reducible exact ((SB.goes S0 (below_seq hwa hwb)).alloc _).alloc _ | (refine SB.goes S0 ?_; repeat (first | with_reducible exact below_seq hwa hwb | with_reducible refine balloc ?_ _ | with_reducible refine Below.drew ?_ | with_reducible refine below_set ?_ (by first | omega | (dsimp only; omega)) _))) (first | (go_at_call 62; refine (by_e x A _ (hFa.below (by repeat (with_reducible first | exact Below.refl _ _ | refine balloc ?_ _ | refine Below.drew ?_))) hA).mono ?_; rintro e wa ⟨rfl, ha⟩; have hwa : Below w1.heap.size w1 wa := below_seq (by repeat (with_reducible first | exact Below.refl _ _ | refine balloc ?_ _ | refine Below.drew ?_)) ha; have hza := hwa.size; have sA0 : w.heap.size < wa.heap.size := Nat.lt_of_lt_of_le s1_0 hza; (first | (with_reducible have k2 := fr2 ha; obtain ⟨kA, kD⟩ := k2; have nA := kA.lt; have nD := kD.lt) | (with_reducible have kA := fr1 ha; have nA := kA.lt) | skip)) | (go_at_call 60; refine (of_e b D u x _ ((hFa.below hwa).below (by repeat (with_reducible first | exact Below.refl _ _ | refine balloc ?_ _ | refine Below.drew ?_))) hu hD).mono ?_; rintro e wb ⟨rfl, hb⟩; have hwb : Below wa.heap.size wa wb := below_seq (by repeat (with_reducible first | exact Below.refl _ _ | refine balloc ?_ _ | refine Below.drew ?_)) hb; have hzb := hwb.size; have sB0 : w.heap.size < wb.heap.size := Nat.lt_of_lt_of_le sA0 hzb; (first | (have kB := kA.below hwb; have kB' := kB; obtain ⟨b0, b1, b2, b3, b4, b5, b6⟩ := kB') | skip); (first | (have kE := kD.below hwb; have kE' := kE; obtain ⟨d0, d1, d2, d3, d4, d5, d6⟩ := kE') | skip); (first | (with_reducible have k2 := fs2 hb; obtain ⟨kC, kG⟩ := k2; have kC' := kC; obtain ⟨c0, c1, c2, c3, c4, c5, c6⟩ := kC'; have kG' := kG; obtain ⟨e0, e1, e2, e3, e4, e5, e6⟩ := kG') | (with_reducible have kC := fs1 hb; have kC' := kC; obtain ⟨c0, c1, c2, c3, c4, c5, c6⟩ := kC') | skip)))
    all_goals
      go_wp2_with fail
      go_meet
      have hB2 := below_seq hwa hwb
      refine ⟨_, _, rfl, rfl, ?_, ?_, by omega, by omega, ?_⟩
      · repeat (with_reducible first | assumption | exact SpAt.freshs _ _ _ _ _ _ _ | exact SpAt.fresh _ _ _ _ _ | exact SpAt.fresh1 _ _ _ _ _ _ | refine SpAt.set3 (s := ⟨0, 0, false⟩) ?_ _ | refine SpAt.set3o ?_ (by omega) _ _ _ | refine SpAt.alloc ?_ _)
      · repeat (with_reducible first | assumption | exact SpAt.freshs _ _ _ _ _ _ _ | exact SpAt.fresh _ _ _ _ _ | exact SpAt.fresh1 _ _ _ _ _ _ | refine SpAt.set3 (s := ⟨0, 0, false⟩) ?_ _ | refine SpAt.set3o ?_ (by omega) _ _ _ | refine SpAt.alloc ?_ _)
      · repeat (with_reducible first | exact hB2 | refine balloc ?_ _ | refine Below.drew ?_ | refine below_set ?_ (by first | omega | (dsimp only; omega)) _)
  case rest =>
    obtain ⟨p, q, rfl, rfl, hp, hq, hpl, hql, hw⟩ := hcut
    have hz2 := hw.size
    have hB2 : Below w.heap.size w wc := below_seq hB1 hw
    obtain ⟨hc2, hf2⟩ := bcell hw
    obtain ⟨a0, a1, a2, a3, a4, a5, a6⟩ := hp
    obtain ⟨d0, d1, d2, d3, d4, d5, d6⟩ := hq
    have s2_0 : w.heap.size < wc.heap.size := by omega
    have s2_1 : w.heap.size + 1 < wc.heap.size := by omega
    have s2_2 : w.heap.size + 1 + 1 < wc.heap.size := by omega
    have s2_3 : w.heap.size + 1 + 1 + 1 < wc.heap.size := by omega
    have s1_1 : w.heap.size + 1 < w1.heap.size := by omega
    have s1_2 : w.heap.size + 1 + 1 < w1.heap.size := by omega
    have s1_3 : w.heap.size + 1 + 1 + 1 < w1.heap.size := by omega
    go_wp2_with fail
    refine wp_region_grow Tryd.mixed (by kernel_rfl) ?_
    repeat (quiet_step ((first | (go_at_call 62; exact grow_of (by_e k R _ (hF.below (below_seq (by repeat (first | exact hB2 | exact Below.refl _ _ | refine balloc ?_ _ | refine Below.drew ?_ | refine below_drewN ?_ _ | refine below_set ?_ (by first | omega | (dsimp only; omega)) _)) (Grew.h _))) hR)) | (go_at_call 60; exact grow_of (of_e b Q u k _ (hF.below (below_seq (by repeat (first | exact hB2 | exact Below.refl _ _ | refine balloc ?_ _ | refine Below.drew ?_ | refine below_drewN ?_ _ | refine below_set ?_ (by first | omega | (dsimp only; omega)) _)) (Grew.h _))) hu hQ)) | (go_at_call 30; exact grow_of (eqAsk_e A b D R Q N _ (hF.below (below_seq (by repeat (first | exact hB2 | exact Below.refl _ _ | refine balloc ?_ _ | refine Below.drew ?_ | refine below_drewN ?_ _ | refine below_set ?_ (by first | omega | (dsimp only; omega)) _)) (Grew.h _))) h5 hN)))))
    refine wpQuiet_nil ?_
    intro _ hw'
    obtain ⟨x3, rfl⟩ := hw'
    have z3 := x3.h.size
    try simp only [World.size_alloc, World.size_setCell, World.size_drew] at z3
    have s3_0 : w.heap.size < x3.w.heap.size := by omega
    have s3_1 : w.heap.size + 1 < x3.w.heap.size := by omega
    have s3_2 : w.heap.size + 1 + 1 < x3.w.heap.size := by omega
    have s3_3 : w.heap.size + 1 + 1 + 1 < x3.w.heap.size := by omega
    have hB3 : Below w.heap.size w x3.w := below_seq (by repeat (first | exact hB2 | exact Below.refl _ _ | refine balloc ?_ _ | refine Below.drew ?_ | refine below_drewN ?_ _ | refine below_set ?_ (by first | omega | (dsimp only; omega)) _)) x3.h
    have r0 : x3.w.cell? ⟨w.heap.size + 1, 0, none⟩ = some (.int .i64 0) := by go_simp
    have r1 : x3.w.cell? ⟨w.heap.size + 1, 1, none⟩ = some (.int .i64 0) := by go_simp
    have r2 : x3.w.cell? ⟨w.heap.size + 1, 2, none⟩ = some (.bool false) := by go_simp
    have q0 : x3.w.cell? ⟨w.heap.size + 1 + 1, 0, none⟩ = some (.int .i64 0) := by go_simp
    have q1 : x3.w.cell? ⟨w.heap.size + 1 + 1, 1, none⟩ = some (.int .i64 0) := by go_simp
    have q2 : x3.w.cell? ⟨w.heap.size + 1 + 1, 2, none⟩ = some (.bool false) := by go_simp
    have u0 : x3.w.cell? ⟨w.heap.size + 1 + 1 + 1, 0, none⟩ = some (.int .i64 0) := by go_simp
    have u1 : x3.w.cell? ⟨w.heap.size + 1 + 1 + 1, 1, none⟩ = some (.int .i64 0) := by go_simp
    have e1 : IntKind.i64.wrap (N * x) = N * x := E1.out
    have e2 : IntKind.i64.wrap (k + N * x) = k + N * x := E2.out
    have e3 : (k + N * x).tmod 1013 = S := E3.out
    have a10 := ((bcell x3.h).1 p 0 (by first | exact a6 | simpa using a6)).trans a0
    have a11 := ((bcell x3.h).1 p 1 (by first | exact a6 | simpa using a6)).trans a1
    have a12 := ((bcell x3.h).1 p 2 (by first | exact a6 | simpa using a6)).trans a2
    have d10 := ((bcell x3.h).1 q 0 (by first | exact d6 | simpa using d6)).trans d0
    have d11 := ((bcell x3.h).1 q 1 (by first | exact d6 | simpa using d6)).trans d1
    have d12 := ((bcell x3.h).1 q 2 (by first | exact d6 | simpa using d6)).trans d2
    have a13 : p < x3.w.heap.size := Nat.lt_of_lt_of_le a6 (by simpa using x3.h.size)
    have d13 : q < x3.w.heap.size := Nat.lt_of_lt_of_le d6 (by simpa using x3.h.size)
    clear a0 a1 a2 d0 d1 d2
    have ne1 : w.heap.size + 1 ≠ p := by omega
    have ne2 : w.heap.size + 1 ≠ q := by omega
    have ne3 : w.heap.size + 1 + 1 ≠ p := by omega
    have ne4 : w.heap.size + 1 + 1 ≠ q := by omega
    have ne5 : w.heap.size + 1 + 1 + 1 ≠ p := by omega
    have ne6 : w.heap.size + 1 + 1 + 1 ≠ q := by omega
    have T0 : SC p q A D x3.w := ⟨a10, a11, a12, d10, d11, d12⟩
    go_wp2_with fail
    go_region_held3 (fun w' => w'.cell? ⟨p, 0, none⟩ = some (.int .i64 A.x) ∧ w'.cell? ⟨p, 1, none⟩ = some (.int .i64 A.y) ∧ w'.cell? ⟨p, 2, none⟩ = some (.bool A.far) ∧ w'.cell? ⟨q, 0, none⟩ = some (.int .i64 D.x) ∧ w'.cell? ⟨q, 1, none⟩ = some (.int .i64 D.y) ∧ w'.cell? ⟨q, 2, none⟩ = some (.bool D.far)) (with_reducible first | exact T0.drew | exact (T0.set ne1 ne2 _ _ _).drew | exact ((T0.set ne1 ne2 _ _ _).set ne3 ne4 _ _ _).drew | exact (((T0.set ne1 ne2 _ _ _).set ne3 ne4 _ _ _).set2 ne5 ne6 _ _).drew) (first | fail)
    go_wp2
    have l1 := set3_cell (w := x3.w) (x := .int .i64 A.x) (y := .int .i64 A.y) (z := .bool A.far) r0 r1 r2
    have f12 : w.heap.size + 1 ≠ w.heap.size + 1 + 1 := by omega
    have f13 : w.heap.size + 1 ≠ w.heap.size + 1 + 1 + 1 := by omega
    have f23 : w.heap.size + 1 + 1 ≠ w.heap.size + 1 + 1 + 1 := by omega
    have l2 := set3_cell (w := ((x3.w.setCell ⟨w.heap.size + 1, 0, none⟩ (.int .i64 A.x)).setCell ⟨w.heap.size + 1, 1, none⟩ (.int .i64 A.y)).setCell ⟨w.heap.size + 1, 2, none⟩ (.bool A.far)) (x := .int .i64 D.x) (y := .int .i64 D.y) (z := .bool D.far) ((set3_other f12).trans q0) ((set3_other f12).trans q1) ((set3_other f12).trans q2)
    have l3 := set2_cell (w := ((((((x3.w.setCell ⟨w.heap.size + 1, 0, none⟩ (.int .i64 A.x)).setCell ⟨w.heap.size + 1, 1, none⟩ (.int .i64 A.y)).setCell ⟨w.heap.size + 1, 2, none⟩ (.bool A.far)).setCell ⟨w.heap.size + 1 + 1, 0, none⟩ (.int .i64 D.x)).setCell ⟨w.heap.size + 1 + 1, 1, none⟩ (.int .i64 D.y)).setCell ⟨w.heap.size + 1 + 1, 2, none⟩ (.bool D.far))) (x := .int .i64 N) (y := .int .i64 S) ((set3_other f23).trans ((set3_other f13).trans u0)) ((set3_other f23).trans ((set3_other f13).trans u1))
    have j0 := (set2_other (x := .int .i64 N) (y := .int .i64 S) f23.symm).trans l2.1
    have j1 := (set2_other (x := .int .i64 N) (y := .int .i64 S) f23.symm).trans l2.2.1
    have j2 := (set2_other (x := .int .i64 N) (y := .int .i64 S) f23.symm).trans l2.2.2
    have i0 := (set2_other (x := .int .i64 N) (y := .int .i64 S) f13.symm).trans ((set3_other (x := .int .i64 D.x) (y := .int .i64 D.y) (z := .bool D.far) f12.symm).trans l1.1)
    have i1 := (set2_other (x := .int .i64 N) (y := .int .i64 S) f13.symm).trans ((set3_other (x := .int .i64 D.x) (y := .int .i64 D.y) (z := .bool D.far) f12.symm).trans l1.2.1)
    have i2 := (set2_other (x := .int .i64 N) (y := .int .i64 S) f13.symm).trans ((set3_other (x := .int .i64 D.x) (y := .int .i64 D.y) (z := .bool D.far) f12.symm).trans l1.2.2)
    clear r0 r1 r2 q0 q1 q2 u0 u1 l1 l2
    refine bodyPost_ret (v := .tuple #[spV A, spV D, .agg #[.int .i64 N, .int .i64 S], .nilIface]) (by simp [results, Tryd.results36, go_sem, i0, i1, i2, j0, j1, j2, l3.1, l3.2]) rfl ⟨rfl, (set2_below (set3_below (set3_below hB3 (by omega)) (by omega)) (by omega)).drew⟩
end Go.Proofs.YtjnmknhfmmdoiaaDoor
