/- Walk of adapt.Pre, all right. -/
import Derived.Test.YtfnifdmnbccblaaDoorAd
namespace Go.Proofs.YtfnifdmnbccblaaDoor
open Go.RowKit
set_option maxRecDepth 100000
set_option linter.unusedVariables false
set_option linter.unusedSimpArgs false
theorem hav_ {P Q : Prop} (h : P) (k : P → Q) : Q := k h
set_option maxHeartbeats 4000000 in
theorem pre_core (x k : Int) (T B R K : Sp) (c S : Int) (t : ByteArray) (w : World) (hF : FarAt w) (x1 : 1 ≤ x) (x2 : x < 1013) (k1 : 1 ≤ k) (k2 : k < 1013) (hz : t.size ≤ 60) (hT : Ok T) (hB : Hid (sq (4 * k) = B)) (oB : Ok B) (hR : Hid (sSum B T = R)) (oR : Ok R) (hK : Hid (sq (4 * x) = K)) (oK : Ok K) (hc : Hid (askN R K t.data.toList = c)) (e1 : IntKind.i64.wrap (c * x) = c * x) (e2 : IntKind.i64.wrap (k + c * x) = k + c * x) (e3 : (k + c * x).tmod 1013 = S) :
    Calls Tryd.prog 38 #[.int .i64 x, .int .i64 k, spV T, .string t] w fun e w' => e = .returned (.tuple #[slV R S, .nilIface]) ∧ Below w.heap.size w w' := by
  go_enter Tryd.func38, Tryd.ntmps38
  go_wp2_with fail
  refine (secret_y x _ x1 x2).mono ?_; rintro e w' ⟨rfl, rfl⟩
  go_wp2_with fail
  refine (secret_y k _ k1 k2).mono ?_; rintro e w' ⟨rfl, rfl⟩
  go_wp2_with fail
  refine (check_ok T _ (hF.below (by repeat (first | exact Below.refl _ _ | refine balloc ?_ _ | refine Below.drew ?_ | refine below_drewN ?_ _ | refine below_set ?_ (by first | omega | (dsimp only; omega)) _))) hT).mono ?_; rintro e w1 ⟨rfl, hb⟩
  obtain ⟨hc1, hf1⟩ := bcell hb
  have z1 := hb.size
  try simp only [World.size_alloc, World.size_setCell, World.size_drew] at z1
  have s1_0 : w.heap.size < w1.heap.size := by omega
  have s1_1 : w.heap.size + 1 < w1.heap.size := by omega
  have hB1 : Below w.heap.size w w1 := below_seq (by repeat (first | exact Below.refl _ _ | refine balloc ?_ _ | refine Below.drew ?_ | refine below_drewN ?_ _ | refine below_set ?_ (by first | omega | (dsimp only; omega)) _)) hb
  clear hb
  go_wp2_with fail
  refine (text_y t _ hz).mono ?_; rintro e w' ⟨rfl, rfl⟩
  go_upto_region 8 with fail
  have hFa : FarAt w1 := hF.below hB1
  have t0 : w1.cell? ⟨w.heap.size, 0, none⟩ = some (.int .i64 T.x) := by go_simp
  have t1 : w1.cell? ⟨w.heap.size, 1, none⟩ = some (.int .i64 T.y) := by go_simp
  have t2 : w1.cell? ⟨w.heap.size, 2, none⟩ = some (.bool T.far) := by go_simp
  go_cut [11] (fun s11 wx => ∃ b : Nat, s11 = .pointer (some ⟨b, 0, none⟩) ∧ SpAt wx b R ∧ w1.heap.size ≤ b ∧ Below w1.heap.size w1 wx)
  case first =>
    go_region_with (first | (go_at_call 76; refine (by_e k B _ (hFa.below (by repeat (first | exact Below.refl _ _ | refine balloc ?_ _ | refine Below.drew ?_))) hB).mono ?_; rintro e wa ⟨rfl, ha⟩; have hwa : Below w1.heap.size w1 wa := below_seq (by repeat (first | exact Below.refl _ _ | refine balloc ?_ _ | refine Below.drew ?_)) ha; have hza := hwa.size; have sA0 : w.heap.size < wa.heap.size := Nat.lt_of_lt_of_le s1_0 hza; have ta0 := ((bcell hwa).1 _ 0 s1_0).trans t0; have ta1 := ((bcell hwa).1 _ 1 s1_0).trans t1; have ta2 := ((bcell hwa).1 _ 2 s1_0).trans t2; (first | (refine hav_ (P := SpAt wa w1.heap.size ⟨0, 0, false⟩) (SpAt.below (SpAt.fresh _ _ _ _ _) ha) (fun kA => ?_)) | (refine hav_ (P := SpAt wa w1.heap.size ⟨0, 0, false⟩) (SpAt.below (SpAt.drew (SpAt.fresh _ _ _ _ _)) ha) (fun kA => ?_)) | skip)) | (go_at_call 83; refine (sum_e B T R _ ((hFa.below hwa).below (by repeat (first | exact Below.refl _ _ | refine balloc ?_ _ | refine Below.drew ?_))) oB hT hR).mono ?_; rintro e wb ⟨rfl, hb⟩; have hwb : Below wa.heap.size wa wb := below_seq (by repeat (first | exact Below.refl _ _ | refine balloc ?_ _ | refine Below.drew ?_)) hb; have hzb := hwb.size; have sB0 : w.heap.size < wb.heap.size := Nat.lt_of_lt_of_le sA0 hzb; (first | (have kB := kA.below hwb; obtain ⟨b0, b1, b2, b3, b4, b5, b6⟩ := kA.below hwb) | skip); (first | (refine hav_ (P := SpAt wb wa.heap.size ⟨0, 0, false⟩) (SpAt.below (SpAt.fresh _ _ _ _ _) hb) (fun kC => ?_); obtain ⟨c0, c1, c2, c3, c4, c5, c6⟩ := kC) | (refine hav_ (P := SpAt wb wa.heap.size ⟨0, 0, false⟩) (SpAt.below (SpAt.drew (SpAt.fresh _ _ _ _ _)) hb) (fun kC => ?_); obtain ⟨c0, c1, c2, c3, c4, c5, c6⟩ := kC) | skip)))
    all_goals
      go_wp2_with fail
      go_meet
      have hB2 := below_seq hwa hwb
      first
      | exact ⟨_, rfl, SpAt.fresh _ _ _ _ _, by omega, balloc hB2 _⟩
      | exact ⟨_, rfl, kB.set3 R, by omega, set3_below hB2 (by omega)⟩
      | exact ⟨_, rfl, (SpAt.zero_of (by assumption) (by assumption) (by assumption) (by assumption) (by assumption) (by assumption) (by assumption)).set3 R, by omega, set3_below hB2 (by omega)⟩
  case rest =>
    obtain ⟨b, rfl, hb, hl, hw⟩ := hcut
    have hz2 := hw.size
    have hB2 : Below w.heap.size w wc := below_seq hB1 hw
    obtain ⟨hc2, hf2⟩ := bcell hw
    obtain ⟨b0, b1, b2, b3, b4, b5, b6⟩ := hb
    have s2_0 : w.heap.size < wc.heap.size := by omega
    have s2_1 : w.heap.size + 1 < wc.heap.size := by omega
    have n2_0 : w.heap.size + 1 < b := by omega
    go_wp2_with fail
    refine wp_region_grow_tail 12 Tryd.mixed (by kernel_rfl) ?_
    simp only [List.take_succ_cons, List.take_zero, List.drop_succ_cons, List.drop_zero]
    repeat (quiet_step ((first | (go_at_call 76; exact grow_of (by_e x K _ (hF.below (below_seq (by repeat (first | exact hB2 | exact Below.refl _ _ | refine balloc ?_ _ | refine Below.drew ?_ | refine below_drewN ?_ _ | refine below_set ?_ (by first | omega | (dsimp only; omega)) _)) (Grew.h _))) hK)) | (go_at_call 98; exact grow_of (ask_e R K t c _ oR oK hz hc)))))
    refine wpQuiet_nil ?_
    intro _ hw'
    obtain ⟨x3, rfl⟩ := hw'
    have z3 := x3.h.size
    try simp only [World.size_alloc, World.size_setCell, World.size_drew] at z3
    have s3_0 : w.heap.size < x3.w.heap.size := by omega
    have s3_1 : w.heap.size + 1 < x3.w.heap.size := by omega
    have hB3 : Below w.heap.size w x3.w := below_seq (by repeat (first | exact hB2 | exact Below.refl _ _ | refine balloc ?_ _ | refine Below.drew ?_ | refine below_drewN ?_ _ | refine below_set ?_ (by first | omega | (dsimp only; omega)) _)) x3.h
    have r0 : x3.w.cell? ⟨w.heap.size + 1, 0, none⟩ = some (.int .i64 0) := by go_simp
    have r1 : x3.w.cell? ⟨w.heap.size + 1, 1, none⟩ = some (.int .i64 0) := by go_simp
    have r2 : x3.w.cell? ⟨w.heap.size + 1, 2, none⟩ = some (.bool false) := by go_simp
    have r3 : x3.w.cell? ⟨w.heap.size + 1, 3, none⟩ = some (.int .i64 0) := by go_simp
    clear e1 e2 e3
    go_wp2
    have k := set4_cell (w := x3.w) (x := .int .i64 R.x) (y := .int .i64 R.y) (z := .bool R.far) (p := .int .i64 S) r0 r1 r2 r3
    refine bodyPost_ret (v := .tuple #[slV R S, .nilIface]) (by simp [results, Tryd.results38, go_sem, k.1, k.2.1, k.2.2.1, k.2.2.2]) rfl ⟨rfl, set4_below (by repeat (first | exact hB3 | exact Below.refl _ _ | refine balloc ?_ _ | refine Below.drew ?_ | refine below_drewN ?_ _ | refine below_set ?_ (by first | omega | (dsimp only; omega)) _)) (by omega)⟩
/-- A seal that lacks the secret of T = sq u. -/
theorem pre_e (x k u : Int) (T R K : Sp) (c S : Int) (t : ByteArray) (w : World) (hF : FarAt w) (x1 : 1 ≤ x) (x2 : x < 1013) (k1 : 1 ≤ k) (k2 : k < 1013) (hz : t.size ≤ 60) (hu : Hid (T = sq u)) (hR : Hid (sq (4 * k + u) = R)) (hK : Hid (sq (4 * x) = K)) (hc : Hid (askN R K t.data.toList = c)) (hS : Hid ((k + c * x) % 1013 = S)) :
    Calls Tryd.prog 38 #[.int .i64 x, .int .i64 k, spV T, .string t] w fun e w' => e = .returned (.tuple #[slV R S, .nilIface]) ∧ Below w.heap.size w w' := by
  have hb := askN_bd R K t.data.toList
  rw [hc.out] at hb
  have hm := mul_q hb.1 hb.2 x1 x2
  exact pre_core x k T (sq (4 * k)) R K c S t w hF x1 x2 k1 k2 hz (ok_of hu.out) rfl (sq_ok _) (by show _ = _; rw [hu.out, sq_add]; exact hR.out) (ok_of hR.out.symm) hK (ok_of hK.out.symm) hc (IntWalk.i64_in _ (by omega)) (IntWalk.i64_in _ (by omega)) (by rw [Int.tmod_eq_emod_of_nonneg (by omega)]; exact hS.out)
theorem pre_n (x k : Int) (T : Sp) (t : ByteArray) (hT : Ok T) (hz : t.size ≤ 140737488351232) (h : ¬ (1 ≤ x ∧ x < 1013 ∧ 1 ≤ k ∧ k < 1013 ∧ t.size ≤ 60)) : ∃ E : Int, ∀ w : World, FarAt w → Calls Tryd.prog 38 #[.int .i64 x, .int .i64 k, spV T, .string t] w fun e w' => e = .returned (.tuple #[slV ⟨0, 0, false⟩ 0, .iface 118 (.int .i64 E)]) ∧ Below w.heap.size w w' := by
  by_cases hx : 1 ≤ x ∧ x < 1013
  · by_cases hk : 1 ≤ k ∧ k < 1013
    · exact ⟨4, fun w hF => pre_n3 x k T t w hF hx.1 hx.2 hk.1 hk.2 hT (by omega) hz⟩
    · exact ⟨1, fun w _ => pre_n2 x k T t w hx.1 hx.2 hk⟩
  · exact ⟨1, fun w _ => pre_n1 x k T t w hx⟩
end Go.Proofs.YtfnifdmnbccblaaDoor
