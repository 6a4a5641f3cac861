/- Walks of layer short: a seal, whether it is right, and many joined. -/
import Derived.Test.YtijemkecjohagaaDoorPs
import Derived.Test.YtijemkecjohagaaDoorHa
namespace Go.Proofs.YtijemkecjohagaaDoor
open Go.RowKit
set_option maxRecDepth 100000
set_option linter.unusedVariables false
set_option linter.unusedSimpArgs false
theorem hashSpot_e (t : ByteArray) (H : Sp) (w : World) (hF : FarAt w) (hs : t.size ≤ 140737488351232) (h : Hid (hSpot t.data.toList = H)) : Calls Tryd.prog 51 #[.string t] w fun e w' => e = .returned (spV H) ∧ Below w.heap.size w w' := by
  have := hashSpot_c t w hF hs; rw [h.out] at this; exact this
set_option maxHeartbeats 1000000 in
theorem short_y (x j : Int) (t : ByteArray) (H S : Sp) (w : World) (hF : FarAt w) (x1 : 1 ≤ x) (x2 : x < 1013) (hz : t.size ≤ 60) (hH : Hid (hSpot t.data.toList = H)) (hu : Hid (H = sq (4 * j))) (hS : Hid (sq (4 * j * x) = S)) : Calls Tryd.prog 49 #[.int .i64 x, .string t] w fun e w' => e = .returned (.tuple #[spV S, .nilIface]) ∧ Below w.heap.size w w' := by
  go_enter Tryd.func49, Tryd.ntmps49
  go_wp2_with fail
  refine (secret_y x _ x1 x2).mono ?_; rintro e w' ⟨rfl, rfl⟩
  go_wp2_with fail
  refine (text_y t _ hz).mono ?_; rintro e w' ⟨rfl, rfl⟩
  go_wp2_with fail
  refine (hashSpot_e t H _ (hF.below (by repeat (first | exact Below.refl _ _ | refine balloc ?_ _ | refine Below.drew ?_ | refine below_drewN ?_ _ | refine below_set ?_ (by first | omega | (dsimp only; omega)) _))) (by omega) hH).mono ?_; rintro e w1 ⟨rfl, hb⟩
  obtain ⟨hc1, hf1⟩ := bcell hb
  have z1 := hb.size
  try simp only [World.size_alloc, World.size_setCell, World.size_drew] at z1
  have s1_0 : w.heap.size < w1.heap.size := by omega
  have hB1 : Below w.heap.size w w1 := below_seq (by repeat (first | exact Below.refl _ _ | refine balloc ?_ _ | refine Below.drew ?_ | refine below_drewN ?_ _ | refine below_set ?_ (by first | omega | (dsimp only; omega)) _)) hb
  clear hb
  go_wp2_with fail
  refine (of_e H S (4 * j) x _ (hF.below (by repeat (first | exact hB1 | exact Below.refl _ _ | refine balloc ?_ _ | refine Below.drew ?_ | refine below_drewN ?_ _ | refine below_set ?_ (by first | omega | (dsimp only; omega)) _))) hu hS).mono ?_; rintro e w2 ⟨rfl, hb⟩
  obtain ⟨hc2, hf2⟩ := bcell hb
  have z2 := hb.size
  try simp only [World.size_alloc, World.size_setCell, World.size_drew] at z2
  have s2_0 : w.heap.size < w2.heap.size := by omega
  have hB2 : Below w.heap.size w w2 := below_seq (by repeat (first | exact hB1 | exact Below.refl _ _ | refine balloc ?_ _ | refine Below.drew ?_ | refine below_drewN ?_ _ | refine below_set ?_ (by first | omega | (dsimp only; omega)) _)) hb
  clear hb
  have r0 : w2.cell? ⟨w.heap.size, 0, none⟩ = some (.int .i64 0) := by go_simp
  have r1 : w2.cell? ⟨w.heap.size, 1, none⟩ = some (.int .i64 0) := by go_simp
  have r2 : w2.cell? ⟨w.heap.size, 2, none⟩ = some (.bool false) := by go_simp
  go_wp2
  have k := set3_cell (w := w2) (x := .int .i64 (S).x) (y := .int .i64 (S).y) (z := .bool (S).far) r0 r1 r2
  refine bodyPost_ret (v := .tuple #[spV (S), .nilIface]) (by simp [results, Tryd.results49, go_sem, k.1, k.2.1, k.2.2]) rfl ⟨rfl, set3_below (by repeat (first | exact hB2 | exact Below.refl _ _ | refine balloc ?_ _ | refine Below.drew ?_ | refine below_drewN ?_ _ | refine below_set ?_ (by first | omega | (dsimp only; omega)) _)) (by omega)⟩
set_option maxHeartbeats 1000000 in
theorem short_n1 (x : Int) (t : ByteArray) (w : World) (h : ¬ (1 ≤ x ∧ x < 1013)) : Calls Tryd.prog 49 #[.int .i64 x, .string t] w fun e w' => e = .returned (.tuple #[spV ⟨0, 0, false⟩, .iface 130 (.int .i64 1)]) ∧ Below w.heap.size w w' := by
  go_enter Tryd.func49, Tryd.ntmps49
  go_wp2_with fail
  refine (secret_n x _ h).mono ?_; rintro e w' ⟨rfl, rfl⟩
  go_wp2
  refine bodyPost_ret (v := .tuple #[spV ⟨0, 0, false⟩, .iface 130 (.int .i64 1)]) (by simp [results, Tryd.results49, go_sem]) rfl ⟨rfl, (by repeat (first | exact Below.refl _ _ | refine balloc ?_ _ | refine Below.drew ?_ | refine below_drewN ?_ _ | refine below_set ?_ (by first | omega | (dsimp only; omega)) _))⟩
set_option maxHeartbeats 1000000 in
theorem short_n2 (x : Int) (t : ByteArray) (w : World) (x1 : 1 ≤ x) (x2 : x < 1013) (h : 60 < t.size) (hz : t.size ≤ 140737488351232) : Calls Tryd.prog 49 #[.int .i64 x, .string t] w fun e w' => e = .returned (.tuple #[spV ⟨0, 0, false⟩, .iface 130 (.int .i64 4)]) ∧ Below w.heap.size w w' := by
  go_enter Tryd.func49, Tryd.ntmps49
  go_wp2_with fail
  refine (secret_y x _ x1 x2).mono ?_; rintro e w' ⟨rfl, rfl⟩
  go_wp2_with fail
  refine (text_n t _ h hz).mono ?_; rintro e w' ⟨rfl, rfl⟩
  go_wp2
  refine bodyPost_ret (v := .tuple #[spV ⟨0, 0, false⟩, .iface 130 (.int .i64 4)]) (by simp [results, Tryd.results49, go_sem]) rfl ⟨rfl, (by repeat (first | exact Below.refl _ _ | refine balloc ?_ _ | refine Below.drew ?_ | refine below_drewN ?_ _ | refine below_set ?_ (by first | omega | (dsimp only; omega)) _))⟩
/-- A short seal, whatever comes of it. -/
def ShortIs (x : Int) (t : ByteArray) (S : Sp) (E : Value) : Prop := ∀ w : World, FarAt w → Calls Tryd.prog 49 #[.int .i64 x, .string t] w fun e w' => e = .returned (.tuple #[spV S, E]) ∧ Below w.heap.size w w'
theorem short_n (x : Int) (t : ByteArray) (hz : t.size ≤ 140737488351232) (h : ¬ (1 ≤ x ∧ x < 1013 ∧ t.size ≤ 60)) : ∃ E : Int, ShortIs x t ⟨0, 0, false⟩ (.iface 130 (.int .i64 E)) := by
  by_cases hx : 1 ≤ x ∧ x < 1013
  · exact ⟨4, fun w _ => short_n2 x t w hx.1 hx.2 (by omega) hz⟩
  · exact ⟨1, fun w _ => short_n1 x t w hx⟩
theorem short_is (x : Int) (t : ByteArray) (hz : t.size ≤ 140737488351232) : (∃ S E, ShortIs x t S E) := by
  by_cases h : 1 ≤ x ∧ x < 1013 ∧ t.size ≤ 60
  · obtain ⟨j, j1, j2, e⟩ := hSpot_four t.data.toList
    exact ⟨_, _, fun w hF => short_y x j t _ _ w hF h.1 h.2.1 h.2.2 rfl e rfl⟩
  · obtain ⟨E, hE⟩ := short_n x t hz h
    exact ⟨_, _, hE⟩
set_option maxHeartbeats 2000000 in
theorem shortVerify_y (key sig H : Sp) (j s k : Int) (z : Z) (t : ByteArray) (w : World) (hF : FarAt w) (hO : OneAt w) (hz : t.size ≤ 60) (hH : Hid (hSpot t.data.toList = H)) (cH : Hid (Cnt H j)) (cS : Hid (Cnt sig s)) (cK : Hid (Cnt key k)) (cG : Hid (Cnt ⟨1189, 3667, false⟩ 1)) (h1 : Hid (zp (s * 1) = z)) (h2 : Hid (zp (j * k) = z)) : Calls Tryd.prog 50 #[spV key, .string t, spV sig] w fun e w' => e = .returned (.tuple #[.bool true, .nilIface]) ∧ Below w.heap.size w w' := by
  go_enter Tryd.func50, Tryd.ntmps50
  go_wp2_with fail
  refine (text_y t _ hz).mono ?_; rintro e w' ⟨rfl, rfl⟩
  go_wp2_with fail
  refine wp_region_grow Tryd.mixed (by kernel_rfl) ?_
  repeat (quiet_step ((first | (go_at_call 27; exact grow_of (base_k _ (hF.below (below_seq (by repeat (first | exact Below.refl _ _ | refine balloc ?_ _ | refine Below.drew ?_ | refine below_drewN ?_ _ | refine below_set ?_ (by first | omega | (dsimp only; omega)) _)) (Grew.h _))))) | (go_at_call 51; exact grow_of (hashSpot_e t H _ (hF.below (below_seq (by repeat (first | exact Below.refl _ _ | refine balloc ?_ _ | refine Below.drew ?_ | refine below_drewN ?_ _ | refine below_set ?_ (by first | omega | (dsimp only; omega)) _)) (Grew.h _))) (by omega) hH)) | (go_at_call 26; exact grow_of (same_y sig ⟨1189, 3667, false⟩ H key s 1 j k z _ (hF.below (below_seq (by repeat (first | exact Below.refl _ _ | refine balloc ?_ _ | refine Below.drew ?_ | refine below_drewN ?_ _ | refine below_set ?_ (by first | omega | (dsimp only; omega)) _)) (Grew.h _))) (hO.below (below_seq (by repeat (first | exact Below.refl _ _ | refine balloc ?_ _ | refine Below.drew ?_ | refine below_drewN ?_ _ | refine below_set ?_ (by first | omega | (dsimp only; omega)) _)) (Grew.h _))) cS cG cH cK h1 h2)))))
  refine wpQuiet_nil ?_
  intro _ hw'
  obtain ⟨x1, rfl⟩ := hw'
  have z1 := x1.h.size
  try simp only [World.size_alloc, World.size_setCell, World.size_drew] at z1
  have s1_0 : w.heap.size < x1.w.heap.size := by omega
  have s1_1 : w.heap.size + 1 < x1.w.heap.size := by omega
  have hB1 : Below w.heap.size w x1.w := below_seq (by repeat (first | exact Below.refl _ _ | refine balloc ?_ _ | refine Below.drew ?_ | refine below_drewN ?_ _ | refine below_set ?_ (by first | omega | (dsimp only; omega)) _)) x1.h
  go_wp2
  go_ret2
  exact ⟨rfl, (by repeat (first | exact hB1 | exact Below.refl _ _ | refine balloc ?_ _ | refine Below.drew ?_ | refine below_drewN ?_ _ | refine below_set ?_ (by first | omega | (dsimp only; omega)) _))⟩
/-- Sums, as far as the first n. -/
def sumF (f : Nat → Int) : Nat → Int
  | 0 => 0
  | k+1 => sumF f k + f k
set_option maxHeartbeats 1000000 in
theorem join_nil (a : Option Addr) (cap : Nat) (w : World) (hF : FarAt w) : Calls Tryd.prog 48 #[.slice a 0 cap] w fun e w' => e = .returned (.tuple #[spV ⟨0, 0, true⟩, .nilIface]) ∧ Below w.heap.size w w' := by
  obtain ⟨q0, q1, q2, ql⟩ := hF
  go_enter Tryd.func48, Tryd.ntmps48
  go_wp2
  refine wp_loop_rounds 1 ?_
  rw [rounds_succ]
  go_wp2
  refine bodyPost_ret (v := .tuple #[spV ⟨0, 0, true⟩, .nilIface]) (by simp [results, Tryd.results48, go_sem]) rfl ⟨rfl, ?_⟩
  repeat (first | exact Below.refl _ _ | refine balloc ?_ _ | refine Below.drew ?_ | refine below_set ?_ (by simp) _)
set_option maxHeartbeats 4000000 in
theorem join_y (L : List Sp) (f : Nat → Int) (b o c : Nat) (w : World) (hF : FarAt w) (hl : L.length ≤ 12) (hL : SpotsAt w b o L) (h : Hid (∀ k (h1 : k < L.length), L[k] = sq (f k))) :
    Calls Tryd.prog 48 #[.slice (some ⟨b, o, none⟩) L.length c] w fun e w' => e = .returned (.tuple #[spV (sq (sumF f L.length)), .nilIface]) ∧ Below w.heap.size w w' := by
  have hF' := Lib.hid hF
  have hL' := Lib.hid hL
  have hd : decide ((12 : Int) < (L.length : Int)) = false := by rw [decide_eq_false_iff_not]; omega
  obtain ⟨q0, q1, q2, ql⟩ := hF
  clear hL
  go_enter Tryd.func48, Tryd.ntmps48
  go_wp2
  have t0 : SpAt ((w.alloc (.cells #[.int .i64 0, .int .i64 0, .bool false] 24)).alloc (.cells #[.int .i64 0, .int .i64 0, .bool true] 24)) w.heap.size ⟨0, 0, false⟩ := (SpAt.fresh _ _ _ _ _).alloc _
  have t1 : SpAt ((w.alloc (.cells #[.int .i64 0, .int .i64 0, .bool false] 24)).alloc (.cells #[.int .i64 0, .int .i64 0, .bool true] 24)) (w.heap.size + 1) ⟨0, 0, true⟩ := SpAt.fresh1 _ _ _ _ _ _
  have tb := balloc (below_alloc w (.cells #[.int .i64 0, .int .i64 0, .bool false] 24)) (.cells #[.int .i64 0, .int .i64 0, .bool true] 24)
  replace t0 := Lib.hid t0
  replace t1 := Lib.hid t1
  replace tb := Lib.hid tb
  clear q0 q1 q2 ql hd
  generalize (w.alloc (.cells #[.int .i64 0, .int .i64 0, .bool false] 24)).alloc (.cells #[.int .i64 0, .int .i64 0, .bool true] 24) = w0 at *
  go_loopw [16] (fun i wr => ∃ n : Nat, n ≤ L.length ∧ i = .int .i64 n ∧ SpAt wr w.heap.size ⟨0, 0, false⟩ ∧ SpAt wr (w.heap.size + 1) (sq (sumF f n)) ∧ Below w.heap.size w wr) (fun i _ => L.length - (intOf i).toNat)
  case atStart => exact ⟨0, Nat.zero_le _, rfl, t0.out, (by show SpAt w0 _ (sq 0); rw [sq_zero]; exact t1.out), tb.out⟩
  case round =>
    clear t0 t1 tb
    obtain ⟨n, hn, rfl, hr, ho, hB⟩ := hrel
    have hol := ho.lt
    have hrl := hr.lt
    replace hr := Lib.hid hr
    replace ho := Lib.hid ho
    by_cases hlt : n < L.length
    · have hsL := hL'.out.below hB
      have l1 := hsL.cx n hlt
      have l2 := hsL.cy n hlt
      have l3 := hsL.cf n hlt
      have oA : Ok L[n] := by rw [h.out n hlt]; exact sq_ok _
      have hs : Hid (sSum (sq (sumF f n)) L[n] = sq (sumF f (n + 1))) := by show _ = _; rw [h.out n hlt, sq_add]; rfl
      clear hsL
      generalize hA : L[n] = A at *
      clear hA
      go_wp2_with fail
      refine (check_ok A _ (hF'.out.below (balloc hB _)) oA).mono ?_; rintro e w1 ⟨rfl, hb⟩
      have hB1 := below_seq (balloc hB _) hb
      have hr1 := (hr.out.alloc _).below hb
      have ho1 := (ho.out.alloc _).below hb
      have ha1 := (SpAt.fresh wr A.x A.y A.far 24).below hb
      obtain ⟨a0, a1, a2, -, -, -, al⟩ := ha1
      have hz := hb.size
      have ho1' := Lib.hid ho1
      have hr1' := Lib.hid hr1
      obtain ⟨o0, o1, o2, of0, of1, of2, ol⟩ := ho1
      clear hr ho hB hb hr1 l1 l2 l3
      have oS : Ok (sq (sumF f n)) := sq_ok _
      generalize hS : sq (sumF f n) = S at *
      go_wp2_with fail
      refine (sum_e S A _ _ (hF'.out.below hB1) oS oA hs).mono ?_; rintro e w2 ⟨rfl, hb⟩
      have hB2 := below_seq hB1 hb
      have hr2 := hr1'.out.below hb
      have ho2 := ho1'.out.below hb
      have ho2' := Lib.hid ho2
      clear a0 a1 a2 al o0 o1 o2 of0 of1 of2 hb
      obtain ⟨o0, o1, o2, of0, of1, of2, ol2⟩ := ho2
      generalize hV : sq (sumF f (n + 1)) = V at *
      replace hV := Lib.hid hV
      go_wp2
      go_roundw
      case rel => exact ⟨n + 1, by omega, by go_num, hr2.set3o (by omega) _ _ _, by rw [hV.out]; exact ho2'.out.set3 _, set3_below hB2 (by omega)⟩
      case measure => simp [intOf]; omega
    · have hn2 : n = L.length := by omega
      have ho2 := ho.out
      rw [hn2] at ho2
      obtain ⟨r0, r1, r2, rf0, rf1, rf2, rl⟩ := hr.out
      obtain ⟨p0, p1, p2, pf0, pf1, pf2, pl⟩ := ho2
      generalize hV : sq (sumF f L.length) = V at *
      go_wp2
      have k := set3_cell (w := wr) (x := .int .i64 V.x) (y := .int .i64 V.y) (z := .bool V.far) r0 r1 r2
      refine bodyPost_ret (v := .tuple #[spV V, .nilIface]) (by simp [results, Tryd.results48, go_sem, k.1, k.2.1, k.2.2]) rfl ⟨rfl, set3_below hB (by omega)⟩
theorem join_e (L : List Sp) (f : Nat → Int) (b o c : Nat) (S : Sp) (w : World) (hF : FarAt w) (hl : L.length ≤ 12) (hL : SpotsAt w b o L) (h : Hid (∀ k (h1 : k < L.length), L[k] = sq (f k))) (hS : Hid (sq (sumF f L.length) = S)) :
    Calls Tryd.prog 48 #[.slice (some ⟨b, o, none⟩) L.length c] w fun e w' => e = .returned (.tuple #[spV S, .nilIface]) ∧ Below w.heap.size w w' := by
  have := join_y L f b o c w hF hl hL h; rw [hS.out] at this; exact this
end Go.Proofs.YtijemkecjohagaaDoor
