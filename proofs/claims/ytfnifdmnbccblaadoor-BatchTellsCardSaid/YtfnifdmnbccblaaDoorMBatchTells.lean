/- Texts of this claim, in one. -/
import Derived.Test.YtfnifdmnbccblaaDoorOw
import Derived.Test.YtfnifdmnbccblaaDoorGp
import Derived.Test.YtfnifdmnbccblaaDoorSf
import Derived.Deep.DeepCutAuto
import Derived.Test.YtfnifdmnbccblaaDoorPo
import Derived.Deep.RegionWith
import Derived.SliceStrings
import Derived.SizedLaws
import Derived.Test.YtfnifdmnbccblaaDoorFr
import Derived.Test.YtfnifdmnbccblaaDoorFs
import Derived.Laws.Entries
import Derived.Test.YtfnifdmnbccblaaDoorRc
import Derived.Test.YtfnifdmnbccblaaDoorUn
import Derived.Test.YtfnifdmnbccblaaDoorRd
import Derived.Test.YtfnifdmnbccblaaDoorWr
import Derived.Test.YtfnifdmnbccblaaDoorKe
import Derived.Test.YtfnifdmnbccblaaDoorTn
import Derived.Test.YtfnifdmnbccblaaDoorEq
namespace Go.Proofs.YtfnifdmnbccblaaDoor
open Go.RowKit
set_option maxRecDepth 100000
set_option linter.unusedVariables false
set_option linter.unusedSimpArgs false
theorem okB_y {n : Int} (h : okB n = true) : 1 ≤ n ∧ n < 1013 := of_decide_eq_true h
theorem okB_n {n : Int} (h : okB n = false) : ¬ (1 ≤ n ∧ n < 1013) := of_decide_eq_false h
theorem list_sl (l : List Sp) (v : Value) (w : World) (hF : FarAt w) (hl : l.length ≤ 12) (hs : SpSl w v l) (hok : ∀ z ∈ l, Ok z) :
    Calls Tryd.prog 103 #[v] w fun e w' => e = .returned (.tuple #[.string (lsB l.length l), .nilIface]) ∧ Below w.heap.size w w' := by
  obtain ⟨a, cap, rfl, hs⟩ := hs
  cases l with
  | nil => exact list_zero a cap w
  | cons s l =>
    obtain ⟨b, off, rfl, hs'⟩ := hs (Nat.succ_pos _)
    exact list_ok (s :: l) b off cap w hF hl hs' (fun i h => hok _ (List.getElem_mem h))
theorem hashNumber_n (s : ByteArray) (n : Int) (w : World) (hs : s.size ≤ 9223372036854775807) (h : Hid (hnum s.data.toList = n)) : Calls Tryd.prog 106 #[.string s] w fun e w' => e = .returned (.int .i64 n) ∧ Below w.heap.size w w' := by
  rw [← h.out]; exact hashNumber_c s w hs
end Go.Proofs.YtfnifdmnbccblaaDoor
namespace Go.Proofs.YtfnifdmnbccblaaDoor
open Go.RowKit
set_option maxRecDepth 100000
set_option linter.unusedVariables false
set_option linter.unusedSimpArgs false
theorem take_snoc {α : Type} (l : List α) (n : Nat) (h : n < l.length) : l.take (n + 1) = l.take n ++ [l[n]] := by
  rw [List.take_add_one, List.getElem?_eq_getElem h]; rfl
end Go.Proofs.YtfnifdmnbccblaaDoor
namespace Go.Proofs.YtfnifdmnbccblaaDoor
open Go.RowKit
set_option maxRecDepth 100000
set_option linter.unusedVariables false
set_option linter.unusedSimpArgs false
@[go_sem] theorem field_far4 (x y : Value) (f : Bool) (w : World) : Sem.run Tryd.prog (Instr.field 25 (.agg #[x, y, .bool f]) 2) w = .ok (.bool f) w := by kernel_rfl
set_option maxHeartbeats 1000000 in
theorem sealCheck_ok (key R : Sp) (S : Int) (t : ByteArray) (w : World) (hF : FarAt w) (hk : Ok key) (hR : Ok R) (hz : t.size ≤ 60) (s0 : 0 ≤ S) (s1 : S < 1013) :
    Calls Tryd.prog 95 #[spV key, .string t, slV R S] w fun e w' => e = .returned .nilIface ∧ Below w.heap.size w w' := by
  go_enter Tryd.func95, Tryd.ntmps95
  go_wp2_with fail
  refine (text_y t _ hz).mono ?_; rintro e w' ⟨rfl, rfl⟩
  go_wp2_with fail
  refine (all_ok [key, R] _ 0 2 _ (hF.below (by repeat (first | exact Below.refl _ _ | refine balloc ?_ _ | refine Below.drew ?_ | refine below_drewN ?_ _ | refine below_set ?_ (by first | omega | (dsimp only; omega)) _))) (by simp) (spots_two key R _ _ (by simp) (by go_simp) (by go_simp) (by go_simp) (by go_simp) (by go_simp) (by go_simp)) (ok_two hk hR)).mono ?_; rintro e w1 ⟨rfl, hb⟩
  obtain ⟨hc1, hf1⟩ := bcell hb
  have z1 := hb.size
  try simp only [World.size_alloc, World.size_setCell, World.size_drew] at z1
  have s1_0 : w.heap.size < w1.heap.size := by omega
  have s1_1 : w.heap.size + 1 < w1.heap.size := by omega
  have s1_2 : w.heap.size + 1 + 1 < w1.heap.size := by omega
  have hB1 : Below w.heap.size w w1 := below_seq (by repeat (first | exact Below.refl _ _ | refine balloc ?_ _ | refine Below.drew ?_ | refine below_drewN ?_ _ | refine below_set ?_ (by first | omega | (dsimp only; omega)) _)) hb
  clear hb
  go_wp2_with fail
  refine (rest_y S _ s0 s1).mono ?_; rintro e w' ⟨rfl, rfl⟩
  go_wp2
  go_ret
  exact ⟨rfl, (by repeat (first | exact hB1 | exact Below.refl _ _ | refine balloc ?_ _ | refine Below.drew ?_ | refine below_drewN ?_ _ | refine below_set ?_ (by first | omega | (dsimp only; omega)) _))⟩
set_option maxHeartbeats 2000000 in
theorem sealOff_ok (key R B C D E Z : Sp) (a c S : Int) (t : ByteArray) (w : World) (hF : FarAt w) (hk : Ok key) (hR : Ok R) (hz : t.size ≤ 60) (hc : Hid (askN R key t.data.toList = c)) (ha : Hid (key = sq a))
    (hB : Hid (sq (4 * S) = B)) (hC : Hid (sq (a * c) = C)) (hD : Hid (sSum R C = D)) (hE : Hid (sTurned D = E)) (hZ : Hid (sSum B E = Z)) (oB : Ok B) (oC : Ok C) (oD : Ok D) (oE : Ok E) :
    Calls Tryd.prog 96 #[spV key, .string t, slV R S] w fun e w' => e = .returned (spV Z) ∧ Below w.heap.size w w' := by
  go_enter Tryd.func96, Tryd.ntmps96
  go_wp2_with fail
  refine (ask_e R key t c _ hR hk hz hc).mono ?_; rintro e w1 ⟨rfl, hb⟩
  obtain ⟨hc1, hf1⟩ := bcell hb
  have z1 := hb.size
  try simp only [World.size_alloc, World.size_setCell, World.size_drew] at z1
  have s1_0 : w.heap.size < w1.heap.size := by omega
  have s1_1 : w.heap.size + 1 < w1.heap.size := by omega
  have s1_2 : w.heap.size + 1 + 1 < w1.heap.size := by omega
  have hB1 : Below w.heap.size w w1 := below_seq (by repeat (first | exact Below.refl _ _ | refine balloc ?_ _ | refine Below.drew ?_ | refine below_drewN ?_ _ | refine below_set ?_ (by first | omega | (dsimp only; omega)) _)) hb
  clear hb
  go_wp2_with fail
  refine wp_region_grow_tail 11 Tryd.mixed (by kernel_rfl) ?_
  simp only [List.take_succ_cons, List.take_zero, List.drop_succ_cons, List.drop_zero]
  repeat (quiet_step ((first | (go_at_call 76; exact grow_of (by_e S B _ (hF.below (below_seq (by repeat (first | exact hB1 | exact Below.refl _ _ | refine balloc ?_ _ | refine Below.drew ?_ | refine below_drewN ?_ _ | refine below_set ?_ (by first | omega | (dsimp only; omega)) _)) (Grew.h _))) hB)) | (go_at_call 78; exact grow_of (of_e key C a c _ (hF.below (below_seq (by repeat (first | exact hB1 | exact Below.refl _ _ | refine balloc ?_ _ | refine Below.drew ?_ | refine below_drewN ?_ _ | refine below_set ?_ (by first | omega | (dsimp only; omega)) _)) (Grew.h _))) ha hC)) | (go_at_call 119; exact grow_of (turned_e D E _ oD hE)) | (go_at_call_of 83 R.x; exact grow_of (sum_e R C D _ (hF.below (below_seq (by repeat (first | exact hB1 | exact Below.refl _ _ | refine balloc ?_ _ | refine Below.drew ?_ | refine below_drewN ?_ _ | refine below_set ?_ (by first | omega | (dsimp only; omega)) _)) (Grew.h _))) hR oC hD)) | (go_at_call 83; exact grow_of (sum_e B E Z _ (hF.below (below_seq (by repeat (first | exact hB1 | exact Below.refl _ _ | refine balloc ?_ _ | refine Below.drew ?_ | refine below_drewN ?_ _ | refine below_set ?_ (by first | omega | (dsimp only; omega)) _)) (Grew.h _))) oB oE hZ)))))
  refine wpQuiet_nil ?_
  intro _ hw'
  obtain ⟨x2, rfl⟩ := hw'
  have z2 := x2.h.size
  try simp only [World.size_alloc, World.size_setCell, World.size_drew] at z2
  have s2_0 : w.heap.size < x2.w.heap.size := by omega
  have s2_1 : w.heap.size + 1 < x2.w.heap.size := by omega
  have s2_2 : w.heap.size + 1 + 1 < x2.w.heap.size := by omega
  have hB2 : Below w.heap.size w x2.w := below_seq (by repeat (first | exact hB1 | exact Below.refl _ _ | refine balloc ?_ _ | refine Below.drew ?_ | refine below_drewN ?_ _ | refine below_set ?_ (by first | omega | (dsimp only; omega)) _)) x2.h
  have r0 : x2.w.cell? ⟨w.heap.size + 1 + 1, 0, none⟩ = some (.int .i64 0) := by go_simp
  have r1 : x2.w.cell? ⟨w.heap.size + 1 + 1, 1, none⟩ = some (.int .i64 0) := by go_simp
  have r2 : x2.w.cell? ⟨w.heap.size + 1 + 1, 2, none⟩ = some (.bool false) := by go_simp
  go_wp2
  have k := set3_cell (w := x2.w) (x := .int .i64 (Z).x) (y := .int .i64 (Z).y) (z := .bool (Z).far) r0 r1 r2
  refine bodyPost_ret (v := spV (Z)) (by simp [results, Tryd.results96, go_sem, k.1, k.2.1, k.2.2]) rfl ⟨rfl, set3_below (by repeat (first | exact hB2 | exact Below.refl _ _ | refine balloc ?_ _ | refine Below.drew ?_ | refine below_drewN ?_ _ | refine below_set ?_ (by first | omega | (dsimp only; omega)) _)) (by omega)⟩
set_option maxHeartbeats 1000000 in
theorem sealVerify_ok (key R Z : Sp) (S : Int) (b : Bool) (t : ByteArray) (w : World) (hF : FarAt w) (hk : Ok key) (hR : Ok R) (hz : t.size ≤ 60) (s0 : 0 ≤ S) (s1 : S < 1013)
    (hO : Hid (∀ w1 : World, FarAt w1 → Calls Tryd.prog 96 #[spV key, .string t, slV R S] w1 fun e w' => e = .returned (spV Z) ∧ Below w1.heap.size w1 w')) (hb : Z.far = b) :
    Calls Tryd.prog 97 #[spV key, .string t, slV R S] w fun e w' => e = .returned (.tuple #[.bool b, .nilIface]) ∧ Below w.heap.size w w' := by
  subst hb
  go_enter Tryd.func97, Tryd.ntmps97
  go_wp2_with fail
  refine (sealCheck_ok key R S t _ (hF.below (by repeat (first | exact Below.refl _ _ | refine balloc ?_ _ | refine Below.drew ?_ | refine below_drewN ?_ _ | refine below_set ?_ (by first | omega | (dsimp only; omega)) _))) hk hR hz s0 s1).mono ?_; rintro e w1 ⟨rfl, hb⟩
  obtain ⟨hc1, hf1⟩ := bcell hb
  have z1 := hb.size
  try simp only [World.size_alloc, World.size_setCell, World.size_drew] at z1
  have s1_0 : w.heap.size < w1.heap.size := by omega
  have s1_1 : w.heap.size + 1 < w1.heap.size := by omega
  have hB1 : Below w.heap.size w w1 := below_seq (by repeat (first | exact Below.refl _ _ | refine balloc ?_ _ | refine Below.drew ?_ | refine below_drewN ?_ _ | refine below_set ?_ (by first | omega | (dsimp only; omega)) _)) hb
  clear hb
  go_wp2_with fail
  refine (hO.out _ (hF.below (by repeat (first | exact hB1 | exact Below.refl _ _ | refine balloc ?_ _ | refine Below.drew ?_ | refine below_drewN ?_ _ | refine below_set ?_ (by first | omega | (dsimp only; omega)) _)))).mono ?_; rintro e w2 ⟨rfl, hb⟩
  obtain ⟨hc2, hf2⟩ := bcell hb
  have z2 := hb.size
  try simp only [World.size_alloc, World.size_setCell, World.size_drew] at z2
  have s2_0 : w.heap.size < w2.heap.size := by omega
  have s2_1 : w.heap.size + 1 < w2.heap.size := by omega
  have hB2 : Below w.heap.size w w2 := below_seq (by repeat (first | exact hB1 | exact Below.refl _ _ | refine balloc ?_ _ | refine Below.drew ?_ | refine below_drewN ?_ _ | refine below_set ?_ (by first | omega | (dsimp only; omega)) _)) hb
  clear hb
  go_wp2
  go_ret2
  exact ⟨rfl, (by repeat (first | exact hB2 | exact Below.refl _ _ | refine balloc ?_ _ | refine Below.drew ?_ | refine below_drewN ?_ _ | refine below_set ?_ (by first | omega | (dsimp only; omega)) _))⟩
/-- What a seal comes to: of the key sq a and the spot sq r. -/
theorem verify_e (key R : Sp) (a r c S : Int) (b : Bool) (t : ByteArray) (w : World) (hF : FarAt w) (hz : t.size ≤ 60) (s0 : 0 ≤ S) (s1 : S < 1013) (ha : Hid (key = sq a)) (hr : Hid (R = sq r)) (hc : Hid (askN R key t.data.toList = c)) (hb : Hid ((sq (4 * S + -(r + a * c))).far = b)) :
    Calls Tryd.prog 97 #[spV key, .string t, slV R S] w fun e w' => e = .returned (.tuple #[.bool b, .nilIface]) ∧ Below w.heap.size w w' := by
  have oR : Ok R := ok_of hr.out
  have oK : Ok key := ok_of ha.out
  refine sealVerify_ok key R _ S b t w hF oK oR hz s0 s1 (fun w1 hF1 => sealOff_ok key R _ _ (sq (r + a * c)) _ (sq (4 * S + -(r + a * c))) a c S t w1 hF1 oK oR hz hc ha rfl rfl ?_ rfl ?_ (sq_ok _) (sq_ok _) (sq_ok _) (turned_ok (sq_ok _)).1) hb.out
  · show _ = _; rw [hr.out, sq_add]
  · show _ = _; rw [sq_neg, sq_add]
end Go.Proofs.YtfnifdmnbccblaaDoor
namespace Go.Proofs.YtfnifdmnbccblaaDoor
open Go.RowKit
set_option maxRecDepth 100000
set_option linter.unusedVariables false
set_option linter.unusedSimpArgs false
/-- Strings that lie in a row. -/
structure StrsAt (w : World) (b off : Nat) (l : List ByteArray) : Prop where
  lt : b < w.heap.size
  c : ∀ i (h : i < l.length), w.cell? ⟨b, off + i, none⟩ = some (.string l[i])
theorem StrsAt.below {w w' : World} {b off : Nat} {l : List ByteArray} (h : StrsAt w b off l) (hb : Below w.heap.size w w') : StrsAt w' b off l :=
  ⟨Nat.lt_of_lt_of_le h.lt hb.size, fun i hi => (hb.cell (p := ⟨b, off + i, none⟩) h.lt).trans (h.c i hi)⟩
/-- A value that is a slice of these strings. -/
def StrSl (w : World) (v : Value) (l : List ByteArray) : Prop := ∃ a cap, v = .slice a l.length cap ∧ (0 < l.length → ∃ b off, a = some ⟨b, off, none⟩ ∧ StrsAt w b off l)
theorem StrSl.below {w w' : World} {v : Value} {l : List ByteArray} (h : StrSl w v l) (hb : Below w.heap.size w w') : StrSl w' v l := by
  obtain ⟨a, cap, rfl, h⟩ := h
  exact ⟨a, cap, rfl, fun h0 => by obtain ⟨b, off, e, hs⟩ := h h0; exact ⟨b, off, e, hs.below hb⟩⟩
/-- Seals that lie in a row. -/
structure SlsAt (w : World) (b off : Nat) (l : List (Sp × Int)) : Prop where
  lt : b < w.heap.size
  cx : ∀ i (h : i < l.length), w.cell? ⟨b, off + i * 4, none⟩ = some (.int .i64 l[i].1.x)
  cy : ∀ i (h : i < l.length), w.cell? ⟨b, off + i * 4 + 1, none⟩ = some (.int .i64 l[i].1.y)
  cf : ∀ i (h : i < l.length), w.cell? ⟨b, off + i * 4 + 2, none⟩ = some (.bool l[i].1.far)
  cs : ∀ i (h : i < l.length), w.cell? ⟨b, off + i * 4 + 3, none⟩ = some (.int .i64 l[i].2)
theorem SlsAt.below {w w' : World} {b off : Nat} {l : List (Sp × Int)} (h : SlsAt w b off l) (hb : Below w.heap.size w w') : SlsAt w' b off l :=
  ⟨Nat.lt_of_lt_of_le h.lt hb.size, fun i hi => (hb.cell (p := ⟨b, off + i * 4, none⟩) h.lt).trans (h.cx i hi), fun i hi => (hb.cell (p := ⟨b, off + i * 4 + 1, none⟩) h.lt).trans (h.cy i hi), fun i hi => (hb.cell (p := ⟨b, off + i * 4 + 2, none⟩) h.lt).trans (h.cf i hi), fun i hi => (hb.cell (p := ⟨b, off + i * 4 + 3, none⟩) h.lt).trans (h.cs i hi)⟩
/-- A value that is a slice of these seals. -/
def SlSl (w : World) (v : Value) (l : List (Sp × Int)) : Prop := ∃ a cap, v = .slice a l.length cap ∧ (0 < l.length → ∃ b off, a = some ⟨b, off, none⟩ ∧ SlsAt w b off l)
theorem SlSl.below {w w' : World} {v : Value} {l : List (Sp × Int)} (h : SlSl w v l) (hb : Below w.heap.size w w') : SlSl w' v l := by
  obtain ⟨a, cap, rfl, h⟩ := h
  exact ⟨a, cap, rfl, fun h0 => by obtain ⟨b, off, e, hs⟩ := h h0; exact ⟨b, off, e, hs.below hb⟩⟩
/-- A seal to be looked at, and what is left of it (so many times the base's fourth). -/
structure It where
  key : Sp
  t : ByteArray
  R : Sp
  S : Int
  e : Int
def It.ok (x : It) : Prop := ∃ a r, x.key = sq a ∧ x.R = sq r ∧ x.e = 4 * x.S + -(r + a * askN x.R x.key x.t.data.toList) ∧ x.t.size ≤ 60 ∧ 0 ≤ x.S ∧ x.S < 1013
theorem boff_e (key R Z : Sp) (t : ByteArray) (S e : Int) (w : World) (hF : FarAt w) (h : Hid (It.ok ⟨key, t, R, S, e⟩)) (hZ : Hid (sq e = Z)) :
    Calls Tryd.prog 96 #[spV key, .string t, slV R S] w fun e w' => e = .returned (spV Z) ∧ Below w.heap.size w w' := by
  obtain ⟨a, r, ha, hr, he, hz, s0, s1⟩ := h.out
  simp only at ha hr he hz s0 s1
  have oR : Ok R := ok_of hr
  have oK : Ok key := ok_of ha
  refine sealOff_ok key R _ _ (sq (r + a * askN R key t.data.toList)) _ Z a _ S t w hF oK oR hz rfl ha rfl rfl ?_ rfl ?_ (sq_ok _) (sq_ok _) (sq_ok _) (turned_ok (sq_ok _)).1
  · show _ = _; rw [hr, sq_add]
  · show _ = _; rw [sq_neg, sq_add, ← hZ.out, he]
theorem chk_e (key R : Sp) (t : ByteArray) (S e : Int) (w : World) (hF : FarAt w) (h : Hid (It.ok ⟨key, t, R, S, e⟩)) :
    Calls Tryd.prog 95 #[spV key, .string t, slV R S] w fun e w' => e = .returned .nilIface ∧ Below w.heap.size w w' := by
  obtain ⟨a, r, ha, hr, he, hz, s0, s1⟩ := h.out
  exact sealCheck_ok key R S t w hF (ok_of ha) (ok_of hr) hz s0 s1
theorem vfy_e (key R : Sp) (t : ByteArray) (S e : Int) (b : Bool) (w : World) (hF : FarAt w) (h : Hid (It.ok ⟨key, t, R, S, e⟩)) (hb : Hid ((sq e).far = b)) :
    Calls Tryd.prog 97 #[spV key, .string t, slV R S] w fun e w' => e = .returned (.tuple #[.bool b, .nilIface]) ∧ Below w.heap.size w w' := by
  obtain ⟨a, r, ha, hr, he, hz, s0, s1⟩ := h.out
  simp only at ha hr he hz s0 s1
  exact verify_e key R a r _ S b t w hF hz s0 s1 ha hr rfl (by rw [← he]; exact hb)
set_option maxHeartbeats 1000000 in
theorem bready_e (n : Nat) (a1 a2 a3 : Option Addr) (c1 c2 c3 : Nat) (w : World) (h : n ≤ 12) :
    Calls Tryd.prog 94 #[.slice a1 n c1, .slice a2 n c2, .slice a3 n c3] w fun e w' => e = .returned .nilIface ∧ Below w.heap.size w w' := by
  have hd : decide ((12 : Int) < (n : Int)) = false := by rw [decide_eq_false_iff_not]; omega
  go_enter Tryd.func94, Tryd.ntmps94
  go_wp2
  go_ret
  exact ⟨rfl, Below.refl _ _⟩
set_option maxHeartbeats 8000000 in
theorem bverify_e (L : List It) (ws : List Int) (v1 v2 v3 v4 : Value) (B : Bool) (w : World) (hF : FarAt w) (hl : L.length ≤ 12) (hw : ws.length = L.length) (hok : ∀ i (h : i < L.length), It.ok L[i]) (hwo : ∀ i (h : i < ws.length), 1 ≤ ws[i] ∧ ws[i] < 1013)
    (h1 : SpSl w v1 (L.map (·.key))) (h2 : StrSl w v2 (L.map (·.t))) (h3 : SlSl w v3 (L.map fun x => (x.R, x.S))) (h4 : IntSl w v4 ws) (hB : Hid ((sq (dot (L.map (·.e)) ws)).far = B)) :
    Calls Tryd.prog 32 #[v1, v2, v3, v4] w fun e w' => e = .returned (.tuple #[.bool B, .nilIface]) ∧ Below w.heap.size w w' := by
  obtain ⟨a1, c1, rfl, h1⟩ := h1
  obtain ⟨a2, c2, rfl, h2⟩ := h2
  obtain ⟨a3, c3, rfl, h3⟩ := h3
  obtain ⟨a4, c4, rfl, h4⟩ := h4
  rw [hw]
  simp only [List.length_map] at h1 h2 h3 ⊢
  have hE := Lib.hid (fun n (h : n < L.length) => dot_snoc (L.map (·.e)) ws n (by simpa using h) (by omega))
  replace hok := Lib.hid hok
  replace hwo := Lib.hid hwo
  replace hw := Lib.hid hw
  replace h1 := Lib.hid h1
  replace h2 := Lib.hid h2
  replace h3 := Lib.hid h3
  replace h4 := Lib.hid h4
  replace hF := Lib.hid hF
  go_enter Tryd.func32, Tryd.ntmps32
  go_wp2_with fail
  refine (bready_e L.length a1 a2 a3 c1 c2 c3 w hl).mono ?_; rintro e w1 ⟨rfl, hb1⟩
  have hB1 := Lib.hid hb1
  have hF1 := Lib.hid (hF.out.below hb1)
  have i1 := Lib.hid (fun hp => by obtain ⟨b, off, e, hs⟩ := h1.out hp; exact (⟨b, off, e, hs.below hb1⟩ : ∃ b off, a1 = some ⟨b, off, none⟩ ∧ SpotsAt w1 b off (L.map (·.key))))
  have i2 := Lib.hid (fun hp => by obtain ⟨b, off, e, hs⟩ := h2.out hp; exact (⟨b, off, e, hs.below hb1⟩ : ∃ b off, a2 = some ⟨b, off, none⟩ ∧ StrsAt w1 b off (L.map (·.t))))
  have i3 := Lib.hid (fun hp => by obtain ⟨b, off, e, hs⟩ := h3.out hp; exact (⟨b, off, e, hs.below hb1⟩ : ∃ b off, a3 = some ⟨b, off, none⟩ ∧ SlsAt w1 b off (L.map fun x => (x.R, x.S))))
  have i4 := Lib.hid (fun hp => by obtain ⟨b, off, e, hs⟩ := h4.out hp; exact (⟨b, off, e, hs.below hb1⟩ : ∃ b off, a4 = some ⟨b, off, none⟩ ∧ IntsAt w1 b off ws))
  clear h1 h2 h3 h4 hF hb1
  obtain ⟨q0, q1, q2, ql⟩ := hF1.out
  go_wp2
  clear q0 q1 q2 ql
  have hO := Lib.hid (SpAt.fresh w1 0 0 true 25)
  have hB2 := Lib.hid (below_alloc w1 (.cells #[.int .i64 0, .int .i64 0, .bool true] 25))
  generalize w1.alloc (.cells #[.int .i64 0, .int .i64 0, .bool true] 25) = w2 at *
  go_loopw [31] (fun i wr => ∃ n : Nat, n ≤ L.length ∧ i = .int .i64 n ∧ SpAt wr w1.heap.size (sq (dot ((L.map (·.e)).take n) ws)) ∧ Below w1.heap.size w1 wr) (fun i _ => L.length - (intOf i).toNat)
  case atStart => exact ⟨0, Nat.zero_le _, rfl, by rw [List.take_zero, dot_nil, sq_zero]; exact hO.out, hB2.out⟩
  case round =>
    clear hO hB2
    obtain ⟨n, hn, rfl, hP, hb⟩ := hrel
    replace hP := Lib.hid hP
    replace hb := Lib.hid hb
    by_cases hlt : n < L.length
    · obtain ⟨b1, o1, rfl, l1⟩ := i1.out (by simpa using (by omega : 0 < L.length))
      obtain ⟨b2, o2, rfl, l2⟩ := i2.out (by simpa using (by omega : 0 < L.length))
      obtain ⟨b3, o3, rfl, l3⟩ := i3.out (by simpa using (by omega : 0 < L.length))
      obtain ⟨b4, o4, rfl, l4⟩ := i4.out (by omega)
      have hd := hE.out n hlt
      have hok1 := hok.out n hlt
      obtain ⟨y1, y2⟩ := hwo.out n (by rw [hw.out]; exact hlt)
      have l1 := Lib.hid l1
      have l2 := Lib.hid l2
      have l3 := Lib.hid l3
      have l4 := Lib.hid l4
      have hA : Hid (∀ w', Below w1.heap.size w1 w' → w'.cell? ⟨b1, o1 + n * 3, none⟩ = some (.int .i64 L[n].key.x) ∧ w'.cell? ⟨b1, o1 + n * 3 + 1, none⟩ = some (.int .i64 L[n].key.y) ∧ w'.cell? ⟨b1, o1 + n * 3 + 2, none⟩ = some (.bool L[n].key.far) ∧
          w'.cell? ⟨b2, o2 + n, none⟩ = some (.string L[n].t) ∧ w'.cell? ⟨b3, o3 + n * 4, none⟩ = some (.int .i64 L[n].R.x) ∧ w'.cell? ⟨b3, o3 + n * 4 + 1, none⟩ = some (.int .i64 L[n].R.y) ∧ w'.cell? ⟨b3, o3 + n * 4 + 2, none⟩ = some (.bool L[n].R.far) ∧ w'.cell? ⟨b3, o3 + n * 4 + 3, none⟩ = some (.int .i64 L[n].S) ∧
          w'.cell? ⟨b4, o4 + n, none⟩ = some (.int .i64 (ws[n]'(by rw [hw.out]; exact hlt))) ∧ b1 < w'.heap.size ∧ b2 < w'.heap.size ∧ b3 < w'.heap.size ∧ b4 < w'.heap.size) := Lib.hid (fun w' hb => by
        have k1 := l1.out.below hb
        have k2 := l2.out.below hb
        have k3 := l3.out.below hb
        have k4 := l4.out.below hb
        have e1 := k1.cx n (by simpa using hlt)
        have e2 := k1.cy n (by simpa using hlt)
        have e3 := k1.cf n (by simpa using hlt)
        have e4 := k2.c n (by simpa using hlt)
        have e5 := k3.cx n (by simpa using hlt)
        have e6 := k3.cy n (by simpa using hlt)
        have e7 := k3.cf n (by simpa using hlt)
        have e8 := k3.cs n (by simpa using hlt)
        have e9 := k4.c n (by rw [hw.out]; exact hlt)
        simp only [List.getElem_map] at e1 e2 e3 e4 e5 e6 e7 e8 e9
        exact ⟨e1, e2, e3, e4, e5, e6, e7, e8, e9, k1.lt, k2.lt, k3.lt, k4.lt⟩)
      rw [List.getElem_map] at hd
      clear l1 l2 l3 l4
      generalize L[n] = I at *
      obtain ⟨A, t, R, S, f⟩ := I
      simp only at hA hd y1 y2
      generalize ws[n] = c at *
      replace hok1 := Lib.hid hok1
      obtain ⟨Z, hZ⟩ : ∃ Z, sq f = Z := ⟨_, rfl⟩
      obtain ⟨C, hC⟩ : ∃ C, sq (f * c) = C := ⟨_, rfl⟩
      obtain ⟨D, hD⟩ : ∃ D, sSum (sq (dot ((L.map (·.e)).take n) ws)) C = D := ⟨_, rfl⟩
      have oP := sq_ok (dot ((L.map (·.e)).take n) ws)
      have hDe : Hid (sq (dot ((L.map (·.e)).take (n + 1)) ws) = D) := Lib.hid (by rw [hd, ← sq_add, hC]; exact hD)
      clear hd
      generalize sq (dot ((L.map (·.e)).take n) ws) = P at *
      have oC : Ok C := by rw [← hC]; exact sq_ok _
      replace hZ := Lib.hid hZ
      replace hC := Lib.hid hC
      replace hD := Lib.hid hD
      have hZ' := Lib.hid hZ.out.symm
      obtain ⟨e1, e2, e3, e4, e5, e6, e7, e8, e9, g1, g2, g3, g4⟩ := hA.out wr hb.out
      have hFr := Lib.hid (hF1.out.below hb.out)
      go_wp2_with fail
      refine wp_region_grow Tryd.mixed (by kernel_rfl) ?_
      repeat (quiet_step ((go_at_call 95; exact grow_of (chk_e A R t S f _ (hFr.out.below (below_seq (below_alloc _ _) (Grew.h _))) hok1))))
      refine wpQuiet_nil ?_
      intro _ hw'
      obtain ⟨x, rfl⟩ := hw'
      clear e1 e2 e3 e4 e5 e6 e7 e8 e9 g1 g2 g3 g4
      have hx := Lib.hid (below_seq (below_alloc _ _) x.h)
      have hk := (SpAt.fresh wr A.x A.y A.far 25).below x.h
      have hby := Lib.hid (below_seq hb.out hx.out)
      have hPy := Lib.hid (hP.out.below hx.out)
      have hFy := Lib.hid (hFr.out.below hx.out)
      have zy := hx.out.size
      obtain ⟨e1, e2, e3, e4, e5, e6, e7, e8, e9, g1, g2, g3, g4⟩ := hA.out _ hby.out
      obtain ⟨k0, k1, k2, -, -, -, kl⟩ := hk
      clear hA hFr hP hx hb
      generalize hyw : x.w = y at *
      clear hyw x
      go_wp2_with fail
      refine (secret_y c _ y1 y2).mono ?_; rintro e w' ⟨rfl, rfl⟩
      obtain ⟨p0, p1, p2, p3, p4, p5, pl⟩ := hPy.out
      go_wp2_with fail
      refine wp_region_grow_tail 17 Tryd.mixed (by kernel_rfl) ?_
      simp only [List.take_succ_cons, List.take_zero, List.drop_succ_cons, List.drop_zero]
      repeat (quiet_step (first | (go_at_call 96; exact grow_of (boff_e A R Z t S f _ (hFy.out.below (Grew.h _)) hok1 hZ)) | (go_at_call 78; exact grow_of (of_e Z C f c _ (hFy.out.below (Grew.h _)) hZ' hC)) | (go_at_call 83; exact grow_of (sum_e P C D _ (hFy.out.below (Grew.h _)) oP oC hD))))
      refine wpQuiet_nil ?_
      intro _ hw'
      obtain ⟨x, rfl⟩ := hw'
      have hx := Lib.hid x.h
      have hP2 := hPy.out.below hx.out
      clear p0 p1 p2 p3 p4 p5 pl e1 e2 e3 e4 e5 e6 e7 e8 e9
      obtain ⟨p0, p1, p2, p3, p4, p5, p6⟩ := hP2
      go_wp2
      go_roundw
      case rel => exact ⟨n + 1, by omega, by go_num, by rw [hDe.out]; exact (hPy.out.below hx.out).set3 D, set3_below (below_seq hby.out hx.out) (Nat.le_refl _)⟩
      case measure => simp [intOf]; omega
    · obtain rfl : n = L.length := by omega
      have hPJ : (L.map (·.e)).take L.length = L.map (·.e) := List.take_of_length_le (by simp)
      rw [hPJ] at hP
      obtain ⟨J, hJ⟩ : ∃ J, sq (dot (L.map (·.e)) ws) = J := ⟨_, rfl⟩
      rw [hJ] at hP hB
      obtain ⟨p0, p1, p2, -, -, -, -⟩ := hP.out
      rw [hB.out] at p2
      clear hPJ hJ
      have hBr := Lib.hid (below_seq hB1.out hb.out)
      go_wp2
      go_ret2
      exact ⟨rfl, hBr.out⟩
end Go.Proofs.YtfnifdmnbccblaaDoor
namespace Go.Proofs.YtfnifdmnbccblaaDoor
open Go.RowKit Go.WideShapes Go.ChangeShapes Go.Deep
/-- A value that is a slice of strings, none of them too long. -/
def StrsV (w : World) (v : Value) : Prop := ∃ l : List ByteArray, StrSl w v l ∧ l.length ≤ 9223372036854775807 ∧ ∀ s ∈ l, s.size ≤ 140737488351232
section
variable {H : Type} {enc : TypeId × Value → H} {P : Program} {w : World} {base : Nat} {spare : Nat → Bool} {held : Bool}
theorem weightsIn {e : TypeId} : ∀ {l : List (DataW H)} {d : DataW H}, d ∈ l → ∀ n ∈ d.weights P e, n ∈ DataW.weightsAll P e l
  | [], _, hd, _, _ => absurd hd List.not_mem_nil
  | x :: l, d, hd, n, hn => by
    simp only [DataW.weightsAll, List.mem_append]
    rcases List.mem_cons.1 hd with rfl | h
    · exact .inl hn
    · exact .inr (weightsIn h n hn)
theorem open_strl {r : Reach} {b0 : Nat} {t e : TypeId} {v : Value} {d : DataW H} {ps : List MemPlace} {ts : List TypeId} {ds : List (DataW H)} {j : Nat} (ht : P.underlying t = some (.slice e)) (he : P.underlying e = some .string) (hc : P.cellsOf e = 1)
    (hv : Value.okWide P w r b0 t v) (h : DataW.Trod enc P w base spare held t v d ps) (hsz : (DataW.weightsEach P ts ds).all (· ≤ reachBytes) = true) (hj : ts[j]? = some t) (hd : ds[j]? = some d) :
    StrsV w v := by
  obtain ⟨a, len, cap, rfl⟩ := okWide_slice ht hv
  obtain ⟨fuel, hf⟩ := h
  rcases ChangeShapes.open_strings ht he hc hf with ⟨hn, -⟩ | ⟨a', len', cap', ss, hcs, hb, hl, hm, hzl, hx, hcell, hw⟩
  · simp [Value.cells] at hn; obtain ⟨rfl, rfl, rfl⟩ := hn
    exact ⟨[], ⟨none, 0, rfl, fun h => absurd h (Nat.lt_irrefl 0)⟩, by decide, fun s h => absurd h List.not_mem_nil⟩
  · simp [Value.cells] at hcs; obtain ⟨rfl, rfl, rfl⟩ := hcs
    by_cases hz : len = 0
    · subst hz
      exact ⟨[], ⟨_, _, rfl, fun h => absurd h (Nat.lt_irrefl 0)⟩, by decide, fun s h => absurd h List.not_mem_nil⟩
    have hlm : len ≤ ss.length := by rw [hzl]; split <;> omega
    have hle : (ss.take len).length = len := by rw [List.length_take]; omega
    obtain ⟨b, off, sp⟩ := a'
    obtain rfl : sp = none := spotless (b := b) (off := off) (by simpa [Addr.add] using hcell 0 (by omega))
    simp only [add_none] at hcell
    unfold maxLen at hm
    refine ⟨ss.take len, ⟨_, cap, by rw [hle], fun _ => ⟨b, off, rfl, World.block_lt_of_cell? w _ (hcell 0 (by omega)), fun i hi => ?_⟩⟩, by omega, fun s hs => ?_⟩
    · have := hcell i (by omega)
      rw [this, List.getElem_take, List.getD_eq_getElem?_getD, List.getElem?_eq_getElem (by omega)]; rfl
    · simp only [Prod.mk.injEq] at hx
      obtain ⟨rfl, -⟩ := hx
      have hmem : (DataW.lit (.string s.data.toList) : DataW H) ∈ strs (ss.take len) := List.mem_map.mpr ⟨s, hs, rfl⟩
      have := List.all_eq_true.1 hsz _ (DataW.weights_mem_each hj hd s.data.toList.length (by
        simp only [DataW.weights, ht, List.mem_cons, List.mem_append]
        exact .inr (.inl (weightsIn hmem _ (by simp [DataW.weights])))))
      have h9 : s.data.toList.length ≤ reachBytes := of_decide_eq_true this
      simpa [reachBytes] using h9
end
end Go.Proofs.YtfnifdmnbccblaaDoor
namespace Go.Proofs.YtfnifdmnbccblaaDoor
open Go.RowKit Go.WideShapes Go.ChangeShapes
section
variable {H : Type} {enc : TypeId × Value → H} {P : Program} {w : World} {base : Nat} {spare : Nat → Bool} {held : Bool}
open Go.Joins Go.Deep
theorem open_seal {r : Reach} {b0 : Nat} {t : TypeId} {f0 f1 s0 s1 s2 : Field} {v : Value} {d : DataW H} {p : List MemPlace} (hs : P.underlying t = some (.struct #[f0, f1])) (hC : P.cellsOf t = 4) (ho0 : f0.offset = 0) (ho1 : f1.offset = 3) (hC0 : P.cellsOf f0.type = 3) (hC1 : P.cellsOf f1.type = 1)
    (hs0 : P.underlying f0.type = some (.struct #[s0, s1, s2])) (hone : oneCellFields P #[s0, s1, s2] = true) (i0 : P.underlying s0.type = some (.int .i64)) (i1 : P.underlying s1.type = some (.int .i64)) (i2 : P.underlying s2.type = some .bool) (i3 : P.underlying f1.type = some (.int .i64))
    (hv : Value.okWide P w r b0 t v) (h : DataW.Trod enc P w base spare held t v d p) :
    ∃ (a b : Int) (f : Bool) (c : Int), v = .agg #[.int .i64 a, .int .i64 b, .bool f, .int .i64 c] ∧ (Lit.int .i64 a).wf = true ∧ (Lit.int .i64 b).wf = true ∧ (Lit.int .i64 c).wf = true := by
  obtain ⟨cs, rfl, hsz⟩ := okWide_struct hs hv
  obtain ⟨c0, c1, c2, c3, rfl⟩ := array4 (hsz.trans hC)
  obtain ⟨fuel, hf⟩ := h
  obtain ⟨y0, y1, n, hx, _, g0, g1⟩ := trod_struct2 hs hf
  rw [ho0, hC0] at g0
  rw [ho1, hC1] at g1
  obtain ⟨z0, z1, z2, m, hx', _, k0, k1, k2⟩ := trod_struct3 hs0 (cs := [c0, c1, c2]) (by simpa [Value.cells] using g0)
  obtain ⟨o0, q0⟩ := hone_of hone 0 s0 rfl
  obtain ⟨o1, q1⟩ := hone_of hone 1 s1 rfl
  obtain ⟨o2, q2⟩ := hone_of hone 2 s2 rfl
  have k0' : DataW.trod enc P w base spare held m s0.type [c0] = some z0 := by simpa [o0, q0] using k0
  have k1' : DataW.trod enc P w base spare held m s1.type [c1] = some z1 := by simpa [o1, q1] using k1
  have k2' : DataW.trod enc P w base spare held m s2.type [c2] = some z2 := by simpa [o2, q2] using k2
  have k3' : DataW.trod enc P w base spare held n f1.type [c3] = some y1 := by simpa [Value.cells] using g1
  obtain ⟨a, e0, -, wa⟩ := DataW.trod_int i0 k0'
  obtain ⟨b, e1, -, wb⟩ := DataW.trod_int i1 k1'
  obtain ⟨f, e2, -⟩ := DataW.trod_bool i2 k2'
  obtain ⟨c, e3, -, wc⟩ := DataW.trod_int i3 k3'
  simp at e0 e1 e2 e3
  subst e0 e1 e2 e3
  exact ⟨a, b, f, c, rfl, wa, wb, wc⟩
end
end Go.Proofs.YtfnifdmnbccblaaDoor
namespace Go.Proofs.YtfnifdmnbccblaaDoor
open Go.RowKit Go.WideShapes Go.ChangeShapes Go.Deep Go.Joins
instance : Inhabited (Sp × Int) := ⟨(⟨0, 0, false⟩, 0)⟩
section
variable {H : Type} {enc : TypeId × Value → H} {P : Program} {w : World} {base : Nat} {spare : Nat → Bool} {held : Bool}
theorem open_seals {r : Reach} {b0 : Nat} {t e : TypeId} {f0 f1 s0 s1 s2 : Field} {v : Value} {d : DataW H} {ps : List MemPlace} (ht : P.underlying t = some (.slice e)) (hs : P.underlying e = some (.struct #[f0, f1])) (hC : P.cellsOf e = 4) (ho0 : f0.offset = 0) (ho1 : f1.offset = 3) (hC0 : P.cellsOf f0.type = 3) (hC1 : P.cellsOf f1.type = 1)
    (hs0 : P.underlying f0.type = some (.struct #[s0, s1, s2])) (hone : oneCellFields P #[s0, s1, s2] = true) (i0 : P.underlying s0.type = some (.int .i64)) (i1 : P.underlying s1.type = some (.int .i64)) (i2 : P.underlying s2.type = some .bool) (i3 : P.underlying f1.type = some (.int .i64))
    (hv : Value.okWide P w r b0 t v) (h : DataW.Trod enc P w base spare held t v d ps) :
    ∃ l : List (Sp × Int), SlSl w v l ∧ l.length ≤ 9223372036854775807 := by
  obtain ⟨a, len, cap, rfl⟩ := okWide_slice ht hv
  obtain ⟨fuel, hf⟩ := h
  rcases open_slice ht hf with ⟨hn, -⟩ | ⟨a', len', cap', m, n, D, Pl, hcs, hb, hl, hm, hmm, hx, hi⟩
  · simp [Value.cells] at hn; obtain ⟨rfl, rfl, rfl⟩ := hn
    exact ⟨[], ⟨none, 0, rfl, fun h => absurd h (Nat.lt_irrefl 0)⟩, by decide⟩
  · simp [Value.cells] at hcs; obtain ⟨rfl, rfl, rfl⟩ := hcs
    by_cases hz : len = 0
    · subst hz
      exact ⟨[], ⟨_, _, rfl, fun h => absurd h (Nat.lt_irrefl 0)⟩, by decide⟩
    have hlm : len ≤ m := by rw [hmm]; split <;> omega
    have each : ∀ i, i < len → ∃ s : Sp × Int, w.cell? (a'.add (i * 4 + 0)) = some (.int .i64 s.1.x) ∧ w.cell? (a'.add (i * 4 + 1)) = some (.int .i64 s.1.y) ∧ w.cell? (a'.add (i * 4 + 2)) = some (.bool s.1.far) ∧ w.cell? (a'.add (i * 4 + 3)) = some (.int .i64 s.2) := by
      intro i hil
      obtain ⟨cs', hc, ht'⟩ := hi i (by omega)
      rw [hC] at hc
      obtain ⟨_, hcl, hat⟩ := World.cells?_some hc
      obtain ⟨c0, c1, c2, c3, rfl⟩ : ∃ c0 c1 c2 c3, cs' = [c0, c1, c2, c3] := by
        match cs', hcl with
        | [c0, c1, c2, c3], _ => exact ⟨c0, c1, c2, c3, rfl⟩
      obtain ⟨y0, y1, n', hx', _, g0, g1⟩ := trod_struct2 hs ht'
      rw [ho0, hC0] at g0
      rw [ho1, hC1] at g1
      obtain ⟨z0, z1, z2, m', hx'', _, k0, k1, k2⟩ := trod_struct3 hs0 (cs := [c0, c1, c2]) (by simpa using g0)
      obtain ⟨o0, q0⟩ := hone_of hone 0 s0 rfl
      obtain ⟨o1, q1⟩ := hone_of hone 1 s1 rfl
      obtain ⟨o2, q2⟩ := hone_of hone 2 s2 rfl
      have k0' : DataW.trod enc P w base spare held m' s0.type [c0] = some z0 := by simpa [o0, q0] using k0
      have k1' : DataW.trod enc P w base spare held m' s1.type [c1] = some z1 := by simpa [o1, q1] using k1
      have k2' : DataW.trod enc P w base spare held m' s2.type [c2] = some z2 := by simpa [o2, q2] using k2
      have k3' : DataW.trod enc P w base spare held n' f1.type [c3] = some y1 := by simpa using g1
      obtain ⟨a, e0, -, -⟩ := DataW.trod_int i0 k0'
      obtain ⟨b, e1, -, -⟩ := DataW.trod_int i1 k1'
      obtain ⟨f, e2, -⟩ := DataW.trod_bool i2 k2'
      obtain ⟨c, e3, -, -⟩ := DataW.trod_int i3 k3'
      simp at e0 e1 e2 e3
      subst e0 e1 e2 e3
      have h0 := hat (i := 0) (by decide)
      have h1 := hat (i := 1) (by decide)
      have h2 := hat (i := 2) (by decide)
      have h3 := hat (i := 3) (by decide)
      rw [Go.Deep.add_add] at h0 h1 h2 h3
      exact ⟨(⟨a, b, f⟩, c), h0, h1, h2, h3⟩
    obtain ⟨S, hS⟩ := choose_lt each
    obtain ⟨b, off, sp⟩ := a'
    obtain rfl : sp = none := spotless (b := b) (off := off) (by simpa [Addr.add] using (hS 0 (by omega)).1)
    simp only [add_none] at hS
    unfold maxLen at hm
    refine ⟨(List.range len).map S, ⟨_, cap, by simp, fun _ => ⟨b, off, rfl, World.block_lt_of_cell? w _ (hS 0 (by omega)).1, ?_, ?_, ?_, ?_⟩⟩, by simp; omega⟩
    all_goals
      intro i hi
      simp only [List.length_map, List.length_range] at hi
      simp only [List.getElem_map, List.getElem_range]
    · exact (hS i hi).1
    · exact (hS i hi).2.1
    · exact (hS i hi).2.2.1
    · exact (hS i hi).2.2.2
end
end Go.Proofs.YtfnifdmnbccblaaDoor
namespace Go.Proofs.YtfnifdmnbccblaaDoor
open Go.RowKit
set_option maxRecDepth 100000
set_option linter.unusedVariables false
set_option linter.unusedSimpArgs false
/-- The places of those that are not right. -/
def wrongs (es : List Int) : Nat → List Int
  | 0 => []
  | n + 1 => if (sq (es.getD n 0)).far then wrongs es n else wrongs es n ++ [(n : Int)]
theorem wrongs_len (es : List Int) : ∀ n, (wrongs es n).length ≤ n
  | 0 => Nat.le_refl _
  | n + 1 => by
    have := wrongs_len es n
    unfold wrongs
    split <;> simp <;> omega
set_option maxHeartbeats 8000000 in
theorem bwrong_e (L : List It) (v1 v2 v3 : Value) (w : World) (hF : FarAt w) (hl : L.length ≤ 12) (hok : ∀ i (h : i < L.length), It.ok L[i])
    (h1 : SpSl w v1 (L.map (·.key))) (h2 : StrSl w v2 (L.map (·.t))) (h3 : SlSl w v3 (L.map fun x => (x.R, x.S))) :
    Calls Tryd.prog 34 #[v1, v2, v3] w fun e w' => ∃ v', e = .returned (.tuple #[v', .nilIface]) ∧ IntSl w' v' (wrongs (L.map (·.e)) L.length) ∧ Below w.heap.size w w' := by
  obtain ⟨a1, c1, rfl, h1⟩ := h1
  obtain ⟨a2, c2, rfl, h2⟩ := h2
  obtain ⟨a3, c3, rfl, h3⟩ := h3
  simp only [List.length_map] at h1 h2 h3 ⊢
  have hE := Lib.hid (fun n (h : n < L.length) => (show (L.map (·.e)).getD n 0 = L[n].e by simp [h]))
  have hwl := Lib.hid (wrongs_len (L.map (·.e)))
  replace hok := Lib.hid hok
  replace h1 := Lib.hid h1
  replace h2 := Lib.hid h2
  replace h3 := Lib.hid h3
  replace hF := Lib.hid hF
  go_enter Tryd.func34, Tryd.ntmps34
  go_wp2_with fail
  refine (bready_e L.length a1 a2 a3 c1 c2 c3 w hl).mono ?_; rintro e w1 ⟨rfl, hb1⟩
  have hB1 := Lib.hid hb1
  have hF1 := Lib.hid (hF.out.below hb1)
  have i1 := Lib.hid (fun hp => by obtain ⟨b, off, e, hs⟩ := h1.out hp; exact (⟨b, off, e, hs.below hb1⟩ : ∃ b off, a1 = some ⟨b, off, none⟩ ∧ SpotsAt w1 b off (L.map (·.key))))
  have i2 := Lib.hid (fun hp => by obtain ⟨b, off, e, hs⟩ := h2.out hp; exact (⟨b, off, e, hs.below hb1⟩ : ∃ b off, a2 = some ⟨b, off, none⟩ ∧ StrsAt w1 b off (L.map (·.t))))
  have i3 := Lib.hid (fun hp => by obtain ⟨b, off, e, hs⟩ := h3.out hp; exact (⟨b, off, e, hs.below hb1⟩ : ∃ b off, a3 = some ⟨b, off, none⟩ ∧ SlsAt w1 b off (L.map fun x => (x.R, x.S))))
  clear h1 h2 h3 hF hb1
  go_wp2
  go_loopw [9, 23] (fun o i wr => ∃ (n : Nat) (u : Value), n ≤ L.length ∧ i = .int .i64 n ∧ u = o ∧ wr.ownsRow w1.heap.size 3 1 u (wrongs (L.map (·.e)) n).length ((wrongs (L.map (·.e)) n).map (Value.int .i64)) ∧ Below w1.heap.size w1 wr) (fun _ i _ => L.length - (intOf i).toNat)
  case atStart => exact ⟨0, _, Nat.zero_le _, rfl, rfl, World.ownsRow_nil _ _ _ _, Below.refl _ _⟩
  case round =>
    obtain ⟨n, u, hn, rfl, rfl, hown, hb⟩ := hrel
    replace hown := Lib.hid hown
    replace hb := Lib.hid hb
    by_cases hlt : n < L.length
    · obtain ⟨b1, o1, rfl, l1⟩ := i1.out (by simpa using (by omega : 0 < L.length))
      obtain ⟨b2, o2, rfl, l2⟩ := i2.out (by simpa using (by omega : 0 < L.length))
      obtain ⟨b3, o3, rfl, l3⟩ := i3.out (by simpa using (by omega : 0 < L.length))
      have hd := hE.out n hlt
      have hok1 := hok.out n hlt
      have hw1 := hwl.out n
      have l1 := Lib.hid l1
      have l2 := Lib.hid l2
      have l3 := Lib.hid l3
      have hA : Hid (∀ w', Below w1.heap.size w1 w' → w'.cell? ⟨b1, o1 + n * 3, none⟩ = some (.int .i64 L[n].key.x) ∧ w'.cell? ⟨b1, o1 + n * 3 + 1, none⟩ = some (.int .i64 L[n].key.y) ∧ w'.cell? ⟨b1, o1 + n * 3 + 2, none⟩ = some (.bool L[n].key.far) ∧
          w'.cell? ⟨b2, o2 + n, none⟩ = some (.string L[n].t) ∧ w'.cell? ⟨b3, o3 + n * 4, none⟩ = some (.int .i64 L[n].R.x) ∧ w'.cell? ⟨b3, o3 + n * 4 + 1, none⟩ = some (.int .i64 L[n].R.y) ∧ w'.cell? ⟨b3, o3 + n * 4 + 2, none⟩ = some (.bool L[n].R.far) ∧ w'.cell? ⟨b3, o3 + n * 4 + 3, none⟩ = some (.int .i64 L[n].S) ∧
          b1 < w'.heap.size ∧ b2 < w'.heap.size ∧ b3 < w'.heap.size) := Lib.hid (fun w' hb => by
        have k1 := l1.out.below hb
        have k2 := l2.out.below hb
        have k3 := l3.out.below hb
        have e1 := k1.cx n (by simpa using hlt)
        have e2 := k1.cy n (by simpa using hlt)
        have e3 := k1.cf n (by simpa using hlt)
        have e4 := k2.c n (by simpa using hlt)
        have e5 := k3.cx n (by simpa using hlt)
        have e6 := k3.cy n (by simpa using hlt)
        have e7 := k3.cf n (by simpa using hlt)
        have e8 := k3.cs n (by simpa using hlt)
        simp only [List.getElem_map] at e1 e2 e3 e4 e5 e6 e7 e8
        exact ⟨e1, e2, e3, e4, e5, e6, e7, e8, k1.lt, k2.lt, k3.lt⟩)
      clear l1 l2 l3
      generalize L[n] = I at *
      obtain ⟨A, t, R, S, f⟩ := I
      simp only at hA hd
      replace hok1 := Lib.hid hok1
      replace hd := Lib.hid hd
      obtain ⟨e1, e2, e3, e4, e5, e6, e7, e8, g1, g2, g3⟩ := hA.out wr hb.out
      have hFr := Lib.hid (hF1.out.below hb.out)
      clear hA
      cases hf : (sq f).far with
      | true =>
        have hs : Hid (wrongs (L.map (·.e)) (n + 1) = wrongs (L.map (·.e)) n) := Lib.hid (by show (if (sq ((L.map (·.e)).getD n 0)).far then _ else _) = _; rw [hd.out, if_pos hf])
        replace hf := Lib.hid hf
        go_wp2_with fail
        refine wp_region_grow Tryd.mixed (by kernel_rfl) ?_
        repeat (quiet_step ((go_at_call 97; exact grow_of (vfy_e A R t S f true _ (hFr.out.below (below_seq (below_alloc _ _) (Grew.h _))) hok1 hf))))
        refine wpQuiet_nil ?_
        intro _ hw'
        obtain ⟨x, rfl⟩ := hw'
        have hx := Lib.hid (below_seq (below_alloc _ _) x.h)
        have ow2 := Lib.hid (own_below hown.out hx.out)
        have hby := Lib.hid (below_seq hb.out hx.out)
        clear hown hx hb e1 e2 e3 e4 e5 e6 e7 e8
        go_wp2
        go_roundw
        case rel => exact ⟨n + 1, _, by omega, by go_num, rfl, by rw [hs.out]; exact ow2.out, hby.out⟩
        case measure => simp [intOf]; omega
      | false =>
        have hs : Hid (wrongs (L.map (·.e)) (n + 1) = wrongs (L.map (·.e)) n ++ [(n : Int)]) := Lib.hid (by show (if (sq ((L.map (·.e)).getD n 0)).far then _ else _) = _; rw [hd.out, if_neg (by rw [hf]; decide)])
        have hs2 : Hid ((wrongs (L.map (·.e)) (n + 1)).length = (wrongs (L.map (·.e)) n).length + 1) := Lib.hid (by rw [hs.out]; simp)
        replace hf := Lib.hid hf
        generalize wrongs (L.map (·.e)) n = W at *
        go_wp2_with fail
        refine wp_region_grow Tryd.mixed (by kernel_rfl) ?_
        repeat (quiet_step ((go_at_call 97; exact grow_of (vfy_e A R t S f false _ (hFr.out.below (below_seq (below_alloc _ _) (Grew.h _))) hok1 hf))))
        refine wpQuiet_nil ?_
        intro _ hw'
        obtain ⟨x, rfl⟩ := hw'
        have hx := Lib.hid (below_seq (below_alloc _ _) x.h)
        have ow2 := Lib.hid (own_below hown.out hx.out)
        have hby := Lib.hid (below_seq hb.out hx.out)
        have zy := hby.out.size
        clear hown hx hb e1 e2 e3 e4 e5 e6 e7 e8
        generalize hyw : x.w = y at *
        clear hyw x
        go_wp2_with (first | (at_builtin; refine wpl_append_int rfl _ _ _ rfl (by kernel_rfl) w1.heap.size _ W W.length rfl (ow2.out.alloc _) rfl (by omega) (by simp only [World.size_alloc]; omega) y.heap.size n rfl (by go_simp) ?_; intro v' w3 hown' hgrow hbel hloc; replace hown' := Lib.hid hown'; replace hbel := Lib.hid (hbel w1 (balloc hby.out _)); clear hgrow hloc ow2 hby) | fail)
        go_wp2
        go_roundw
        case rel => exact ⟨n + 1, _, by omega, by go_num, rfl, by rw [hs2.out, hs.out]; exact hown'.out, hbel.out⟩
        case measure => simp [intOf]; omega
    · obtain rfl : n = L.length := by omega
      have hI : Hid (IntSl wr u (wrongs (L.map (·.e)) L.length)) := Lib.hid (own_ints hown.out rfl)
      have hBr := Lib.hid (below_seq hB1.out hb.out)
      go_wp2
      go_ret2
      exact ⟨_, rfl, hI.out, hBr.out⟩
end Go.Proofs.YtfnifdmnbccblaaDoor
namespace Go.Proofs.YtfnifdmnbccblaaDoor
open Go.RowKit
set_option maxRecDepth 100000
set_option linter.unusedVariables false
set_option linter.unusedSimpArgs false
theorem mul_q {c x : Int} (c0 : 0 ≤ c) (c1 : c < 1013) (x0 : 1 ≤ x) (x1 : x < 1013) : 0 ≤ c * x ∧ c * x ≤ 1024144 := by
  refine ⟨Int.mul_nonneg c0 (by omega), ?_⟩
  have : c * x ≤ 1012 * 1012 := Int.mul_le_mul (by omega) (by omega) (by omega) (by decide)
  omega
theorem tmod_q (n : Int) : -1012 ≤ n.tmod 1013 ∧ n.tmod 1013 ≤ 1012 := by
  have h1 := Int.tmod_lt_of_pos n (b := 1013) (by decide)
  have h2 := Int.lt_tmod_of_pos n (b := 1013) (by decide)
  omega
theorem tmod_qe (n : Int) : n.tmod 1013 % 1013 = n % 1013 := by
  have := Int.mul_tdiv_add_tmod n 1013; omega
set_option maxHeartbeats 1000000 in
theorem refMod_q (n : Int) (w : World) (n0 : -9223372036854775808 ≤ n) (n1 : n ≤ 9223372036854775807) : Calls Tryd.prog 42 #[.int .i64 n, .int .i64 1013] w fun e w' => e = .returned (.int .i64 (n % 1013)) ∧ w = w' := by
  have hb := tmod_q n
  obtain ⟨hb1, hb2⟩ := hb
  have he := Lib.hid (tmod_qe n)
  by_cases h : n.tmod 1013 < 0
  · go_enter Tryd.func42, Tryd.ntmps42
    go_wp2
    go_ret
    exact ⟨ret_int (by have := he.out; omega), rfl⟩
  · go_enter Tryd.func42, Tryd.ntmps42
    go_wp2
    go_ret
    exact ⟨ret_int (by have := he.out; omega), rfl⟩
end Go.Proofs.YtfnifdmnbccblaaDoor
namespace Go.Proofs.YtfnifdmnbccblaaDoor
open Go.RowKit
set_option maxRecDepth 100000
set_option linter.unusedVariables false
set_option linter.unusedSimpArgs false
theorem all_v (l : List Sp) (b off cap : Nat) (w : World) (hF : FarAt w) (hl : l.length ≤ 1000000) (hs : SpotsAt w b off l) (k : Nat) (hk : k < l.length) (n : Int) (h : Hid (∀ i (h : i < l.length), i < k → Ok l[i])) (hn : Hid (sCheck l[k] = n)) (h0 : n ≠ 0) :
    Calls Tryd.prog 101 #[.slice (some ⟨b, off, none⟩) l.length cap] w fun e w' => e = .returned (.iface 118 (.int .i64 n)) ∧ Below w.heap.size w w' := by
  have := all_bad l b off cap w hF hl hs k hk h.out (by rw [hn.out]; exact h0); rw [hn.out] at this; exact this
theorem none_ok (l : List Sp) : Hid (∀ i (h : i < l.length), i < 0 → Ok l[i]) := fun i _ hi => absurd hi (Nat.not_lt_zero _)
theorem one_ok (a : Sp) (l : List Sp) (ha : Ok a) : Hid (∀ i (h : i < (a :: l).length), i < 1 → Ok (a :: l)[i]) := fun i hi hlt => by
  obtain rfl : i = 0 := by omega
  exact ha
theorem two_ok (a b : Sp) (l : List Sp) (ha : Ok a) (hb : Ok b) : Hid (∀ i (h : i < (a :: b :: l).length), i < 2 → Ok (a :: b :: l)[i]) := fun i hi hlt => by
  have : i = 0 ∨ i = 1 := by omega
  rcases this with rfl | rfl <;> assumption
set_option maxHeartbeats 1000000 in
theorem sealCheck_n4 (key R : Sp) (S : Int) (t : ByteArray) (w : World) (h : 60 < t.size) (hz : t.size ≤ 140737488351232) :
    Calls Tryd.prog 95 #[spV key, .string t, slV R S] w fun e w' => e = .returned (.iface 118 (.int .i64 4)) ∧ Below w.heap.size w w' := by
  go_enter Tryd.func95, Tryd.ntmps95
  go_wp2_with fail
  refine (text_n t _ h hz).mono ?_; rintro e w' ⟨rfl, rfl⟩
  go_wp2
  go_ret
  exact ⟨rfl, (by repeat (first | exact Below.refl _ _ | refine balloc ?_ _ | refine Below.drew ?_ | refine below_drewN ?_ _ | refine below_set ?_ (by first | omega | (dsimp only; omega)) _))⟩
set_option maxHeartbeats 1000000 in
theorem sealCheck_nk (key R : Sp) (S n : Int) (t : ByteArray) (w : World) (hF : FarAt w) (hz : t.size ≤ 60) (hn : Hid (sCheck key = n)) (h0 : n ≠ 0) :
    Calls Tryd.prog 95 #[spV key, .string t, slV R S] w fun e w' => e = .returned (.iface 118 (.int .i64 n)) ∧ Below w.heap.size w w' := by
  go_enter Tryd.func95, Tryd.ntmps95
  go_wp2_with fail
  refine (text_y t _ hz).mono ?_; rintro e w' ⟨rfl, rfl⟩
  go_wp2_with fail
  refine (all_v [key, R] _ 0 2 _ (hF.below (by repeat (first | exact Below.refl _ _ | refine balloc ?_ _ | refine Below.drew ?_ | refine below_drewN ?_ _ | refine below_set ?_ (by first | omega | (dsimp only; omega)) _))) (by simp) (spots_two key R _ _ (by simp) (by go_simp) (by go_simp) (by go_simp) (by go_simp) (by go_simp) (by go_simp)) 0 (by simp) n (none_ok _) hn h0).mono ?_; rintro e w1 ⟨rfl, hb⟩
  obtain ⟨hc1, hf1⟩ := bcell hb
  have z1 := hb.size
  try simp only [World.size_alloc, World.size_setCell, World.size_drew] at z1
  have s1_0 : w.heap.size < w1.heap.size := by omega
  have s1_1 : w.heap.size + 1 < w1.heap.size := by omega
  have s1_2 : w.heap.size + 1 + 1 < w1.heap.size := by omega
  have hB1 : Below w.heap.size w w1 := below_seq (by repeat (first | exact Below.refl _ _ | refine balloc ?_ _ | refine Below.drew ?_ | refine below_drewN ?_ _ | refine below_set ?_ (by first | omega | (dsimp only; omega)) _)) hb
  clear hb
  go_wp2
  go_ret
  exact ⟨rfl, (by repeat (first | exact hB1 | exact Below.refl _ _ | refine balloc ?_ _ | refine Below.drew ?_ | refine below_drewN ?_ _ | refine below_set ?_ (by first | omega | (dsimp only; omega)) _))⟩
set_option maxHeartbeats 1000000 in
theorem sealCheck_nr (key R : Sp) (S n : Int) (t : ByteArray) (w : World) (hF : FarAt w) (hz : t.size ≤ 60) (ok : Ok key) (hn : Hid (sCheck R = n)) (h0 : n ≠ 0) :
    Calls Tryd.prog 95 #[spV key, .string t, slV R S] w fun e w' => e = .returned (.iface 118 (.int .i64 n)) ∧ Below w.heap.size w w' := by
  go_enter Tryd.func95, Tryd.ntmps95
  go_wp2_with fail
  refine (text_y t _ hz).mono ?_; rintro e w' ⟨rfl, rfl⟩
  go_wp2_with fail
  refine (all_v [key, R] _ 0 2 _ (hF.below (by repeat (first | exact Below.refl _ _ | refine balloc ?_ _ | refine Below.drew ?_ | refine below_drewN ?_ _ | refine below_set ?_ (by first | omega | (dsimp only; omega)) _))) (by simp) (spots_two key R _ _ (by simp) (by go_simp) (by go_simp) (by go_simp) (by go_simp) (by go_simp) (by go_simp)) 1 (by simp) n (one_ok _ _ ok) hn h0).mono ?_; rintro e w1 ⟨rfl, hb⟩
  obtain ⟨hc1, hf1⟩ := bcell hb
  have z1 := hb.size
  try simp only [World.size_alloc, World.size_setCell, World.size_drew] at z1
  have s1_0 : w.heap.size < w1.heap.size := by omega
  have s1_1 : w.heap.size + 1 < w1.heap.size := by omega
  have s1_2 : w.heap.size + 1 + 1 < w1.heap.size := by omega
  have hB1 : Below w.heap.size w w1 := below_seq (by repeat (first | exact Below.refl _ _ | refine balloc ?_ _ | refine Below.drew ?_ | refine below_drewN ?_ _ | refine below_set ?_ (by first | omega | (dsimp only; omega)) _)) hb
  clear hb
  go_wp2
  go_ret
  exact ⟨rfl, (by repeat (first | exact hB1 | exact Below.refl _ _ | refine balloc ?_ _ | refine Below.drew ?_ | refine below_drewN ?_ _ | refine below_set ?_ (by first | omega | (dsimp only; omega)) _))⟩
set_option maxHeartbeats 1000000 in
theorem sealCheck_ns (key R : Sp) (S : Int) (t : ByteArray) (w : World) (hF : FarAt w) (hk : Ok key) (hR : Ok R) (hz : t.size ≤ 60) (h : ¬ (0 ≤ S ∧ S < 1013)) :
    Calls Tryd.prog 95 #[spV key, .string t, slV R S] w fun e w' => e = .returned (.iface 118 (.int .i64 1)) ∧ Below w.heap.size w w' := by
  go_enter Tryd.func95, Tryd.ntmps95
  go_wp2_with fail
  refine (text_y t _ hz).mono ?_; rintro e w' ⟨rfl, rfl⟩
  go_wp2_with fail
  refine (all_ok [key, R] _ 0 2 _ (hF.below (by repeat (first | exact Below.refl _ _ | refine balloc ?_ _ | refine Below.drew ?_ | refine below_drewN ?_ _ | refine below_set ?_ (by first | omega | (dsimp only; omega)) _))) (by simp) (spots_two key R _ _ (by simp) (by go_simp) (by go_simp) (by go_simp) (by go_simp) (by go_simp) (by go_simp)) (ok_two hk hR)).mono ?_; rintro e w1 ⟨rfl, hb⟩
  obtain ⟨hc1, hf1⟩ := bcell hb
  have z1 := hb.size
  try simp only [World.size_alloc, World.size_setCell, World.size_drew] at z1
  have s1_0 : w.heap.size < w1.heap.size := by omega
  have s1_1 : w.heap.size + 1 < w1.heap.size := by omega
  have s1_2 : w.heap.size + 1 + 1 < w1.heap.size := by omega
  have hB1 : Below w.heap.size w w1 := below_seq (by repeat (first | exact Below.refl _ _ | refine balloc ?_ _ | refine Below.drew ?_ | refine below_drewN ?_ _ | refine below_set ?_ (by first | omega | (dsimp only; omega)) _)) hb
  clear hb
  go_wp2_with fail
  refine (rest_n S _ h).mono ?_; rintro e w' ⟨rfl, rfl⟩
  go_wp2
  go_ret
  exact ⟨rfl, (by repeat (first | exact hB1 | exact Below.refl _ _ | refine balloc ?_ _ | refine Below.drew ?_ | refine below_drewN ?_ _ | refine below_set ?_ (by first | omega | (dsimp only; omega)) _))⟩
/-- The fault of what is to be verified. -/
def sealF (key R : Sp) (S : Int) (z : Nat) : Int := if 60 < z then 4 else if sCheck key ≠ 0 then sCheck key else if sCheck R ≠ 0 then sCheck R else if 0 ≤ S ∧ S < 1013 then 0 else 1
theorem sealF_zero {key R : Sp} {S : Int} {z : Nat} (h : sealF key R S z = 0) : z ≤ 60 ∧ Ok key ∧ Ok R ∧ 0 ≤ S ∧ S < 1013 := by
  unfold sealF at h
  split at h
  · exact absurd h (by decide)
  · split at h
    · contradiction
    · split at h
      · contradiction
      · split at h
        · rename_i h1 h2 h3 h4
          exact ⟨by omega, (ok_iff _).mp (by simpa using h2), (ok_iff _).mp (by simpa using h3), h4.1, h4.2⟩
        · exact absurd h (by decide)
/-- Whatever is wrong with it. -/
theorem sealCheck_t (key R : Sp) (S n : Int) (t : ByteArray) (w : World) (hF : FarAt w) (hz : t.size ≤ 140737488351232) (hn : Hid (sealF key R S t.size = n)) (h0 : n ≠ 0) :
    Calls Tryd.prog 95 #[spV key, .string t, slV R S] w fun e w' => e = .returned (.iface 118 (.int .i64 n)) ∧ Below w.heap.size w w' := by
  have hn := hn.out
  unfold sealF at hn
  split at hn
  · subst hn; exact sealCheck_n4 key R S t w (by assumption) hz
  · split at hn
    · exact sealCheck_nk key R S n t w hF (by omega) hn h0
    · have ok : Ok key := (ok_iff _).mp (by rename_i h; simpa using h)
      split at hn
      · exact sealCheck_nr key R S n t w hF (by omega) ok hn h0
      · have oR : Ok R := (ok_iff _).mp (by rename_i h; simpa using h)
        split at hn
        · exact absurd hn.symm h0
        · subst hn; exact sealCheck_ns key R S t w hF ok oR (by omega) (by assumption)
set_option maxHeartbeats 1000000 in
theorem sealVerify_t (key R : Sp) (S n : Int) (t : ByteArray) (w : World) (hF : FarAt w) (hz : t.size ≤ 140737488351232) (hn : Hid (sealF key R S t.size = n)) (h0 : n ≠ 0) :
    Calls Tryd.prog 97 #[spV key, .string t, slV R S] w fun e w' => e = .returned (.tuple #[.bool false, .iface 118 (.int .i64 n)]) ∧ Below w.heap.size w w' := by
  go_enter Tryd.func97, Tryd.ntmps97
  go_wp2_with fail
  refine (sealCheck_t key R S n t _ (hF.below (by repeat (first | exact Below.refl _ _ | refine balloc ?_ _ | refine Below.drew ?_ | refine below_drewN ?_ _ | refine below_set ?_ (by first | omega | (dsimp only; omega)) _))) hz hn h0).mono ?_; rintro e w1 ⟨rfl, hb⟩
  obtain ⟨hc1, hf1⟩ := bcell hb
  have z1 := hb.size
  try simp only [World.size_alloc, World.size_setCell, World.size_drew] at z1
  have s1_0 : w.heap.size < w1.heap.size := by omega
  have s1_1 : w.heap.size + 1 < w1.heap.size := by omega
  have hB1 : Below w.heap.size w w1 := below_seq (by repeat (first | exact Below.refl _ _ | refine balloc ?_ _ | refine Below.drew ?_ | refine below_drewN ?_ _ | refine below_set ?_ (by first | omega | (dsimp only; omega)) _)) hb
  clear hb
  go_wp2
  go_ret2
  exact ⟨rfl, (by repeat (first | exact hB1 | exact Below.refl _ _ | refine balloc ?_ _ | refine Below.drew ?_ | refine below_drewN ?_ _ | refine below_set ?_ (by first | omega | (dsimp only; omega)) _))⟩
end Go.Proofs.YtfnifdmnbccblaaDoor
namespace Go.Proofs.YtfnifdmnbccblaaDoor
open Go.RowKit
set_option maxRecDepth 100000
set_option linter.unusedVariables false
set_option linter.unusedSimpArgs false
/-- What is wrong with how many there are. -/
def manyF (n1 n2 n3 : Nat) : Int := if 12 < n1 then 4 else if n1 = n2 ∧ n1 = n3 then 0 else 3
theorem bready_n (n1 n2 n3 : Nat) (a1 a2 a3 : Option Addr) (c1 c2 c3 : Nat) (E : Int) (w : World) (m1 : n1 ≤ 9223372036854775807) (m2 : n2 ≤ 9223372036854775807) (m3 : n3 ≤ 9223372036854775807) (hE : manyF n1 n2 n3 = E) (h0 : E ≠ 0) :
    Calls Tryd.prog 94 #[.slice a1 n1 c1, .slice a2 n2 c2, .slice a3 n3 c3] w fun e w' => e = .returned (.iface 118 (.int .i64 E)) ∧ Below w.heap.size w w' := by
  unfold manyF at hE
  by_cases h12 : 12 < n1
  · rw [if_pos h12] at hE
    subst hE
    have hd : decide ((12 : Int) < (n1 : Int)) = true := by rw [decide_eq_true_iff]; omega
    go_enter Tryd.func94, Tryd.ntmps94
    go_wp2
    go_ret
    exact ⟨rfl, Below.refl _ _⟩
  · rw [if_neg h12] at hE
    have hd : decide ((12 : Int) < (n1 : Int)) = false := by rw [decide_eq_false_iff_not]; omega
    by_cases h2 : n1 = n2
    · by_cases h3 : n1 = n3
      · rw [if_pos ⟨h2, h3⟩] at hE; exact absurd hE.symm h0
      · rw [if_neg (fun h => h3 h.2)] at hE
        subst hE
        have g2 : ((n1 : Int) != (n2 : Int)) = false := by rw [bne_eq_false_iff_eq]; omega
        have g3 : ((n1 : Int) != (n3 : Int)) = true := by rw [bne_iff_ne]; omega
        clear h2 h3
        go_enter Tryd.func94, Tryd.ntmps94
        go_wp2
        go_ret
        exact ⟨rfl, Below.refl _ _⟩
    · rw [if_neg (fun h => h2 h.1)] at hE
      subst hE
      have g2 : ((n1 : Int) != (n2 : Int)) = true := by rw [bne_iff_ne]; omega
      clear h2
      go_enter Tryd.func94, Tryd.ntmps94
      go_wp2
      go_ret
      exact ⟨rfl, Below.refl _ _⟩
theorem rmany_e (n1 n2 n3 : Nat) (a1 a2 a3 : Option Addr) (c1 c2 c3 : Nat) (E : Int) (w : World) (m1 : n1 ≤ 9223372036854775807) (m2 : n2 ≤ 9223372036854775807) (m3 : n3 ≤ 9223372036854775807) (hE : manyF n1 n2 n3 = E) :
    Calls Tryd.prog 25 #[.slice a1 n1 c1, .slice a2 n2 c2, .slice a3 n3 c3] w fun e w' => e = .returned (.int .i64 E) ∧ Below w.heap.size w w' := by
  unfold manyF at hE
  by_cases h12 : 12 < n1
  · rw [if_pos h12] at hE
    subst hE
    have hd : decide ((12 : Int) < (n1 : Int)) = true := by rw [decide_eq_true_iff]; omega
    go_enter Tryd.func25, Tryd.ntmps25
    go_wp2
    go_ret
    exact ⟨rfl, (by repeat (first | exact Below.refl _ _ | refine balloc ?_ _ | refine Below.drew ?_ | refine below_drewN ?_ _ | refine below_set ?_ (by first | omega | (dsimp only; omega)) _))⟩
  · rw [if_neg h12] at hE
    have hd : decide ((12 : Int) < (n1 : Int)) = false := by rw [decide_eq_false_iff_not]; omega
    by_cases h2 : n1 = n2
    · have g2 : ((n2 : Int) != (n1 : Int)) = false := by rw [bne_eq_false_iff_eq]; omega
      by_cases h3 : n1 = n3
      · rw [if_pos ⟨h2, h3⟩] at hE
        subst hE
        have g3 : ((n3 : Int) != (n1 : Int)) = false := by rw [bne_eq_false_iff_eq]; omega
        clear h2 h3
        go_enter Tryd.func25, Tryd.ntmps25
        go_wp2
        go_ret
        exact ⟨rfl, (by repeat (first | exact Below.refl _ _ | refine balloc ?_ _ | refine Below.drew ?_ | refine below_drewN ?_ _ | refine below_set ?_ (by first | omega | (dsimp only; omega)) _))⟩
      · rw [if_neg (fun h => h3 h.2)] at hE
        subst hE
        have g3 : ((n3 : Int) != (n1 : Int)) = true := by rw [bne_iff_ne]; omega
        clear h2 h3
        go_enter Tryd.func25, Tryd.ntmps25
        go_wp2
        go_ret
        exact ⟨rfl, (by repeat (first | exact Below.refl _ _ | refine balloc ?_ _ | refine Below.drew ?_ | refine below_drewN ?_ _ | refine below_set ?_ (by first | omega | (dsimp only; omega)) _))⟩
    · rw [if_neg (fun h => h2 h.1)] at hE
      subst hE
      have g2 : ((n2 : Int) != (n1 : Int)) = true := by rw [bne_iff_ne]; omega
      clear h2
      go_enter Tryd.func25, Tryd.ntmps25
      go_wp2
      go_ret
      exact ⟨rfl, (by repeat (first | exact Below.refl _ _ | refine balloc ?_ _ | refine Below.drew ?_ | refine below_drewN ?_ _ | refine below_set ?_ (by first | omega | (dsimp only; omega)) _))⟩
theorem bverify_nr (n1 n2 n3 : Nat) (a1 a2 a3 : Option Addr) (c1 c2 c3 : Nat) (v4 : Value) (E : Int) (w : World) (m1 : n1 ≤ 9223372036854775807) (m2 : n2 ≤ 9223372036854775807) (m3 : n3 ≤ 9223372036854775807) (hE : manyF n1 n2 n3 = E) (h0 : E ≠ 0) :
    Calls Tryd.prog 32 #[.slice a1 n1 c1, .slice a2 n2 c2, .slice a3 n3 c3, v4] w fun e w' => e = .returned (.tuple #[.bool false, .iface 118 (.int .i64 E)]) ∧ Below w.heap.size w w' := by
  have hR := Lib.hid (fun w => bready_n n1 n2 n3 a1 a2 a3 c1 c2 c3 E w m1 m2 m3 hE h0)
  clear hE
  go_enter Tryd.func32, Tryd.ntmps32
  go_wp2_with fail
  refine (hR.out _).mono ?_; rintro e w1 ⟨rfl, hb⟩
  obtain ⟨hc1, hf1⟩ := bcell hb
  have z1 := hb.size
  try simp only [World.size_alloc, World.size_setCell, World.size_drew] at z1
  have hB1 : Below w.heap.size w w1 := below_seq (by repeat (first | exact Below.refl _ _ | refine balloc ?_ _ | refine Below.drew ?_ | refine below_drewN ?_ _ | refine below_set ?_ (by first | omega | (dsimp only; omega)) _)) hb
  clear hb
  go_wp2
  go_ret2
  exact ⟨rfl, (by repeat (first | exact hB1 | exact Below.refl _ _ | refine balloc ?_ _ | refine Below.drew ?_ | refine below_drewN ?_ _ | refine below_set ?_ (by first | omega | (dsimp only; omega)) _))⟩
theorem bwrong_nr (n1 n2 n3 : Nat) (a1 a2 a3 : Option Addr) (c1 c2 c3 : Nat) (E : Int) (w : World) (m1 : n1 ≤ 9223372036854775807) (m2 : n2 ≤ 9223372036854775807) (m3 : n3 ≤ 9223372036854775807) (hE : manyF n1 n2 n3 = E) (h0 : E ≠ 0) :
    Calls Tryd.prog 34 #[.slice a1 n1 c1, .slice a2 n2 c2, .slice a3 n3 c3] w fun e w' => e = .returned (.tuple #[.slice none 0 0, .iface 118 (.int .i64 E)]) ∧ Below w.heap.size w w' := by
  have hR := Lib.hid (fun w => bready_n n1 n2 n3 a1 a2 a3 c1 c2 c3 E w m1 m2 m3 hE h0)
  clear hE
  go_enter Tryd.func34, Tryd.ntmps34
  go_wp2_with fail
  refine (hR.out _).mono ?_; rintro e w1 ⟨rfl, hb⟩
  obtain ⟨hc1, hf1⟩ := bcell hb
  have z1 := hb.size
  try simp only [World.size_alloc, World.size_setCell, World.size_drew] at z1
  have hB1 : Below w.heap.size w w1 := below_seq (by repeat (first | exact Below.refl _ _ | refine balloc ?_ _ | refine Below.drew ?_ | refine below_drewN ?_ _ | refine below_set ?_ (by first | omega | (dsimp only; omega)) _)) hb
  clear hb
  go_wp2
  go_ret2
  exact ⟨rfl, (by repeat (first | exact hB1 | exact Below.refl _ _ | refine balloc ?_ _ | refine Below.drew ?_ | refine below_drewN ?_ _ | refine below_set ?_ (by first | omega | (dsimp only; omega)) _))⟩
theorem bverify_nw (n m : Nat) (a1 a2 a3 a4 : Option Addr) (c1 c2 c3 c4 : Nat) (w : World) (h : n ≤ 12) (m1 : m ≤ 9223372036854775807) (hm : m ≠ n) :
    Calls Tryd.prog 32 #[.slice a1 n c1, .slice a2 n c2, .slice a3 n c3, .slice a4 m c4] w fun e w' => e = .returned (.tuple #[.bool false, .iface 118 (.int .i64 3)]) ∧ Below w.heap.size w w' := by
  have hR := Lib.hid (fun w => bready_e n a1 a2 a3 c1 c2 c3 w h)
  have g2 : ((m : Int) != (n : Int)) = true := by rw [bne_iff_ne]; omega
  clear hm
  go_enter Tryd.func32, Tryd.ntmps32
  go_wp2_with fail
  refine (hR.out _).mono ?_; rintro e w1 ⟨rfl, hb⟩
  obtain ⟨hc1, hf1⟩ := bcell hb
  have z1 := hb.size
  try simp only [World.size_alloc, World.size_setCell, World.size_drew] at z1
  have hB1 : Below w.heap.size w w1 := below_seq (by repeat (first | exact Below.refl _ _ | refine balloc ?_ _ | refine Below.drew ?_ | refine below_drewN ?_ _ | refine below_set ?_ (by first | omega | (dsimp only; omega)) _)) hb
  clear hb
  go_wp2
  go_ret2
  exact ⟨rfl, (by repeat (first | exact hB1 | exact Below.refl _ _ | refine balloc ?_ _ | refine Below.drew ?_ | refine below_drewN ?_ _ | refine below_set ?_ (by first | omega | (dsimp only; omega)) _))⟩
set_option maxHeartbeats 8000000 in
theorem bverify_nb (L : List It) (ws : List Int) (v1 v2 v3 v4 : Value) (E : Int) (k : Nat) (w : World) (hF : FarAt w) (hl : L.length ≤ 12) (hw : ws.length = L.length) (hk : k < L.length) (hok : ∀ i (h : i < L.length), i < k → It.ok L[i]) (hwo : ∀ i (h : i < ws.length), i < k → 1 ≤ ws[i] ∧ ws[i] < 1013) (hbad : ∀ (h : k < L.length) (h' : k < ws.length), (sealF L[k].key L[k].R L[k].S L[k].t.size = E ∧ E ≠ 0 ∧ L[k].t.size ≤ 140737488351232) ∨ (It.ok L[k] ∧ ¬ (1 ≤ ws[k] ∧ ws[k] < 1013) ∧ E = 1))
    (h1 : SpSl w v1 (L.map (·.key))) (h2 : StrSl w v2 (L.map (·.t))) (h3 : SlSl w v3 (L.map fun x => (x.R, x.S))) (h4 : IntSl w v4 ws) :
    Calls Tryd.prog 32 #[v1, v2, v3, v4] w fun e w' => e = .returned (.tuple #[.bool false, .iface 118 (.int .i64 E)]) ∧ Below w.heap.size w w' := by
  obtain ⟨a1, c1, rfl, h1⟩ := h1
  obtain ⟨a2, c2, rfl, h2⟩ := h2
  obtain ⟨a3, c3, rfl, h3⟩ := h3
  obtain ⟨a4, c4, rfl, h4⟩ := h4
  rw [hw]
  simp only [List.length_map] at h1 h2 h3 ⊢
  have hE := Lib.hid (fun n (h : n < L.length) => dot_snoc (L.map (·.e)) ws n (by simpa using h) (by omega))
  replace hok := Lib.hid hok
  replace hbad := Lib.hid hbad
  replace hwo := Lib.hid hwo
  replace hw := Lib.hid hw
  replace h1 := Lib.hid h1
  replace h2 := Lib.hid h2
  replace h3 := Lib.hid h3
  replace h4 := Lib.hid h4
  replace hF := Lib.hid hF
  go_enter Tryd.func32, Tryd.ntmps32
  go_wp2_with fail
  refine (bready_e L.length a1 a2 a3 c1 c2 c3 w hl).mono ?_; rintro e w1 ⟨rfl, hb1⟩
  have hB1 := Lib.hid hb1
  have hF1 := Lib.hid (hF.out.below hb1)
  have i1 := Lib.hid (fun hp => by obtain ⟨b, off, e, hs⟩ := h1.out hp; exact (⟨b, off, e, hs.below hb1⟩ : ∃ b off, a1 = some ⟨b, off, none⟩ ∧ SpotsAt w1 b off (L.map (·.key))))
  have i2 := Lib.hid (fun hp => by obtain ⟨b, off, e, hs⟩ := h2.out hp; exact (⟨b, off, e, hs.below hb1⟩ : ∃ b off, a2 = some ⟨b, off, none⟩ ∧ StrsAt w1 b off (L.map (·.t))))
  have i3 := Lib.hid (fun hp => by obtain ⟨b, off, e, hs⟩ := h3.out hp; exact (⟨b, off, e, hs.below hb1⟩ : ∃ b off, a3 = some ⟨b, off, none⟩ ∧ SlsAt w1 b off (L.map fun x => (x.R, x.S))))
  have i4 := Lib.hid (fun hp => by obtain ⟨b, off, e, hs⟩ := h4.out hp; exact (⟨b, off, e, hs.below hb1⟩ : ∃ b off, a4 = some ⟨b, off, none⟩ ∧ IntsAt w1 b off ws))
  clear h1 h2 h3 h4 hF hb1
  obtain ⟨q0, q1, q2, ql⟩ := hF1.out
  go_wp2
  clear q0 q1 q2 ql
  have hO := Lib.hid (SpAt.fresh w1 0 0 true 25)
  have hB2 := Lib.hid (below_alloc w1 (.cells #[.int .i64 0, .int .i64 0, .bool true] 25))
  generalize w1.alloc (.cells #[.int .i64 0, .int .i64 0, .bool true] 25) = w2 at *
  go_loopw [31] (fun i wr => ∃ n : Nat, n ≤ k ∧ i = .int .i64 n ∧ SpAt wr w1.heap.size (sq (dot ((L.map (·.e)).take n) ws)) ∧ Below w1.heap.size w1 wr) (fun i _ => L.length - (intOf i).toNat)
  case atStart => exact ⟨0, Nat.zero_le _, rfl, by rw [List.take_zero, dot_nil, sq_zero]; exact hO.out, hB2.out⟩
  case round =>
    clear hO hB2
    obtain ⟨n, hn, rfl, hP, hb⟩ := hrel
    replace hP := Lib.hid hP
    replace hb := Lib.hid hb
    have hlt : n < L.length := by omega
    obtain ⟨b1, o1, rfl, l1⟩ := i1.out (by simpa using (by omega : 0 < L.length))
    obtain ⟨b2, o2, rfl, l2⟩ := i2.out (by simpa using (by omega : 0 < L.length))
    obtain ⟨b3, o3, rfl, l3⟩ := i3.out (by simpa using (by omega : 0 < L.length))
    obtain ⟨b4, o4, rfl, l4⟩ := i4.out (by omega)
    have hd := hE.out n hlt
    have l1 := Lib.hid l1
    have l2 := Lib.hid l2
    have l3 := Lib.hid l3
    have l4 := Lib.hid l4
    have hA : Hid (∀ w', Below w1.heap.size w1 w' → w'.cell? ⟨b1, o1 + n * 3, none⟩ = some (.int .i64 L[n].key.x) ∧ w'.cell? ⟨b1, o1 + n * 3 + 1, none⟩ = some (.int .i64 L[n].key.y) ∧ w'.cell? ⟨b1, o1 + n * 3 + 2, none⟩ = some (.bool L[n].key.far) ∧
        w'.cell? ⟨b2, o2 + n, none⟩ = some (.string L[n].t) ∧ w'.cell? ⟨b3, o3 + n * 4, none⟩ = some (.int .i64 L[n].R.x) ∧ w'.cell? ⟨b3, o3 + n * 4 + 1, none⟩ = some (.int .i64 L[n].R.y) ∧ w'.cell? ⟨b3, o3 + n * 4 + 2, none⟩ = some (.bool L[n].R.far) ∧ w'.cell? ⟨b3, o3 + n * 4 + 3, none⟩ = some (.int .i64 L[n].S) ∧
        w'.cell? ⟨b4, o4 + n, none⟩ = some (.int .i64 (ws[n]'(by rw [hw.out]; exact hlt))) ∧ b1 < w'.heap.size ∧ b2 < w'.heap.size ∧ b3 < w'.heap.size ∧ b4 < w'.heap.size) := Lib.hid (fun w' hb => by
      have k1 := l1.out.below hb
      have k2 := l2.out.below hb
      have k3 := l3.out.below hb
      have k4 := l4.out.below hb
      have e1 := k1.cx n (by simpa using hlt)
      have e2 := k1.cy n (by simpa using hlt)
      have e3 := k1.cf n (by simpa using hlt)
      have e4 := k2.c n (by simpa using hlt)
      have e5 := k3.cx n (by simpa using hlt)
      have e6 := k3.cy n (by simpa using hlt)
      have e7 := k3.cf n (by simpa using hlt)
      have e8 := k3.cs n (by simpa using hlt)
      have e9 := k4.c n (by rw [hw.out]; exact hlt)
      simp only [List.getElem_map] at e1 e2 e3 e4 e5 e6 e7 e8 e9
      exact ⟨e1, e2, e3, e4, e5, e6, e7, e8, e9, k1.lt, k2.lt, k3.lt, k4.lt⟩)
    by_cases hnk : n < k
    · have hok1 := hok.out n hlt hnk
      obtain ⟨y1, y2⟩ := hwo.out n (by rw [hw.out]; exact hlt) hnk
      rw [List.getElem_map] at hd
      clear l1 l2 l3 l4 hbad
      generalize L[n] = I at *
      obtain ⟨A, t, R, S, f⟩ := I
      simp only at hA hd y1 y2
      generalize ws[n] = c at *
      replace hok1 := Lib.hid hok1
      obtain ⟨Z, hZ⟩ : ∃ Z, sq f = Z := ⟨_, rfl⟩
      obtain ⟨C, hC⟩ : ∃ C, sq (f * c) = C := ⟨_, rfl⟩
      obtain ⟨D, hD⟩ : ∃ D, sSum (sq (dot ((L.map (·.e)).take n) ws)) C = D := ⟨_, rfl⟩
      have oP := sq_ok (dot ((L.map (·.e)).take n) ws)
      have hDe : Hid (sq (dot ((L.map (·.e)).take (n + 1)) ws) = D) := Lib.hid (by rw [hd, ← sq_add, hC]; exact hD)
      clear hd
      generalize sq (dot ((L.map (·.e)).take n) ws) = P at *
      have oC : Ok C := by rw [← hC]; exact sq_ok _
      replace hZ := Lib.hid hZ
      replace hC := Lib.hid hC
      replace hD := Lib.hid hD
      have hZ' := Lib.hid hZ.out.symm
      obtain ⟨e1, e2, e3, e4, e5, e6, e7, e8, e9, g1, g2, g3, g4⟩ := hA.out wr hb.out
      have hFr := Lib.hid (hF1.out.below hb.out)
      go_wp2_with fail
      refine wp_region_grow Tryd.mixed (by kernel_rfl) ?_
      repeat (quiet_step ((go_at_call 95; exact grow_of (chk_e A R t S f _ (hFr.out.below (below_seq (below_alloc _ _) (Grew.h _))) hok1))))
      refine wpQuiet_nil ?_
      intro _ hw'
      obtain ⟨x, rfl⟩ := hw'
      clear e1 e2 e3 e4 e5 e6 e7 e8 e9 g1 g2 g3 g4
      have hx := Lib.hid (below_seq (below_alloc _ _) x.h)
      have hk := (SpAt.fresh wr A.x A.y A.far 25).below x.h
      have hby := Lib.hid (below_seq hb.out hx.out)
      have hPy := Lib.hid (hP.out.below hx.out)
      have hFy := Lib.hid (hFr.out.below hx.out)
      have zy := hx.out.size
      obtain ⟨e1, e2, e3, e4, e5, e6, e7, e8, e9, g1, g2, g3, g4⟩ := hA.out _ hby.out
      obtain ⟨k0, k1, k2, -, -, -, kl⟩ := hk
      clear hA hFr hP hx hb
      generalize hyw : x.w = y at *
      clear hyw x
      go_wp2_with fail
      refine (secret_y c _ y1 y2).mono ?_; rintro e w' ⟨rfl, rfl⟩
      obtain ⟨p0, p1, p2, p3, p4, p5, pl⟩ := hPy.out
      go_wp2_with fail
      refine wp_region_grow_tail 17 Tryd.mixed (by kernel_rfl) ?_
      simp only [List.take_succ_cons, List.take_zero, List.drop_succ_cons, List.drop_zero]
      repeat (quiet_step (first | (go_at_call 96; exact grow_of (boff_e A R Z t S f _ (hFy.out.below (Grew.h _)) hok1 hZ)) | (go_at_call 78; exact grow_of (of_e Z C f c _ (hFy.out.below (Grew.h _)) hZ' hC)) | (go_at_call 83; exact grow_of (sum_e P C D _ (hFy.out.below (Grew.h _)) oP oC hD))))
      refine wpQuiet_nil ?_
      intro _ hw'
      obtain ⟨x, rfl⟩ := hw'
      have hx := Lib.hid x.h
      have hP2 := hPy.out.below hx.out
      clear p0 p1 p2 p3 p4 p5 pl e1 e2 e3 e4 e5 e6 e7 e8 e9
      obtain ⟨p0, p1, p2, p3, p4, p5, p6⟩ := hP2
      go_wp2
      go_roundw
      case rel => exact ⟨n + 1, by omega, by go_num, by rw [hDe.out]; exact (hPy.out.below hx.out).set3 D, set3_below (below_seq hby.out hx.out) (Nat.le_refl _)⟩
      case measure => simp [intOf]; omega
    · obtain rfl : n = k := by omega
      have hbd := hbad.out hlt (by rw [hw.out]; exact hlt)
      clear l1 l2 l3 l4 hbad hd hE
      have hlw : n < ws.length := by rw [hw.out]; exact hlt
      generalize L[n] = I at *
      obtain ⟨A, t, R, S, f⟩ := I
      simp only at hA hbd
      generalize (ws[n]'hlw) = c at *
      obtain ⟨e1, e2, e3, e4, e5, e6, e7, e8, e9, g1, g2, g3, g4⟩ := hA.out wr hb.out
      have hFr := Lib.hid (hF1.out.below hb.out)
      rcases hbd with ⟨hse, hE0, hts⟩ | ⟨hok1, hcn, rfl⟩
      · replace hse := Lib.hid hse
        go_wp2_with fail
        refine wp_region_grow Tryd.mixed (by kernel_rfl) ?_
        repeat (quiet_step ((go_at_call 95; exact grow_of (sealCheck_t A R S E t _ (hFr.out.below (below_seq (below_alloc _ _) (Grew.h _))) hts hse hE0))))
        refine wpQuiet_nil ?_
        intro _ hw'
        obtain ⟨x, rfl⟩ := hw'
        have hx := Lib.hid (below_seq hB1.out (below_seq hb.out (below_seq (below_alloc _ _) x.h)))
        clear e1 e2 e3 e4 e5 e6 e7 e8 e9 g1 g2 g3 g4
        go_wp2
        go_ret2
        exact ⟨rfl, hx.out⟩
      · replace hok1 := Lib.hid hok1
        replace hcn := Lib.hid hcn
        go_wp2_with fail
        refine wp_region_grow Tryd.mixed (by kernel_rfl) ?_
        repeat (quiet_step ((go_at_call 95; exact grow_of (chk_e A R t S f _ (hFr.out.below (below_seq (below_alloc _ _) (Grew.h _))) hok1))))
        refine wpQuiet_nil ?_
        intro _ hw'
        obtain ⟨x, rfl⟩ := hw'
        have hx0 := Lib.hid (below_seq hb.out (below_seq (below_alloc _ _) x.h))
        have hx := Lib.hid (below_seq hB1.out hx0.out)
        clear e1 e2 e3 e4 e5 e6 e7 e8 e9 g1 g2 g3 g4
        obtain ⟨e1, e2, e3, e4, e5, e6, e7, e8, e9, g1, g2, g3, g4⟩ := hA.out _ hx0.out
        clear e1 e2 e3 e4 e5 e6 e7 e8
        generalize hyw : x.w = y at *
        clear hyw x
        go_wp2_with fail
        refine (secret_n c _ hcn.out).mono ?_; rintro e w' ⟨rfl, rfl⟩
        go_wp2
        go_ret2
        exact ⟨rfl, hx.out⟩
set_option maxHeartbeats 8000000 in
theorem bwrong_nb (L : List It) (v1 v2 v3 : Value) (E : Int) (k : Nat) (w : World) (hF : FarAt w) (hl : L.length ≤ 12) (hk : k < L.length) (hok : ∀ i (h : i < L.length), i < k → It.ok L[i]) (hbad : ∀ h : k < L.length, sealF L[k].key L[k].R L[k].S L[k].t.size = E ∧ E ≠ 0 ∧ L[k].t.size ≤ 140737488351232)
    (h1 : SpSl w v1 (L.map (·.key))) (h2 : StrSl w v2 (L.map (·.t))) (h3 : SlSl w v3 (L.map fun x => (x.R, x.S))) :
    Calls Tryd.prog 34 #[v1, v2, v3] w fun e w' => e = .returned (.tuple #[.slice none 0 0, .iface 118 (.int .i64 E)]) ∧ Below w.heap.size w w' := by
  obtain ⟨a1, c1, rfl, h1⟩ := h1
  obtain ⟨a2, c2, rfl, h2⟩ := h2
  obtain ⟨a3, c3, rfl, h3⟩ := h3
  simp only [List.length_map] at h1 h2 h3 ⊢
  have hE := Lib.hid (fun n (h : n < L.length) => (show (L.map (·.e)).getD n 0 = L[n].e by simp [h]))
  have hwl := Lib.hid (wrongs_len (L.map (·.e)))
  replace hok := Lib.hid hok
  replace hbad := Lib.hid hbad
  replace h1 := Lib.hid h1
  replace h2 := Lib.hid h2
  replace h3 := Lib.hid h3
  replace hF := Lib.hid hF
  go_enter Tryd.func34, Tryd.ntmps34
  go_wp2_with fail
  refine (bready_e L.length a1 a2 a3 c1 c2 c3 w hl).mono ?_; rintro e w1 ⟨rfl, hb1⟩
  have hB1 := Lib.hid hb1
  have hF1 := Lib.hid (hF.out.below hb1)
  have i1 := Lib.hid (fun hp => by obtain ⟨b, off, e, hs⟩ := h1.out hp; exact (⟨b, off, e, hs.below hb1⟩ : ∃ b off, a1 = some ⟨b, off, none⟩ ∧ SpotsAt w1 b off (L.map (·.key))))
  have i2 := Lib.hid (fun hp => by obtain ⟨b, off, e, hs⟩ := h2.out hp; exact (⟨b, off, e, hs.below hb1⟩ : ∃ b off, a2 = some ⟨b, off, none⟩ ∧ StrsAt w1 b off (L.map (·.t))))
  have i3 := Lib.hid (fun hp => by obtain ⟨b, off, e, hs⟩ := h3.out hp; exact (⟨b, off, e, hs.below hb1⟩ : ∃ b off, a3 = some ⟨b, off, none⟩ ∧ SlsAt w1 b off (L.map fun x => (x.R, x.S))))
  clear h1 h2 h3 hF hb1
  go_wp2
  go_loopw [9, 23] (fun o i wr => ∃ (n : Nat) (u : Value), n ≤ k ∧ i = .int .i64 n ∧ u = o ∧ wr.ownsRow w1.heap.size 3 1 u (wrongs (L.map (·.e)) n).length ((wrongs (L.map (·.e)) n).map (Value.int .i64)) ∧ Below w1.heap.size w1 wr) (fun _ i _ => L.length - (intOf i).toNat)
  case atStart => exact ⟨0, _, Nat.zero_le _, rfl, rfl, World.ownsRow_nil _ _ _ _, Below.refl _ _⟩
  case round =>
    obtain ⟨n, u, hn, rfl, rfl, hown, hb⟩ := hrel
    replace hown := Lib.hid hown
    replace hb := Lib.hid hb
    have hlt : n < L.length := by omega
    obtain ⟨b1, o1, rfl, l1⟩ := i1.out (by simpa using (by omega : 0 < L.length))
    obtain ⟨b2, o2, rfl, l2⟩ := i2.out (by simpa using (by omega : 0 < L.length))
    obtain ⟨b3, o3, rfl, l3⟩ := i3.out (by simpa using (by omega : 0 < L.length))
    have hd := hE.out n hlt
    have hw1 := hwl.out n
    have l1 := Lib.hid l1
    have l2 := Lib.hid l2
    have l3 := Lib.hid l3
    have hA : Hid (∀ w', Below w1.heap.size w1 w' → w'.cell? ⟨b1, o1 + n * 3, none⟩ = some (.int .i64 L[n].key.x) ∧ w'.cell? ⟨b1, o1 + n * 3 + 1, none⟩ = some (.int .i64 L[n].key.y) ∧ w'.cell? ⟨b1, o1 + n * 3 + 2, none⟩ = some (.bool L[n].key.far) ∧
        w'.cell? ⟨b2, o2 + n, none⟩ = some (.string L[n].t) ∧ w'.cell? ⟨b3, o3 + n * 4, none⟩ = some (.int .i64 L[n].R.x) ∧ w'.cell? ⟨b3, o3 + n * 4 + 1, none⟩ = some (.int .i64 L[n].R.y) ∧ w'.cell? ⟨b3, o3 + n * 4 + 2, none⟩ = some (.bool L[n].R.far) ∧ w'.cell? ⟨b3, o3 + n * 4 + 3, none⟩ = some (.int .i64 L[n].S) ∧
        b1 < w'.heap.size ∧ b2 < w'.heap.size ∧ b3 < w'.heap.size) := Lib.hid (fun w' hb => by
      have k1 := l1.out.below hb
      have k2 := l2.out.below hb
      have k3 := l3.out.below hb
      have e1 := k1.cx n (by simpa using hlt)
      have e2 := k1.cy n (by simpa using hlt)
      have e3 := k1.cf n (by simpa using hlt)
      have e4 := k2.c n (by simpa using hlt)
      have e5 := k3.cx n (by simpa using hlt)
      have e6 := k3.cy n (by simpa using hlt)
      have e7 := k3.cf n (by simpa using hlt)
      have e8 := k3.cs n (by simpa using hlt)
      simp only [List.getElem_map] at e1 e2 e3 e4 e5 e6 e7 e8
      exact ⟨e1, e2, e3, e4, e5, e6, e7, e8, k1.lt, k2.lt, k3.lt⟩)
    by_cases hnk : n < k
    · have hok1 := hok.out n hlt hnk
      clear l1 l2 l3 hbad
      generalize L[n] = I at *
      obtain ⟨A, t, R, S, f⟩ := I
      simp only at hA hd
      replace hok1 := Lib.hid hok1
      replace hd := Lib.hid hd
      obtain ⟨e1, e2, e3, e4, e5, e6, e7, e8, g1, g2, g3⟩ := hA.out wr hb.out
      have hFr := Lib.hid (hF1.out.below hb.out)
      clear hA
      cases hf : (sq f).far with
      | true =>
        have hs : Hid (wrongs (L.map (·.e)) (n + 1) = wrongs (L.map (·.e)) n) := Lib.hid (by show (if (sq ((L.map (·.e)).getD n 0)).far then _ else _) = _; rw [hd.out, if_pos hf])
        replace hf := Lib.hid hf
        go_wp2_with fail
        refine wp_region_grow Tryd.mixed (by kernel_rfl) ?_
        repeat (quiet_step ((go_at_call 97; exact grow_of (vfy_e A R t S f true _ (hFr.out.below (below_seq (below_alloc _ _) (Grew.h _))) hok1 hf))))
        refine wpQuiet_nil ?_
        intro _ hw'
        obtain ⟨x, rfl⟩ := hw'
        have hx := Lib.hid (below_seq (below_alloc _ _) x.h)
        have ow2 := Lib.hid (own_below hown.out hx.out)
        have hby := Lib.hid (below_seq hb.out hx.out)
        clear hown hx hb e1 e2 e3 e4 e5 e6 e7 e8
        go_wp2
        go_roundw
        case rel => exact ⟨n + 1, _, by omega, by go_num, rfl, by rw [hs.out]; exact ow2.out, hby.out⟩
        case measure => simp [intOf]; omega
      | false =>
        have hs : Hid (wrongs (L.map (·.e)) (n + 1) = wrongs (L.map (·.e)) n ++ [(n : Int)]) := Lib.hid (by show (if (sq ((L.map (·.e)).getD n 0)).far then _ else _) = _; rw [hd.out, if_neg (by rw [hf]; decide)])
        have hs2 : Hid ((wrongs (L.map (·.e)) (n + 1)).length = (wrongs (L.map (·.e)) n).length + 1) := Lib.hid (by rw [hs.out]; simp)
        replace hf := Lib.hid hf
        generalize wrongs (L.map (·.e)) n = W at *
        go_wp2_with fail
        refine wp_region_grow Tryd.mixed (by kernel_rfl) ?_
        repeat (quiet_step ((go_at_call 97; exact grow_of (vfy_e A R t S f false _ (hFr.out.below (below_seq (below_alloc _ _) (Grew.h _))) hok1 hf))))
        refine wpQuiet_nil ?_
        intro _ hw'
        obtain ⟨x, rfl⟩ := hw'
        have hx := Lib.hid (below_seq (below_alloc _ _) x.h)
        have ow2 := Lib.hid (own_below hown.out hx.out)
        have hby := Lib.hid (below_seq hb.out hx.out)
        have zy := hby.out.size
        clear hown hx hb e1 e2 e3 e4 e5 e6 e7 e8
        generalize hyw : x.w = y at *
        clear hyw x
        go_wp2_with (first | (at_builtin; refine wpl_append_int rfl _ _ _ rfl (by kernel_rfl) w1.heap.size _ W W.length rfl (ow2.out.alloc _) rfl (by omega) (by simp only [World.size_alloc]; omega) y.heap.size n rfl (by go_simp) ?_; intro v' w3 hown' hgrow hbel hloc; replace hown' := Lib.hid hown'; replace hbel := Lib.hid (hbel w1 (balloc hby.out _)); clear hgrow hloc ow2 hby) | fail)
        go_wp2
        go_roundw
        case rel => exact ⟨n + 1, _, by omega, by go_num, rfl, by rw [hs2.out, hs.out]; exact hown'.out, hbel.out⟩
        case measure => simp [intOf]; omega
    · obtain rfl : n = k := by omega
      obtain ⟨hse, hE0, hts⟩ := hbad.out hlt
      clear l1 l2 l3 hbad hd hE hown
      generalize L[n] = I at *
      obtain ⟨A, t, R, S, f⟩ := I
      simp only at hA hse hts
      obtain ⟨e1, e2, e3, e4, e5, e6, e7, e8, g1, g2, g3⟩ := hA.out wr hb.out
      have hFr := Lib.hid (hF1.out.below hb.out)
      replace hse := Lib.hid hse
      go_wp2_with fail
      refine wp_region_grow Tryd.mixed (by kernel_rfl) ?_
      repeat (quiet_step ((go_at_call 97; exact grow_of (sealVerify_t A R S E t _ (hFr.out.below (below_seq (below_alloc _ _) (Grew.h _))) hts hse hE0))))
      refine wpQuiet_nil ?_
      intro _ hw'
      obtain ⟨x, rfl⟩ := hw'
      have hx := Lib.hid (below_seq hB1.out (below_seq hb.out (below_seq (below_alloc _ _) x.h)))
      clear e1 e2 e3 e4 e5 e6 e7 e8 g1 g2 g3
      go_wp2
      go_ret2
      exact ⟨rfl, hx.out⟩
end Go.Proofs.YtfnifdmnbccblaaDoor
namespace Go.Proofs.YtfnifdmnbccblaaDoor
open Go.RowKit
set_option maxRecDepth 100000
set_option linter.unusedVariables false
set_option linter.unusedSimpArgs false
def unpackR : List UInt8 → Option Sp
  | [c] => if c = 0 then some sFar else none
  | [c0, c1, c2] => if inside ((c1.toNat : Int) * 256 + (c2.toNat : Int)) = true ∧ isSq (height ((c1.toNat : Int) * 256 + (c2.toNat : Int))) = true then
      (if ((sBytes (unS c0 (lifted ((c1.toNat : Int) * 256 + (c2.toNat : Int))))).toList == [c0, c1, c2]) = true then some (unS c0 (lifted ((c1.toNat : Int) * 256 + (c2.toNat : Int)))) else none) else none
  | _ => none
theorem unpackR_three (c0 c1 c2 : UInt8) : unpackR [c0, c1, c2] = if inside ((c1.toNat : Int) * 256 + (c2.toNat : Int)) = true ∧ isSq (height ((c1.toNat : Int) * 256 + (c2.toNat : Int))) = true then
      (if ((sBytes (unS c0 (lifted ((c1.toNat : Int) * 256 + (c2.toNat : Int))))).toList == [c0, c1, c2]) = true then some (unS c0 (lifted ((c1.toNat : Int) * 256 + (c2.toNat : Int)))) else none) else none := rfl
def unV : Option Sp → Value
  | some s => .tuple #[spV s, .nilIface]
  | none => .tuple #[spV ⟨0, 0, false⟩, .iface 118 (.int .i64 2)]
end Go.Proofs.YtfnifdmnbccblaaDoor
namespace Go.Proofs.YtfnifdmnbccblaaDoor
open Go.RowKit
set_option maxRecDepth 100000
set_option linter.unusedVariables false
set_option linter.unusedSimpArgs false
/-- Two bytes of a place are it again. -/
theorem two_bytes {x : Int} (h0 : 0 ≤ x) (h1 : x < 4051) : ((UInt8.ofNat (x / 256).toNat).toNat : Int) * 256 + ((UInt8.ofNat (x % 256).toNat).toNat : Int) = x := by
  rw [UInt8.toNat_ofNat', UInt8.toNat_ofNat']; omega
theorem sBytes_far {s : Sp} (hf : s.far = true) : (sBytes s).data.toList = [0] := by unfold sBytes; rw [if_pos hf]
theorem sBytes_big {s : Sp} (hf : s.far = false) (hy : pOf (-s.y) < s.y) : (sBytes s).data.toList = [2, UInt8.ofNat (s.x / 256).toNat, UInt8.ofNat (s.x % 256).toNat] := by
  unfold sBytes; rw [if_neg (by rw [hf]; decide), if_pos hy, strOfNums_data]; rfl
theorem sBytes_small {s : Sp} (hf : s.far = false) (hy : ¬ pOf (-s.y) < s.y) : (sBytes s).data.toList = [1, UInt8.ofNat (s.x / 256).toNat, UInt8.ofNat (s.x % 256).toNat] := by
  unfold sBytes; rw [if_neg (by rw [hf]; decide), if_neg hy, strOfNums_data]; rfl
theorem unpack_sBytes {s : Sp} (h : Ok s) : unpackR (sBytes s).data.toList = some s := by
  cases hf : s.far
  · have hx := two_bytes h.x0 h.x1
    have hs := ok_isSq h hf
    by_cases hy : pOf (-s.y) < s.y
    · rw [sBytes_big hf hy, unpackR_three, hx, if_pos ⟨h.ins, hs⟩]
      have e : unS 2 (lifted s.x) = s := by unfold unS; rw [if_pos (by decide)]; exact (lifted_gt h hf hy).symm
      rw [e, if_pos]; rw [ByteArray.toList_eq, sBytes_big hf hy]; simp
    · rw [sBytes_small hf hy, unpackR_three, hx, if_pos ⟨h.ins, hs⟩]
      have e : unS 1 (lifted s.x) = s := by unfold unS; rw [if_neg (by decide)]; exact (lifted_le h hf (by omega)).symm
      rw [e, if_pos]; rw [ByteArray.toList_eq, sBytes_small hf hy]; simp
  · rw [sBytes_far hf]; show (if (0 : UInt8) = 0 then some sFar else none) = some s
    rw [if_pos rfl, h.far_eq hf]
theorem unpack_some {l : List UInt8} {s : Sp} (h : unpackR l = some s) : Ok s ∧ (sBytes s).data.toList = l := by
  match l, h with
  | [c], h =>
    have h : (if c = 0 then some sFar else none) = some s := h
    split at h
    · rename_i e; cases h; exact ⟨ok_far, by rw [sBytes_far rfl, e]⟩
    · cases h
  | [c0, c1, c2], h =>
    rw [unpackR_three] at h
    split at h
    · rename_i hi
      split at h
      · rename_i he
        have hl := lifted_ok hi.1 hi.2
        rw [ByteArray.toList_eq] at he
        cases h
        refine ⟨?_, by simpa using he⟩
        unfold unS; split
        · exact (turned_ok hl).1
        · exact hl
      · cases h
    · cases h
  | [], h => cases h
  | [_, _], h => cases h
  | _ :: _ :: _ :: _ :: _, h => cases h
theorem bytes_ext {a b : ByteArray} (h : a.data.toList = b.data.toList) : a = b := by
  obtain ⟨⟨x⟩⟩ := a; obtain ⟨⟨y⟩⟩ := b; simp only at h; rw [h]
theorem sBytes_inj {s t : Sp} (hs : Ok s) (ht : Ok t) (h : sBytes s = sBytes t) : s = t := by
  have := unpack_sBytes hs; rw [h, unpack_sBytes ht] at this; exact (Option.some.inj this).symm
end Go.Proofs.YtfnifdmnbccblaaDoor
namespace Go.Proofs.YtfnifdmnbccblaaDoor
open Go.RowKit
set_option maxRecDepth 100000
set_option linter.unusedVariables false
set_option linter.unusedSimpArgs false
set_option maxHeartbeats 1000000 in
theorem refBytes_far (x y : Int) (w : World) : Calls Tryd.prog 93 #[.agg #[.int .i64 x, .int .i64 y, .bool true]] w fun e w' => e = .returned (.string ⟨#[0]⟩) ∧ Below w.heap.size w w' := by
  go_enter Tryd.func93, Tryd.ntmps93
  go_wp2
  go_ret
  exact ⟨rfl, (by repeat (first | exact Below.refl _ _ | refine balloc ?_ _ | refine Below.drew ?_ | refine below_drewN ?_ _ | refine below_set ?_ (by first | omega | (dsimp only; omega)) _))⟩
set_option maxHeartbeats 1000000 in
theorem refBytes_big (x y : Int) (w : World) (x0 : 0 ≤ x) (x1 : x < 4051) (y0 : 0 ≤ y) (y1 : y < 4051) (h : 4051 < 2 * y) : Calls Tryd.prog 93 #[.agg #[.int .i64 x, .int .i64 y, .bool false]] w fun e w' => e = .returned (.string (strOfNums [2, x / 256, x % 256])) ∧ Below w.heap.size w w' := by
  have hcv := conv3 ((w.alloc (.cells #[.int .i64 x, .int .i64 y, .bool false] 25)).alloc (.cells #[.int .u8 2, .int .u8 (x / 256), .int .u8 (x % 256)] 5)) (w.heap.size + 1) 2 (x / 256) (x % 256) (by go_simp) (by go_simp) (by go_simp)
  go_enter Tryd.func93, Tryd.ntmps93
  go_wp2
  go_ret
  exact ⟨rfl, balloc (below_alloc _ _) _⟩
set_option maxHeartbeats 1000000 in
theorem refBytes_small (x y : Int) (w : World) (x0 : 0 ≤ x) (x1 : x < 4051) (y0 : 0 ≤ y) (y1 : y < 4051) (h : ¬ 4051 < 2 * y) : Calls Tryd.prog 93 #[.agg #[.int .i64 x, .int .i64 y, .bool false]] w fun e w' => e = .returned (.string (strOfNums [1, x / 256, x % 256])) ∧ Below w.heap.size w w' := by
  have hcv := conv3 ((w.alloc (.cells #[.int .i64 x, .int .i64 y, .bool false] 25)).alloc (.cells #[.int .u8 1, .int .u8 (x / 256), .int .u8 (x % 256)] 5)) (w.heap.size + 1) 1 (x / 256) (x % 256) (by go_simp) (by go_simp) (by go_simp)
  go_enter Tryd.func93, Tryd.ntmps93
  go_wp2
  go_ret
  exact ⟨rfl, balloc (below_alloc _ _) _⟩
theorem big_iff {y : Int} (y0 : 0 ≤ y) (y1 : y < 4051) : pOf (-y) < y ↔ 4051 < 2 * y := by
  by_cases h : y = 0
  · subst h; unfold pOf; decide
  · have e : pOf (-y) = 4051 - y := by
      unfold pOf
      rw [show -y = (4051 - y) + 4051 * (-1) by omega, Int.add_mul_emod_self_left]
      exact Int.emod_eq_of_lt (by omega) (by omega)
    rw [e]; omega
theorem refBytes_c (s : Sp) (w : World) (h : Ok s) : Calls Tryd.prog 93 #[spV s] w fun e w' => e = .returned (.string (sBytes s)) ∧ Below w.heap.size w w' := by
  have x0 := h.x0; have x1 := h.x1; have y0 := h.y0; have y1 := h.y1
  obtain ⟨x, y, f⟩ := s
  simp only at x0 x1 y0 y1
  cases f
  · by_cases hy : pOf (-y) < y
    · have e : sBytes ⟨x, y, false⟩ = strOfNums [2, x / 256, x % 256] := by simp [sBytes, hy]
      rw [e]; exact refBytes_big x y w x0 x1 y0 y1 ((big_iff y0 y1).mp hy)
    · have e : sBytes ⟨x, y, false⟩ = strOfNums [1, x / 256, x % 256] := by simp [sBytes, hy]
      rw [e]; exact refBytes_small x y w x0 x1 y0 y1 (fun c => hy ((big_iff y0 y1).mpr c))
  · exact refBytes_far x y w
theorem refBytes_e (s : Sp) (B : ByteArray) (w : World) (h : Ok s) (hB : Hid (sBytes s = B)) : Calls Tryd.prog 93 #[spV s] w fun e w' => e = .returned (.string B) ∧ Below w.heap.size w w' := by
  have := refBytes_c s w h; rw [hB.out] at this; exact this
theorem refSpots_full (l : Nat) (a : Option Addr) (cap : Nat) (w : World) (hl : 12 < l) (hm : l ≤ 9223372036854775807) : Calls Tryd.prog 44 #[.slice a l cap] w fun e w' => e = .returned (.int .i64 4) ∧ Below w.heap.size w w' := by
  have hd : decide ((12 : Int) < (l : Int)) = true := by rw [decide_eq_true_iff]; omega
  go_enter Tryd.func44, Tryd.ntmps44
  go_wp2
  go_ret
  exact ⟨rfl, (by repeat (first | exact Below.refl _ _ | refine balloc ?_ _ | refine Below.drew ?_ | refine below_drewN ?_ _ | refine below_set ?_ (by first | omega | (dsimp only; omega)) _))⟩
theorem refSpots_nil (a : Option Addr) (cap : Nat) (w : World) : Calls Tryd.prog 44 #[.slice a 0 cap] w fun e w' => e = .returned (.int .i64 0) ∧ Below w.heap.size w w' := by
  go_enter Tryd.func44, Tryd.ntmps44
  go_wp2
  refine wp_loop_rounds 1 ?_
  rw [rounds_succ]
  go_wp2
  go_ret
  exact ⟨rfl, (by repeat (first | exact Below.refl _ _ | refine balloc ?_ _ | refine Below.drew ?_ | refine below_drewN ?_ _ | refine below_set ?_ (by first | omega | (dsimp only; omega)) _))⟩
set_option maxHeartbeats 1000000 in
theorem refSpots_core (l : List Sp) (b off cap : Nat) (w : World) (hl : l.length ≤ 12) (hs : SpotsAt w b off l) (k : Nat) (hk : k ≤ l.length) (R : Int) (hok : Hid (∀ i (h : i < l.length), i < k → sCheck l[i] = 0))
    (hbad : Hid (∀ h : k < l.length, (sCheck l[k] != 0) = true ∧ R = sCheck l[k])) (hend : Hid (k = l.length → R = 0)) :
    Calls Tryd.prog 44 #[.slice (some ⟨b, off, none⟩) l.length cap] w fun e w' => e = .returned (.int .i64 R) ∧ Below w.heap.size w w' := by
  have hd : decide ((12 : Int) < (l.length : Int)) = false := by rw [decide_eq_false_iff_not]; omega
  have hss := Lib.hid hs
  clear hs
  go_enter Tryd.func44, Tryd.ntmps44
  go_wp2
  go_loopw [3] (fun i wr => ∃ n : Nat, n ≤ k ∧ i = .int .i64 n ∧ Below w.heap.size w wr) (fun i _ => l.length - (intOf i).toNat)
  case atStart => exact ⟨0, Nat.zero_le _, rfl, Below.refl _ _⟩
  case round =>
    obtain ⟨n, hn, rfl, hb⟩ := hrel
    have hsr := hss.out.below hb
    by_cases hlt : n < l.length
    · have h1 := hsr.cx n hlt
      have h2 := hsr.cy n hlt
      have h3 := hsr.cf n hlt
      clear hsr
      by_cases hnk : n < k
      · have ho := Lib.hid (hok.out n hlt hnk)
        go_wp2_with fail
        refine (refSpot_e l[n] 0 _ ho).mono ?_; rintro e w1 ⟨rfl, hb1⟩
        clear h1 h2 h3
        go_wp2
        go_roundw
        case rel => exact ⟨n + 1, by omega, by go_num, below_seq hb hb1⟩
        case measure => simp [intOf]; omega
      · obtain rfl : n = k := by omega
        obtain ⟨hbd, hR⟩ := hbad.out hlt
        replace hR := Lib.hid hR
        go_wp2_with fail
        refine (refSpot_c l[n] _).mono ?_; rintro e w1 ⟨rfl, hb1⟩
        clear h1 h2 h3
        go_wp2
        go_ret
        exact ⟨ret_int hR.out.symm, below_seq hb hb1⟩
    · have hkl : k = l.length := by omega
      have hR := Lib.hid (hend.out hkl)
      clear hkl
      go_wp2
      go_ret
      exact ⟨ret_int hR.out.symm, hb⟩
set_option maxHeartbeats 1000000 in
theorem refList_nil (a : Option Addr) (cap : Nat) (w : World) : Calls Tryd.prog 102 #[.slice a 0 cap] w fun e w' => e = .returned (.string (strOfNums [0])) ∧ Below w.heap.size w w' := by
  have hcv := conv1 (w.alloc (.cells #[.int .u8 0] 5)) w.heap.size 0 (by go_simp)
  go_enter Tryd.func102, Tryd.ntmps102
  go_wp2
  refine wp_loop_rounds 1 ?_
  rw [rounds_succ]
  go_wp2
  go_ret
  exact ⟨rfl, below_alloc _ _⟩
set_option maxHeartbeats 1000000 in
theorem refList_ok (l : List Sp) (b off cap : Nat) (w : World) (hl : l.length ≤ 12) (hs : SpotsAt w b off l) (h : Hid (∀ i (h : i < l.length), Ok l[i])) :
    Calls Tryd.prog 102 #[.slice (some ⟨b, off, none⟩) l.length cap] w fun e w' => e = .returned (.string (lsB l.length l)) ∧ Below w.heap.size w w' := by
  have hcv := conv1 (w.alloc (.cells #[.int .u8 l.length] 5)) w.heap.size l.length (by go_simp)
  go_enter Tryd.func102, Tryd.ntmps102
  go_wp2
  have hss := Lib.hid (hs.below (below_alloc w (.cells #[.int .u8 l.length] 5)))
  have hBs := Lib.hid (below_alloc w (.cells #[.int .u8 l.length] 5))
  clear hcv hs
  generalize w.alloc (.cells #[.int .u8 l.length] 5) = w0 at *
  go_loopw [4, 5] (fun o i wr => ∃ n : Nat, n ≤ l.length ∧ i = .int .i64 n ∧ o = .string (lsB l.length (l.take n)) ∧ Below w0.heap.size w0 wr) (fun _ i _ => l.length - (intOf i).toNat)
  case atStart => exact ⟨0, Nat.zero_le _, rfl, rfl, Below.refl _ _⟩
  case round =>
    obtain ⟨n, hn, rfl, rfl, hb⟩ := hrel
    have hsr := hss.out.below hb
    by_cases hlt : n < l.length
    · have h1 := hsr.cx n hlt
      have h2 := hsr.cy n hlt
      have h3 := hsr.cf n hlt
      clear hsr
      have ho := h.out n hlt
      have hsn := Lib.hid (lsB_snoc l.length l n hlt)
      go_wp2_with fail
      refine (refBytes_c l[n] _ ho).mono ?_; rintro e w1 ⟨rfl, hb1⟩
      clear h1 h2 h3 ho
      have hz1 := lsB_size l.length (l.take n)
      have hz2 := sBytes_size l[n]
      have hz3 : (l.take n).length ≤ 12 := by rw [List.length_take]; omega
      have hz4 : (lsB l.length (l.take n)).size ≤ 37 := by omega
      clear hz1 hz3
      go_wp2
      go_roundw
      case rel => exact ⟨n + 1, by omega, by go_num, by rw [hsn.out], below_seq hb hb1⟩
      case measure => simp [intOf]; omega
    · have ht : Hid (l.take n = l) := List.take_of_length_le (by omega)
      go_wp2
      go_ret
      exact ⟨ret_string (by rw [ht.out]), below_seq hBs.out hb⟩
end Go.Proofs.YtfnifdmnbccblaaDoor
namespace Go.Proofs.YtfnifdmnbccblaaDoor
open Go.RowKit
set_option maxRecDepth 100000
set_option linter.unusedVariables false
set_option linter.unusedSimpArgs false
set_option maxHeartbeats 1000000 in
theorem refLong_c (s : ByteArray) (w : World) (hs : s.size ≤ 9223372036854775807) : Calls Tryd.prog 122 #[.string s] w fun e w' => e = .returned (.int .i64 (lng s.data.toList)) ∧ Below w.heap.size w w' := by
  have hlen : s.data.toList.length = s.size := rfl
  have HL := Lib.hid hlen; clear hlen
  go_enter Tryd.func122, Tryd.ntmps122
  go_wp2
  go_loop [3, 4] (fun n i => ∃ k : Nat, k ≤ s.size ∧ i = .int .i64 k ∧ n = .int .i64 (lng (s.data.toList.take k))) (fun _ i => s.size - (intOf i).toNat)
  case atStart => exact ⟨0, Nat.zero_le _, rfl, by rw [List.take_zero, lng_nil]⟩
  case round =>
    obtain ⟨k, hk, rfl, rfl⟩ := hrel
    have h1 := (lng_bd (s.data.toList.take k)).1
    have h2 := (lng_bd (s.data.toList.take k)).2
    by_cases hlt : k < s.size
    · have ht : Hid (lng (s.data.toList.take (k + 1)) = (lng (s.data.toList.take k) * 263 + ((s[k]'hlt).toNat : Int) + 1) % 1000003) := lng_take s.data.toList k (by have := HL.out; omega)
      have h3 : (s[k]'hlt).toNat < 256 := UInt8.toNat_lt _
      go_wp2
      go_round
      case rel => exact ⟨k + 1, by omega, by go_num, by rw [ht.out]⟩
      case measure => simp [intOf]; omega
    · go_wp2
      go_ret
      exact ⟨ret_int (by rw [List.take_of_length_le (by have := HL.out; omega)]), (by repeat (first | exact Below.refl _ _ | refine balloc ?_ _ | refine Below.drew ?_ | refine below_drewN ?_ _ | refine below_set ?_ (by first | omega | (dsimp only; omega)) _))⟩
theorem refNumber_c (s : ByteArray) (w : World) (hs : s.size ≤ 9223372036854775807) : Calls Tryd.prog 92 #[.string s] w fun e w' => e = .returned (.int .i64 (hnum s.data.toList)) ∧ Below w.heap.size w w' := by
  have h1 := (lng_bd s.data.toList).1
  have h2 := (lng_bd s.data.toList).2
  go_enter Tryd.func92, Tryd.ntmps92
  go_wp2_with fail
  refine (refLong_c s _ hs).mono ?_; rintro e w1 ⟨rfl, hb⟩
  obtain ⟨hc1, hf1⟩ := bcell hb
  have z1 := hb.size
  try simp only [World.size_alloc, World.size_setCell, World.size_drew] at z1
  have hB1 : Below w.heap.size w w1 := below_seq (by repeat (first | exact Below.refl _ _ | refine balloc ?_ _ | refine Below.drew ?_ | refine below_drewN ?_ _ | refine below_set ?_ (by first | omega | (dsimp only; omega)) _)) hb
  clear hb
  go_wp2
  go_ret
  exact ⟨rfl, (by repeat (first | exact hB1 | exact Below.refl _ _ | refine balloc ?_ _ | refine Below.drew ?_ | refine below_drewN ?_ _ | refine below_set ?_ (by first | omega | (dsimp only; omega)) _))⟩
set_option maxHeartbeats 1000000 in
theorem refOf_c (s : ByteArray) (w : World) (hF : FarAt w) (hs : s.size ≤ 140737488351232) : Calls Tryd.prog 70 #[.string s] w fun e w' => e = .returned (spV (hSpot s.data.toList)) ∧ Below w.heap.size w w' := by
  have hF' := Lib.hid hF
  clear hF
  go_enter Tryd.func70, Tryd.ntmps70
  go_wp2
  go_loopw [3] (fun i wr => ∃ k : Nat, k ≤ 256 ∧ i = .int .i64 k ∧ hGo s.data.toList (256 - k) k = hSpot s.data.toList ∧ SpAt wr w.heap.size ⟨0, 0, false⟩ ∧ Below w.heap.size w wr) (fun i _ => 256 - (intOf i).toNat)
  case atStart => exact ⟨0, by omega, rfl, rfl, SpAt.fresh _ _ _ _ _, below_alloc _ _⟩
  case round =>
    obtain ⟨k, hk, rfl, hgo, hr, hB⟩ := hrel
    have hgo := Lib.hid hgo
    by_cases hlt : k < 256
    · have hcv := conv1 (wr.alloc (.cells #[.int .u8 k] 5)) wr.heap.size k (by go_simp)
      have hsz := strOf1 (k : Int)
      have htb := Lib.hid (text_byte s k)
      have hl0 := (lng_bd (s.data.toList ++ [UInt8.ofNat k])).1
      have hl1 := (lng_bd (s.data.toList ++ [UInt8.ofNat k])).2
      go_wp2_with fail
      refine (refLong_c _ _ (by rw [ByteArray.size_append]; omega)).mono ?_; rintro e w1 ⟨rfl, hb⟩
      rw [htb.out]
      have hr1 := (hr.alloc _).below hb
      have hB1 := below_seq (balloc hB _) hb
      clear hr hb hB hcv
      go_wp2_with fail
      change Calls _ _ #[.int .i64 (hX s.data.toList k)] _ _
      cases hq : isSq (height (hX s.data.toList k))
      · refine (refLift_n _ _ (hX_in _ _) hq).mono ?_; rintro e w2 ⟨rfl, hb⟩
        have hr2 := hr1.below hb
        have hB2 := below_seq hB1 hb
        have hm := Lib.hid (hGo_miss hlt (Or.inl hq))
        clear hr1 hb hB1 hl0 hl1 hq
        go_wp2
        go_roundw
        case rel => exact ⟨k + 1, by omega, by go_num, by rw [← hm.out]; exact hgo.out, hr2.alloc _, balloc hB2 _⟩
        case measure => simp [intOf]; omega
      · refine (refLift_y _ (lifted (hX s.data.toList k)) _ (hX_in _ _) hq rfl).mono ?_; rintro e w2 ⟨rfl, hb⟩
        have hr2 := hr1.below hb
        have hB2 := below_seq hB1 hb
        have hok := lifted_ok (hX_in s.data.toList k) hq
        have hQ := Lib.hid hq
        clear hr1 hb hB1 hl0 hl1 hq
        generalize hL : lifted (hX s.data.toList k) = L at *
        have hL := Lib.hid hL
        go_wp2_with fail
        refine (refFour_c L _ hok).mono ?_; rintro e w3 ⟨rfl, hb⟩
        have hr3 := (hr2.alloc _).below hb
        have hB3 := below_seq (balloc hB2 _) hb
        clear hr2 hb hB2 hok
        cases hf : (sFour L).far
        · have hm : Hid (sFour L = hSpot s.data.toList) := by
            show _ = _
            rw [← hgo.out, hGo_hit hlt hQ.out (by rw [hL.out]; exact hf), hL.out]
          obtain ⟨r0, r1, r2, fr0, fr1, fr2, hrl⟩ := hr3
          generalize hS : sFour L = S at *
          have hS := Lib.hid hS
          go_wp2
          have k := set3_cell (w := w3) (x := .int .i64 S.x) (y := .int .i64 S.y) (z := .bool false) r0 r1 r2
          refine bodyPost_ret (v := spV S) (by simp [results, Tryd.results70, go_sem, k.1, k.2.1, k.2.2, hf, hrl]) rfl ⟨by rw [hm.out], balloc (set3_below hB3 (by omega)) _⟩
        · have hm := Lib.hid (hGo_miss hlt (Or.inr (by rw [hL.out]; exact hf)))
          go_wp2
          go_roundw
          case rel => exact ⟨k + 1, by omega, by go_num, by rw [← hm.out]; exact hgo.out, hr3.alloc _, balloc hB3 _⟩
          case measure => simp [intOf]; omega
    · obtain rfl : k = 256 := by omega
      have hm : Hid (sq 4 = hSpot s.data.toList) := by show _ = _; rw [← hgo.out, hGo_end]
      go_wp2_with fail
      refine (refBase_c _).mono ?_; rintro e w1 ⟨rfl, hb⟩
      have hr1 := hr.below hb
      have hB1 := below_seq hB hb
      clear hr hb hB
      obtain ⟨r0, r1, r2, fr0, fr1, fr2, hrl⟩ := hr1
      go_wp2
      have k := set3_cell (w := w1) (x := .int .i64 (sq 4).x) (y := .int .i64 (sq 4).y) (z := .bool (sq 4).far) r0 r1 r2
      refine bodyPost_ret (v := spV (sq 4)) (by simp [results, Tryd.results70, go_sem, k.1, k.2.1, k.2.2]) rfl ⟨by rw [hm.out], set3_below hB1 (by omega)⟩
end Go.Proofs.YtfnifdmnbccblaaDoor
namespace Go.Proofs.YtfnifdmnbccblaaDoor
open Go.RowKit
set_option maxRecDepth 100000
set_option linter.unusedVariables false
set_option linter.unusedSimpArgs false
theorem ord_dvd {u n : Int} (d : Int) (h1 : 1 ≤ n) (hn : (sq (u * n)).far = true) (hm : ∀ j : Int, 1 ≤ j → j < n → (sq (u * j)).far = false) : (sq (u * d)).far = true ↔ d % n = 0 := by
  have a := sq_far.mp hn
  constructor
  · intro h
    have b := sq_far.mp h
    by_cases e : d % n = 0
    · exact e
    · exfalso
      have r0 : 0 ≤ d % n := Int.emod_nonneg _ (by omega)
      have r1 : d % n < n := Int.emod_lt_of_pos _ (by omega)
      have k := hm (d % n) (by omega) r1
      have e3 : (u * (d % n)) % 4052 = 0 := by
        have e2 : u * (d % n) = u * d - u * n * (d / n) := by rw [Int.emod_def, Int.mul_sub, Int.mul_assoc]
        obtain ⟨x, hx⟩ := Int.dvd_of_emod_eq_zero a
        obtain ⟨y, hy⟩ := Int.dvd_of_emod_eq_zero b
        rw [e2, hx, hy, Int.mul_assoc, ← Int.mul_sub]; exact Int.mul_emod_right _ _
      rw [sq_far.mpr e3] at k; exact Bool.noConfusion k
  · intro h
    apply sq_far.mpr
    obtain ⟨x, hx⟩ := Int.dvd_of_emod_eq_zero a
    obtain ⟨y, hy⟩ := Int.dvd_of_emod_eq_zero h
    rw [hy, ← Int.mul_assoc, hx, Int.mul_assoc]; exact Int.mul_emod_right _ _
def dNat (m : Nat) : Bool := 4052 % m != 0 || m == 1 || m == 2 || m == 4 || m == 1013 || m == 2026 || m == 4052
theorem d_0 : allB dNat 0 2000 = true := by decide +kernel
theorem d_1 : allB dNat 2000 2053 = true := by decide +kernel
theorem div_52 {n : Int} (h1 : 1 ≤ n) (h : 4052 % n = 0) : n = 1 ∨ n = 2 ∨ n = 4 ∨ n = 1013 ∨ n = 2026 ∨ n = 4052 := by
  have hd : n ≤ 4052 := Int.le_of_dvd (by decide) (Int.dvd_of_emod_eq_zero h)
  have key : dNat n.toNat = true := by
    by_cases c : n < 2000
    · exact allB_at dNat 0 2000 d_0 n.toNat (by omega) (by omega)
    · exact allB_at dNat 2000 2053 d_1 n.toNat (by omega) (by omega)
  have hz : (4052 % n.toNat : Nat) = 0 := by
    have : ((4052 % n.toNat : Nat) : Int) = 0 := by rw [Int.natCast_emod, Int.toNat_of_nonneg (by omega)]; exact h
    omega
  unfold dNat at key
  rw [hz] at key
  simp at key
  omega
theorem ord_is {u n : Int} (h1 : 1 ≤ n) (hn : (sq (u * n)).far = true) (hm : ∀ j : Int, 1 ≤ j → j < n → (sq (u * j)).far = false) : n = ordOf u := by
  have dv := fun d => ord_dvd (u := u) d h1 hn hm
  have full : (sq (u * 4052)).far = true := sq_far.mpr (Int.mul_emod_left _ _)
  have six := div_52 h1 ((dv 4052).mp full)
  unfold ordOf
  simp only [dv]
  rcases six with rfl | rfl | rfl | rfl | rfl | rfl <;> decide
set_option maxHeartbeats 1000000 in
theorem refIn_e (a : Sp) (u : Int) (b : Bool) (w : World) (ha : Hid (a = sq u)) (h : Hid ((sq (u * 1013)).far = b)) : Calls Tryd.prog 84 #[spV a] w fun e w' => e = .returned (.bool b) ∧ Below w.heap.size w w' := by
  subst h
  go_enter Tryd.func84, Tryd.ntmps84
  go_wp2_with fail
  refine (refTimes_e a _ u 1013 _ (by omega) (by omega) ha rfl).mono ?_; rintro e w1 ⟨rfl, hb⟩
  obtain ⟨hc1, hf1⟩ := bcell hb
  have z1 := hb.size
  try simp only [World.size_alloc, World.size_setCell, World.size_drew] at z1
  have s1_0 : w.heap.size < w1.heap.size := by omega
  have hB1 : Below w.heap.size w w1 := below_seq (by repeat (first | exact Below.refl _ _ | refine balloc ?_ _ | refine Below.drew ?_ | refine below_drewN ?_ _ | refine below_set ?_ (by first | omega | (dsimp only; omega)) _)) hb
  clear hb
  go_wp2
  go_ret
  exact ⟨rfl, (by repeat (first | exact hB1 | exact Below.refl _ _ | refine balloc ?_ _ | refine Below.drew ?_ | refine below_drewN ?_ _ | refine below_set ?_ (by first | omega | (dsimp only; omega)) _))⟩
theorem refBase_k (w : World) : Calls Tryd.prog 71 #[] w fun e w' => e = .returned (spV ⟨1189, 3667, false⟩) ∧ Below w.heap.size w w' := by
  have := refBase_c w; rw [sq_4] at this; exact this
end Go.Proofs.YtfnifdmnbccblaaDoor
namespace Go.Proofs.YtfnifdmnbccblaaDoor
open Go.RowKit
set_option maxRecDepth 100000
set_option linter.unusedVariables false
set_option linter.unusedSimpArgs false
set_option maxHeartbeats 400000 in
theorem rSecret_y (n : Int) (w : World) (h1 : 1 ≤ n) (h2 : n < 1013) : Calls Tryd.prog 27 #[.int .i64 n] w fun e w' => e = .returned (.bool true) ∧ w = w' := by
  go_enter Tryd.func27, Tryd.ntmps27
  go_wp2
  go_ret
  exact ⟨rfl, rfl⟩
set_option maxHeartbeats 400000 in
theorem rSecret_n (n : Int) (w : World) (h : ¬ (1 ≤ n ∧ n < 1013)) : Calls Tryd.prog 27 #[.int .i64 n] w fun e w' => e = .returned (.bool false) ∧ w = w' := by
  by_cases h1 : 1 ≤ n
  · have h2 : ¬ n < 1013 := fun c => h ⟨h1, c⟩
    clear h
    go_enter Tryd.func27, Tryd.ntmps27
    go_wp2
    go_ret
    exact ⟨rfl, rfl⟩
  · clear h
    go_enter Tryd.func27, Tryd.ntmps27
    go_wp2
    go_ret
    exact ⟨rfl, rfl⟩
set_option maxHeartbeats 400000 in
theorem rRest_y (n : Int) (w : World) (h1 : 0 ≤ n) (h2 : n < 1013) : Calls Tryd.prog 40 #[.int .i64 n] w fun e w' => e = .returned (.bool true) ∧ w = w' := by
  go_enter Tryd.func40, Tryd.ntmps40
  go_wp2
  go_ret
  exact ⟨rfl, rfl⟩
set_option maxHeartbeats 400000 in
theorem rRest_n (n : Int) (w : World) (h : ¬ (0 ≤ n ∧ n < 1013)) : Calls Tryd.prog 40 #[.int .i64 n] w fun e w' => e = .returned (.bool false) ∧ w = w' := by
  by_cases h1 : 0 ≤ n
  · have h2 : ¬ n < 1013 := fun c => h ⟨h1, c⟩
    clear h
    go_enter Tryd.func40, Tryd.ntmps40
    go_wp2
    go_ret
    exact ⟨rfl, rfl⟩
  · clear h
    go_enter Tryd.func40, Tryd.ntmps40
    go_wp2
    go_ret
    exact ⟨rfl, rfl⟩
/-- Both, as Booleans. -/
def secB (n : Int) : Bool := decide (1 ≤ n ∧ n < 1013)
def resB (n : Int) : Bool := decide (0 ≤ n ∧ n < 1013)
theorem rSecret_b (n : Int) (b : Bool) (w : World) (h : Hid (secB n = b)) : Calls Tryd.prog 27 #[.int .i64 n] w fun e w' => e = .returned (.bool b) ∧ w = w' := by
  rw [← h.out]; unfold secB
  by_cases c : 1 ≤ n ∧ n < 1013
  · rw [decide_eq_true c]; exact rSecret_y n w c.1 c.2
  · rw [decide_eq_false c]; exact rSecret_n n w c
theorem rRest_b (n : Int) (b : Bool) (w : World) (h : Hid (resB n = b)) : Calls Tryd.prog 40 #[.int .i64 n] w fun e w' => e = .returned (.bool b) ∧ w = w' := by
  rw [← h.out]; unfold resB
  by_cases c : 0 ≤ n ∧ n < 1013
  · rw [decide_eq_true c]; exact rRest_y n w c.1 c.2
  · rw [decide_eq_false c]; exact rRest_n n w c
theorem refTimes_b (n : Int) (c : Sp) (w : World) (n0 : -9223372036854775808 ≤ n) (n1 : n ≤ 9223372036854775807) (h : Hid (sq (4 * n) = c)) : Calls Tryd.prog 31 #[spV ⟨1189, 3667, false⟩, .int .i64 n] w fun e w' => e = .returned (spV c) ∧ Below w.heap.size w w' :=
  refTimes_e ⟨1189, 3667, false⟩ c 4 n w n0 n1 sq_4.symm h
set_option maxHeartbeats 1000000 in
theorem refBy_e (n : Int) (c : Sp) (w : World) (n0 : -9223372036854775808 ≤ n) (n1 : n ≤ 9223372036854775807) (h : Hid (sq (4 * n) = c)) : Calls Tryd.prog 37 #[.int .i64 n] w fun e w' => e = .returned (spV c) ∧ Below w.heap.size w w' := by
  go_enter Tryd.func37, Tryd.ntmps37
  go_wp2_with fail
  refine (refBase_k _).mono ?_; rintro e w1 ⟨rfl, hb⟩
  obtain ⟨hc1, hf1⟩ := bcell hb
  have z1 := hb.size
  try simp only [World.size_alloc, World.size_setCell, World.size_drew] at z1
  have s1_0 : w.heap.size < w1.heap.size := by omega
  have hB1 : Below w.heap.size w w1 := below_seq (by repeat (first | exact Below.refl _ _ | refine balloc ?_ _ | refine Below.drew ?_ | refine below_drewN ?_ _ | refine below_set ?_ (by first | omega | (dsimp only; omega)) _)) hb
  clear hb
  go_wp2_with fail
  refine (refTimes_b n c _ n0 n1 h).mono ?_; rintro e w2 ⟨rfl, hb⟩
  obtain ⟨hc2, hf2⟩ := bcell hb
  have z2 := hb.size
  try simp only [World.size_alloc, World.size_setCell, World.size_drew] at z2
  have s2_0 : w.heap.size < w2.heap.size := by omega
  have hB2 : Below w.heap.size w w2 := below_seq (by repeat (first | exact hB1 | exact Below.refl _ _ | refine balloc ?_ _ | refine Below.drew ?_ | refine below_drewN ?_ _ | refine below_set ?_ (by first | omega | (dsimp only; omega)) _)) hb
  clear hb
  have r0 : w2.cell? ⟨w.heap.size, 0, none⟩ = some (.int .i64 0) := by go_simp
  have r1 : w2.cell? ⟨w.heap.size, 1, none⟩ = some (.int .i64 0) := by go_simp
  have r2 : w2.cell? ⟨w.heap.size, 2, none⟩ = some (.bool false) := by go_simp
  go_wp2
  have k := set3_cell (w := w2) (x := .int .i64 (c).x) (y := .int .i64 (c).y) (z := .bool (c).far) r0 r1 r2
  refine bodyPost_ret (v := spV (c)) (by simp [results, Tryd.results37, go_sem, k.1, k.2.1, k.2.2]) rfl ⟨rfl, set3_below (by repeat (first | exact hB2 | exact Below.refl _ _ | refine balloc ?_ _ | refine Below.drew ?_ | refine below_drewN ?_ _ | refine below_set ?_ (by first | omega | (dsimp only; omega)) _)) (by omega)⟩
set_option maxHeartbeats 2000000 in
theorem refSum_e (n m u : Int) (s A B C : Sp) (w : World) (n0 : -9223372036854775808 ≤ n) (n1 : n ≤ 9223372036854775807) (m0 : -9223372036854775808 ≤ m) (m1 : m ≤ 9223372036854775807) (hs : Hid (s = sq u)) (hA : Hid (sq (4 * n) = A)) (hB' : Hid (sq (u * m) = B)) (oA : Ok A) (oB : Ok B) (hC : Hid (sSum A B = C)) : Calls Tryd.prog 29 #[.int .i64 n, .int .i64 m, spV s] w fun e w' => e = .returned (spV C) ∧ Below w.heap.size w w' := by
  go_enter Tryd.func29, Tryd.ntmps29
  go_wp2_with fail
  refine (refBase_k _).mono ?_; rintro e w1 ⟨rfl, hb⟩
  obtain ⟨hc1, hf1⟩ := bcell hb
  have z1 := hb.size
  try simp only [World.size_alloc, World.size_setCell, World.size_drew] at z1
  have s1_0 : w.heap.size < w1.heap.size := by omega
  have s1_1 : w.heap.size + 1 < w1.heap.size := by omega
  have hB1 : Below w.heap.size w w1 := below_seq (by repeat (first | exact Below.refl _ _ | refine balloc ?_ _ | refine Below.drew ?_ | refine below_drewN ?_ _ | refine below_set ?_ (by first | omega | (dsimp only; omega)) _)) hb
  clear hb
  go_wp2_with fail
  refine (refTimes_b n A _ n0 n1 hA).mono ?_; rintro e w2 ⟨rfl, hb⟩
  obtain ⟨hc2, hf2⟩ := bcell hb
  have z2 := hb.size
  try simp only [World.size_alloc, World.size_setCell, World.size_drew] at z2
  have s2_0 : w.heap.size < w2.heap.size := by omega
  have s2_1 : w.heap.size + 1 < w2.heap.size := by omega
  have hB2 : Below w.heap.size w w2 := below_seq (by repeat (first | exact hB1 | exact Below.refl _ _ | refine balloc ?_ _ | refine Below.drew ?_ | refine below_drewN ?_ _ | refine below_set ?_ (by first | omega | (dsimp only; omega)) _)) hb
  clear hb
  go_wp2_with fail
  refine (refTimes_e s B u m _ m0 m1 hs hB').mono ?_; rintro e w3 ⟨rfl, hb⟩
  obtain ⟨hc3, hf3⟩ := bcell hb
  have z3 := hb.size
  try simp only [World.size_alloc, World.size_setCell, World.size_drew] at z3
  have s3_0 : w.heap.size < w3.heap.size := by omega
  have s3_1 : w.heap.size + 1 < w3.heap.size := by omega
  have s3_2 : w2.heap.size < w3.heap.size := by omega
  have hB3 : Below w.heap.size w w3 := below_seq (by repeat (first | exact hB2 | exact Below.refl _ _ | refine balloc ?_ _ | refine Below.drew ?_ | refine below_drewN ?_ _ | refine below_set ?_ (by first | omega | (dsimp only; omega)) _)) hb
  clear hb
  have m3_0_0 : w3.cell? ⟨w2.heap.size, 0, none⟩ = some (.int .i64 A.x) := by go_simp
  have m3_0_1 : w3.cell? ⟨w2.heap.size, 1, none⟩ = some (.int .i64 A.y) := by go_simp
  have m3_0_2 : w3.cell? ⟨w2.heap.size, 2, none⟩ = some (.bool A.far) := by go_simp
  go_wp2_with fail
  refine (refAdd_e A B C _ oA oB hC).mono ?_; rintro e w4 ⟨rfl, hb⟩
  obtain ⟨hc4, hf4⟩ := bcell hb
  have z4 := hb.size
  try simp only [World.size_alloc, World.size_setCell, World.size_drew] at z4
  have s4_0 : w.heap.size < w4.heap.size := by omega
  have s4_1 : w.heap.size + 1 < w4.heap.size := by omega
  have s4_2 : w2.heap.size < w4.heap.size := by omega
  have s4_3 : w3.heap.size < w4.heap.size := by omega
  have hB4 : Below w.heap.size w w4 := below_seq (by repeat (first | exact hB3 | exact Below.refl _ _ | refine balloc ?_ _ | refine Below.drew ?_ | refine below_drewN ?_ _ | refine below_set ?_ (by first | omega | (dsimp only; omega)) _)) hb
  clear hb
  have m4_0_0 : w4.cell? ⟨w2.heap.size, 0, none⟩ = some (.int .i64 A.x) := by go_simp
  have m4_0_1 : w4.cell? ⟨w2.heap.size, 1, none⟩ = some (.int .i64 A.y) := by go_simp
  have m4_0_2 : w4.cell? ⟨w2.heap.size, 2, none⟩ = some (.bool A.far) := by go_simp
  have m4_1_0 : w4.cell? ⟨w3.heap.size, 0, none⟩ = some (.int .i64 B.x) := by go_simp
  have m4_1_1 : w4.cell? ⟨w3.heap.size, 1, none⟩ = some (.int .i64 B.y) := by go_simp
  have m4_1_2 : w4.cell? ⟨w3.heap.size, 2, none⟩ = some (.bool B.far) := by go_simp
  clear m3_0_0 m3_0_1 m3_0_2
  have r0 : w4.cell? ⟨w.heap.size + 1, 0, none⟩ = some (.int .i64 0) := by go_simp
  have r1 : w4.cell? ⟨w.heap.size + 1, 1, none⟩ = some (.int .i64 0) := by go_simp
  have r2 : w4.cell? ⟨w.heap.size + 1, 2, none⟩ = some (.bool false) := by go_simp
  go_wp2
  have k := set3_cell (w := w4) (x := .int .i64 (C).x) (y := .int .i64 (C).y) (z := .bool (C).far) r0 r1 r2
  refine bodyPost_ret (v := spV (C)) (by simp [results, Tryd.results29, go_sem, k.1, k.2.1, k.2.2]) rfl ⟨rfl, set3_below (by repeat (first | exact hB4 | exact Below.refl _ _ | refine balloc ?_ _ | refine Below.drew ?_ | refine below_drewN ?_ _ | refine below_set ?_ (by first | omega | (dsimp only; omega)) _)) (by omega)⟩
set_option maxHeartbeats 1000000 in
theorem rAsk_e (r key : Sp) (t : ByteArray) (c : Int) (w : World) (hr : Ok r) (hk : Ok key) (hz : t.size ≤ 60) (h : Hid (askN r key t.data.toList = c)) : Calls Tryd.prog 28 #[spV r, spV key, .string t] w fun e w' => e = .returned (.int .i64 c) ∧ Below w.heap.size w w' := by
  rw [← h.out]
  have z1 := sBytes_size r
  have z2 := sBytes_size key
  have n1 : ¬ (9223372036854775807 < (sBytes r).size + (sBytes key).size) := by omega
  have n2 : ¬ (9223372036854775807 < (sBytes r).size + (sBytes key).size + t.size) := by omega
  have z4 : Hid ((sBytes r ++ sBytes key ++ t).size ≤ 9223372036854775807) := by show _ ≤ _; rw [ByteArray.size_append, ByteArray.size_append]; omega
  go_enter Tryd.func28, Tryd.ntmps28
  go_wp2_with fail
  refine wp_region_grow Tryd.mixed (by kernel_rfl) ?_
  repeat (quiet_step ((first | (go_at_call 93; exact grow_of (refBytes_c _ _ (by assumption))) | (go_at_call 92; exact grow_of (refNumber_c _ _ z4.out)))))
  refine wpQuiet_nil ?_
  intro _ hw'
  obtain ⟨x, rfl⟩ := hw'
  go_wp2
  go_ret
  exact ⟨rfl, below_seq (balloc (below_alloc _ _) _) x.h⟩
end Go.Proofs.YtfnifdmnbccblaaDoor
namespace Go.Proofs.YtfnifdmnbccblaaDoor
open Go.RowKit
set_option maxRecDepth 100000
set_option linter.unusedVariables false
set_option linter.unusedSimpArgs false
set_option maxHeartbeats 1000000 in
theorem right_y (R : Sp) (S : Int) (w : World) (hF : FarAt w) (hR : Ok R) (s0 : 0 ≤ S) (s1 : S < 1013) : Calls Tryd.prog 99 #[slV R S] w fun e w' => e = .returned .nilIface ∧ Below w.heap.size w w' := by
  go_enter Tryd.func99, Tryd.ntmps99
  go_wp2_with fail
  refine (check_ok R _ (hF.below (by repeat (first | exact Below.refl _ _ | refine balloc ?_ _ | refine Below.drew ?_ | refine below_drewN ?_ _ | refine below_set ?_ (by first | omega | (dsimp only; omega)) _))) hR).mono ?_; rintro e w1 ⟨rfl, hb⟩
  obtain ⟨hc1, hf1⟩ := bcell hb
  have z1 := hb.size
  try simp only [World.size_alloc, World.size_setCell, World.size_drew] at z1
  have s1_0 : w.heap.size < w1.heap.size := by omega
  have hB1 : Below w.heap.size w w1 := below_seq (by repeat (first | exact Below.refl _ _ | refine balloc ?_ _ | refine Below.drew ?_ | refine below_drewN ?_ _ | refine below_set ?_ (by first | omega | (dsimp only; omega)) _)) hb
  clear hb
  go_wp2_with fail
  refine (rest_y S _ s0 s1).mono ?_; rintro e w' ⟨rfl, rfl⟩
  go_wp2
  go_ret
  exact ⟨rfl, (by repeat (first | exact hB1 | exact Below.refl _ _ | refine balloc ?_ _ | refine Below.drew ?_ | refine below_drewN ?_ _ | refine below_set ?_ (by first | omega | (dsimp only; omega)) _))⟩
set_option maxHeartbeats 1000000 in
theorem fill_y (R : Sp) (S t T : Int) (w : World) (hF : FarAt w) (hR : Ok R) (s0 : 0 ≤ S) (s1 : S < 1013) (t0 : 0 ≤ t) (t1 : t < 1013) (hT : (S + t) % 1013 = T) : Calls Tryd.prog 41 #[slV R S, .int .i64 t] w fun e w' => e = .returned (.tuple #[slV R T, .nilIface]) ∧ Below w.heap.size w w' := by
  subst hT
  go_enter Tryd.func41, Tryd.ntmps41
  go_wp2_with fail
  refine (right_y R S _ (hF.below (by repeat (first | exact Below.refl _ _ | refine balloc ?_ _ | refine Below.drew ?_ | refine below_drewN ?_ _ | refine below_set ?_ (by first | omega | (dsimp only; omega)) _))) hR s0 s1).mono ?_; rintro e w1 ⟨rfl, hb⟩
  obtain ⟨hc1, hf1⟩ := bcell hb
  have z1 := hb.size
  try simp only [World.size_alloc, World.size_setCell, World.size_drew] at z1
  have s1_0 : w.heap.size < w1.heap.size := by omega
  have s1_1 : w.heap.size + 1 < w1.heap.size := by omega
  have hB1 : Below w.heap.size w w1 := below_seq (by repeat (first | exact Below.refl _ _ | refine balloc ?_ _ | refine Below.drew ?_ | refine below_drewN ?_ _ | refine below_set ?_ (by first | omega | (dsimp only; omega)) _)) hb
  clear hb
  go_wp2_with fail
  refine (rest_y t _ t0 t1).mono ?_; rintro e w' ⟨rfl, rfl⟩
  have r0 : w1.cell? ⟨w.heap.size + 1, 0, none⟩ = some (.int .i64 0) := by go_simp
  have r1 : w1.cell? ⟨w.heap.size + 1, 1, none⟩ = some (.int .i64 0) := by go_simp
  have r2 : w1.cell? ⟨w.heap.size + 1, 2, none⟩ = some (.bool false) := by go_simp
  have r3 : w1.cell? ⟨w.heap.size + 1, 3, none⟩ = some (.int .i64 0) := by go_simp
  go_wp2
  have k := set4_cell (w := w1) (x := .int .i64 R.x) (y := .int .i64 R.y) (z := .bool R.far) (p := .int .i64 ((S + t) % 1013)) r0 r1 r2 r3
  refine bodyPost_ret (v := .tuple #[slV R ((S + t) % 1013), .nilIface]) (by simp [results, Tryd.results41, go_sem, k.1, k.2.1, k.2.2.1, k.2.2.2]) rfl ⟨rfl, set4_below (by repeat (first | exact hB1 | exact Below.refl _ _ | refine balloc ?_ _ | refine Below.drew ?_ | refine below_drewN ?_ _ | refine below_set ?_ (by first | omega | (dsimp only; omega)) _)) (by omega)⟩
set_option maxHeartbeats 1000000 in
theorem fill_n (R : Sp) (S t : Int) (w : World) (hF : FarAt w) (hR : Ok R) (s0 : 0 ≤ S) (s1 : S < 1013) (h : ¬ (0 ≤ t ∧ t < 1013)) : Calls Tryd.prog 41 #[slV R S, .int .i64 t] w fun e w' => e = .returned (.tuple #[slV ⟨0, 0, false⟩ 0, .iface 118 (.int .i64 1)]) ∧ Below w.heap.size w w' := by
  go_enter Tryd.func41, Tryd.ntmps41
  go_wp2_with fail
  refine (right_y R S _ (hF.below (by repeat (first | exact Below.refl _ _ | refine balloc ?_ _ | refine Below.drew ?_ | refine below_drewN ?_ _ | refine below_set ?_ (by first | omega | (dsimp only; omega)) _))) hR s0 s1).mono ?_; rintro e w1 ⟨rfl, hb⟩
  obtain ⟨hc1, hf1⟩ := bcell hb
  have z1 := hb.size
  try simp only [World.size_alloc, World.size_setCell, World.size_drew] at z1
  have s1_0 : w.heap.size < w1.heap.size := by omega
  have s1_1 : w.heap.size + 1 < w1.heap.size := by omega
  have hB1 : Below w.heap.size w w1 := below_seq (by repeat (first | exact Below.refl _ _ | refine balloc ?_ _ | refine Below.drew ?_ | refine below_drewN ?_ _ | refine below_set ?_ (by first | omega | (dsimp only; omega)) _)) hb
  clear hb
  go_wp2_with fail
  refine (rest_n t _ h).mono ?_; rintro e w' ⟨rfl, rfl⟩
  have r0 : w1.cell? ⟨w.heap.size + 1, 0, none⟩ = some (.int .i64 0) := by go_simp
  have r1 : w1.cell? ⟨w.heap.size + 1, 1, none⟩ = some (.int .i64 0) := by go_simp
  have r2 : w1.cell? ⟨w.heap.size + 1, 2, none⟩ = some (.bool false) := by go_simp
  have r3 : w1.cell? ⟨w.heap.size + 1, 3, none⟩ = some (.int .i64 0) := by go_simp
  go_wp2
  have k := set4_cell (w := w1) (x := .int .i64 0) (y := .int .i64 0) (z := .bool false) (p := .int .i64 0) r0 r1 r2 r3
  refine bodyPost_ret (v := .tuple #[slV ⟨0, 0, false⟩ 0, .iface 118 (.int .i64 1)]) (by simp [results, Tryd.results41, go_sem, k.1, k.2.1, k.2.2.1, k.2.2.2]) rfl ⟨rfl, set4_below (by repeat (first | exact hB1 | exact Below.refl _ _ | refine balloc ?_ _ | refine Below.drew ?_ | refine below_drewN ?_ _ | refine below_set ?_ (by first | omega | (dsimp only; omega)) _)) (by omega)⟩
set_option maxHeartbeats 1000000 in
theorem find2_y (R : Sp) (S T n : Int) (w : World) (hF : FarAt w) (hR : Ok R) (s0 : 0 ≤ S) (s1 : S < 1013) (t0 : 0 ≤ T) (t1 : T < 1013) (hn : (T - S + 1013) % 1013 = n) : Calls Tryd.prog 43 #[slV R S, slV R T] w fun e w' => e = .returned (.tuple #[.int .i64 n, .nilIface]) ∧ Below w.heap.size w w' := by
  subst hn
  go_enter Tryd.func43, Tryd.ntmps43
  go_wp2_with fail
  refine (all_ok [R, R] _ 0 2 _ (hF.below (by repeat (first | exact Below.refl _ _ | refine balloc ?_ _ | refine Below.drew ?_ | refine below_drewN ?_ _ | refine below_set ?_ (by first | omega | (dsimp only; omega)) _))) (by simp) (spots_two R R _ _ (by simp) (by go_simp) (by go_simp) (by go_simp) (by go_simp) (by go_simp) (by go_simp)) (ok_two hR hR)).mono ?_; rintro e w1 ⟨rfl, hb⟩
  obtain ⟨hc1, hf1⟩ := bcell hb
  have z1 := hb.size
  try simp only [World.size_alloc, World.size_setCell, World.size_drew] at z1
  have s1_0 : w.heap.size < w1.heap.size := by omega
  have s1_1 : w.heap.size + 1 < w1.heap.size := by omega
  have s1_2 : w.heap.size + 1 + 1 < w1.heap.size := by omega
  have hB1 : Below w.heap.size w w1 := below_seq (by repeat (first | exact Below.refl _ _ | refine balloc ?_ _ | refine Below.drew ?_ | refine below_drewN ?_ _ | refine below_set ?_ (by first | omega | (dsimp only; omega)) _)) hb
  clear hb
  go_wp2_with fail
  refine (rest_y S _ s0 s1).mono ?_; rintro e w' ⟨rfl, rfl⟩
  go_wp2_with fail
  refine (rest_y T _ t0 t1).mono ?_; rintro e w' ⟨rfl, rfl⟩
  go_wp2
  go_ret2
  exact ⟨rfl, (by repeat (first | exact hB1 | exact Below.refl _ _ | refine balloc ?_ _ | refine Below.drew ?_ | refine below_drewN ?_ _ | refine below_set ?_ (by first | omega | (dsimp only; omega)) _))⟩
set_option maxHeartbeats 1000000 in
theorem find2_n (R Q : Sp) (S T : Int) (w : World) (hF : FarAt w) (hR : Ok R) (hQ : Ok Q) (hne : Sp.beq R Q = false) (s0 : 0 ≤ S) (s1 : S < 1013) (t0 : 0 ≤ T) (t1 : T < 1013) : Calls Tryd.prog 43 #[slV R S, slV Q T] w fun e w' => e = .returned (.tuple #[.int .i64 0, .iface 118 (.int .i64 3)]) ∧ Below w.heap.size w w' := by
  go_enter Tryd.func43, Tryd.ntmps43
  go_wp2_with fail
  refine (all_ok [R, Q] _ 0 2 _ (hF.below (by repeat (first | exact Below.refl _ _ | refine balloc ?_ _ | refine Below.drew ?_ | refine below_drewN ?_ _ | refine below_set ?_ (by first | omega | (dsimp only; omega)) _))) (by simp) (spots_two R Q _ _ (by simp) (by go_simp) (by go_simp) (by go_simp) (by go_simp) (by go_simp) (by go_simp)) (ok_two hR hQ)).mono ?_; rintro e w1 ⟨rfl, hb⟩
  obtain ⟨hc1, hf1⟩ := bcell hb
  have z1 := hb.size
  try simp only [World.size_alloc, World.size_setCell, World.size_drew] at z1
  have s1_0 : w.heap.size < w1.heap.size := by omega
  have s1_1 : w.heap.size + 1 < w1.heap.size := by omega
  have s1_2 : w.heap.size + 1 + 1 < w1.heap.size := by omega
  have hB1 : Below w.heap.size w w1 := below_seq (by repeat (first | exact Below.refl _ _ | refine balloc ?_ _ | refine Below.drew ?_ | refine below_drewN ?_ _ | refine below_set ?_ (by first | omega | (dsimp only; omega)) _)) hb
  clear hb
  go_wp2_with fail
  refine (rest_y S _ s0 s1).mono ?_; rintro e w' ⟨rfl, rfl⟩
  go_wp2_with fail
  refine (rest_y T _ t0 t1).mono ?_; rintro e w' ⟨rfl, rfl⟩
  go_wp2
  go_ret2
  exact ⟨rfl, (by repeat (first | exact hB1 | exact Below.refl _ _ | refine balloc ?_ _ | refine Below.drew ?_ | refine below_drewN ?_ _ | refine below_set ?_ (by first | omega | (dsimp only; omega)) _))⟩
set_option maxHeartbeats 2000000 in
theorem acheck_y (key T R O Z : Sp) (S : Int) (b : Bool) (t : ByteArray) (w : World) (hF : FarAt w) (hk : Ok key) (hT : Ok T) (hR : Ok R) (hz : t.size ≤ 60) (s0 : 0 ≤ S) (s1 : S < 1013)
    (hO : Hid (∀ w1 : World, FarAt w1 → Calls Tryd.prog 96 #[spV key, .string t, slV R S] w1 fun e w' => e = .returned (spV O) ∧ Below w1.heap.size w1 w')) (oO : Ok O) (hZ : Hid (sSum O T = Z)) (hb : Z.far = b) :
    Calls Tryd.prog 39 #[spV key, spV T, .string t, slV R S] w fun e w' => e = .returned (.tuple #[.bool b, .nilIface]) ∧ Below w.heap.size w w' := by
  subst hb
  go_enter Tryd.func39, Tryd.ntmps39
  go_wp2_with fail
  refine (sealCheck_ok key R S t _ (hF.below (by repeat (first | exact Below.refl _ _ | refine balloc ?_ _ | refine Below.drew ?_ | refine below_drewN ?_ _ | refine below_set ?_ (by first | omega | (dsimp only; omega)) _))) hk hR hz s0 s1).mono ?_; rintro e w1 ⟨rfl, hb⟩
  obtain ⟨hc1, hf1⟩ := bcell hb
  have z1 := hb.size
  try simp only [World.size_alloc, World.size_setCell, World.size_drew] at z1
  have s1_0 : w.heap.size < w1.heap.size := by omega
  have s1_1 : w.heap.size + 1 < w1.heap.size := by omega
  have s1_2 : w.heap.size + 1 + 1 < w1.heap.size := by omega
  have hB1 : Below w.heap.size w w1 := below_seq (by repeat (first | exact Below.refl _ _ | refine balloc ?_ _ | refine Below.drew ?_ | refine below_drewN ?_ _ | refine below_set ?_ (by first | omega | (dsimp only; omega)) _)) hb
  clear hb
  go_wp2_with fail
  refine (check_ok T _ (hF.below (by repeat (first | exact hB1 | exact Below.refl _ _ | refine balloc ?_ _ | refine Below.drew ?_ | refine below_drewN ?_ _ | refine below_set ?_ (by first | omega | (dsimp only; omega)) _))) hT).mono ?_; rintro e w2 ⟨rfl, hb⟩
  obtain ⟨hc2, hf2⟩ := bcell hb
  have z2 := hb.size
  try simp only [World.size_alloc, World.size_setCell, World.size_drew] at z2
  have s2_0 : w.heap.size < w2.heap.size := by omega
  have s2_1 : w.heap.size + 1 < w2.heap.size := by omega
  have s2_2 : w.heap.size + 1 + 1 < w2.heap.size := by omega
  have hB2 : Below w.heap.size w w2 := below_seq (by repeat (first | exact hB1 | exact Below.refl _ _ | refine balloc ?_ _ | refine Below.drew ?_ | refine below_drewN ?_ _ | refine below_set ?_ (by first | omega | (dsimp only; omega)) _)) hb
  clear hb
  go_wp2_with fail
  refine wp_region_grow Tryd.mixed (by kernel_rfl) ?_
  repeat (quiet_step ((first | (go_at_call 96; exact grow_of (hO.out _ (hF.below (below_seq (by repeat (first | exact hB2 | exact Below.refl _ _ | refine balloc ?_ _ | refine Below.drew ?_ | refine below_drewN ?_ _ | refine below_set ?_ (by first | omega | (dsimp only; omega)) _)) (Grew.h _))))) | (go_at_call 83; exact grow_of (sum_e O T Z _ (hF.below (below_seq (by repeat (first | exact hB2 | exact Below.refl _ _ | refine balloc ?_ _ | refine Below.drew ?_ | refine below_drewN ?_ _ | refine below_set ?_ (by first | omega | (dsimp only; omega)) _)) (Grew.h _))) oO hT hZ)))))
  refine wpQuiet_nil ?_
  intro _ hw'
  obtain ⟨x3, rfl⟩ := hw'
  have z3 := x3.h.size
  try simp only [World.size_alloc, World.size_setCell, World.size_drew] at z3
  have s3_0 : w.heap.size < x3.w.heap.size := by omega
  have s3_1 : w.heap.size + 1 < x3.w.heap.size := by omega
  have s3_2 : w.heap.size + 1 + 1 < x3.w.heap.size := by omega
  have hB3 : Below w.heap.size w x3.w := below_seq (by repeat (first | exact hB2 | exact Below.refl _ _ | refine balloc ?_ _ | refine Below.drew ?_ | refine below_drewN ?_ _ | refine below_set ?_ (by first | omega | (dsimp only; omega)) _)) x3.h
  go_wp2
  go_ret2
  exact ⟨rfl, (by repeat (first | exact hB3 | exact Below.refl _ _ | refine balloc ?_ _ | refine Below.drew ?_ | refine below_drewN ?_ _ | refine below_set ?_ (by first | omega | (dsimp only; omega)) _))⟩
/-- What seal.Off comes to. -/
theorem off_e (key R : Sp) (a r c S : Int) (t : ByteArray) (hz : t.size ≤ 60) (ha : Hid (key = sq a)) (hr : Hid (R = sq r)) (hc : Hid (askN R key t.data.toList = c)) (w : World) (hF : FarAt w) :
    Calls Tryd.prog 96 #[spV key, .string t, slV R S] w fun e w' => e = .returned (spV (sq (4 * S + -(r + a * c)))) ∧ Below w.heap.size w w' := by
  have oR : Ok R := ok_of hr.out
  have oK : Ok key := ok_of ha.out
  refine sealOff_ok key R _ _ (sq (r + a * c)) _ (sq (4 * S + -(r + a * c))) a c S t w hF oK oR hz hc ha rfl rfl ?_ rfl ?_ (sq_ok _) (sq_ok _) (sq_ok _) (turned_ok (sq_ok _)).1
  · show _ = _; rw [hr.out, sq_add]
  · show _ = _; rw [sq_neg, sq_add]
theorem acheck_e (key T R : Sp) (a r u c S : Int) (b : Bool) (t : ByteArray) (w : World) (hF : FarAt w) (hz : t.size ≤ 60) (s0 : 0 ≤ S) (s1 : S < 1013) (ha : Hid (key = sq a)) (hr : Hid (R = sq r)) (hu : Hid (T = sq u)) (hc : Hid (askN R key t.data.toList = c)) (hb : Hid ((sq (4 * S + -(r + a * c) + u)).far = b)) :
    Calls Tryd.prog 39 #[spV key, spV T, .string t, slV R S] w fun e w' => e = .returned (.tuple #[.bool b, .nilIface]) ∧ Below w.heap.size w w' := by
  refine acheck_y key T R _ _ S b t w hF (ok_of ha.out) (ok_of hu.out) (ok_of hr.out) hz s0 s1 (fun w1 h1 => off_e key R a r c S t hz ha hr hc w1 h1) (sq_ok _) (by show _ = _; rw [hu.out, sq_add]) hb.out
set_option maxHeartbeats 1000000 in
theorem pre_n1 (x k : Int) (T : Sp) (t : ByteArray) (w : World) (h : ¬ (1 ≤ x ∧ x < 1013)) : Calls Tryd.prog 38 #[.int .i64 x, .int .i64 k, spV T, .string t] w fun e w' => e = .returned (.tuple #[slV ⟨0, 0, false⟩ 0, .iface 118 (.int .i64 1)]) ∧ Below w.heap.size w w' := by
  go_enter Tryd.func38, Tryd.ntmps38
  go_wp2_with fail
  refine (secret_n x _ h).mono ?_; rintro e w' ⟨rfl, rfl⟩
  go_wp2
  refine bodyPost_ret (v := .tuple #[slV ⟨0, 0, false⟩ 0, .iface 118 (.int .i64 1)]) (by simp [results, Tryd.results38, go_sem]) rfl ⟨rfl, (by repeat (first | exact Below.refl _ _ | refine balloc ?_ _ | refine Below.drew ?_ | refine below_drewN ?_ _ | refine below_set ?_ (by first | omega | (dsimp only; omega)) _))⟩
set_option maxHeartbeats 1000000 in
theorem pre_n2 (x k : Int) (T : Sp) (t : ByteArray) (w : World) (x1 : 1 ≤ x) (x2 : x < 1013) (h : ¬ (1 ≤ k ∧ k < 1013)) : Calls Tryd.prog 38 #[.int .i64 x, .int .i64 k, spV T, .string t] w fun e w' => e = .returned (.tuple #[slV ⟨0, 0, false⟩ 0, .iface 118 (.int .i64 1)]) ∧ Below w.heap.size w w' := by
  go_enter Tryd.func38, Tryd.ntmps38
  go_wp2_with fail
  refine (secret_y x _ x1 x2).mono ?_; rintro e w' ⟨rfl, rfl⟩
  go_wp2_with fail
  refine (secret_n k _ h).mono ?_; rintro e w' ⟨rfl, rfl⟩
  go_wp2
  refine bodyPost_ret (v := .tuple #[slV ⟨0, 0, false⟩ 0, .iface 118 (.int .i64 1)]) (by simp [results, Tryd.results38, go_sem]) rfl ⟨rfl, (by repeat (first | exact Below.refl _ _ | refine balloc ?_ _ | refine Below.drew ?_ | refine below_drewN ?_ _ | refine below_set ?_ (by first | omega | (dsimp only; omega)) _))⟩
set_option maxHeartbeats 1000000 in
theorem pre_n3 (x k : Int) (T : Sp) (t : ByteArray) (w : World) (hF : FarAt w) (x1 : 1 ≤ x) (x2 : x < 1013) (k1 : 1 ≤ k) (k2 : k < 1013) (hT : Ok T) (h : 60 < t.size) (hz : t.size ≤ 140737488351232) : Calls Tryd.prog 38 #[.int .i64 x, .int .i64 k, spV T, .string t] w fun e w' => e = .returned (.tuple #[slV ⟨0, 0, false⟩ 0, .iface 118 (.int .i64 4)]) ∧ Below w.heap.size w w' := by
  go_enter Tryd.func38, Tryd.ntmps38
  go_wp2_with fail
  refine (secret_y x _ x1 x2).mono ?_; rintro e w' ⟨rfl, rfl⟩
  go_wp2_with fail
  refine (secret_y k _ k1 k2).mono ?_; rintro e w' ⟨rfl, rfl⟩
  go_wp2_with fail
  refine (check_ok T _ (hF.below (by repeat (first | exact Below.refl _ _ | refine balloc ?_ _ | refine Below.drew ?_ | refine below_drewN ?_ _ | refine below_set ?_ (by first | omega | (dsimp only; omega)) _))) hT).mono ?_; rintro e w1 ⟨rfl, hb⟩
  obtain ⟨hc1, hf1⟩ := bcell hb
  have z1 := hb.size
  try simp only [World.size_alloc, World.size_setCell, World.size_drew] at z1
  have s1_0 : w.heap.size < w1.heap.size := by omega
  have s1_1 : w.heap.size + 1 < w1.heap.size := by omega
  have hB1 : Below w.heap.size w w1 := below_seq (by repeat (first | exact Below.refl _ _ | refine balloc ?_ _ | refine Below.drew ?_ | refine below_drewN ?_ _ | refine below_set ?_ (by first | omega | (dsimp only; omega)) _)) hb
  clear hb
  go_wp2_with fail
  refine (text_n t _ h hz).mono ?_; rintro e w' ⟨rfl, rfl⟩
  have r0 : w1.cell? ⟨w.heap.size + 1, 0, none⟩ = some (.int .i64 0) := by go_simp
  have r1 : w1.cell? ⟨w.heap.size + 1, 1, none⟩ = some (.int .i64 0) := by go_simp
  have r2 : w1.cell? ⟨w.heap.size + 1, 2, none⟩ = some (.bool false) := by go_simp
  have r3 : w1.cell? ⟨w.heap.size + 1, 3, none⟩ = some (.int .i64 0) := by go_simp
  go_wp2
  have k := set4_cell (w := w1) (x := .int .i64 0) (y := .int .i64 0) (z := .bool false) (p := .int .i64 0) r0 r1 r2 r3
  refine bodyPost_ret (v := .tuple #[slV ⟨0, 0, false⟩ 0, .iface 118 (.int .i64 4)]) (by simp [results, Tryd.results38, go_sem, k.1, k.2.1, k.2.2.1, k.2.2.2]) rfl ⟨rfl, set4_below (by repeat (first | exact hB1 | exact Below.refl _ _ | refine balloc ?_ _ | refine Below.drew ?_ | refine below_drewN ?_ _ | refine below_set ?_ (by first | omega | (dsimp only; omega)) _)) (by omega)⟩
theorem SpAt.zero_of {w : World} {b : Nat} (h0 : w.cell? ⟨b, 0, none⟩ = some (.int .i64 0)) (h1 : w.cell? ⟨b, 1, none⟩ = some (.int .i64 0)) (h2 : w.cell? ⟨b, 2, none⟩ = some (.bool false)) (f0 : w.frozen? ⟨b, 0, none⟩ = false) (f1 : w.frozen? ⟨b, 1, none⟩ = false) (f2 : w.frozen? ⟨b, 2, none⟩ = false) (hl : b < w.heap.size) : SpAt w b ⟨0, 0, false⟩ := ⟨h0, h1, h2, f0, f1, f2, hl⟩
end Go.Proofs.YtfnifdmnbccblaaDoor
namespace Go.Proofs.YtfnifdmnbccblaaDoor
open Go.RowKit
set_option maxRecDepth 100000
set_option linter.unusedVariables false
set_option linter.unusedSimpArgs false
theorem hav_ {P Q : Prop} (h : P) (k : P → Q) : Q := k h
set_option maxHeartbeats 4000000 in
theorem pre_core (x k : Int) (T B R K : Sp) (c S : Int) (t : ByteArray) (w : World) (hF : FarAt w) (x1 : 1 ≤ x) (x2 : x < 1013) (k1 : 1 ≤ k) (k2 : k < 1013) (hz : t.size ≤ 60) (hT : Ok T) (hB : Hid (sq (4 * k) = B)) (oB : Ok B) (hR : Hid (sSum B T = R)) (oR : Ok R) (hK : Hid (sq (4 * x) = K)) (oK : Ok K) (hc : Hid (askN R K t.data.toList = c)) (e1 : IntKind.i64.wrap (c * x) = c * x) (e2 : IntKind.i64.wrap (k + c * x) = k + c * x) (e3 : (k + c * x).tmod 1013 = S) :
    Calls Tryd.prog 38 #[.int .i64 x, .int .i64 k, spV T, .string t] w fun e w' => e = .returned (.tuple #[slV R S, .nilIface]) ∧ Below w.heap.size w w' := by
  go_enter Tryd.func38, Tryd.ntmps38
  go_wp2_with fail
  refine (secret_y x _ x1 x2).mono ?_; rintro e w' ⟨rfl, rfl⟩
  go_wp2_with fail
  refine (secret_y k _ k1 k2).mono ?_; rintro e w' ⟨rfl, rfl⟩
  go_wp2_with fail
  refine (check_ok T _ (hF.below (by repeat (first | exact Below.refl _ _ | refine balloc ?_ _ | refine Below.drew ?_ | refine below_drewN ?_ _ | refine below_set ?_ (by first | omega | (dsimp only; omega)) _))) hT).mono ?_; rintro e w1 ⟨rfl, hb⟩
  obtain ⟨hc1, hf1⟩ := bcell hb
  have z1 := hb.size
  try simp only [World.size_alloc, World.size_setCell, World.size_drew] at z1
  have s1_0 : w.heap.size < w1.heap.size := by omega
  have s1_1 : w.heap.size + 1 < w1.heap.size := by omega
  have hB1 : Below w.heap.size w w1 := below_seq (by repeat (first | exact Below.refl _ _ | refine balloc ?_ _ | refine Below.drew ?_ | refine below_drewN ?_ _ | refine below_set ?_ (by first | omega | (dsimp only; omega)) _)) hb
  clear hb
  go_wp2_with fail
  refine (text_y t _ hz).mono ?_; rintro e w' ⟨rfl, rfl⟩
  go_upto_region 8 with fail
  have hFa : FarAt w1 := hF.below hB1
  have t0 : w1.cell? ⟨w.heap.size, 0, none⟩ = some (.int .i64 T.x) := by go_simp
  have t1 : w1.cell? ⟨w.heap.size, 1, none⟩ = some (.int .i64 T.y) := by go_simp
  have t2 : w1.cell? ⟨w.heap.size, 2, none⟩ = some (.bool T.far) := by go_simp
  go_cut [11] (fun s11 wx => ∃ b : Nat, s11 = .pointer (some ⟨b, 0, none⟩) ∧ SpAt wx b R ∧ w1.heap.size ≤ b ∧ Below w1.heap.size w1 wx)
  case first =>
    go_region_with (first | (go_at_call 76; refine (by_e k B _ (hFa.below (by repeat (first | exact Below.refl _ _ | refine balloc ?_ _ | refine Below.drew ?_))) hB).mono ?_; rintro e wa ⟨rfl, ha⟩; have hwa : Below w1.heap.size w1 wa := below_seq (by repeat (first | exact Below.refl _ _ | refine balloc ?_ _ | refine Below.drew ?_)) ha; have hza := hwa.size; have sA0 : w.heap.size < wa.heap.size := Nat.lt_of_lt_of_le s1_0 hza; have ta0 := ((bcell hwa).1 _ 0 s1_0).trans t0; have ta1 := ((bcell hwa).1 _ 1 s1_0).trans t1; have ta2 := ((bcell hwa).1 _ 2 s1_0).trans t2; (first | (refine hav_ (P := SpAt wa w1.heap.size ⟨0, 0, false⟩) (SpAt.below (SpAt.fresh _ _ _ _ _) ha) (fun kA => ?_)) | (refine hav_ (P := SpAt wa w1.heap.size ⟨0, 0, false⟩) (SpAt.below (SpAt.drew (SpAt.fresh _ _ _ _ _)) ha) (fun kA => ?_)) | skip)) | (go_at_call 83; refine (sum_e B T R _ ((hFa.below hwa).below (by repeat (first | exact Below.refl _ _ | refine balloc ?_ _ | refine Below.drew ?_))) oB hT hR).mono ?_; rintro e wb ⟨rfl, hb⟩; have hwb : Below wa.heap.size wa wb := below_seq (by repeat (first | exact Below.refl _ _ | refine balloc ?_ _ | refine Below.drew ?_)) hb; have hzb := hwb.size; have sB0 : w.heap.size < wb.heap.size := Nat.lt_of_lt_of_le sA0 hzb; (first | (have kB := kA.below hwb; obtain ⟨b0, b1, b2, b3, b4, b5, b6⟩ := kA.below hwb) | skip); (first | (refine hav_ (P := SpAt wb wa.heap.size ⟨0, 0, false⟩) (SpAt.below (SpAt.fresh _ _ _ _ _) hb) (fun kC => ?_); obtain ⟨c0, c1, c2, c3, c4, c5, c6⟩ := kC) | (refine hav_ (P := SpAt wb wa.heap.size ⟨0, 0, false⟩) (SpAt.below (SpAt.drew (SpAt.fresh _ _ _ _ _)) hb) (fun kC => ?_); obtain ⟨c0, c1, c2, c3, c4, c5, c6⟩ := kC) | skip)))
    all_goals
      go_wp2_with fail
      go_meet
      have hB2 := below_seq hwa hwb
      first
      | exact ⟨_, rfl, SpAt.fresh _ _ _ _ _, by omega, balloc hB2 _⟩
      | exact ⟨_, rfl, kB.set3 R, by omega, set3_below hB2 (by omega)⟩
      | exact ⟨_, rfl, (SpAt.zero_of (by assumption) (by assumption) (by assumption) (by assumption) (by assumption) (by assumption) (by assumption)).set3 R, by omega, set3_below hB2 (by omega)⟩
  case rest =>
    obtain ⟨b, rfl, hb, hl, hw⟩ := hcut
    have hz2 := hw.size
    have hB2 : Below w.heap.size w wc := below_seq hB1 hw
    obtain ⟨hc2, hf2⟩ := bcell hw
    obtain ⟨b0, b1, b2, b3, b4, b5, b6⟩ := hb
    have s2_0 : w.heap.size < wc.heap.size := by omega
    have s2_1 : w.heap.size + 1 < wc.heap.size := by omega
    have n2_0 : w.heap.size + 1 < b := by omega
    go_wp2_with fail
    refine wp_region_grow_tail 12 Tryd.mixed (by kernel_rfl) ?_
    simp only [List.take_succ_cons, List.take_zero, List.drop_succ_cons, List.drop_zero]
    repeat (quiet_step ((first | (go_at_call 76; exact grow_of (by_e x K _ (hF.below (below_seq (by repeat (first | exact hB2 | exact Below.refl _ _ | refine balloc ?_ _ | refine Below.drew ?_ | refine below_drewN ?_ _ | refine below_set ?_ (by first | omega | (dsimp only; omega)) _)) (Grew.h _))) hK)) | (go_at_call 98; exact grow_of (ask_e R K t c _ oR oK hz hc)))))
    refine wpQuiet_nil ?_
    intro _ hw'
    obtain ⟨x3, rfl⟩ := hw'
    have z3 := x3.h.size
    try simp only [World.size_alloc, World.size_setCell, World.size_drew] at z3
    have s3_0 : w.heap.size < x3.w.heap.size := by omega
    have s3_1 : w.heap.size + 1 < x3.w.heap.size := by omega
    have hB3 : Below w.heap.size w x3.w := below_seq (by repeat (first | exact hB2 | exact Below.refl _ _ | refine balloc ?_ _ | refine Below.drew ?_ | refine below_drewN ?_ _ | refine below_set ?_ (by first | omega | (dsimp only; omega)) _)) x3.h
    have r0 : x3.w.cell? ⟨w.heap.size + 1, 0, none⟩ = some (.int .i64 0) := by go_simp
    have r1 : x3.w.cell? ⟨w.heap.size + 1, 1, none⟩ = some (.int .i64 0) := by go_simp
    have r2 : x3.w.cell? ⟨w.heap.size + 1, 2, none⟩ = some (.bool false) := by go_simp
    have r3 : x3.w.cell? ⟨w.heap.size + 1, 3, none⟩ = some (.int .i64 0) := by go_simp
    clear e1 e2 e3
    go_wp2
    have k := set4_cell (w := x3.w) (x := .int .i64 R.x) (y := .int .i64 R.y) (z := .bool R.far) (p := .int .i64 S) r0 r1 r2 r3
    refine bodyPost_ret (v := .tuple #[slV R S, .nilIface]) (by simp [results, Tryd.results38, go_sem, k.1, k.2.1, k.2.2.1, k.2.2.2]) rfl ⟨rfl, set4_below (by repeat (first | exact hB3 | exact Below.refl _ _ | refine balloc ?_ _ | refine Below.drew ?_ | refine below_drewN ?_ _ | refine below_set ?_ (by first | omega | (dsimp only; omega)) _)) (by omega)⟩
/-- A seal that lacks the secret of T = sq u. -/
theorem pre_e (x k u : Int) (T R K : Sp) (c S : Int) (t : ByteArray) (w : World) (hF : FarAt w) (x1 : 1 ≤ x) (x2 : x < 1013) (k1 : 1 ≤ k) (k2 : k < 1013) (hz : t.size ≤ 60) (hu : Hid (T = sq u)) (hR : Hid (sq (4 * k + u) = R)) (hK : Hid (sq (4 * x) = K)) (hc : Hid (askN R K t.data.toList = c)) (hS : Hid ((k + c * x) % 1013 = S)) :
    Calls Tryd.prog 38 #[.int .i64 x, .int .i64 k, spV T, .string t] w fun e w' => e = .returned (.tuple #[slV R S, .nilIface]) ∧ Below w.heap.size w w' := by
  have hb := askN_bd R K t.data.toList
  rw [hc.out] at hb
  have hm := mul_q hb.1 hb.2 x1 x2
  exact pre_core x k T (sq (4 * k)) R K c S t w hF x1 x2 k1 k2 hz (ok_of hu.out) rfl (sq_ok _) (by show _ = _; rw [hu.out, sq_add]; exact hR.out) (ok_of hR.out.symm) hK (ok_of hK.out.symm) hc (IntWalk.i64_in _ (by omega)) (IntWalk.i64_in _ (by omega)) (by rw [Int.tmod_eq_emod_of_nonneg (by omega)]; exact hS.out)
theorem pre_n (x k : Int) (T : Sp) (t : ByteArray) (hT : Ok T) (hz : t.size ≤ 140737488351232) (h : ¬ (1 ≤ x ∧ x < 1013 ∧ 1 ≤ k ∧ k < 1013 ∧ t.size ≤ 60)) : ∃ E : Int, ∀ w : World, FarAt w → Calls Tryd.prog 38 #[.int .i64 x, .int .i64 k, spV T, .string t] w fun e w' => e = .returned (.tuple #[slV ⟨0, 0, false⟩ 0, .iface 118 (.int .i64 E)]) ∧ Below w.heap.size w w' := by
  by_cases hx : 1 ≤ x ∧ x < 1013
  · by_cases hk : 1 ≤ k ∧ k < 1013
    · exact ⟨4, fun w hF => pre_n3 x k T t w hF hx.1 hx.2 hk.1 hk.2 hT (by omega) hz⟩
    · exact ⟨1, fun w _ => pre_n2 x k T t w hx.1 hx.2 hk⟩
  · exact ⟨1, fun w _ => pre_n1 x k T t w hx⟩
end Go.Proofs.YtfnifdmnbccblaaDoor
namespace Go.Proofs.YtfnifdmnbccblaaDoor
open Go.RowKit
set_option maxRecDepth 100000
set_option linter.unusedVariables false
set_option linter.unusedSimpArgs false
set_option maxHeartbeats 1000000 in
theorem rSeal_4 (key R : Sp) (S : Int) (t : ByteArray) (w : World) (h : 60 < t.size) (hz : t.size ≤ 140737488351232) : Calls Tryd.prog 26 #[spV key, .string t, slV R S] w fun e w' => e = .returned (.int .i64 4) ∧ Below w.heap.size w w' := by
  go_enter Tryd.func26, Tryd.ntmps26
  go_wp2
  go_ret
  exact ⟨rfl, (by repeat (first | exact Below.refl _ _ | refine balloc ?_ _ | refine Below.drew ?_ | refine below_drewN ?_ _ | refine below_set ?_ (by first | omega | (dsimp only; omega)) _))⟩
set_option maxHeartbeats 1000000 in
theorem rSeal_k (key R : Sp) (S n : Int) (B : Bool) (t : ByteArray) (w : World) (hz : t.size ≤ 60) (hn : Hid (sCheck key = n)) (h0 : (n == 0) = false) (hB : Hid (resB S = B)) : Calls Tryd.prog 26 #[spV key, .string t, slV R S] w fun e w' => e = .returned (.int .i64 n) ∧ Below w.heap.size w w' := by
  go_enter Tryd.func26, Tryd.ntmps26
  go_wp2_with fail
  refine (refSpot_e key n _ hn).mono ?_; rintro e w1 ⟨rfl, hb⟩
  obtain ⟨hc1, hf1⟩ := bcell hb
  have z1 := hb.size
  try simp only [World.size_alloc, World.size_setCell, World.size_drew] at z1
  have s1_0 : w.heap.size < w1.heap.size := by omega
  have s1_1 : w.heap.size + 1 < w1.heap.size := by omega
  have hB1 : Below w.heap.size w w1 := below_seq (by repeat (first | exact Below.refl _ _ | refine balloc ?_ _ | refine Below.drew ?_ | refine below_drewN ?_ _ | refine below_set ?_ (by first | omega | (dsimp only; omega)) _)) hb
  clear hb
  go_wp2_with fail
  refine (rRest_b S B _ hB).mono ?_; rintro e w' ⟨rfl, rfl⟩
  go_wp2
  go_ret
  exact ⟨rfl, (by repeat (first | exact hB1 | exact Below.refl _ _ | refine balloc ?_ _ | refine Below.drew ?_ | refine below_drewN ?_ _ | refine below_set ?_ (by first | omega | (dsimp only; omega)) _))⟩
set_option maxHeartbeats 1000000 in
theorem rSeal_r (key R : Sp) (S n : Int) (B : Bool) (t : ByteArray) (w : World) (hz : t.size ≤ 60) (hk : Hid (sCheck key = 0)) (hn : Hid (sCheck R = n)) (h0 : (n == 0) = false) (hB : Hid (resB S = B)) : Calls Tryd.prog 26 #[spV key, .string t, slV R S] w fun e w' => e = .returned (.int .i64 n) ∧ Below w.heap.size w w' := by
  go_enter Tryd.func26, Tryd.ntmps26
  go_wp2_with fail
  refine (refSpot_e key 0 _ hk).mono ?_; rintro e w1 ⟨rfl, hb⟩
  obtain ⟨hc1, hf1⟩ := bcell hb
  have z1 := hb.size
  try simp only [World.size_alloc, World.size_setCell, World.size_drew] at z1
  have s1_0 : w.heap.size < w1.heap.size := by omega
  have s1_1 : w.heap.size + 1 < w1.heap.size := by omega
  have hB1 : Below w.heap.size w w1 := below_seq (by repeat (first | exact Below.refl _ _ | refine balloc ?_ _ | refine Below.drew ?_ | refine below_drewN ?_ _ | refine below_set ?_ (by first | omega | (dsimp only; omega)) _)) hb
  clear hb
  go_wp2_with fail
  refine (refSpot_e R n _ hn).mono ?_; rintro e w2 ⟨rfl, hb⟩
  obtain ⟨hc2, hf2⟩ := bcell hb
  have z2 := hb.size
  try simp only [World.size_alloc, World.size_setCell, World.size_drew] at z2
  have s2_0 : w.heap.size < w2.heap.size := by omega
  have s2_1 : w.heap.size + 1 < w2.heap.size := by omega
  have hB2 : Below w.heap.size w w2 := below_seq (by repeat (first | exact hB1 | exact Below.refl _ _ | refine balloc ?_ _ | refine Below.drew ?_ | refine below_drewN ?_ _ | refine below_set ?_ (by first | omega | (dsimp only; omega)) _)) hb
  clear hb
  go_wp2_with fail
  refine (rRest_b S B _ hB).mono ?_; rintro e w' ⟨rfl, rfl⟩
  go_wp2
  go_ret
  exact ⟨rfl, (by repeat (first | exact hB2 | exact Below.refl _ _ | refine balloc ?_ _ | refine Below.drew ?_ | refine below_drewN ?_ _ | refine below_set ?_ (by first | omega | (dsimp only; omega)) _))⟩
set_option maxHeartbeats 1000000 in
theorem rSeal_s (key R : Sp) (S : Int) (t : ByteArray) (w : World) (hz : t.size ≤ 60) (hk : Hid (sCheck key = 0)) (hn : Hid (sCheck R = 0)) (hB : Hid (resB S = false)) : Calls Tryd.prog 26 #[spV key, .string t, slV R S] w fun e w' => e = .returned (.int .i64 1) ∧ Below w.heap.size w w' := by
  go_enter Tryd.func26, Tryd.ntmps26
  go_wp2_with fail
  refine (refSpot_e key 0 _ hk).mono ?_; rintro e w1 ⟨rfl, hb⟩
  obtain ⟨hc1, hf1⟩ := bcell hb
  have z1 := hb.size
  try simp only [World.size_alloc, World.size_setCell, World.size_drew] at z1
  have s1_0 : w.heap.size < w1.heap.size := by omega
  have s1_1 : w.heap.size + 1 < w1.heap.size := by omega
  have hB1 : Below w.heap.size w w1 := below_seq (by repeat (first | exact Below.refl _ _ | refine balloc ?_ _ | refine Below.drew ?_ | refine below_drewN ?_ _ | refine below_set ?_ (by first | omega | (dsimp only; omega)) _)) hb
  clear hb
  go_wp2_with fail
  refine (refSpot_e R 0 _ hn).mono ?_; rintro e w2 ⟨rfl, hb⟩
  obtain ⟨hc2, hf2⟩ := bcell hb
  have z2 := hb.size
  try simp only [World.size_alloc, World.size_setCell, World.size_drew] at z2
  have s2_0 : w.heap.size < w2.heap.size := by omega
  have s2_1 : w.heap.size + 1 < w2.heap.size := by omega
  have hB2 : Below w.heap.size w w2 := below_seq (by repeat (first | exact hB1 | exact Below.refl _ _ | refine balloc ?_ _ | refine Below.drew ?_ | refine below_drewN ?_ _ | refine below_set ?_ (by first | omega | (dsimp only; omega)) _)) hb
  clear hb
  go_wp2_with fail
  refine (rRest_b S false _ hB).mono ?_; rintro e w' ⟨rfl, rfl⟩
  go_wp2
  go_ret
  exact ⟨rfl, (by repeat (first | exact hB2 | exact Below.refl _ _ | refine balloc ?_ _ | refine Below.drew ?_ | refine below_drewN ?_ _ | refine below_set ?_ (by first | omega | (dsimp only; omega)) _))⟩
set_option maxHeartbeats 1000000 in
theorem rSeal_0 (key R : Sp) (S : Int) (t : ByteArray) (w : World) (hz : t.size ≤ 60) (hk : Hid (sCheck key = 0)) (hn : Hid (sCheck R = 0)) (hB : Hid (resB S = true)) : Calls Tryd.prog 26 #[spV key, .string t, slV R S] w fun e w' => e = .returned (.int .i64 0) ∧ Below w.heap.size w w' := by
  go_enter Tryd.func26, Tryd.ntmps26
  go_wp2_with fail
  refine (refSpot_e key 0 _ hk).mono ?_; rintro e w1 ⟨rfl, hb⟩
  obtain ⟨hc1, hf1⟩ := bcell hb
  have z1 := hb.size
  try simp only [World.size_alloc, World.size_setCell, World.size_drew] at z1
  have s1_0 : w.heap.size < w1.heap.size := by omega
  have s1_1 : w.heap.size + 1 < w1.heap.size := by omega
  have hB1 : Below w.heap.size w w1 := below_seq (by repeat (first | exact Below.refl _ _ | refine balloc ?_ _ | refine Below.drew ?_ | refine below_drewN ?_ _ | refine below_set ?_ (by first | omega | (dsimp only; omega)) _)) hb
  clear hb
  go_wp2_with fail
  refine (refSpot_e R 0 _ hn).mono ?_; rintro e w2 ⟨rfl, hb⟩
  obtain ⟨hc2, hf2⟩ := bcell hb
  have z2 := hb.size
  try simp only [World.size_alloc, World.size_setCell, World.size_drew] at z2
  have s2_0 : w.heap.size < w2.heap.size := by omega
  have s2_1 : w.heap.size + 1 < w2.heap.size := by omega
  have hB2 : Below w.heap.size w w2 := below_seq (by repeat (first | exact hB1 | exact Below.refl _ _ | refine balloc ?_ _ | refine Below.drew ?_ | refine below_drewN ?_ _ | refine below_set ?_ (by first | omega | (dsimp only; omega)) _)) hb
  clear hb
  go_wp2_with fail
  refine (rRest_b S true _ hB).mono ?_; rintro e w' ⟨rfl, rfl⟩
  go_wp2
  go_ret
  exact ⟨rfl, (by repeat (first | exact hB2 | exact Below.refl _ _ | refine balloc ?_ _ | refine Below.drew ?_ | refine below_drewN ?_ _ | refine below_set ?_ (by first | omega | (dsimp only; omega)) _))⟩
theorem rSeal_e (key R : Sp) (S n : Int) (t : ByteArray) (w : World) (hz : t.size ≤ 140737488351232) (hn : Hid (sealF key R S t.size = n)) : Calls Tryd.prog 26 #[spV key, .string t, slV R S] w fun e w' => e = .returned (.int .i64 n) ∧ Below w.heap.size w w' := by
  have hn := hn.out
  unfold sealF at hn
  split at hn
  · subst hn; exact rSeal_4 key R S t w (by assumption) hz
  · split at hn
    · subst hn; exact rSeal_k key R S _ _ t w (by omega) rfl (by simpa using (by assumption)) rfl
    · have ok : sCheck key = 0 := by rename_i h; simpa using h
      split at hn
      · subst hn; exact rSeal_r key R S _ _ t w (by omega) ok rfl (by simpa using (by assumption)) rfl
      · have oR : sCheck R = 0 := by rename_i h; simpa using h
        split at hn
        · subst hn; exact rSeal_0 key R S t w (by omega) ok oR (decide_eq_true (by assumption))
        · subst hn; exact rSeal_s key R S t w (by omega) ok oR (decide_eq_false (by assumption))
set_option maxHeartbeats 4000000 in
theorem rRight_core (key R M A C D : Sp) (a u c S : Int) (t : ByteArray) (w : World) (hk : Ok key) (hR : Ok R) (hz : t.size ≤ 60) (s0 : 0 ≤ S) (s1 : S < 1013) (hc : Hid (askN R key t.data.toList = c)) (c0 : 0 ≤ c) (c1 : c < 1013) (ha : Hid (key = sq a)) (hu : Hid (M = sq u))
    (hA : Hid (∀ w : World, Calls Tryd.prog 29 #[.int .i64 S, .int .i64 1, spV M] w fun e w' => e = .returned (spV A) ∧ Below w.heap.size w w')) (hC : Hid (sq (a * c) = C)) (oC : Ok C) (hD : Hid (sSum R C = D)) (b : Bool) (hb2 : Sp.beq A D = b) :
    Calls Tryd.prog 33 #[spV key, .string t, slV R S, spV M] w fun e w' => e = .returned (.bool b) ∧ Below w.heap.size w w' := by
  go_enter Tryd.func33, Tryd.ntmps33
  go_wp2_with fail
  refine (rAsk_e R key t c _ hR hk hz hc).mono ?_; rintro e w1 ⟨rfl, hb⟩
  obtain ⟨hc1, hf1⟩ := bcell hb
  have z1 := hb.size
  try simp only [World.size_alloc, World.size_setCell, World.size_drew] at z1
  have s1_0 : w.heap.size < w1.heap.size := by omega
  have s1_1 : w.heap.size + 1 < w1.heap.size := by omega
  have s1_2 : w.heap.size + 1 + 1 < w1.heap.size := by omega
  have hB1 : Below w.heap.size w w1 := below_seq (by repeat (first | exact Below.refl _ _ | refine balloc ?_ _ | refine Below.drew ?_ | refine below_drewN ?_ _ | refine below_set ?_ (by first | omega | (dsimp only; omega)) _)) hb
  clear hb
  have m1_0_0 : w1.cell? ⟨w.heap.size, 0, none⟩ = some (.int .i64 key.x) := by go_simp
  have m1_0_1 : w1.cell? ⟨w.heap.size, 1, none⟩ = some (.int .i64 key.y) := by go_simp
  have m1_0_2 : w1.cell? ⟨w.heap.size, 2, none⟩ = some (.bool key.far) := by go_simp
  have m1_1_0 : w1.cell? ⟨w.heap.size + 1, 0, none⟩ = some (.int .i64 R.x) := by go_simp
  have m1_1_1 : w1.cell? ⟨w.heap.size + 1, 1, none⟩ = some (.int .i64 R.y) := by go_simp
  have m1_1_2 : w1.cell? ⟨w.heap.size + 1, 2, none⟩ = some (.bool R.far) := by go_simp
  have m1_1_3 : w1.cell? ⟨w.heap.size + 1, 3, none⟩ = some (.int .i64 S) := by go_simp
  have m1_2_0 : w1.cell? ⟨w.heap.size + 1 + 1, 0, none⟩ = some (.int .i64 M.x) := by go_simp
  have m1_2_1 : w1.cell? ⟨w.heap.size + 1 + 1, 1, none⟩ = some (.int .i64 M.y) := by go_simp
  have m1_2_2 : w1.cell? ⟨w.heap.size + 1 + 1, 2, none⟩ = some (.bool M.far) := by go_simp
  clear hc1
  go_wp2_with fail
  refine (hA.out _).mono ?_; rintro e w2 ⟨rfl, hb⟩
  obtain ⟨hc2, hf2⟩ := bcell hb
  have z2 := hb.size
  try simp only [World.size_alloc, World.size_setCell, World.size_drew] at z2
  have s2_0 : w.heap.size < w2.heap.size := by omega
  have s2_1 : w.heap.size + 1 < w2.heap.size := by omega
  have s2_2 : w.heap.size + 1 + 1 < w2.heap.size := by omega
  have hB2 : Below w.heap.size w w2 := below_seq (by repeat (first | exact hB1 | exact Below.refl _ _ | refine balloc ?_ _ | refine Below.drew ?_ | refine below_drewN ?_ _ | refine below_set ?_ (by first | omega | (dsimp only; omega)) _)) hb
  clear hb
  have m2_0_0 : w2.cell? ⟨w.heap.size, 0, none⟩ = some (.int .i64 key.x) := by go_simp
  have m2_0_1 : w2.cell? ⟨w.heap.size, 1, none⟩ = some (.int .i64 key.y) := by go_simp
  have m2_0_2 : w2.cell? ⟨w.heap.size, 2, none⟩ = some (.bool key.far) := by go_simp
  have m2_1_0 : w2.cell? ⟨w.heap.size + 1, 0, none⟩ = some (.int .i64 R.x) := by go_simp
  have m2_1_1 : w2.cell? ⟨w.heap.size + 1, 1, none⟩ = some (.int .i64 R.y) := by go_simp
  have m2_1_2 : w2.cell? ⟨w.heap.size + 1, 2, none⟩ = some (.bool R.far) := by go_simp
  have m2_1_3 : w2.cell? ⟨w.heap.size + 1, 3, none⟩ = some (.int .i64 S) := by go_simp
  have m2_2_0 : w2.cell? ⟨w.heap.size + 1 + 1, 0, none⟩ = some (.int .i64 M.x) := by go_simp
  have m2_2_1 : w2.cell? ⟨w.heap.size + 1 + 1, 1, none⟩ = some (.int .i64 M.y) := by go_simp
  have m2_2_2 : w2.cell? ⟨w.heap.size + 1 + 1, 2, none⟩ = some (.bool M.far) := by go_simp
  clear m1_0_0 m1_0_1 m1_0_2 m1_1_0 m1_1_1 m1_1_2 m1_1_3 m1_2_0 m1_2_1 m1_2_2
  clear hc2
  go_upto_region 3 with fail
  have n0 : -9223372036854775808 ≤ c := by omega
  have n1 : c ≤ 9223372036854775807 := by omega
  have y0 : (w2.alloc (.cells #[.int .i64 A.x, .int .i64 A.y, .bool A.far] 25)).cell? ⟨w2.heap.size, 0, none⟩ = some (.int .i64 A.x) := by go_simp
  have y1 : (w2.alloc (.cells #[.int .i64 A.x, .int .i64 A.y, .bool A.far] 25)).cell? ⟨w2.heap.size, 1, none⟩ = some (.int .i64 A.y) := by go_simp
  have y2 : (w2.alloc (.cells #[.int .i64 A.x, .int .i64 A.y, .bool A.far] 25)).cell? ⟨w2.heap.size, 2, none⟩ = some (.bool A.far) := by go_simp
  have g0 : (w2.alloc (.cells #[.int .i64 A.x, .int .i64 A.y, .bool A.far] 25)).cell? ⟨w.heap.size, 0, none⟩ = some (.int .i64 key.x) := by go_simp
  have g1 : (w2.alloc (.cells #[.int .i64 A.x, .int .i64 A.y, .bool A.far] 25)).cell? ⟨w.heap.size, 1, none⟩ = some (.int .i64 key.y) := by go_simp
  have g2 : (w2.alloc (.cells #[.int .i64 A.x, .int .i64 A.y, .bool A.far] 25)).cell? ⟨w.heap.size, 2, none⟩ = some (.bool key.far) := by go_simp
  have r0 : (w2.alloc (.cells #[.int .i64 A.x, .int .i64 A.y, .bool A.far] 25)).cell? ⟨w.heap.size + 1, 0, none⟩ = some (.int .i64 R.x) := by go_simp
  have r1 : (w2.alloc (.cells #[.int .i64 A.x, .int .i64 A.y, .bool A.far] 25)).cell? ⟨w.heap.size + 1, 1, none⟩ = some (.int .i64 R.y) := by go_simp
  have r2 : (w2.alloc (.cells #[.int .i64 A.x, .int .i64 A.y, .bool A.far] 25)).cell? ⟨w.heap.size + 1, 2, none⟩ = some (.bool R.far) := by go_simp
  have hB3 : Below w.heap.size w (w2.alloc (.cells #[.int .i64 A.x, .int .i64 A.y, .bool A.far] 25)) := balloc hB2 _
  have q0 : w.heap.size < (w2.alloc (.cells #[.int .i64 A.x, .int .i64 A.y, .bool A.far] 25)).heap.size := by simp only [World.size_alloc]; omega
  have q1 : w.heap.size + 1 < (w2.alloc (.cells #[.int .i64 A.x, .int .i64 A.y, .bool A.far] 25)).heap.size := by simp only [World.size_alloc]; omega
  have q2 : w2.heap.size < (w2.alloc (.cells #[.int .i64 A.x, .int .i64 A.y, .bool A.far] 25)).heap.size := by simp only [World.size_alloc]; omega
  have hy := Lib.hid hB2
  clear m2_0_0 m2_0_1 m2_0_2 m2_1_0 m2_1_1 m2_1_2 m2_1_3 m2_2_0 m2_2_1 m2_2_2 hf1 hf2 hB1 hB2 z1 z2 s1_0 s1_1 s1_2 s2_0 s2_1 s2_2
  generalize w2.alloc (.cells #[.int .i64 A.x, .int .i64 A.y, .bool A.far] 25) = wz at *
  go_cut [11] (fun s11 wx => ∃ p : Nat, s11 = .pointer (some ⟨p, 0, none⟩) ∧ SpAt wx p D ∧ Below wz.heap.size wz wx)
  case first =>
    go_region_with (first | (go_at_call 31; refine (refTimes_e key C a c _ n0 n1 ha hC).mono ?_; rintro e wa ⟨rfl, ha2⟩; have hwa : Below wz.heap.size wz wa := below_seq (by repeat (first | exact Below.refl _ _ | refine balloc ?_ _ | refine Below.drew ?_)) ha2; have hza := hwa.size; have sA1 : w.heap.size + 1 < wa.heap.size := Nat.lt_of_lt_of_le q1 hza; have ta0 := ((bcell hwa).1 _ 0 q1).trans r0; have ta1 := ((bcell hwa).1 _ 1 q1).trans r1; have ta2 := ((bcell hwa).1 _ 2 q1).trans r2; (first | (refine hav_ (P := SpAt wa wz.heap.size ⟨0, 0, false⟩) (SpAt.below (SpAt.fresh _ _ _ _ _) ha2) (fun kA => ?_)) | (refine hav_ (P := SpAt wa wz.heap.size ⟨0, 0, false⟩) (SpAt.below (SpAt.drew (SpAt.fresh _ _ _ _ _)) ha2) (fun kA => ?_)) | skip)) | (go_at_call 30; refine (refAdd_e R C D _ hR oC hD).mono ?_; rintro e wb ⟨rfl, hb⟩; have hwb : Below wa.heap.size wa wb := below_seq (by repeat (first | exact Below.refl _ _ | refine balloc ?_ _ | refine Below.drew ?_)) hb; have hzb := hwb.size; (first | (have kB := kA.below hwb; obtain ⟨b0, b1, b2, b3, b4, b5, b6⟩ := kA.below hwb) | skip); (first | (refine hav_ (P := SpAt wb wa.heap.size ⟨0, 0, false⟩) (SpAt.below (SpAt.fresh _ _ _ _ _) hb) (fun kC => ?_); obtain ⟨c0, c1, c2, c3, c4, c5, c6⟩ := kC) | (refine hav_ (P := SpAt wb wa.heap.size ⟨0, 0, false⟩) (SpAt.below (SpAt.drew (SpAt.fresh _ _ _ _ _)) hb) (fun kC => ?_); obtain ⟨c0, c1, c2, c3, c4, c5, c6⟩ := kC) | skip)))
    all_goals
      go_wp2_with fail
      go_meet
      have hBx := below_seq hwa hwb
      first
      | exact ⟨_, rfl, SpAt.fresh _ _ _ _ _, balloc hBx _⟩
      | exact ⟨_, rfl, kB.set3 D, set3_below hBx (by omega)⟩
      | exact ⟨_, rfl, (SpAt.zero_of (by assumption) (by assumption) (by assumption) (by assumption) (by assumption) (by assumption) (by assumption)).set3 D, set3_below hBx (by omega)⟩
  case rest =>
    obtain ⟨p, rfl, hp, hw⟩ := hcut
    have hBw : Below w.heap.size w wc := below_seq hB3 hw
    have v0 := ((bcell hw).1 _ 0 q2).trans y0
    have v1 := ((bcell hw).1 _ 1 q2).trans y1
    have v2 := ((bcell hw).1 _ 2 q2).trans y2
    obtain ⟨d0, d1, d2, d3, d4, d5, d6⟩ := hp
    clear r0 r1 r2 g0 g1 g2 y0 y1 y2
    go_wp2
    go_ret
    exact ⟨ret_bool (by rw [← hb2]), hBw⟩
/-- Is a seal right, with a spot more: of the key sq a, the spots sq r and sq u. -/
theorem rRight_e (key R M : Sp) (a r u c S : Int) (b : Bool) (t : ByteArray) (w : World) (hz : t.size ≤ 60) (s0 : 0 ≤ S) (s1 : S < 1013) (ha : Hid (key = sq a)) (hr : Hid (R = sq r)) (hu : Hid (M = sq u)) (hc : Hid (askN R key t.data.toList = c)) (hb : Hid ((sq (4 * S + -(r + a * c) + u)).far = b)) :
    Calls Tryd.prog 33 #[spV key, .string t, slV R S, spV M] w fun e w' => e = .returned (.bool b) ∧ Below w.heap.size w w' := by
  have bd := askN_bd R key t.data.toList
  rw [hc.out] at bd
  refine rRight_core key R M (sq (4 * S + u)) (sq (a * c)) (sq (r + a * c)) a u c S t w (ok_of ha.out) (ok_of hr.out) hz s0 s1 hc bd.1 bd.2 ha hu (fun w => refSum_e S 1 u M (sq (4 * S)) (sq (u * 1)) _ w (by omega) (by omega) (by omega) (by omega) hu rfl rfl (sq_ok _) (sq_ok _) (by show _ = _; rw [sq_add, Int.mul_one])) rfl (sq_ok _) (by show _ = _; rw [hr.out, sq_add]) b ?_
  rw [← hb.out]
  cases h : (sq (4 * S + -(r + a * c) + u)).far
  · cases h2 : Sp.beq (sq (4 * S + u)) (sq (r + a * c))
    · rfl
    · have := sq_eq_iff.mp (Sp.beq_iff.mp h2)
      rw [sq_far.mpr (by omega)] at h; exact Bool.noConfusion h
  · have := sq_far.mp h
    exact Sp.beq_iff.mpr (sq_eq_iff.mpr (by omega))
end Go.Proofs.YtfnifdmnbccblaaDoor
namespace Go.Proofs.YtfnifdmnbccblaaDoor
open Go.RowKit
set_option maxRecDepth 100000
set_option linter.unusedVariables false
set_option linter.unusedSimpArgs false
/-- The error, as nothing or something. -/
theorem errV_0 : errV 0 = .nilIface := rfl
theorem groupF_0 {xs ks : List Int} {n : Nat} (h : groupF xs ks n = 0) : xs.length ≤ 12 ∧ ks.length = xs.length ∧ (∀ i (h : i < xs.length), 1 ≤ xs[i] ∧ xs[i] < 1013) ∧ (∀ i (h : i < ks.length), 1 ≤ ks[i] ∧ ks[i] < 1013) ∧ n ≤ 60 := by
  unfold groupF at h
  split at h
  · exact absurd h (by decide)
  split at h
  · exact absurd h (by decide)
  split at h
  · rename_i g1 g2 g3
    rw [Bool.and_eq_true] at g3
    split at h
    · exact absurd h (by decide)
    · exact ⟨by omega, by omega, fun i hi => okB_y (all_get g3.1 i hi), fun i hi => okB_y (all_get g3.2 i hi), by omega⟩
  · exact absurd h (by decide)
/-- A block of four cells, a seal's, all zero. -/
structure Z4 (w : World) (b : Nat) : Prop where
  c0 : w.cell? ⟨b, 0, none⟩ = some (.int .i64 0)
  c1 : w.cell? ⟨b, 1, none⟩ = some (.int .i64 0)
  c2 : w.cell? ⟨b, 2, none⟩ = some (.bool false)
  c3 : w.cell? ⟨b, 3, none⟩ = some (.int .i64 0)
  f0 : w.frozen? ⟨b, 0, none⟩ = false
  f1 : w.frozen? ⟨b, 1, none⟩ = false
  f2 : w.frozen? ⟨b, 2, none⟩ = false
  f3 : w.frozen? ⟨b, 3, none⟩ = false
  lt : b < w.heap.size
theorem Z4.below {w w' : World} {b : Nat} (h : Z4 w b) (hb : Below w.heap.size w w') : Z4 w' b := by
  obtain ⟨k, k'⟩ := bcell hb
  exact ⟨(k _ _ h.lt).trans h.c0, (k _ _ h.lt).trans h.c1, (k _ _ h.lt).trans h.c2, (k _ _ h.lt).trans h.c3, (k' _ _ h.lt).trans h.f0, (k' _ _ h.lt).trans h.f1, (k' _ _ h.lt).trans h.f2, (k' _ _ h.lt).trans h.f3, Nat.lt_of_lt_of_le h.lt hb.size⟩
theorem Z4.fresh (w : World) (t : TypeId) : Z4 (w.alloc (.cells #[.int .i64 0, .int .i64 0, .bool false, .int .i64 0] t)) w.heap.size := ⟨by simp, by simp, by simp, by simp, by simp, by simp, by simp, by simp, by simp⟩
theorem mul_1 {a b : Int} (h0 : 0 ≤ a) (h1 : a < 1013) (k0 : 0 ≤ b) (k1 : b < 1013) : 0 ≤ a * b ∧ a * b ≤ 1024144 :=
  ⟨Int.mul_nonneg h0 k0, Int.le_trans (Int.mul_le_mul (show a ≤ 1012 by omega) (show b ≤ 1012 by omega) k0 (by decide)) (by decide)⟩
end Go.Proofs.YtfnifdmnbccblaaDoor
namespace Go.Proofs.YtfnifdmnbccblaaDoor
open Go.RowKit
set_option maxRecDepth 100000
set_option linter.unusedVariables false
set_option linter.unusedSimpArgs false
theorem rlist_sl (l : List Sp) (v : Value) (w : World) (hl : l.length ≤ 12) (hs : SpSl w v l) (hok : ∀ z ∈ l, Ok z) :
    Calls Tryd.prog 102 #[v] w fun e w' => e = .returned (.string (lsB l.length l)) ∧ Below w.heap.size w w' := by
  obtain ⟨a, cap, rfl, hs⟩ := hs
  cases l with
  | nil => exact refList_nil a cap w
  | cons s l =>
    obtain ⟨b, off, rfl, hs'⟩ := hs (Nat.succ_pos _)
    exact refList_ok (s :: l) b off cap w hl hs' (Lib.hid fun i h => hok _ (List.getElem_mem h))
theorem refNumber_n (s : ByteArray) (n : Int) (w : World) (hs : s.size ≤ 9223372036854775807) (h : Hid (hnum s.data.toList = n)) : Calls Tryd.prog 92 #[.string s] w fun e w' => e = .returned (.int .i64 n) ∧ Below w.heap.size w w' := by
  rw [← h.out]; exact refNumber_c s w hs
set_option maxHeartbeats 4000000 in
theorem ints_same (l : List Int) (v1 v2 : Value) (w : World) (hl : l.length ≤ 1000000) (h1 : IntSl w v1 l) (h2 : IntSl w v2 l) :
    Calls Tryd.prog 35 #[v1, v2] w fun e w' => e = .returned (.bool true) ∧ Below w.heap.size w w' := by
  obtain ⟨a1, c1, rfl, i1⟩ := h1
  obtain ⟨a2, c2, rfl, i2⟩ := h2
  replace i1 := Lib.hid i1
  replace i2 := Lib.hid i2
  have g1 : ((l.length : Int) != (l.length : Int)) = false := by simp
  go_enter Tryd.func35, Tryd.ntmps35
  go_wp2
  go_loopw [5] (fun i wr => ∃ n : Nat, n ≤ l.length ∧ i = .int .i64 n ∧ Below w.heap.size w wr) (fun i _ => l.length - (intOf i).toNat)
  case atStart => exact ⟨0, Nat.zero_le _, rfl, Below.refl _ _⟩
  case round =>
    obtain ⟨n, hn, rfl, hb⟩ := hrel
    replace hb := Lib.hid hb
    by_cases hlt : n < l.length
    · obtain ⟨b1, o1, rfl, l1⟩ := i1.out (by omega)
      obtain ⟨b2, o2, rfl, l2⟩ := i2.out (by omega)
      have k1 := (l1.below hb.out).c n hlt
      have k2 := (l2.below hb.out).c n hlt
      have k3 := (l1.below hb.out).lt
      have k4 := (l2.below hb.out).lt
      clear l1 l2
      generalize l[n] = x at *
      go_wp2_with fail
      go_quiet (fail)
      go_wp2
      go_roundw
      case rel => exact ⟨n + 1, by omega, by go_num, (by repeat (first | exact hb.out | refine below_drewN ?_ _ | refine Below.drew ?_))⟩
      case measure => simp [intOf]; omega
    · obtain rfl : n = l.length := by omega
      go_wp2
      go_ret
      exact ⟨rfl, hb.out⟩
end Go.Proofs.YtfnifdmnbccblaaDoor
