/- The statement of ShortJoins: for every input the law returns true, and the arguments read as they did. (its listed variable reads as laid; the card ties it) -/
import Derived.Test.YtfnifdmnbccblaaDoorMShortJoins
import Derived.Test.YtfnifdmnbccblaaDoorKe
import Derived.Laws.Entries
import Derived.Deep.DeepCutAuto
import Derived.Deep.CutBlock
import Derived.Deep.RegionWith
import Derived.BigQuiet
import Derived.Test.YtfnifdmnbccblaaDoorRows
import Derived.Test.YtfnifdmnbccblaaDoorWv
import Derived.ProofKit
import Derived.LaidMore
import Derived.OpenShut
import Derived.MakeChecks
import Derived.Deep.Strs
import Derived.Test.YtfnifdmnbccblaaDoorPo
import Derived.SizedLaws
import Derived.Test.YtfnifdmnbccblaaDoorTie
import Derived.Test.YtfnifdmnbccblaaDoorCards
import Derived.SevenTiedAt
namespace Go.Proofs.YtfnifdmnbccblaaDoor
open Go.RowKit
set_option maxRecDepth 100000
set_option linter.unusedVariables false
set_option linter.unusedSimpArgs false
def SjAt (w : World) (f : FuncId) (vs : Array Value) (r : Value) : Prop := ∀ w1 : World, Below w.heap.size w w1 → Calls Tryd.prog f vs w1 fun e w' => e = .returned r ∧ Below w1.heap.size w1 w'
/-- A row of spots, if there are some, from its head on. -/
structure SRow (w : World) (v : Value) (l : List Sp) : Prop where
  h : 0 < l.length → ∃ g cap, v = .slice (some ⟨g, 0, none⟩) l.length cap ∧ l.length ≤ cap ∧ SpotsAt w g 0 l
theorem SRow.below {w w' : World} {v : Value} {l : List Sp} (h : SRow w v l) (hb : Below w.heap.size w w') : SRow w' v l :=
  ⟨fun h0 => by obtain ⟨g, c, e, hc, hs⟩ := h.1 h0; exact ⟨g, c, e, hc, hs.below hb⟩⟩
theorem own_row2 {w : World} {B e n : Nat} {v : Value} {l : List Sp} (h : w.ownsRow B e 3 v n (spCells l)) (hn : n = l.length) : SRow w v l := by
  subst hn
  refine ⟨fun h0 => ?_⟩
  rcases h.2 with ⟨-, h1⟩ | ⟨g, cap, cur, rfl, -, -, hc, -⟩
  · omega
  obtain ⟨a, c, he, hs⟩ := own_spots h rfl
  cases he
  obtain ⟨b, off, e2, hs⟩ := hs h0
  cases e2
  exact ⟨g, cap, rfl, hc, hs⟩
theorem own_sl' {w : World} {B e size n : Nat} {v : Value} {xs : List Value} (h : w.ownsRow B e size v n xs) : ∃ a cap, v = .slice a n cap := by
  rcases h.2 with ⟨rfl, h0⟩ | ⟨g, cap, cur, rfl, -⟩
  · exact ⟨none, 0, by rw [h0]⟩
  · exact ⟨_, _, rfl⟩
theorem spots_tail {w : World} {g : Nat} {l : List Sp} (h : SpotsAt w g 0 l) : SpotsAt w g 3 l.tail := by
  refine ⟨h.lt, fun i hi => ?_, fun i hi => ?_, fun i hi => ?_⟩
  all_goals
    have hi' : i + 1 < l.length := by rw [List.length_tail] at hi; omega
    rw [List.getElem_tail]
  · have := h.cx (i + 1) hi'; rw [show 0 + (i + 1) * 3 = 3 + i * 3 by omega] at this; exact this
  · have := h.cy (i + 1) hi'; rw [show 0 + (i + 1) * 3 = 3 + i * 3 by omega] at this; exact this
  · have := h.cf (i + 1) hi'; rw [show 0 + (i + 1) * 3 = 3 + i * 3 by omega] at this; exact this
theorem tail_facts (P : List (Int × ByteArray)) (hP : ∀ p ∈ P, okP p) (h : 0 < P.length) : sumE P.tail % 1013 ≠ sumE P % 1013 := by
  match P, h with
  | p :: Q, _ =>
    have h1 := eS_ne (hP p List.mem_cons_self)
    have h2 : sumE (p :: Q) = eS p + sumE Q := by unfold sumE; simp
    rw [h2]
    show sumE Q % 1013 ≠ _
    omega
theorem nil_facts (P : List (Int × ByteArray)) (h : P.length = 0) : (sq (4 * sumE P)).far = true := by
  have : P = [] := List.length_eq_zero_iff.mp h
  subst this
  show (sq (4 * 0)).far = true
  exact sq_far.mpr (by decide)
theorem own_ne {w : World} {B e size n k : Nat} {v : Value} {xs : List Value} (h : w.ownsRow B e size v n xs) (hk : w.heap.size ≤ k) : some k ≠ v.ownBlock := fun e => by have := (h.lt _ e.symm).2; omega
set_option maxHeartbeats 64000000 in
theorem sj_core (xs : List Int) (Ts : List ByteArray) (other S1 : Sp) (a0 a1 : Option Addr) (c0 c1 : Nat) (w : World) (hF : FarAt w) (hO : OneAt w) (jx : xs.length ≤ 9223372036854775807) (jt : Ts.length ≤ 9223372036854775807) (hTz : ∀ s ∈ Ts, s.size ≤ 140737488351232)
    (hX : 0 < xs.length → ∃ b o, a0 = some ⟨b, o, none⟩ ∧ IntsAt w b o xs) (hT : 0 < Ts.length → ∃ b o, a1 = some ⟨b, o, none⟩ ∧ StrsAt w b o Ts)
    (k1 : Hid (SjAt w 13 #[.int .i64 1, .string ⟨#[97]⟩] (.tuple #[spV S1, .nilIface])))
    (k2 : Hid (SjAt w 14 #[spV ⟨1189, 3667, false⟩, .string ⟨#[97]⟩, spV S1] (.tuple #[.bool true, .nilIface])))
    (k3 : Hid (SjAt w 15 #[.string ⟨#[97]⟩] (spV S1))) :
    Calls Tryd.prog 3 #[.slice a0 xs.length c0, .slice a1 Ts.length c1, spV other] w fun e w' => e = .returned (.bool true) ∧ Below w.heap.size w w' := by
  replace hX := Lib.hid hX
  replace hT := Lib.hid hT
  replace hTz := Lib.hid hTz
  go_enter Tryd.func3, Tryd.ntmps3
  go_wp2_with fail
  refine (key_one _ (hF.below (by repeat (first | with_reducible exact Below.refl _ _ | with_reducible refine below_set ?_ (by first | omega | (dsimp only; omega)) _ | with_reducible refine balloc ?_ _ | with_reducible refine Below.drew ?_ | with_reducible refine below_drewN ?_ _ | exact Below.refl _ _ | refine balloc ?_ _ | refine Below.drew ?_ | refine below_drewN ?_ _ | refine below_set ?_ (by first | omega | (dsimp only; omega)) _)))).mono ?_; rintro e w1 ⟨rfl, hb⟩
  obtain ⟨hc1, hf1⟩ := bcell hb
  have z1 := hb.size
  try simp only [World.size_alloc, World.size_setCell, World.size_drew] at z1
  have s1_0 : w.heap.size < w1.heap.size := by omega
  have hB1 : Below w.heap.size w w1 := below_seq (by repeat (first | with_reducible exact Below.refl _ _ | with_reducible refine below_set ?_ (by first | omega | (dsimp only; omega)) _ | with_reducible refine balloc ?_ _ | with_reducible refine Below.drew ?_ | with_reducible refine below_drewN ?_ _ | exact Below.refl _ _ | refine balloc ?_ _ | refine Below.drew ?_ | refine below_drewN ?_ _ | refine below_set ?_ (by first | omega | (dsimp only; omega)) _)) hb
  clear hb
  have m1_0_0 : w1.cell? ⟨w.heap.size, 0, none⟩ = some (.int .i64 other.x) := by go_simp
  have m1_0_1 : w1.cell? ⟨w.heap.size, 1, none⟩ = some (.int .i64 other.y) := by go_simp
  have m1_0_2 : w1.cell? ⟨w.heap.size, 2, none⟩ = some (.bool other.far) := by go_simp
  clear hc1
  clear hf1
  go_wp2_with fail
  refine (k1.out _ (by repeat (first | with_reducible exact hB1 | with_reducible exact Below.refl _ _ | with_reducible refine below_set ?_ (by first | omega | (dsimp only; omega)) _ | with_reducible refine balloc ?_ _ | with_reducible refine Below.drew ?_ | with_reducible refine below_drewN ?_ _ | exact hB1 | exact Below.refl _ _ | refine balloc ?_ _ | refine Below.drew ?_ | refine below_drewN ?_ _ | refine below_set ?_ (by first | omega | (dsimp only; omega)) _))).mono ?_; rintro e w2 ⟨rfl, hb⟩
  obtain ⟨hc2, hf2⟩ := bcell hb
  have z2 := hb.size
  try simp only [World.size_alloc, World.size_setCell, World.size_drew] at z2
  have s2_0 : w.heap.size < w2.heap.size := by omega
  have s2_1 : w1.heap.size < w2.heap.size := by omega
  have hB2 : Below w.heap.size w w2 := below_seq (by repeat (first | with_reducible exact hB1 | with_reducible exact Below.refl _ _ | with_reducible refine below_set ?_ (by first | omega | (dsimp only; omega)) _ | with_reducible refine balloc ?_ _ | with_reducible refine Below.drew ?_ | with_reducible refine below_drewN ?_ _ | exact hB1 | exact Below.refl _ _ | refine balloc ?_ _ | refine Below.drew ?_ | refine below_drewN ?_ _ | refine below_set ?_ (by first | omega | (dsimp only; omega)) _)) hb
  clear hb
  have m2_0_0 : w2.cell? ⟨w.heap.size, 0, none⟩ = some (.int .i64 other.x) := by go_simp
  have m2_0_1 : w2.cell? ⟨w.heap.size, 1, none⟩ = some (.int .i64 other.y) := by go_simp
  have m2_0_2 : w2.cell? ⟨w.heap.size, 2, none⟩ = some (.bool other.far) := by go_simp
  have m2_1_0 : w2.cell? ⟨w1.heap.size, 0, none⟩ = some (.int .i64 (⟨1189, 3667, false⟩ : Sp).x) := by go_simp
  have m2_1_1 : w2.cell? ⟨w1.heap.size, 1, none⟩ = some (.int .i64 (⟨1189, 3667, false⟩ : Sp).y) := by go_simp
  have m2_1_2 : w2.cell? ⟨w1.heap.size, 2, none⟩ = some (.bool (⟨1189, 3667, false⟩ : Sp).far) := by go_simp
  clear m1_0_0 m1_0_1 m1_0_2
  clear hc2
  clear z1 hB1 hf2
  go_wp2_with fail
  refine (k2.out _ (by repeat (first | with_reducible exact hB2 | with_reducible exact Below.refl _ _ | with_reducible refine below_set ?_ (by first | omega | (dsimp only; omega)) _ | with_reducible refine balloc ?_ _ | with_reducible refine Below.drew ?_ | with_reducible refine below_drewN ?_ _ | exact hB2 | exact Below.refl _ _ | refine balloc ?_ _ | refine Below.drew ?_ | refine below_drewN ?_ _ | refine below_set ?_ (by first | omega | (dsimp only; omega)) _))).mono ?_; rintro e w3 ⟨rfl, hb⟩
  obtain ⟨hc3, hf3⟩ := bcell hb
  have z3 := hb.size
  try simp only [World.size_alloc, World.size_setCell, World.size_drew] at z3
  have s3_0 : w.heap.size < w3.heap.size := by omega
  have s3_1 : w1.heap.size < w3.heap.size := by omega
  have s3_2 : w2.heap.size < w3.heap.size := by omega
  have hB3 : Below w.heap.size w w3 := below_seq (by repeat (first | with_reducible exact hB2 | with_reducible exact Below.refl _ _ | with_reducible refine below_set ?_ (by first | omega | (dsimp only; omega)) _ | with_reducible refine balloc ?_ _ | with_reducible refine Below.drew ?_ | with_reducible refine below_drewN ?_ _ | exact hB2 | exact Below.refl _ _ | refine balloc ?_ _ | refine Below.drew ?_ | refine below_drewN ?_ _ | refine below_set ?_ (by first | omega | (dsimp only; omega)) _)) hb
  clear hb
  have m3_0_0 : w3.cell? ⟨w.heap.size, 0, none⟩ = some (.int .i64 other.x) := by go_simp
  have m3_0_1 : w3.cell? ⟨w.heap.size, 1, none⟩ = some (.int .i64 other.y) := by go_simp
  have m3_0_2 : w3.cell? ⟨w.heap.size, 2, none⟩ = some (.bool other.far) := by go_simp
  have m3_1_0 : w3.cell? ⟨w1.heap.size, 0, none⟩ = some (.int .i64 (⟨1189, 3667, false⟩ : Sp).x) := by go_simp
  have m3_1_1 : w3.cell? ⟨w1.heap.size, 1, none⟩ = some (.int .i64 (⟨1189, 3667, false⟩ : Sp).y) := by go_simp
  have m3_1_2 : w3.cell? ⟨w1.heap.size, 2, none⟩ = some (.bool (⟨1189, 3667, false⟩ : Sp).far) := by go_simp
  have m3_2_0 : w3.cell? ⟨w2.heap.size, 0, none⟩ = some (.int .i64 S1.x) := by go_simp
  have m3_2_1 : w3.cell? ⟨w2.heap.size, 1, none⟩ = some (.int .i64 S1.y) := by go_simp
  have m3_2_2 : w3.cell? ⟨w2.heap.size, 2, none⟩ = some (.bool S1.far) := by go_simp
  clear m2_0_0 m2_0_1 m2_0_2 m2_1_0 m2_1_1 m2_1_2
  clear hc3
  clear z2 hB2 hf3
  go_upto_region 4 with fail
  go_cut [60] from 42 to 59 (fun s60 wx => s60 = .bool false ∧ Below w.heap.size w wx ∧ w.heap.size < wx.heap.size ∧ w1.heap.size < wx.heap.size ∧ w2.heap.size < wx.heap.size ∧ wx.cell? ⟨w.heap.size, 0, none⟩ = some (.int .i64 other.x) ∧ wx.cell? ⟨w.heap.size, 1, none⟩ = some (.int .i64 other.y) ∧ wx.cell? ⟨w.heap.size, 2, none⟩ = some (.bool other.far) ∧ wx.cell? ⟨w1.heap.size, 0, none⟩ = some (.int .i64 (⟨1189, 3667, false⟩ : Sp).x) ∧ wx.cell? ⟨w1.heap.size, 1, none⟩ = some (.int .i64 (⟨1189, 3667, false⟩ : Sp).y) ∧ wx.cell? ⟨w1.heap.size, 2, none⟩ = some (.bool (⟨1189, 3667, false⟩ : Sp).far) ∧ wx.cell? ⟨w2.heap.size, 0, none⟩ = some (.int .i64 S1.x) ∧ wx.cell? ⟨w2.heap.size, 1, none⟩ = some (.int .i64 S1.y) ∧ wx.cell? ⟨w2.heap.size, 2, none⟩ = some (.bool S1.far))
  case first =>
    go_wp2_with fail
    refine wp_region_grow Tryd.mixed (by kernel_rfl) ?_
    repeat (go_big_quiet_step ((go_at_call 15; exact grow_of (k3.out _ (below_seq (by repeat (first | with_reducible exact hB3 | with_reducible exact Below.refl _ _ | with_reducible refine below_set ?_ (by first | omega | (dsimp only; omega)) _ | with_reducible refine balloc ?_ _ | with_reducible refine Below.drew ?_ | with_reducible refine below_drewN ?_ _ | exact hB3 | exact Below.refl _ _ | refine balloc ?_ _ | refine Below.drew ?_ | refine below_drewN ?_ _ | refine below_set ?_ (by first | omega | (dsimp only; omega)) _)) (Grew.h _))))))
    refine wpQuiet_nil ?_
    intro _ hw'
    obtain ⟨x4, rfl⟩ := hw'
    have z4 := x4.h.size
    try simp only [World.size_alloc, World.size_setCell, World.size_drew] at z4
    have s4_0 : w.heap.size < x4.w.heap.size := by omega
    have s4_1 : w1.heap.size < x4.w.heap.size := by omega
    have s4_2 : w2.heap.size < x4.w.heap.size := by omega
    have hB4 : Below w.heap.size w x4.w := below_seq (by repeat (first | with_reducible exact hB3 | with_reducible exact Below.refl _ _ | with_reducible refine below_set ?_ (by first | omega | (dsimp only; omega)) _ | with_reducible refine balloc ?_ _ | with_reducible refine Below.drew ?_ | with_reducible refine below_drewN ?_ _ | exact hB3 | exact Below.refl _ _ | refine balloc ?_ _ | refine Below.drew ?_ | refine below_drewN ?_ _ | refine below_set ?_ (by first | omega | (dsimp only; omega)) _)) x4.h
    have m4_0_0 : x4.w.cell? ⟨w.heap.size, 0, none⟩ = some (.int .i64 other.x) := by go_simp
    have m4_0_1 : x4.w.cell? ⟨w.heap.size, 1, none⟩ = some (.int .i64 other.y) := by go_simp
    have m4_0_2 : x4.w.cell? ⟨w.heap.size, 2, none⟩ = some (.bool other.far) := by go_simp
    have m4_1_0 : x4.w.cell? ⟨w1.heap.size, 0, none⟩ = some (.int .i64 (⟨1189, 3667, false⟩ : Sp).x) := by go_simp
    have m4_1_1 : x4.w.cell? ⟨w1.heap.size, 1, none⟩ = some (.int .i64 (⟨1189, 3667, false⟩ : Sp).y) := by go_simp
    have m4_1_2 : x4.w.cell? ⟨w1.heap.size, 2, none⟩ = some (.bool (⟨1189, 3667, false⟩ : Sp).far) := by go_simp
    have m4_2_0 : x4.w.cell? ⟨w2.heap.size, 0, none⟩ = some (.int .i64 S1.x) := by go_simp
    have m4_2_1 : x4.w.cell? ⟨w2.heap.size, 1, none⟩ = some (.int .i64 S1.y) := by go_simp
    have m4_2_2 : x4.w.cell? ⟨w2.heap.size, 2, none⟩ = some (.bool S1.far) := by go_simp
    clear m3_0_0 m3_0_1 m3_0_2 m3_1_0 m3_1_1 m3_1_2 m3_2_0 m3_2_1 m3_2_2
    clear z3 hB3 s3_0 s3_1 s3_2
    go_wp2_with fail
    go_meet
    exact ⟨rfl, (by repeat (first | with_reducible exact hB4 | with_reducible exact Below.refl _ _ | with_reducible refine below_set ?_ (by first | omega | (dsimp only; omega)) _ | with_reducible refine balloc ?_ _ | with_reducible refine Below.drew ?_ | with_reducible refine below_drewN ?_ _ | exact hB4 | exact Below.refl _ _ | refine balloc ?_ _ | refine Below.drew ?_ | refine below_drewN ?_ _ | refine below_set ?_ (by first | omega | (dsimp only; omega)) _)), (by first | with_reducible assumption | omega | (simp only [World.heap_drewN, World.size_alloc, World.size_setCell, World.size_drew]; omega)), (by first | with_reducible assumption | omega | (simp only [World.heap_drewN, World.size_alloc, World.size_setCell, World.size_drew]; omega)), (by first | with_reducible assumption | omega | (simp only [World.heap_drewN, World.size_alloc, World.size_setCell, World.size_drew]; omega)), (by first | with_reducible assumption | go_simp), (by first | with_reducible assumption | go_simp), (by first | with_reducible assumption | go_simp), (by first | with_reducible assumption | go_simp), (by first | with_reducible assumption | go_simp), (by first | with_reducible assumption | go_simp), (by first | with_reducible assumption | go_simp), (by first | with_reducible assumption | go_simp), (by first | with_reducible assumption | go_simp)⟩
  case rest =>
    obtain ⟨w4, hwq⟩ : ∃ x, x = wc := ⟨_, rfl⟩
    subst hwq
    obtain ⟨rfl, hB4, s4_0, s4_1, s4_2, m4_0_0, m4_0_1, m4_0_2, m4_1_0, m4_1_1, m4_1_2, m4_2_0, m4_2_1, m4_2_2⟩ := hcut
    clear m3_0_0 m3_0_1 m3_0_2 m3_1_0 m3_1_1 m3_1_2 m3_2_0 m3_2_1 m3_2_2
    clear z3 hB3 s3_0 s3_1 s3_2
    clear k1 k2 k3
    go_wp2_with fail
    have o0 := m4_0_0
    have o1 := m4_0_1
    have o2 := m4_0_2
    have ol := s4_0
    replace hB4 := Lib.hid hB4
    have hO4 := Lib.hid (fun (w' : World) (hb : Below w4.heap.size w4 w') => (⟨((bcell hb).1 _ 0 ol).trans o0, ((bcell hb).1 _ 1 ol).trans o1, ((bcell hb).1 _ 2 ol).trans o2, Nat.lt_of_lt_of_le ol hb.size⟩ : w'.cell? ⟨w.heap.size, 0, none⟩ = some (.int .i64 other.x) ∧ w'.cell? ⟨w.heap.size, 1, none⟩ = some (.int .i64 other.y) ∧ w'.cell? ⟨w.heap.size, 2, none⟩ = some (.bool other.far) ∧ w.heap.size < w'.heap.size))
    clear o0 o1 o2 m4_0_0 m4_0_1 m4_0_2 m4_1_0 m4_1_1 m4_1_2 m4_2_0 m4_2_1 m4_2_2 s4_1 s4_2
    go_loopw [13, 14, 15, 16] (fun vk vs vl i wr => ∃ (n : Nat) (P : List (Int × ByteArray)), n ≤ 6 ∧ i = .int .i64 n ∧ (∀ p ∈ P, okP p) ∧ P.length ≤ n ∧ wr.ownsRow w4.heap.size 25 3 vk P.length (spCells (P.map kS)) ∧ wr.ownsRow w4.heap.size 25 3 vs P.length (spCells (P.map sS)) ∧ wr.ownsRow w4.heap.size 9 1 vl P.length ((P.map (·.2)).map Value.string) ∧ Ap vk vs ∧ Ap vk vl ∧ Ap vs vl ∧ Below w4.heap.size w4 wr) (fun _ _ _ i _ => 6 - (intOf i).toNat)
    case atStart => exact ⟨0, [], by omega, rfl, fun p h => absurd h (by simp), Nat.le_refl _, World.ownsRow_nil _ _ _ _, World.ownsRow_nil _ _ _ _, World.ownsRow_nil _ _ _ _, Ap.nil _, Ap.nil _, Ap.nil _, Below.refl _ _⟩
    case round =>
      obtain ⟨n, P, hn6, rfl, hP, hPn, r1, r2, r3, a12, a13, a23, hb⟩ := hrel
      replace hP := Lib.hid hP
      replace r1 := Lib.hid r1
      replace r2 := Lib.hid r2
      replace r3 := Lib.hid r3
      replace a12 := Lib.hid a12
      replace a13 := Lib.hid a13
      replace a23 := Lib.hid a23
      obtain ⟨C, hC⟩ : ∃ C, decide (n < xs.length ∧ n < Ts.length ∧ n < 6) = C := ⟨_, rfl⟩
      go_upto_region 9 with fail
      go_cut [74] from 61 to 73 (fun s74 wx => s74 = .bool C ∧ wx = wr)
      case first =>
        clear r1 r2 r3 a12 a13 a23 hO4
        by_cases q1 : n < xs.length
        · by_cases q2 : n < Ts.length
          · by_cases q3 : n < 6
            · rw [decide_eq_true ⟨q1, q2, q3⟩] at hC
              subst hC
              have g3 : decide ((n : Int) < 6) = true := by rw [decide_eq_true_iff]; omega
              go_wp2_with fail
              go_meet
              exact ⟨rfl, rfl⟩
            · rw [decide_eq_false (fun h => q3 h.2.2)] at hC
              subst hC
              have g3 : decide ((n : Int) < 6) = false := by rw [decide_eq_false_iff_not]; omega
              go_wp2_with fail
              go_meet
              exact ⟨rfl, rfl⟩
          · rw [decide_eq_false (fun h => q2 h.2.1)] at hC
            subst hC
            go_wp2_with fail
            go_meet
            exact ⟨rfl, rfl⟩
        · rw [decide_eq_false (fun h => q1 h.1)] at hC
          subst hC
          go_wp2_with fail
          go_meet
          exact ⟨rfl, rfl⟩
      case rest =>
        obtain ⟨rfl, hwx⟩ := hcut
        obtain ⟨wA, rfl⟩ : ∃ x : World, x = wc := ⟨_, rfl⟩
        subst hwx
        cases C
        · clear hC hX hT hTz hO4
          have hBw := Lib.hid (below_seq hB4.out hb)
          have hFw := Lib.hid (hF.below hBw.out)
          have hOw := Lib.hid (hO.below hBw.out)
          have i1 := Lib.hid (own_spots r1.out (by rw [List.length_map]))
          have i2 := Lib.hid (own_spots r2.out (by rw [List.length_map]))
          have i3 := Lib.hid (own_strs r3.out (by rw [List.length_map]))
          obtain ⟨ak, ck, rfl⟩ := own_sl' r1.out
          have hrow := Lib.hid (own_row2 r2.out (by rw [List.length_map]))
          have h12 : P.length ≤ 12 := by omega
          have cJ := Lib.hid (fun (w1 : World) (v : Value) hF1 hv => jn_all P h12 v w1 hF1 hv)
          have cA := Lib.hid (fun (w1 : World) (v1 v2 : Value) hF1 hO1 i1 i2 => all_all P hP.out h12 (sumE P) true (by simp) v1 v2 w1 hF1 hO1 i1 i2)
          have cT := Lib.hid (tail_facts P hP.out)
          have c0 := Lib.hid (nil_facts P)
          have cB := Lib.hid (fun (m : Int) (B : Bool) (w1 : World) (v1 v2 : Value) hB hF1 hO1 i1 i2 => all_all P hP.out h12 m B hB v1 v2 w1 hF1 hO1 i1 i2)
          have cJt := Lib.hid (fun (w1 : World) (v : Value) hF1 hv => jn_all P.tail (by rw [List.length_tail]; omega) v w1 hF1 hv)
          clear r1 r2 r3 a12 a13 a23 hB4 hb hP
          generalize sumE P.tail = m' at *
          generalize sumE P = m at *
          obtain ⟨S0, hS0⟩ : ∃ S0, sq (4 * m) = S0 := ⟨_, rfl⟩
          rw [hS0] at cJ cA c0
          obtain ⟨S2, hS2⟩ : ∃ S2, sq (4 * m') = S2 := ⟨_, rfl⟩
          rw [hS2] at cJt
          have htl := Lib.hid (show (P.map sS).tail = P.tail.map sS from List.map_tail.symm)
          go_wp2_with fail
          refine (cJ.out _ _ hFw.out i2.out).mono ?_; rintro e wj ⟨rfl, hbj⟩
          have hbk := Lib.hid (below_seq hbj (below_alloc wj (.cells #[.int .i64 S0.x, .int .i64 S0.y, .bool S0.far] 25)))
          have h24 := Lib.hid (show SpAt (wj.alloc (.cells #[.int .i64 S0.x, .int .i64 S0.y, .bool S0.far] 25)) wj.heap.size S0 from SpAt.fresh wj S0.x S0.y S0.far 25)
          have hlow : wA.heap.size ≤ wj.heap.size := hbj.size
          clear i2 hbj cJ
          go_upto_region 24 with fail
          generalize wj.alloc (.cells #[.int .i64 S0.x, .int .i64 S0.y, .bool S0.far] 25) = wk at *
          generalize wj.heap.size = k24 at *
          obtain ⟨s0, s1, s2, sf0, sf1, sf2, s3⟩ := h24.out
          go_wp2_with fail
          refine (cA.out _ _ _ (hFw.out.below hbk.out) (hOw.out.below hbk.out) (i1.out.below hbk.out) (i3.out.below hbk.out)).mono ?_; rintro e wl ⟨rfl, hbl⟩
          have hBl := Lib.hid (below_seq hbk.out hbl)
          have h24l := Lib.hid (h24.out.below hbl)
          clear s0 s1 s2 sf0 sf1 sf2 s3 hbl h24 hbk cA
          obtain ⟨s0, s1, s2, sf0, sf1, sf2, s3⟩ := h24l.out
          by_cases hP0 : P.length = 0
          · have g1 : ((P.length : Int) == 0) = true := by rw [hP0]; rfl
            rw [c0.out hP0] at s2
            go_wp2
            go_ret
            exact ⟨rfl, below_seq hBw.out hBl.out⟩
          · have g1 : ((P.length : Int) == 0) = false := by rw [beq_eq_false_iff_ne]; omega
            obtain ⟨gs, cs, rfl, hcs, hsr⟩ := hrow.out.1 (by rw [List.length_map]; omega)
            replace hsr := Lib.hid (spots_tail hsr)
            have hv1 := Lib.hid (show SpSl wA (.slice (some ⟨gs, 3, none⟩) (P.length - 1) (cs - 1)) (P.tail.map sS) from ⟨_, _, by rw [List.length_map, List.length_tail], fun _ => ⟨_, _, rfl, by rw [← htl.out]; exact hsr.out⟩⟩)
            have hv2 := Lib.hid (show cs = 1 → SpSl wA (.slice (some ⟨gs, 0, none⟩) (P.length - 1) 0) (P.tail.map sS) from fun h1 => ⟨_, _, by rw [List.length_map, List.length_tail], fun h2 => by subst h1; rw [List.length_map] at hcs h2; rw [List.length_tail] at h2; omega⟩)
            have cTn := cT.out (by omega)
            have cN := Lib.hid (fun (w1 : World) (v1 v2 : Value) hF1 hO1 i1 i2 => cB.out m' false w1 v1 v2 ⟨fun h => Bool.noConfusion h, fun h => absurd h cTn⟩ hF1 hO1 i1 i2)
            rw [hS2] at cN
            clear hsr htl hS0 hS2 c0 cB cTn cT
            go_upto_region 29 with fail
            go_wp2_with fail
            all_goals
              refine (cJt.out _ _ ((hFw.out.below hBl.out)) (by first | exact hv1.out.below hBl.out | exact (hv2.out (by assumption)).below hBl.out)).mono ?_
              rintro e wt ⟨rfl, hbt⟩
              have hBt := Lib.hid (below_seq hBl.out hbt)
              have h24t := Lib.hid (h24l.out.below hbt)
              clear s0 s1 s2 sf0 sf1 sf2 s3 hbt h24l hv1 hv2 cJt
              obtain ⟨s0, s1, s2, sf0, sf1, sf2, s3⟩ := h24t.out
              have hBu := Lib.hid (set3_below (x := .int .i64 S2.x) (y := .int .i64 S2.y) (z := .bool S2.far) hBt.out hlow)
              have h24u := Lib.hid (h24t.out.set3 S2)
              go_upto_region 30 with fail
              clear s0 s1 s2 sf0 sf1 sf2 s3 hBt h24t hBl
              generalize (((wt.setCell ⟨k24, 0, none⟩ (.int .i64 S2.x)).setCell ⟨k24, 1, none⟩ (.int .i64 S2.y)).setCell ⟨k24, 2, none⟩ (.bool S2.far)) = wu at *
              obtain ⟨s0, s1, s2, sf0, sf1, sf2, s3⟩ := h24u.out
              go_wp2_with fail
              refine (cN.out _ _ _ (hFw.out.below hBu.out) (hOw.out.below hBu.out) (i1.out.below hBu.out) (i3.out.below hBu.out)).mono ?_
              rintro e wz ⟨rfl, hbz⟩
              clear s0 s1 s2 sf0 sf1 sf2 s3
              go_wp2
              go_ret
              exact ⟨rfl, below_seq hBw.out (below_seq hBu.out hbz)⟩
        · obtain ⟨q1, q2, q3⟩ := of_decide_eq_true hC
          clear hC
          obtain ⟨b0, f0, rfl, x1⟩ := hX.out (by omega)
          obtain ⟨b1, f1, rfl, y1⟩ := hT.out (by omega)
          have hb0 : b0 < w4.heap.size := Nat.lt_of_lt_of_le x1.lt hB4.out.size
          have hb1 : b1 < w4.heap.size := Nat.lt_of_lt_of_le y1.lt hB4.out.size
          have x2 := (x1.below hB4.out).c n q1
          have y2 := (y1.below hB4.out).c n q2
          have hz := hTz.out _ (List.getElem_mem q2)
          have e1 : (n : Int) < (xs.length : Int) := by omega
          have e2 : (n : Int) < (Ts.length : Int) := by omega
          clear x1 y1 hX hT hTz
          generalize xs[n] = x at *
          generalize Ts[n] = t at *
          have hcl := Lib.hid (fun (w' : World) (hb' : Below w4.heap.size w4 w') => (⟨((bcell hb').1 _ _ hb0).trans x2, Nat.lt_of_lt_of_le hb0 hb'.size, ((bcell hb').1 _ _ hb1).trans y2, Nat.lt_of_lt_of_le hb1 hb'.size⟩ : w'.cell? ⟨b0, f0 + n, none⟩ = some (.int .i64 x) ∧ b0 < w'.heap.size ∧ w'.cell? ⟨b1, f1 + n, none⟩ = some (.string t) ∧ b1 < w'.heap.size))
          have hFr := Lib.hid (hF.below (below_seq hB4.out hb))
          have hOr := Lib.hid (hO.below (below_seq hB4.out hb))
          clear x2 y2
          obtain ⟨l1, l2, l3, l4⟩ := hcl.out _ hb
          by_cases hok : 1 ≤ x ∧ x < 1013 ∧ t.size ≤ 60
          case neg =>
            obtain ⟨E, hE⟩ := short_n x t hz hok
            replace hE := Lib.hid hE
            clear hok
            go_upto_region 11 with fail
            go_cut [17, 18] from 77 to 88 (fun s17 s18 wx => s18 = .iface 118 (.int .i64 E) ∧ Below wA.heap.size wA wx)
            case first =>
              go_region_with (first | (go_at_call 13; refine (hE.out _ (hFr.out.below (by repeat (first | exact Below.refl _ _ | refine balloc ?_ _ | refine Below.drew ?_)))).mono ?_; rintro e wb ⟨rfl, hbb⟩; obtain ⟨hcc, hff⟩ := bcell hbb))
              all_goals
                go_wp2_with fail
                go_meet
                have hbA : Below wA.heap.size wA wb := below_seq (by repeat (first | exact Below.refl _ _ | refine balloc ?_ _ | refine Below.drew ?_)) hbb
                first
                | exact ⟨rfl, balloc hbA _⟩
                | exact ⟨rfl, set3_below hbA (by omega)⟩
            case rest =>
              obtain ⟨rfl, hbx⟩ := hcut
              have n1 := Lib.hid (own_below r1.out hbx)
              have n2 := Lib.hid (own_below r2.out hbx)
              have n3 := Lib.hid (own_below r3.out hbx)
              have hbn := Lib.hid (below_seq hb hbx)
              clear l1 l2 l3 l4 r1 r2 r3 hbx
              go_wp2
              go_roundw
              case rel => exact ⟨n + 1, P, by omega, by go_num, hP.out, by omega, n1.out, n2.out, n3.out, a12.out, a13.out, a23.out, hbn.out⟩
              case measure => simp [intOf]; omega
          have hokp : okP (x, t) := hok
          have hSf := sS_far hokp
          have cSg := Lib.hid (fun (w1 : World) hF1 => sign_is (x, t) hokp w1 hF1)
          have cVy := Lib.hid (fun (w1 : World) hF1 hO1 => self_is (x, t) hokp w1 hF1 hO1)
          obtain ⟨B, E, hBE, cVo⟩ := other_is (x, t) hokp other
          have hsK := Lib.hid (show (P ++ [(x, t)]).map kS = P.map kS ++ [kS (x, t)] by rw [List.map_append]; rfl)
          have hsS := Lib.hid (show (P ++ [(x, t)]).map sS = P.map sS ++ [sS (x, t)] by rw [List.map_append]; rfl)
          have hsT := Lib.hid (show (P ++ [(x, t)]).map (·.2) = P.map (·.2) ++ [t] by rw [List.map_append]; rfl)
          have hokP := Lib.hid (show ∀ p ∈ P ++ [(x, t)], okP p from fun p hp => by rcases List.mem_append.mp hp with h | h; exact hP.out p h; simp at h; subst h; exact hokp)
          have hkk : Hid (sq (4 * x) = kS (x, t)) := Lib.hid rfl
          simp only at cSg cVy cVo
          generalize kS (x, t) = K at *
          generalize sS (x, t) = S at *
          obtain ⟨SX, SY, SF⟩ := S
          simp only at hSf
          subst hSf
          replace cVo := Lib.hid cVo
          replace hBE := Lib.hid hBE
          replace hokp := Lib.hid hokp
          have tk := Lib.hid (show (P.map kS).length = P.length from List.length_map _)
          have ts := Lib.hid (show (P.map sS).length = P.length from List.length_map _)
          have tt := Lib.hid (show (P.map (·.2)).length = P.length from List.length_map _)
          have hx1 := hok.1
          have hx2 := hok.2.1
          clear hok
          go_upto_region 11 with fail
          go_cut [17, 18] from 77 to 88 (fun s17 s18 wx => ∃ k : Nat, s17 = .pointer (some ⟨k, 0, none⟩) ∧ s18 = .nilIface ∧ SpAt wx k ⟨SX, SY, false⟩ ∧ wA.heap.size ≤ k ∧ Below wA.heap.size wA wx)
          case first =>
            go_region_with (first | (go_at_call 13; refine (cSg.out _ (hFr.out.below (by repeat (first | exact Below.refl _ _ | refine balloc ?_ _ | refine Below.drew ?_)))).mono ?_; rintro e wb ⟨rfl, hbb⟩; obtain ⟨hcc, hff⟩ := bcell hbb))
            all_goals
              go_wp2_with fail
              go_meet
              have hbA : Below wA.heap.size wA wb := below_seq (by repeat (first | exact Below.refl _ _ | refine balloc ?_ _ | refine Below.drew ?_)) hbb
              have hsz := hbA.size
              first
              | exact ⟨_, rfl, rfl, SpAt.fresh _ _ _ _ _, by omega, balloc hbA _⟩
              | exact ⟨_, rfl, rfl, SpAt.set3 (s := ⟨0, 0, false⟩) (SpAt.below (SpAt.fresh _ _ _ _ _) hbb) ⟨SX, SY, false⟩, by omega, set3_below hbA (by omega)⟩
              | exact ⟨_, rfl, rfl, SpAt.set3 (s := ⟨0, 0, false⟩) (SpAt.below (SpAt.drew (SpAt.fresh _ _ _ _ _)) hbb) ⟨SX, SY, false⟩, by omega, set3_below hbA (by omega)⟩
          case rest =>
            obtain ⟨k17, rfl, rfl, hs17, hk17, hbx⟩ := hcut
            obtain ⟨wB, hwB⟩ : ∃ x : World, x = wc := ⟨_, rfl⟩
            subst hwB
            have hup := Lib.hid (own_ne r1.out hk17)
            have hB1 := Lib.hid (below_seq hb hbx)
            have n1 := Lib.hid (own_below r1.out hbx)
            have n2 := Lib.hid (own_below r2.out hbx)
            have n3 := Lib.hid (own_below r3.out hbx)
            have hlw := hb.size
            have hFB := Lib.hid (hFr.out.below hbx)
            have hOB := Lib.hid (hOr.out.below hbx)
            clear l1 l2 l3 l4 r1 r2 r3 hbx hb cSg hFr hOr
            obtain ⟨l1, l2, l3, l4⟩ := hcl.out _ hB1.out
            go_wp2_with fail
            refine (key_e x K _ hFB.out hx1 hx2 hkk).mono ?_; rintro e wC ⟨rfl, hbc⟩
            have h17C := hs17.below hbc
            have hB2 := below_seq hB1.out hbc
            have m1 := own_below n1.out hbc
            have m2 := own_below n2.out hbc
            have m3 := own_below n3.out hbc
            have hFC := hFB.out.below hbc
            have hOC := hOB.out.below hbc
            have hk17C : k17 < wC.heap.size := h17C.lt
            clear hbc n1 n2 n3 hFB hOB hs17 l1 l2 l3 l4
            have h19 := Lib.hid (show SpAt (wC.alloc (.cells #[.int .i64 K.x, .int .i64 K.y, .bool K.far] 25)) wC.heap.size K from SpAt.fresh wC K.x K.y K.far 25)
            have h17 := Lib.hid (h17C.below (below_alloc wC (.cells #[.int .i64 K.x, .int .i64 K.y, .bool K.far] 25)))
            have hB3 := Lib.hid (balloc hB2 (.cells #[.int .i64 K.x, .int .i64 K.y, .bool K.far] 25))
            have r1 := Lib.hid (m1.alloc (.cells #[.int .i64 K.x, .int .i64 K.y, .bool K.far] 25))
            have r2 := Lib.hid (m2.alloc (.cells #[.int .i64 K.x, .int .i64 K.y, .bool K.far] 25))
            have r3 := Lib.hid (m3.alloc (.cells #[.int .i64 K.x, .int .i64 K.y, .bool K.far] 25))
            have hFD := Lib.hid (hFC.below (below_alloc wC (.cells #[.int .i64 K.x, .int .i64 K.y, .bool K.far] 25)))
            have hOD := Lib.hid (hOC.below (below_alloc wC (.cells #[.int .i64 K.x, .int .i64 K.y, .bool K.far] 25)))
            clear h17C hB2 m1 m2 m3 hFC hOC
            go_upto_region 14 with fail
            have hsz : wC.heap.size < (wC.alloc (.cells #[.int .i64 K.x, .int .i64 K.y, .bool K.far] 25)).heap.size := by simp
            generalize wC.alloc (.cells #[.int .i64 K.x, .int .i64 K.y, .bool K.far] 25) = wD at *
            generalize hk19 : wC.heap.size = k19 at *
            replace hk19 := Lib.hid hk19
            obtain ⟨l1, l2, l3, l4⟩ := hcl.out _ hB3.out
            obtain ⟨s0, s1, s2, sf0, sf1, sf2, s3⟩ := h17.out
            obtain ⟨t0, t1, t2, tf0, tf1, tf2, t3⟩ := h19.out
            go_wp2_with fail
            refine wp_region_grow Tryd.mixed (by kernel_rfl) ?_
            repeat (quiet_step ((go_at_call 14; exact grow_of (cVy.out _ (hFD.out.below (Grew.h _)) (hOD.out.below (Grew.h _))))))
            refine wpQuiet_nil ?_
            intro _ hw'
            obtain ⟨y, rfl⟩ := hw'
            have h17E := Lib.hid (h17.out.below y.h)
            have h19E := Lib.hid (h19.out.below y.h)
            have hB4' := Lib.hid (below_seq hB3.out y.h)
            have n1 := Lib.hid (own_below r1.out y.h)
            have n2 := Lib.hid (own_below r2.out y.h)
            have n3 := Lib.hid (own_below r3.out y.h)
            have hFE := Lib.hid (hFD.out.below y.h)
            have hOE := Lib.hid (hOD.out.below y.h)
            clear l1 l2 l3 l4 s0 s1 s2 sf0 sf1 sf2 s3 t0 t1 t2 tf0 tf1 tf2 t3 hsz r1 r2 r3 hB3 h17 h19 hFD hOD cVy
            generalize hyw : y.w = wE at *
            clear hyw y
            obtain ⟨l1, l2, l3, l4⟩ := hcl.out _ hB4'.out
            obtain ⟨s0, s1, s2, sf0, sf1, sf2, s3⟩ := h17E.out
            obtain ⟨t0, t1, t2, tf0, tf1, tf2, t3⟩ := h19E.out
            obtain ⟨p0, p1, p2, p3⟩ := hO4.out _ hB4'.out
            go_upto_region 17 with fail
            go_wp2_with fail
            refine wp_region_grow Tryd.mixed (by kernel_rfl) ?_
            repeat (quiet_step ((go_at_call 14; exact grow_of (cVo.out _ (hFE.out.below (Grew.h _)) (hOE.out.below (Grew.h _))))))
            refine wpQuiet_nil ?_
            intro _ hw'
            obtain ⟨y, rfl⟩ := hw'
            have h17F := Lib.hid (h17E.out.below y.h)
            have h19F := Lib.hid (h19E.out.below y.h)
            have hB5 := Lib.hid (below_seq hB4'.out y.h)
            have r1 := Lib.hid (own_below n1.out y.h)
            have r2 := Lib.hid (own_below n2.out y.h)
            have r3 := Lib.hid (own_below n3.out y.h)
            clear l1 l2 l3 l4 s0 s1 s2 sf0 sf1 sf2 s3 t0 t1 t2 tf0 tf1 tf2 t3 p0 p1 p2 p3 n1 n2 n3 hB4' h17E h19E hFE hOE cVo
            generalize hyw : y.w = wF at *
            clear hyw y
            obtain ⟨s0, s1, s2, sf0, sf1, sf2, s3⟩ := h17F.out
            obtain ⟨p0, p1, p2, p3⟩ := hO4.out _ hB5.out
            go_upto_region 18 with fail
            go_cut [141] from 133 to 140 (fun s141 wx => s141 = .bool false ∧ wx = wF)
            case first =>
              clear r1 r2 r3 a12 a13 a23
              rcases hBE.out with ⟨en, rfl, rfl⟩ | ⟨rfl, hBq⟩
              · go_wp2_with fail
                go_meet
                exact ⟨rfl, rfl⟩
              · have hBq2 : (B == Sp.beq other ⟨SX, SY, false⟩) = true := by rw [hBq]; simp
                replace hBq := Lib.hid hBq
                go_wp2_with fail
                go_meet
                exact ⟨rfl, rfl⟩
            case rest =>
              obtain ⟨rfl, hwx⟩ := hcut
              obtain ⟨wG, rfl⟩ : ∃ x : World, x = wc := ⟨_, rfl⟩
              subst hwx
              clear s0 s1 s2 sf0 sf1 sf2 s3 p0 p1 p2 p3
              obtain ⟨t0, t1, t2, tf0, tf1, tf2, t3⟩ := h19F.out
              have hz5 := hB5.out.size
              have h17a := Lib.hid (h17F.out.alloc (.cells #[.int .i64 K.x, .int .i64 K.y, .bool K.far] 25))
              clear h17F h19F hO4 hokp hBE
              go_wp2_with (first
                | (at_builtin; refine wpl_append_spot rfl _ _ _ rfl (by kernel_rfl) w4.heap.size _ (P.map kS) P.length rfl (r1.out.alloc _) tk.out (by omega) (by simp only [World.size_alloc]; omega) wG.heap.size K rfl (by go_simp) (by go_simp) (by go_simp) ?_; intro v1 w7 r1' hgrow hbel hloc; have s0 := hgrow.cell h17a.out.c0 hup.out; have s1 := hgrow.cell h17a.out.c1 hup.out; have s2 := hgrow.cell h17a.out.c2 hup.out; have s3 := Nat.lt_of_lt_of_le h17a.out.lt hgrow.size; obtain ⟨r2', a12'⟩ := row_pair (r2.out.alloc _) a12.out hgrow hloc; obtain ⟨r3', a13'⟩ := row_pair (r3.out.alloc _) a13.out hgrow hloc; have hB7 := Lib.hid (hbel w4 (balloc hB5.out _)); replace r1' := Lib.hid r1'; replace r2' := Lib.hid r2'; replace r3' := Lib.hid r3'; replace a12' := Lib.hid a12'; replace a13' := Lib.hid a13'; have hz7 := hB7.out.size; clear hgrow hloc hbel r1 r2 r3 a12 a13 hB5 h17a t0 t1 t2 tf0 tf1 tf2 t3)
                | (at_builtin; refine wpl_append_spot rfl _ _ _ rfl (by kernel_rfl) w4.heap.size _ (P.map sS) P.length rfl (r2'.out.alloc _) ts.out (by omega) (by simp only [World.size_alloc]; omega) w7.heap.size ⟨SX, SY, false⟩ rfl (by go_simp) (by go_simp) (by go_simp) ?_; intro v2 w8 r2'' hgrow hbel hloc; obtain ⟨r1'', a21⟩ := row_pair (r1'.out.alloc _) a12'.out.symm hgrow hloc; obtain ⟨r3'', a23'⟩ := row_pair (r3'.out.alloc _) a23.out hgrow hloc; have hB8 := Lib.hid (hbel w4 (balloc hB7.out _)); replace r1'' := Lib.hid r1''; replace r2'' := Lib.hid r2''; replace r3'' := Lib.hid r3''; replace a21 := Lib.hid a21; replace a23' := Lib.hid a23'; have hz8 := hB8.out.size; clear hgrow hloc hbel r1' r2' r3' a12' a23 hB7 s0 s1 s2 s3; obtain ⟨l1, l2, l3, l4⟩ := hcl.out _ hB8.out)
                | (at_builtin; refine wpl_append_str rfl _ _ _ rfl (by kernel_rfl) w4.heap.size _ (P.map (·.2)) P.length rfl (r3''.out.alloc _) tt.out (by omega) (by simp only [World.size_alloc]; omega) w8.heap.size t rfl (by go_simp) ?_; intro v3 w9 r3n hgrow hbel hloc; obtain ⟨r1n, a31⟩ := row_pair (r1''.out.alloc _) a13'.out.symm hgrow hloc; obtain ⟨r2n, a32⟩ := row_pair (r2''.out.alloc _) a23'.out.symm hgrow hloc; have hB9 := Lib.hid (hbel w4 (balloc hB8.out _)); replace r1n := Lib.hid r1n; replace r2n := Lib.hid r2n; replace r3n := Lib.hid r3n; replace a31 := Lib.hid a31; replace a32 := Lib.hid a32; clear hgrow hloc hbel r1'' r2'' r3'' a13' a23' hB8 l1 l2 l3 l4)
                | fail)
              go_wp2
              go_roundw
              case rel => exact ⟨n + 1, P ++ [(x, t)], by omega, by go_num, hokP.out, by rw [List.length_append]; simp; omega, by rw [List.length_append, hsK.out]; exact r1n.out, by rw [List.length_append, hsS.out]; exact r2n.out, by rw [List.length_append, hsT.out]; exact r3n.out, a21.out.symm, a31.out.symm, a32.out.symm, hB9.out⟩
              case measure => simp [intOf]; omega
end Go.Proofs.YtfnifdmnbccblaaDoor
namespace Go.Proofs.YtfnifdmnbccblaaDoor
open Go.RowKit
set_option maxRecDepth 100000
theorem shortJoins_law (v0 v1 : Value) (other : Sp) (w : World) (o0 : IntsV w v0) (o1 : StrsV w v1) (hL : FarAt w ∧ OneAt w) :
    Calls Tryd.prog 3 #[v0, v1, spV other] w fun e w' => e = .returned (.bool true) ∧ Below w.heap.size w w' := by
  obtain ⟨hF, hO⟩ := hL
  obtain ⟨xs, ⟨a0, c0, rfl, i0⟩, m0, -⟩ := o0.sl
  obtain ⟨Ts, ⟨a1, c1, rfl, i1⟩, m1, hTz⟩ := o1
  have hok : okP (1, ⟨#[97]⟩) := ⟨by decide, by decide, by decide⟩
  have hK : kS (1, ⟨#[97]⟩) = ⟨1189, 3667, false⟩ := sq_4
  have hS : hSpot (⟨#[97]⟩ : ByteArray).data.toList = sS (1, ⟨#[97]⟩) := by
    rw [(jO_spec ⟨#[97]⟩).2.2]; unfold sS eS; rw [Int.mul_one]
  exact sj_core xs Ts other (sS (1, ⟨#[97]⟩)) a0 a1 c0 c1 w hF hO m0 m1 hTz i0 i1 (Lib.hid fun w1 hb => sign_is _ hok w1 (hF.below hb)) (Lib.hid fun w1 hb => by
    have := self_is (1, ⟨#[97]⟩) hok w1 (hF.below hb) (hO.below hb)
    rw [hK] at this; exact this) (Lib.hid fun w1 hb => hashSpot_e ⟨#[97]⟩ _ w1 (hF.below hb) (by decide) (Lib.hid hS))
end Go.Proofs.YtfnifdmnbccblaaDoor
namespace Go.Proofs.YtfnifdmnbccblaaDoor
open Go.ChangeShapes Go.WideShapes Go.ChangeAt Go.WideMaps Go.WideElems Go.RowKit
set_option maxRecDepth 100000
abbrev farLaid : List (String × DataW Unit) := [("pairstone/curve.Far", Rows.laid_pairstone_curve_Far)]
theorem gFar : Tryd.prog.globalNamed "pairstone/curve.Far" = some 0 := by kernel_rfl
theorem tFar : (Tryd.prog.globals[0]?).map (·.type) = some 25 := by kernel_rfl
/-- The door's own heap meets the condition. -/
theorem farLaid_met (os : Os) (args : Array Value) : laidMetH Tryd.prog farLaid ((World.doorLaid Tryd.prog 400 os).forCall (fun _ _ => 0) ⟨#[], args, []⟩).memory :=
  laidMetH_of_parts3 (fuel := 8) (laidMet_of_run' 8 (by kernel_rfl) (by kernel_rfl)) (by kernel_rfl) (by kernel_rfl)
theorem lt_of_cell {w : World} {b o : Nat} {v : Value} (h : w.cell? ⟨b, o, none⟩ = some v) : b < w.heap.size := by
  rcases Nat.lt_or_ge b w.heap.size with h1 | h1
  · exact h1
  · simp [World.cell?, Array.getElem?_eq_none h1] at h
theorem farLaid_at {W : World} (h : laidMetH Tryd.prog farLaid W) : FarAt W := by
  rw [MakeChecks.laidMetH_plain _ _ _ (by kernel_rfl)] at h
  obtain ⟨ps, ⟨g0, t0, cs0, f0, p0, q0, hg0, ht0, hv0, hd0, _, _⟩, _, _⟩ := h
  obtain rfl := Option.some.inj (gFar.symm.trans hg0)
  obtain rfl := Option.some.inj (tFar.symm.trans ht0)
  obtain ⟨y0, y1, y2, n, hx, hlen, h0, h1, h2⟩ := Deep.trod_struct3 Tryd.underlying25 hd0
  simp only [Rows.laid_pairstone_curve_Far, Prod.mk.injEq, DataW.agg.injEq, List.cons.injEq, and_true] at hx
  obtain ⟨⟨e0, e1, e2⟩, _⟩ := hx
  obtain ⟨a, c0, rfl, _⟩ := DataW.trod_int Tryd.underlying3 h0
  obtain ⟨b, c1, rfl, _⟩ := DataW.trod_int Tryd.underlying3 h1
  obtain ⟨f, c2, rfl⟩ := DataW.trod_bool Tryd.underlying4 h2
  have k3 : Tryd.prog.cellsOf 25 = 3 := by kernel_rfl
  have ki : Tryd.prog.cellsOf 3 = 1 := by kernel_rfl
  have kb : Tryd.prog.cellsOf 4 = 1 := by kernel_rfl
  obtain ⟨l⟩ := cs0
  have h3 : l.length = 3 := by simpa using hlen.trans k3
  match l, h3 with
  | [x, y, z], _ =>
    simp [ki, kb] at c0 c1 c2
    subst c0 c1 c2
    have v0 := World.var?_cell hg0 hv0 0
    have v1 := World.var?_cell hg0 hv0 1
    have v2 := World.var?_cell hg0 hv0 2
    simp at e0 e1 e2 v0 v1 v2
    subst e0 e1 e2
    exact ⟨v0, v1, v2, lt_of_cell v0⟩
end Go.Proofs.YtfnifdmnbccblaaDoor
namespace Go.Proofs.YtfnifdmnbccblaaDoor
open Go.ChangeShapes Go.WideShapes Go.ChangeAt Go.WideMaps Go.WideElems Go.RowKit
set_option maxRecDepth 100000
theorem trod_struct2 {H : Type} {enc : TypeId × Value → H} {P : Program} {w : World} {base : Nat} {spare : Nat → Bool} {held : Bool} {t : TypeId} {f0 f1 : Field} {fuel : Nat} {cs : List Value} {x : DataW H × List MemPlace} (ht : P.underlying t = some (.struct #[f0, f1])) (h : DataW.trod enc P w base spare held fuel t cs = some x) :
    ∃ y0 y1 n, x = (.agg [y0.1, y1.1], y0.2 ++ y1.2) ∧ cs.length = P.cellsOf t ∧ DataW.trod enc P w base spare held n f0.type ((cs.drop f0.offset).take (P.cellsOf f0.type)) = some y0 ∧
      DataW.trod enc P w base spare held n f1.type ((cs.drop f1.offset).take (P.cellsOf f1.type)) = some y1 := by
  obtain ⟨xs, n, _, rfl, hl, hlen, hf⟩ := DataW.trod_struct ht h
  match xs, hlen with
  | [y0, y1], _ => exact ⟨y0, y1, n, by simp, hl, by simpa using hf 0 f0 rfl, by simpa using hf 1 f1 rfl⟩
abbrev oneLaid : List (String × DataW Unit) := [("pairstone/curve.Far", Rows.laid_pairstone_curve_Far), ("pairstone/pair.one", Rows.laid_pairstone_pair_one)]
theorem gOne : Tryd.prog.globalNamed "pairstone/pair.one" = some 1 := by kernel_rfl
theorem tOne : (Tryd.prog.globals[1]?).map (·.type) = some 40 := by kernel_rfl
theorem oneLaid_met (os : Os) (args : Array Value) : laidMetH Tryd.prog oneLaid ((World.doorLaid Tryd.prog 400 os).forCall (fun _ _ => 0) ⟨#[], args, []⟩).memory :=
  laidMetH_of_parts3 (fuel := 8) (laidMet_of_run' 8 (by kernel_rfl) (by kernel_rfl)) (by kernel_rfl) (by kernel_rfl)
theorem oneLaid_at {W : World} (h : laidMetH Tryd.prog oneLaid W) : FarAt W ∧ OneAt W := by
  rw [MakeChecks.laidMetH_plain _ _ _ (by kernel_rfl)] at h
  obtain ⟨ps, ⟨g0, t0, cs0, f0, p0, q0, hg0, ht0, hv0, hd0, ⟨g1, t1, cs1, f1, p1, q1, hg1, ht1, hv1, hd1, _, _⟩, _⟩, _, _⟩ := h
  refine ⟨?_, ?_⟩
  · obtain rfl := Option.some.inj (gFar.symm.trans hg0)
    obtain rfl := Option.some.inj (tFar.symm.trans ht0)
    obtain ⟨y0, y1, y2, n, hx, hlen, h0, h1, h2⟩ := Deep.trod_struct3 Tryd.underlying25 hd0
    simp only [Rows.laid_pairstone_curve_Far, Prod.mk.injEq, DataW.agg.injEq, List.cons.injEq, and_true] at hx
    obtain ⟨⟨e0, e1, e2⟩, _⟩ := hx
    obtain ⟨a, c0, rfl, _⟩ := DataW.trod_int Tryd.underlying3 h0
    obtain ⟨b, c1, rfl, _⟩ := DataW.trod_int Tryd.underlying3 h1
    obtain ⟨f, c2, rfl⟩ := DataW.trod_bool Tryd.underlying4 h2
    have k3 : Tryd.prog.cellsOf 25 = 3 := by kernel_rfl
    have ki : Tryd.prog.cellsOf 3 = 1 := by kernel_rfl
    have kb : Tryd.prog.cellsOf 4 = 1 := by kernel_rfl
    obtain ⟨l⟩ := cs0
    have h3 : l.length = 3 := by simpa using hlen.trans k3
    match l, h3 with
    | [x, y, z], _ =>
      simp [ki, kb] at c0 c1 c2
      subst c0 c1 c2
      have v0 := World.var?_cell hg0 hv0 0
      have v1 := World.var?_cell hg0 hv0 1
      have v2 := World.var?_cell hg0 hv0 2
      simp at e0 e1 e2 v0 v1 v2
      subst e0 e1 e2
      exact ⟨v0, v1, v2, lt_of_cell v0⟩
  · obtain rfl := Option.some.inj (gOne.symm.trans hg1)
    obtain rfl := Option.some.inj (tOne.symm.trans ht1)
    obtain ⟨y0, y1, n, hx, hlen, h0, h1⟩ := trod_struct2 Tryd.underlying40 hd1
    simp only [Rows.laid_pairstone_pair_one, Prod.mk.injEq, DataW.agg.injEq, List.cons.injEq, and_true] at hx
    obtain ⟨⟨e0, e1⟩, _⟩ := hx
    obtain ⟨a, c0, rfl, _⟩ := DataW.trod_int Tryd.underlying3 h0
    obtain ⟨b, c1, rfl, _⟩ := DataW.trod_int Tryd.underlying3 h1
    have k2 : Tryd.prog.cellsOf 40 = 2 := by kernel_rfl
    have ki : Tryd.prog.cellsOf 3 = 1 := by kernel_rfl
    obtain ⟨l⟩ := cs1
    have h3 : l.length = 2 := by simpa using hlen.trans k2
    match l, h3 with
    | [x, y], _ =>
      simp [ki] at c0 c1
      subst c0 c1
      have v0 := World.var?_cell hg1 hv1 0
      have v1 := World.var?_cell hg1 hv1 1
      simp at e0 e1 v0 v1
      subst e0 e1
      exact ⟨v0, v1, lt_of_cell v0⟩
end Go.Proofs.YtfnifdmnbccblaaDoor
namespace Go.Proofs.YtfnifdmnbccblaaDoor
open Go.RowKit
set_option maxRecDepth 100000
theorem headL : ∃ l : List Char, Tryd.prog.initOrder = String.ofList l ∧ ((behindMainWord (wordsSigns l)).head? = some "cut".toList ∧
    (match wordsSigns l with
      | h :: s :: _ => if !isSumSigns s then none else if h == "harness".toList then some (true, s) else if h == "ownmain".toList then some (false, s) else none
      | _ => none) = some (true, "8bff7fe31cad154e1d9054f52751277758ee41cf373a73bb2e4a30f27c527906".toList)) := by
  refine ⟨?l, ?h1, ?h2, ?h3⟩
  case h1 =>
    unfold Tryd.prog
    first | rfl | (dsimp only; rfl)
  case h2 => kernel_rfl
  case h3 => kernel_rfl
theorem headCut : ∃ r, behindMainWord (wordsSigns Tryd.prog.initOrder.toList) = "cut".toList :: r := by
  obtain ⟨l, h, hw, -⟩ := headL
  rw [h, String.toList_ofList]
  cases e : behindMainWord (wordsSigns l) with
  | nil => rw [e] at hw; cases hw
  | cons c r => rw [e] at hw; exact ⟨r, by rw [Option.some.inj hw]⟩
theorem mainIsK : Tryd.prog.mainIs = some (true, "8bff7fe31cad154e1d9054f52751277758ee41cf373a73bb2e4a30f27c527906".toList) := by
  obtain ⟨l, h, -, hm⟩ := headL
  unfold Program.mainIs; rw [h, String.toList_ofList]; exact hm
theorem mayEnterK : Tryd.prog.mayEnter = true := by
  obtain ⟨r, h⟩ := headCut
  unfold Program.mayEnter; rw [h]; kernel_rfl
theorem headLiftsK : Tryd.prog.headLifts = [] := by
  obtain ⟨r, h⟩ := headCut
  unfold Program.headLifts; rw [h]; kernel_rfl
theorem liftsFinalK : Tryd.prog.liftsFinal = false := by
  obtain ⟨r, h⟩ := headCut
  unfold Program.liftsFinal; rw [h, headLiftsK]; kernel_rfl
theorem makeK : Tryd.prog.make = some .cut := by
  obtain ⟨r, h⟩ := headCut
  unfold Program.make; rw [h]; kernel_rfl
end Go.Proofs.YtfnifdmnbccblaaDoor
namespace Go.Proofs.YtfnifdmnbccblaaDoor.shortJoins
open Go.ChangeShapes Go.WideShapes Go.ChangeAt Go.RowKit
set_option linter.unusedVariables false
theorem typesOk : ([22, 23, 25].all fun t => Tryd.prog.readableRec t && decide (t < Tryd.prog.types.size)) = true := by kernel_rfl
set_option maxRecDepth 100000 in
theorem lifted (os : Os) (started : os.Started) (H : Type) (enc : TypeId × Value → H) :
    ReturnsInHanded {} Tryd.checked os 3 .any (fun w args => (Rows.shortJoinsSpec.pre enc Tryd.prog Tryd.f3 [] false w args ∧ laidMetH Tryd.prog oneLaid w) ∧ sizedMet enc Tryd.prog Tryd.f3 (OpenSpec.ofChange Rows.shortJoinsSpec) false w args)
      (Rows.shortJoinsSpec.post enc Tryd.prog Tryd.f3 false true false false) := by
  refine returnsInHanded_of_change_and (C := Tryd.checked) (X := fun w _ => laidMetH Tryd.prog oneLaid w) (fun _ _ _ hh h => h.of_heap hh) Tryd.ownK started (by kernel_rfl) Tryd.func3
    (ChangeSpec.witness_shaped (enc := enc) (C := Tryd.checked) (os := os) (X := fun w _ => laidMetH Tryd.prog oneLaid w) false (World.doorLaid Tryd.prog 400 os) #[.slice none 0 0, .slice none 0 0, .agg #[.int .i64 0, .int .i64 0, .bool false]] 8 rfl (World.shaped_of_RefB (by kernel_rfl) (by kernel_rfl)) (by kernel_rfl) (by kernel_rfl) (by kernel_rfl) (oneLaid_met os _)) ?_
  intro W base args ds gs before hval0 hW hcnd hsz0 hL hholds
  have hval : ∀ (j : Nat) t v, Tryd.f3.params[j]? = some t → args[j]? = some v → Value.okWide Tryd.prog W .any base t v := hval0
  have hW' := hW
  obtain ⟨p, q, hA0, hV, rfl, hfz, hnd⟩ := hW
  have hA : DataW.TrodAll enc Tryd.prog W 0 (fun _ => true) true Tryd.f3.params.toList args.toList ds p := hA0
  obtain ⟨rfl, rfl⟩ := trodVars_none hV
  simp only [List.append_nil] at hW'
  have hlt : ∀ x ∈ p, x.block < W.heap.size := fun x hx => hW'.lt x hx
  have hsz : (DataW.weightsEach Tryd.prog (Tryd.f3.params.toList ++ Rows.shortJoinsSpec.plain.varTypes Tryd.prog) (ds ++ [])).all (· ≤ reachBytes) = true := hsz0
  rw [Tryd.params3] at hA hval hsz
  have hK := hA
  obtain ⟨v0, vs0, d0, ds0, p0, q0, hargs, rfl, rfl, h0, r0⟩ := trodAll_cons hA
  obtain ⟨v1, vs1, d1, ds1, p1, q1, rfl, rfl, rfl, h1, r1⟩ := trodAll_cons r0
  obtain ⟨v2, vs2, d2, ds2, p2, q2, rfl, rfl, rfl, h2, r2⟩ := trodAll_cons r1
  obtain ⟨rfl, rfl, rfl⟩ := trodAll_nil r2
  obtain rfl : args = #[v0, v1, v2] := by cases args; simp_all
  have o0 := open_intl Tryd.underlying22 Tryd.underlying3 (by kernel_rfl) (hval 0 22 v0 rfl rfl) h0
  have o1 := open_strl Tryd.underlying23 Tryd.underlying9 (by kernel_rfl) (hval 1 23 v1 rfl rfl) h1 hsz (j := 1) rfl rfl
  obtain ⟨a2, b2, f2, rfl, w2, u2⟩ := open_spot Tryd.underlying25 (by kernel_rfl) (by kernel_rfl) Tryd.underlying3 Tryd.underlying3 Tryd.underlying4 (hval 2 25 v2 rfl rfl) h2
  clear hA0 hval0
  refine (shortJoins_law v0 v1 ⟨a2, b2, f2⟩ W o0 o1 (oneLaid_at hL)).mono fun e W' ⟨he, hg⟩ => ?_
  subst he
  exact ⟨_, rfl, post_of_below (pa := _) (pv := []) hW' (fun _ _ _ => (trodAll_cons_mk (shut_bool Tryd.underlying4 _) trodAll_mk0)) (fun sp hsp => trodAll_stays Tryd.laidOutK hg typesOk hK (fun x hx => ⟨hlt x hx, hsp x (by first | exact hx | (simp at hx) | simpa using hx)⟩)) (fun _ _ => rfl) (by simp) hg (ok_one (by kernel_rfl) rfl (okWide_bool_mk Tryd.underlying4 _))⟩

theorem over : Rows.shortJoinsRow.holds Tryd.pinned (OpenSpec.ofChange Rows.shortJoinsSpec) :=
  OpenClaim.holds_of_wide 3 Tryd.f3 rfl rfl rfl rfl rfl rfl rfl ⟨rfl, rfl, rfl, rfl, rfl⟩ rfl rfl rfl rfl rfl (by kernel_rfl) Tryd.func3 (by show joinedFacts Tryd.prog _ _ _ _ = true; unfold joinedFacts; rw [mayEnterK, liftsFinalK, makeK]; kernel_rfl)
    (of_decide_eq_true (by kernel_rfl)) (by unfold Func.isWrapper; first | (rw [if_pos (by decide +kernel)]; kernel_rfl) | (rw [if_neg (by decide +kernel)]; exact ⟨rfl, rfl⟩))
    (fun os started H enc _ => lifted os started H enc)
theorem card : Rows.ShortJoinsCardSaid :=
  Claim7.holds_tied_plain_at .later [] [.data, .data] true (true, "8bff7fe31cad154e1d9054f52751277758ee41cf373a73bb2e4a30f27c527906") true
    over (fun _ h => by cases h) (by kernel_rfl) (fun _ h => by cases h) shortJoins_row_tie rfl ⟨rfl, rfl⟩ mainIsK rfl
    (fun f fn hf hfn => by
      obtain rfl : f = 3 := Option.some.inj ((show Tryd.prog.funcNamed "pairstone/stonelaw2.ShortJoins" = some 3 by kernel_rfl).symm.trans hf) |>.symm
      obtain rfl : fn = Tryd.f3 := (Option.some.inj (Tryd.func3.symm.trans hfn)).symm
      exact ⟨by kernel_rfl, fun j t ht => by
        rw [Tryd.params3] at ht
        have hm : t ∈ ([22, 23, 25] : List TypeId) := by simpa using Array.mem_of_getElem? ht
        have hall : (([22, 23, 25] : List TypeId).all fun u => !Tryd.prog.wantsStandIn u) = true := by kernel_rfl
        exact (show Tryd.prog.wantsStandIn t = false by simpa using List.all_eq_true.1 hall t hm)⟩)
    (by kernel_rfl)
#print axioms card
end Go.Proofs.YtfnifdmnbccblaaDoor.shortJoins
