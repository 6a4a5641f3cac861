/- Walks of layer ring: Ask, right and refused; Verify refused; what Sign refuses first. -/
import Derived.Test.YtfnifdmnbccblaaDoorRu
namespace Go.Proofs.YtfnifdmnbccblaaDoor
open Go.RowKit
set_option maxRecDepth 100000
set_option linter.unusedVariables false
set_option linter.unusedSimpArgs false
/-- A call in every later world. -/
def RvAt (w : World) (f : FuncId) (vs : Array Value) (r : Value) : Prop := ∀ w1 : World, Below w.heap.size w w1 → Calls Tryd.prog f vs w1 fun e w' => e = .returned r ∧ Below w1.heap.size w1 w'
set_option maxHeartbeats 2000000 in
theorem rask_nl (v : Value) (D : Sp) (t : ByteArray) (E : Int) (w : World) (kL : Hid (RvAt w 103 #[v] (.tuple #[.string ⟨#[]⟩, .iface 118 (.int .i64 E)]))) :
    Calls Tryd.prog 47 #[v, spV D, .string t] w fun e w' => e = .returned (.tuple #[.int .i64 0, .iface 118 (.int .i64 E)]) ∧ Below w.heap.size w w' := by
  go_enter Tryd.func47, Tryd.ntmps47
  go_wp2_with fail
  refine (kL.out _ (by repeat (first | exact Below.refl _ _ | refine balloc ?_ _ | refine Below.drew ?_ | refine below_drewN ?_ _ | refine below_set ?_ (by first | omega | (dsimp only; omega)) _))).mono ?_; rintro e w1 ⟨rfl, hb⟩
  obtain ⟨hc1, hf1⟩ := bcell hb
  have z1 := hb.size
  try simp only [World.size_alloc, World.size_setCell, World.size_drew] at z1
  have s1_0 : w.heap.size < w1.heap.size := by omega
  have hB1 : Below w.heap.size w w1 := below_seq (by repeat (first | exact Below.refl _ _ | refine balloc ?_ _ | refine Below.drew ?_ | refine below_drewN ?_ _ | refine below_set ?_ (by first | omega | (dsimp only; omega)) _)) hb
  clear hb
  go_wp2
  go_ret2
  exact ⟨rfl, (by repeat (first | exact hB1 | exact Below.refl _ _ | refine balloc ?_ _ | refine Below.drew ?_ | refine below_drewN ?_ _ | refine below_set ?_ (by first | omega | (dsimp only; omega)) _))⟩
set_option maxHeartbeats 2000000 in
theorem rask_nb (v : Value) (D : Sp) (L t : ByteArray) (E : Int) (w : World) (hF : FarAt w) (hE : Hid (sCheck D = E)) (hE0 : E ≠ 0) (kL : Hid (RvAt w 103 #[v] (.tuple #[.string L, .nilIface]))) :
    Calls Tryd.prog 47 #[v, spV D, .string t] w fun e w' => e = .returned (.tuple #[.int .i64 0, .iface 118 (.int .i64 E)]) ∧ Below w.heap.size w w' := by
  have hP : Hid (∀ w : World, FarAt w → Calls Tryd.prog 104 #[spV D] w fun e w' => e = .returned (.tuple #[.string ⟨#[]⟩, .iface 118 (.int .i64 E)]) ∧ Below w.heap.size w w') := Lib.hid (fun w hF => by rw [← hE.out]; exact pack_bad D w hF (by rw [hE.out]; exact hE0))
  clear hE hE0
  go_enter Tryd.func47, Tryd.ntmps47
  go_wp2_with fail
  refine (kL.out _ (by repeat (first | exact Below.refl _ _ | refine balloc ?_ _ | refine Below.drew ?_ | refine below_drewN ?_ _ | refine below_set ?_ (by first | omega | (dsimp only; omega)) _))).mono ?_; rintro e w1 ⟨rfl, hb⟩
  obtain ⟨hc1, hf1⟩ := bcell hb
  have z1 := hb.size
  try simp only [World.size_alloc, World.size_setCell, World.size_drew] at z1
  have s1_0 : w.heap.size < w1.heap.size := by omega
  have hB1 : Below w.heap.size w w1 := below_seq (by repeat (first | exact Below.refl _ _ | refine balloc ?_ _ | refine Below.drew ?_ | refine below_drewN ?_ _ | refine below_set ?_ (by first | omega | (dsimp only; omega)) _)) hb
  clear hb
  go_wp2_with fail
  refine (hP.out _ (hF.below (by repeat (first | exact hB1 | exact Below.refl _ _ | refine balloc ?_ _ | refine Below.drew ?_ | refine below_drewN ?_ _ | refine below_set ?_ (by first | omega | (dsimp only; omega)) _)))).mono ?_; rintro e w2 ⟨rfl, hb⟩
  obtain ⟨hc2, hf2⟩ := bcell hb
  have z2 := hb.size
  try simp only [World.size_alloc, World.size_setCell, World.size_drew] at z2
  have s2_0 : w.heap.size < w2.heap.size := by omega
  have hB2 : Below w.heap.size w w2 := below_seq (by repeat (first | exact hB1 | exact Below.refl _ _ | refine balloc ?_ _ | refine Below.drew ?_ | refine below_drewN ?_ _ | refine below_set ?_ (by first | omega | (dsimp only; omega)) _)) hb
  clear hb
  go_wp2
  go_ret2
  exact ⟨rfl, (by repeat (first | exact hB2 | exact Below.refl _ _ | refine balloc ?_ _ | refine Below.drew ?_ | refine below_drewN ?_ _ | refine below_set ?_ (by first | omega | (dsimp only; omega)) _))⟩
set_option maxHeartbeats 2000000 in
theorem rask_nr (v : Value) (D : Sp) (L t : ByteArray) (E : Int) (w : World) (hF : FarAt w) (oD : Ok D) (kL : Hid (RvAt w 103 #[v] (.tuple #[.string L, .nilIface])))
    (kR : Hid (RvAt w 105 #[v, .string t] (.tuple #[.string ⟨#[]⟩, .iface 118 (.int .i64 E)]))) :
    Calls Tryd.prog 47 #[v, spV D, .string t] w fun e w' => e = .returned (.tuple #[.int .i64 0, .iface 118 (.int .i64 E)]) ∧ Below w.heap.size w w' := by
  go_enter Tryd.func47, Tryd.ntmps47
  go_wp2_with fail
  refine (kL.out _ (by repeat (first | exact Below.refl _ _ | refine balloc ?_ _ | refine Below.drew ?_ | refine below_drewN ?_ _ | refine below_set ?_ (by first | omega | (dsimp only; omega)) _))).mono ?_; rintro e w1 ⟨rfl, hb⟩
  obtain ⟨hc1, hf1⟩ := bcell hb
  have z1 := hb.size
  try simp only [World.size_alloc, World.size_setCell, World.size_drew] at z1
  have s1_0 : w.heap.size < w1.heap.size := by omega
  have hB1 : Below w.heap.size w w1 := below_seq (by repeat (first | exact Below.refl _ _ | refine balloc ?_ _ | refine Below.drew ?_ | refine below_drewN ?_ _ | refine below_set ?_ (by first | omega | (dsimp only; omega)) _)) hb
  clear hb
  go_wp2_with fail
  refine (pack_ok D _ (hF.below (by repeat (first | exact hB1 | exact Below.refl _ _ | refine balloc ?_ _ | refine Below.drew ?_ | refine below_drewN ?_ _ | refine below_set ?_ (by first | omega | (dsimp only; omega)) _))) oD).mono ?_; rintro e w2 ⟨rfl, hb⟩
  obtain ⟨hc2, hf2⟩ := bcell hb
  have z2 := hb.size
  try simp only [World.size_alloc, World.size_setCell, World.size_drew] at z2
  have s2_0 : w.heap.size < w2.heap.size := by omega
  have hB2 : Below w.heap.size w w2 := below_seq (by repeat (first | exact hB1 | exact Below.refl _ _ | refine balloc ?_ _ | refine Below.drew ?_ | refine below_drewN ?_ _ | refine below_set ?_ (by first | omega | (dsimp only; omega)) _)) hb
  clear hb
  go_wp2_with fail
  refine (kR.out _ (by repeat (first | exact hB2 | exact Below.refl _ _ | refine balloc ?_ _ | refine Below.drew ?_ | refine below_drewN ?_ _ | refine below_set ?_ (by first | omega | (dsimp only; omega)) _))).mono ?_; rintro e w3 ⟨rfl, hb⟩
  obtain ⟨hc3, hf3⟩ := bcell hb
  have z3 := hb.size
  try simp only [World.size_alloc, World.size_setCell, World.size_drew] at z3
  have s3_0 : w.heap.size < w3.heap.size := by omega
  have hB3 : Below w.heap.size w w3 := below_seq (by repeat (first | exact hB2 | exact Below.refl _ _ | refine balloc ?_ _ | refine Below.drew ?_ | refine below_drewN ?_ _ | refine below_set ?_ (by first | omega | (dsimp only; omega)) _)) hb
  clear hb
  go_wp2
  go_ret2
  exact ⟨rfl, (by repeat (first | exact hB3 | exact Below.refl _ _ | refine balloc ?_ _ | refine Below.drew ?_ | refine below_drewN ?_ _ | refine below_set ?_ (by first | omega | (dsimp only; omega)) _))⟩
set_option maxHeartbeats 4000000 in
theorem rask_y (v : Value) (D : Sp) (L t : ByteArray) (c : Int) (w : World) (hF : FarAt w) (oD : Ok D) (hL : L.size ≤ 100) (ht : t.size ≤ 60) (kL : Hid (RvAt w 103 #[v] (.tuple #[.string L, .nilIface])))
    (kR : Hid (RvAt w 105 #[v, .string t] (.tuple #[.string L, .nilIface]))) (hc : Hid (rAsk L t D = c)) :
    Calls Tryd.prog 47 #[v, spV D, .string t] w fun e w' => e = .returned (.tuple #[.int .i64 c, .nilIface]) ∧ Below w.heap.size w w' := by
  have hc' : Hid (hnum (L ++ sBytes D ++ t).data.toList = c) := hc
  have hz : (L ++ sBytes D ++ t).size ≤ 9223372036854775807 := by
    have := sBytes_size D
    rw [ByteArray.size_append, ByteArray.size_append]; omega
  replace hz := Lib.hid hz
  have hz1 := sBytes_size D
  have hP := Lib.hid (fun (w : World) hF => pack_ok D w hF oD)
  clear hc
  generalize sBytes D = BD at *
  have n1 : ¬ (9223372036854775807 < L.size + BD.size) := by omega
  have n2 : ¬ (9223372036854775807 < L.size + BD.size + t.size) := by omega
  go_enter Tryd.func47, Tryd.ntmps47
  go_wp2_with fail
  refine (kL.out _ (by repeat (first | exact Below.refl _ _ | refine balloc ?_ _ | refine Below.drew ?_ | refine below_drewN ?_ _ | refine below_set ?_ (by first | omega | (dsimp only; omega)) _))).mono ?_; rintro e w1 ⟨rfl, hb⟩
  obtain ⟨hc1, hf1⟩ := bcell hb
  have z1 := hb.size
  try simp only [World.size_alloc, World.size_setCell, World.size_drew] at z1
  have s1_0 : w.heap.size < w1.heap.size := by omega
  have hB1 : Below w.heap.size w w1 := below_seq (by repeat (first | exact Below.refl _ _ | refine balloc ?_ _ | refine Below.drew ?_ | refine below_drewN ?_ _ | refine below_set ?_ (by first | omega | (dsimp only; omega)) _)) hb
  clear hb
  go_wp2_with fail
  refine (hP.out _ (hF.below (by repeat (first | exact hB1 | exact Below.refl _ _ | refine balloc ?_ _ | refine Below.drew ?_ | refine below_drewN ?_ _ | refine below_set ?_ (by first | omega | (dsimp only; omega)) _)))).mono ?_; rintro e w2 ⟨rfl, hb⟩
  obtain ⟨hc2, hf2⟩ := bcell hb
  have z2 := hb.size
  try simp only [World.size_alloc, World.size_setCell, World.size_drew] at z2
  have s2_0 : w.heap.size < w2.heap.size := by omega
  have hB2 : Below w.heap.size w w2 := below_seq (by repeat (first | exact hB1 | exact Below.refl _ _ | refine balloc ?_ _ | refine Below.drew ?_ | refine below_drewN ?_ _ | refine below_set ?_ (by first | omega | (dsimp only; omega)) _)) hb
  clear hb
  go_wp2_with fail
  refine (kR.out _ (by repeat (first | exact hB2 | exact Below.refl _ _ | refine balloc ?_ _ | refine Below.drew ?_ | refine below_drewN ?_ _ | refine below_set ?_ (by first | omega | (dsimp only; omega)) _))).mono ?_; rintro e w3 ⟨rfl, hb⟩
  obtain ⟨hc3, hf3⟩ := bcell hb
  have z3 := hb.size
  try simp only [World.size_alloc, World.size_setCell, World.size_drew] at z3
  have s3_0 : w.heap.size < w3.heap.size := by omega
  have hB3 : Below w.heap.size w w3 := below_seq (by repeat (first | exact hB2 | exact Below.refl _ _ | refine balloc ?_ _ | refine Below.drew ?_ | refine below_drewN ?_ _ | refine below_set ?_ (by first | omega | (dsimp only; omega)) _)) hb
  clear hb
  go_wp2_with fail
  refine (hashNumber_n (L ++ BD ++ t) c _ hz.out hc').mono ?_; rintro e w4 ⟨rfl, hb⟩
  obtain ⟨hc4, hf4⟩ := bcell hb
  have z4 := hb.size
  try simp only [World.size_alloc, World.size_setCell, World.size_drew] at z4
  have s4_0 : w.heap.size < w4.heap.size := by omega
  have hB4 : Below w.heap.size w w4 := below_seq (by repeat (first | exact hB3 | exact Below.refl _ _ | refine balloc ?_ _ | refine Below.drew ?_ | refine below_drewN ?_ _ | refine below_set ?_ (by first | omega | (dsimp only; omega)) _)) hb
  clear hb
  go_wp2
  go_ret2
  exact ⟨rfl, (by repeat (first | exact hB4 | exact Below.refl _ _ | refine balloc ?_ _ | refine Below.drew ?_ | refine below_drewN ?_ _ | refine below_set ?_ (by first | omega | (dsimp only; omega)) _))⟩
/- Verify, refused. -/
set_option maxHeartbeats 2000000 in
theorem rverify_nr (v vs : Value) (t : ByteArray) (C E : Int) (w : World) (kR : Hid (RvAt w 105 #[v, .string t] (.tuple #[.string ⟨#[]⟩, .iface 118 (.int .i64 E)]))) :
    Calls Tryd.prog 51 #[v, .string t, .agg #[.int .i64 C, vs]] w fun e w' => e = .returned (.tuple #[.bool false, .iface 118 (.int .i64 E)]) ∧ Below w.heap.size w w' := by
  go_enter Tryd.func51, Tryd.ntmps51
  go_wp2_with fail
  refine (kR.out _ (by repeat (first | exact Below.refl _ _ | refine balloc ?_ _ | refine Below.drew ?_ | refine below_drewN ?_ _ | refine below_set ?_ (by first | omega | (dsimp only; omega)) _))).mono ?_; rintro e w1 ⟨rfl, hb⟩
  obtain ⟨hc1, hf1⟩ := bcell hb
  have z1 := hb.size
  try simp only [World.size_alloc, World.size_setCell, World.size_drew] at z1
  have s1_0 : w.heap.size < w1.heap.size := by omega
  have hB1 : Below w.heap.size w w1 := below_seq (by repeat (first | exact Below.refl _ _ | refine balloc ?_ _ | refine Below.drew ?_ | refine below_drewN ?_ _ | refine below_set ?_ (by first | omega | (dsimp only; omega)) _)) hb
  clear hb
  go_wp2
  go_ret2
  exact ⟨rfl, (by repeat (first | exact hB1 | exact Below.refl _ _ | refine balloc ?_ _ | refine Below.drew ?_ | refine below_drewN ?_ _ | refine below_set ?_ (by first | omega | (dsimp only; omega)) _))⟩
set_option maxHeartbeats 2000000 in
theorem rverify_nsh (n m : Nat) (a1 a2 : Option Addr) (c1 c2 : Nat) (L t : ByteArray) (C : Int) (w : World) (hnm : m ≠ n) (hm : m ≤ 9223372036854775807) (hn : n ≤ 9223372036854775807) (kR : Hid (RvAt w 105 #[.slice a1 n c1, .string t] (.tuple #[.string L, .nilIface]))) :
    Calls Tryd.prog 51 #[.slice a1 n c1, .string t, .agg #[.int .i64 C, .slice a2 m c2]] w fun e w' => e = .returned (.tuple #[.bool false, .iface 118 (.int .i64 3)]) ∧ Below w.heap.size w w' := by
  have g1 : ((m : Int) != (n : Int)) = true := by rw [bne_iff_ne]; omega
  go_enter Tryd.func51, Tryd.ntmps51
  go_wp2_with fail
  refine (kR.out _ (by repeat (first | exact Below.refl _ _ | refine balloc ?_ _ | refine Below.drew ?_ | refine below_drewN ?_ _ | refine below_set ?_ (by first | omega | (dsimp only; omega)) _))).mono ?_; rintro e w1 ⟨rfl, hb⟩
  obtain ⟨hc1, hf1⟩ := bcell hb
  have z1 := hb.size
  try simp only [World.size_alloc, World.size_setCell, World.size_drew] at z1
  have s1_0 : w.heap.size < w1.heap.size := by omega
  have hB1 : Below w.heap.size w w1 := below_seq (by repeat (first | exact Below.refl _ _ | refine balloc ?_ _ | refine Below.drew ?_ | refine below_drewN ?_ _ | refine below_set ?_ (by first | omega | (dsimp only; omega)) _)) hb
  clear hb
  go_wp2
  go_ret2
  exact ⟨rfl, (by repeat (first | exact hB1 | exact Below.refl _ _ | refine balloc ?_ _ | refine Below.drew ?_ | refine below_drewN ?_ _ | refine below_set ?_ (by first | omega | (dsimp only; omega)) _))⟩
set_option maxHeartbeats 2000000 in
theorem rverify_nc (n : Nat) (a1 a2 : Option Addr) (c1 c2 : Nat) (L t : ByteArray) (C : Int) (w : World) (hC : ¬ (0 ≤ C ∧ C < 1013)) (hn : n ≤ 9223372036854775807) (kR : Hid (RvAt w 105 #[.slice a1 n c1, .string t] (.tuple #[.string L, .nilIface]))) :
    Calls Tryd.prog 51 #[.slice a1 n c1, .string t, .agg #[.int .i64 C, .slice a2 n c2]] w fun e w' => e = .returned (.tuple #[.bool false, .iface 118 (.int .i64 1)]) ∧ Below w.heap.size w w' := by
  have g1 : ((n : Int) != (n : Int)) = false := by simp
  go_enter Tryd.func51, Tryd.ntmps51
  go_wp2_with fail
  refine (kR.out _ (by repeat (first | exact Below.refl _ _ | refine balloc ?_ _ | refine Below.drew ?_ | refine below_drewN ?_ _ | refine below_set ?_ (by first | omega | (dsimp only; omega)) _))).mono ?_; rintro e w1 ⟨rfl, hb⟩
  obtain ⟨hc1, hf1⟩ := bcell hb
  have z1 := hb.size
  try simp only [World.size_alloc, World.size_setCell, World.size_drew] at z1
  have s1_0 : w.heap.size < w1.heap.size := by omega
  have hB1 : Below w.heap.size w w1 := below_seq (by repeat (first | exact Below.refl _ _ | refine balloc ?_ _ | refine Below.drew ?_ | refine below_drewN ?_ _ | refine below_set ?_ (by first | omega | (dsimp only; omega)) _)) hb
  clear hb
  have m1_0_0 : w1.cell? ⟨w.heap.size, 0, none⟩ = some (.int .i64 C) := by go_simp
  have m1_0_1 : w1.cell? ⟨w.heap.size, 1, none⟩ = some (.slice a2 n c2) := by go_simp
  go_wp2_with fail
  refine (rest_n C _ hC).mono ?_; rintro e w' ⟨rfl, rfl⟩
  go_wp2
  go_ret2
  exact ⟨rfl, (by repeat (first | exact hB1 | exact Below.refl _ _ | refine balloc ?_ _ | refine Below.drew ?_ | refine below_drewN ?_ _ | refine below_set ?_ (by first | omega | (dsimp only; omega)) _))⟩
set_option maxHeartbeats 2000000 in
theorem rverify_ns (n : Nat) (a1 a2 : Option Addr) (c1 c2 : Nat) (ss : List Int) (L t : ByteArray) (C : Int) (w : World) (h0 : 0 ≤ C) (h1 : C < 1013) (hn : n ≤ 9223372036854775807) (hsl : Hid (ss.length = n)) (hv : IntSl w (.slice a2 n c2) ss) (hss : ss.all okR = false) (kR : Hid (RvAt w 105 #[.slice a1 n c1, .string t] (.tuple #[.string L, .nilIface]))) :
    Calls Tryd.prog 51 #[.slice a1 n c1, .string t, .agg #[.int .i64 C, .slice a2 n c2]] w fun e w' => e = .returned (.tuple #[.bool false, .iface 118 (.int .i64 1)]) ∧ Below w.heap.size w w' := by
  have g1 : ((n : Int) != (n : Int)) = false := by simp
  have hCF := Lib.hid (fun (w : World) h => contF_v ss (.slice a2 n c2) w (by rw [hsl.out]; exact hn) h)
  rw [hss] at hCF
  replace hv := Lib.hid hv
  go_enter Tryd.func51, Tryd.ntmps51
  go_wp2_with fail
  refine (kR.out _ (by repeat (first | exact Below.refl _ _ | refine balloc ?_ _ | refine Below.drew ?_ | refine below_drewN ?_ _ | refine below_set ?_ (by first | omega | (dsimp only; omega)) _))).mono ?_; rintro e w1 ⟨rfl, hb⟩
  obtain ⟨hc1, hf1⟩ := bcell hb
  have z1 := hb.size
  try simp only [World.size_alloc, World.size_setCell, World.size_drew] at z1
  have s1_0 : w.heap.size < w1.heap.size := by omega
  have hB1 : Below w.heap.size w w1 := below_seq (by repeat (first | exact Below.refl _ _ | refine balloc ?_ _ | refine Below.drew ?_ | refine below_drewN ?_ _ | refine below_set ?_ (by first | omega | (dsimp only; omega)) _)) hb
  clear hb
  have m1_0_0 : w1.cell? ⟨w.heap.size, 0, none⟩ = some (.int .i64 C) := by go_simp
  have m1_0_1 : w1.cell? ⟨w.heap.size, 1, none⟩ = some (.slice a2 n c2) := by go_simp
  go_wp2_with fail
  refine (rest_y C _ h0 h1).mono ?_; rintro e w' ⟨rfl, rfl⟩
  go_wp2_with fail
  refine (hCF.out _ (hv.out.below (by repeat (first | exact hB1 | exact Below.refl _ _ | refine balloc ?_ _ | refine Below.drew ?_ | refine below_drewN ?_ _ | refine below_set ?_ (by first | omega | (dsimp only; omega)) _)))).mono ?_; rintro e w' ⟨rfl, rfl⟩
  go_wp2
  go_ret2
  exact ⟨rfl, (by repeat (first | exact hB1 | exact Below.refl _ _ | refine balloc ?_ _ | refine Below.drew ?_ | refine below_drewN ?_ _ | refine below_set ?_ (by first | omega | (dsimp only; omega)) _))⟩
/- Sign: a place or a number that may not be. -/
set_option maxHeartbeats 4000000 in
theorem rsign_nat (n : Nat) (a1 a2 : Option Addr) (c1 c2 : Nat) (L : ByteArray) (at' x k : Int) (t : ByteArray) (w : World) (hat : at' < 0 ∨ (n : Int) ≤ at') (hn : n ≤ 12) (hR : Hid (RvAt w 105 #[.slice a1 n c1, .string t] (.tuple #[.string L, .nilIface]))) :
    Calls Tryd.prog 49 #[.slice a1 n c1, .int .i64 at', .int .i64 x, .int .i64 k, .slice a2 n c2, .string t] w fun e w' => RNo w 1 e w' := by
  have g1 : ((n : Int) != (n : Int)) = false := by simp
  obtain ⟨b1, hb1'⟩ : ∃ b, decide (at' < 0) = b := ⟨_, rfl⟩
  go_enter Tryd.func49, Tryd.ntmps49
  go_wp2_with fail
  refine (hR.out _ (below_alloc _ _)).mono ?_; rintro e w1 ⟨rfl, hb1⟩
  have hB1 := Lib.hid (below_seq (below_alloc w (.cells #[.int .i64 0, .slice none 0 0] 76)) hb1)
  obtain ⟨z0, z1, z2, z3, z4⟩ := (Z2.fresh w 76).below hb1 (by simp)
  clear hb1
  by_cases h0 : at' < 0
  · clear hat hb1'
    go_wp2
    have kk := set2b_cell (w := w1) (x := .int .i64 0) (y := .slice none 0 0) z0 z1
    refine bodyPost_ret (v := .tuple #[.agg #[.int .i64 0, .slice none 0 0], .iface 118 (.int .i64 1)]) (by simp [results, Tryd.results49, go_sem, kk.1, kk.2]) rfl ⟨rfl, below_set (p := ⟨w.heap.size, 1, none⟩) (below_set (p := ⟨w.heap.size, 0, none⟩) hB1.out (Nat.le_refl _) _) (Nat.le_refl _) _⟩
  · have h2 : (n : Int) ≤ at' := by omega
    clear hat hb1'
    go_wp2
    have kk := set2b_cell (w := w1) (x := .int .i64 0) (y := .slice none 0 0) z0 z1
    refine bodyPost_ret (v := .tuple #[.agg #[.int .i64 0, .slice none 0 0], .iface 118 (.int .i64 1)]) (by simp [results, Tryd.results49, go_sem, kk.1, kk.2]) rfl ⟨rfl, below_set (p := ⟨w.heap.size, 1, none⟩) (below_set (p := ⟨w.heap.size, 0, none⟩) hB1.out (Nat.le_refl _) _) (Nat.le_refl _) _⟩
set_option maxHeartbeats 4000000 in
theorem rsign_nx (n : Nat) (a1 a2 : Option Addr) (c1 c2 : Nat) (L : ByteArray) (at' : Nat) (x k : Int) (t : ByteArray) (w : World) (h1 : at' < n) (hn : n ≤ 12) (hx : ¬ (1 ≤ x ∧ x < 1013)) (hR : Hid (RvAt w 105 #[.slice a1 n c1, .string t] (.tuple #[.string L, .nilIface]))) :
    Calls Tryd.prog 49 #[.slice a1 n c1, .int .i64 at', .int .i64 x, .int .i64 k, .slice a2 n c2, .string t] w fun e w' => RNo w 1 e w' := by
  have g1 : ((n : Int) != (n : Int)) = false := by simp
  have g2 : decide ((at' : Int) < 0) = false := by rw [decide_eq_false_iff_not]; omega
  have g3 : decide ((n : Int) ≤ (at' : Int)) = false := by rw [decide_eq_false_iff_not]; omega
  have g4 : decide (n ≤ at') = false := by rw [decide_eq_false_iff_not]; omega
  go_enter Tryd.func49, Tryd.ntmps49
  go_wp2_with fail
  refine (hR.out _ (below_alloc _ _)).mono ?_; rintro e w1 ⟨rfl, hb1⟩
  have hB1 := Lib.hid (below_seq (below_alloc w (.cells #[.int .i64 0, .slice none 0 0] 76)) hb1)
  obtain ⟨z0, z1, z2, z3, z4⟩ := (Z2.fresh w 76).below hb1 (by simp)
  clear hb1
  go_wp2_with fail
  refine (secret_n x _ hx).mono ?_; rintro e w' ⟨rfl, rfl⟩
  go_wp2
  have kk := set2b_cell (w := w1) (x := .int .i64 0) (y := .slice none 0 0) z0 z1
  refine bodyPost_ret (v := .tuple #[.agg #[.int .i64 0, .slice none 0 0], .iface 118 (.int .i64 1)]) (by simp [results, Tryd.results49, go_sem, kk.1, kk.2]) rfl ⟨rfl, below_set (p := ⟨w.heap.size, 1, none⟩) (below_set (p := ⟨w.heap.size, 0, none⟩) hB1.out (Nat.le_refl _) _) (Nat.le_refl _) _⟩
set_option maxHeartbeats 16000000 in
theorem rsign_ns2 (us : List Int) (l : List Sp) (ss : List Int) (vk vs : Value) (t : ByteArray) (at' n : Nat) (x k : Int) (L : ByteArray) (w : World) (hF : FarAt w) (h1 : at' < n) (h2 : n ≤ 12) (hn : l.length = n) (hl : Hid (l = us.map sq)) (hsl : ss.length = n) (hss : (ss.set at' 0).all okR = false) (ht : t.size ≤ 60)
    (x1 : 1 ≤ x) (x2 : x < 1013) (k1 : 1 ≤ k) (k2 : k < 1013) 
    (hk : SpSl w vk l) (hv : IntSl w vs ss) (hL : Hid (lsB n l = L)) (o : Nat → Int) (ho' : Hid ((fun j => (ss.set at' 0).getD j 0) = o)) :
    Calls Tryd.prog 49 #[vk, .int .i64 at', .int .i64 x, .int .i64 k, vs, .string t] w fun e w' => e = .returned (.tuple #[.agg #[.int .i64 0, .slice none 0 0], .iface 118 (.int .i64 1)]) ∧ Below w.heap.size w w' := by
  have ho := ho'.out
  have hok : ∀ z ∈ l, Ok z := by rw [hl.out]; intro z hz; obtain ⟨u, -, rfl⟩ := List.mem_map.mp hz; exact sq_ok u
  have hul : us.length = n := by rw [← hn, hl.out, List.length_map]
  have hue : Hid (∀ i (h1 : i < l.length) (h2 : i < us.length), l[i] = sq us[i]) := Lib.hid (by
    intro i h1 h2
    have := hl.out
    subst this
    rw [List.getElem_map])
  have hR := Lib.hid (fun (w : World) hF hs => ready_e l vk t w hF (by omega) (by omega) hs hok ht)
  rw [hn] at hR
  rw [hL.out] at hR
  have hLz := lsB_size n l
  rw [hL.out] at hLz
  have hLs : L.size ≤ 100 := by omega
  have hol : (ss.set at' 0).length = n := by rw [List.length_set, hsl]
  have hCF := Lib.hid (fun (v : Value) (w : World) h => contF_r (ss.set at' 0) v w (by omega) h)
  rw [hss] at hCF
  obtain ⟨a1, c1, rfl, h3⟩ := hk
  obtain ⟨a2, c2, rfl, h4⟩ := hv
  obtain ⟨bk, ok, rfl, h5⟩ := h3 (by omega)
  obtain ⟨bs, os, rfl, h6⟩ := h4 (by omega)
  rw [hn] at hR
  rw [hn, hsl]
  clear h3 h4 hok hl hL hss hLz
  replace h5 := Lib.hid h5
  replace h6 := Lib.hid h6
  have hF' := Lib.hid hF
  have hs0 := Lib.hid (fun (w' : World) (hb : Below w.heap.size w w') => (⟨some ⟨bk, ok, none⟩, c1, by rw [hn], fun _ => ⟨bk, ok, rfl, h5.out.below hb⟩⟩ : SpSl w' (.slice (some ⟨bk, ok, none⟩) n c1) l))
  have g1 : ((n : Int) != (n : Int)) = false := by simp
  have g2 : decide ((at' : Int) < 0) = false := by rw [decide_eq_false_iff_not]; omega
  have g3 : decide ((n : Int) ≤ (at' : Int)) = false := by rw [decide_eq_false_iff_not]; omega
  have g4 : decide (n ≤ at') = false := by rw [decide_eq_false_iff_not]; omega
  go_enter Tryd.func49, Tryd.ntmps49
  go_wp2_with fail
  refine (hR.out (w.alloc (.cells #[.int .i64 0, .slice none 0 0] 76)) (hF.below (below_alloc _ _)) (hs0.out _ (below_alloc _ _))).mono ?_; rintro e w1 ⟨rfl, hb1⟩
  have hZ := Lib.hid ((Z2.fresh w 76).below hb1 (by simp))
  have hB1 := Lib.hid (below_seq (below_alloc w (.cells #[.int .i64 0, .slice none 0 0] 76)) hb1)
  have i5 := Lib.hid (h5.out.below hB1.out)
  have i6 := Lib.hid (h6.out.below hB1.out)
  have hF1 := Lib.hid (hF'.out.below hB1.out)
  clear hb1 hR h5 h6 hF
  go_wp2_with fail
  refine (secret_y x _ x1 x2).mono ?_; rintro e w' ⟨rfl, rfl⟩
  go_wp2_with fail
  refine (secret_y k _ k1 k2).mono ?_; rintro e w' ⟨rfl, rfl⟩
  have hCl := clone_c ss bs os c2 w1 (by omega) (by omega) i6.out
  rw [hsl] at hCl
  replace hCl := Lib.hid hCl
  go_wp2_with fail
  refine hCl.out.mono ?_; rintro e w2 ⟨vo, rfl, hown, hb2⟩
  obtain ⟨g, cap, rfl, hg1, hg2⟩ := hown.form (by omega)
  have hO := Lib.hid (IntsF.of_row hown hsl.symm (by omega))
  have hst := (hown.stored at' (.int .i64 0)).1
  rw [show (ss.map (Value.int .i64)).set at' (.int .i64 0) = (ss.set at' 0).map (Value.int .i64) by rw [List.map_set]] at hst
  have hO2 := Lib.hid (IntsF.of_row hst hol.symm (by omega))
  have hoi := Lib.hid (own_ints hst hol.symm)
  have hB2 := Lib.hid (below_set (p := ⟨g, at', none⟩) hb2 hg1 (.int .i64 0))
  have q1 := hO.out.c at' h1
  have q2 := hO.out.f at' h1
  clear hown hst hCl hO hb2
  rw [ho] at hO2
  have hgw : w.heap.size < g := Nat.lt_of_lt_of_le hZ.out.lt hg1
  have zw2 : w1.heap.size ≤ w2.heap.size := by omega
  go_wp2_with fail
  refine (hCF.out _ _ hoi.out).mono ?_; rintro e w' ⟨rfl, rfl⟩
  obtain ⟨z0, z1, z2, z3, z4⟩ := hZ.out.below hB2.out hZ.out.lt
  have hB4 := hB2
  generalize w2.setCell ⟨g, at', none⟩ (.int .i64 0) = w3 at *
  clear hoi hCF q1 q2 hg2 zw2 hO2
  go_wp2
  have kk := set2b_cell (w := w3) (x := .int .i64 0) (y := .slice none 0 0) z0 z1
  refine bodyPost_ret (v := .tuple #[.agg #[.int .i64 0, .slice none 0 0], .iface 118 (.int .i64 1)]) (by simp [results, Tryd.results49, go_sem, kk.1, kk.2]) rfl ⟨rfl, below_set (p := ⟨w.heap.size, 1, none⟩) (below_set (p := ⟨w.heap.size, 0, none⟩) (below_seq hB1.out hB4.out) (Nat.le_refl _) _) (Nat.le_refl _) _⟩
/- What 'ready' tells, refused by the list. -/
set_option maxHeartbeats 2000000 in
theorem ready_nl (v : Value) (t : ByteArray) (E : Int) (w : World) (kL : Hid (RvAt w 103 #[v] (.tuple #[.string ⟨#[]⟩, .iface 118 (.int .i64 E)]))) :
    Calls Tryd.prog 105 #[v, .string t] w fun e w' => e = .returned (.tuple #[.string ⟨#[]⟩, .iface 118 (.int .i64 E)]) ∧ Below w.heap.size w w' := by
  go_enter Tryd.func105, Tryd.ntmps105
  go_wp2_with fail
  refine (kL.out _ (by repeat (first | exact Below.refl _ _ | refine balloc ?_ _ | refine Below.drew ?_ | refine below_drewN ?_ _ | refine below_set ?_ (by first | omega | (dsimp only; omega)) _))).mono ?_; rintro e w1 ⟨rfl, hb⟩
  obtain ⟨hc1, hf1⟩ := bcell hb
  have z1 := hb.size
  try simp only [World.size_alloc, World.size_setCell, World.size_drew] at z1
  have hB1 : Below w.heap.size w w1 := below_seq (by repeat (first | exact Below.refl _ _ | refine balloc ?_ _ | refine Below.drew ?_ | refine below_drewN ?_ _ | refine below_set ?_ (by first | omega | (dsimp only; omega)) _)) hb
  clear hb
  go_wp2
  go_ret2
  exact ⟨rfl, (by repeat (first | exact hB1 | exact Below.refl _ _ | refine balloc ?_ _ | refine Below.drew ?_ | refine below_drewN ?_ _ | refine below_set ?_ (by first | omega | (dsimp only; omega)) _))⟩
end Go.Proofs.YtfnifdmnbccblaaDoor
