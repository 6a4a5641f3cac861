/- The law RingWrong, walked. -/
import Derived.Test.YtnlaofapjldciaaDoorRu
import Derived.Test.YtnlaofapjldciaaDoorKe
import Derived.Test.YtnlaofapjldciaaDoorTl
namespace Go.Proofs.YtnlaofapjldciaaDoor
open Go.RowKit
set_option maxRecDepth 100000
set_option linter.unusedVariables false
set_option linter.unusedSimpArgs false
theorem two_y (y k : Int) (t : ByteArray) (B : Sp) (w : World) (hF : FarAt w) (y1 : 1 ≤ y) (y2 : y < 1013) (k1 : 1 ≤ k) (k2 : k < 1013) (ht : t.size ≤ 60) (hB : Hid (sq (4 * y) = B)) (vk vs : Value) (hk : SpSl w vk [B, B]) (hv : IntSl w vs [0, 0]) :
    Calls Tryd.prog 17 #[vk, .int .i64 0, .int .i64 y, .int .i64 k, vs, .string t] w fun e w' => ∃ (C : Int) (g cap : Nat), e = .returned (.tuple #[.agg #[.int .i64 C, .slice (some ⟨g, 0, none⟩) 2 cap], .nilIface]) ∧ Below w.heap.size w w' := by
  have h := rsign_y [4 * y, 4 * y] [B, B] [0, 0] vk vs t 0 2 y k _ B _ w hF (by omega) (by omega) rfl (Lib.hid (by rw [← hB.out]; rfl)) rfl (by decide) ht y1 y2 k1 k2 hB (Lib.hid fun _ => rfl) rfl hk hv rfl _ rfl
  refine Calls.mono h ?_
  rintro e w' ⟨f, g, cap, -, rfl, -, hb⟩
  exact ⟨_, g, cap, rfl, hb⟩
theorem two_w (x y k : Int) (t : ByteArray) (A B : Sp) (w : World) (hF : FarAt w) (y1 : 1 ≤ y) (y2 : y < 1013) (k1 : 1 ≤ k) (k2 : k < 1013) (ht : t.size ≤ 60) (hA : Hid (sq (4 * x) = A)) (hB : Hid (sq (4 * y) = B)) (hne : Sp.beq B A = false) (vk vs : Value) (hk : SpSl w vk [A, B]) (hv : IntSl w vs [0, 0]) :
    Calls Tryd.prog 17 #[vk, .int .i64 0, .int .i64 y, .int .i64 k, vs, .string t] w fun e w' => e = .returned (.tuple #[.agg #[.int .i64 0, .slice none 0 0], .iface 125 (.int .i64 8)]) ∧ Below w.heap.size w w' :=
  rsign_w [4 * x, 4 * y] [A, B] [0, 0] vk vs t 0 2 y k _ B _ w hF (by omega) (by omega) rfl (Lib.hid (by rw [← hA.out, ← hB.out]; rfl)) rfl (by decide) ht y1 y2 k1 k2 hB A (Lib.hid fun _ => rfl) hne rfl hk hv rfl _ rfl
set_option maxHeartbeats 8000000 in
theorem rw_n (x y k : Int) (t : ByteArray) (V1 V2 : Sp) (E1 E2 : Value) (w : World) (hF : FarAt w) (hE : ErrAt w) (h1 : Hid (KeyIs x V1 E1)) (h2 : Hid (KeyIs y V2 E2)) (hz : t.size ≤ 140737488351232) (h : (E1 ≠ .nilIface ∧ E1 = .iface 125 (.int .i64 1)) ∨ (E1 = .nilIface ∧ ((E2 = .iface 125 (.int .i64 1)) ∨ (E2 = .nilIface ∧ (k < 1 ∨ (1 ≤ k ∧ (1013 ≤ k ∨ (k < 1013 ∧ 60 < t.size)))))))) :
    Calls Tryd.prog 12 #[.int .i64 x, .int .i64 y, .int .i64 k, .string t] w fun e w' => e = .returned (.bool true) ∧ Below w.heap.size w w' := by
  replace h := Lib.hid h
  go_enter Tryd.func12, Tryd.ntmps12
  go_wp2_with fail
  refine (h1.out _ (hF.below (by repeat (first | exact Below.refl _ _ | refine balloc ?_ _ | refine Below.drew ?_ | refine below_drewN ?_ _ | refine below_set ?_ (by first | omega | (dsimp only; omega)) _)))).mono ?_; rintro e w1 ⟨rfl, hb⟩
  obtain ⟨hc1, hf1⟩ := bcell hb
  have z1 := hb.size
  try simp only [World.size_alloc, World.size_setCell, World.size_drew] at z1
  have hB1 : Below w.heap.size w w1 := below_seq (by repeat (first | exact Below.refl _ _ | refine balloc ?_ _ | refine Below.drew ?_ | refine below_drewN ?_ _ | refine below_set ?_ (by first | omega | (dsimp only; omega)) _)) hb
  clear hb
  go_wp2_with fail
  refine (h2.out _ (hF.below (by repeat (first | exact hB1 | exact Below.refl _ _ | refine balloc ?_ _ | refine Below.drew ?_ | refine below_drewN ?_ _ | refine below_set ?_ (by first | omega | (dsimp only; omega)) _)))).mono ?_; rintro e w2 ⟨rfl, hb⟩
  obtain ⟨hc2, hf2⟩ := bcell hb
  have z2 := hb.size
  try simp only [World.size_alloc, World.size_setCell, World.size_drew] at z2
  have s2_0 : w1.heap.size < w2.heap.size := by omega
  have hB2 : Below w.heap.size w w2 := below_seq (by repeat (first | exact hB1 | exact Below.refl _ _ | refine balloc ?_ _ | refine Below.drew ?_ | refine below_drewN ?_ _ | refine below_set ?_ (by first | omega | (dsimp only; omega)) _)) hb
  clear hb
  go_wp2_with fail
  refine (rverify_none none 0 ⟨#[]⟩ 0 (.slice none 0 0) _).mono ?_; rintro e w3 ⟨rfl, hb⟩
  obtain ⟨hc3, hf3⟩ := bcell hb
  have z3 := hb.size
  try simp only [World.size_alloc, World.size_setCell, World.size_drew] at z3
  have s3_0 : w1.heap.size < w3.heap.size := by omega
  have s3_1 : w2.heap.size < w3.heap.size := by omega
  have hB3 : Below w.heap.size w w3 := below_seq (by repeat (first | exact hB2 | exact Below.refl _ _ | refine balloc ?_ _ | refine Below.drew ?_ | refine below_drewN ?_ _ | refine below_set ?_ (by first | omega | (dsimp only; omega)) _)) hb
  clear hb
  go_wp2_with fail
  refine (error_err 5 5 _ (hE.below (by repeat (first | exact hB3 | exact Below.refl _ _ | refine balloc ?_ _ | refine Below.drew ?_ | refine below_drewN ?_ _ | refine below_set ?_ (by first | omega | (dsimp only; omega)) _))) true rfl).mono ?_; rintro e w4 ⟨rfl, hb⟩
  obtain ⟨hc4, hf4⟩ := bcell hb
  have z4 := hb.size
  try simp only [World.size_alloc, World.size_setCell, World.size_drew] at z4
  have s4_0 : w1.heap.size < w4.heap.size := by omega
  have s4_1 : w2.heap.size < w4.heap.size := by omega
  have hB4 : Below w.heap.size w w4 := below_seq (by repeat (first | exact hB3 | exact Below.refl _ _ | refine balloc ?_ _ | refine Below.drew ?_ | refine below_drewN ?_ _ | refine below_set ?_ (by first | omega | (dsimp only; omega)) _)) hb
  clear hb
  rcases h.out with ⟨-, rfl⟩ | ⟨rfl, rfl | ⟨rfl, q | ⟨q, q2 | ⟨q2, q3⟩⟩⟩⟩
  · go_wp2
    go_ret
    exact ⟨rfl, (by repeat (first | exact hB4 | exact Below.refl _ _ | refine balloc ?_ _ | refine Below.drew ?_ | refine below_drewN ?_ _ | refine below_set ?_ (by first | omega | (dsimp only; omega)) _))⟩
  · go_wp2
    go_ret
    exact ⟨rfl, (by repeat (first | exact hB4 | exact Below.refl _ _ | refine balloc ?_ _ | refine Below.drew ?_ | refine below_drewN ?_ _ | refine below_set ?_ (by first | omega | (dsimp only; omega)) _))⟩
  · go_wp2
    go_ret
    exact ⟨rfl, (by repeat (first | exact hB4 | exact Below.refl _ _ | refine balloc ?_ _ | refine Below.drew ?_ | refine below_drewN ?_ _ | refine below_set ?_ (by first | omega | (dsimp only; omega)) _))⟩
  · go_wp2
    go_ret
    exact ⟨rfl, (by repeat (first | exact hB4 | exact Below.refl _ _ | refine balloc ?_ _ | refine Below.drew ?_ | refine below_drewN ?_ _ | refine below_set ?_ (by first | omega | (dsimp only; omega)) _))⟩
  · go_wp2
    go_ret
    exact ⟨rfl, (by repeat (first | exact hB4 | exact Below.refl _ _ | refine balloc ?_ _ | refine Below.drew ?_ | refine below_drewN ?_ _ | refine below_set ?_ (by first | omega | (dsimp only; omega)) _))⟩
set_option maxHeartbeats 8000000 in
theorem rw_y (y k : Int) (t : ByteArray) (B : Sp) (w : World) (hF : FarAt w) (hE : ErrAt w) (y1 : 1 ≤ y) (y2 : y < 1013) (k1 : 1 ≤ k) (k2 : k < 1013) (ht : t.size ≤ 60) (hB0 : Hid (sq (4 * y) = B)) :
    Calls Tryd.prog 12 #[.int .i64 y, .int .i64 y, .int .i64 k, .string t] w fun e w' => e = .returned (.bool true) ∧ Below w.heap.size w w' := by
  have ht2 : ¬ 60 < t.size := by omega
  go_enter Tryd.func12, Tryd.ntmps12
  go_wp2_with fail
  refine (key_e y B _ (hF.below (by repeat (first | exact Below.refl _ _ | refine balloc ?_ _ | refine Below.drew ?_ | refine below_drewN ?_ _ | refine below_set ?_ (by first | omega | (dsimp only; omega)) _))) y1 y2 hB0).mono ?_; rintro e w1 ⟨rfl, hb⟩
  obtain ⟨hc1, hf1⟩ := bcell hb
  have z1 := hb.size
  try simp only [World.size_alloc, World.size_setCell, World.size_drew] at z1
  have hB1 : Below w.heap.size w w1 := below_seq (by repeat (first | exact Below.refl _ _ | refine balloc ?_ _ | refine Below.drew ?_ | refine below_drewN ?_ _ | refine below_set ?_ (by first | omega | (dsimp only; omega)) _)) hb
  clear hb
  go_wp2_with fail
  refine (key_e y B _ (hF.below (by repeat (first | exact hB1 | exact Below.refl _ _ | refine balloc ?_ _ | refine Below.drew ?_ | refine below_drewN ?_ _ | refine below_set ?_ (by first | omega | (dsimp only; omega)) _))) y1 y2 hB0).mono ?_; rintro e w2 ⟨rfl, hb⟩
  obtain ⟨hc2, hf2⟩ := bcell hb
  have z2 := hb.size
  try simp only [World.size_alloc, World.size_setCell, World.size_drew] at z2
  have s2_0 : w1.heap.size < w2.heap.size := by omega
  have hB2 : Below w.heap.size w w2 := below_seq (by repeat (first | exact hB1 | exact Below.refl _ _ | refine balloc ?_ _ | refine Below.drew ?_ | refine below_drewN ?_ _ | refine below_set ?_ (by first | omega | (dsimp only; omega)) _)) hb
  clear hb
  go_wp2_with fail
  refine (rverify_none none 0 ⟨#[]⟩ 0 (.slice none 0 0) _).mono ?_; rintro e w3 ⟨rfl, hb⟩
  obtain ⟨hc3, hf3⟩ := bcell hb
  have z3 := hb.size
  try simp only [World.size_alloc, World.size_setCell, World.size_drew] at z3
  have s3_0 : w1.heap.size < w3.heap.size := by omega
  have s3_1 : w2.heap.size < w3.heap.size := by omega
  have hB3 : Below w.heap.size w w3 := below_seq (by repeat (first | exact hB2 | exact Below.refl _ _ | refine balloc ?_ _ | refine Below.drew ?_ | refine below_drewN ?_ _ | refine below_set ?_ (by first | omega | (dsimp only; omega)) _)) hb
  clear hb
  go_wp2_with fail
  refine (error_err 5 5 _ (hE.below (by repeat (first | exact hB3 | exact Below.refl _ _ | refine balloc ?_ _ | refine Below.drew ?_ | refine below_drewN ?_ _ | refine below_set ?_ (by first | omega | (dsimp only; omega)) _))) true rfl).mono ?_; rintro e w4 ⟨rfl, hb⟩
  obtain ⟨hc4, hf4⟩ := bcell hb
  have z4 := hb.size
  try simp only [World.size_alloc, World.size_setCell, World.size_drew] at z4
  have s4_0 : w1.heap.size < w4.heap.size := by omega
  have s4_1 : w2.heap.size < w4.heap.size := by omega
  have hB4 : Below w.heap.size w w4 := below_seq (by repeat (first | exact hB3 | exact Below.refl _ _ | refine balloc ?_ _ | refine Below.drew ?_ | refine below_drewN ?_ _ | refine below_set ?_ (by first | omega | (dsimp only; omega)) _)) hb
  clear hb
  have i1 := (SpSl.made w4 [B, B] w4.heap.size 2 2 #[.int .i64 B.x, .int .i64 B.y, .bool B.far, .int .i64 B.x, .int .i64 B.y, .bool B.far] 24 rfl rfl rfl).below (below_alloc _ (.cells #[.int .i64 0, .int .i64 0] 3))
  have i2 := IntSl.made (w4.alloc (.cells #[.int .i64 B.x, .int .i64 B.y, .bool B.far, .int .i64 B.x, .int .i64 B.y, .bool B.far] 24)) [0, 0] (w4.heap.size + 1) 2 2 #[.int .i64 0, .int .i64 0] 3 (by simp) rfl rfl
  have hS := Lib.hid (fun hF => two_y y k t B _ hF y1 y2 k1 k2 ht hB0 _ _ i1 i2)
  clear i1 i2
  go_wp2_with fail
  refine (hS.out (hF.below (by repeat (first | exact hB4 | exact Below.refl _ _ | refine balloc ?_ _ | refine Below.drew ?_ | refine below_drewN ?_ _ | refine below_set ?_ (by first | omega | (dsimp only; omega)) _)))).mono ?_; rintro e w5 ⟨C, g, cap, rfl, hb⟩
  obtain ⟨hc5, hf5⟩ := bcell hb
  have z5 := hb.size
  try simp only [World.size_alloc, World.size_setCell, World.size_drew] at z5
  have s5_0 : w1.heap.size < w5.heap.size := by omega
  have s5_1 : w2.heap.size < w5.heap.size := by omega
  have s5_2 : w4.heap.size < w5.heap.size := by omega
  have s5_3 : w4.heap.size + 1 < w5.heap.size := by omega
  have hB5 : Below w.heap.size w w5 := below_seq (by repeat (first | exact hB4 | exact Below.refl _ _ | refine balloc ?_ _ | refine Below.drew ?_ | refine below_drewN ?_ _ | refine below_set ?_ (by first | omega | (dsimp only; omega)) _)) hb
  clear hb
  go_wp2
  go_ret
  exact ⟨rfl, (by repeat (first | exact hB5 | exact Below.refl _ _ | refine balloc ?_ _ | refine Below.drew ?_ | refine below_drewN ?_ _ | refine below_set ?_ (by first | omega | (dsimp only; omega)) _))⟩
set_option maxHeartbeats 8000000 in
theorem rw_w (x y k : Int) (t : ByteArray) (A B : Sp) (w : World) (hF : FarAt w) (hE : ErrAt w) (x1 : 1 ≤ x) (x2 : x < 1013) (y1 : 1 ≤ y) (y2 : y < 1013) (hxy : ¬ x = y) (k1 : 1 ≤ k) (k2 : k < 1013) (ht : t.size ≤ 60) (hA0 : Hid (sq (4 * x) = A)) (hB0 : Hid (sq (4 * y) = B)) (hne : Sp.beq B A = false) :
    Calls Tryd.prog 12 #[.int .i64 x, .int .i64 y, .int .i64 k, .string t] w fun e w' => e = .returned (.bool true) ∧ Below w.heap.size w w' := by
  have ht2 : ¬ 60 < t.size := by omega
  have hxy2 : (x == y) = false := by rw [beq_eq_false_iff_ne]; exact hxy
  go_enter Tryd.func12, Tryd.ntmps12
  go_wp2_with fail
  refine (key_e x A _ (hF.below (by repeat (first | exact Below.refl _ _ | refine balloc ?_ _ | refine Below.drew ?_ | refine below_drewN ?_ _ | refine below_set ?_ (by first | omega | (dsimp only; omega)) _))) x1 x2 hA0).mono ?_; rintro e w1 ⟨rfl, hb⟩
  obtain ⟨hc1, hf1⟩ := bcell hb
  have z1 := hb.size
  try simp only [World.size_alloc, World.size_setCell, World.size_drew] at z1
  have hB1 : Below w.heap.size w w1 := below_seq (by repeat (first | exact Below.refl _ _ | refine balloc ?_ _ | refine Below.drew ?_ | refine below_drewN ?_ _ | refine below_set ?_ (by first | omega | (dsimp only; omega)) _)) hb
  clear hb
  go_wp2_with fail
  refine (key_e y B _ (hF.below (by repeat (first | exact hB1 | exact Below.refl _ _ | refine balloc ?_ _ | refine Below.drew ?_ | refine below_drewN ?_ _ | refine below_set ?_ (by first | omega | (dsimp only; omega)) _))) y1 y2 hB0).mono ?_; rintro e w2 ⟨rfl, hb⟩
  obtain ⟨hc2, hf2⟩ := bcell hb
  have z2 := hb.size
  try simp only [World.size_alloc, World.size_setCell, World.size_drew] at z2
  have s2_0 : w1.heap.size < w2.heap.size := by omega
  have hB2 : Below w.heap.size w w2 := below_seq (by repeat (first | exact hB1 | exact Below.refl _ _ | refine balloc ?_ _ | refine Below.drew ?_ | refine below_drewN ?_ _ | refine below_set ?_ (by first | omega | (dsimp only; omega)) _)) hb
  clear hb
  go_wp2_with fail
  refine (rverify_none none 0 ⟨#[]⟩ 0 (.slice none 0 0) _).mono ?_; rintro e w3 ⟨rfl, hb⟩
  obtain ⟨hc3, hf3⟩ := bcell hb
  have z3 := hb.size
  try simp only [World.size_alloc, World.size_setCell, World.size_drew] at z3
  have s3_0 : w1.heap.size < w3.heap.size := by omega
  have s3_1 : w2.heap.size < w3.heap.size := by omega
  have hB3 : Below w.heap.size w w3 := below_seq (by repeat (first | exact hB2 | exact Below.refl _ _ | refine balloc ?_ _ | refine Below.drew ?_ | refine below_drewN ?_ _ | refine below_set ?_ (by first | omega | (dsimp only; omega)) _)) hb
  clear hb
  go_wp2_with fail
  refine (error_err 5 5 _ (hE.below (by repeat (first | exact hB3 | exact Below.refl _ _ | refine balloc ?_ _ | refine Below.drew ?_ | refine below_drewN ?_ _ | refine below_set ?_ (by first | omega | (dsimp only; omega)) _))) true rfl).mono ?_; rintro e w4 ⟨rfl, hb⟩
  obtain ⟨hc4, hf4⟩ := bcell hb
  have z4 := hb.size
  try simp only [World.size_alloc, World.size_setCell, World.size_drew] at z4
  have s4_0 : w1.heap.size < w4.heap.size := by omega
  have s4_1 : w2.heap.size < w4.heap.size := by omega
  have hB4 : Below w.heap.size w w4 := below_seq (by repeat (first | exact hB3 | exact Below.refl _ _ | refine balloc ?_ _ | refine Below.drew ?_ | refine below_drewN ?_ _ | refine below_set ?_ (by first | omega | (dsimp only; omega)) _)) hb
  clear hb
  have i1 := (SpSl.made w4 [A, B] w4.heap.size 2 2 #[.int .i64 A.x, .int .i64 A.y, .bool A.far, .int .i64 B.x, .int .i64 B.y, .bool B.far] 24 rfl rfl rfl).below (below_alloc _ (.cells #[.int .i64 0, .int .i64 0] 3))
  have i2 := IntSl.made (w4.alloc (.cells #[.int .i64 A.x, .int .i64 A.y, .bool A.far, .int .i64 B.x, .int .i64 B.y, .bool B.far] 24)) [0, 0] (w4.heap.size + 1) 2 2 #[.int .i64 0, .int .i64 0] 3 (by simp) rfl rfl
  have hS := Lib.hid (fun hF => two_w x y k t A B _ hF y1 y2 k1 k2 ht hA0 hB0 hne _ _ i1 i2)
  clear i1 i2
  go_wp2_with fail
  refine (hS.out (hF.below (by repeat (first | exact hB4 | exact Below.refl _ _ | refine balloc ?_ _ | refine Below.drew ?_ | refine below_drewN ?_ _ | refine below_set ?_ (by first | omega | (dsimp only; omega)) _)))).mono ?_; rintro e w5 ⟨rfl, hb⟩
  obtain ⟨hc5, hf5⟩ := bcell hb
  have z5 := hb.size
  try simp only [World.size_alloc, World.size_setCell, World.size_drew] at z5
  have s5_0 : w1.heap.size < w5.heap.size := by omega
  have s5_1 : w2.heap.size < w5.heap.size := by omega
  have s5_2 : w4.heap.size < w5.heap.size := by omega
  have s5_3 : w4.heap.size + 1 < w5.heap.size := by omega
  have hB5 : Below w.heap.size w w5 := below_seq (by repeat (first | exact hB4 | exact Below.refl _ _ | refine balloc ?_ _ | refine Below.drew ?_ | refine below_drewN ?_ _ | refine below_set ?_ (by first | omega | (dsimp only; omega)) _)) hb
  clear hb
  go_wp2_with fail
  refine (error_err 8 8 _ (hE.below (by repeat (first | exact hB5 | exact Below.refl _ _ | refine balloc ?_ _ | refine Below.drew ?_ | refine below_drewN ?_ _ | refine below_set ?_ (by first | omega | (dsimp only; omega)) _))) true rfl).mono ?_; rintro e w6 ⟨rfl, hb⟩
  obtain ⟨hc6, hf6⟩ := bcell hb
  have z6 := hb.size
  try simp only [World.size_alloc, World.size_setCell, World.size_drew] at z6
  have s6_0 : w1.heap.size < w6.heap.size := by omega
  have s6_1 : w2.heap.size < w6.heap.size := by omega
  have s6_2 : w4.heap.size < w6.heap.size := by omega
  have s6_3 : w4.heap.size + 1 < w6.heap.size := by omega
  have s6_4 : w5.heap.size < w6.heap.size := by omega
  have hB6 : Below w.heap.size w w6 := below_seq (by repeat (first | exact hB5 | exact Below.refl _ _ | refine balloc ?_ _ | refine Below.drew ?_ | refine below_drewN ?_ _ | refine below_set ?_ (by first | omega | (dsimp only; omega)) _)) hb
  clear hb
  go_wp2
  go_ret
  exact ⟨rfl, (by repeat (first | exact hB6 | exact Below.refl _ _ | refine balloc ?_ _ | refine Below.drew ?_ | refine below_drewN ?_ _ | refine below_set ?_ (by first | omega | (dsimp only; omega)) _))⟩
theorem ringWrong_law (x : Int) (hx : (Lit.int .i64 x).wf = true) (y : Int) (hy : (Lit.int .i64 y).wf = true) (k : Int) (hk : (Lit.int .i64 k).wf = true) (t : ByteArray) (hz : t.size ≤ 140737488351232) (w : World) (hL : FarAt w ∧ ErrAt w) :
    Calls Tryd.prog 12 #[.int .i64 x, .int .i64 y, .int .i64 k, .string t] w fun e w' => e = .returned (.bool true) ∧ Below w.heap.size w w' := by
  obtain ⟨V2, E2, h2⟩ := key_is y
  by_cases hx1 : 1 ≤ x ∧ x < 1013
  · have h1 : KeyIs x (sq (4 * x)) .nilIface := fun w hF => key_y x w hF hx1.1 hx1.2
    by_cases hy1 : 1 ≤ y ∧ y < 1013
    · have h3 : KeyIs y (sq (4 * y)) .nilIface := fun w hF => key_y y w hF hy1.1 hy1.2
      by_cases hk1 : 1 ≤ k ∧ k < 1013 ∧ t.size ≤ 60
      · by_cases hxy : x = y
        · subst hxy
          exact rw_y x k t _ w hL.1 hL.2 hy1.1 hy1.2 hk1.1 hk1.2.1 hk1.2.2 rfl
        · refine rw_w x y k t _ _ w hL.1 hL.2 hx1.1 hx1.2 hy1.1 hy1.2 hxy hk1.1 hk1.2.1 hk1.2.2 rfl rfl ?_
          refine Sp.beq_ne fun e => hxy ?_
          have := sq_eq_iff.mp e
          omega
      · exact rw_n x y k t _ _ _ _ w hL.1 hL.2 h1 h3 hz (.inr ⟨rfl, .inr ⟨rfl, by omega⟩⟩)
    · exact rw_n x y k t _ _ _ _ w hL.1 hL.2 h1 (show KeyIs y ⟨0, 0, false⟩ (.iface 125 (.int .i64 1)) from fun w _ => key_n y w hy1) hz (.inr ⟨rfl, .inl rfl⟩)
  · exact rw_n x y k t _ _ _ _ w hL.1 hL.2 (show KeyIs x ⟨0, 0, false⟩ (.iface 125 (.int .i64 1)) from fun w _ => key_n x w hx1) h2 hz (.inl ⟨(by intro e; cases e), rfl⟩)
end Go.Proofs.YtnlaofapjldciaaDoor
