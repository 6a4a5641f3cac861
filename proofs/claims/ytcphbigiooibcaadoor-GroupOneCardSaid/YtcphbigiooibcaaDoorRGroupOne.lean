/- The statement of GroupOne: for every input the law returns true, and the arguments read as they did. (its listed variable reads as laid; the card ties it) -/
import Derived.Test.YtcphbigiooibcaaDoorGc
import Derived.Deep.RegionHeld3
import Derived.Deep.QuietTactic
import Derived.BigQuiet
import Derived.Test.YtcphbigiooibcaaDoorFr
import Derived.SizedLaws
import Derived.Test.YtcphbigiooibcaaDoorTie
import Derived.Test.YtcphbigiooibcaaDoorCards
import Derived.Test.YtcphbigiooibcaaDoorFar
import Derived.Test.YtcphbigiooibcaaDoorJf
import Derived.SevenTiedAt
namespace Go.Proofs.YtcphbigiooibcaaDoor
open Go.RowKit
set_option maxRecDepth 100000
set_option linter.unusedVariables false
set_option linter.unusedSimpArgs false
theorem okOne {z : Sp} (h : Ok z) : ∀ y ∈ [z], Ok y := by intro y hy; rw [List.mem_singleton] at hy; rw [hy]; exact h
theorem okTwo {z : Sp} (h : Ok z) : ∀ y ∈ [z, z], Ok y := by intro y hy; simp at hy; rw [hy]; exact h
theorem cfs_two (z : Sp) : ∃ n : Int, cfs [z, z] = [n, n] := ⟨_, rfl⟩
theorem cfs_one (z : Sp) : ∃ n : Int, cfs [z] = [n] := ⟨_, rfl⟩
theorem list1 {l : List Int} (n : Int) (h : l = [n]) {w : World} {v : Value} (hi : IntSl w v l) : ∃ b off cap, v = .slice (some ⟨b, off, none⟩) 1 cap ∧ w.cell? ⟨b, off, none⟩ = some (.int .i64 n) ∧ b < w.heap.size := by
  subst h
  obtain ⟨a, cap, rfl, h'⟩ := hi
  obtain ⟨b, off, rfl, h''⟩ := h' (by simp)
  exact ⟨b, off, cap, rfl, h''.c 0 (by simp), h''.lt⟩
theorem list2 {l : List Int} (n m : Int) (h : l = [n, m]) {w : World} {v : Value} (hi : IntSl w v l) : ∃ b off cap, v = .slice (some ⟨b, off, none⟩) 2 cap ∧ w.cell? ⟨b, off, none⟩ = some (.int .i64 n) ∧ w.cell? ⟨b, off + 1, none⟩ = some (.int .i64 m) ∧ b < w.heap.size := by
  subst h
  obtain ⟨a, cap, rfl, h'⟩ := hi
  obtain ⟨b, off, rfl, h''⟩ := h' (by simp)
  exact ⟨b, off, cap, rfl, h''.c 0 (by simp), h''.c 1 (by simp), h''.lt⟩
theorem fr1 {w w' : World} {t : TypeId} (h : Below ((w.alloc (.cells #[.int .i64 0, .int .i64 0, .bool false] t)).drew).heap.size ((w.alloc (.cells #[.int .i64 0, .int .i64 0, .bool false] t)).drew) w') : SpAt w' w.heap.size ⟨0, 0, false⟩ := (SpAt.drew (SpAt.fresh w 0 0 false t)).below h
theorem fs1 {w w' : World} {t : TypeId} (h : Below (w.alloc (.cells #[.int .i64 0, .int .i64 0, .bool false] t)).heap.size (w.alloc (.cells #[.int .i64 0, .int .i64 0, .bool false] t)) w') : SpAt w' w.heap.size ⟨0, 0, false⟩ := (SpAt.fresh w 0 0 false t).below h
abbrev SD (w1 : World) (c : Nat) (K : Sp) (b o : Nat) (d : Int) (w' : World) : Prop := w'.cell? ⟨c, 0, none⟩ = some (.int .i64 K.x) ∧ w'.cell? ⟨c, 1, none⟩ = some (.int .i64 K.y) ∧ w'.cell? ⟨c, 2, none⟩ = some (.bool K.far) ∧ w'.cell? ⟨b, o, none⟩ = some (.int .i64 d) ∧ c < w1.heap.size ∧ b < w1.heap.size ∧ Below w1.heap.size w1 w'
section
variable {w1 w w' : World} {c b o : Nat} {K : Sp} {d : Int}
theorem SD.goes (h : SD w1 c K b o d w) (hb : Below w.heap.size w w') : SD w1 c K b o d w' :=
  have hs := h.2.2.2.2.2.2.size
  have hc : c < w.heap.size := Nat.lt_of_lt_of_le h.2.2.2.2.1 hs
  have hd : b < w.heap.size := Nat.lt_of_lt_of_le h.2.2.2.2.2.1 hs
  ⟨((bcell hb).1 _ _ hc).trans h.1, ((bcell hb).1 _ _ hc).trans h.2.1, ((bcell hb).1 _ _ hc).trans h.2.2.1, ((bcell hb).1 _ _ hd).trans h.2.2.2.1, h.2.2.2.2.1, h.2.2.2.2.2.1, below_seq h.2.2.2.2.2.2 hb⟩
theorem SD.drew (h : SD w1 c K b o d w) : SD w1 c K b o d w.drew := h.goes (Below.refl _ _).drew
theorem SD.alloc (h : SD w1 c K b o d w) (q : Obj) : SD w1 c K b o d (w.alloc q) := h.goes (below_alloc _ _)
theorem SD.set (h : SD w1 c K b o d w) {k : Nat} (hk : w1.heap.size ≤ k) (x y z : Value) : SD w1 c K b o d (((w.setCell ⟨k, 0, none⟩ x).setCell ⟨k, 1, none⟩ y).setCell ⟨k, 2, none⟩ z) := by
  have hne : k ≠ c := fun e => by have := h.2.2.2.2.1; omega
  have hnd : k ≠ b := fun e => by have := h.2.2.2.2.2.1; omega
  have hx : ∀ q, (((w.setCell ⟨k, 0, none⟩ x).setCell ⟨k, 1, none⟩ y).setCell ⟨k, 2, none⟩ z).cell? ⟨b, q, none⟩ = w.cell? ⟨b, q, none⟩ := fun q => by
    rw [World.cell?_setCell_other (h := fun e => hnd (congrArg Addr.block e)), World.cell?_setCell_other (h := fun e => hnd (congrArg Addr.block e)), World.cell?_setCell_other (h := fun e => hnd (congrArg Addr.block e))]
  exact ⟨(set3_other hne).trans h.1, (set3_other hne).trans h.2.1, (set3_other hne).trans h.2.2.1, (hx _).trans h.2.2.2.1, h.2.2.2.2.1, h.2.2.2.2.2.1, set3_below h.2.2.2.2.2.2 hk⟩
end
set_option maxHeartbeats 8000000 in
theorem go_n (x k : Int) (t : ByteArray) (E : Int) (w : World) (hF : FarAt w) (hz : t.size ≤ 140737488351232) (hE : Hid (groupF [x] [k] t.size = E)) (h0 : E ≠ 0) (n : Int) (hn : Hid (cfs [⟨1189, 3667, false⟩, ⟨1189, 3667, false⟩] = [n, n])) (oG : Hid (∀ y ∈ [(⟨1189, 3667, false⟩ : Sp), ⟨1189, 3667, false⟩], Ok y)) :
    Calls Tryd.prog 3 #[.int .i64 x, .int .i64 k, .string t] w fun e w' => e = .returned (.bool true) ∧ Below w.heap.size w w' := by
  go_enter Tryd.func3, Tryd.ntmps3
  have i1 : IntSl ((w.alloc (.cells #[.int .i64 x] 3)).alloc (.cells #[.int .i64 k] 3)) (.slice (some ⟨w.heap.size, 0, none⟩) 1 1) [x] := (IntSl.made w [x] w.heap.size 1 1 #[.int .i64 x] 3 rfl rfl rfl).below (below_alloc _ _)
  have i2 : IntSl ((w.alloc (.cells #[.int .i64 x] 3)).alloc (.cells #[.int .i64 k] 3)) (.slice (some ⟨w.heap.size + 1, 0, none⟩) 1 1) [k] := IntSl.made _ [k] (w.heap.size + 1) 1 1 #[.int .i64 k] 3 (by simp) rfl rfl
  have hg := gsign_n [x] [k] _ _ t E _ i1 i2 (by simp) (by simp) hz hE h0
  go_wp2_with fail
  refine (hg).mono ?_; rintro e w1 ⟨rfl, hb⟩
  obtain ⟨hc1, hf1⟩ := bcell hb
  have z1 := hb.size
  try simp only [World.size_alloc, World.size_setCell, World.size_drew] at z1
  have s1_0 : w.heap.size < w1.heap.size := by omega
  have s1_1 : w.heap.size + 1 < w1.heap.size := by omega
  have hB1 : Below w.heap.size w w1 := below_seq (by repeat (first | exact Below.refl _ _ | refine balloc ?_ _ | refine Below.drew ?_ | refine below_drewN ?_ _ | refine below_set ?_ (by first | omega | (dsimp only; omega)) _)) hb
  clear hb
  go_wp2_with fail
  refine (key_one _ (hF.below (by repeat (first | exact hB1 | exact Below.refl _ _ | refine balloc ?_ _ | refine Below.drew ?_ | refine below_drewN ?_ _ | refine below_set ?_ (by first | omega | (dsimp only; omega)) _)))).mono ?_; rintro e w2 ⟨rfl, hb⟩
  obtain ⟨hc2, hf2⟩ := bcell hb
  have z2 := hb.size
  try simp only [World.size_alloc, World.size_setCell, World.size_drew] at z2
  have s2_0 : w.heap.size < w2.heap.size := by omega
  have s2_1 : w.heap.size + 1 < w2.heap.size := by omega
  have s2_2 : w1.heap.size < w2.heap.size := by omega
  have hB2 : Below w.heap.size w w2 := below_seq (by repeat (first | exact hB1 | exact Below.refl _ _ | refine balloc ?_ _ | refine Below.drew ?_ | refine below_drewN ?_ _ | refine below_set ?_ (by first | omega | (dsimp only; omega)) _)) hb
  clear hb
  have i3 := SpSl.made (w2.alloc (.cells #[.int .i64 1189, .int .i64 3667, .bool false] 23)) [⟨1189, 3667, false⟩, ⟨1189, 3667, false⟩] (w2.heap.size + 1) 2 2 #[.int .i64 1189, .int .i64 3667, .bool false, .int .i64 1189, .int .i64 3667, .bool false] 23 (by simp) rfl rfl
  have oG' := oG.out
  have hn' := hn.out
  generalize hll : [(⟨1189, 3667, false⟩ : Sp), ⟨1189, 3667, false⟩] = ll at *
  have hlen : ll.length ≤ 12 := by rw [← hll]; decide
  have hll' := Lib.hid hll
  clear hll
  have hc3 := Lib.hid (fun h => coefs_c ll _ _ h hlen i3 oG')
  clear i3 oG'
  go_wp2_with fail
  refine (hc3.out (hF.below (by repeat (first | exact hB2 | exact Below.refl _ _ | refine balloc ?_ _ | refine Below.drew ?_ | refine below_drewN ?_ _ | refine below_set ?_ (by first | omega | (dsimp only; omega)) _)))).mono ?_; rintro e w3 ⟨cv, rfl, hi, hb⟩
  obtain ⟨hc3, hf3⟩ := bcell hb
  have z3 := hb.size
  try simp only [World.size_alloc, World.size_setCell, World.size_drew] at z3
  have s3_0 : w.heap.size < w3.heap.size := by omega
  have s3_1 : w.heap.size + 1 < w3.heap.size := by omega
  have s3_2 : w1.heap.size < w3.heap.size := by omega
  have s3_3 : w2.heap.size < w3.heap.size := by omega
  have s3_4 : w2.heap.size + 1 < w3.heap.size := by omega
  have hB3 : Below w.heap.size w w3 := below_seq (by repeat (first | exact hB2 | exact Below.refl _ _ | refine balloc ?_ _ | refine Below.drew ?_ | refine below_drewN ?_ _ | refine below_set ?_ (by first | omega | (dsimp only; omega)) _)) hb
  clear hb
  obtain ⟨b, off, cap, rfl, c0, c1, cl⟩ := list2 n n hn' hi
  clear hi
  go_wp2_with fail
  go_quiet (fail)
  go_wp2
  go_ret
  exact ⟨rfl, (by repeat (first | exact hB3 | exact Below.refl _ _ | refine balloc ?_ _ | refine Below.drew ?_ | refine below_drewN ?_ _ | refine below_set ?_ (by first | omega | (dsimp only; omega)) _))⟩
set_option maxHeartbeats 8000000 in
theorem go_y (x k : Int) (t : ByteArray) (K R J : Sp) (d c S : Int) (w : World) (hF : FarAt w) (x1 : 1 ≤ x) (x2 : x < 1013) (k1 : 1 ≤ k) (k2 : k < 1013) (hz : t.size ≤ 140737488351232) (hE : groupF [x] [k] t.size = 0) (n : Int) (hn : Hid (cfs [⟨1189, 3667, false⟩, ⟨1189, 3667, false⟩] = [n, n])) (oG : Hid (∀ y ∈ [(⟨1189, 3667, false⟩ : Sp), ⟨1189, 3667, false⟩], Ok y))
    (hl : Hid ([x].map (fun x => sq (4 * x)) = [K])) (hJ : Hid (sq (4 * dot [x] (cfs [K])) = J)) (hR : Hid (sq (4 * [k].sum) = R)) (hc : Hid (askN R J t.data.toList = c)) (hS : Hid (([k].sum + c * dot [x] (cfs [K])) % 1013 = S))
    (hK : Hid (sq (4 * x) = K)) (hd : Hid (cfs [K] = [d])) (oK : Hid (∀ y ∈ [K], Ok y)) (hu : Hid ([K] = [4 * x].map sq)) (hJ2 : Hid (sq (dot [4 * x] (cfs [K])) = J)) (hJ3 : Hid (sq (4 * x * d) = J)) (hK2 : Hid (K = sq (4 * x))) (hR2 : Hid (sq (4 * k) = R)) :
    Calls Tryd.prog 3 #[.int .i64 x, .int .i64 k, .string t] w fun e w' => e = .returned (.bool true) ∧ Below w.heap.size w w' := by
  go_enter Tryd.func3, Tryd.ntmps3
  have i1 : IntSl ((w.alloc (.cells #[.int .i64 x] 3)).alloc (.cells #[.int .i64 k] 3)) (.slice (some ⟨w.heap.size, 0, none⟩) 1 1) [x] := (IntSl.made w [x] w.heap.size 1 1 #[.int .i64 x] 3 rfl rfl rfl).below (below_alloc _ _)
  have i2 : IntSl ((w.alloc (.cells #[.int .i64 x] 3)).alloc (.cells #[.int .i64 k] 3)) (.slice (some ⟨w.heap.size + 1, 0, none⟩) 1 1) [k] := IntSl.made _ [k] (w.heap.size + 1) 1 1 #[.int .i64 k] 3 (by simp) rfl rfl
  have hg := Lib.hid (fun hF => gsign_e [x] [k] _ _ t [K] J R c S _ hF i1 i2 hz hE hl hJ hR hc hS)
  clear i1 i2 hE hl hJ hR hc hS
  go_wp2_with fail
  refine (hg.out (hF.below (by repeat (first | exact Below.refl _ _ | refine balloc ?_ _ | refine Below.drew ?_ | refine below_drewN ?_ _ | refine below_set ?_ (by first | omega | (dsimp only; omega)) _)))).mono ?_; rintro e w1 ⟨rfl, hb⟩
  obtain ⟨hc1, hf1⟩ := bcell hb
  have z1 := hb.size
  try simp only [World.size_alloc, World.size_setCell, World.size_drew] at z1
  have s1_0 : w.heap.size < w1.heap.size := by omega
  have s1_1 : w.heap.size + 1 < w1.heap.size := by omega
  have hB1 : Below w.heap.size w w1 := below_seq (by repeat (first | exact Below.refl _ _ | refine balloc ?_ _ | refine Below.drew ?_ | refine below_drewN ?_ _ | refine below_set ?_ (by first | omega | (dsimp only; omega)) _)) hb
  clear hb
  go_wp2_with fail
  refine (key_one _ (hF.below (by repeat (first | exact hB1 | exact Below.refl _ _ | refine balloc ?_ _ | refine Below.drew ?_ | refine below_drewN ?_ _ | refine below_set ?_ (by first | omega | (dsimp only; omega)) _)))).mono ?_; rintro e w2 ⟨rfl, hb⟩
  obtain ⟨hc2, hf2⟩ := bcell hb
  have z2 := hb.size
  try simp only [World.size_alloc, World.size_setCell, World.size_drew] at z2
  have s2_0 : w.heap.size < w2.heap.size := by omega
  have s2_1 : w.heap.size + 1 < w2.heap.size := by omega
  have s2_2 : w1.heap.size < w2.heap.size := by omega
  have hB2 : Below w.heap.size w w2 := below_seq (by repeat (first | exact hB1 | exact Below.refl _ _ | refine balloc ?_ _ | refine Below.drew ?_ | refine below_drewN ?_ _ | refine below_set ?_ (by first | omega | (dsimp only; omega)) _)) hb
  clear hb
  have i3 := SpSl.made (w2.alloc (.cells #[.int .i64 1189, .int .i64 3667, .bool false] 23)) [⟨1189, 3667, false⟩, ⟨1189, 3667, false⟩] (w2.heap.size + 1) 2 2 #[.int .i64 1189, .int .i64 3667, .bool false, .int .i64 1189, .int .i64 3667, .bool false] 23 (by simp) rfl rfl
  have oG' := oG.out
  have hn' := hn.out
  generalize hll : [(⟨1189, 3667, false⟩ : Sp), ⟨1189, 3667, false⟩] = ll at *
  have hlen : ll.length ≤ 12 := by rw [← hll]; decide
  have hll' := Lib.hid hll
  clear hll
  have hc3 := Lib.hid (fun h => coefs_c ll _ _ h hlen i3 oG')
  clear i3 oG'
  go_wp2_with fail
  refine (hc3.out (hF.below (by repeat (first | exact hB2 | exact Below.refl _ _ | refine balloc ?_ _ | refine Below.drew ?_ | refine below_drewN ?_ _ | refine below_set ?_ (by first | omega | (dsimp only; omega)) _)))).mono ?_; rintro e w3 ⟨cv, rfl, hi, hb⟩
  obtain ⟨hc3, hf3⟩ := bcell hb
  have z3 := hb.size
  try simp only [World.size_alloc, World.size_setCell, World.size_drew] at z3
  have s3_0 : w.heap.size < w3.heap.size := by omega
  have s3_1 : w.heap.size + 1 < w3.heap.size := by omega
  have s3_2 : w1.heap.size < w3.heap.size := by omega
  have s3_3 : w2.heap.size < w3.heap.size := by omega
  have s3_4 : w2.heap.size + 1 < w3.heap.size := by omega
  have hB3 : Below w.heap.size w w3 := below_seq (by repeat (first | exact hB2 | exact Below.refl _ _ | refine balloc ?_ _ | refine Below.drew ?_ | refine below_drewN ?_ _ | refine below_set ?_ (by first | omega | (dsimp only; omega)) _)) hb
  clear hb
  obtain ⟨b, off, cap, rfl, c0, c1, cl⟩ := list2 n n hn' hi
  clear hi hn'
  go_wp2_with fail
  go_quiet (fail)
  go_wp2_with fail
  refine (key_e x K _ (hF.below (by repeat (first | exact hB3 | exact Below.refl _ _ | refine balloc ?_ _ | refine Below.drew ?_ | refine below_drewN ?_ _ | refine below_set ?_ (by first | omega | (dsimp only; omega)) _))) x1 x2 hK).mono ?_; rintro e w4 ⟨rfl, hb⟩
  obtain ⟨hc4, hf4⟩ := bcell hb
  have z4 := hb.size
  try simp only [World.size_alloc, World.size_setCell, World.size_drew] at z4
  try simp only [World.heap_drewN] at z4
  have s4_0 : w.heap.size < w4.heap.size := by omega
  have s4_1 : w.heap.size + 1 < w4.heap.size := by omega
  have s4_2 : w1.heap.size < w4.heap.size := by omega
  have s4_3 : w2.heap.size < w4.heap.size := by omega
  have s4_4 : w2.heap.size + 1 < w4.heap.size := by omega
  have hB4 : Below w.heap.size w w4 := below_seq (by repeat (first | exact hB3 | exact Below.refl _ _ | refine balloc ?_ _ | refine Below.drew ?_ | refine below_drewN ?_ _ | refine below_set ?_ (by first | omega | (dsimp only; omega)) _)) hb
  clear hb
  simp only [World.heap_drewN] at hc4 hf4
  clear c0 c1 cl
  have i4 := SpSl.made (w4.alloc (.cells #[.int .i64 K.x, .int .i64 K.y, .bool K.far] 23)) [K] (w4.heap.size + 1) 1 1 #[.int .i64 K.x, .int .i64 K.y, .bool K.far] 23 (by simp) rfl rfl
  have oK' := oK.out
  have hd' := hd.out
  have j4 := Lib.hid (fun (w5 : World) (h5 : FarAt w5) i5 => joint_c [4 * x] [K] (.slice (some ⟨w5.heap.size, 0, none⟩) 1 1) J (w5.alloc (.cells #[.int .i64 K.x, .int .i64 K.y, .bool K.far] 23)) (h5.below (below_alloc _ _)) (by simp) i5 hu hJ2)
  have i5 := Lib.hid (fun w5 : World => SpSl.made w5 [K] w5.heap.size 1 1 #[.int .i64 K.x, .int .i64 K.y, .bool K.far] 23 rfl rfl rfl)
  generalize hkk : [K] = kk at *
  have hlen1 : kk.length ≤ 12 := by rw [← hkk]; simp
  have hkk' := Lib.hid hkk
  clear hkk
  have hc5 := Lib.hid (fun h => coefs_c kk _ _ h hlen1 i4 oK')
  clear i4 oK'
  go_wp2_with fail
  refine (hc5.out (hF.below (by repeat (first | exact hB4 | exact Below.refl _ _ | refine balloc ?_ _ | refine Below.drew ?_ | refine below_drewN ?_ _ | refine below_set ?_ (by first | omega | (dsimp only; omega)) _)))).mono ?_; rintro e w5 ⟨cv2, rfl, hi, hb⟩
  obtain ⟨hc5, hf5⟩ := bcell hb
  have z5 := hb.size
  try simp only [World.size_alloc, World.size_setCell, World.size_drew] at z5
  try simp only [World.heap_drewN] at z5
  have s5_0 : w.heap.size < w5.heap.size := by omega
  have s5_1 : w.heap.size + 1 < w5.heap.size := by omega
  have s5_2 : w1.heap.size < w5.heap.size := by omega
  have s5_3 : w2.heap.size < w5.heap.size := by omega
  have s5_4 : w2.heap.size + 1 < w5.heap.size := by omega
  have s5_5 : w4.heap.size < w5.heap.size := by omega
  have s5_6 : w4.heap.size + 1 < w5.heap.size := by omega
  have hB5 : Below w.heap.size w w5 := below_seq (by repeat (first | exact hB4 | exact Below.refl _ _ | refine balloc ?_ _ | refine Below.drew ?_ | refine below_drewN ?_ _ | refine below_set ?_ (by first | omega | (dsimp only; omega)) _)) hb
  clear hb
  obtain ⟨b2, off2, cap2, rfl, c02, cl2⟩ := list1 d hd' hi
  clear hi hd'
  have g5 := Lib.hid (j4.out w5 (hF.below hB5) (i5.out w5))
  go_wp2_with fail
  refine (g5.out).mono ?_; rintro e w6 ⟨rfl, hb⟩
  obtain ⟨hc6, hf6⟩ := bcell hb
  have z6 := hb.size
  try simp only [World.size_alloc, World.size_setCell, World.size_drew] at z6
  try simp only [World.heap_drewN] at z6
  have s6_0 : w.heap.size < w6.heap.size := by omega
  have s6_1 : w.heap.size + 1 < w6.heap.size := by omega
  have s6_2 : w1.heap.size < w6.heap.size := by omega
  have s6_3 : w2.heap.size < w6.heap.size := by omega
  have s6_4 : w2.heap.size + 1 < w6.heap.size := by omega
  have s6_5 : w4.heap.size < w6.heap.size := by omega
  have s6_6 : w4.heap.size + 1 < w6.heap.size := by omega
  have hB6 : Below w.heap.size w w6 := below_seq (by repeat (first | exact hB5 | exact Below.refl _ _ | refine balloc ?_ _ | refine Below.drew ?_ | refine below_drewN ?_ _ | refine below_set ?_ (by first | omega | (dsimp only; omega)) _)) hb
  clear hb
  go_upto_region 13 with fail
  have cl3 : b2 < w5.heap.size + 1 := by omega
  have cl4 : b2 < w6.heap.size := by omega
  have hSD : SD (w6.alloc (.cells #[.int .i64 J.x, .int .i64 J.y, .bool J.far] 23)) w4.heap.size K b2 off2 d (w6.alloc (.cells #[.int .i64 J.x, .int .i64 J.y, .bool J.far] 23)) := ⟨by go_simp, by go_simp, by go_simp, by go_simp, by simp; omega, by simp; omega, Below.refl _ _⟩
  have hJ6 := SpAt.fresh w6 J.x J.y J.far 23
  have hR0 : (w6.alloc (.cells #[.int .i64 J.x, .int .i64 J.y, .bool J.far] 23)).cell? ⟨w1.heap.size, 0, none⟩ = some (.int .i64 R.x) := by go_simp
  have hR1 : (w6.alloc (.cells #[.int .i64 J.x, .int .i64 J.y, .bool J.far] 23)).cell? ⟨w1.heap.size, 1, none⟩ = some (.int .i64 R.y) := by go_simp
  have hR2' : (w6.alloc (.cells #[.int .i64 J.x, .int .i64 J.y, .bool J.far] 23)).cell? ⟨w1.heap.size, 2, none⟩ = some (.bool R.far) := by go_simp
  have hR0 := Lib.hid hR0
  have hR1 := Lib.hid hR1
  have hR2' := Lib.hid hR2'
  have hB6' := balloc hB6 (.cells #[.int .i64 J.x, .int .i64 J.y, .bool J.far] 23)
  have hFW := Lib.hid (hF.below hB6')
  have hJ6 := Lib.hid hJ6
  have hB6' := Lib.hid hB6'
  have zW : w6.heap.size < (w6.alloc (.cells #[.int .i64 J.x, .int .i64 J.y, .bool J.far] 23)).heap.size := by simp
  clear c02 cl2
  generalize w6.alloc (.cells #[.int .i64 J.x, .int .i64 J.y, .bool J.far] 23) = W at *
  have hSD' := Lib.hid hSD
  have sR : w1.heap.size < W.heap.size := by omega
  have zw : w.heap.size ≤ W.heap.size := by omega
  clear hc1 hf1 hc2 hf2 hc3 hf3 hc4 hf4 hc5 hf5 hc6 hf6 hB1 hB2 hB3 hB4 hB5 hB6 z1 z2 z3 z4 z5 z6
  go_cut [14, 19] (fun s14 s19 wx => ∃ p : Nat, s14 = .nilIface ∧ s19 = .pointer (some ⟨p, 0, none⟩) ∧ SpAt wx p J ∧ W.heap.size ≤ p ∧ Below W.heap.size W wx)
  case first =>
    have S0 := hSD
    obtain ⟨t0, t1, t2, t3, t4, t5, -⟩ := hSD
    go_region_held3 (fun w' => w'.cell? ⟨w4.heap.size, 0, none⟩ = some (.int .i64 K.x) ∧ w'.cell? ⟨w4.heap.size, 1, none⟩ = some (.int .i64 K.y) ∧ w'.cell? ⟨w4.heap.size, 2, none⟩ = some (.bool K.far) ∧ w'.cell? ⟨b2, off2, none⟩ = some (.int .i64 d) ∧ w4.heap.size < W.heap.size ∧ b2 < W.heap.size ∧ Below W.heap.size W w') (first | with_reducible exact S0.drew | with_reducible exact (S0.alloc _).drew | with_reducible exact SD.goes S0 hwa | with_reducible exact (SD.goes S0 hwa).alloc _ | (refine SD.goes S0 ?_; repeat (first | with_reducible exact hwa | with_reducible refine balloc ?_ _ | with_reducible refine Below.drew ?_ | with_reducible refine below_set ?_ (by first | omega | (dsimp only; omega)) _))) (first | (go_at_call 19; refine (times_e K J (4 * x) d _ (hFW.out.below (by repeat (with_reducible first | exact Below.refl _ _ | refine balloc ?_ _ | refine Below.drew ?_))) hK2 hJ3).mono ?_; rintro e wa ⟨rfl, ha⟩; have hwa : Below W.heap.size W wa := below_seq (by repeat (with_reducible first | exact Below.refl _ _ | refine balloc ?_ _ | refine Below.drew ?_)) ha; have hza := hwa.size; (first | (with_reducible have kA := fr1 ha; obtain ⟨a0, a1, a2, a3, a4, a5, a6⟩ := id kA) | (with_reducible have kA := fs1 ha; obtain ⟨a0, a1, a2, a3, a4, a5, a6⟩ := id kA) | skip)))
    all_goals
      go_wp2_with fail
      go_meet
      refine ⟨_, rfl, rfl, ?_, by omega, ?_⟩
      · repeat (with_reducible first | assumption | exact SpAt.fresh _ _ _ _ _ | exact SpAt.fresh1 _ _ _ _ _ _ | refine SpAt.set3 (s := ⟨0, 0, false⟩) ?_ _ | refine SpAt.alloc ?_ _)
      · repeat (with_reducible first | exact hwa | refine balloc ?_ _ | refine Below.drew ?_ | refine below_set ?_ (by first | omega | (dsimp only; omega)) _)
  case rest =>
    obtain ⟨p, rfl, rfl, hp, hpl, hw⟩ := hcut
    have hBc := below_seq hB6'.out hw
    have hJc := hJ6.out.below hw
    obtain ⟨kc, -⟩ := bcell hw
    have u0 := (kc _ 0 sR).trans hR0.out
    have u1 := (kc _ 1 sR).trans hR1.out
    have u2 := (kc _ 2 sR).trans hR2'.out
    have zc := hw.size
    have hFc := hFW.out.below hw
    clear kc
    go_wp2_with fail
    refine (key_e k R _ hFc k1 k2 hR2).mono ?_; rintro e w7 ⟨rfl, hb7⟩
    obtain ⟨p0, p1, p2, -, -, -, pl⟩ := hp.below hb7
    obtain ⟨j0, j1, j2, -, -, -, jl⟩ := hJc.below hb7
    obtain ⟨kc, -⟩ := bcell hb7
    have v0 := (kc _ 0 (by omega)).trans u0
    have v1 := (kc _ 1 (by omega)).trans u1
    have v2 := (kc _ 2 (by omega)).trans u2
    have vl : w1.heap.size < w7.heap.size := by have := hb7.size; omega
    clear kc u0 u1 u2
    have hB7 := Lib.hid (below_seq hBc hb7)
    clear hb7
    go_wp2
    go_ret
    exact ⟨rfl, (by repeat (first | exact hB7.out | refine balloc ?_ _ | refine Below.drew ?_))⟩
theorem groupOne_law (x : Int) (hx : (Lit.int .i64 x).wf = true) (k : Int) (hk : (Lit.int .i64 k).wf = true) (t : ByteArray) (hz : t.size ≤ 140737488351232) (w : World) (hF : FarAt w) :
    Calls Tryd.prog 3 #[.int .i64 x, .int .i64 k, .string t] w fun e w' => e = .returned (.bool true) ∧ Below w.heap.size w w' := by
  have oG : ∀ y ∈ [(⟨1189, 3667, false⟩ : Sp), ⟨1189, 3667, false⟩], Ok y := okTwo (ok_of sq_4.symm)
  obtain ⟨n, hn⟩ := cfs_two ⟨1189, 3667, false⟩
  by_cases hE : groupF [x] [k] t.size = 0
  · obtain ⟨-, -, h1, h2, hz6⟩ := groupF_0 hE
    obtain ⟨x1, x2⟩ := h1 0 (by simp)
    obtain ⟨k1, k2⟩ := h2 0 (by simp)
    simp only [List.getElem_cons_zero] at x1 x2 k1 k2
    obtain ⟨d, hd⟩ := cfs_one (sq (4 * x))
    have hdt : ∀ y, dot [y] [d] = y * d := fun y => by simp [dot]
    refine go_y x k t _ _ _ d _ _ w hF x1 x2 k1 k2 hz hE n hn oG rfl rfl rfl rfl rfl rfl hd (okOne (sq_ok _)) rfl ?_ ?_ rfl ?_
    · rw [hd, hdt, hdt, Int.mul_assoc]; exact Lib.hid rfl
    · rw [hd, hdt, Int.mul_assoc]; exact Lib.hid rfl
    · exact Lib.hid (by simp)
  · exact go_n x k t _ w hF hz rfl hE n hn oG
end Go.Proofs.YtcphbigiooibcaaDoor
namespace Go.Proofs.YtcphbigiooibcaaDoor.groupOne
open Go.ChangeShapes Go.WideShapes Go.ChangeAt Go.RowKit
set_option linter.unusedVariables false
theorem typesOk : ([3, 3, 9].all fun t => Tryd.prog.readableRec t && decide (t < Tryd.prog.types.size)) = true := by kernel_rfl
set_option maxRecDepth 100000 in
theorem lifted (os : Os) (started : os.Started) (H : Type) (enc : TypeId × Value → H) :
    ReturnsInHanded {} Tryd.checked os 3 .any (fun w args => (Rows.groupOneSpec.pre enc Tryd.prog Tryd.f3 [] false w args ∧ laidMetH Tryd.prog farLaid w) ∧ sizedMet enc Tryd.prog Tryd.f3 (OpenSpec.ofChange Rows.groupOneSpec) false w args)
      (Rows.groupOneSpec.post enc Tryd.prog Tryd.f3 false true false false) := by
  refine returnsInHanded_of_change_and (C := Tryd.checked) (X := fun w _ => laidMetH Tryd.prog farLaid w) (fun _ _ _ hh h => h.of_heap hh) Tryd.ownK started (by kernel_rfl) Tryd.func3
    (ChangeSpec.witness_shaped (enc := enc) (C := Tryd.checked) (os := os) (X := fun w _ => laidMetH Tryd.prog farLaid w) false (World.doorLaid Tryd.prog 400 os) #[.int .i64 0, .int .i64 0, .string ⟨#[]⟩] 8 rfl (World.shaped_of_RefB (by kernel_rfl) (by kernel_rfl)) (by kernel_rfl) (by kernel_rfl) (by kernel_rfl) (farLaid_met os _)) ?_
  intro W base args ds gs before hval0 hW hcnd hsz0 hL hholds
  have hval : ∀ (j : Nat) t v, Tryd.f3.params[j]? = some t → args[j]? = some v → Value.okWide Tryd.prog W .any base t v := hval0
  have hW' := hW
  obtain ⟨p, q, hA0, hV, rfl, hfz, hnd⟩ := hW
  have hA : DataW.TrodAll enc Tryd.prog W 0 (fun _ => true) true Tryd.f3.params.toList args.toList ds p := hA0
  obtain ⟨rfl, rfl⟩ := trodVars_none hV
  simp only [List.append_nil] at hW'
  have hlt : ∀ x ∈ p, x.block < W.heap.size := fun x hx => hW'.lt x hx
  have hsz : (DataW.weightsEach Tryd.prog (Tryd.f3.params.toList ++ Rows.groupOneSpec.plain.varTypes Tryd.prog) (ds ++ [])).all (· ≤ reachBytes) = true := hsz0
  rw [Tryd.params3] at hA hval hsz
  have hK := hA
  obtain ⟨v0, vs0, d0, ds0, p0, q0, hargs, rfl, rfl, h0, r0⟩ := trodAll_cons hA
  obtain ⟨v1, vs1, d1, ds1, p1, q1, rfl, rfl, rfl, h1, r1⟩ := trodAll_cons r0
  obtain ⟨v2, vs2, d2, ds2, p2, q2, rfl, rfl, rfl, h2, r2⟩ := trodAll_cons r1
  obtain ⟨rfl, rfl, rfl⟩ := trodAll_nil r2
  obtain rfl : args = #[v0, v1, v2] := by cases args; simp_all
  obtain ⟨a0, rfl, rfl, rfl, w0⟩ := open_int Tryd.underlying3 (hval 0 3 v0 rfl rfl) h0
  obtain ⟨a1, rfl, rfl, rfl, w1⟩ := open_int Tryd.underlying3 (hval 1 3 v1 rfl rfl) h1
  obtain ⟨a2, rfl, rfl, rfl, w2⟩ := ChangeMaps.open_string Tryd.underlying9 (hval 2 9 v2 rfl rfl) h2
  have z2 : a2.size ≤ 140737488351232 := by have := sized_string hsz (j := 2) (t := 9) rfl rfl; simpa [reachBytes] using this
  clear hA0 hval0
  refine (groupOne_law a0 w0 a1 w1 a2 z2 W (farLaid_at hL)).mono fun e W' ⟨he, hg⟩ => ?_
  subst he
  exact ⟨_, rfl, post_of_below (pa := _) (pv := []) hW' (fun _ _ _ => (trodAll_cons_mk (shut_bool Tryd.underlying4 _) trodAll_mk0)) (fun sp hsp => trodAll_stays Tryd.laidOutK hg typesOk hK (fun x hx => ⟨hlt x hx, hsp x (by first | exact hx | (simp at hx) | simpa using hx)⟩)) (fun _ _ => rfl) (by simp) hg (ok_one (by kernel_rfl) rfl (okWide_bool_mk Tryd.underlying4 _))⟩

theorem over : Rows.groupOneRow.holds Tryd.pinned (OpenSpec.ofChange Rows.groupOneSpec) :=
  OpenClaim.holds_of_wide 3 Tryd.f3 rfl rfl rfl rfl rfl rfl rfl ⟨rfl, rfl, rfl, rfl, rfl⟩ rfl rfl rfl rfl rfl (by kernel_rfl) Tryd.func3 (by show joinedFacts Tryd.prog _ _ _ _ = true; unfold joinedFacts; rw [mayEnterK, liftsFinalK, makeK]; kernel_rfl)
    (of_decide_eq_true (by kernel_rfl)) (by unfold Func.isWrapper; first | (rw [if_pos (by decide +kernel)]; kernel_rfl) | (rw [if_neg (by decide +kernel)]; exact ⟨rfl, rfl⟩))
    (fun os started H enc _ => lifted os started H enc)
theorem card : Rows.GroupOneCardSaid :=
  Claim7.holds_tied_plain_at .later [] [.data] true (true, "60558bf5146220f1391580bf7513f01283a721c5be6bc01e648492e84d139369") true
    over (fun _ h => by cases h) (by kernel_rfl) (fun _ h => by cases h) groupOne_row_tie rfl ⟨rfl, rfl⟩ mainIsK rfl
    (fun f fn hf hfn => by
      obtain rfl : f = 3 := Option.some.inj ((show Tryd.prog.funcNamed "pairstone/stonelaw4.GroupOne" = some 3 by kernel_rfl).symm.trans hf) |>.symm
      obtain rfl : fn = Tryd.f3 := (Option.some.inj (Tryd.func3.symm.trans hfn)).symm
      exact ⟨by kernel_rfl, fun j t ht => by
        rw [Tryd.params3] at ht
        have hm : t ∈ ([3, 3, 9] : List TypeId) := by simpa using Array.mem_of_getElem? ht
        have hall : (([3, 3, 9] : List TypeId).all fun u => !Tryd.prog.wantsStandIn u) = true := by kernel_rfl
        exact (show Tryd.prog.wantsStandIn t = false by simpa using List.all_eq_true.1 hall t hm)⟩)
    (by kernel_rfl)
#print axioms card
end Go.Proofs.YtcphbigiooibcaaDoor.groupOne
