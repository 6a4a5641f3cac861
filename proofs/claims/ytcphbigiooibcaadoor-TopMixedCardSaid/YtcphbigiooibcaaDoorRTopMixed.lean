/- The statement of TopMixed: for every input the law returns true, and the arguments read as they did. (its listed variable reads as laid; the card ties it) -/
import Derived.Test.YtcphbigiooibcaaDoorMTopMixed
import Derived.Test.YtcphbigiooibcaaDoorSb
import Derived.Test.YtcphbigiooibcaaDoorAe
import Derived.Test.YtcphbigiooibcaaDoorFr
import Derived.SizedLaws
import Derived.Test.YtcphbigiooibcaaDoorTie
import Derived.Test.YtcphbigiooibcaaDoorCards
import Derived.Test.YtcphbigiooibcaaDoorFar
import Derived.Test.YtcphbigiooibcaaDoorJf
import Derived.SevenTiedAt
namespace Go.Proofs.YtcphbigiooibcaaDoor
open Go.RowKit
set_option maxRecDepth 100000
set_option linter.unusedVariables false
set_option linter.unusedSimpArgs false
set_option maxHeartbeats 2000000 in
theorem one_core (X Y : Int) (R : Sp) (c S : Int) (w : World) (hF : FarAt w) (s0 : 0 ≤ S) (s1 : S < 1013) (hK : Hid (sq (4 * 3) = ⟨X, Y, false⟩)) (hR : Hid (sq (4 * 5) = R)) (hc : Hid (askN R ⟨X, Y, false⟩ (⟨#[97]⟩ : ByteArray).data.toList = c)) (hS : Hid ((5 + c * 3) % 1013 = S)) (hv : Hid ((sq (4 * S + -(4 * 5 + 4 * 3 * c))).far = true)) :
    Calls Tryd.prog 31 #[] w fun e w' => e = .returned (.bool true) ∧ Below w.heap.size w w' := by
  go_enter Tryd.func31, Tryd.ntmps31
  go_wp2_with fail
  refine (key_e 3 ⟨X, Y, false⟩ _ (hF.below (by repeat (first | exact Below.refl _ _ | refine balloc ?_ _ | refine Below.drew ?_ | refine below_drewN ?_ _ | refine below_set ?_ (by first | omega | (dsimp only; omega)) _))) (by omega) (by omega) hK).mono ?_; rintro e w1 ⟨rfl, hb⟩
  obtain ⟨hc1, hf1⟩ := bcell hb
  have z1 := hb.size
  try simp only [World.size_alloc, World.size_setCell, World.size_drew] at z1
  have hB1 : Below w.heap.size w w1 := below_seq (by repeat (first | exact Below.refl _ _ | refine balloc ?_ _ | refine Below.drew ?_ | refine below_drewN ?_ _ | refine below_set ?_ (by first | omega | (dsimp only; omega)) _)) hb
  clear hb
  go_wp2_with fail
  refine (sign_e 3 5 ⟨#[97]⟩ R ⟨X, Y, false⟩ c S _ (hF.below (by repeat (first | exact hB1 | exact Below.refl _ _ | refine balloc ?_ _ | refine Below.drew ?_ | refine below_drewN ?_ _ | refine below_set ?_ (by first | omega | (dsimp only; omega)) _))) (by omega) (by omega) (by omega) (by omega) (by show 1 ≤ _; omega) hR hK hc hS).mono ?_; rintro e w2 ⟨rfl, hb⟩
  obtain ⟨hc2, hf2⟩ := bcell hb
  have z2 := hb.size
  try simp only [World.size_alloc, World.size_setCell, World.size_drew] at z2
  have s2_0 : w1.heap.size < w2.heap.size := by omega
  have hB2 : Below w.heap.size w w2 := below_seq (by repeat (first | exact hB1 | exact Below.refl _ _ | refine balloc ?_ _ | refine Below.drew ?_ | refine below_drewN ?_ _ | refine below_set ?_ (by first | omega | (dsimp only; omega)) _)) hb
  clear hb
  go_wp2_with fail
  refine (verify_e ⟨X, Y, false⟩ R (4 * 3) (4 * 5) c S true ⟨#[97]⟩ _ (hF.below (by repeat (first | exact hB2 | exact Below.refl _ _ | refine balloc ?_ _ | refine Below.drew ?_ | refine below_drewN ?_ _ | refine below_set ?_ (by first | omega | (dsimp only; omega)) _))) (by show 1 ≤ _; omega) s0 s1 (show _ = _ from hK.out.symm) (show _ = _ from hR.out.symm) hc hv).mono ?_; rintro e w3 ⟨rfl, hb⟩
  obtain ⟨hc3, hf3⟩ := bcell hb
  have z3 := hb.size
  try simp only [World.size_alloc, World.size_setCell, World.size_drew] at z3
  have s3_0 : w1.heap.size < w3.heap.size := by omega
  have s3_1 : w2.heap.size < w3.heap.size := by omega
  have hB3 : Below w.heap.size w w3 := below_seq (by repeat (first | exact hB2 | exact Below.refl _ _ | refine balloc ?_ _ | refine Below.drew ?_ | refine below_drewN ?_ _ | refine below_set ?_ (by first | omega | (dsimp only; omega)) _)) hb
  clear hb
  go_wp2
  go_ret
  exact ⟨rfl, (by repeat (first | exact hB3 | exact Below.refl _ _ | refine balloc ?_ _ | refine Below.drew ?_ | refine below_drewN ?_ _ | refine below_set ?_ (by first | omega | (dsimp only; omega)) _))⟩
theorem one_c (w : World) (hF : FarAt w) : Calls Tryd.prog 31 #[] w fun e w' => e = .returned (.bool true) ∧ Below w.heap.size w w' := by
  have hK : sq (4 * 3) = ⟨(sq (4 * 3)).x, (sq (4 * 3)).y, false⟩ := Sp.ext' rfl rfl (sq_far_not (by decide))
  refine one_core _ _ _ _ _ w hF (Int.emod_nonneg _ (by decide)) (Int.emod_lt_of_pos _ (by decide)) hK rfl rfl rfl (sq_far.mpr ?_)
  omega
theorem key_any (x : Int) : ∃ (K : Sp) (ek : Value), (∀ W : World, FarAt W → Calls Tryd.prog 16 #[.int .i64 x] W fun e w' => e = .returned (.tuple #[spV K, ek]) ∧ Below W.heap.size W w') ∧ Ok K ∧
    ((ek = .nilIface ∧ K = sq (4 * x) ∧ 1 ≤ x ∧ x < 1013) ∨ (∃ E : Int, ek = .iface 113 (.int .i64 E) ∧ ¬ (1 ≤ x ∧ x < 1013))) := by
  by_cases h : 1 ≤ x ∧ x < 1013
  · exact ⟨_, _, fun W hF => key_e x _ W hF h.1 h.2 rfl, sq_ok _, .inl ⟨rfl, rfl, h.1, h.2⟩⟩
  · exact ⟨⟨0, 0, false⟩, _, fun W _ => key_n x W h, ok_of sq_2026.symm, .inr ⟨_, rfl, h⟩⟩
theorem sign_any (x k : Int) (t : ByteArray) (hz : t.size ≤ 140737488351232) : ∃ (R : Sp) (S : Int) (es : Value), (∀ W : World, FarAt W → Calls Tryd.prog 22 #[.int .i64 x, .int .i64 k, .string t] W fun e w' => e = .returned (.tuple #[slV R S, es]) ∧ Below W.heap.size W w') ∧
    ((es = .nilIface ∧ R = (mkIt x k t).R ∧ S = (mkIt x k t).S ∧ 1 ≤ x ∧ x < 1013 ∧ 1 ≤ k ∧ k < 1013 ∧ t.size ≤ 60) ∨ (∃ E : Int, es = .iface 113 (.int .i64 E))) := by
  by_cases h : 1 ≤ x ∧ x < 1013 ∧ 1 ≤ k ∧ k < 1013 ∧ t.size ≤ 60
  · obtain ⟨x1, x2, k1, k2, hz6⟩ := h
    exact ⟨_, _, _, fun W hF => sign_e x k t _ _ _ _ W hF x1 x2 k1 k2 hz6 rfl rfl rfl rfl, .inl ⟨rfl, rfl, rfl, x1, x2, k1, k2, hz6⟩⟩
  · obtain ⟨E, hE⟩ := sign_n x k t hz h
    exact ⟨_, _, _, fun W _ => hE W, .inr ⟨E, rfl⟩⟩
/-- The group's seal of two. -/
theorem group_any (x k n : Int) (u : ByteArray) (hz : u.size ≤ 140737488351232) : ∃ (R J : Sp) (S e : Int) (eg : Value), (∀ (W : World) (v1 v2 : Value), FarAt W → IntSl W v1 [x, k] → IntSl W v2 [k, n] → Calls Tryd.prog 15 #[v1, v2, .string u] W fun e w' => e = .returned (.tuple #[slV R S, eg]) ∧ Below W.heap.size W w') ∧
    ((eg = .nilIface ∧ sq (dot [4 * x, 4 * k] (cfs [sq (4 * x), sq (4 * k)])) = J ∧ It.ok ⟨J, u, R, S, e⟩ ∧ e % 4052 = 0 ∧ 1 ≤ k ∧ k < 1013) ∨ (∃ E : Int, eg = .iface 113 (.int .i64 E))) := by
  by_cases h : groupF [x, k] [k, n] u.size = 0
  · obtain ⟨-, -, h1, h2, hz6⟩ := groupF_0 h
    have hk := h2 0 (by simp)
    simp only [List.getElem_cons_zero] at hk
    have hd := dot_four [x, k] (cfs [sq (4 * x), sq (4 * k)])
    simp only [List.map_cons, List.map_nil] at hd
    have hg := fun (W : World) (v1 v2 : Value) hF i1 i2 => gsign_e [x, k] [k, n] v1 v2 u [sq (4 * x), sq (4 * k)] _ _ _ _ W hF i1 i2 hz h rfl rfl rfl rfl rfl
    refine ⟨_, _, _, 4 * (([k, n].sum + askN (sq (4 * [k, n].sum)) (sq (4 * dot [x, k] (cfs [sq (4 * x), sq (4 * k)]))) u.data.toList * dot [x, k] (cfs [sq (4 * x), sq (4 * k)])) % 1013) + -(4 * [k, n].sum + 4 * dot [x, k] (cfs [sq (4 * x), sq (4 * k)]) * askN (sq (4 * [k, n].sum)) (sq (4 * dot [x, k] (cfs [sq (4 * x), sq (4 * k)]))) u.data.toList), _, hg, .inl ⟨rfl, by rw [hd], ⟨4 * dot [x, k] (cfs [sq (4 * x), sq (4 * k)]), 4 * [k, n].sum, rfl, rfl, rfl, hz6, Int.emod_nonneg _ (by decide), Int.emod_lt_of_pos _ (by decide)⟩, ?_, hk.1, hk.2⟩⟩
    generalize askN _ _ _ = c
    generalize dot [x, k] (cfs [sq (4 * x), sq (4 * k)]) = X
    generalize [k, n].sum = K
    rw [show 4 * X * c = 4 * (c * X) by rw [Int.mul_assoc, Int.mul_comm X c]]
    generalize c * X = p
    omega
  · have hg := fun (W : World) (v1 v2 : Value) (_ : FarAt W) i1 i2 => gsign_n [x, k] [k, n] v1 v2 u _ W i1 i2 (by simp) (by simp) hz rfl h
    exact ⟨_, ⟨0, 0, false⟩, _, 0, _, hg, .inr ⟨_, rfl⟩⟩
/-- The seal that lacks a secret, and filled with it. -/
theorem pre_any (x n : Int) (K : Sp) (u : ByteArray) (hK : Ok K) (hz : u.size ≤ 140737488351232) (hKn : 1 ≤ n ∧ n < 1013 → K = sq (4 * n)) : ∃ (R : Sp) (S T e : Int) (ep : Value), (∀ W : World, FarAt W → Calls Tryd.prog 32 #[.int .i64 x, .int .i64 n, spV K, .string u] W fun e w' => e = .returned (.tuple #[slV R S, ep]) ∧ Below W.heap.size W w') ∧
    ((ep = .nilIface ∧ Ok R ∧ 0 ≤ S ∧ S < 1013 ∧ (S + n) % 1013 = T ∧ It.ok ⟨sq (4 * x), u, R, T, e⟩ ∧ e % 4052 = 0 ∧ 1 ≤ n ∧ n < 1013) ∨ (∃ E : Int, ep = .iface 113 (.int .i64 E))) := by
  by_cases h : 1 ≤ x ∧ x < 1013 ∧ 1 ≤ n ∧ n < 1013 ∧ u.size ≤ 60
  · obtain ⟨x1, x2, n1, n2, hz6⟩ := h
    have hp := fun (W : World) hF => pre_e x n (4 * n) K _ _ _ _ u W hF x1 x2 n1 n2 hz6 (hKn ⟨n1, n2⟩) rfl rfl rfl rfl
    refine ⟨_, _, _, 4 * (((n + askN (sq (4 * n + 4 * n)) (sq (4 * x)) u.data.toList * x) % 1013 + n) % 1013) + -(4 * n + 4 * n + 4 * x * askN (sq (4 * n + 4 * n)) (sq (4 * x)) u.data.toList), _, hp, .inl ⟨rfl, sq_ok _, Int.emod_nonneg _ (by decide), Int.emod_lt_of_pos _ (by decide), rfl, ⟨4 * x, 4 * n + 4 * n, rfl, rfl, rfl, hz6, Int.emod_nonneg _ (by decide), Int.emod_lt_of_pos _ (by decide)⟩, ?_, n1, n2⟩⟩
    generalize askN _ _ _ = c
    rw [show 4 * x * c = 4 * (c * x) by rw [Int.mul_assoc, Int.mul_comm x c]]
    generalize c * x = p
    omega
  · obtain ⟨E, hE⟩ := pre_n x n K u hK hz h
    exact ⟨_, _, 0, 0, _, hE, .inr ⟨E, rfl⟩⟩
section
variable (f J R1 R2 R3 : Sp) (t u : ByteArray) (S1 S2 S3 e1 e2 e3 x n : Int)
theorem three_ok (h1 : It.ok ⟨f, t, R1, S1, e1⟩) (h2 : It.ok ⟨J, u, R2, S2, e2⟩) (h3 : It.ok ⟨f, u, R3, S3, e3⟩) : ∀ i (h : i < [(⟨f, t, R1, S1, e1⟩ : It), ⟨J, u, R2, S2, e2⟩, ⟨f, u, R3, S3, e3⟩].length), It.ok [(⟨f, t, R1, S1, e1⟩ : It), ⟨J, u, R2, S2, e2⟩, ⟨f, u, R3, S3, e3⟩][i]
  | 0, _ => h1
  | 1, _ => h2
  | 2, _ => h3
theorem three_z (z1 : e1 % 4052 = 0) (z2 : e2 % 4052 = 0) (z3 : e3 % 4052 = 0) : ∀ e ∈ [e1, e2, e3], e % 4052 = 0 := by
  intro e he
  simp only [List.mem_cons, List.not_mem_nil, or_false] at he
  rcases he with rfl | rfl | rfl <;> assumption
theorem three_w (x1 : 1 ≤ x) (x2 : x < 1013) (n1 : 1 ≤ n) (n2 : n < 1013) : ∀ i (h : i < [1, n, x].length), 1 ≤ [1, n, x][i] ∧ [1, n, x][i] < 1013
  | 0, _ => ⟨show (1 : Int) ≤ 1 by decide, show (1 : Int) < 1013 by decide⟩
  | 1, _ => ⟨n1, n2⟩
  | 2, _ => ⟨x1, x2⟩
theorem three_v (W0 : World) (hF : FarAt W0) (b : Nat) (hn : Hid (b = W0.heap.size)) (h1 : It.ok ⟨f, t, R1, S1, e1⟩) (h2 : It.ok ⟨J, u, R2, S2, e2⟩) (h3 : It.ok ⟨f, u, R3, S3, e3⟩) (z1 : e1 % 4052 = 0) (z2 : e2 % 4052 = 0) (z3 : e3 % 4052 = 0) (x1 : 1 ≤ x) (x2 : x < 1013) (n1 : 1 ≤ n) (n2 : n < 1013) :
    Calls Tryd.prog 21 #[.slice (some ⟨b, 0, none⟩) 3 3, .slice (some ⟨b + 1, 0, none⟩) 3 3, .slice (some ⟨b + 1 + 1, 0, none⟩) 3 3, .slice (some ⟨b + 1 + 1 + 1, 0, none⟩) 3 3] ((((W0.alloc (.cells #[.int .i64 f.x, .int .i64 f.y, .bool f.far, .int .i64 J.x, .int .i64 J.y, .bool J.far, .int .i64 f.x, .int .i64 f.y, .bool f.far] 23)).alloc (.cells #[.string t, .string u, .string u] 9)).alloc (.cells #[.int .i64 R1.x, .int .i64 R1.y, .bool R1.far, .int .i64 S1, .int .i64 R2.x, .int .i64 R2.y, .bool R2.far, .int .i64 S2, .int .i64 R3.x, .int .i64 R3.y, .bool R3.far, .int .i64 S3] 25)).alloc (.cells #[.int .i64 1, .int .i64 n, .int .i64 x] 3)) fun e w' => e = .returned (.tuple #[.bool true, .nilIface]) ∧ Below ((((W0.alloc (.cells #[.int .i64 f.x, .int .i64 f.y, .bool f.far, .int .i64 J.x, .int .i64 J.y, .bool J.far, .int .i64 f.x, .int .i64 f.y, .bool f.far] 23)).alloc (.cells #[.string t, .string u, .string u] 9)).alloc (.cells #[.int .i64 R1.x, .int .i64 R1.y, .bool R1.far, .int .i64 S1, .int .i64 R2.x, .int .i64 R2.y, .bool R2.far, .int .i64 S2, .int .i64 R3.x, .int .i64 R3.y, .bool R3.far, .int .i64 S3] 25)).alloc (.cells #[.int .i64 1, .int .i64 n, .int .i64 x] 3)).heap.size ((((W0.alloc (.cells #[.int .i64 f.x, .int .i64 f.y, .bool f.far, .int .i64 J.x, .int .i64 J.y, .bool J.far, .int .i64 f.x, .int .i64 f.y, .bool f.far] 23)).alloc (.cells #[.string t, .string u, .string u] 9)).alloc (.cells #[.int .i64 R1.x, .int .i64 R1.y, .bool R1.far, .int .i64 S1, .int .i64 R2.x, .int .i64 R2.y, .bool R2.far, .int .i64 S2, .int .i64 R3.x, .int .i64 R3.y, .bool R3.far, .int .i64 S3] 25)).alloc (.cells #[.int .i64 1, .int .i64 n, .int .i64 x] 3)) w' := by
  have i1 := (SpSl.made W0 [f, J, f] b 3 3 #[.int .i64 f.x, .int .i64 f.y, .bool f.far, .int .i64 J.x, .int .i64 J.y, .bool J.far, .int .i64 f.x, .int .i64 f.y, .bool f.far] 23 hn.out rfl rfl)
  have i2 := (StrSl.made (W0.alloc (.cells #[.int .i64 f.x, .int .i64 f.y, .bool f.far, .int .i64 J.x, .int .i64 J.y, .bool J.far, .int .i64 f.x, .int .i64 f.y, .bool f.far] 23)) [t, u, u] (b + 1) 3 3 #[.string t, .string u, .string u] 9 (by rw [hn.out]; simp) rfl rfl)
  have i3 := (SlSl.made ((W0.alloc (.cells #[.int .i64 f.x, .int .i64 f.y, .bool f.far, .int .i64 J.x, .int .i64 J.y, .bool J.far, .int .i64 f.x, .int .i64 f.y, .bool f.far] 23)).alloc (.cells #[.string t, .string u, .string u] 9)) [(R1, S1), (R2, S2), (R3, S3)] (b + 1 + 1) 3 3 #[.int .i64 R1.x, .int .i64 R1.y, .bool R1.far, .int .i64 S1, .int .i64 R2.x, .int .i64 R2.y, .bool R2.far, .int .i64 S2, .int .i64 R3.x, .int .i64 R3.y, .bool R3.far, .int .i64 S3] 25 (by rw [hn.out]; simp) rfl rfl)
  have i1 := (i1.below (below_alloc _ (.cells #[.string t, .string u, .string u] 9))).below (below_alloc _ (.cells #[.int .i64 R1.x, .int .i64 R1.y, .bool R1.far, .int .i64 S1, .int .i64 R2.x, .int .i64 R2.y, .bool R2.far, .int .i64 S2, .int .i64 R3.x, .int .i64 R3.y, .bool R3.far, .int .i64 S3] 25))
  have i2 := i2.below (below_alloc _ (.cells #[.int .i64 R1.x, .int .i64 R1.y, .bool R1.far, .int .i64 S1, .int .i64 R2.x, .int .i64 R2.y, .bool R2.far, .int .i64 S2, .int .i64 R3.x, .int .i64 R3.y, .bool R3.far, .int .i64 S3] 25))
  have i4 := (IntSl.made (((W0.alloc (.cells #[.int .i64 f.x, .int .i64 f.y, .bool f.far, .int .i64 J.x, .int .i64 J.y, .bool J.far, .int .i64 f.x, .int .i64 f.y, .bool f.far] 23)).alloc (.cells #[.string t, .string u, .string u] 9)).alloc (.cells #[.int .i64 R1.x, .int .i64 R1.y, .bool R1.far, .int .i64 S1, .int .i64 R2.x, .int .i64 R2.y, .bool R2.far, .int .i64 S2, .int .i64 R3.x, .int .i64 R3.y, .bool R3.far, .int .i64 S3] 25)) [1, n, x] (b + 1 + 1 + 1) 3 3 #[.int .i64 1, .int .i64 n, .int .i64 x] 3 (by rw [hn.out]; simp) rfl rfl)
  have i1 := i1.below (below_alloc _ (.cells #[.int .i64 1, .int .i64 n, .int .i64 x] 3))
  have i2 := i2.below (below_alloc _ (.cells #[.int .i64 1, .int .i64 n, .int .i64 x] 3))
  have i3 := i3.below (below_alloc _ (.cells #[.int .i64 1, .int .i64 n, .int .i64 x] 3))
  exact bverify_e [(⟨f, t, R1, S1, e1⟩ : It), ⟨J, u, R2, S2, e2⟩, ⟨f, u, R3, S3, e3⟩] [1, n, x] _ _ _ _ true _ ((((hF.below (below_alloc _ _)).below (below_alloc _ _)).below (below_alloc _ _)).below (below_alloc _ _)) (by simp) rfl (three_ok _ _ _ _ _ _ _ _ _ _ _ _ _ h1 h2 h3) (three_w x n x1 x2 n1 n2) i1 i2 i3 i4 (Lib.hid (dot_far (three_z _ _ _ z1 z2 z3)))
theorem three_n (W0 : World) (hF : FarAt W0) (b : Nat) (hn : Hid (b = W0.heap.size)) (h1 : It.ok ⟨f, t, R1, S1, e1⟩) (h2 : It.ok ⟨J, u, R2, S2, e2⟩) (h3 : It.ok ⟨f, u, R3, S3, e3⟩) (z1 : e1 % 4052 = 0) (z2 : e2 % 4052 = 0) (z3 : e3 % 4052 = 0) :
    Calls Tryd.prog 23 #[.slice (some ⟨b, 0, none⟩) 3 3, .slice (some ⟨b + 1, 0, none⟩) 3 3, .slice (some ⟨b + 1 + 1, 0, none⟩) 3 3] (((W0.alloc (.cells #[.int .i64 f.x, .int .i64 f.y, .bool f.far, .int .i64 J.x, .int .i64 J.y, .bool J.far, .int .i64 f.x, .int .i64 f.y, .bool f.far] 23)).alloc (.cells #[.string t, .string u, .string u] 9)).alloc (.cells #[.int .i64 R1.x, .int .i64 R1.y, .bool R1.far, .int .i64 S1, .int .i64 R2.x, .int .i64 R2.y, .bool R2.far, .int .i64 S2, .int .i64 R3.x, .int .i64 R3.y, .bool R3.far, .int .i64 S3] 25)) fun e w' => ∃ a cap, e = .returned (.tuple #[.slice a 0 cap, .nilIface]) ∧ Below (((W0.alloc (.cells #[.int .i64 f.x, .int .i64 f.y, .bool f.far, .int .i64 J.x, .int .i64 J.y, .bool J.far, .int .i64 f.x, .int .i64 f.y, .bool f.far] 23)).alloc (.cells #[.string t, .string u, .string u] 9)).alloc (.cells #[.int .i64 R1.x, .int .i64 R1.y, .bool R1.far, .int .i64 S1, .int .i64 R2.x, .int .i64 R2.y, .bool R2.far, .int .i64 S2, .int .i64 R3.x, .int .i64 R3.y, .bool R3.far, .int .i64 S3] 25)).heap.size (((W0.alloc (.cells #[.int .i64 f.x, .int .i64 f.y, .bool f.far, .int .i64 J.x, .int .i64 J.y, .bool J.far, .int .i64 f.x, .int .i64 f.y, .bool f.far] 23)).alloc (.cells #[.string t, .string u, .string u] 9)).alloc (.cells #[.int .i64 R1.x, .int .i64 R1.y, .bool R1.far, .int .i64 S1, .int .i64 R2.x, .int .i64 R2.y, .bool R2.far, .int .i64 S2, .int .i64 R3.x, .int .i64 R3.y, .bool R3.far, .int .i64 S3] 25)) w' := by
  have i1 := (SpSl.made W0 [f, J, f] b 3 3 #[.int .i64 f.x, .int .i64 f.y, .bool f.far, .int .i64 J.x, .int .i64 J.y, .bool J.far, .int .i64 f.x, .int .i64 f.y, .bool f.far] 23 hn.out rfl rfl)
  have i2 := (StrSl.made (W0.alloc (.cells #[.int .i64 f.x, .int .i64 f.y, .bool f.far, .int .i64 J.x, .int .i64 J.y, .bool J.far, .int .i64 f.x, .int .i64 f.y, .bool f.far] 23)) [t, u, u] (b + 1) 3 3 #[.string t, .string u, .string u] 9 (by rw [hn.out]; simp) rfl rfl)
  have i3 := (SlSl.made ((W0.alloc (.cells #[.int .i64 f.x, .int .i64 f.y, .bool f.far, .int .i64 J.x, .int .i64 J.y, .bool J.far, .int .i64 f.x, .int .i64 f.y, .bool f.far] 23)).alloc (.cells #[.string t, .string u, .string u] 9)) [(R1, S1), (R2, S2), (R3, S3)] (b + 1 + 1) 3 3 #[.int .i64 R1.x, .int .i64 R1.y, .bool R1.far, .int .i64 S1, .int .i64 R2.x, .int .i64 R2.y, .bool R2.far, .int .i64 S2, .int .i64 R3.x, .int .i64 R3.y, .bool R3.far, .int .i64 S3] 25 (by rw [hn.out]; simp) rfl rfl)
  have i1 := (i1.below (below_alloc _ (.cells #[.string t, .string u, .string u] 9))).below (below_alloc _ (.cells #[.int .i64 R1.x, .int .i64 R1.y, .bool R1.far, .int .i64 S1, .int .i64 R2.x, .int .i64 R2.y, .bool R2.far, .int .i64 S2, .int .i64 R3.x, .int .i64 R3.y, .bool R3.far, .int .i64 S3] 25))
  have i2 := i2.below (below_alloc _ (.cells #[.int .i64 R1.x, .int .i64 R1.y, .bool R1.far, .int .i64 S1, .int .i64 R2.x, .int .i64 R2.y, .bool R2.far, .int .i64 S2, .int .i64 R3.x, .int .i64 R3.y, .bool R3.far, .int .i64 S3] 25))
  refine (bwrong_e [(⟨f, t, R1, S1, e1⟩ : It), ⟨J, u, R2, S2, e2⟩, ⟨f, u, R3, S3, e3⟩] _ _ _ _ (((hF.below (below_alloc _ _)).below (below_alloc _ _)).below (below_alloc _ _)) (by simp) (three_ok _ _ _ _ _ _ _ _ _ _ _ _ _ h1 h2 h3) i1 i2 i3).mono ?_
  rintro e w' ⟨v', rfl, hi, hb⟩
  have hw := wrongs_none [e1, e2, e3] (three_z _ _ _ z1 z2 z3) 3 (by simp)
  change IntSl w' v' (wrongs [e1, e2, e3] 3) at hi
  rw [hw] at hi
  obtain ⟨a, cap, rfl, -⟩ := hi
  exact ⟨a, cap, rfl, hb⟩
end
theorem two_dot (x k : Int) (J : Sp) (h : sq (dot [4 * x, 4 * k] (cfs [sq (4 * x), sq (4 * k)])) = J) (v : Value) (W : World) (hF : FarAt W) (hs : SpSl W v [sq (4 * x), sq (4 * k)]) : Calls Tryd.prog 18 #[v] W fun e w' => e = .returned (.tuple #[spV J, .nilIface]) ∧ Below W.heap.size W w' :=
  joint_c [4 * x, 4 * k] [sq (4 * x), sq (4 * k)] v J W hF (by simp) hs (Lib.hid rfl) (Lib.hid h)
set_option maxHeartbeats 8000000 in
theorem tm_all (x k n : Int) (t u : ByteArray) (hzt : t.size ≤ 140737488351232) (hzu : u.size ≤ 140737488351232) (w : World) (hF : FarAt w) :
    Calls Tryd.prog 8 #[.int .i64 x, .int .i64 k, .int .i64 n, .string t, .string u] w fun e w' => e = .returned (.bool true) ∧ Below w.heap.size w w' := by
  obtain ⟨R1, S1, es, hSig, cS⟩ := sign_any x k t hzt
  obtain ⟨R2, J, S2, e2, eg, hGrp, cG⟩ := group_any x k n u hzu
  obtain ⟨K, ek, hKey, oK, cK⟩ := key_any n
  have hKn : 1 ≤ n ∧ n < 1013 → K = sq (4 * n) := fun h => by
    rcases cK with ⟨-, e, -⟩ | ⟨E, -, hno⟩
    · exact e
    · exact absurd h hno
  obtain ⟨R3, S3, T3, e3, ep, hPre, cP⟩ := pre_any x n K u oK hzu hKn
  replace hSig := Lib.hid hSig
  replace cS := Lib.hid cS
  replace hGrp := Lib.hid hGrp
  replace cG := Lib.hid cG
  replace hKey := Lib.hid hKey
  replace cK := Lib.hid cK
  replace hPre := Lib.hid hPre
  replace cP := Lib.hid cP
  clear hKn hzt hzu
  go_enter Tryd.func8, Tryd.ntmps8
  go_wp2_with fail
  refine (one_c _ (hF.below (by repeat (first | exact Below.refl _ _ | refine balloc ?_ _ | refine Below.drew ?_ | refine below_drewN ?_ _ | refine below_set ?_ (by first | omega | (dsimp only; omega)) _)))).mono ?_; rintro e w1 ⟨rfl, hb⟩
  obtain ⟨hc1, hf1⟩ := bcell hb
  have z1 := hb.size
  try simp only [World.size_alloc, World.size_setCell, World.size_drew] at z1
  have hB1 : Below w.heap.size w w1 := below_seq (by repeat (first | exact Below.refl _ _ | refine balloc ?_ _ | refine Below.drew ?_ | refine below_drewN ?_ _ | refine below_set ?_ (by first | omega | (dsimp only; omega)) _)) hb
  clear hb
  go_wp2_with fail
  refine (hSig.out _ (hF.below (by repeat (first | exact hB1 | exact Below.refl _ _ | refine balloc ?_ _ | refine Below.drew ?_ | refine below_drewN ?_ _ | refine below_set ?_ (by first | omega | (dsimp only; omega)) _)))).mono ?_; rintro e w2 ⟨rfl, hb⟩
  obtain ⟨hc2, hf2⟩ := bcell hb
  have z2 := hb.size
  try simp only [World.size_alloc, World.size_setCell, World.size_drew] at z2
  have hB2 : Below w.heap.size w w2 := below_seq (by repeat (first | exact hB1 | exact Below.refl _ _ | refine balloc ?_ _ | refine Below.drew ?_ | refine below_drewN ?_ _ | refine below_set ?_ (by first | omega | (dsimp only; omega)) _)) hb
  clear hb
  have i1 : IntSl (((w2.alloc (.cells #[.int .i64 R1.x, .int .i64 R1.y, .bool R1.far, .int .i64 S1] 25)).alloc (.cells #[.int .i64 x, .int .i64 k] 3)).alloc (.cells #[.int .i64 k, .int .i64 n] 3)) (.slice (some ⟨w2.heap.size + 1, 0, none⟩) 2 2) [x, k] := (IntSl.made _ [x, k] (w2.heap.size + 1) 2 2 #[.int .i64 x, .int .i64 k] 3 (by simp) rfl rfl).below (below_alloc _ _)
  have i2 : IntSl (((w2.alloc (.cells #[.int .i64 R1.x, .int .i64 R1.y, .bool R1.far, .int .i64 S1] 25)).alloc (.cells #[.int .i64 x, .int .i64 k] 3)).alloc (.cells #[.int .i64 k, .int .i64 n] 3)) (.slice (some ⟨w2.heap.size + 1 + 1, 0, none⟩) 2 2) [k, n] := IntSl.made _ [k, n] (w2.heap.size + 1 + 1) 2 2 #[.int .i64 k, .int .i64 n] 3 (by simp) rfl rfl
  have hGr := Lib.hid (fun hF => hGrp.out _ _ _ hF i1 i2)
  clear i1 i2 hGrp
  go_wp2_with fail
  refine (hGr.out (hF.below (by repeat (first | exact hB2 | exact Below.refl _ _ | refine balloc ?_ _ | refine Below.drew ?_ | refine below_drewN ?_ _ | refine below_set ?_ (by first | omega | (dsimp only; omega)) _)))).mono ?_; rintro e w3 ⟨rfl, hb⟩
  obtain ⟨hc3, hf3⟩ := bcell hb
  have z3 := hb.size
  try simp only [World.size_alloc, World.size_setCell, World.size_drew] at z3
  have s3_0 : w2.heap.size < w3.heap.size := by omega
  have hB3 : Below w.heap.size w w3 := below_seq (by repeat (first | exact hB2 | exact Below.refl _ _ | refine balloc ?_ _ | refine Below.drew ?_ | refine below_drewN ?_ _ | refine below_set ?_ (by first | omega | (dsimp only; omega)) _)) hb
  clear hb
  go_wp2_with fail
  refine (hKey.out _ (hF.below (by repeat (first | exact hB3 | exact Below.refl _ _ | refine balloc ?_ _ | refine Below.drew ?_ | refine below_drewN ?_ _ | refine below_set ?_ (by first | omega | (dsimp only; omega)) _)))).mono ?_; rintro e w4 ⟨rfl, hb⟩
  obtain ⟨hc4, hf4⟩ := bcell hb
  have z4 := hb.size
  try simp only [World.size_alloc, World.size_setCell, World.size_drew] at z4
  have s4_0 : w2.heap.size < w4.heap.size := by omega
  have s4_1 : w3.heap.size < w4.heap.size := by omega
  have hB4 : Below w.heap.size w w4 := below_seq (by repeat (first | exact hB3 | exact Below.refl _ _ | refine balloc ?_ _ | refine Below.drew ?_ | refine below_drewN ?_ _ | refine below_set ?_ (by first | omega | (dsimp only; omega)) _)) hb
  clear hb
  go_wp2_with fail
  refine (hPre.out _ (hF.below (by repeat (first | exact hB4 | exact Below.refl _ _ | refine balloc ?_ _ | refine Below.drew ?_ | refine below_drewN ?_ _ | refine below_set ?_ (by first | omega | (dsimp only; omega)) _)))).mono ?_; rintro e w5 ⟨rfl, hb⟩
  obtain ⟨hc5, hf5⟩ := bcell hb
  have z5 := hb.size
  try simp only [World.size_alloc, World.size_setCell, World.size_drew] at z5
  have s5_0 : w2.heap.size < w5.heap.size := by omega
  have s5_1 : w3.heap.size < w5.heap.size := by omega
  have s5_2 : w4.heap.size < w5.heap.size := by omega
  have hB5 : Below w.heap.size w w5 := below_seq (by repeat (first | exact hB4 | exact Below.refl _ _ | refine balloc ?_ _ | refine Below.drew ?_ | refine below_drewN ?_ _ | refine below_set ?_ (by first | omega | (dsimp only; omega)) _)) hb
  clear hb
  rcases cS.out with ⟨rfl, rfl, rfl, x1, x2, k1, k2, tz⟩ | ⟨E, rfl⟩
  case inr =>
    go_wp2
    go_ret
    exact ⟨rfl, (by repeat (first | exact hB5 | exact Below.refl _ _ | refine balloc ?_ _ | refine Below.drew ?_ | refine below_drewN ?_ _ | refine below_set ?_ (by first | omega | (dsimp only; omega)) _))⟩
  rcases cG.out with ⟨rfl, hJ, okG, zG, -, -⟩ | ⟨E, rfl⟩
  case inr =>
    go_wp2
    go_ret
    exact ⟨rfl, (by repeat (first | exact hB5 | exact Below.refl _ _ | refine balloc ?_ _ | refine Below.drew ?_ | refine below_drewN ?_ _ | refine below_set ?_ (by first | omega | (dsimp only; omega)) _))⟩
  rcases cK.out with ⟨rfl, hKe, n1, n2⟩ | ⟨E, rfl, -⟩
  case inr =>
    go_wp2
    go_ret
    exact ⟨rfl, (by repeat (first | exact hB5 | exact Below.refl _ _ | refine balloc ?_ _ | refine Below.drew ?_ | refine below_drewN ?_ _ | refine below_set ?_ (by first | omega | (dsimp only; omega)) _))⟩
  rcases cP.out with ⟨rfl, oR, s0, s1, hT, okP, zP, -, -⟩ | ⟨E, rfl⟩
  case inr =>
    go_wp2
    go_ret
    exact ⟨rfl, (by repeat (first | exact hB5 | exact Below.refl _ _ | refine balloc ?_ _ | refine Below.drew ?_ | refine below_drewN ?_ _ | refine below_set ?_ (by first | omega | (dsimp only; omega)) _))⟩
  have okS := Lib.hid (mkIt_ok x k t tz)
  have zS := Lib.hid (mkIt_e x k t)
  have hJ := Lib.hid (two_dot x k J hJ)
  have okG := Lib.hid okG
  have zG := Lib.hid zG
  have okP := Lib.hid okP
  have zP := Lib.hid zP
  have oR := Lib.hid oR
  have hT := Lib.hid hT
  have kf := Lib.hid (show (mkIt x k t).key = sq (4 * x) from rfl)
  have kt := Lib.hid (show (mkIt x k t).t = t from rfl)
  clear hKe cS cG cK cP hSig hGr hKey hPre
  obtain ⟨f, hf⟩ : ∃ f, sq (4 * x) = f := ⟨_, rfl⟩
  obtain ⟨g, hg⟩ : ∃ g, sq (4 * k) = g := ⟨_, rfl⟩
  rw [hf] at okP kf
  rw [hf, hg] at hJ
  replace hf := Lib.hid hf
  replace hg := Lib.hid hg
  generalize hM : mkIt x k t = M at *
  clear hM
  obtain ⟨Mk, Mt, R1, S1, e1⟩ := M
  have kf' := kf.out.symm
  have kt' := kt.out.symm
  simp only at kf' kt'
  subst kf' kt'
  clear kf kt
  simp only at *
  go_wp2_with fail
  refine (fill_y R3 S3 n T3 _ (hF.below (by repeat (first | exact hB5 | exact Below.refl _ _ | refine balloc ?_ _ | refine Below.drew ?_ | refine below_drewN ?_ _ | refine below_set ?_ (by first | omega | (dsimp only; omega)) _))) oR.out s0 s1 (by omega) n2 hT.out).mono ?_; rintro e w6 ⟨rfl, hb⟩
  obtain ⟨hc6, hf6⟩ := bcell hb
  have z6 := hb.size
  try simp only [World.size_alloc, World.size_setCell, World.size_drew] at z6
  have s6_0 : w2.heap.size < w6.heap.size := by omega
  have s6_1 : w3.heap.size < w6.heap.size := by omega
  have s6_2 : w4.heap.size < w6.heap.size := by omega
  have s6_3 : w5.heap.size < w6.heap.size := by omega
  have hB6 : Below w.heap.size w w6 := below_seq (by repeat (first | exact hB5 | exact Below.refl _ _ | refine balloc ?_ _ | refine Below.drew ?_ | refine below_drewN ?_ _ | refine below_set ?_ (by first | omega | (dsimp only; omega)) _)) hb
  clear hb
  go_wp2_with fail
  refine (key_e x f _ (hF.below (by repeat (first | exact hB6 | exact Below.refl _ _ | refine balloc ?_ _ | refine Below.drew ?_ | refine below_drewN ?_ _ | refine below_set ?_ (by first | omega | (dsimp only; omega)) _))) x1 x2 hf).mono ?_; rintro e w7 ⟨rfl, hb⟩
  obtain ⟨hc7, hf7⟩ := bcell hb
  have z7 := hb.size
  try simp only [World.size_alloc, World.size_setCell, World.size_drew] at z7
  have s7_0 : w2.heap.size < w7.heap.size := by omega
  have s7_1 : w3.heap.size < w7.heap.size := by omega
  have s7_2 : w4.heap.size < w7.heap.size := by omega
  have s7_3 : w5.heap.size < w7.heap.size := by omega
  have s7_4 : w6.heap.size < w7.heap.size := by omega
  have hB7 : Below w.heap.size w w7 := below_seq (by repeat (first | exact hB6 | exact Below.refl _ _ | refine balloc ?_ _ | refine Below.drew ?_ | refine below_drewN ?_ _ | refine below_set ?_ (by first | omega | (dsimp only; omega)) _)) hb
  clear hb
  go_wp2_with fail
  refine (key_e k g _ (hF.below (by repeat (first | exact hB7 | exact Below.refl _ _ | refine balloc ?_ _ | refine Below.drew ?_ | refine below_drewN ?_ _ | refine below_set ?_ (by first | omega | (dsimp only; omega)) _))) k1 k2 hg).mono ?_; rintro e w8 ⟨rfl, hb⟩
  obtain ⟨hc8, hf8⟩ := bcell hb
  have z8 := hb.size
  try simp only [World.size_alloc, World.size_setCell, World.size_drew] at z8
  have s8_0 : w2.heap.size < w8.heap.size := by omega
  have s8_1 : w3.heap.size < w8.heap.size := by omega
  have s8_2 : w4.heap.size < w8.heap.size := by omega
  have s8_3 : w5.heap.size < w8.heap.size := by omega
  have s8_4 : w6.heap.size < w8.heap.size := by omega
  have s8_5 : w7.heap.size < w8.heap.size := by omega
  have hB8 : Below w.heap.size w w8 := below_seq (by repeat (first | exact hB7 | exact Below.refl _ _ | refine balloc ?_ _ | refine Below.drew ?_ | refine below_drewN ?_ _ | refine below_set ?_ (by first | omega | (dsimp only; omega)) _)) hb
  clear hb
  have i3 := SpSl.made (w8.alloc (.cells #[.int .i64 g.x, .int .i64 g.y, .bool g.far] 23)) [f, g] (w8.heap.size + 1) 2 2 #[.int .i64 f.x, .int .i64 f.y, .bool f.far, .int .i64 g.x, .int .i64 g.y, .bool g.far] 23 (by simp) rfl rfl
  have hJ8 := Lib.hid (fun hF => hJ.out _ _ hF i3)
  clear i3 hJ
  go_wp2_with fail
  refine (hJ8.out (hF.below (by repeat (first | exact hB8 | exact Below.refl _ _ | refine balloc ?_ _ | refine Below.drew ?_ | refine below_drewN ?_ _ | refine below_set ?_ (by first | omega | (dsimp only; omega)) _)))).mono ?_; rintro e w9 ⟨rfl, hb⟩
  obtain ⟨hc9, hf9⟩ := bcell hb
  have z9 := hb.size
  try simp only [World.size_alloc, World.size_setCell, World.size_drew] at z9
  have s9_0 : w2.heap.size < w9.heap.size := by omega
  have s9_1 : w3.heap.size < w9.heap.size := by omega
  have s9_2 : w4.heap.size < w9.heap.size := by omega
  have s9_3 : w5.heap.size < w9.heap.size := by omega
  have s9_4 : w6.heap.size < w9.heap.size := by omega
  have s9_5 : w7.heap.size < w9.heap.size := by omega
  have s9_6 : w8.heap.size < w9.heap.size := by omega
  have s9_7 : w8.heap.size + 1 < w9.heap.size := by omega
  have hB9 : Below w.heap.size w w9 := below_seq (by repeat (first | exact hB8 | exact Below.refl _ _ | refine balloc ?_ _ | refine Below.drew ?_ | refine below_drewN ?_ _ | refine below_set ?_ (by first | omega | (dsimp only; omega)) _)) hb
  clear hb
  go_wp2_with fail
  refine (three_v f J R1 R2 R3 t u S1 S2 T3 e1 e2 e3 x n _ (hF.below (balloc hB9 _)) (w9.heap.size + 1) (Lib.hid (by simp)) okS.out okG.out okP.out zS.out zG.out zP.out x1 x2 n1 n2).mono ?_; rintro e w10 ⟨rfl, hb⟩
  obtain ⟨hc10, hf10⟩ := bcell hb
  have z10 := hb.size
  try simp only [World.size_alloc, World.size_setCell, World.size_drew] at z10
  have s10_0 : w2.heap.size < w10.heap.size := by omega
  have s10_1 : w3.heap.size < w10.heap.size := by omega
  have s10_2 : w4.heap.size < w10.heap.size := by omega
  have s10_3 : w5.heap.size < w10.heap.size := by omega
  have s10_4 : w6.heap.size < w10.heap.size := by omega
  have s10_5 : w7.heap.size < w10.heap.size := by omega
  have s10_6 : w8.heap.size < w10.heap.size := by omega
  have s10_7 : w8.heap.size + 1 < w10.heap.size := by omega
  have s10_8 : w9.heap.size < w10.heap.size := by omega
  have s10_9 : w9.heap.size + 1 < w10.heap.size := by omega
  have s10_10 : w9.heap.size + 1 + 1 < w10.heap.size := by omega
  have s10_11 : w9.heap.size + 1 + 1 + 1 < w10.heap.size := by omega
  have s10_12 : w9.heap.size + 1 + 1 + 1 + 1 < w10.heap.size := by omega
  have hB10 : Below w.heap.size w w10 := below_seq (by repeat (first | exact hB9 | exact Below.refl _ _ | refine balloc ?_ _ | refine Below.drew ?_ | refine below_drewN ?_ _ | refine below_set ?_ (by first | omega | (dsimp only; omega)) _)) hb
  clear hb
  have hd10 : ∀ b o, b < w9.heap.size → w10.cell? ⟨b, o, none⟩ = w9.cell? ⟨b, o, none⟩ := fun b o h => (hc10 b o (by simp only [World.size_alloc]; omega)).trans ((bcell (balloc (balloc (balloc (balloc (balloc (Below.refl w9.heap.size w9) _) _) _) _) _)).1 b o h)
  have j0 : w10.cell? ⟨w9.heap.size, 0, none⟩ = some (.int .i64 J.x) := (hc10 w9.heap.size 0 (by simp only [World.size_alloc]; omega)).trans (((((SpAt.fresh w9 J.x J.y J.far 23).alloc _).alloc _).alloc _).alloc _).c0
  have j1 : w10.cell? ⟨w9.heap.size, 1, none⟩ = some (.int .i64 J.y) := (hc10 w9.heap.size 1 (by simp only [World.size_alloc]; omega)).trans (((((SpAt.fresh w9 J.x J.y J.far 23).alloc _).alloc _).alloc _).alloc _).c1
  have j2 : w10.cell? ⟨w9.heap.size, 2, none⟩ = some (.bool J.far) := (hc10 w9.heap.size 2 (by simp only [World.size_alloc]; omega)).trans (((((SpAt.fresh w9 J.x J.y J.far 23).alloc _).alloc _).alloc _).alloc _).c2
  clear hc10 hf10
  go_wp2_with fail
  refine (three_n f J R1 R2 R3 t u S1 S2 T3 e1 e2 e3 w10 (hF.below hB10) w10.heap.size (Lib.hid rfl) okS.out okG.out okP.out zS.out zG.out zP.out).mono ?_; rintro e w11 ⟨a, cap, rfl, hb⟩
  obtain ⟨hc11, hf11⟩ := bcell hb
  have z11 := hb.size
  try simp only [World.size_alloc, World.size_setCell, World.size_drew] at z11
  have s11_0 : w2.heap.size < w11.heap.size := by omega
  have s11_1 : w3.heap.size < w11.heap.size := by omega
  have s11_2 : w4.heap.size < w11.heap.size := by omega
  have s11_3 : w5.heap.size < w11.heap.size := by omega
  have s11_4 : w6.heap.size < w11.heap.size := by omega
  have s11_5 : w7.heap.size < w11.heap.size := by omega
  have s11_6 : w8.heap.size < w11.heap.size := by omega
  have s11_7 : w8.heap.size + 1 < w11.heap.size := by omega
  have s11_8 : w9.heap.size < w11.heap.size := by omega
  have s11_9 : w9.heap.size + 1 < w11.heap.size := by omega
  have s11_10 : w9.heap.size + 1 + 1 < w11.heap.size := by omega
  have s11_11 : w9.heap.size + 1 + 1 + 1 < w11.heap.size := by omega
  have s11_12 : w9.heap.size + 1 + 1 + 1 + 1 < w11.heap.size := by omega
  have s11_13 : w10.heap.size < w11.heap.size := by omega
  have s11_14 : w10.heap.size + 1 < w11.heap.size := by omega
  have s11_15 : w10.heap.size + 1 + 1 < w11.heap.size := by omega
  have hB11 : Below w.heap.size w w11 := below_seq (by repeat (first | exact hB10 | exact Below.refl _ _ | refine balloc ?_ _ | refine Below.drew ?_ | refine below_drewN ?_ _ | refine below_set ?_ (by first | omega | (dsimp only; omega)) _)) hb
  clear hb
  go_wp2
  go_ret
  exact ⟨rfl, (by repeat (first | exact hB11 | exact Below.refl _ _ | refine balloc ?_ _ | refine Below.drew ?_ | refine below_drewN ?_ _ | refine below_set ?_ (by first | omega | (dsimp only; omega)) _))⟩
theorem topMixed_law (x : Int) (hx : (Lit.int .i64 x).wf = true) (k : Int) (hk : (Lit.int .i64 k).wf = true) (n : Int) (hn : (Lit.int .i64 n).wf = true) (t : ByteArray) (hzt : t.size ≤ 140737488351232) (u : ByteArray) (hzu : u.size ≤ 140737488351232) (w : World) (hF : FarAt w) :
    Calls Tryd.prog 8 #[.int .i64 x, .int .i64 k, .int .i64 n, .string t, .string u] w fun e w' => e = .returned (.bool true) ∧ Below w.heap.size w w' := tm_all x k n t u hzt hzu w hF
end Go.Proofs.YtcphbigiooibcaaDoor
namespace Go.Proofs.YtcphbigiooibcaaDoor.topMixed
open Go.ChangeShapes Go.WideShapes Go.ChangeAt Go.RowKit
set_option linter.unusedVariables false
theorem typesOk : ([3, 3, 3, 9, 9].all fun t => Tryd.prog.readableRec t && decide (t < Tryd.prog.types.size)) = true := by kernel_rfl
set_option maxRecDepth 100000 in
theorem lifted (os : Os) (started : os.Started) (H : Type) (enc : TypeId × Value → H) :
    ReturnsInHanded {} Tryd.checked os 8 .any (fun w args => (Rows.topMixedSpec.pre enc Tryd.prog Tryd.f8 [] false w args ∧ laidMetH Tryd.prog farLaid w) ∧ sizedMet enc Tryd.prog Tryd.f8 (OpenSpec.ofChange Rows.topMixedSpec) false w args)
      (Rows.topMixedSpec.post enc Tryd.prog Tryd.f8 false true false false) := by
  refine returnsInHanded_of_change_and (C := Tryd.checked) (X := fun w _ => laidMetH Tryd.prog farLaid w) (fun _ _ _ hh h => h.of_heap hh) Tryd.ownK started (by kernel_rfl) Tryd.func8
    (ChangeSpec.witness_shaped (enc := enc) (C := Tryd.checked) (os := os) (X := fun w _ => laidMetH Tryd.prog farLaid w) false (World.doorLaid Tryd.prog 400 os) #[.int .i64 0, .int .i64 0, .int .i64 0, .string ⟨#[]⟩, .string ⟨#[]⟩] 8 rfl (World.shaped_of_RefB (by kernel_rfl) (by kernel_rfl)) (by kernel_rfl) (by kernel_rfl) (by kernel_rfl) (farLaid_met os _)) ?_
  intro W base args ds gs before hval0 hW hcnd hsz0 hL hholds
  have hval : ∀ (j : Nat) t v, Tryd.f8.params[j]? = some t → args[j]? = some v → Value.okWide Tryd.prog W .any base t v := hval0
  have hW' := hW
  obtain ⟨p, q, hA0, hV, rfl, hfz, hnd⟩ := hW
  have hA : DataW.TrodAll enc Tryd.prog W 0 (fun _ => true) true Tryd.f8.params.toList args.toList ds p := hA0
  obtain ⟨rfl, rfl⟩ := trodVars_none hV
  simp only [List.append_nil] at hW'
  have hlt : ∀ x ∈ p, x.block < W.heap.size := fun x hx => hW'.lt x hx
  have hsz : (DataW.weightsEach Tryd.prog (Tryd.f8.params.toList ++ Rows.topMixedSpec.plain.varTypes Tryd.prog) (ds ++ [])).all (· ≤ reachBytes) = true := hsz0
  rw [Tryd.params8] at hA hval hsz
  have hK := hA
  obtain ⟨v0, vs0, d0, ds0, p0, q0, hargs, rfl, rfl, h0, r0⟩ := trodAll_cons hA
  obtain ⟨v1, vs1, d1, ds1, p1, q1, rfl, rfl, rfl, h1, r1⟩ := trodAll_cons r0
  obtain ⟨v2, vs2, d2, ds2, p2, q2, rfl, rfl, rfl, h2, r2⟩ := trodAll_cons r1
  obtain ⟨v3, vs3, d3, ds3, p3, q3, rfl, rfl, rfl, h3, r3⟩ := trodAll_cons r2
  obtain ⟨v4, vs4, d4, ds4, p4, q4, rfl, rfl, rfl, h4, r4⟩ := trodAll_cons r3
  obtain ⟨rfl, rfl, rfl⟩ := trodAll_nil r4
  obtain rfl : args = #[v0, v1, v2, v3, v4] := by cases args; simp_all
  obtain ⟨a0, rfl, rfl, rfl, w0⟩ := open_int Tryd.underlying3 (hval 0 3 v0 rfl rfl) h0
  obtain ⟨a1, rfl, rfl, rfl, w1⟩ := open_int Tryd.underlying3 (hval 1 3 v1 rfl rfl) h1
  obtain ⟨a2, rfl, rfl, rfl, w2⟩ := open_int Tryd.underlying3 (hval 2 3 v2 rfl rfl) h2
  obtain ⟨a3, rfl, rfl, rfl, w3⟩ := ChangeMaps.open_string Tryd.underlying9 (hval 3 9 v3 rfl rfl) h3
  obtain ⟨a4, rfl, rfl, rfl, w4⟩ := ChangeMaps.open_string Tryd.underlying9 (hval 4 9 v4 rfl rfl) h4
  have z3 : a3.size ≤ 140737488351232 := by have := sized_string hsz (j := 3) (t := 9) rfl rfl; simpa [reachBytes] using this
  have z4 : a4.size ≤ 140737488351232 := by have := sized_string hsz (j := 4) (t := 9) rfl rfl; simpa [reachBytes] using this
  clear hA0 hval0
  refine (topMixed_law a0 w0 a1 w1 a2 w2 a3 z3 a4 z4 W (farLaid_at hL)).mono fun e W' ⟨he, hg⟩ => ?_
  subst he
  exact ⟨_, rfl, post_of_below (pa := _) (pv := []) hW' (fun _ _ _ => (trodAll_cons_mk (shut_bool Tryd.underlying4 _) trodAll_mk0)) (fun sp hsp => trodAll_stays Tryd.laidOutK hg typesOk hK (fun x hx => ⟨hlt x hx, hsp x (by first | exact hx | (simp at hx) | simpa using hx)⟩)) (fun _ _ => rfl) (by simp) hg (ok_one (by kernel_rfl) rfl (okWide_bool_mk Tryd.underlying4 _))⟩

theorem over : Rows.topMixedRow.holds Tryd.pinned (OpenSpec.ofChange Rows.topMixedSpec) :=
  OpenClaim.holds_of_wide 8 Tryd.f8 rfl rfl rfl rfl rfl rfl rfl ⟨rfl, rfl, rfl, rfl, rfl⟩ rfl rfl rfl rfl rfl (by kernel_rfl) Tryd.func8 (by show joinedFacts Tryd.prog _ _ _ _ = true; unfold joinedFacts; rw [mayEnterK, liftsFinalK, makeK]; kernel_rfl)
    (of_decide_eq_true (by kernel_rfl)) (by unfold Func.isWrapper; first | (rw [if_pos (by decide +kernel)]; kernel_rfl) | (rw [if_neg (by decide +kernel)]; exact ⟨rfl, rfl⟩))
    (fun os started H enc _ => lifted os started H enc)
theorem card : Rows.TopMixedCardSaid :=
  Claim7.holds_tied_plain_at .later [] [.data] true (true, "60558bf5146220f1391580bf7513f01283a721c5be6bc01e648492e84d139369") true
    over (fun _ h => by cases h) (by kernel_rfl) (fun _ h => by cases h) topMixed_row_tie rfl ⟨rfl, rfl⟩ mainIsK rfl
    (fun f fn hf hfn => by
      obtain rfl : f = 8 := Option.some.inj ((show Tryd.prog.funcNamed "pairstone/stonetop.TopMixed" = some 8 by kernel_rfl).symm.trans hf) |>.symm
      obtain rfl : fn = Tryd.f8 := (Option.some.inj (Tryd.func8.symm.trans hfn)).symm
      exact ⟨by kernel_rfl, fun j t ht => by
        rw [Tryd.params8] at ht
        have hm : t ∈ ([3, 3, 3, 9, 9] : List TypeId) := by simpa using Array.mem_of_getElem? ht
        have hall : (([3, 3, 3, 9, 9] : List TypeId).all fun u => !Tryd.prog.wantsStandIn u) = true := by kernel_rfl
        exact (show Tryd.prog.wantsStandIn t = false by simpa using List.all_eq_true.1 hall t hm)⟩)
    (by kernel_rfl)
#print axioms card
end Go.Proofs.YtcphbigiooibcaaDoor.topMixed
