/- Walks of layer pair, the first: the unit where it lies, slopes, lines, products of the greater field by name. -/
import Derived.Test.YtfnifdmnbccblaaDoorSf
import Derived.Test.YtfnifdmnbccblaaDoorWu
import Derived.Test.YtfnifdmnbccblaaDoorPairD
namespace Go.Proofs.YtfnifdmnbccblaaDoor
open Go.RowKit
set_option maxRecDepth 100000
set_option linter.unusedVariables false
set_option linter.unusedSimpArgs false
/-- The package's variable one, where it lies. -/
structure OneAt (w : World) : Prop where
  c0 : w.cell? ⟨1, 0, none⟩ = some (.int .i64 1)
  c1 : w.cell? ⟨1, 1, none⟩ = some (.int .i64 0)
  lt : 1 < w.heap.size
theorem OneAt.below {w w' : World} (h : OneAt w) (hb : Below w.heap.size w w') : OneAt w' :=
  ⟨(hb.cell (p := ⟨1, 0, none⟩) h.lt).trans h.c0, (hb.cell (p := ⟨1, 1, none⟩) h.lt).trans h.c1, Nat.lt_of_lt_of_le h.lt hb.size⟩
/-- A number of the greater field in memory. -/
structure TwAt (w : World) (b : Nat) (z : Z) : Prop where
  c0 : w.cell? ⟨b, 0, none⟩ = some (.int .i64 (fz z.re))
  c1 : w.cell? ⟨b, 1, none⟩ = some (.int .i64 (fz z.im))
  f0 : w.frozen? ⟨b, 0, none⟩ = false
  f1 : w.frozen? ⟨b, 1, none⟩ = false
  lt : b < w.heap.size
theorem TwAt.below {w w' : World} {b : Nat} {z : Z} (h : TwAt w b z) (hb : Below w.heap.size w w') : TwAt w' b z :=
  ⟨(hb.cell (p := ⟨b, 0, none⟩) h.lt).trans h.c0, (hb.cell (p := ⟨b, 1, none⟩) h.lt).trans h.c1, (hb.frozen (p := ⟨b, 0, none⟩) h.lt).trans h.f0, (hb.frozen (p := ⟨b, 1, none⟩) h.lt).trans h.f1, Nat.lt_of_lt_of_le h.lt hb.size⟩
theorem TwAt.set2 {w : World} {b : Nat} {z : Z} (h : TwAt w b z) (v : Z) : TwAt ((w.setCell ⟨b, 0, none⟩ (.int .i64 (fz v.re))).setCell ⟨b, 1, none⟩ (.int .i64 (fz v.im))) b v := by
  have k := set2_cell (x := .int .i64 (fz v.re)) (y := .int .i64 (fz v.im)) h.c0 h.c1
  exact ⟨k.1, k.2, by simp only [World.frozen?_setCell]; exact h.f0, by simp only [World.frozen?_setCell]; exact h.f1, by simpa [World.setCell] using h.lt⟩
theorem cell_else {w : World} {b c o k : Nat} (x : Value) (h : c ≠ b) : (w.setCell ⟨c, o, none⟩ x).cell? ⟨b, k, none⟩ = w.cell? ⟨b, k, none⟩ :=
  by rw [World.cell?_setCell_other (h := fun e => h (congrArg Addr.block e))]
theorem TwAt.other {w : World} {b c o : Nat} {z : Z} (h : TwAt w b z) (x : Value) (hne : c ≠ b) : TwAt (w.setCell ⟨c, o, none⟩ x) b z :=
  ⟨(cell_else x hne).trans h.c0, (cell_else x hne).trans h.c1, by simp only [World.frozen?_setCell]; exact h.f0, by simp only [World.frozen?_setCell]; exact h.f1, by simpa [World.setCell] using h.lt⟩
theorem SpAt.other {w : World} {b c o : Nat} {s : Sp} (h : SpAt w b s) (x : Value) (hne : c ≠ b) : SpAt (w.setCell ⟨c, o, none⟩ x) b s :=
  ⟨(cell_else x hne).trans h.c0, (cell_else x hne).trans h.c1, (cell_else x hne).trans h.c2, by simp only [World.frozen?_setCell]; exact h.f0, by simp only [World.frozen?_setCell]; exact h.f1, by simp only [World.frozen?_setCell]; exact h.f2, by simpa [World.setCell] using h.lt⟩
theorem mul_z (y z : Z) (w : World) : Calls Tryd.prog 91 #[twR y, twR z] w fun e w' => e = .returned (twR (y.mul z)) ∧ Below w.heap.size w w' := by
  have := twinMul_c (fz y.re) (fz y.im) (fz z.re) (fz z.im) w; rw [zi_fz, zi_fz] at this; exact this
theorem power_z (z : Z) (n : Int) (w : World) (h0 : 0 ≤ n) (h1 : n ≤ 9223372036854775807) : Calls Tryd.prog 133 #[twR z, .int .i64 n] w fun e w' => e = .returned (twR (z.pow n.toNat)) ∧ Below w.heap.size w w' := by
  have := twinPower_c (fz z.re) (fz z.im) n w h0 h1; rw [zi_fz] at this; exact this
theorem slope_n (a b : Sp) (w : World) (h : sSlope a b = none) : Calls Tryd.prog 127 #[spV a, spV b] w fun e w' => e = .returned (.tuple #[.int .i64 0, .bool false]) ∧ Below w.heap.size w w' := by
  obtain ⟨x, y, f⟩ := a; obtain ⟨u, v, g⟩ := b
  unfold sSlope at h
  split at h
  · cases h
  · rename_i hx
    have hx' : x = u := Decidable.of_not_not hx
    split at h
    · rename_i hy
      by_cases e : y = v
      · have e0 : y = 0 := by rcases hy with h | h; exact absurd e h; exact h
        exact slope_upright2 x y u v f g w (by simpa using hx') (by simpa using e) (by simpa using e0)
      · exact slope_upright1 x y u v f g w (by simpa using hx') (by simpa using e)
    · cases h
theorem slope_s (a b : Sp) (s : Int) (w : World) (h : sSlope a b = some s) (ha : Ok a) : Calls Tryd.prog 127 #[spV a, spV b] w fun e w' => e = .returned (.tuple #[.int .i64 s, .bool true]) ∧ Below w.heap.size w w' := by
  have y0 := ha.y0; have y1 := ha.y1
  obtain ⟨x, y, f⟩ := a; obtain ⟨u, v, g⟩ := b
  unfold sSlope at h
  split at h
  · rename_i hx
    cases h
    exact slope_unlike x y u v f g w (by simpa using hx)
  · rename_i hx
    have hx' : x = u := Decidable.of_not_not hx
    split at h
    · cases h
    · rename_i hy
      cases h
      exact slope_same x y u v f g w (by simpa using hx') (by simp only [not_or] at hy; simpa using hy.1) (by simp only [not_or] at hy; simpa using hy.2) y0 y1
theorem twR_one : twR .one = .agg #[.int .i64 1, .int .i64 0] := rfl
set_option maxHeartbeats 1000000 in
theorem line_n (a b t : Sp) (w : World) (hO : OneAt w) (h : sSlope a b = none) : Calls Tryd.prog 132 #[spV a, spV b, spV t] w fun e w' => e = .returned (.agg #[.int .i64 1, .int .i64 0]) ∧ Below w.heap.size w w' := by
  go_enter Tryd.func132, Tryd.ntmps132
  go_wp2_with fail
  refine (slope_n a b _ h).mono ?_; rintro e w1 ⟨rfl, hb⟩
  obtain ⟨hc1, hf1⟩ := bcell hb
  have z1 := hb.size
  try simp only [World.size_alloc, World.size_setCell, World.size_drew] at z1
  have s1_0 : w.heap.size < w1.heap.size := by omega
  have s1_1 : w.heap.size + 1 < w1.heap.size := by omega
  have s1_2 : w.heap.size + 1 + 1 < w1.heap.size := by omega
  have s1_3 : w.heap.size + 1 + 1 + 1 < w1.heap.size := by omega
  have hB1 : Below w.heap.size w w1 := below_seq (by repeat (first | exact Below.refl _ _ | refine balloc ?_ _ | refine Below.drew ?_ | refine below_drewN ?_ _ | refine below_set ?_ (by first | omega | (dsimp only; omega)) _)) hb
  clear hb
  have hO1 := hO.below hB1
  obtain ⟨q0, q1, ql⟩ := hO
  have q2 : 0 < w.heap.size := Nat.lt_of_le_of_lt (Nat.zero_le _) ql
  obtain ⟨o0, o1, ol⟩ := hO1
  have r0 : w1.cell? ⟨w.heap.size + 1 + 1 + 1, 0, none⟩ = some (.int .i64 0) := by go_simp
  have r1 : w1.cell? ⟨w.heap.size + 1 + 1 + 1, 1, none⟩ = some (.int .i64 0) := by go_simp
  go_wp2
  have k := set2_cell (w := w1) (x := .int .i64 1) (y := .int .i64 0) r0 r1
  refine bodyPost_ret (v := .agg #[.int .i64 1, .int .i64 0]) (by simp [results, Tryd.results132, go_sem, k.1, k.2]) rfl ⟨rfl, set2_below (by repeat (first | exact hB1 | exact Below.refl _ _ | refine balloc ?_ _ | refine Below.drew ?_ | refine below_drewN ?_ _ | refine below_set ?_ (by first | omega | (dsimp only; omega)) _)) (by omega)⟩
theorem agg2_eq {a b c d : Int} (h : a = c) (k : b = d) : Ending.returned (.agg #[.int .i64 a, .int .i64 b]) = .returned (.agg #[.int .i64 c, .int .i64 d]) := by rw [h, k]
theorem line_alg (a t : Sp) (s : Int) (ht : 0 ≤ t.y ∧ t.y < 4051) : pSub (pMul s (t.x + a.x)) a.y = fz (⟨fi s * (fi t.x + fi a.x) - fi a.y, fi t.y⟩ : Z).re ∧ t.y = fz (⟨fi s * (fi t.x + fi a.x) - fi a.y, fi t.y⟩ : Z).im :=
  ⟨fz_eq (r_pSub _ _) (by rw [fi_pSub, fi_pMul, fi_add]), fz_eq ht rfl⟩
set_option maxHeartbeats 1000000 in
theorem line_s (a b t : Sp) (s : Int) (w : World) (h : sSlope a b = some s) (ha : Ok a) (ht : Ok t) : Calls Tryd.prog 132 #[spV a, spV b, spV t] w fun e w' => e = .returned (twR (zLine a b t)) ∧ Below w.heap.size w w' := by
  have hz : Hid (zLine a b t = ⟨fi s * (fi t.x + fi a.x) - fi a.y, fi t.y⟩) := by show _ = _; unfold zLine; rw [h]
  have hl := Lib.hid (line_alg a t s ⟨ht.y0, ht.y1⟩)
  have e1 : IntKind.i64.wrap (t.x + a.x) = t.x + a.x := IntWalk.i64_in _ (by have := ha.x0; have := ha.x1; have := ht.x0; have := ht.x1; omega)
  go_enter Tryd.func132, Tryd.ntmps132
  go_wp2_with fail
  refine (slope_s a b s _ h ha).mono ?_; rintro e w1 ⟨rfl, hb⟩
  obtain ⟨hc1, hf1⟩ := bcell hb
  have z1 := hb.size
  try simp only [World.size_alloc, World.size_setCell, World.size_drew] at z1
  have s1_0 : w.heap.size < w1.heap.size := by omega
  have s1_1 : w.heap.size + 1 < w1.heap.size := by omega
  have s1_2 : w.heap.size + 1 + 1 < w1.heap.size := by omega
  have s1_3 : w.heap.size + 1 + 1 + 1 < w1.heap.size := by omega
  have hB1 : Below w.heap.size w w1 := below_seq (by repeat (first | exact Below.refl _ _ | refine balloc ?_ _ | refine Below.drew ?_ | refine below_drewN ?_ _ | refine below_set ?_ (by first | omega | (dsimp only; omega)) _)) hb
  clear hb
  go_wp2_with fail
  refine wp_region_grow_tail 13 Tryd.mixed (by kernel_rfl) ?_
  simp only [List.take_succ_cons, List.take_zero, List.drop_succ_cons, List.drop_zero]
  repeat (quiet_step ((first | (go_at_call 126; exact grow_same (primeMul_c _ _ _)) | (go_at_call 128; exact grow_same (primeSub_c _ _ _)))))
  refine wpQuiet_nil ?_
  intro _ hw'
  obtain ⟨x2, rfl⟩ := hw'
  have z2 := x2.h.size
  try simp only [World.size_alloc, World.size_setCell, World.size_drew] at z2
  have s2_0 : w.heap.size < x2.w.heap.size := by omega
  have s2_1 : w.heap.size + 1 < x2.w.heap.size := by omega
  have s2_2 : w.heap.size + 1 + 1 < x2.w.heap.size := by omega
  have s2_3 : w.heap.size + 1 + 1 + 1 < x2.w.heap.size := by omega
  have hB2 : Below w.heap.size w x2.w := below_seq (by repeat (first | exact hB1 | exact Below.refl _ _ | refine balloc ?_ _ | refine Below.drew ?_ | refine below_drewN ?_ _ | refine below_set ?_ (by first | omega | (dsimp only; omega)) _)) x2.h
  have r0 : x2.w.cell? ⟨w.heap.size + 1 + 1 + 1, 0, none⟩ = some (.int .i64 0) := by go_simp
  have r1 : x2.w.cell? ⟨w.heap.size + 1 + 1 + 1, 1, none⟩ = some (.int .i64 0) := by go_simp
  clear e1
  go_wp2
  have k := set2_cell (w := x2.w) (x := .int .i64 (pSub (pMul s (t.x + a.x)) a.y)) (y := .int .i64 t.y) r0 r1
  refine bodyPost_ret (v := .agg #[.int .i64 (pSub (pMul s (t.x + a.x)) a.y), .int .i64 t.y]) (by simp [results, Tryd.results132, go_sem, k.1, k.2]) rfl ⟨?_, set2_below (by repeat (first | exact hB2 | exact Below.refl _ _ | refine balloc ?_ _ | refine Below.drew ?_ | refine below_drewN ?_ _ | refine below_set ?_ (by first | omega | (dsimp only; omega)) _)) (by omega)⟩
  rw [hz.out]
  exact agg2_eq hl.out.1 hl.out.2
theorem line_c (a b t : Sp) (w : World) (hO : OneAt w) (ha : Ok a) (ht : Ok t) : Calls Tryd.prog 132 #[spV a, spV b, spV t] w fun e w' => e = .returned (twR (zLine a b t)) ∧ Below w.heap.size w w' := by
  cases h : sSlope a b with
  | none =>
    have e : zLine a b t = .one := by unfold zLine; rw [h]
    rw [e]; exact line_n a b t w hO h
  | some s => exact line_s a b t s w h ha ht
set_option maxHeartbeats 1000000 in
theorem len_c (w : World) : Calls Tryd.prog 131 #[.int .u64 1013] w fun e w' => e = .returned (.int .i64 10) ∧ Below w.heap.size w w' := by
  go_enter Tryd.func131, Tryd.ntmps131
  go_wp2
  go_ret
  exact ⟨by kernel_rfl, Below.refl _ _⟩
end Go.Proofs.YtfnifdmnbccblaaDoor
