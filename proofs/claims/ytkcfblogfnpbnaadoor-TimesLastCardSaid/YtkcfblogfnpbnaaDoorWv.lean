/- Walks of layer curve: what is wrong with a spot, heights. -/
import Derived.Test.YtkcfblogfnpbnaaDoorWb
import Derived.Test.YtkcfblogfnpbnaaDoorSp
namespace Go.Proofs.YtkcfblogfnpbnaaDoor
open Go.RowKit
/-- A spot, as the program has it. -/
abbrev spV (s : Sp) : Value := .agg #[.int .i64 s.x, .int .i64 s.y, .bool s.far]
/-- The package's variable Far, where it lies. -/
structure FarAt (w : World) : Prop where
  c0 : w.cell? ⟨0, 0, none⟩ = some (.int .i64 0)
  c1 : w.cell? ⟨0, 1, none⟩ = some (.int .i64 0)
  c2 : w.cell? ⟨0, 2, none⟩ = some (.bool true)
  lt : 0 < w.heap.size
theorem FarAt.below {w w' : World} (h : FarAt w) (hb : Below w.heap.size w w') : FarAt w' :=
  ⟨(hb.cell (p := ⟨0, 0, none⟩) h.lt).trans h.c0, (hb.cell (p := ⟨0, 1, none⟩) h.lt).trans h.c1, (hb.cell (p := ⟨0, 2, none⟩) h.lt).trans h.c2, Nat.lt_of_lt_of_le h.lt hb.size⟩
theorem balloc {a b : World} (h : Below a.heap.size a b) (o : Obj) : Below a.heap.size a (b.alloc o) := h.alloc h.size o
theorem bcell {W w1 : World} (hb : Below W.heap.size W w1) : (∀ b o, b < W.heap.size → w1.cell? ⟨b, o, none⟩ = W.cell? ⟨b, o, none⟩) ∧ (∀ b o, b < W.heap.size → w1.frozen? ⟨b, o, none⟩ = W.frozen? ⟨b, o, none⟩) :=
  ⟨fun b o h => hb.cell (p := ⟨b, o, none⟩) h, fun b o h => hb.frozen (p := ⟨b, o, none⟩) h⟩
theorem ret_bool {a b : Bool} (h : a = b) : Ending.returned (.bool a) = .returned (.bool b) := by rw [h]
set_option maxHeartbeats 400000 in
theorem inside_c (n : Int) (w : World) : Calls Tryd.prog 19 #[.int .i64 n] w fun e w' => e = .returned (.bool (inside n)) ∧ w = w' := by
  by_cases h0 : 0 ≤ n
  · by_cases h1 : n < 4051
    · go_enter Tryd.func19, Tryd.ntmps19
      go_wp2
      go_ret
      exact ⟨ret_bool (by simp [inside, h0, h1]), rfl⟩
    · go_enter Tryd.func19, Tryd.ntmps19
      go_wp2
      go_ret
      exact ⟨ret_bool (by simp [inside, h0, h1]), rfl⟩
  · go_enter Tryd.func19, Tryd.ntmps19
    go_wp2
    go_ret
    exact ⟨ret_bool (by simp [inside]; omega), rfl⟩
set_option maxHeartbeats 400000 in
theorem height_c (n : Int) (w : World) : Calls Tryd.prog 21 #[.int .i64 n] w fun e w' => e = .returned (.int .i64 (height n)) ∧ w = w' := by
  go_enter Tryd.func21, Tryd.ntmps21
  go_wp2_with (first | (go_at_call 20; refine (primeMul_c _ _ _).mono ?_; rintro e w' ⟨rfl, rfl⟩) | (go_at_call 29; refine (primeAdd_c _ _ _).mono ?_; rintro e w' ⟨rfl, rfl⟩))
  go_ret
  exact ⟨rfl, rfl⟩
set_option maxHeartbeats 400000 in
theorem check_a (x y : Int) (f : Bool) (w : World) (hF : FarAt w) (hx : inside x = false) : Calls Tryd.prog 10 #[.agg #[.int .i64 x, .int .i64 y, .bool f]] w fun e w' => e = .returned (.iface 44 (.int .i64 1)) ∧ Below w.heap.size w w' := by
  obtain ⟨c0, c1, c2, hlt⟩ := hF
  go_enter Tryd.func10, Tryd.ntmps10
  go_wp2_with (go_at_call 19; refine (inside_c _ _).mono ?_; rintro e w' ⟨rfl, rfl⟩)
  go_ret
  exact ⟨rfl, by repeat (first | exact Below.refl _ _ | refine below_drewN ?_ _ | refine Below.drew ?_ | refine balloc ?_ _)⟩
set_option maxHeartbeats 400000 in
theorem check_b (x y : Int) (f : Bool) (w : World) (hF : FarAt w) (hx : inside x = true) (hy : inside y = false) : Calls Tryd.prog 10 #[.agg #[.int .i64 x, .int .i64 y, .bool f]] w fun e w' => e = .returned (.iface 44 (.int .i64 1)) ∧ Below w.heap.size w w' := by
  obtain ⟨c0, c1, c2, hlt⟩ := hF
  go_enter Tryd.func10, Tryd.ntmps10
  go_wp2_with (go_at_call 19; refine (inside_c _ _).mono ?_; rintro e w' ⟨rfl, rfl⟩)
  go_ret
  exact ⟨rfl, by repeat (first | exact Below.refl _ _ | refine below_drewN ?_ _ | refine Below.drew ?_ | refine balloc ?_ _)⟩
set_option maxHeartbeats 400000 in
theorem check_c (x y : Int) (w : World) (hF : FarAt w) (hx : inside x = true) (hy : inside y = true) (h : ¬ x = 0) : Calls Tryd.prog 10 #[.agg #[.int .i64 x, .int .i64 y, .bool true]] w fun e w' => e = .returned (.iface 44 (.int .i64 1)) ∧ Below w.heap.size w w' := by
  obtain ⟨c0, c1, c2, hlt⟩ := hF
  go_enter Tryd.func10, Tryd.ntmps10
  go_wp2_with (go_at_call 19; refine (inside_c _ _).mono ?_; rintro e w' ⟨rfl, rfl⟩)
  go_ret
  exact ⟨rfl, by repeat (first | exact Below.refl _ _ | refine below_drewN ?_ _ | refine Below.drew ?_ | refine balloc ?_ _)⟩
set_option maxHeartbeats 400000 in
theorem check_d (x y : Int) (w : World) (hF : FarAt w) (_hx : inside x = true) (hy : inside y = true) (h : x = 0) (h2 : ¬ y = 0) : Calls Tryd.prog 10 #[.agg #[.int .i64 x, .int .i64 y, .bool true]] w fun e w' => e = .returned (.iface 44 (.int .i64 1)) ∧ Below w.heap.size w w' := by
  obtain ⟨c0, c1, c2, hlt⟩ := hF
  go_enter Tryd.func10, Tryd.ntmps10
  go_wp2_with (go_at_call 19; refine (inside_c _ _).mono ?_; rintro e w' ⟨rfl, rfl⟩)
  go_ret
  exact ⟨rfl, by repeat (first | exact Below.refl _ _ | refine below_drewN ?_ _ | refine Below.drew ?_ | refine balloc ?_ _)⟩
set_option maxHeartbeats 400000 in
theorem check_e  (w : World) (hF : FarAt w)  : Calls Tryd.prog 10 #[.agg #[.int .i64 0, .int .i64 0, .bool true]] w fun e w' => e = .returned (.nilIface) ∧ Below w.heap.size w w' := by
  obtain ⟨c0, c1, c2, hlt⟩ := hF
  have _hx : inside 0 = true := by decide
  go_enter Tryd.func10, Tryd.ntmps10
  go_wp2_with (go_at_call 19; refine (inside_c _ _).mono ?_; rintro e w' ⟨rfl, rfl⟩)
  go_quiet (first | (go_at_call 20; exact quiet_left (primeMul_c _ _ _)) | (go_at_call 21; exact quiet_left (height_c _ _)))
  go_wp2
  go_ret
  exact ⟨rfl, by repeat (first | exact Below.refl _ _ | refine below_drewN ?_ _ | refine Below.drew ?_ | refine balloc ?_ _)⟩
set_option maxHeartbeats 400000 in
theorem check_f (x y : Int) (w : World) (hF : FarAt w) (hx : inside x = true) (hy : inside y = true) (h : (pMul y y != height x) = true) : Calls Tryd.prog 10 #[.agg #[.int .i64 x, .int .i64 y, .bool false]] w fun e w' => e = .returned (.iface 44 (.int .i64 3)) ∧ Below w.heap.size w w' := by
  obtain ⟨c0, c1, c2, hlt⟩ := hF
  go_enter Tryd.func10, Tryd.ntmps10
  go_wp2_with (go_at_call 19; refine (inside_c _ _).mono ?_; rintro e w' ⟨rfl, rfl⟩)
  go_quiet (first | (go_at_call 20; exact quiet_left (primeMul_c _ _ _)) | (go_at_call 21; exact quiet_left (height_c _ _)))
  go_wp2
  go_ret
  exact ⟨rfl, by repeat (first | exact Below.refl _ _ | refine below_drewN ?_ _ | refine Below.drew ?_ | refine balloc ?_ _)⟩
set_option maxHeartbeats 400000 in
theorem check_g (x y : Int) (w : World) (hF : FarAt w) (hx : inside x = true) (hy : inside y = true) (h : (pMul y y != height x) = false) : Calls Tryd.prog 10 #[.agg #[.int .i64 x, .int .i64 y, .bool false]] w fun e w' => e = .returned (.nilIface) ∧ Below w.heap.size w w' := by
  obtain ⟨c0, c1, c2, hlt⟩ := hF
  go_enter Tryd.func10, Tryd.ntmps10
  go_wp2_with (go_at_call 19; refine (inside_c _ _).mono ?_; rintro e w' ⟨rfl, rfl⟩)
  go_quiet (first | (go_at_call 20; exact quiet_left (primeMul_c _ _ _)) | (go_at_call 21; exact quiet_left (height_c _ _)))
  go_wp2
  go_ret
  exact ⟨rfl, by repeat (first | exact Below.refl _ _ | refine below_drewN ?_ _ | refine Below.drew ?_ | refine balloc ?_ _)⟩
end Go.Proofs.YtkcfblogfnpbnaaDoor
