/- Walks of layer curve: what is wrong with a spot, heights. -/
import Derived.Test.YtjjmelhhalomaaaGreatDoorWb
import Derived.Test.YtjjmelhhalomaaaGreatDoorSp
namespace Go.Proofs.YtjjmelhhalomaaaGreatDoor
open Go.RowKit
/-- A spot, as the program has it. -/
abbrev spV (s : Sp) : Value := .agg #[.int .i64 s.x, .int .i64 s.y, .bool s.far]
/-- The package's variable Far, where it lies. -/
structure FarAt (w : World) : Prop where
  c0 : w.cell? ⟨0, 0, none⟩ = some (.int .i64 0)
  c1 : w.cell? ⟨0, 1, none⟩ = some (.int .i64 0)
  c2 : w.cell? ⟨0, 2, none⟩ = some (.bool true)
  lt : 0 < w.heap.size
theorem FarAt.below {w w' : World} (h : FarAt w) (hb : Below w.heap.size w w') : FarAt w' :=
  ⟨(hb.cell (p := ⟨0, 0, none⟩) h.lt).trans h.c0, (hb.cell (p := ⟨0, 1, none⟩) h.lt).trans h.c1, (hb.cell (p := ⟨0, 2, none⟩) h.lt).trans h.c2, Nat.lt_of_lt_of_le h.lt hb.size⟩
/-- A spot in memory. -/
structure SpAt (w : World) (b : Nat) (s : Sp) : Prop where
  c0 : w.cell? ⟨b, 0, none⟩ = some (.int .i64 s.x)
  c1 : w.cell? ⟨b, 1, none⟩ = some (.int .i64 s.y)
  c2 : w.cell? ⟨b, 2, none⟩ = some (.bool s.far)
  f0 : w.frozen? ⟨b, 0, none⟩ = false
  f1 : w.frozen? ⟨b, 1, none⟩ = false
  f2 : w.frozen? ⟨b, 2, none⟩ = false
  lt : b < w.heap.size
theorem SpAt.below {w w' : World} {b : Nat} {s : Sp} (h : SpAt w b s) (hb : Below w.heap.size w w') : SpAt w' b s :=
  ⟨(hb.cell (p := ⟨b, 0, none⟩) h.lt).trans h.c0, (hb.cell (p := ⟨b, 1, none⟩) h.lt).trans h.c1, (hb.cell (p := ⟨b, 2, none⟩) h.lt).trans h.c2, (hb.frozen (p := ⟨b, 0, none⟩) h.lt).trans h.f0, (hb.frozen (p := ⟨b, 1, none⟩) h.lt).trans h.f1, (hb.frozen (p := ⟨b, 2, none⟩) h.lt).trans h.f2, Nat.lt_of_lt_of_le h.lt hb.size⟩
theorem SpAt.alloc {w : World} {b : Nat} {s : Sp} (h : SpAt w b s) (o : Obj) : SpAt (w.alloc o) b s := h.below (below_alloc w o)
theorem SpAt.drew {w : World} {b : Nat} {s : Sp} (h : SpAt w b s) : SpAt w.drew b s := ⟨h.c0, h.c1, h.c2, h.f0, h.f1, h.f2, h.lt⟩
theorem SpAt.drewN {w : World} {b : Nat} {s : Sp} (h : SpAt w b s) (n : Nat) : SpAt (w.drewN n) b s := ⟨h.c0, h.c1, h.c2, h.f0, h.f1, h.f2, h.lt⟩
theorem SpAt.fresh (w : World) (x y : Int) (f : Bool) (t : TypeId) : SpAt (w.alloc (.cells #[.int .i64 x, .int .i64 y, .bool f] t)) w.heap.size ⟨x, y, f⟩ := ⟨by simp, by simp, by simp, by simp, by simp, by simp, by simp⟩
theorem SpAt.fresh1 (w : World) (x y : Int) (f : Bool) (t : TypeId) (o : Obj) : SpAt ((w.alloc o).alloc (.cells #[.int .i64 x, .int .i64 y, .bool f] t)) (w.heap.size + 1) ⟨x, y, f⟩ := by
  have := SpAt.fresh (w.alloc o) x y f t; simpa using this
theorem SpAt.set3 {w : World} {b : Nat} {s : Sp} (h : SpAt w b s) (v : Sp) : SpAt (((w.setCell ⟨b, 0, none⟩ (.int .i64 v.x)).setCell ⟨b, 1, none⟩ (.int .i64 v.y)).setCell ⟨b, 2, none⟩ (.bool v.far)) b v := by
  obtain ⟨h0, h1, h2, f0, f1, f2, hl⟩ := h
  refine ⟨?_, ?_, ?_, ?_, ?_, ?_, by simpa [World.setCell] using hl⟩
  · rw [World.cell?_setCell_other (h := by simp), World.cell?_setCell_other (h := by simp)]; exact World.cell?_setCell_same _ _ _ h0
  · rw [World.cell?_setCell_other (h := by simp)]; exact World.cell?_setCell_same _ _ _ (by rw [World.cell?_setCell_other (h := by simp)]; exact h1)
  · exact World.cell?_setCell_same _ _ _ (by rw [World.cell?_setCell_other (h := by simp), World.cell?_setCell_other (h := by simp)]; exact h2)
  all_goals simp only [World.frozen?_setCell]; assumption
theorem SpAt.set3o {w : World} {b c : Nat} {s : Sp} (h : SpAt w b s) (hne : c ≠ b) (x y z : Value) : SpAt (((w.setCell ⟨c, 0, none⟩ x).setCell ⟨c, 1, none⟩ y).setCell ⟨c, 2, none⟩ z) b s := by
  obtain ⟨h0, h1, h2, f0, f1, f2, hl⟩ := h
  have k : ∀ o, (((w.setCell ⟨c, 0, none⟩ x).setCell ⟨c, 1, none⟩ y).setCell ⟨c, 2, none⟩ z).cell? ⟨b, o, none⟩ = w.cell? ⟨b, o, none⟩ := fun o => by
    rw [World.cell?_setCell_other (h := fun e => hne (congrArg Addr.block e)), World.cell?_setCell_other (h := fun e => hne (congrArg Addr.block e)), World.cell?_setCell_other (h := fun e => hne (congrArg Addr.block e))]
  refine ⟨(k 0).trans h0, (k 1).trans h1, (k 2).trans h2, ?_, ?_, ?_, by simpa [World.setCell] using hl⟩
  all_goals simp only [World.frozen?_setCell]; assumption
theorem ret_bool {a b : Bool} (h : a = b) : Ending.returned (.bool a) = .returned (.bool b) := by rw [h]
set_option maxHeartbeats 400000 in
theorem inside_c (n : Int) (w : World) : Calls Tryz.prog 78 #[.int .i64 n] w fun e w' => e = .returned (.bool (inside n)) ∧ w = w' := by
  by_cases h0 : 0 ≤ n
  · by_cases h1 : n < 4051
    · go_enter Tryz.func78, Tryz.ntmps78
      go_wp2
      go_ret
      exact ⟨ret_bool (by simp [inside, h0, h1]), rfl⟩
    · go_enter Tryz.func78, Tryz.ntmps78
      go_wp2
      go_ret
      exact ⟨ret_bool (by simp [inside, h0, h1]), rfl⟩
  · go_enter Tryz.func78, Tryz.ntmps78
    go_wp2
    go_ret
    exact ⟨ret_bool (by simp [inside]; omega), rfl⟩
set_option maxHeartbeats 400000 in
theorem height_c (n : Int) (w : World) : Calls Tryz.prog 80 #[.int .i64 n] w fun e w' => e = .returned (.int .i64 (height n)) ∧ w = w' := by
  go_enter Tryz.func80, Tryz.ntmps80
  go_wp2_with (first | (go_at_call 79; refine (primeMul_c _ _ _).mono ?_; rintro e w' ⟨rfl, rfl⟩) | (go_at_call 122; refine (primeAdd_c _ _ _).mono ?_; rintro e w' ⟨rfl, rfl⟩))
  go_ret
  exact ⟨rfl, rfl⟩
set_option maxHeartbeats 400000 in
theorem check_a (x y : Int) (f : Bool) (w : World) (hF : FarAt w) (hx : inside x = false) : Calls Tryz.prog 36 #[.agg #[.int .i64 x, .int .i64 y, .bool f]] w fun e w' => e = .returned (.iface 84 (.int .i64 1)) ∧ Below w.heap.size w w' := by
  obtain ⟨c0, c1, c2, hlt⟩ := hF
  go_enter Tryz.func36, Tryz.ntmps36
  go_wp2_with (go_at_call 78; refine (inside_c _ _).mono ?_; rintro e w' ⟨rfl, rfl⟩)
  go_ret
  exact ⟨rfl, by repeat (first | exact Below.refl _ _ | refine below_drewN ?_ _ | refine Below.drew ?_ | refine balloc ?_ _)⟩
set_option maxHeartbeats 400000 in
theorem check_b (x y : Int) (f : Bool) (w : World) (hF : FarAt w) (hx : inside x = true) (hy : inside y = false) : Calls Tryz.prog 36 #[.agg #[.int .i64 x, .int .i64 y, .bool f]] w fun e w' => e = .returned (.iface 84 (.int .i64 1)) ∧ Below w.heap.size w w' := by
  obtain ⟨c0, c1, c2, hlt⟩ := hF
  go_enter Tryz.func36, Tryz.ntmps36
  go_wp2_with (go_at_call 78; refine (inside_c _ _).mono ?_; rintro e w' ⟨rfl, rfl⟩)
  go_ret
  exact ⟨rfl, by repeat (first | exact Below.refl _ _ | refine below_drewN ?_ _ | refine Below.drew ?_ | refine balloc ?_ _)⟩
set_option maxHeartbeats 400000 in
theorem check_c (x y : Int) (w : World) (hF : FarAt w) (hx : inside x = true) (hy : inside y = true) (h : ¬ x = 0) : Calls Tryz.prog 36 #[.agg #[.int .i64 x, .int .i64 y, .bool true]] w fun e w' => e = .returned (.iface 84 (.int .i64 1)) ∧ Below w.heap.size w w' := by
  obtain ⟨c0, c1, c2, hlt⟩ := hF
  go_enter Tryz.func36, Tryz.ntmps36
  go_wp2_with (go_at_call 78; refine (inside_c _ _).mono ?_; rintro e w' ⟨rfl, rfl⟩)
  go_ret
  exact ⟨rfl, by repeat (first | exact Below.refl _ _ | refine below_drewN ?_ _ | refine Below.drew ?_ | refine balloc ?_ _)⟩
set_option maxHeartbeats 400000 in
theorem check_d (x y : Int) (w : World) (hF : FarAt w) (_hx : inside x = true) (hy : inside y = true) (h : x = 0) (h2 : ¬ y = 0) : Calls Tryz.prog 36 #[.agg #[.int .i64 x, .int .i64 y, .bool true]] w fun e w' => e = .returned (.iface 84 (.int .i64 1)) ∧ Below w.heap.size w w' := by
  obtain ⟨c0, c1, c2, hlt⟩ := hF
  go_enter Tryz.func36, Tryz.ntmps36
  go_wp2_with (go_at_call 78; refine (inside_c _ _).mono ?_; rintro e w' ⟨rfl, rfl⟩)
  go_ret
  exact ⟨rfl, by repeat (first | exact Below.refl _ _ | refine below_drewN ?_ _ | refine Below.drew ?_ | refine balloc ?_ _)⟩
set_option maxHeartbeats 400000 in
theorem check_e  (w : World) (hF : FarAt w)  : Calls Tryz.prog 36 #[.agg #[.int .i64 0, .int .i64 0, .bool true]] w fun e w' => e = .returned (.nilIface) ∧ Below w.heap.size w w' := by
  obtain ⟨c0, c1, c2, hlt⟩ := hF
  have _hx : inside 0 = true := by decide
  go_enter Tryz.func36, Tryz.ntmps36
  go_wp2_with (go_at_call 78; refine (inside_c _ _).mono ?_; rintro e w' ⟨rfl, rfl⟩)
  go_quiet (first | (go_at_call 79; exact quiet_left (primeMul_c _ _ _)) | (go_at_call 80; exact quiet_left (height_c _ _)))
  go_wp2
  go_ret
  exact ⟨rfl, by repeat (first | exact Below.refl _ _ | refine below_drewN ?_ _ | refine Below.drew ?_ | refine balloc ?_ _)⟩
set_option maxHeartbeats 400000 in
theorem check_f (x y : Int) (w : World) (hF : FarAt w) (hx : inside x = true) (hy : inside y = true) (h : (pMul y y != height x) = true) : Calls Tryz.prog 36 #[.agg #[.int .i64 x, .int .i64 y, .bool false]] w fun e w' => e = .returned (.iface 84 (.int .i64 3)) ∧ Below w.heap.size w w' := by
  obtain ⟨c0, c1, c2, hlt⟩ := hF
  go_enter Tryz.func36, Tryz.ntmps36
  go_wp2_with (go_at_call 78; refine (inside_c _ _).mono ?_; rintro e w' ⟨rfl, rfl⟩)
  go_quiet (first | (go_at_call 79; exact quiet_left (primeMul_c _ _ _)) | (go_at_call 80; exact quiet_left (height_c _ _)))
  go_wp2
  go_ret
  exact ⟨rfl, by repeat (first | exact Below.refl _ _ | refine below_drewN ?_ _ | refine Below.drew ?_ | refine balloc ?_ _)⟩
set_option maxHeartbeats 400000 in
theorem check_g (x y : Int) (w : World) (hF : FarAt w) (hx : inside x = true) (hy : inside y = true) (h : (pMul y y != height x) = false) : Calls Tryz.prog 36 #[.agg #[.int .i64 x, .int .i64 y, .bool false]] w fun e w' => e = .returned (.nilIface) ∧ Below w.heap.size w w' := by
  obtain ⟨c0, c1, c2, hlt⟩ := hF
  go_enter Tryz.func36, Tryz.ntmps36
  go_wp2_with (go_at_call 78; refine (inside_c _ _).mono ?_; rintro e w' ⟨rfl, rfl⟩)
  go_quiet (first | (go_at_call 79; exact quiet_left (primeMul_c _ _ _)) | (go_at_call 80; exact quiet_left (height_c _ _)))
  go_wp2
  go_ret
  exact ⟨rfl, by repeat (first | exact Below.refl _ _ | refine below_drewN ?_ _ | refine Below.drew ?_ | refine balloc ?_ _)⟩
end Go.Proofs.YtjjmelhhalomaaaGreatDoor
