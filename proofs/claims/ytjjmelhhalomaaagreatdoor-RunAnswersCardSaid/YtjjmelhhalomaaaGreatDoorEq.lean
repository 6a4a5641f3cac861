/- Two spots held against each other by ==. -/
import Derived.Test.YtjjmelhhalomaaaGreatDoorWv
namespace Go.Proofs.YtjjmelhhalomaaaGreatDoor
open Go.RowKit
set_option maxRecDepth 100000
theorem spot_if (x y u v : Int) (f g : Bool) (w : World) (k : Bool → Bool) : (if x = u then if y = v then if f = g then Result.ok (Value.bool (k true)) w else Result.ok (Value.bool (k false)) w else Result.ok (Value.bool (k false)) w else Result.ok (Value.bool (k false)) w) = .ok (.bool (k (Sp.beq ⟨x, y, f⟩ ⟨u, v, g⟩))) w := by
  unfold Sp.beq
  by_cases hx : x = u <;> by_cases hy : y = v <;> by_cases hf : f = g <;> simp [hx, hy, hf]
set_option maxHeartbeats 1000000 in
theorem eql_spot (x y u v : Int) (f g : Bool) (w : World) : (Go.binOp .eql 28 (.agg #[.int .i64 x, .int .i64 y, .bool f]) (.agg #[.int .i64 u, .int .i64 v, .bool g])).run Tryz.prog w = .ok (.bool (Sp.beq ⟨x, y, f⟩ ⟨u, v, g⟩)) w := by
  go_simp
  exact spot_if x y u v f g w (fun b => b)
set_option maxHeartbeats 1000000 in
theorem neq_spot (x y u v : Int) (f g : Bool) (w : World) : (Go.binOp .neq 28 (.agg #[.int .i64 x, .int .i64 y, .bool f]) (.agg #[.int .i64 u, .int .i64 v, .bool g])).run Tryz.prog w = .ok (.bool (!Sp.beq ⟨x, y, f⟩ ⟨u, v, g⟩)) w := by
  go_simp
  exact spot_if x y u v f g w (fun b => !b)
attribute [go_sem ↓] eql_spot neq_spot
@[go_sem] theorem Sp.mk_eta (s : Sp) : (⟨s.x, s.y, s.far⟩ : Sp) = s := rfl
theorem Sp.beq_refl (s : Sp) : Sp.beq s s = true := Sp.beq_iff.mpr rfl
@[go_sem] theorem Sp.beq_self (s : Sp) : Sp.beq s s = true := Sp.beq_refl s
theorem Sp.beq_ne {a b : Sp} (h : a ≠ b) : Sp.beq a b = false := by
  cases e : Sp.beq a b
  · rfl
  · exact absurd (Sp.beq_iff.mp e) h
end Go.Proofs.YtjjmelhhalomaaaGreatDoor
