/- Walk of curve.Lift: a spot over this x. -/
import Derived.Test.YtjjmelhhalomaaaGreatDoorWz
namespace Go.Proofs.YtjjmelhhalomaaaGreatDoor
open Go.RowKit
set_option maxHeartbeats 1000000 in
theorem lift_out (x : Int) (w : World) (h : inside x = false) : Calls Tryz.prog 38 #[.int .i64 x] w fun e w' => e = .returned (.tuple #[spV ⟨0, 0, false⟩, .iface 84 (.int .i64 1)]) ∧ Below w.heap.size w w' := by
  go_enter Tryz.func38, Tryz.ntmps38
  go_wp2_with (go_at_call 78; refine (inside_c _ _).mono ?_; rintro e w' ⟨rfl, rfl⟩)
  refine bodyPost_ret (v := .tuple #[spV ⟨0, 0, false⟩, .iface 84 (.int .i64 1)]) (by simp [results, Tryz.results38, go_sem]) rfl ⟨rfl, below_alloc w _⟩
set_option maxHeartbeats 1000000 in
theorem lift_no (x : Int) (w : World) (h : inside x = true) (hs : isSq (height x) = false) : Calls Tryz.prog 38 #[.int .i64 x] w fun e w' => e = .returned (.tuple #[spV ⟨0, 0, false⟩, .iface 84 (.int .i64 5)]) ∧ Below w.heap.size w w' := by
  go_enter Tryz.func38, Tryz.ntmps38
  go_wp2_with (first | (go_at_call 78; refine (inside_c _ _).mono ?_; rintro e w' ⟨rfl, rfl⟩) | (go_at_call 80; refine (height_c _ _).mono ?_; rintro e w' ⟨rfl, rfl⟩) | (go_at_call 81; refine (primeSqrt_no _ _ hs).mono ?_; rintro e w' ⟨rfl, rfl⟩))
  refine bodyPost_ret (v := .tuple #[spV ⟨0, 0, false⟩, .iface 84 (.int .i64 5)]) (by simp [results, Tryz.results38, go_sem]) rfl ⟨rfl, below_alloc w _⟩
set_option maxHeartbeats 1000000 in
theorem lift_yes (x : Int) (w : World) (h : inside x = true) (hs : isSq (height x) = true) : Calls Tryz.prog 38 #[.int .i64 x] w fun e w' => e = .returned (.tuple #[spV ⟨x, pRoot (height x), false⟩, .nilIface]) ∧ Below w.heap.size w w' := by
  go_enter Tryz.func38, Tryz.ntmps38
  go_wp2_with (first | (go_at_call 78; refine (inside_c _ _).mono ?_; rintro e w' ⟨rfl, rfl⟩) | (go_at_call 80; refine (height_c _ _).mono ?_; rintro e w' ⟨rfl, rfl⟩) | (go_at_call 81; refine (primeSqrt_yes _ _ hs).mono ?_; rintro e w' ⟨rfl, rfl⟩))
  refine bodyPost_ret (v := .tuple #[spV ⟨x, pRoot (height x), false⟩, .nilIface]) (by simp [results, Tryz.results38, go_sem]) rfl ⟨rfl, below_alloc w _⟩
end Go.Proofs.YtjjmelhhalomaaaGreatDoor
