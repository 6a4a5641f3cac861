/- The law PrimeRoots, walked: of a number and its negative just one has a root, if it is not 0. -/
import Derived.Test.YtkcfblogfnpbnaaWb
import Derived.Deep.QuietTactic
import Derived.BigQuiet
namespace Go.Proofs.Ytkcfblogfnpbnaa
open Go.RowKit
set_option maxHeartbeats 1000000 in
theorem primeRoots_law (a0 : Int) (_ : (Lit.int .i64 a0).wf = true) (w : World) :
    Calls Try.prog 5 #[.int .i64 a0] w fun e w' => e = .returned (.bool true) ∧ Below w.heap.size w w' := by
  have s4 := isSq_four
  have r4 := pRoot_four
  by_cases h0 : (pOf a0 == 0) = true
  · have h1 : pOf a0 = 0 := by simpa using h0
    have ha := isSq_zero h1
    have hb := isSq_neg_zero h1
    clear h1
    go_enter Try.func5, Try.ntmps5
    go_wp2_with (first | (go_at_call 13; refine (primeSqrt_yes _ _ (by assumption)).mono ?_; rintro e w' ⟨rfl, rfl⟩) | (go_at_call 14; refine (primeSub_c _ _ _).mono ?_; rintro e w' ⟨rfl, rfl⟩) | (go_at_call 15; refine (primeOf_c _ _).mono ?_; rintro e w' ⟨rfl, rfl⟩))
    go_ret
    exact ⟨rfl, Below.refl _ _⟩
  · have h1 : pOf a0 ≠ 0 := by simpa using h0
    have hb := isSq_neg h1
    clear h1
    have h0 : (pOf a0 == 0) = false := by simpa using h0
    by_cases ha : isSq a0 = true
    all_goals
      first | (have ha : isSq a0 = false := by simpa using ha) | skip
      rw [ha] at hb
      simp at hb
      go_enter Try.func5, Try.ntmps5
      go_wp2_with (first | (go_at_call 13; refine (primeSqrt_yes _ _ (by assumption)).mono ?_; rintro e w' ⟨rfl, rfl⟩) | (go_at_call 13; refine (primeSqrt_no _ _ (by assumption)).mono ?_; rintro e w' ⟨rfl, rfl⟩) | (go_at_call 14; refine (primeSub_c _ _ _).mono ?_; rintro e w' ⟨rfl, rfl⟩) | (go_at_call 15; refine (primeOf_c _ _).mono ?_; rintro e w' ⟨rfl, rfl⟩))
      go_quiet (fail)
      go_wp2
      go_ret
      exact ⟨rfl, below_draws _ _⟩
end Go.Proofs.Ytkcfblogfnpbnaa
