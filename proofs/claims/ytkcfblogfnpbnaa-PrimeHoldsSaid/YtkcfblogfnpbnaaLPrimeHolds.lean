/- The law PrimeHolds, walked: the laws of a field. -/
import Derived.Test.YtkcfblogfnpbnaaWb
namespace Go.Proofs.Ytkcfblogfnpbnaa
open Go.RowKit
set_option maxHeartbeats 4000000 in
theorem ph_core (a0 a1 a2 : Int) (w : World) (z0 z1 sq : Bool) (h0 : (pOf a0 == 0) = z0) (h0' : (pOf a0 != 0) = !z0) (h1 : (pOf a1 != 0) = !z1) (hp : (pMul a0 a1 == 0) = (z0 || z1)) (hs : isSq a0 = sq)
    (hf : z0 = false → (pPow a0 4050 != 1) = false) (hh : (pPow a0 2025 != 4050) = sq) (hi : z0 = false → pMul a0 (pInv a0) = 1) (hr : sq = true → pMul (pRoot a0) (pRoot a0) = pOf a0) :
    Calls Try.prog 7 #[.int .i64 a0, .int .i64 a1, .int .i64 a2] w fun e w' => e = .returned (.bool true) ∧ Below w.heap.size w w' := by
  have k1 : pMul 4050 4050 = 1 := by decide
  have k2 : pAdd 4050 3 = 2 := by decide
  have c1 := pMul_comm a0 a1
  have c2 := pMul_assoc a0 a1 a2
  have c3 := pAdd_comm a0 a1
  have c4 := pMul_add a0 a1 a2
  have c5 := pSub_add a0 a1
  have c6 := (pRoot_bd a0).1
  have c7 := (pRoot_bd a0).2
  cases z0 <;> cases sq <;> cases z1
  all_goals
    first | (have hf := hf rfl) | clear hf
    first | (have hi := hi rfl) | clear hi
    first | (have hr := hr rfl) | clear hr
    simp only [Bool.not_true, Bool.not_false, Bool.or_true, Bool.or_false] at h0' h1 hp
    go_enter Try.func7, Try.ntmps7
    go_wp2_with (first | (go_at_call 15; refine (primeOf_c _ _).mono ?_; rintro e w' ⟨rfl, rfl⟩) | (go_at_call 18; refine (primeMul_c _ _ _).mono ?_; rintro e w' ⟨rfl, rfl⟩) | (go_at_call 19; refine (primeAdd_c _ _ _).mono ?_; rintro e w' ⟨rfl, rfl⟩) | (go_at_call 14; refine (primeSub_c _ _ _).mono ?_; rintro e w' ⟨rfl, rfl⟩) | (go_at_call 20; refine (primeInv_some _ _ (by assumption)).mono ?_; rintro e w' ⟨rfl, rfl⟩) | (go_at_call 20; refine (primeInv_none _ _ (by assumption)).mono ?_; rintro e w' ⟨rfl, rfl⟩))
    go_quiet (first | (go_at_call 15; exact quiet_left (primeOf_c _ _)) | (go_at_call 18; exact quiet_left (primeMul_c _ _ _)))
    go_wp2_with (first | (go_at_call 15; refine (primeOf_c _ _).mono ?_; rintro e w' ⟨rfl, rfl⟩) | (go_at_call 18; refine (primeMul_c _ _ _).mono ?_; rintro e w' ⟨rfl, rfl⟩) | (go_at_call 19; refine (primeAdd_c _ _ _).mono ?_; rintro e w' ⟨rfl, rfl⟩) | (go_at_call 14; refine (primeSub_c _ _ _).mono ?_; rintro e w' ⟨rfl, rfl⟩) | (go_at_call 20; refine (primeInv_some _ _ (by assumption)).mono ?_; rintro e w' ⟨rfl, rfl⟩) | (go_at_call 20; refine (primeInv_none _ _ (by assumption)).mono ?_; rintro e w' ⟨rfl, rfl⟩) | (go_at_call 21; refine (primePow_ok _ _ _ (by decide) (by decide)).mono ?_; rintro e w' ⟨rfl, rfl⟩) | (go_at_call 13; refine (primeSqrt_yes _ _ (by assumption)).mono ?_; rintro e w' ⟨rfl, rfl⟩) | (go_at_call 13; refine (primeSqrt_no _ _ (by assumption)).mono ?_; rintro e w' ⟨rfl, rfl⟩))
    go_ret
    exact ⟨rfl, below_draws _ _⟩
set_option maxHeartbeats 1000000 in
theorem primeHolds_law (a0 : Int) (_ : (Lit.int .i64 a0).wf = true) (a1 : Int) (_ : (Lit.int .i64 a1).wf = true) (a2 : Int) (_ : (Lit.int .i64 a2).wf = true) (w : World) :
    Calls Try.prog 7 #[.int .i64 a0, .int .i64 a1, .int .i64 a2] w fun e w' => e = .returned (.bool true) ∧ Below w.heap.size w w' := by
  by_cases h0 : pOf a0 = 0
  · refine ph_core a0 a1 a2 w true (decide (pOf a1 = 0)) true ?_ ?_ ?_ ?_ (isSq_zero h0) (fun h => by cases h) ?_ (fun h => by cases h) (fun h => pRoot_mul (isSq_zero h0))
    · simp [h0]
    · simp [h0]
    · by_cases h1 : pOf a1 = 0 <;> simp [h1]
    · simp [pMul_zero_l a1 h0]
    · have := pPow_zero_ne h0 2024; simp [this]
  · have hsq := pPow_half_iff h0
    refine ph_core a0 a1 a2 w false (decide (pOf a1 = 0)) (isSq a0) ?_ ?_ ?_ ?_ rfl (fun _ => ?_) ?_ (fun _ => pMul_pInv h0) (fun h => pRoot_mul h)
    · simp [h0]
    · simp [h0]
    · by_cases h1 : pOf a1 = 0 <;> simp [h1]
    · by_cases h1 : pOf a1 = 0
      · simp [h1, pMul_zero_r a0 h1]
      · simp [h1, pMul_ne h0 h1]
    · simp [pPow_fermat h0]
    · cases hq : isSq a0
      · rw [hq] at hsq; simp at hsq; simp [hsq]
      · rw [hq] at hsq; simp at hsq; simp [hsq]
end Go.Proofs.Ytkcfblogfnpbnaa
