/- The law TwinTells: the walk, and what its numbers are. -/
import Derived.Test.YtopcdihgkojjlaaDoorLTwinTellsA
namespace Go.Proofs.YtopcdihgkojjlaaDoor
open Go.RowKit
set_option maxRecDepth 100000
set_option linter.unusedVariables false
set_option linter.unusedSimpArgs false
theorem fz_is {v : Int} {x : F} (h : fi v = x) (h0 : 0 ≤ v) (h1 : v < 4051) : v = fz x := fi_inj ⟨h0, h1⟩ (fz_lt x) (by rw [fi_fz, h])
theorem fz_tmod {v : Int} {x : F} (h0 : 0 ≤ v) (h : fi v = x) : fz x = v.tmod 4051 := by
  rw [Int.tmod_eq_emod_of_nonneg h0]
  exact (fz_is (by rw [fi_mod, h]) (Int.emod_nonneg _ (by decide)) (Int.emod_lt_of_pos _ (by decide))).symm
theorem fz_emod {v : Int} {x : F} (h : fi v = x) : fz x = v % 4051 :=
  (fz_is (by rw [fi_mod, h]) (Int.emod_nonneg _ (by decide)) (Int.emod_lt_of_pos _ (by decide))).symm
theorem twinTells_law (a b : Int) (ha : (Lit.int .i64 a).wf = true) (hb : (Lit.int .i64 b).wf = true) (c d : Int) (hc : (Lit.int .i64 c).wf = true) (hd : (Lit.int .i64 d).wf = true) (n : Int) (hn : (Lit.int .i64 n).wf = true) (w : World) (hL : ErrAt w) : Calls Tryd.prog 3 #[.agg #[.int .i64 a, .int .i64 b], .agg #[.int .i64 c, .int .i64 d], .int .i64 n] w fun e w' => e = .returned (.bool true) ∧ Below w.heap.size w w' := by
  have a2 := wf64 ha; have b2 := wf64 hb; have c2 := wf64 hc; have d2 := wf64 hd; have n2 := wf64 hn
  have hp := fz_lt (zi a b).re; have hq := fz_lt (zi a b).im; have hr := fz_lt (zi c d).re; have hs := fz_lt (zi c d).im; have hC := fz_lt (zi a b).conj.im
  have m1 := mul_bd hp hp; have m2 := mul_bd hq hq
  have eN : fz (zi a b).norm = (fz (zi a b).re * fz (zi a b).re + fz (zi a b).im * fz (zi a b).im) % 4051 := fz_emod (by rw [fi_add, fi_mul, fi_mul, fi_fz, fi_fz]; rfl)
  have hN := fz_lt (zi a b).norm
  have eO : pOf (fz (zi a b).norm) = fz (zi a b).norm := Int.emod_eq_of_lt hN.1 hN.2
  refine tw_all a b c d n (fz (zi a b).re) (fz (zi a b).im) (fz (zi c d).re) (fz (zi c d).im) (fz (zi a b).conj.im) (fz ((zi a b).mul (zi c d)).re) (fz ((zi a b).mul (zi c d)).im) w hL a2.1 a2.2 b2.1 b2.2 c2.1 c2.2 d2.1 d2.2 n2.1 n2.2 hp.1 hp.2 hq.1 hq.2 hr.1 hr.2 hs.1 hs.2 hC.1 hC.2 m1.1 m1.2 m2.1 m2.2
    (zof_re a b) (zof_im a b) (zof_re c d) (zof_im c d) (fz_emod (by rw [fi_neg, fi_fz]; rfl)).symm (fun w => twinOf_c a b w) (fun w => ?_) (fun w => twinMul_c a b c d w) (fun w => refTwinMul_c _ _ w) (fun w => twinConj_c a b w) (fun w => ?_) ?_ ?_
  · have := twinAdd_c a b c d w
    rw [show twR ((zi a b).add (zi c d)) = .agg #[.int .i64 ((fz (zi a b).re + fz (zi c d).re).tmod 4051), .int .i64 ((fz (zi a b).im + fz (zi c d).im).tmod 4051)] by
      unfold twR
      rw [fz_tmod (x := ((zi a b).add (zi c d)).re) (v := fz (zi a b).re + fz (zi c d).re) (by omega) (by rw [fi_add, fi_fz, fi_fz]; rfl), fz_tmod (x := ((zi a b).add (zi c d)).im) (v := fz (zi a b).im + fz (zi c d).im) (by omega) (by rw [fi_add, fi_fz, fi_fz]; rfl)]] at this
    exact this
  · have := twinNorm_c a b w; rw [eN] at this; exact this
  · show _ ∨ _
    rw [← eN]
    cases h0 : (pOf (fz (zi a b).norm) == 0)
    · right
      have T := r_pInv (fz (zi a b).norm)
      have m3 := mul_bd hp T; have m4 := mul_bd hC T
      refine ⟨pInv (fz (zi a b).norm), by rw [← eO]; exact h0, T.1, T.2, m3.1, m3.2, m4.1, m4.2, fun w => ?_, fun w => ?_⟩
      · refine refTurn_p _ w ?_ hN.2
        have : fz (zi a b).norm ≠ 0 := fun e => by rw [eO, e] at h0; exact Bool.noConfusion h0
        omega
      · have := twinInv_some a b w h0
        rw [show twR ((zi a b).conj.mul (zi (pInv (fz (zi a b).norm)) 0)) = .agg #[.int .i64 (fz (zi a b).re * pInv (fz (zi a b).norm) % 4051), .int .i64 (fz (zi a b).conj.im * pInv (fz (zi a b).norm) % 4051)] by
          unfold twR
          rw [fz_emod (v := fz (zi a b).re * pInv (fz (zi a b).norm)) (x := ((zi a b).conj.mul (zi (pInv (fz (zi a b).norm)) 0)).re) (by rw [fi_mul, fi_fz]; show _ = (zi a b).re * fi _ - (zi a b).conj.im * fi 0; rw [fi_zero]; grobner), fz_emod (v := fz (zi a b).conj.im * pInv (fz (zi a b).norm)) (x := ((zi a b).conj.mul (zi (pInv (fz (zi a b).norm)) 0)).im) (by rw [fi_mul, fi_fz]; show _ = (zi a b).re * fi 0 + (zi a b).conj.im * fi _; rw [fi_zero]; grobner)]] at this
        exact this
    · left
      exact ⟨by rw [← eO]; exact h0, fun w => twinInv_none a b w h0⟩
  · show _ ∨ _
    by_cases h : n < 0
    · left; exact ⟨h, fun w => twinPow_bad a b n w h⟩
    · right; exact ⟨by omega, _, _, fun w => refTwinPower_e (zi a b) _ n w (by omega) n2.2 rfl, fun w => twinPow_ok a b n w (by omega) n2.2⟩
end Go.Proofs.YtopcdihgkojjlaaDoor
