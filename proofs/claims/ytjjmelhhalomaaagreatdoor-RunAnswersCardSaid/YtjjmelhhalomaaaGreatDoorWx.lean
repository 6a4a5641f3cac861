/- Contracts of layer curve: Check, Sum, Turned, in the words of Sp. -/
import Derived.Test.YtjjmelhhalomaaaGreatDoorWw
namespace Go.Proofs.YtjjmelhhalomaaaGreatDoor
open Go.RowKit
theorem inside_iff {n : Int} : inside n = true ↔ 0 ≤ n ∧ n < 4051 := by simp [inside]
theorem check_ok (s : Sp) (w : World) (hF : FarAt w) (h : Ok s) : Calls Tryz.prog 36 #[spV s] w fun e w' => e = .returned .nilIface ∧ Below w.heap.size w w' := by
  have hx := inside_iff.mpr ⟨h.x0, h.x1⟩
  have hy := inside_iff.mpr ⟨h.y0, h.y1⟩
  obtain ⟨x, y, f⟩ := s
  cases f
  · have hon : pMul y y = height x := by
      refine fi_inj (r_pMul _ _) (r_pAdd _ _) ?_
      rw [fi_pMul, fi_height]; exact h.on rfl
    exact check_g x y w hF hx hy (by simp [hon])
  · have := h.far rfl
    simp only at this
    obtain ⟨rfl, rfl⟩ := this
    exact check_e w hF
theorem check_bad (s : Sp) (w : World) (hF : FarAt w) (h : sCheck s ≠ 0) : Calls Tryz.prog 36 #[spV s] w fun e w' => e = .returned (.iface 84 (.int .i64 (sCheck s))) ∧ Below w.heap.size w w' := by
  obtain ⟨x, y, f⟩ := s
  have hs : sCheck ⟨x, y, f⟩ = if (!inside x || !inside y) || (f && !Sp.beq ⟨x, y, f⟩ sFar) then 1 else if !f && decide (pMul y y ≠ height x) then 3 else 0 := rfl
  cases hx : inside x
  · rw [hs, hx]; exact check_a x y f w hF hx
  · cases hy : inside y
    · rw [hs, hx, hy]; exact check_b x y f w hF hx hy
    · cases f
      · by_cases hon : pMul y y = height x
        · exfalso; apply h; rw [hs, hx, hy]; simp [hon]
        · rw [hs, hx, hy]; simp only [Bool.not_true, Bool.or_self, Bool.false_and, Bool.false_eq_true, if_false, Bool.not_false, Bool.true_and, ne_eq, hon, not_false_eq_true, decide_true, if_true]
          exact check_f x y w hF hx hy (by simpa using hon)
      · by_cases h0 : x = 0
        · by_cases h1 : y = 0
          · exfalso; apply h; rw [hs, hx, hy, h0, h1]; rfl
          · have : Sp.beq ⟨x, y, true⟩ sFar = false := by simp [Sp.beq, sFar, h1]
            rw [hs, hx, hy, this]; exact check_d x y w hF hx hy h0 h1
        · have : Sp.beq ⟨x, y, true⟩ sFar = false := by simp [Sp.beq, sFar, h0]
          rw [hs, hx, hy, this]; exact check_c x y w hF hx hy h0
theorem turned_k (s : Sp) (w : World) (h : Ok s) : Calls Tryz.prog 48 #[spV s] w fun e w' => e = .returned (spV (sTurned s)) ∧ Below w.heap.size w w' :=
  turned_c s.x s.y s.far w h.y0 h.y1
theorem sum_k (a b : Sp) (w : World) (hF : FarAt w) (ha : Ok a) (hb : Ok b) : Calls Tryz.prog 47 #[spV a, spV b] w fun e w' => e = .returned (spV (sSum a b)) ∧ Below w.heap.size w w' := by
  have x0 := ha.x0; have x1 := ha.x1; have y0 := ha.y0; have y1 := ha.y1; have u0 := hb.x0; have u1 := hb.x1
  obtain ⟨x, y, f⟩ := a
  obtain ⟨u, v, g⟩ := b
  simp only at x0 x1 y0 y1 u0 u1
  cases f
  · cases g
    · by_cases hx : x ≠ u
      · have hs : sSum ⟨x, y, false⟩ ⟨u, v, false⟩ = sThird ⟨x, y, false⟩ ⟨u, v, false⟩ (pMul (pSub y v) (pInv (pSub x u))) := by simp [sSum, sSlope, hx]
        rw [hs]; exact sum_unlike x y u v w hF (by simpa using hx) x0 x1 u0 u1
      · have hx' : x = u := Decidable.of_not_not hx
        by_cases hy : y ≠ v
        · have hs : sSum ⟨x, y, false⟩ ⟨u, v, false⟩ = sFar := by simp [sSum, sSlope, hx', hy]
          rw [hs]; exact sum_up1 x y u v w hF (by simpa using hx') (by simpa using hy)
        · have hy' : y = v := Decidable.of_not_not hy
          by_cases hz : y = 0
          · have hs : sSum ⟨x, y, false⟩ ⟨u, v, false⟩ = sFar := by simp [sSum, sSlope, hx', hz]
            rw [hs]; exact sum_up2 x y u v w hF (by simpa using hx') (by simpa using hy') (by simpa using hz)
          · have hs : sSum ⟨x, y, false⟩ ⟨u, v, false⟩ = sThird ⟨x, y, false⟩ ⟨u, v, false⟩ (pMul (pMul 3 (pMul x x) + 1) (pInv (2 * y))) := by
              have hz' : ¬ v = 0 := fun e => hz (hy'.trans e)
              simp [sSum, sSlope, hx', hy', hz']
            rw [hs]; exact sum_same x y u v w hF (by simpa using hx') (by simpa using hy') (by simpa using hz) y0 y1 x0 x1 u0 u1
    · exact sum_farr x y u v w hF
  · exact sum_farl x y u v g w hF

end Go.Proofs.YtjjmelhhalomaaaGreatDoor
