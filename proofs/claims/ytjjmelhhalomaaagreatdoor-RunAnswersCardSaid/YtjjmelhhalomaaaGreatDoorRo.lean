/- Walks of the document's answer: Order, In. -/
import Derived.Laws.Entries
import Derived.Test.YtjjmelhhalomaaaGreatDoorRd
import Derived.Test.YtjjmelhhalomaaaGreatDoorWr
import Derived.Test.YtjjmelhhalomaaaGreatDoorKe
import Derived.Test.YtjjmelhhalomaaaGreatDoorTn
namespace Go.Proofs.YtjjmelhhalomaaaGreatDoor
open Go.RowKit
set_option maxRecDepth 100000
set_option linter.unusedVariables false
set_option linter.unusedSimpArgs false
theorem ord_dvd {u n : Int} (d : Int) (h1 : 1 ≤ n) (hn : (sq (u * n)).far = true) (hm : ∀ j : Int, 1 ≤ j → j < n → (sq (u * j)).far = false) : (sq (u * d)).far = true ↔ d % n = 0 := by
  have a := sq_far.mp hn
  constructor
  · intro h
    have b := sq_far.mp h
    by_cases e : d % n = 0
    · exact e
    · exfalso
      have r0 : 0 ≤ d % n := Int.emod_nonneg _ (by omega)
      have r1 : d % n < n := Int.emod_lt_of_pos _ (by omega)
      have k := hm (d % n) (by omega) r1
      have e3 : (u * (d % n)) % 4052 = 0 := by
        have e2 : u * (d % n) = u * d - u * n * (d / n) := by rw [Int.emod_def, Int.mul_sub, Int.mul_assoc]
        obtain ⟨x, hx⟩ := Int.dvd_of_emod_eq_zero a
        obtain ⟨y, hy⟩ := Int.dvd_of_emod_eq_zero b
        rw [e2, hx, hy, Int.mul_assoc, ← Int.mul_sub]; exact Int.mul_emod_right _ _
      rw [sq_far.mpr e3] at k; exact Bool.noConfusion k
  · intro h
    apply sq_far.mpr
    obtain ⟨x, hx⟩ := Int.dvd_of_emod_eq_zero a
    obtain ⟨y, hy⟩ := Int.dvd_of_emod_eq_zero h
    rw [hy, ← Int.mul_assoc, hx, Int.mul_assoc]; exact Int.mul_emod_right _ _
def dNat (m : Nat) : Bool := 4052 % m != 0 || m == 1 || m == 2 || m == 4 || m == 1013 || m == 2026 || m == 4052
theorem d_0 : allB dNat 0 2000 = true := by decide +kernel
theorem d_1 : allB dNat 2000 2053 = true := by decide +kernel
theorem div_52 {n : Int} (h1 : 1 ≤ n) (h : 4052 % n = 0) : n = 1 ∨ n = 2 ∨ n = 4 ∨ n = 1013 ∨ n = 2026 ∨ n = 4052 := by
  have hd : n ≤ 4052 := Int.le_of_dvd (by decide) (Int.dvd_of_emod_eq_zero h)
  have key : dNat n.toNat = true := by
    by_cases c : n < 2000
    · exact allB_at dNat 0 2000 d_0 n.toNat (by omega) (by omega)
    · exact allB_at dNat 2000 2053 d_1 n.toNat (by omega) (by omega)
  have hz : (4052 % n.toNat : Nat) = 0 := by
    have : ((4052 % n.toNat : Nat) : Int) = 0 := by rw [Int.natCast_emod, Int.toNat_of_nonneg (by omega)]; exact h
    omega
  unfold dNat at key
  rw [hz] at key
  simp at key
  omega
theorem ord_is {u n : Int} (h1 : 1 ≤ n) (hn : (sq (u * n)).far = true) (hm : ∀ j : Int, 1 ≤ j → j < n → (sq (u * j)).far = false) : n = ordOf u := by
  have dv := fun d => ord_dvd (u := u) d h1 hn hm
  have full : (sq (u * 4052)).far = true := sq_far.mpr (Int.mul_emod_left _ _)
  have six := div_52 h1 ((dv 4052).mp full)
  unfold ordOf
  simp only [dv]
  rcases six with rfl | rfl | rfl | rfl | rfl | rfl <;> decide
set_option maxHeartbeats 2000000 in
theorem refOrder_c (u : Int) (w : World) : Calls Tryz.prog 70 #[spV (sq u)] w fun e w' => e = .returned (.int .i64 (ordOf u)) ∧ Below w.heap.size w w' := by
  go_enter Tryz.func70, Tryz.ntmps70
  go_wp2
  go_loopw [4] (fun n wr => ∃ k : Int, 1 ≤ k ∧ k ≤ 4052 ∧ n = .int .i64 k ∧ SpAt wr w.heap.size (sq u) ∧ SpAt wr (w.heap.size + 1) (sq (u * k)) ∧ (∀ j : Int, 1 ≤ j → j < k → (sq (u * j)).far = false) ∧ Below w.heap.size w wr) (fun n _ => (4053 - intOf n).toNat)
  case atStart => exact ⟨1, by omega, by omega, rfl, (SpAt.fresh _ _ _ _ _).alloc _, by rw [Int.mul_one]; exact SpAt.fresh1 _ _ _ _ _ _, fun j h1 h2 => absurd h2 (by omega), balloc (below_alloc _ _) _⟩
  case round =>
    obtain ⟨k, h0, h1, rfl, hs, ht, hm, hB⟩ := hrel
    have hm' := Lib.hid hm
    clear hm
    have hu : Hid (sSum (sq (u * k)) (sq u) = sq (u * (k + 1))) := by show _ = _; rw [sq_add]; congr 1; rw [Int.mul_add, Int.mul_one]
    have hk : (sq (u * k)).far = false → k ≤ 4051 := fun h => by
      by_cases c : k = 4052
      · subst c; rw [sq_far.mpr (Int.mul_emod_left _ _)] at h; exact Bool.noConfusion h
      · omega
    have hk' := Lib.hid hk
    clear hk
    obtain ⟨s0, s1, s2, fs0, fs1, fs2, sl⟩ := hs
    have ht' := ht
    obtain ⟨t0, t1, t2, ft0, ft1, ft2, tl⟩ := ht
    cases hf : (sq (u * k)).far
    · have h2 := hk'.out hf
      replace hk' := Lib.hid hf
      rw [hf] at t2
      clear hf
      go_wp2_with fail
      refine (refAdd_e ⟨(sq (u * k)).x, (sq (u * k)).y, false⟩ (sq u) (sq (u * (k + 1))) _ ?oa (sq_ok _) ?oh).mono ?_
      case oa => rw [← hk'.out]; exact sq_ok _
      case oh => rw [← hk'.out]; exact hu
      rintro e w1 ⟨rfl, hb⟩
      have hs1 := SpAt.below ⟨s0, s1, s2, fs0, fs1, fs2, sl⟩ hb
      have ht1 := ht'.below hb
      have hB1 := below_seq hB hb
      have hsz := hb.size
      have ht2 := ht1
      obtain ⟨v0, v1, v2, fv0, fv1, fv2, vl⟩ := ht2
      clear hb ht' t0 t1 t2 ft0 ft1 ft2 s0 s1 s2 fs0 fs1 fs2
      go_wp2
      go_roundw
      case rel => exact ⟨k + 1, by omega, by omega, rfl, hs1.set3o (by omega) _ _ _, ht1.set3 _, fun j h1 h2 => by
        by_cases c : j = k
        · rw [c]; exact hk'.out
        · exact hm'.out j h1 (by omega), set3_below hB1 (by omega)⟩
      case measure => simp [intOf]; omega
    · rw [hf] at t2
      replace hf := Lib.hid hf
      go_wp2
      go_ret
      exact ⟨ret_int (ord_is h0 hf.out hm'.out), hB⟩
theorem refOrder_e (a : Sp) (u O : Int) (w : World) (ha : Hid (a = sq u)) (h : Hid (ordOf u = O)) : Calls Tryz.prog 70 #[spV a] w fun e w' => e = .returned (.int .i64 O) ∧ Below w.heap.size w w' := by
  have := refOrder_c u w; rw [h.out, ← ha.out] at this; exact this
theorem refBase_k (w : World) : Calls Tryz.prog 112 #[] w fun e w' => e = .returned (spV ⟨1189, 3667, false⟩) ∧ Below w.heap.size w w' := by
  have := refBase_c w; rw [sq_4] at this; exact this
end Go.Proofs.YtjjmelhhalomaaaGreatDoor
