/- The law TwinPowers, walked: powers add. -/
import Derived.Test.YtkcfblogfnpbnaaWu
namespace Go.Proofs.Ytkcfblogfnpbnaa
open Go.RowKit
attribute [local go_sem] zi_fz
set_option maxHeartbeats 1000000 in
theorem twinPowers_law (a b : Int) (_ : (Lit.int .i64 a).wf = true) (_ : (Lit.int .i64 b).wf = true) (n : Int) (_ : (Lit.int .i64 n).wf = true) (m : Int) (_ : (Lit.int .i64 m).wf = true) (w : World) :
    Calls Try.prog 6 #[.agg #[.int .i64 a, .int .i64 b], .int .i64 n, .int .i64 m] w fun e w' => e = .returned (.bool true) ∧ Below w.heap.size w w' := by
  go_enter Try.func6, Try.ntmps6
  go_wp2_with fail
  refine (twinPow_ok _ _ _ _ (by decide) (by decide)).mono ?_; rintro e w1 ⟨rfl, hb1⟩
  rw [zi_two]
  obtain ⟨hc1, hf1⟩ := bcell hb1
  have hs1 : w.heap.size < w1.heap.size := by have := hb1.size; simp at this; omega
  by_cases hn : 0 ≤ n ∧ n ≤ 1000000
  · obtain ⟨hn1, hn2⟩ := hn
    by_cases hm : 0 ≤ m ∧ m ≤ 1000000
    · obtain ⟨hm1, hm2⟩ := hm
      go_wp2_with fail
      refine (twinPow_ok _ _ _ _ hn1 (by omega)).mono ?_; rintro e w2 ⟨rfl, hb2⟩
      obtain ⟨hc2, hf2⟩ := bcell hb2
      have hs2 : w1.heap.size < w2.heap.size := by have := hb2.size; simp at this; omega
      have hs2' : w.heap.size < w2.heap.size := by omega
      go_wp2_with fail
      refine (twinPow_ok _ _ _ _ hm1 (by omega)).mono ?_; rintro e w3 ⟨rfl, hb3⟩
      obtain ⟨hc3, hf3⟩ := bcell hb3
      have hs3 : w2.heap.size < w3.heap.size := by have := hb3.size; simp at this; omega
      have hs3' : w1.heap.size < w3.heap.size := by omega
      have hs3'' : w.heap.size < w3.heap.size := by omega
      go_wp2_with fail
      refine (twinPow_ok _ _ _ _ (by omega) (by omega)).mono ?_; rintro e w4 ⟨rfl, hb4⟩
      obtain ⟨hc4, hf4⟩ := bcell hb4
      have hs4 : w3.heap.size < w4.heap.size := by have := hb4.size; simp at this; omega
      have hs4' : w2.heap.size < w4.heap.size := by omega
      go_wp2_with fail
      have heq : ((zi a b).pow n.toNat).mul ((zi a b).pow m.toNat) = (zi a b).pow (n + m).toNat := by rw [← Z.pow_add]; congr 1; omega
      have hx2 : w2.heap.size < w4.heap.size + 1 := by omega
      have hx3 : w3.heap.size < w4.heap.size + 1 := by omega
      refine wp_region_grow Try.mixed (by kernel_rfl) ?_
      repeat (quiet_step (first | (go_at_call 17; exact grow_of (twinMul_c _ _ _ _ _))))
      refine wpQuiet_nil ?_
      intro _ hw'
      obtain ⟨x, rfl⟩ := hw'
      go_wp2
      go_ret
      exact ⟨rfl, below_seq (balloc (below_seq (balloc (below_seq (balloc (below_seq (balloc (below_seq (below_alloc _ _) hb1) _) hb2) _) hb3) _) hb4) _) x.h⟩
    · have hm' : m < 0 ∨ 1000000 < m := by omega
      rcases hm' with hm' | hm'
      all_goals
        go_wp2
        go_ret
        exact ⟨rfl, balloc (below_seq (below_alloc _ _) hb1) _⟩
  · have hn' : n < 0 ∨ 1000000 < n := by omega
    rcases hn' with hn' | hn'
    · go_wp2
      go_ret
      exact ⟨rfl, balloc (below_seq (below_alloc _ _) hb1) _⟩
    · by_cases hm' : m < 0
      all_goals
        go_wp2
        go_ret
        exact ⟨rfl, balloc (below_seq (below_alloc _ _) hb1) _⟩
end Go.Proofs.Ytkcfblogfnpbnaa
