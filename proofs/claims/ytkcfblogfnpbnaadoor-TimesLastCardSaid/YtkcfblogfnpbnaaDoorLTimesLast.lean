/- The law TimesLast, walked: the order's last step is the turned one. -/
import Derived.Test.YtkcfblogfnpbnaaDoorWr
namespace Go.Proofs.YtkcfblogfnpbnaaDoor
open Go.RowKit
theorem sq_far_b (a : Int) : (sq a).far = decide (a % 4052 = 0) := by
  cases h : (sq a).far
  · symm; simp only [decide_eq_false_iff_not]; intro k; rw [sq_far.mpr k] at h; cases h
  · symm; simpa using sq_far.mp h
theorem ord_zero : ordOf 0 = 1 := by unfold ordOf; simp [sq_far_b]
theorem d2 (u : Int) : (u * 2) % 4052 = 0 ↔ u % 2026 = 0 := by omega
theorem d4 (u : Int) : (u * 4) % 4052 = 0 ↔ u % 1013 = 0 := by omega
theorem d1013 (u : Int) : (u * 1013) % 4052 = 0 ↔ u % 4 = 0 := by omega
theorem d2026 (u : Int) : (u * 2026) % 4052 = 0 ↔ u % 2 = 0 := by omega
theorem ord_cases (u : Int) : (ordOf u = 1 ∧ u % 4052 = 0) ∨ (ordOf u = 2 ∧ u % 4052 ≠ 0 ∧ u % 2026 = 0) ∨ (ordOf u = 4 ∧ u % 2026 ≠ 0 ∧ u % 1013 = 0) ∨ (ordOf u = 1013 ∧ u % 1013 ≠ 0 ∧ u % 4 = 0) ∨ (ordOf u = 2026 ∧ u % 1013 ≠ 0 ∧ u % 4 ≠ 0 ∧ u % 2 = 0) ∨ (ordOf u = 4052 ∧ u % 1013 ≠ 0 ∧ u % 2 ≠ 0) := by
  unfold ordOf
  simp only [sq_far_b, decide_eq_true_eq, Int.mul_one, d2, d4, d1013, d2026]
  by_cases h1 : u % 4052 = 0
  · rw [if_pos h1]; exact Or.inl ⟨rfl, h1⟩
  rw [if_neg h1]
  by_cases h2 : u % 2026 = 0
  · rw [if_pos h2]; exact Or.inr (Or.inl ⟨rfl, h1, h2⟩)
  rw [if_neg h2]
  by_cases h3 : u % 1013 = 0
  · rw [if_pos h3]; exact Or.inr (Or.inr (Or.inl ⟨rfl, h2, h3⟩))
  rw [if_neg h3]
  by_cases h4 : u % 4 = 0
  · rw [if_pos h4]; exact Or.inr (Or.inr (Or.inr (Or.inl ⟨rfl, h3, h4⟩)))
  rw [if_neg h4]
  by_cases h5 : u % 2 = 0
  · rw [if_pos h5]; exact Or.inr (Or.inr (Or.inr (Or.inr (Or.inl ⟨rfl, h3, h4, h5⟩))))
  rw [if_neg h5]
  exact Or.inr (Or.inr (Or.inr (Or.inr (Or.inr ⟨rfl, h3, h5⟩))))
set_option maxHeartbeats 2000000
theorem ord_bd (u : Int) : 1 ≤ ordOf u ∧ ordOf u ≤ 4052 := by
  rcases ord_cases u with h | h | h | h | h | h <;> omega
theorem ord_last (u : Int) : sq (u * (ordOf u - 1)) = sq (-u) := by
  rw [sq_eq_iff]
  rcases ord_cases u with h | h | h | h | h | h <;> (rw [h.1]; omega)
theorem ord_in (u : Int) : (sq (u * 1013)).far = ((ordOf u == 1) || (ordOf u == 1013)) := by
  rw [sq_far_b]
  simp only [d1013]
  rcases ord_cases u with h | h | h | h | h | h <;> rw [h.1] <;> simp <;> omega
theorem order_far (w : World) (hF : FarAt w) : Calls Tryd.prog 13 #[.agg #[.int .i64 0, .int .i64 0, .bool true]] w fun e w' => e = .returned (.tuple #[.int .i64 1, .nilIface]) ∧ Below w.heap.size w w' := by
  have h := timesOrder_ok 0 w hF
  rw [ord_zero, sq_zero] at h
  exact h
set_option maxHeartbeats 2000000 in
theorem tl_bad (s : Sp) (w : World) (hF : FarAt w) (h : sCheck s ≠ 0) : Calls Tryd.prog 6 #[spV s] w fun e w' => e = .returned (.bool true) ∧ Below w.heap.size w w' := by
  go_enter Tryd.func6, Tryd.ntmps6
  go_wp2_with fail
  refine (order_far _ (hF.below (below_alloc w _))).mono ?_; rintro e w1 ⟨rfl, hb⟩
  obtain ⟨hc, hf⟩ := bcell hb
  have s0 : w.heap.size < w1.heap.size := by have := hb.size; simp at this; omega
  have hbb := below_seq (below_alloc w _) hb
  clear hb
  go_wp2_with fail
  refine (timesOrder_bad s _ (hF.below hbb) h).mono ?_; rintro e w2 ⟨rfl, hb⟩
  have hb2 := below_seq hbb hb
  clear hb
  go_wp2
  go_ret
  exact ⟨rfl, hb2⟩
set_option maxHeartbeats 4000000 in
theorem tl_core (u K : Int) (N : Sp) (b1 b2 : Bool) (w : World) (hF : FarAt w) (h0 : 1 ≤ K) (h1 : K ≤ 4052) (hO : ordOf u = K) (hL : sq (u * (K - 1)) = N) (hN : sTurned (sq u) = N) (hM : sq (u * -1) = N)
    (k1 : (K == 1) = b1) (k2 : (K == 1013) = b2) (hI : (sq (u * 1013)).far = (b1 || b2)) : Calls Tryd.prog 6 #[spV (sq u)] w fun e w' => e = .returned (.bool true) ∧ Below w.heap.size w w' := by
  go_enter Tryd.func6, Tryd.ntmps6
  go_wp2_with fail
  refine (order_far _ (hF.below (below_alloc w _))).mono ?_; rintro e w1 ⟨rfl, hb⟩
  obtain ⟨hc1, hf1⟩ := bcell hb
  have s1 : w.heap.size < w1.heap.size := by have := hb.size; simp at this; omega
  have hB1 := below_seq (below_alloc w _) hb
  clear hb
  go_wp2_with fail
  refine (timesOrder_ok u _ (hF.below hB1)).mono ?_; rintro e w2 ⟨rfl, hb⟩
  rw [hO]
  obtain ⟨hc2, hf2⟩ := bcell hb
  have s2 : w.heap.size < w2.heap.size := by have := hb.size; omega
  have hB2 := below_seq hB1 hb
  clear hb
  go_wp2_with fail
  refine (timesTimes_ok u (K - 1) _ (hF.below hB2)).mono ?_; rintro e w3 ⟨rfl, hb⟩
  rw [hL]
  obtain ⟨hc3, hf3⟩ := bcell hb
  have s3 : w.heap.size < w3.heap.size := by have := hb.size; omega
  have t3 : w.heap.size < w3.heap.size + 1 := by omega
  have hB3 := below_seq hB2 hb
  clear hb
  go_wp2_with fail
  refine (neg_ok (sq u) _ (hF.below (balloc hB3 _)) (sq_ok u)).mono ?_; rintro e w4 ⟨rfl, hb⟩
  rw [hN]
  obtain ⟨hc4, hf4⟩ := bcell hb
  have s4 : w.heap.size < w4.heap.size := by have := hb.size; (try simp at this); omega
  have s4a : w3.heap.size < w4.heap.size := by have := hb.size; (try simp at this); omega
  have t4 : w.heap.size < w4.heap.size + 1 := by omega
  have t4a : w3.heap.size < w4.heap.size + 1 := by omega
  have hB4 := below_seq (balloc hB3 _) hb
  clear hb
  go_wp2_with fail
  refine (timesTimes_ok u (-1) _ (hF.below (balloc hB4 _))).mono ?_; rintro e w5 ⟨rfl, hb⟩
  rw [hM]
  obtain ⟨hc5, hf5⟩ := bcell hb
  have s5 : w.heap.size < w5.heap.size := by have := hb.size; (try simp at this); omega
  have s5a : w3.heap.size < w5.heap.size := by have := hb.size; (try simp at this); omega
  have s5b : w4.heap.size < w5.heap.size := by have := hb.size; (try simp at this); omega
  have t5 : w.heap.size < w5.heap.size + 1 := by omega
  have t5a : w3.heap.size < w5.heap.size + 1 := by omega
  have t5b : w4.heap.size < w5.heap.size + 1 := by omega
  have hB5 := below_seq (balloc hB4 _) hb
  clear hb
  go_wp2_with fail
  refine (timesIn_ok u _ (hF.below (balloc hB5 _))).mono ?_; rintro e w6 ⟨rfl, hb⟩
  rw [hI]
  obtain ⟨hc6, hf6⟩ := bcell hb
  have s6 : w.heap.size < w6.heap.size := by have := hb.size; (try simp at this); omega
  have s6a : w3.heap.size < w6.heap.size := by have := hb.size; (try simp at this); omega
  have s6b : w4.heap.size < w6.heap.size := by have := hb.size; (try simp at this); omega
  have s6c : w5.heap.size < w6.heap.size := by have := hb.size; (try simp at this); omega
  have hB6 := below_seq (balloc hB5 _) hb
  clear hb
  cases b1 <;> cases b2
  all_goals
    go_wp2
    go_ret
    exact ⟨rfl, hB6⟩
theorem timesLast_law (s : Sp) (w : World) (hF : FarAt w) : Calls Tryd.prog 6 #[spV s] w fun e w' => e = .returned (.bool true) ∧ Below w.heap.size w w' := by
  by_cases cs : sCheck s = 0
  case neg => exact tl_bad s w hF cs
  obtain ⟨u, -, -, rfl⟩ := sq_all ((ok_iff _).mp cs)
  exact tl_core u _ _ _ _ w hF (ord_bd u).1 (ord_bd u).2 rfl (ord_last u) (sq_neg u) (by congr 1; omega) rfl rfl (ord_in u)
end Go.Proofs.YtkcfblogfnpbnaaDoor
