/- The law CurveHolds, walked: the spots are a group. (Printed by gen_ch.py.) -/
import Derived.Test.YtkcfblogfnpbnaaDoorWz
import Derived.Test.YtkcfblogfnpbnaaDoorCyc
namespace Go.Proofs.YtkcfblogfnpbnaaDoor
open Go.RowKit
theorem zero_ok : Ok ⟨0, 0, false⟩ := (ok_iff _).mp (by decide)
theorem zero_two : sSum ⟨0, 0, false⟩ ⟨0, 0, false⟩ = ⟨0, 0, true⟩ := by simp [sSum, sSlope, sFar]
theorem far_ok : Ok ⟨0, 0, true⟩ := ok_far

set_option maxHeartbeats 4000000 in
theorem ch_a (a b c : Sp) (w : World) (hF : FarAt w) (h : sCheck a ≠ 0) :
    Calls Tryd.prog 4 #[spV a, spV b, spV c] w fun e w' => e = .returned (.bool true) ∧ Below w.heap.size w w' := by
  have z1 := zero_ok
  have z2 := far_ok
  go_enter Tryd.func4, Tryd.ntmps4
  go_wp2_with fail
  refine (add_ok ⟨0, 0, false⟩ ⟨0, 0, false⟩ _ (hF.below (balloc (balloc (below_alloc w _) _) _)) z1 z1).mono ?_; rintro e w1 ⟨rfl, hb⟩
  rw [zero_two]
  obtain ⟨hc1, hf1⟩ := bcell hb
  have s1_0 : w.heap.size < w1.heap.size := by have := hb.size; (try simp at this); omega
  have s1_1 : w.heap.size + 1 < w1.heap.size := by have := hb.size; (try simp at this); omega
  have s1_2 : w.heap.size + 1 + 1 < w1.heap.size := by have := hb.size; (try simp at this); omega
  have hB1 := below_seq (balloc (balloc (below_alloc w _) _) _) hb
  clear hb
  have t1_0 : w.heap.size < w1.heap.size + 1 := by omega
  have t1_1 : w.heap.size + 1 < w1.heap.size + 1 := by omega
  have t1_2 : w.heap.size + 1 + 1 < w1.heap.size + 1 := by omega
  go_wp2_with fail
  refine (add_bad1 a b _ (hF.below (balloc hB1 _)) h).mono ?_; rintro e w2 ⟨rfl, hb⟩
  obtain ⟨hc2, hf2⟩ := bcell hb
  have s2_0 : w.heap.size < w2.heap.size := by have := hb.size; (try simp at this); omega
  have s2_1 : w.heap.size + 1 < w2.heap.size := by have := hb.size; (try simp at this); omega
  have s2_2 : w.heap.size + 1 + 1 < w2.heap.size := by have := hb.size; (try simp at this); omega
  have s2_3 : w1.heap.size < w2.heap.size := by have := hb.size; (try simp at this); omega
  have hB2 := below_seq (balloc hB1 _) hb
  clear hb
  have t2_0 : w.heap.size < w2.heap.size + 1 := by omega
  have t2_1 : w.heap.size + 1 < w2.heap.size + 1 := by omega
  have t2_2 : w.heap.size + 1 + 1 < w2.heap.size + 1 := by omega
  have t2_3 : w1.heap.size < w2.heap.size + 1 := by omega
  go_wp2
  go_ret
  exact ⟨rfl, by first | exact (balloc hB2 _) | exact Below.refl _ _⟩
set_option maxHeartbeats 4000000 in
theorem ch_b (a b c : Sp) (w : World) (hF : FarAt w) (ha : Ok a) (h : sCheck b ≠ 0) :
    Calls Tryd.prog 4 #[spV a, spV b, spV c] w fun e w' => e = .returned (.bool true) ∧ Below w.heap.size w w' := by
  have z1 := zero_ok
  have z2 := far_ok
  go_enter Tryd.func4, Tryd.ntmps4
  go_wp2_with fail
  refine (add_ok ⟨0, 0, false⟩ ⟨0, 0, false⟩ _ (hF.below (balloc (balloc (below_alloc w _) _) _)) z1 z1).mono ?_; rintro e w1 ⟨rfl, hb⟩
  rw [zero_two]
  obtain ⟨hc1, hf1⟩ := bcell hb
  have s1_0 : w.heap.size < w1.heap.size := by have := hb.size; (try simp at this); omega
  have s1_1 : w.heap.size + 1 < w1.heap.size := by have := hb.size; (try simp at this); omega
  have s1_2 : w.heap.size + 1 + 1 < w1.heap.size := by have := hb.size; (try simp at this); omega
  have hB1 := below_seq (balloc (balloc (below_alloc w _) _) _) hb
  clear hb
  have t1_0 : w.heap.size < w1.heap.size + 1 := by omega
  have t1_1 : w.heap.size + 1 < w1.heap.size + 1 := by omega
  have t1_2 : w.heap.size + 1 + 1 < w1.heap.size + 1 := by omega
  go_wp2_with fail
  refine (add_bad2 a b _ (hF.below (balloc hB1 _)) ha h).mono ?_; rintro e w2 ⟨rfl, hb⟩
  obtain ⟨hc2, hf2⟩ := bcell hb
  have s2_0 : w.heap.size < w2.heap.size := by have := hb.size; (try simp at this); omega
  have s2_1 : w.heap.size + 1 < w2.heap.size := by have := hb.size; (try simp at this); omega
  have s2_2 : w.heap.size + 1 + 1 < w2.heap.size := by have := hb.size; (try simp at this); omega
  have s2_3 : w1.heap.size < w2.heap.size := by have := hb.size; (try simp at this); omega
  have hB2 := below_seq (balloc hB1 _) hb
  clear hb
  have t2_0 : w.heap.size < w2.heap.size + 1 := by omega
  have t2_1 : w.heap.size + 1 < w2.heap.size + 1 := by omega
  have t2_2 : w.heap.size + 1 + 1 < w2.heap.size + 1 := by omega
  have t2_3 : w1.heap.size < w2.heap.size + 1 := by omega
  go_wp2
  go_ret
  exact ⟨rfl, by first | exact (balloc hB2 _) | exact Below.refl _ _⟩
set_option maxHeartbeats 4000000 in
theorem ch_c (a b c S N : Sp) (w : World) (hF : FarAt w) (ha : Ok a) (hb0 : Ok b) (hS : Ok S) (hN : Ok N) (h1 : sSum a b = S) (h2 : sSum b a = S) (h3 : sTurned a = N) (h4 : sSum a N = ⟨0, 0, true⟩) (h5 : sSum a ⟨0, 0, true⟩ = a) (h6 : sSum S N = b) (h : sCheck c ≠ 0) :
    Calls Tryd.prog 4 #[spV a, spV b, spV c] w fun e w' => e = .returned (.bool true) ∧ Below w.heap.size w w' := by
  have z1 := zero_ok
  have z2 := far_ok
  go_enter Tryd.func4, Tryd.ntmps4
  go_wp2_with fail
  refine (add_ok ⟨0, 0, false⟩ ⟨0, 0, false⟩ _ (hF.below (balloc (balloc (below_alloc w _) _) _)) z1 z1).mono ?_; rintro e w1 ⟨rfl, hb⟩
  rw [zero_two]
  obtain ⟨hc1, hf1⟩ := bcell hb
  have s1_0 : w.heap.size < w1.heap.size := by have := hb.size; (try simp at this); omega
  have s1_1 : w.heap.size + 1 < w1.heap.size := by have := hb.size; (try simp at this); omega
  have s1_2 : w.heap.size + 1 + 1 < w1.heap.size := by have := hb.size; (try simp at this); omega
  have hB1 := below_seq (balloc (balloc (below_alloc w _) _) _) hb
  clear hb
  have t1_0 : w.heap.size < w1.heap.size + 1 := by omega
  have t1_1 : w.heap.size + 1 < w1.heap.size + 1 := by omega
  have t1_2 : w.heap.size + 1 + 1 < w1.heap.size + 1 := by omega
  go_wp2_with fail
  refine (add_ok a b _ (hF.below (balloc hB1 _)) ha hb0).mono ?_; rintro e w2 ⟨rfl, hb⟩
  rw [h1]
  obtain ⟨hc2, hf2⟩ := bcell hb
  have s2_0 : w.heap.size < w2.heap.size := by have := hb.size; (try simp at this); omega
  have s2_1 : w.heap.size + 1 < w2.heap.size := by have := hb.size; (try simp at this); omega
  have s2_2 : w.heap.size + 1 + 1 < w2.heap.size := by have := hb.size; (try simp at this); omega
  have s2_3 : w1.heap.size < w2.heap.size := by have := hb.size; (try simp at this); omega
  have hB2 := below_seq (balloc hB1 _) hb
  clear hb
  have t2_0 : w.heap.size < w2.heap.size + 1 := by omega
  have t2_1 : w.heap.size + 1 < w2.heap.size + 1 := by omega
  have t2_2 : w.heap.size + 1 + 1 < w2.heap.size + 1 := by omega
  have t2_3 : w1.heap.size < w2.heap.size + 1 := by omega
  go_wp2_with fail
  refine (add_ok b a _ (hF.below (balloc hB2 _)) hb0 ha).mono ?_; rintro e w3 ⟨rfl, hb⟩
  rw [h2]
  obtain ⟨hc3, hf3⟩ := bcell hb
  have s3_0 : w.heap.size < w3.heap.size := by have := hb.size; (try simp at this); omega
  have s3_1 : w.heap.size + 1 < w3.heap.size := by have := hb.size; (try simp at this); omega
  have s3_2 : w.heap.size + 1 + 1 < w3.heap.size := by have := hb.size; (try simp at this); omega
  have s3_3 : w1.heap.size < w3.heap.size := by have := hb.size; (try simp at this); omega
  have s3_4 : w2.heap.size < w3.heap.size := by have := hb.size; (try simp at this); omega
  have hB3 := below_seq (balloc hB2 _) hb
  clear hb
  have t3_0 : w.heap.size < w3.heap.size + 1 := by omega
  have t3_1 : w.heap.size + 1 < w3.heap.size + 1 := by omega
  have t3_2 : w.heap.size + 1 + 1 < w3.heap.size + 1 := by omega
  have t3_3 : w1.heap.size < w3.heap.size + 1 := by omega
  have t3_4 : w2.heap.size < w3.heap.size + 1 := by omega
  go_wp2_with fail
  refine (neg_ok a _ (hF.below (balloc hB3 _)) ha).mono ?_; rintro e w4 ⟨rfl, hb⟩
  rw [h3]
  obtain ⟨hc4, hf4⟩ := bcell hb
  have s4_0 : w.heap.size < w4.heap.size := by have := hb.size; (try simp at this); omega
  have s4_1 : w.heap.size + 1 < w4.heap.size := by have := hb.size; (try simp at this); omega
  have s4_2 : w.heap.size + 1 + 1 < w4.heap.size := by have := hb.size; (try simp at this); omega
  have s4_3 : w1.heap.size < w4.heap.size := by have := hb.size; (try simp at this); omega
  have s4_4 : w2.heap.size < w4.heap.size := by have := hb.size; (try simp at this); omega
  have s4_5 : w3.heap.size < w4.heap.size := by have := hb.size; (try simp at this); omega
  have hB4 := below_seq (balloc hB3 _) hb
  clear hb
  have t4_0 : w.heap.size < w4.heap.size + 1 := by omega
  have t4_1 : w.heap.size + 1 < w4.heap.size + 1 := by omega
  have t4_2 : w.heap.size + 1 + 1 < w4.heap.size + 1 := by omega
  have t4_3 : w1.heap.size < w4.heap.size + 1 := by omega
  have t4_4 : w2.heap.size < w4.heap.size + 1 := by omega
  have t4_5 : w3.heap.size < w4.heap.size + 1 := by omega
  go_wp2_with fail
  refine (add_ok a N _ (hF.below (balloc hB4 _)) ha hN).mono ?_; rintro e w5 ⟨rfl, hb⟩
  rw [h4]
  obtain ⟨hc5, hf5⟩ := bcell hb
  have s5_0 : w.heap.size < w5.heap.size := by have := hb.size; (try simp at this); omega
  have s5_1 : w.heap.size + 1 < w5.heap.size := by have := hb.size; (try simp at this); omega
  have s5_2 : w.heap.size + 1 + 1 < w5.heap.size := by have := hb.size; (try simp at this); omega
  have s5_3 : w1.heap.size < w5.heap.size := by have := hb.size; (try simp at this); omega
  have s5_4 : w2.heap.size < w5.heap.size := by have := hb.size; (try simp at this); omega
  have s5_5 : w3.heap.size < w5.heap.size := by have := hb.size; (try simp at this); omega
  have s5_6 : w4.heap.size < w5.heap.size := by have := hb.size; (try simp at this); omega
  have hB5 := below_seq (balloc hB4 _) hb
  clear hb
  have t5_0 : w.heap.size < w5.heap.size + 1 := by omega
  have t5_1 : w.heap.size + 1 < w5.heap.size + 1 := by omega
  have t5_2 : w.heap.size + 1 + 1 < w5.heap.size + 1 := by omega
  have t5_3 : w1.heap.size < w5.heap.size + 1 := by omega
  have t5_4 : w2.heap.size < w5.heap.size + 1 := by omega
  have t5_5 : w3.heap.size < w5.heap.size + 1 := by omega
  have t5_6 : w4.heap.size < w5.heap.size + 1 := by omega
  go_wp2_with fail
  refine (add_ok a ⟨0, 0, true⟩ _ (hF.below (balloc hB5 _)) ha z2).mono ?_; rintro e w6 ⟨rfl, hb⟩
  rw [h5]
  obtain ⟨hc6, hf6⟩ := bcell hb
  have s6_0 : w.heap.size < w6.heap.size := by have := hb.size; (try simp at this); omega
  have s6_1 : w.heap.size + 1 < w6.heap.size := by have := hb.size; (try simp at this); omega
  have s6_2 : w.heap.size + 1 + 1 < w6.heap.size := by have := hb.size; (try simp at this); omega
  have s6_3 : w1.heap.size < w6.heap.size := by have := hb.size; (try simp at this); omega
  have s6_4 : w2.heap.size < w6.heap.size := by have := hb.size; (try simp at this); omega
  have s6_5 : w3.heap.size < w6.heap.size := by have := hb.size; (try simp at this); omega
  have s6_6 : w4.heap.size < w6.heap.size := by have := hb.size; (try simp at this); omega
  have s6_7 : w5.heap.size < w6.heap.size := by have := hb.size; (try simp at this); omega
  have hB6 := below_seq (balloc hB5 _) hb
  clear hb
  have t6_0 : w.heap.size < w6.heap.size + 1 := by omega
  have t6_1 : w.heap.size + 1 < w6.heap.size + 1 := by omega
  have t6_2 : w.heap.size + 1 + 1 < w6.heap.size + 1 := by omega
  have t6_3 : w1.heap.size < w6.heap.size + 1 := by omega
  have t6_4 : w2.heap.size < w6.heap.size + 1 := by omega
  have t6_5 : w3.heap.size < w6.heap.size + 1 := by omega
  have t6_6 : w4.heap.size < w6.heap.size + 1 := by omega
  have t6_7 : w5.heap.size < w6.heap.size + 1 := by omega
  go_wp2_with fail
  refine (add_ok S N _ (hF.below (balloc hB6 _)) hS hN).mono ?_; rintro e w7 ⟨rfl, hb⟩
  rw [h6]
  obtain ⟨hc7, hf7⟩ := bcell hb
  have s7_0 : w.heap.size < w7.heap.size := by have := hb.size; (try simp at this); omega
  have s7_1 : w.heap.size + 1 < w7.heap.size := by have := hb.size; (try simp at this); omega
  have s7_2 : w.heap.size + 1 + 1 < w7.heap.size := by have := hb.size; (try simp at this); omega
  have s7_3 : w1.heap.size < w7.heap.size := by have := hb.size; (try simp at this); omega
  have s7_4 : w2.heap.size < w7.heap.size := by have := hb.size; (try simp at this); omega
  have s7_5 : w3.heap.size < w7.heap.size := by have := hb.size; (try simp at this); omega
  have s7_6 : w4.heap.size < w7.heap.size := by have := hb.size; (try simp at this); omega
  have s7_7 : w5.heap.size < w7.heap.size := by have := hb.size; (try simp at this); omega
  have s7_8 : w6.heap.size < w7.heap.size := by have := hb.size; (try simp at this); omega
  have hB7 := below_seq (balloc hB6 _) hb
  clear hb
  have t7_0 : w.heap.size < w7.heap.size + 1 := by omega
  have t7_1 : w.heap.size + 1 < w7.heap.size + 1 := by omega
  have t7_2 : w.heap.size + 1 + 1 < w7.heap.size + 1 := by omega
  have t7_3 : w1.heap.size < w7.heap.size + 1 := by omega
  have t7_4 : w2.heap.size < w7.heap.size + 1 := by omega
  have t7_5 : w3.heap.size < w7.heap.size + 1 := by omega
  have t7_6 : w4.heap.size < w7.heap.size + 1 := by omega
  have t7_7 : w5.heap.size < w7.heap.size + 1 := by omega
  have t7_8 : w6.heap.size < w7.heap.size + 1 := by omega
  go_wp2_with fail
  refine (check_ok S _ (hF.below (balloc hB7 _)) hS).mono ?_; rintro e w8 ⟨rfl, hb⟩
  obtain ⟨hc8, hf8⟩ := bcell hb
  have s8_0 : w.heap.size < w8.heap.size := by have := hb.size; (try simp at this); omega
  have s8_1 : w.heap.size + 1 < w8.heap.size := by have := hb.size; (try simp at this); omega
  have s8_2 : w.heap.size + 1 + 1 < w8.heap.size := by have := hb.size; (try simp at this); omega
  have s8_3 : w1.heap.size < w8.heap.size := by have := hb.size; (try simp at this); omega
  have s8_4 : w2.heap.size < w8.heap.size := by have := hb.size; (try simp at this); omega
  have s8_5 : w3.heap.size < w8.heap.size := by have := hb.size; (try simp at this); omega
  have s8_6 : w4.heap.size < w8.heap.size := by have := hb.size; (try simp at this); omega
  have s8_7 : w5.heap.size < w8.heap.size := by have := hb.size; (try simp at this); omega
  have s8_8 : w6.heap.size < w8.heap.size := by have := hb.size; (try simp at this); omega
  have s8_9 : w7.heap.size < w8.heap.size := by have := hb.size; (try simp at this); omega
  have hB8 := below_seq (balloc hB7 _) hb
  clear hb
  go_wp2_with fail
  refine (add_bad2 S c _ (hF.below hB8) hS h).mono ?_; rintro e w9 ⟨rfl, hb⟩
  obtain ⟨hc9, hf9⟩ := bcell hb
  have s9_0 : w.heap.size < w9.heap.size := by have := hb.size; (try simp at this); omega
  have s9_1 : w.heap.size + 1 < w9.heap.size := by have := hb.size; (try simp at this); omega
  have s9_2 : w.heap.size + 1 + 1 < w9.heap.size := by have := hb.size; (try simp at this); omega
  have s9_3 : w1.heap.size < w9.heap.size := by have := hb.size; (try simp at this); omega
  have s9_4 : w2.heap.size < w9.heap.size := by have := hb.size; (try simp at this); omega
  have s9_5 : w3.heap.size < w9.heap.size := by have := hb.size; (try simp at this); omega
  have s9_6 : w4.heap.size < w9.heap.size := by have := hb.size; (try simp at this); omega
  have s9_7 : w5.heap.size < w9.heap.size := by have := hb.size; (try simp at this); omega
  have s9_8 : w6.heap.size < w9.heap.size := by have := hb.size; (try simp at this); omega
  have s9_9 : w7.heap.size < w9.heap.size := by have := hb.size; (try simp at this); omega
  have hB9 := below_seq hB8 hb
  clear hb
  have t9_0 : w.heap.size < w9.heap.size + 1 := by omega
  have t9_1 : w.heap.size + 1 < w9.heap.size + 1 := by omega
  have t9_2 : w.heap.size + 1 + 1 < w9.heap.size + 1 := by omega
  have t9_3 : w1.heap.size < w9.heap.size + 1 := by omega
  have t9_4 : w2.heap.size < w9.heap.size + 1 := by omega
  have t9_5 : w3.heap.size < w9.heap.size + 1 := by omega
  have t9_6 : w4.heap.size < w9.heap.size + 1 := by omega
  have t9_7 : w5.heap.size < w9.heap.size + 1 := by omega
  have t9_8 : w6.heap.size < w9.heap.size + 1 := by omega
  have t9_9 : w7.heap.size < w9.heap.size + 1 := by omega
  go_wp2_with fail
  refine (add_bad2 b c _ (hF.below (balloc hB9 _)) hb0 h).mono ?_; rintro e w10 ⟨rfl, hb⟩
  obtain ⟨hc10, hf10⟩ := bcell hb
  have s10_0 : w.heap.size < w10.heap.size := by have := hb.size; (try simp at this); omega
  have s10_1 : w.heap.size + 1 < w10.heap.size := by have := hb.size; (try simp at this); omega
  have s10_2 : w.heap.size + 1 + 1 < w10.heap.size := by have := hb.size; (try simp at this); omega
  have s10_3 : w1.heap.size < w10.heap.size := by have := hb.size; (try simp at this); omega
  have s10_4 : w2.heap.size < w10.heap.size := by have := hb.size; (try simp at this); omega
  have s10_5 : w3.heap.size < w10.heap.size := by have := hb.size; (try simp at this); omega
  have s10_6 : w4.heap.size < w10.heap.size := by have := hb.size; (try simp at this); omega
  have s10_7 : w5.heap.size < w10.heap.size := by have := hb.size; (try simp at this); omega
  have s10_8 : w6.heap.size < w10.heap.size := by have := hb.size; (try simp at this); omega
  have s10_9 : w7.heap.size < w10.heap.size := by have := hb.size; (try simp at this); omega
  have s10_10 : w9.heap.size < w10.heap.size := by have := hb.size; (try simp at this); omega
  have hB10 := below_seq (balloc hB9 _) hb
  clear hb
  have t10_0 : w.heap.size < w10.heap.size + 1 := by omega
  have t10_1 : w.heap.size + 1 < w10.heap.size + 1 := by omega
  have t10_2 : w.heap.size + 1 + 1 < w10.heap.size + 1 := by omega
  have t10_3 : w1.heap.size < w10.heap.size + 1 := by omega
  have t10_4 : w2.heap.size < w10.heap.size + 1 := by omega
  have t10_5 : w3.heap.size < w10.heap.size + 1 := by omega
  have t10_6 : w4.heap.size < w10.heap.size + 1 := by omega
  have t10_7 : w5.heap.size < w10.heap.size + 1 := by omega
  have t10_8 : w6.heap.size < w10.heap.size + 1 := by omega
  have t10_9 : w7.heap.size < w10.heap.size + 1 := by omega
  have t10_10 : w9.heap.size < w10.heap.size + 1 := by omega
  go_wp2_with fail
  refine (add_ok a ⟨0, 0, false⟩ _ (hF.below (balloc hB10 _)) ha z1).mono ?_; rintro e w11 ⟨rfl, hb⟩
  obtain ⟨hc11, hf11⟩ := bcell hb
  have s11_0 : w.heap.size < w11.heap.size := by have := hb.size; (try simp at this); omega
  have s11_1 : w.heap.size + 1 < w11.heap.size := by have := hb.size; (try simp at this); omega
  have s11_2 : w.heap.size + 1 + 1 < w11.heap.size := by have := hb.size; (try simp at this); omega
  have s11_3 : w1.heap.size < w11.heap.size := by have := hb.size; (try simp at this); omega
  have s11_4 : w2.heap.size < w11.heap.size := by have := hb.size; (try simp at this); omega
  have s11_5 : w3.heap.size < w11.heap.size := by have := hb.size; (try simp at this); omega
  have s11_6 : w4.heap.size < w11.heap.size := by have := hb.size; (try simp at this); omega
  have s11_7 : w5.heap.size < w11.heap.size := by have := hb.size; (try simp at this); omega
  have s11_8 : w6.heap.size < w11.heap.size := by have := hb.size; (try simp at this); omega
  have s11_9 : w7.heap.size < w11.heap.size := by have := hb.size; (try simp at this); omega
  have s11_10 : w9.heap.size < w11.heap.size := by have := hb.size; (try simp at this); omega
  have s11_11 : w10.heap.size < w11.heap.size := by have := hb.size; (try simp at this); omega
  have hB11 := below_seq (balloc hB10 _) hb
  clear hb
  have t11_0 : w.heap.size < w11.heap.size + 1 := by omega
  have t11_1 : w.heap.size + 1 < w11.heap.size + 1 := by omega
  have t11_2 : w.heap.size + 1 + 1 < w11.heap.size + 1 := by omega
  have t11_3 : w1.heap.size < w11.heap.size + 1 := by omega
  have t11_4 : w2.heap.size < w11.heap.size + 1 := by omega
  have t11_5 : w3.heap.size < w11.heap.size + 1 := by omega
  have t11_6 : w4.heap.size < w11.heap.size + 1 := by omega
  have t11_7 : w5.heap.size < w11.heap.size + 1 := by omega
  have t11_8 : w6.heap.size < w11.heap.size + 1 := by omega
  have t11_9 : w7.heap.size < w11.heap.size + 1 := by omega
  have t11_10 : w9.heap.size < w11.heap.size + 1 := by omega
  have t11_11 : w10.heap.size < w11.heap.size + 1 := by omega
  go_wp2
  go_ret
  exact ⟨rfl, by first | exact (balloc hB11 _) | exact Below.refl _ _⟩
set_option maxHeartbeats 4000000 in
theorem ch_d (a b c S N : Sp) (w : World) (hF : FarAt w) (ha : Ok a) (hb0 : Ok b) (hS : Ok S) (hN : Ok N) (h1 : sSum a b = S) (h2 : sSum b a = S) (h3 : sTurned a = N) (h4 : sSum a N = ⟨0, 0, true⟩) (h5 : sSum a ⟨0, 0, true⟩ = a) (h6 : sSum S N = b) (X Y : Sp) (hY : Ok Y) (hc0 : Ok c) (h7 : sSum S c = X) (h8 : sSum b c = Y) (h9 : sSum a Y = X) :
    Calls Tryd.prog 4 #[spV a, spV b, spV c] w fun e w' => e = .returned (.bool true) ∧ Below w.heap.size w w' := by
  have z1 := zero_ok
  have z2 := far_ok
  go_enter Tryd.func4, Tryd.ntmps4
  go_wp2_with fail
  refine (add_ok ⟨0, 0, false⟩ ⟨0, 0, false⟩ _ (hF.below (balloc (balloc (below_alloc w _) _) _)) z1 z1).mono ?_; rintro e w1 ⟨rfl, hb⟩
  rw [zero_two]
  obtain ⟨hc1, hf1⟩ := bcell hb
  have s1_0 : w.heap.size < w1.heap.size := by have := hb.size; (try simp at this); omega
  have s1_1 : w.heap.size + 1 < w1.heap.size := by have := hb.size; (try simp at this); omega
  have s1_2 : w.heap.size + 1 + 1 < w1.heap.size := by have := hb.size; (try simp at this); omega
  have hB1 := below_seq (balloc (balloc (below_alloc w _) _) _) hb
  clear hb
  have t1_0 : w.heap.size < w1.heap.size + 1 := by omega
  have t1_1 : w.heap.size + 1 < w1.heap.size + 1 := by omega
  have t1_2 : w.heap.size + 1 + 1 < w1.heap.size + 1 := by omega
  go_wp2_with fail
  refine (add_ok a b _ (hF.below (balloc hB1 _)) ha hb0).mono ?_; rintro e w2 ⟨rfl, hb⟩
  rw [h1]
  obtain ⟨hc2, hf2⟩ := bcell hb
  have s2_0 : w.heap.size < w2.heap.size := by have := hb.size; (try simp at this); omega
  have s2_1 : w.heap.size + 1 < w2.heap.size := by have := hb.size; (try simp at this); omega
  have s2_2 : w.heap.size + 1 + 1 < w2.heap.size := by have := hb.size; (try simp at this); omega
  have s2_3 : w1.heap.size < w2.heap.size := by have := hb.size; (try simp at this); omega
  have hB2 := below_seq (balloc hB1 _) hb
  clear hb
  have t2_0 : w.heap.size < w2.heap.size + 1 := by omega
  have t2_1 : w.heap.size + 1 < w2.heap.size + 1 := by omega
  have t2_2 : w.heap.size + 1 + 1 < w2.heap.size + 1 := by omega
  have t2_3 : w1.heap.size < w2.heap.size + 1 := by omega
  go_wp2_with fail
  refine (add_ok b a _ (hF.below (balloc hB2 _)) hb0 ha).mono ?_; rintro e w3 ⟨rfl, hb⟩
  rw [h2]
  obtain ⟨hc3, hf3⟩ := bcell hb
  have s3_0 : w.heap.size < w3.heap.size := by have := hb.size; (try simp at this); omega
  have s3_1 : w.heap.size + 1 < w3.heap.size := by have := hb.size; (try simp at this); omega
  have s3_2 : w.heap.size + 1 + 1 < w3.heap.size := by have := hb.size; (try simp at this); omega
  have s3_3 : w1.heap.size < w3.heap.size := by have := hb.size; (try simp at this); omega
  have s3_4 : w2.heap.size < w3.heap.size := by have := hb.size; (try simp at this); omega
  have hB3 := below_seq (balloc hB2 _) hb
  clear hb
  have t3_0 : w.heap.size < w3.heap.size + 1 := by omega
  have t3_1 : w.heap.size + 1 < w3.heap.size + 1 := by omega
  have t3_2 : w.heap.size + 1 + 1 < w3.heap.size + 1 := by omega
  have t3_3 : w1.heap.size < w3.heap.size + 1 := by omega
  have t3_4 : w2.heap.size < w3.heap.size + 1 := by omega
  go_wp2_with fail
  refine (neg_ok a _ (hF.below (balloc hB3 _)) ha).mono ?_; rintro e w4 ⟨rfl, hb⟩
  rw [h3]
  obtain ⟨hc4, hf4⟩ := bcell hb
  have s4_0 : w.heap.size < w4.heap.size := by have := hb.size; (try simp at this); omega
  have s4_1 : w.heap.size + 1 < w4.heap.size := by have := hb.size; (try simp at this); omega
  have s4_2 : w.heap.size + 1 + 1 < w4.heap.size := by have := hb.size; (try simp at this); omega
  have s4_3 : w1.heap.size < w4.heap.size := by have := hb.size; (try simp at this); omega
  have s4_4 : w2.heap.size < w4.heap.size := by have := hb.size; (try simp at this); omega
  have s4_5 : w3.heap.size < w4.heap.size := by have := hb.size; (try simp at this); omega
  have hB4 := below_seq (balloc hB3 _) hb
  clear hb
  have t4_0 : w.heap.size < w4.heap.size + 1 := by omega
  have t4_1 : w.heap.size + 1 < w4.heap.size + 1 := by omega
  have t4_2 : w.heap.size + 1 + 1 < w4.heap.size + 1 := by omega
  have t4_3 : w1.heap.size < w4.heap.size + 1 := by omega
  have t4_4 : w2.heap.size < w4.heap.size + 1 := by omega
  have t4_5 : w3.heap.size < w4.heap.size + 1 := by omega
  go_wp2_with fail
  refine (add_ok a N _ (hF.below (balloc hB4 _)) ha hN).mono ?_; rintro e w5 ⟨rfl, hb⟩
  rw [h4]
  obtain ⟨hc5, hf5⟩ := bcell hb
  have s5_0 : w.heap.size < w5.heap.size := by have := hb.size; (try simp at this); omega
  have s5_1 : w.heap.size + 1 < w5.heap.size := by have := hb.size; (try simp at this); omega
  have s5_2 : w.heap.size + 1 + 1 < w5.heap.size := by have := hb.size; (try simp at this); omega
  have s5_3 : w1.heap.size < w5.heap.size := by have := hb.size; (try simp at this); omega
  have s5_4 : w2.heap.size < w5.heap.size := by have := hb.size; (try simp at this); omega
  have s5_5 : w3.heap.size < w5.heap.size := by have := hb.size; (try simp at this); omega
  have s5_6 : w4.heap.size < w5.heap.size := by have := hb.size; (try simp at this); omega
  have hB5 := below_seq (balloc hB4 _) hb
  clear hb
  have t5_0 : w.heap.size < w5.heap.size + 1 := by omega
  have t5_1 : w.heap.size + 1 < w5.heap.size + 1 := by omega
  have t5_2 : w.heap.size + 1 + 1 < w5.heap.size + 1 := by omega
  have t5_3 : w1.heap.size < w5.heap.size + 1 := by omega
  have t5_4 : w2.heap.size < w5.heap.size + 1 := by omega
  have t5_5 : w3.heap.size < w5.heap.size + 1 := by omega
  have t5_6 : w4.heap.size < w5.heap.size + 1 := by omega
  go_wp2_with fail
  refine (add_ok a ⟨0, 0, true⟩ _ (hF.below (balloc hB5 _)) ha z2).mono ?_; rintro e w6 ⟨rfl, hb⟩
  rw [h5]
  obtain ⟨hc6, hf6⟩ := bcell hb
  have s6_0 : w.heap.size < w6.heap.size := by have := hb.size; (try simp at this); omega
  have s6_1 : w.heap.size + 1 < w6.heap.size := by have := hb.size; (try simp at this); omega
  have s6_2 : w.heap.size + 1 + 1 < w6.heap.size := by have := hb.size; (try simp at this); omega
  have s6_3 : w1.heap.size < w6.heap.size := by have := hb.size; (try simp at this); omega
  have s6_4 : w2.heap.size < w6.heap.size := by have := hb.size; (try simp at this); omega
  have s6_5 : w3.heap.size < w6.heap.size := by have := hb.size; (try simp at this); omega
  have s6_6 : w4.heap.size < w6.heap.size := by have := hb.size; (try simp at this); omega
  have s6_7 : w5.heap.size < w6.heap.size := by have := hb.size; (try simp at this); omega
  have hB6 := below_seq (balloc hB5 _) hb
  clear hb
  have t6_0 : w.heap.size < w6.heap.size + 1 := by omega
  have t6_1 : w.heap.size + 1 < w6.heap.size + 1 := by omega
  have t6_2 : w.heap.size + 1 + 1 < w6.heap.size + 1 := by omega
  have t6_3 : w1.heap.size < w6.heap.size + 1 := by omega
  have t6_4 : w2.heap.size < w6.heap.size + 1 := by omega
  have t6_5 : w3.heap.size < w6.heap.size + 1 := by omega
  have t6_6 : w4.heap.size < w6.heap.size + 1 := by omega
  have t6_7 : w5.heap.size < w6.heap.size + 1 := by omega
  go_wp2_with fail
  refine (add_ok S N _ (hF.below (balloc hB6 _)) hS hN).mono ?_; rintro e w7 ⟨rfl, hb⟩
  rw [h6]
  obtain ⟨hc7, hf7⟩ := bcell hb
  have s7_0 : w.heap.size < w7.heap.size := by have := hb.size; (try simp at this); omega
  have s7_1 : w.heap.size + 1 < w7.heap.size := by have := hb.size; (try simp at this); omega
  have s7_2 : w.heap.size + 1 + 1 < w7.heap.size := by have := hb.size; (try simp at this); omega
  have s7_3 : w1.heap.size < w7.heap.size := by have := hb.size; (try simp at this); omega
  have s7_4 : w2.heap.size < w7.heap.size := by have := hb.size; (try simp at this); omega
  have s7_5 : w3.heap.size < w7.heap.size := by have := hb.size; (try simp at this); omega
  have s7_6 : w4.heap.size < w7.heap.size := by have := hb.size; (try simp at this); omega
  have s7_7 : w5.heap.size < w7.heap.size := by have := hb.size; (try simp at this); omega
  have s7_8 : w6.heap.size < w7.heap.size := by have := hb.size; (try simp at this); omega
  have hB7 := below_seq (balloc hB6 _) hb
  clear hb
  have t7_0 : w.heap.size < w7.heap.size + 1 := by omega
  have t7_1 : w.heap.size + 1 < w7.heap.size + 1 := by omega
  have t7_2 : w.heap.size + 1 + 1 < w7.heap.size + 1 := by omega
  have t7_3 : w1.heap.size < w7.heap.size + 1 := by omega
  have t7_4 : w2.heap.size < w7.heap.size + 1 := by omega
  have t7_5 : w3.heap.size < w7.heap.size + 1 := by omega
  have t7_6 : w4.heap.size < w7.heap.size + 1 := by omega
  have t7_7 : w5.heap.size < w7.heap.size + 1 := by omega
  have t7_8 : w6.heap.size < w7.heap.size + 1 := by omega
  go_wp2_with fail
  refine (check_ok S _ (hF.below (balloc hB7 _)) hS).mono ?_; rintro e w8 ⟨rfl, hb⟩
  obtain ⟨hc8, hf8⟩ := bcell hb
  have s8_0 : w.heap.size < w8.heap.size := by have := hb.size; (try simp at this); omega
  have s8_1 : w.heap.size + 1 < w8.heap.size := by have := hb.size; (try simp at this); omega
  have s8_2 : w.heap.size + 1 + 1 < w8.heap.size := by have := hb.size; (try simp at this); omega
  have s8_3 : w1.heap.size < w8.heap.size := by have := hb.size; (try simp at this); omega
  have s8_4 : w2.heap.size < w8.heap.size := by have := hb.size; (try simp at this); omega
  have s8_5 : w3.heap.size < w8.heap.size := by have := hb.size; (try simp at this); omega
  have s8_6 : w4.heap.size < w8.heap.size := by have := hb.size; (try simp at this); omega
  have s8_7 : w5.heap.size < w8.heap.size := by have := hb.size; (try simp at this); omega
  have s8_8 : w6.heap.size < w8.heap.size := by have := hb.size; (try simp at this); omega
  have s8_9 : w7.heap.size < w8.heap.size := by have := hb.size; (try simp at this); omega
  have hB8 := below_seq (balloc hB7 _) hb
  clear hb
  go_wp2_with fail
  refine (add_ok S c _ (hF.below hB8) hS hc0).mono ?_; rintro e w9 ⟨rfl, hb⟩
  rw [h7]
  obtain ⟨hc9, hf9⟩ := bcell hb
  have s9_0 : w.heap.size < w9.heap.size := by have := hb.size; (try simp at this); omega
  have s9_1 : w.heap.size + 1 < w9.heap.size := by have := hb.size; (try simp at this); omega
  have s9_2 : w.heap.size + 1 + 1 < w9.heap.size := by have := hb.size; (try simp at this); omega
  have s9_3 : w1.heap.size < w9.heap.size := by have := hb.size; (try simp at this); omega
  have s9_4 : w2.heap.size < w9.heap.size := by have := hb.size; (try simp at this); omega
  have s9_5 : w3.heap.size < w9.heap.size := by have := hb.size; (try simp at this); omega
  have s9_6 : w4.heap.size < w9.heap.size := by have := hb.size; (try simp at this); omega
  have s9_7 : w5.heap.size < w9.heap.size := by have := hb.size; (try simp at this); omega
  have s9_8 : w6.heap.size < w9.heap.size := by have := hb.size; (try simp at this); omega
  have s9_9 : w7.heap.size < w9.heap.size := by have := hb.size; (try simp at this); omega
  have hB9 := below_seq hB8 hb
  clear hb
  have t9_0 : w.heap.size < w9.heap.size + 1 := by omega
  have t9_1 : w.heap.size + 1 < w9.heap.size + 1 := by omega
  have t9_2 : w.heap.size + 1 + 1 < w9.heap.size + 1 := by omega
  have t9_3 : w1.heap.size < w9.heap.size + 1 := by omega
  have t9_4 : w2.heap.size < w9.heap.size + 1 := by omega
  have t9_5 : w3.heap.size < w9.heap.size + 1 := by omega
  have t9_6 : w4.heap.size < w9.heap.size + 1 := by omega
  have t9_7 : w5.heap.size < w9.heap.size + 1 := by omega
  have t9_8 : w6.heap.size < w9.heap.size + 1 := by omega
  have t9_9 : w7.heap.size < w9.heap.size + 1 := by omega
  go_wp2_with fail
  refine (add_ok b c _ (hF.below (balloc hB9 _)) hb0 hc0).mono ?_; rintro e w10 ⟨rfl, hb⟩
  rw [h8]
  obtain ⟨hc10, hf10⟩ := bcell hb
  have s10_0 : w.heap.size < w10.heap.size := by have := hb.size; (try simp at this); omega
  have s10_1 : w.heap.size + 1 < w10.heap.size := by have := hb.size; (try simp at this); omega
  have s10_2 : w.heap.size + 1 + 1 < w10.heap.size := by have := hb.size; (try simp at this); omega
  have s10_3 : w1.heap.size < w10.heap.size := by have := hb.size; (try simp at this); omega
  have s10_4 : w2.heap.size < w10.heap.size := by have := hb.size; (try simp at this); omega
  have s10_5 : w3.heap.size < w10.heap.size := by have := hb.size; (try simp at this); omega
  have s10_6 : w4.heap.size < w10.heap.size := by have := hb.size; (try simp at this); omega
  have s10_7 : w5.heap.size < w10.heap.size := by have := hb.size; (try simp at this); omega
  have s10_8 : w6.heap.size < w10.heap.size := by have := hb.size; (try simp at this); omega
  have s10_9 : w7.heap.size < w10.heap.size := by have := hb.size; (try simp at this); omega
  have s10_10 : w9.heap.size < w10.heap.size := by have := hb.size; (try simp at this); omega
  have hB10 := below_seq (balloc hB9 _) hb
  clear hb
  have t10_0 : w.heap.size < w10.heap.size + 1 := by omega
  have t10_1 : w.heap.size + 1 < w10.heap.size + 1 := by omega
  have t10_2 : w.heap.size + 1 + 1 < w10.heap.size + 1 := by omega
  have t10_3 : w1.heap.size < w10.heap.size + 1 := by omega
  have t10_4 : w2.heap.size < w10.heap.size + 1 := by omega
  have t10_5 : w3.heap.size < w10.heap.size + 1 := by omega
  have t10_6 : w4.heap.size < w10.heap.size + 1 := by omega
  have t10_7 : w5.heap.size < w10.heap.size + 1 := by omega
  have t10_8 : w6.heap.size < w10.heap.size + 1 := by omega
  have t10_9 : w7.heap.size < w10.heap.size + 1 := by omega
  have t10_10 : w9.heap.size < w10.heap.size + 1 := by omega
  go_wp2_with fail
  refine (add_ok a Y _ (hF.below (balloc hB10 _)) ha hY).mono ?_; rintro e w11 ⟨rfl, hb⟩
  rw [h9]
  obtain ⟨hc11, hf11⟩ := bcell hb
  have s11_0 : w.heap.size < w11.heap.size := by have := hb.size; (try simp at this); omega
  have s11_1 : w.heap.size + 1 < w11.heap.size := by have := hb.size; (try simp at this); omega
  have s11_2 : w.heap.size + 1 + 1 < w11.heap.size := by have := hb.size; (try simp at this); omega
  have s11_3 : w1.heap.size < w11.heap.size := by have := hb.size; (try simp at this); omega
  have s11_4 : w2.heap.size < w11.heap.size := by have := hb.size; (try simp at this); omega
  have s11_5 : w3.heap.size < w11.heap.size := by have := hb.size; (try simp at this); omega
  have s11_6 : w4.heap.size < w11.heap.size := by have := hb.size; (try simp at this); omega
  have s11_7 : w5.heap.size < w11.heap.size := by have := hb.size; (try simp at this); omega
  have s11_8 : w6.heap.size < w11.heap.size := by have := hb.size; (try simp at this); omega
  have s11_9 : w7.heap.size < w11.heap.size := by have := hb.size; (try simp at this); omega
  have s11_10 : w9.heap.size < w11.heap.size := by have := hb.size; (try simp at this); omega
  have s11_11 : w10.heap.size < w11.heap.size := by have := hb.size; (try simp at this); omega
  have hB11 := below_seq (balloc hB10 _) hb
  clear hb
  have t11_0 : w.heap.size < w11.heap.size + 1 := by omega
  have t11_1 : w.heap.size + 1 < w11.heap.size + 1 := by omega
  have t11_2 : w.heap.size + 1 + 1 < w11.heap.size + 1 := by omega
  have t11_3 : w1.heap.size < w11.heap.size + 1 := by omega
  have t11_4 : w2.heap.size < w11.heap.size + 1 := by omega
  have t11_5 : w3.heap.size < w11.heap.size + 1 := by omega
  have t11_6 : w4.heap.size < w11.heap.size + 1 := by omega
  have t11_7 : w5.heap.size < w11.heap.size + 1 := by omega
  have t11_8 : w6.heap.size < w11.heap.size + 1 := by omega
  have t11_9 : w7.heap.size < w11.heap.size + 1 := by omega
  have t11_10 : w9.heap.size < w11.heap.size + 1 := by omega
  have t11_11 : w10.heap.size < w11.heap.size + 1 := by omega
  go_wp2
  go_ret
  exact ⟨rfl, by first | exact (balloc hB11 _) | exact Below.refl _ _⟩
theorem curveHolds_law (a b c : Sp) (w : World) (hF : FarAt w) :
    Calls Tryd.prog 4 #[spV a, spV b, spV c] w fun e w' => e = .returned (.bool true) ∧ Below w.heap.size w w' := by
  by_cases ca : sCheck a = 0
  case neg => exact ch_a a b c w hF ca
  by_cases cb : sCheck b = 0
  case neg => exact ch_b a b c w hF ((ok_iff _).mp ca) cb
  have ha := (ok_iff _).mp ca
  have hb := (ok_iff _).mp cb
  obtain ⟨i, -, -, hi⟩ := sq_all ha
  obtain ⟨j, -, -, hj⟩ := sq_all hb
  have hs : sSum a b = sq (i + j) := by rw [hi, hj, sq_add]
  have h1 : sSum b a = sq (i + j) := by rw [hi, hj, sq_add, Int.add_comm]
  have h2 : sTurned a = sq (-i) := by rw [hi, sq_neg]
  have h3 : sSum a (sq (-i)) = ⟨0, 0, true⟩ := by
    rw [hi, sq_add, Int.add_right_neg]; exact sq_zero
  have h4 : sSum a ⟨0, 0, true⟩ = a := by
    rw [show (⟨0, 0, true⟩ : Sp) = sq 0 from sq_zero.symm, hi, sq_add, Int.add_zero]
  have h5 : sSum (sq (i + j)) (sq (-i)) = b := by
    rw [hj, sq_add]; congr 1; omega
  by_cases cc : sCheck c = 0
  case neg => exact ch_c a b c _ _ w hF ha hb (sq_ok _) (sq_ok _) hs h1 h2 h3 h4 h5 cc
  have hc := (ok_iff _).mp cc
  obtain ⟨k, -, -, hk⟩ := sq_all hc
  exact ch_d a b c _ _ w hF ha hb (sq_ok _) (sq_ok _) hs h1 h2 h3 h4 h5 (sq (i + j + k)) (sq (j + k)) (sq_ok _) hc (by rw [hk, sq_add]) (by rw [hj, hk, sq_add]) (by rw [hi, sq_add, Int.add_assoc])
end Go.Proofs.YtkcfblogfnpbnaaDoor
