/- The law TwinHolds, walked: the laws of the greater field. -/
import Derived.Test.YtkcfblogfnpbnaaWu
namespace Go.Proofs.Ytkcfblogfnpbnaa
open Go.RowKit
attribute [local go_sem] zi_fz
set_option maxHeartbeats 4000000 in
theorem th_core (a0 b0 a1 b1 a2 b2 : Int) (w : World) (z : Bool) (hn : (fz (zi a0 b0).norm == 0) = z) (hre : z = true → fz (zi a0 b0).re = 0) (him : z = true → fz (zi a0 b0).im = 0)
    (hne : z = false → ¬ (fz (zi a0 b0).re = 0 ∧ fz (zi a0 b0).im = 0)) (hp : (pOf (fz (zi a0 b0).norm) == 0) = z)
    (hi : z = false → (zi a0 b0).mul ((zi a0 b0).conj.mul (zi (pInv (fz (zi a0 b0).norm)) 0)) = .one) :
    Calls Try.prog 8 #[.agg #[.int .i64 a0, .int .i64 b0], .agg #[.int .i64 a1, .int .i64 b1], .agg #[.int .i64 a2, .int .i64 b2]] w fun e w' => e = .returned (.bool true) ∧ Below w.heap.size w w' := by
  have f1 : (zi a1 b1).mul (zi a0 b0) = (zi a0 b0).mul (zi a1 b1) := Z.mul_comm _ _
  have f2 : ((zi a0 b0).mul (zi a1 b1)).mul (zi a2 b2) = (zi a0 b0).mul ((zi a1 b1).mul (zi a2 b2)) := Z.mul_assoc _ _ _
  have f3 : (zi a0 b0).mul ((zi a1 b1).add (zi a2 b2)) = ((zi a0 b0).mul (zi a1 b1)).add ((zi a0 b0).mul (zi a2 b2)) := Z.mul_add _ _ _
  have f4 : fz ((zi a0 b0).mul (zi a1 b1)).norm = pMul (fz (zi a0 b0).norm) (fz (zi a1 b1).norm) := znorm_mul _ _
  have f5 := zmul_conj_re (zi a0 b0)
  have f6 := zmul_conj_im (zi a0 b0)
  go_enter Try.func8, Try.ntmps8
  go_wp2_with fail
  refine (twinMul_c _ _ _ _ _).mono ?_; rintro e w1 ⟨rfl, hb1⟩
  rw [zi_ii]
  obtain ⟨hc1, hf1⟩ := bcell hb1
  have s10 : w.heap.size < w1.heap.size := by have := hb1.size; simp at this; omega
  have s11 : w.heap.size + 1 < w1.heap.size := by have := hb1.size; simp at this; omega
  have s12 : w.heap.size + 1 + 1 < w1.heap.size := by have := hb1.size; simp at this; omega
  go_wp2_with fail
  refine (twinMul_c _ _ _ _ _).mono ?_; rintro e w2 ⟨rfl, hb2⟩
  obtain ⟨hc2, hf2⟩ := bcell hb2
  have s20 : w.heap.size < w2.heap.size := by have := hb2.size; omega
  have s21 : w.heap.size + 1 < w2.heap.size := by have := hb2.size; omega
  have s22 : w.heap.size + 1 + 1 < w2.heap.size := by have := hb2.size; omega
  have t20 : w.heap.size < w2.heap.size + 1 := by have := hb2.size; omega
  have t21 : w.heap.size + 1 < w2.heap.size + 1 := by have := hb2.size; omega
  have t22 : w.heap.size + 1 + 1 < w2.heap.size + 1 := by have := hb2.size; omega
  have hB2 := below_seq (below_seq (balloc (balloc (below_alloc w _) _) _) hb1) hb2
  clear hb1 hb2
  go_wp2_with fail
  refine wp_region_grow Try.mixed (by kernel_rfl) ?_
  repeat (quiet_step ((first | (go_at_call 17; exact grow_of (twinMul_c _ _ _ _ _)) | (go_at_call 22; exact grow_of (twinAdd_c _ _ _ _ _)) | (go_at_call 23; exact grow_of (twinNorm_c _ _ _)) | (go_at_call 24; exact grow_of (twinConj_c _ _ _)) | (go_at_call 25; exact grow_of (twinOf_c _ _ _)) | (go_at_call 18; exact grow_same (primeMul_c _ _ _)))))
  refine wpQuiet_nil ?_
  intro _ hw'
  obtain ⟨x4, rfl⟩ := hw'
  have s40 : w.heap.size < x4.w.heap.size := by have := x4.h.size; simp at this; omega
  have s41 : w.heap.size + 1 < x4.w.heap.size := by have := x4.h.size; simp at this; omega
  have s42 : w.heap.size + 1 + 1 < x4.w.heap.size := by have := x4.h.size; simp at this; omega
  have s43 : w2.heap.size < x4.w.heap.size := by have := x4.h.size; simp at this; omega
  go_wp2_with fail
  refine wp_region_grow Try.mixed (by kernel_rfl) ?_
  repeat (quiet_step ((first | (go_at_call 17; exact grow_of (twinMul_c _ _ _ _ _)) | (go_at_call 22; exact grow_of (twinAdd_c _ _ _ _ _)) | (go_at_call 23; exact grow_of (twinNorm_c _ _ _)) | (go_at_call 24; exact grow_of (twinConj_c _ _ _)) | (go_at_call 25; exact grow_of (twinOf_c _ _ _)) | (go_at_call 18; exact grow_same (primeMul_c _ _ _)))))
  refine wpQuiet_nil ?_
  intro _ hw'
  obtain ⟨x5, rfl⟩ := hw'
  have s50 : w.heap.size < x5.w.heap.size := by have := x5.h.size; omega
  have s51 : w.heap.size + 1 < x5.w.heap.size := by have := x5.h.size; omega
  have s52 : w.heap.size + 1 + 1 < x5.w.heap.size := by have := x5.h.size; omega
  have s53 : w2.heap.size < x5.w.heap.size := by have := x5.h.size; omega
  go_wp2_with fail
  refine wp_region_grow Try.mixed (by kernel_rfl) ?_
  repeat (quiet_step ((first | (go_at_call 17; exact grow_of (twinMul_c _ _ _ _ _)) | (go_at_call 22; exact grow_of (twinAdd_c _ _ _ _ _)) | (go_at_call 23; exact grow_of (twinNorm_c _ _ _)) | (go_at_call 24; exact grow_of (twinConj_c _ _ _)) | (go_at_call 25; exact grow_of (twinOf_c _ _ _)) | (go_at_call 18; exact grow_same (primeMul_c _ _ _)))))
  refine wpQuiet_nil ?_
  intro _ hw'
  obtain ⟨x6, rfl⟩ := hw'
  have s60 : w.heap.size < x6.w.heap.size := by have := x6.h.size; omega
  have s61 : w.heap.size + 1 < x6.w.heap.size := by have := x6.h.size; omega
  have s62 : w.heap.size + 1 + 1 < x6.w.heap.size := by have := x6.h.size; omega
  have s63 : w2.heap.size < x6.w.heap.size := by have := x6.h.size; omega
  go_wp2_with fail
  refine (twinPow_ok _ _ _ _ (by decide) (by decide)).mono ?_; rintro e w7 ⟨rfl, hb7⟩
  rw [zpow_frob]
  obtain ⟨hc7, hf7⟩ := bcell hb7
  have s70 : w.heap.size < w7.heap.size := by have := hb7.size; omega
  have s71 : w.heap.size + 1 < w7.heap.size := by have := hb7.size; omega
  have s72 : w.heap.size + 1 + 1 < w7.heap.size := by have := hb7.size; omega
  have s73 : w2.heap.size < w7.heap.size := by have := hb7.size; omega
  have t70 : w.heap.size < w7.heap.size + 1 := by have := hb7.size; omega
  have t71 : w.heap.size + 1 < w7.heap.size + 1 := by have := hb7.size; omega
  have t72 : w.heap.size + 1 + 1 < w7.heap.size + 1 := by have := hb7.size; omega
  have t73 : w2.heap.size < w7.heap.size + 1 := by have := hb7.size; omega
  have hB7 := below_seq (below_seq (below_seq (below_seq (balloc hB2 _) x4.h) x5.h) x6.h) hb7
  clear hb7
  cases z
  · have hi := hi rfl
    have hi1 : fz ((zi a0 b0).mul ((zi a0 b0).conj.mul (zi (pInv (fz (zi a0 b0).norm)) 0))).re = 1 := by rw [hi]; decide
    have hi2 : fz ((zi a0 b0).mul ((zi a0 b0).conj.mul (zi (pInv (fz (zi a0 b0).norm)) 0))).im = 0 := by rw [hi]; decide
    have hne := hne rfl
    clear hre him hi
    have hc : ¬ fz (zi a0 b0).re = 0 ∨ (fz (zi a0 b0).re = 0 ∧ ¬ fz (zi a0 b0).im = 0) := by
      by_cases h : fz (zi a0 b0).re = 0
      · exact .inr ⟨h, fun k => hne ⟨h, k⟩⟩
      · exact .inl h
    clear hne
    rcases hc with hc | ⟨hc, hd⟩
    all_goals
      go_wp2_with fail
      refine wp_region_grow Try.mixed (by kernel_rfl) ?_
      repeat (quiet_step ((first | (go_at_call 17; exact grow_of (twinMul_c _ _ _ _ _)) | (go_at_call 22; exact grow_of (twinAdd_c _ _ _ _ _)) | (go_at_call 23; exact grow_of (twinNorm_c _ _ _)) | (go_at_call 24; exact grow_of (twinConj_c _ _ _)) | (go_at_call 25; exact grow_of (twinOf_c _ _ _)) | (go_at_call 18; exact grow_same (primeMul_c _ _ _)))))
      refine wpQuiet_nil ?_
      intro _ hw'
      obtain ⟨x8, rfl⟩ := hw'
      have s80 : w.heap.size < x8.w.heap.size := by have := x8.h.size; simp at this; omega
      have s81 : w.heap.size + 1 < x8.w.heap.size := by have := x8.h.size; simp at this; omega
      have s82 : w.heap.size + 1 + 1 < x8.w.heap.size := by have := x8.h.size; simp at this; omega
      have s83 : w2.heap.size < x8.w.heap.size := by have := x8.h.size; simp at this; omega
      have s84 : w7.heap.size < x8.w.heap.size := by have := x8.h.size; simp at this; omega
      go_wp2_with fail
      refine (twinInv_some _ _ _ hp).mono ?_; rintro e w9 ⟨rfl, hb9⟩
      obtain ⟨hc9, hf9⟩ := bcell hb9
      have s90 : w.heap.size < w9.heap.size := by have := hb9.size; omega
      have s91 : w.heap.size + 1 < w9.heap.size := by have := hb9.size; omega
      have s92 : w.heap.size + 1 + 1 < w9.heap.size := by have := hb9.size; omega
      have t90 : w.heap.size < w9.heap.size + 1 := by have := hb9.size; omega
      have t91 : w.heap.size + 1 < w9.heap.size + 1 := by have := hb9.size; omega
      have t92 : w.heap.size + 1 + 1 < w9.heap.size + 1 := by have := hb9.size; omega
      go_wp2_with fail
      refine (twinMul_c _ _ _ _ _).mono ?_; rintro e w10 ⟨rfl, hb10⟩
      go_wp2
      go_ret
      exact ⟨rfl, below_seq (balloc (below_seq (below_seq (balloc hB7 _) x8.h) hb9) _) hb10⟩
  · have hre := hre rfl
    have him := him rfl
    clear hne hi
    go_wp2_with fail
    refine wp_region_grow Try.mixed (by kernel_rfl) ?_
    repeat (quiet_step ((first | (go_at_call 17; exact grow_of (twinMul_c _ _ _ _ _)) | (go_at_call 22; exact grow_of (twinAdd_c _ _ _ _ _)) | (go_at_call 23; exact grow_of (twinNorm_c _ _ _)) | (go_at_call 24; exact grow_of (twinConj_c _ _ _)) | (go_at_call 25; exact grow_of (twinOf_c _ _ _)) | (go_at_call 18; exact grow_same (primeMul_c _ _ _)))))
    refine wpQuiet_nil ?_
    intro _ hw'
    obtain ⟨x8, rfl⟩ := hw'
    have s80 : w.heap.size < x8.w.heap.size := by have := x8.h.size; simp at this; omega
    have s81 : w.heap.size + 1 < x8.w.heap.size := by have := x8.h.size; simp at this; omega
    have s82 : w.heap.size + 1 + 1 < x8.w.heap.size := by have := x8.h.size; simp at this; omega
    have s83 : w2.heap.size < x8.w.heap.size := by have := x8.h.size; simp at this; omega
    have s84 : w7.heap.size < x8.w.heap.size := by have := x8.h.size; simp at this; omega
    go_wp2_with fail
    refine (twinInv_none _ _ _ hp).mono ?_; rintro e w9 ⟨rfl, hb9⟩
    obtain ⟨hc9, hf9⟩ := bcell hb9
    have s90 : w.heap.size < w9.heap.size := by have := hb9.size; omega
    have s91 : w.heap.size + 1 < w9.heap.size := by have := hb9.size; omega
    have s92 : w.heap.size + 1 + 1 < w9.heap.size := by have := hb9.size; omega
    have t90 : w.heap.size < w9.heap.size + 1 := by have := hb9.size; omega
    have t91 : w.heap.size + 1 < w9.heap.size + 1 := by have := hb9.size; omega
    have t92 : w.heap.size + 1 + 1 < w9.heap.size + 1 := by have := hb9.size; omega
    go_wp2_with fail
    refine (twinOf_c _ _ _).mono ?_; rintro e w10 ⟨rfl, hb10⟩
    go_wp2
    go_ret
    exact ⟨rfl, below_seq (balloc (below_seq (below_seq (balloc hB7 _) x8.h) hb9) _) hb10⟩
set_option maxHeartbeats 1000000 in
theorem twinHolds_law (a0 b0 : Int) (_ : (Lit.int .i64 a0).wf = true) (_ : (Lit.int .i64 b0).wf = true) (a1 b1 : Int) (_ : (Lit.int .i64 a1).wf = true) (_ : (Lit.int .i64 b1).wf = true) (a2 b2 : Int) (_ : (Lit.int .i64 a2).wf = true) (_ : (Lit.int .i64 b2).wf = true) (w : World) :
    Calls Try.prog 8 #[.agg #[.int .i64 a0, .int .i64 b0], .agg #[.int .i64 a1, .int .i64 b1], .agg #[.int .i64 a2, .int .i64 b2]] w fun e w' => e = .returned (.bool true) ∧ Below w.heap.size w w' := by
  by_cases h : (zi a0 b0).norm = 0
  · obtain ⟨h1, h2⟩ := Z.norm_zero h
    exact th_core a0 b0 a1 b1 a2 b2 w true (by rw [h]; decide) (fun _ => by rw [h1]; decide) (fun _ => by rw [h2]; decide) (fun e => by cases e) (by rw [h]; decide) (fun e => by cases e)
  · refine th_core a0 b0 a1 b1 a2 b2 w false ?_ (fun e => by cases e) (fun e => by cases e) (fun _ k => h ?_) ?_ (fun _ => zinv h)
    · have : ¬ fz (zi a0 b0).norm = 0 := fun e => h (fz_zero_iff.mp e)
      simpa using this
    · have k1 := fz_zero_iff.mp k.1
      have k2 := fz_zero_iff.mp k.2
      unfold Z.norm; rw [k1, k2]; decide
    · have := znorm_ne h; simpa using this
end Go.Proofs.Ytkcfblogfnpbnaa
