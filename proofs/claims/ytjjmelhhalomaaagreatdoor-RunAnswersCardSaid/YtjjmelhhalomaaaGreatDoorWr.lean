/- Walks of layer times: Times, Inside, In, Order. (Printed by gen_r.py.) -/
import Derived.Test.YtjjmelhhalomaaaGreatDoorWq
namespace Go.Proofs.YtjjmelhhalomaaaGreatDoor
open Go.RowKit
set_option maxRecDepth 100000
set_option linter.unusedVariables false
set_option linter.unusedSimpArgs false
set_option maxHeartbeats 1000000 in
theorem timesTimes_ok (u n : Int) (w : World) (hF : FarAt w) : Calls Tryz.prog 10 #[spV (sq u), .int .i64 n] w fun e w' => e = .returned (.tuple #[spV (sq (u * n)), .nilIface]) ∧ Below w.heap.size w w' := by
  go_enter Tryz.func10, Tryz.ntmps10
  go_wp2_with fail
  refine (check_ok (sq u) _ (hF.below (balloc (below_alloc w _) _)) (sq_ok u)).mono ?_; rintro e w1 ⟨rfl, hb⟩
  obtain ⟨hc, hf⟩ := bcell hb
  have s0 : w.heap.size < w1.heap.size := by have := hb.size; simp at this; omega
  have s1 : w.heap.size + 1 < w1.heap.size := by have := hb.size; simp at this; omega
  have hbb := below_seq (balloc (below_alloc w _) _) hb
  clear hb
  go_wp2_with fail
  refine (timesOf_c u n _ (hF.below hbb)).mono ?_; rintro e w2 ⟨rfl, hb⟩
  obtain ⟨hc2, hf2⟩ := bcell hb
  have t1 : w.heap.size + 1 < w2.heap.size := Nat.lt_of_lt_of_le s1 hb.size
  have hb2 := below_seq hbb hb
  clear hb
  have r0 : w2.cell? ⟨w.heap.size + 1, 0, none⟩ = some (.int .i64 0) := by go_simp
  have r1 : w2.cell? ⟨w.heap.size + 1, 1, none⟩ = some (.int .i64 0) := by go_simp
  have r2 : w2.cell? ⟨w.heap.size + 1, 2, none⟩ = some (.bool false) := by go_simp
  go_wp2
  have k := set3_cell (w := w2) (x := .int .i64 (sq (u * n)).x) (y := .int .i64 (sq (u * n)).y) (z := .bool (sq (u * n)).far) r0 r1 r2
  refine bodyPost_ret (v := .tuple #[spV (sq (u * n)), .nilIface]) (by simp [results, Tryz.results10, go_sem, k.1, k.2.1, k.2.2]) rfl ⟨rfl, set3_below hb2 (by omega)⟩
set_option maxHeartbeats 1000000 in
theorem timesTimes_bad (s : Sp) (n : Int) (w : World) (hF : FarAt w) (h : sCheck s ≠ 0) : Calls Tryz.prog 10 #[spV s, .int .i64 n] w fun e w' => e = .returned (.tuple #[spV ⟨0, 0, false⟩, .iface 84 (.int .i64 (sCheck s))]) ∧ Below w.heap.size w w' := by
  go_enter Tryz.func10, Tryz.ntmps10
  go_wp2_with fail
  refine (check_bad s _ (hF.below (balloc (below_alloc w _) _)) h).mono ?_; rintro e w1 ⟨rfl, hb⟩
  obtain ⟨hc, hf⟩ := bcell hb
  have s0 : w.heap.size < w1.heap.size := by have := hb.size; simp at this; omega
  have s1 : w.heap.size + 1 < w1.heap.size := by have := hb.size; simp at this; omega
  have hbb := below_seq (balloc (below_alloc w _) _) hb
  clear hb
  have r0 : w1.cell? ⟨w.heap.size + 1, 0, none⟩ = some (.int .i64 0) := by go_simp
  have r1 : w1.cell? ⟨w.heap.size + 1, 1, none⟩ = some (.int .i64 0) := by go_simp
  have r2 : w1.cell? ⟨w.heap.size + 1, 2, none⟩ = some (.bool false) := by go_simp
  go_wp2
  have k := set3_cell (w := w1) (x := .int .i64 0) (y := .int .i64 0) (z := .bool false) r0 r1 r2
  refine bodyPost_ret (v := .tuple #[spV ⟨0, 0, false⟩, .iface 84 (.int .i64 (sCheck s))]) (by simp [results, Tryz.results10, go_sem, k.1, k.2.1, k.2.2]) rfl ⟨rfl, set3_below hbb (by omega)⟩
@[go_sem] theorem field_far (x y : Value) (f : Bool) (w : World) : Sem.run Tryz.prog (Instr.field 28 (.agg #[x, y, .bool f]) 2) w = .ok (.bool f) w := by kernel_rfl
theorem timesOf_v (u n : Int) (w : World) (hF : FarAt w) : Calls Tryz.prog 37 #[.agg #[.int .i64 (sq u).x, .int .i64 (sq u).y, .bool (sq u).far], .int .i64 n] w fun e w' => e = .returned (.agg #[.int .i64 (sq (u * n)).x, .int .i64 (sq (u * n)).y, .bool (sq (u * n)).far]) ∧ Below w.heap.size w w' := timesOf_c u n w hF
theorem timesInside_c (u : Int) (w : World) (hF : FarAt w) : Calls Tryz.prog 87 #[spV (sq u)] w fun e w' => e = .returned (.bool (sq (u * 1013)).far) ∧ Below w.heap.size w w' := by
  go_enter Tryz.func87, Tryz.ntmps87
  go_wp2_with fail
  refine (timesOf_v u 1013 _ (hF.below (below_alloc w _))).mono ?_; rintro e w1 ⟨rfl, hb⟩
  have hbb := below_seq (below_alloc w _) hb
  clear hb
  go_wp2
  go_ret
  exact ⟨rfl, hbb⟩
set_option maxHeartbeats 1000000 in
theorem timesOrder_bad (s : Sp) (w : World) (hF : FarAt w) (h : sCheck s ≠ 0) : Calls Tryz.prog 140 #[spV s] w fun e w' => e = .returned (.tuple #[.int .i64 0, .iface 84 (.int .i64 (sCheck s))]) ∧ Below w.heap.size w w' := by
  go_enter Tryz.func140, Tryz.ntmps140
  go_wp2_with fail
  refine (check_bad s _ (hF.below (below_alloc w _)) h).mono ?_; rintro e w1 ⟨rfl, hb⟩
  have hbb := below_seq (below_alloc w _) hb
  clear hb
  go_wp2
  go_ret2
  exact ⟨rfl, hbb⟩
/-- The order of the spot sq u, as it is looked for. -/
def ordOf (u : Int) : Int := if (sq (u * 1)).far = true then 1 else if (sq (u * 2)).far = true then 2 else if (sq (u * 4)).far = true then 4 else if (sq (u * 1013)).far = true then 1013 else if (sq (u * 2026)).far = true then 2026 else 4052
theorem ret_ord {a b : Int} (h : a = b) : Ending.returned (.tuple #[.int .i64 a, .nilIface]) = .returned (.tuple #[.int .i64 b, .nilIface]) := by rw [h]
def ordAt : Nat → Int
  | 0 => 1 | 1 => 2 | 2 => 4 | 3 => 1013 | _ => 2026
def notFar (u : Int) (n : Nat) : Prop := ∀ j, j < n → (sq (u * ordAt j)).far = false
theorem notFar_zero (u : Int) : Hid (notFar u 0) := fun j h => absurd h (by omega)
theorem notFar_succ {u : Int} {n : Nat} (h : notFar u n) (k : (sq (u * ordAt n)).far = false) : notFar u (n + 1) := fun j hj => by
  by_cases e : j < n
  · exact h j e
  · obtain rfl : j = n := by omega
    exact k
theorem notFar_0 {u : Int} (h : notFar u 0) (k : (sq (u * 1)).far = false) : Hid (notFar u (0 + 1)) := notFar_succ h k
theorem notFar_1 {u : Int} (h : notFar u 1) (k : (sq (u * 2)).far = false) : Hid (notFar u (1 + 1)) := notFar_succ h k
theorem notFar_2 {u : Int} (h : notFar u 2) (k : (sq (u * 4)).far = false) : Hid (notFar u (2 + 1)) := notFar_succ h k
theorem notFar_3 {u : Int} (h : notFar u 3) (k : (sq (u * 1013)).far = false) : Hid (notFar u (3 + 1)) := notFar_succ h k
theorem notFar_4 {u : Int} (h : notFar u 4) (k : (sq (u * 2026)).far = false) : Hid (notFar u (4 + 1)) := notFar_succ h k
theorem ord_0 {u : Int} (_h : notFar u 0) (k : (sq (u * 1)).far = true) : (1 : Int) = ordOf u := by
  unfold ordOf; simp only [k, if_true]
theorem ord_1 {u : Int} (h : notFar u 1) (k : (sq (u * 2)).far = true) : (2 : Int) = ordOf u := by
  have e0 : (sq (u * 1)).far = false := h 0 (by omega)
  unfold ordOf; simp only [e0, k, Bool.false_eq_true, if_false, if_true]
theorem ord_2 {u : Int} (h : notFar u 2) (k : (sq (u * 4)).far = true) : (4 : Int) = ordOf u := by
  have e0 : (sq (u * 1)).far = false := h 0 (by omega)
  have e1 : (sq (u * 2)).far = false := h 1 (by omega)
  unfold ordOf; simp only [e0, e1, k, Bool.false_eq_true, if_false, if_true]
theorem ord_3 {u : Int} (h : notFar u 3) (k : (sq (u * 1013)).far = true) : (1013 : Int) = ordOf u := by
  have e0 : (sq (u * 1)).far = false := h 0 (by omega)
  have e1 : (sq (u * 2)).far = false := h 1 (by omega)
  have e2 : (sq (u * 4)).far = false := h 2 (by omega)
  unfold ordOf; simp only [e0, e1, e2, k, Bool.false_eq_true, if_false, if_true]
theorem ord_4 {u : Int} (h : notFar u 4) (k : (sq (u * 2026)).far = true) : (2026 : Int) = ordOf u := by
  have e0 : (sq (u * 1)).far = false := h 0 (by omega)
  have e1 : (sq (u * 2)).far = false := h 1 (by omega)
  have e2 : (sq (u * 4)).far = false := h 2 (by omega)
  have e3 : (sq (u * 1013)).far = false := h 3 (by omega)
  unfold ordOf; simp only [e0, e1, e2, e3, k, Bool.false_eq_true, if_false, if_true]
theorem ord_5 {u : Int} (h : notFar u 5) : (4052 : Int) = ordOf u := by
  have e0 : (sq (u * 1)).far = false := h 0 (by omega)
  have e1 : (sq (u * 2)).far = false := h 1 (by omega)
  have e2 : (sq (u * 4)).far = false := h 2 (by omega)
  have e3 : (sq (u * 1013)).far = false := h 3 (by omega)
  have e4 : (sq (u * 2026)).far = false := h 4 (by omega)
  unfold ordOf; simp only [e0, e1, e2, e3, e4, Bool.false_eq_true, if_false]
set_option maxHeartbeats 4000000 in
theorem timesOrder_ok (u : Int) (w : World) (hF : FarAt w) : Calls Tryz.prog 140 #[spV (sq u)] w fun e w' => e = .returned (.tuple #[.int .i64 (ordOf u), .nilIface]) ∧ Below w.heap.size w w' := by
  go_enter Tryz.func140, Tryz.ntmps140
  go_wp2_with fail
  refine (check_ok (sq u) _ (hF.below (below_alloc w _)) (sq_ok u)).mono ?_; rintro e w1 ⟨rfl, hb⟩
  obtain ⟨hc, hf⟩ := bcell hb
  have s0 : w.heap.size < w1.heap.size := by have := hb.size; simp at this; omega
  have hbb := below_seq (below_alloc w _) hb
  have a0 : w1.cell? ⟨w.heap.size, 0, none⟩ = some (.int .i64 (sq u).x) := by go_simp
  have a1 : w1.cell? ⟨w.heap.size, 1, none⟩ = some (.int .i64 (sq u).y) := by go_simp
  have a2 : w1.cell? ⟨w.heap.size, 2, none⟩ = some (.bool (sq u).far) := by go_simp
  clear hb hc hf
  go_wp2
  have hW : Hid (Below w.heap.size w (w1.alloc (.cells #[.int .i64 1, .int .i64 2, .int .i64 4, .int .i64 1013, .int .i64 2026] 3))) := balloc hbb _
  have b0 : (w1.alloc (.cells #[.int .i64 1, .int .i64 2, .int .i64 4, .int .i64 1013, .int .i64 2026] 3)).cell? ⟨w.heap.size, 0, none⟩ = some (.int .i64 (sq u).x) := by go_simp
  have b1 : (w1.alloc (.cells #[.int .i64 1, .int .i64 2, .int .i64 4, .int .i64 1013, .int .i64 2026] 3)).cell? ⟨w.heap.size, 1, none⟩ = some (.int .i64 (sq u).y) := by go_simp
  have b2 : (w1.alloc (.cells #[.int .i64 1, .int .i64 2, .int .i64 4, .int .i64 1013, .int .i64 2026] 3)).cell? ⟨w.heap.size, 2, none⟩ = some (.bool (sq u).far) := by go_simp
  have l0 : (w1.alloc (.cells #[.int .i64 1, .int .i64 2, .int .i64 4, .int .i64 1013, .int .i64 2026] 3)).cell? ⟨w1.heap.size, 0, none⟩ = some (.int .i64 1) := by go_simp
  have l1 : (w1.alloc (.cells #[.int .i64 1, .int .i64 2, .int .i64 4, .int .i64 1013, .int .i64 2026] 3)).cell? ⟨w1.heap.size, 1, none⟩ = some (.int .i64 2) := by go_simp
  have l2 : (w1.alloc (.cells #[.int .i64 1, .int .i64 2, .int .i64 4, .int .i64 1013, .int .i64 2026] 3)).cell? ⟨w1.heap.size, 2, none⟩ = some (.int .i64 4) := by go_simp
  have l3 : (w1.alloc (.cells #[.int .i64 1, .int .i64 2, .int .i64 4, .int .i64 1013, .int .i64 2026] 3)).cell? ⟨w1.heap.size, 3, none⟩ = some (.int .i64 1013) := by go_simp
  have l4 : (w1.alloc (.cells #[.int .i64 1, .int .i64 2, .int .i64 4, .int .i64 1013, .int .i64 2026] 3)).cell? ⟨w1.heap.size, 4, none⟩ = some (.int .i64 2026) := by go_simp
  have z0 : w.heap.size < (w1.alloc (.cells #[.int .i64 1, .int .i64 2, .int .i64 4, .int .i64 1013, .int .i64 2026] 3)).heap.size := by simp; omega
  have z1 : w1.heap.size < (w1.alloc (.cells #[.int .i64 1, .int .i64 2, .int .i64 4, .int .i64 1013, .int .i64 2026] 3)).heap.size := by simp
  clear a0 a1 a2
  generalize w1.alloc (.cells #[.int .i64 1, .int .i64 2, .int .i64 4, .int .i64 1013, .int .i64 2026] 3) = W at *
  generalize w1.heap.size = k at *
  clear hbb s0
  go_loopw [14] (fun i wr => ∃ n : Nat, n ≤ 5 ∧ i = .int .i64 n ∧ Below W.heap.size W wr ∧ Hid (notFar u n)) (fun i _ => 5 - (intOf i).toNat)
  case atStart => exact ⟨0, by omega, rfl, Below.refl _ _, notFar_zero u⟩
  case round =>
    obtain ⟨n, hn, rfl, hb, hnf⟩ := hrel
    obtain ⟨hc, hf⟩ := bcell hb
    have m0 := (hc _ 0 z0).trans b0
    have m1 := (hc _ 1 z0).trans b1
    have m2 := (hc _ 2 z0).trans b2
    have hB := Lib.hid (hW.out.trans (hb.mono hW.out.size))
    have hFr := Lib.hid (hF.below hB.out)
    have hb' := Lib.hid hb
    have hsz := Lib.hid hb.size
    have hn5 : n = 0 ∨ n = 1 ∨ n = 2 ∨ n = 3 ∨ n = 4 ∨ n = 5 := by omega
    rcases hn5 with rfl | rfl | rfl | rfl | rfl | rfl
    · have m3 := (hc _ 0 z1).trans l0
      clear hc hf hb l0 l1 l2 l3 l4 b0 b1 b2 z0 z1
      cases hfar : (sq (u * 1)).far
      · go_wp2_with fail
        refine (timesOf_v u 1 _ hFr.out).mono ?_; rintro e w2 ⟨rfl, hb2⟩; rw [hfar]
        have hb3 := Lib.hid (hb'.out.trans (hb2.mono hb'.out.size))
        clear hb2
        go_wp2
        go_roundw
        case rel => exact ⟨0+1, by omega, by go_num, hb3.out, notFar_0 hnf.out hfar⟩
        case measure => simp [intOf]
      · go_wp2_with fail
        refine (timesOf_v u 1 _ hFr.out).mono ?_; rintro e w2 ⟨rfl, hb2⟩; rw [hfar]
        have hb3 := Lib.hid (below_seq hB.out hb2)
        clear hb2
        go_wp2
        go_ret2
        exact ⟨ret_ord (ord_0 hnf.out hfar), hb3.out⟩
    · have m3 := (hc _ 1 z1).trans l1
      clear hc hf hb l0 l1 l2 l3 l4 b0 b1 b2 z0 z1
      cases hfar : (sq (u * 2)).far
      · go_wp2_with fail
        refine (timesOf_v u 2 _ hFr.out).mono ?_; rintro e w2 ⟨rfl, hb2⟩; rw [hfar]
        have hb3 := Lib.hid (hb'.out.trans (hb2.mono hb'.out.size))
        clear hb2
        go_wp2
        go_roundw
        case rel => exact ⟨1+1, by omega, by go_num, hb3.out, notFar_1 hnf.out hfar⟩
        case measure => simp [intOf]
      · go_wp2_with fail
        refine (timesOf_v u 2 _ hFr.out).mono ?_; rintro e w2 ⟨rfl, hb2⟩; rw [hfar]
        have hb3 := Lib.hid (below_seq hB.out hb2)
        clear hb2
        go_wp2
        go_ret2
        exact ⟨ret_ord (ord_1 hnf.out hfar), hb3.out⟩
    · have m3 := (hc _ 2 z1).trans l2
      clear hc hf hb l0 l1 l2 l3 l4 b0 b1 b2 z0 z1
      cases hfar : (sq (u * 4)).far
      · go_wp2_with fail
        refine (timesOf_v u 4 _ hFr.out).mono ?_; rintro e w2 ⟨rfl, hb2⟩; rw [hfar]
        have hb3 := Lib.hid (hb'.out.trans (hb2.mono hb'.out.size))
        clear hb2
        go_wp2
        go_roundw
        case rel => exact ⟨2+1, by omega, by go_num, hb3.out, notFar_2 hnf.out hfar⟩
        case measure => simp [intOf]
      · go_wp2_with fail
        refine (timesOf_v u 4 _ hFr.out).mono ?_; rintro e w2 ⟨rfl, hb2⟩; rw [hfar]
        have hb3 := Lib.hid (below_seq hB.out hb2)
        clear hb2
        go_wp2
        go_ret2
        exact ⟨ret_ord (ord_2 hnf.out hfar), hb3.out⟩
    · have m3 := (hc _ 3 z1).trans l3
      clear hc hf hb l0 l1 l2 l3 l4 b0 b1 b2 z0 z1
      cases hfar : (sq (u * 1013)).far
      · go_wp2_with fail
        refine (timesOf_v u 1013 _ hFr.out).mono ?_; rintro e w2 ⟨rfl, hb2⟩; rw [hfar]
        have hb3 := Lib.hid (hb'.out.trans (hb2.mono hb'.out.size))
        clear hb2
        go_wp2
        go_roundw
        case rel => exact ⟨3+1, by omega, by go_num, hb3.out, notFar_3 hnf.out hfar⟩
        case measure => simp [intOf]
      · go_wp2_with fail
        refine (timesOf_v u 1013 _ hFr.out).mono ?_; rintro e w2 ⟨rfl, hb2⟩; rw [hfar]
        have hb3 := Lib.hid (below_seq hB.out hb2)
        clear hb2
        go_wp2
        go_ret2
        exact ⟨ret_ord (ord_3 hnf.out hfar), hb3.out⟩
    · have m3 := (hc _ 4 z1).trans l4
      clear hc hf hb l0 l1 l2 l3 l4 b0 b1 b2 z0 z1
      cases hfar : (sq (u * 2026)).far
      · go_wp2_with fail
        refine (timesOf_v u 2026 _ hFr.out).mono ?_; rintro e w2 ⟨rfl, hb2⟩; rw [hfar]
        have hb3 := Lib.hid (hb'.out.trans (hb2.mono hb'.out.size))
        clear hb2
        go_wp2
        go_roundw
        case rel => exact ⟨4+1, by omega, by go_num, hb3.out, notFar_4 hnf.out hfar⟩
        case measure => simp [intOf]
      · go_wp2_with fail
        refine (timesOf_v u 2026 _ hFr.out).mono ?_; rintro e w2 ⟨rfl, hb2⟩; rw [hfar]
        have hb3 := Lib.hid (below_seq hB.out hb2)
        clear hb2
        go_wp2
        go_ret2
        exact ⟨ret_ord (ord_4 hnf.out hfar), hb3.out⟩
    · go_wp2
      go_ret2
      exact ⟨ret_ord (ord_5 hnf.out), hB.out⟩
end Go.Proofs.YtjjmelhhalomaaaGreatDoor
