/- Walks of the document's answer, bytes: Bytes, Spots, List. -/
import Derived.Test.YtfnifdmnbccblaaDoorRc
import Derived.Test.YtfnifdmnbccblaaDoorBk
namespace Go.Proofs.YtfnifdmnbccblaaDoor
open Go.RowKit
set_option maxRecDepth 100000
set_option linter.unusedVariables false
set_option linter.unusedSimpArgs false
set_option maxHeartbeats 1000000 in
theorem refBytes_far (x y : Int) (w : World) : Calls Tryd.prog 93 #[.agg #[.int .i64 x, .int .i64 y, .bool true]] w fun e w' => e = .returned (.string ⟨#[0]⟩) ∧ Below w.heap.size w w' := by
  go_enter Tryd.func93, Tryd.ntmps93
  go_wp2
  go_ret
  exact ⟨rfl, (by repeat (first | exact Below.refl _ _ | refine balloc ?_ _ | refine Below.drew ?_ | refine below_drewN ?_ _ | refine below_set ?_ (by first | omega | (dsimp only; omega)) _))⟩
set_option maxHeartbeats 1000000 in
theorem refBytes_big (x y : Int) (w : World) (x0 : 0 ≤ x) (x1 : x < 4051) (y0 : 0 ≤ y) (y1 : y < 4051) (h : 4051 < 2 * y) : Calls Tryd.prog 93 #[.agg #[.int .i64 x, .int .i64 y, .bool false]] w fun e w' => e = .returned (.string (strOfNums [2, x / 256, x % 256])) ∧ Below w.heap.size w w' := by
  have hcv := conv3 ((w.alloc (.cells #[.int .i64 x, .int .i64 y, .bool false] 25)).alloc (.cells #[.int .u8 2, .int .u8 (x / 256), .int .u8 (x % 256)] 5)) (w.heap.size + 1) 2 (x / 256) (x % 256) (by go_simp) (by go_simp) (by go_simp)
  go_enter Tryd.func93, Tryd.ntmps93
  go_wp2
  go_ret
  exact ⟨rfl, balloc (below_alloc _ _) _⟩
set_option maxHeartbeats 1000000 in
theorem refBytes_small (x y : Int) (w : World) (x0 : 0 ≤ x) (x1 : x < 4051) (y0 : 0 ≤ y) (y1 : y < 4051) (h : ¬ 4051 < 2 * y) : Calls Tryd.prog 93 #[.agg #[.int .i64 x, .int .i64 y, .bool false]] w fun e w' => e = .returned (.string (strOfNums [1, x / 256, x % 256])) ∧ Below w.heap.size w w' := by
  have hcv := conv3 ((w.alloc (.cells #[.int .i64 x, .int .i64 y, .bool false] 25)).alloc (.cells #[.int .u8 1, .int .u8 (x / 256), .int .u8 (x % 256)] 5)) (w.heap.size + 1) 1 (x / 256) (x % 256) (by go_simp) (by go_simp) (by go_simp)
  go_enter Tryd.func93, Tryd.ntmps93
  go_wp2
  go_ret
  exact ⟨rfl, balloc (below_alloc _ _) _⟩
theorem big_iff {y : Int} (y0 : 0 ≤ y) (y1 : y < 4051) : pOf (-y) < y ↔ 4051 < 2 * y := by
  by_cases h : y = 0
  · subst h; unfold pOf; decide
  · have e : pOf (-y) = 4051 - y := by
      unfold pOf
      rw [show -y = (4051 - y) + 4051 * (-1) by omega, Int.add_mul_emod_self_left]
      exact Int.emod_eq_of_lt (by omega) (by omega)
    rw [e]; omega
theorem refBytes_c (s : Sp) (w : World) (h : Ok s) : Calls Tryd.prog 93 #[spV s] w fun e w' => e = .returned (.string (sBytes s)) ∧ Below w.heap.size w w' := by
  have x0 := h.x0; have x1 := h.x1; have y0 := h.y0; have y1 := h.y1
  obtain ⟨x, y, f⟩ := s
  simp only at x0 x1 y0 y1
  cases f
  · by_cases hy : pOf (-y) < y
    · have e : sBytes ⟨x, y, false⟩ = strOfNums [2, x / 256, x % 256] := by simp [sBytes, hy]
      rw [e]; exact refBytes_big x y w x0 x1 y0 y1 ((big_iff y0 y1).mp hy)
    · have e : sBytes ⟨x, y, false⟩ = strOfNums [1, x / 256, x % 256] := by simp [sBytes, hy]
      rw [e]; exact refBytes_small x y w x0 x1 y0 y1 (fun c => hy ((big_iff y0 y1).mpr c))
  · exact refBytes_far x y w
theorem refBytes_e (s : Sp) (B : ByteArray) (w : World) (h : Ok s) (hB : Hid (sBytes s = B)) : Calls Tryd.prog 93 #[spV s] w fun e w' => e = .returned (.string B) ∧ Below w.heap.size w w' := by
  have := refBytes_c s w h; rw [hB.out] at this; exact this
theorem refSpots_full (l : Nat) (a : Option Addr) (cap : Nat) (w : World) (hl : 12 < l) (hm : l ≤ 9223372036854775807) : Calls Tryd.prog 44 #[.slice a l cap] w fun e w' => e = .returned (.int .i64 4) ∧ Below w.heap.size w w' := by
  have hd : decide ((12 : Int) < (l : Int)) = true := by rw [decide_eq_true_iff]; omega
  go_enter Tryd.func44, Tryd.ntmps44
  go_wp2
  go_ret
  exact ⟨rfl, (by repeat (first | exact Below.refl _ _ | refine balloc ?_ _ | refine Below.drew ?_ | refine below_drewN ?_ _ | refine below_set ?_ (by first | omega | (dsimp only; omega)) _))⟩
theorem refSpots_nil (a : Option Addr) (cap : Nat) (w : World) : Calls Tryd.prog 44 #[.slice a 0 cap] w fun e w' => e = .returned (.int .i64 0) ∧ Below w.heap.size w w' := by
  go_enter Tryd.func44, Tryd.ntmps44
  go_wp2
  refine wp_loop_rounds 1 ?_
  rw [rounds_succ]
  go_wp2
  go_ret
  exact ⟨rfl, (by repeat (first | exact Below.refl _ _ | refine balloc ?_ _ | refine Below.drew ?_ | refine below_drewN ?_ _ | refine below_set ?_ (by first | omega | (dsimp only; omega)) _))⟩
set_option maxHeartbeats 1000000 in
theorem refSpots_core (l : List Sp) (b off cap : Nat) (w : World) (hl : l.length ≤ 12) (hs : SpotsAt w b off l) (k : Nat) (hk : k ≤ l.length) (R : Int) (hok : Hid (∀ i (h : i < l.length), i < k → sCheck l[i] = 0))
    (hbad : Hid (∀ h : k < l.length, (sCheck l[k] != 0) = true ∧ R = sCheck l[k])) (hend : Hid (k = l.length → R = 0)) :
    Calls Tryd.prog 44 #[.slice (some ⟨b, off, none⟩) l.length cap] w fun e w' => e = .returned (.int .i64 R) ∧ Below w.heap.size w w' := by
  have hd : decide ((12 : Int) < (l.length : Int)) = false := by rw [decide_eq_false_iff_not]; omega
  have hss := Lib.hid hs
  clear hs
  go_enter Tryd.func44, Tryd.ntmps44
  go_wp2
  go_loopw [3] (fun i wr => ∃ n : Nat, n ≤ k ∧ i = .int .i64 n ∧ Below w.heap.size w wr) (fun i _ => l.length - (intOf i).toNat)
  case atStart => exact ⟨0, Nat.zero_le _, rfl, Below.refl _ _⟩
  case round =>
    obtain ⟨n, hn, rfl, hb⟩ := hrel
    have hsr := hss.out.below hb
    by_cases hlt : n < l.length
    · have h1 := hsr.cx n hlt
      have h2 := hsr.cy n hlt
      have h3 := hsr.cf n hlt
      clear hsr
      by_cases hnk : n < k
      · have ho := Lib.hid (hok.out n hlt hnk)
        go_wp2_with fail
        refine (refSpot_e l[n] 0 _ ho).mono ?_; rintro e w1 ⟨rfl, hb1⟩
        clear h1 h2 h3
        go_wp2
        go_roundw
        case rel => exact ⟨n + 1, by omega, by go_num, below_seq hb hb1⟩
        case measure => simp [intOf]; omega
      · obtain rfl : n = k := by omega
        obtain ⟨hbd, hR⟩ := hbad.out hlt
        replace hR := Lib.hid hR
        go_wp2_with fail
        refine (refSpot_c l[n] _).mono ?_; rintro e w1 ⟨rfl, hb1⟩
        clear h1 h2 h3
        go_wp2
        go_ret
        exact ⟨ret_int hR.out.symm, below_seq hb hb1⟩
    · have hkl : k = l.length := by omega
      have hR := Lib.hid (hend.out hkl)
      clear hkl
      go_wp2
      go_ret
      exact ⟨ret_int hR.out.symm, hb⟩
set_option maxHeartbeats 1000000 in
theorem refList_nil (a : Option Addr) (cap : Nat) (w : World) : Calls Tryd.prog 102 #[.slice a 0 cap] w fun e w' => e = .returned (.string (strOfNums [0])) ∧ Below w.heap.size w w' := by
  have hcv := conv1 (w.alloc (.cells #[.int .u8 0] 5)) w.heap.size 0 (by go_simp)
  go_enter Tryd.func102, Tryd.ntmps102
  go_wp2
  refine wp_loop_rounds 1 ?_
  rw [rounds_succ]
  go_wp2
  go_ret
  exact ⟨rfl, below_alloc _ _⟩
set_option maxHeartbeats 1000000 in
theorem refList_ok (l : List Sp) (b off cap : Nat) (w : World) (hl : l.length ≤ 12) (hs : SpotsAt w b off l) (h : Hid (∀ i (h : i < l.length), Ok l[i])) :
    Calls Tryd.prog 102 #[.slice (some ⟨b, off, none⟩) l.length cap] w fun e w' => e = .returned (.string (lsB l.length l)) ∧ Below w.heap.size w w' := by
  have hcv := conv1 (w.alloc (.cells #[.int .u8 l.length] 5)) w.heap.size l.length (by go_simp)
  go_enter Tryd.func102, Tryd.ntmps102
  go_wp2
  have hss := Lib.hid (hs.below (below_alloc w (.cells #[.int .u8 l.length] 5)))
  have hBs := Lib.hid (below_alloc w (.cells #[.int .u8 l.length] 5))
  clear hcv hs
  generalize w.alloc (.cells #[.int .u8 l.length] 5) = w0 at *
  go_loopw [4, 5] (fun o i wr => ∃ n : Nat, n ≤ l.length ∧ i = .int .i64 n ∧ o = .string (lsB l.length (l.take n)) ∧ Below w0.heap.size w0 wr) (fun _ i _ => l.length - (intOf i).toNat)
  case atStart => exact ⟨0, Nat.zero_le _, rfl, rfl, Below.refl _ _⟩
  case round =>
    obtain ⟨n, hn, rfl, rfl, hb⟩ := hrel
    have hsr := hss.out.below hb
    by_cases hlt : n < l.length
    · have h1 := hsr.cx n hlt
      have h2 := hsr.cy n hlt
      have h3 := hsr.cf n hlt
      clear hsr
      have ho := h.out n hlt
      have hsn := Lib.hid (lsB_snoc l.length l n hlt)
      go_wp2_with fail
      refine (refBytes_c l[n] _ ho).mono ?_; rintro e w1 ⟨rfl, hb1⟩
      clear h1 h2 h3 ho
      have hz1 := lsB_size l.length (l.take n)
      have hz2 := sBytes_size l[n]
      have hz3 : (l.take n).length ≤ 12 := by rw [List.length_take]; omega
      have hz4 : (lsB l.length (l.take n)).size ≤ 37 := by omega
      clear hz1 hz3
      go_wp2
      go_roundw
      case rel => exact ⟨n + 1, by omega, by go_num, by rw [hsn.out], below_seq hb hb1⟩
      case measure => simp [intOf]; omega
    · have ht : Hid (l.take n = l) := List.take_of_length_le (by omega)
      go_wp2
      go_ret
      exact ⟨ret_string (by rw [ht.out]), below_seq hBs.out hb⟩
end Go.Proofs.YtfnifdmnbccblaaDoor
