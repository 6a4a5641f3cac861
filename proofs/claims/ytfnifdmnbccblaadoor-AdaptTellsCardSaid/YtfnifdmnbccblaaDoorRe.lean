/- Walks of the document's answer, texts: Long, Number, Of. -/
import Derived.Test.YtfnifdmnbccblaaDoorRd
namespace Go.Proofs.YtfnifdmnbccblaaDoor
open Go.RowKit
set_option maxRecDepth 100000
set_option linter.unusedVariables false
set_option linter.unusedSimpArgs false
set_option maxHeartbeats 1000000 in
theorem refLong_c (s : ByteArray) (w : World) (hs : s.size ≤ 9223372036854775807) : Calls Tryd.prog 122 #[.string s] w fun e w' => e = .returned (.int .i64 (lng s.data.toList)) ∧ Below w.heap.size w w' := by
  have hlen : s.data.toList.length = s.size := rfl
  have HL := Lib.hid hlen; clear hlen
  go_enter Tryd.func122, Tryd.ntmps122
  go_wp2
  go_loop [3, 4] (fun n i => ∃ k : Nat, k ≤ s.size ∧ i = .int .i64 k ∧ n = .int .i64 (lng (s.data.toList.take k))) (fun _ i => s.size - (intOf i).toNat)
  case atStart => exact ⟨0, Nat.zero_le _, rfl, by rw [List.take_zero, lng_nil]⟩
  case round =>
    obtain ⟨k, hk, rfl, rfl⟩ := hrel
    have h1 := (lng_bd (s.data.toList.take k)).1
    have h2 := (lng_bd (s.data.toList.take k)).2
    by_cases hlt : k < s.size
    · have ht : Hid (lng (s.data.toList.take (k + 1)) = (lng (s.data.toList.take k) * 263 + ((s[k]'hlt).toNat : Int) + 1) % 1000003) := lng_take s.data.toList k (by have := HL.out; omega)
      have h3 : (s[k]'hlt).toNat < 256 := UInt8.toNat_lt _
      go_wp2
      go_round
      case rel => exact ⟨k + 1, by omega, by go_num, by rw [ht.out]⟩
      case measure => simp [intOf]; omega
    · go_wp2
      go_ret
      exact ⟨ret_int (by rw [List.take_of_length_le (by have := HL.out; omega)]), (by repeat (first | exact Below.refl _ _ | refine balloc ?_ _ | refine Below.drew ?_ | refine below_drewN ?_ _ | refine below_set ?_ (by first | omega | (dsimp only; omega)) _))⟩
theorem refNumber_c (s : ByteArray) (w : World) (hs : s.size ≤ 9223372036854775807) : Calls Tryd.prog 92 #[.string s] w fun e w' => e = .returned (.int .i64 (hnum s.data.toList)) ∧ Below w.heap.size w w' := by
  have h1 := (lng_bd s.data.toList).1
  have h2 := (lng_bd s.data.toList).2
  go_enter Tryd.func92, Tryd.ntmps92
  go_wp2_with fail
  refine (refLong_c s _ hs).mono ?_; rintro e w1 ⟨rfl, hb⟩
  obtain ⟨hc1, hf1⟩ := bcell hb
  have z1 := hb.size
  try simp only [World.size_alloc, World.size_setCell, World.size_drew] at z1
  have hB1 : Below w.heap.size w w1 := below_seq (by repeat (first | exact Below.refl _ _ | refine balloc ?_ _ | refine Below.drew ?_ | refine below_drewN ?_ _ | refine below_set ?_ (by first | omega | (dsimp only; omega)) _)) hb
  clear hb
  go_wp2
  go_ret
  exact ⟨rfl, (by repeat (first | exact hB1 | exact Below.refl _ _ | refine balloc ?_ _ | refine Below.drew ?_ | refine below_drewN ?_ _ | refine below_set ?_ (by first | omega | (dsimp only; omega)) _))⟩
set_option maxHeartbeats 1000000 in
theorem refOf_c (s : ByteArray) (w : World) (hF : FarAt w) (hs : s.size ≤ 140737488351232) : Calls Tryd.prog 70 #[.string s] w fun e w' => e = .returned (spV (hSpot s.data.toList)) ∧ Below w.heap.size w w' := by
  have hF' := Lib.hid hF
  clear hF
  go_enter Tryd.func70, Tryd.ntmps70
  go_wp2
  go_loopw [3] (fun i wr => ∃ k : Nat, k ≤ 256 ∧ i = .int .i64 k ∧ hGo s.data.toList (256 - k) k = hSpot s.data.toList ∧ SpAt wr w.heap.size ⟨0, 0, false⟩ ∧ Below w.heap.size w wr) (fun i _ => 256 - (intOf i).toNat)
  case atStart => exact ⟨0, by omega, rfl, rfl, SpAt.fresh _ _ _ _ _, below_alloc _ _⟩
  case round =>
    obtain ⟨k, hk, rfl, hgo, hr, hB⟩ := hrel
    have hgo := Lib.hid hgo
    by_cases hlt : k < 256
    · have hcv := conv1 (wr.alloc (.cells #[.int .u8 k] 5)) wr.heap.size k (by go_simp)
      have hsz := strOf1 (k : Int)
      have htb := Lib.hid (text_byte s k)
      have hl0 := (lng_bd (s.data.toList ++ [UInt8.ofNat k])).1
      have hl1 := (lng_bd (s.data.toList ++ [UInt8.ofNat k])).2
      go_wp2_with fail
      refine (refLong_c _ _ (by rw [ByteArray.size_append]; omega)).mono ?_; rintro e w1 ⟨rfl, hb⟩
      rw [htb.out]
      have hr1 := (hr.alloc _).below hb
      have hB1 := below_seq (balloc hB _) hb
      clear hr hb hB hcv
      go_wp2_with fail
      change Calls _ _ #[.int .i64 (hX s.data.toList k)] _ _
      cases hq : isSq (height (hX s.data.toList k))
      · refine (refLift_n _ _ (hX_in _ _) hq).mono ?_; rintro e w2 ⟨rfl, hb⟩
        have hr2 := hr1.below hb
        have hB2 := below_seq hB1 hb
        have hm := Lib.hid (hGo_miss hlt (Or.inl hq))
        clear hr1 hb hB1 hl0 hl1 hq
        go_wp2
        go_roundw
        case rel => exact ⟨k + 1, by omega, by go_num, by rw [← hm.out]; exact hgo.out, hr2.alloc _, balloc hB2 _⟩
        case measure => simp [intOf]; omega
      · refine (refLift_y _ (lifted (hX s.data.toList k)) _ (hX_in _ _) hq rfl).mono ?_; rintro e w2 ⟨rfl, hb⟩
        have hr2 := hr1.below hb
        have hB2 := below_seq hB1 hb
        have hok := lifted_ok (hX_in s.data.toList k) hq
        have hQ := Lib.hid hq
        clear hr1 hb hB1 hl0 hl1 hq
        generalize hL : lifted (hX s.data.toList k) = L at *
        have hL := Lib.hid hL
        go_wp2_with fail
        refine (refFour_c L _ hok).mono ?_; rintro e w3 ⟨rfl, hb⟩
        have hr3 := (hr2.alloc _).below hb
        have hB3 := below_seq (balloc hB2 _) hb
        clear hr2 hb hB2 hok
        cases hf : (sFour L).far
        · have hm : Hid (sFour L = hSpot s.data.toList) := by
            show _ = _
            rw [← hgo.out, hGo_hit hlt hQ.out (by rw [hL.out]; exact hf), hL.out]
          obtain ⟨r0, r1, r2, fr0, fr1, fr2, hrl⟩ := hr3
          generalize hS : sFour L = S at *
          have hS := Lib.hid hS
          go_wp2
          have k := set3_cell (w := w3) (x := .int .i64 S.x) (y := .int .i64 S.y) (z := .bool false) r0 r1 r2
          refine bodyPost_ret (v := spV S) (by simp [results, Tryd.results70, go_sem, k.1, k.2.1, k.2.2, hf, hrl]) rfl ⟨by rw [hm.out], balloc (set3_below hB3 (by omega)) _⟩
        · have hm := Lib.hid (hGo_miss hlt (Or.inr (by rw [hL.out]; exact hf)))
          go_wp2
          go_roundw
          case rel => exact ⟨k + 1, by omega, by go_num, by rw [← hm.out]; exact hgo.out, hr3.alloc _, balloc hB3 _⟩
          case measure => simp [intOf]; omega
    · obtain rfl : k = 256 := by omega
      have hm : Hid (sq 4 = hSpot s.data.toList) := by show _ = _; rw [← hgo.out, hGo_end]
      go_wp2_with fail
      refine (refBase_c _).mono ?_; rintro e w1 ⟨rfl, hb⟩
      have hr1 := hr.below hb
      have hB1 := below_seq hB hb
      clear hr hb hB
      obtain ⟨r0, r1, r2, fr0, fr1, fr2, hrl⟩ := hr1
      go_wp2
      have k := set3_cell (w := w1) (x := .int .i64 (sq 4).x) (y := .int .i64 (sq 4).y) (z := .bool (sq 4).far) r0 r1 r2
      refine bodyPost_ret (v := spV (sq 4)) (by simp [results, Tryd.results70, go_sem, k.1, k.2.1, k.2.2]) rfl ⟨by rw [hm.out], set3_below hB1 (by omega)⟩
end Go.Proofs.YtfnifdmnbccblaaDoor
