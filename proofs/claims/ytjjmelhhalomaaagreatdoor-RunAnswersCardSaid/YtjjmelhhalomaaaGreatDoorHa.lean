/- Walks of layer hash: the number of a text, and its spot. -/
import Derived.Test.YtjjmelhhalomaaaGreatDoorWh
import Derived.Test.YtjjmelhhalomaaaGreatDoorTb
import Derived.Test.YtjjmelhhalomaaaGreatDoorLs
import Derived.Lib.SmallJoins
namespace Go.Proofs.YtjjmelhhalomaaaGreatDoor
open Go.RowKit
set_option maxRecDepth 100000
set_option linter.unusedVariables false
set_option linter.unusedSimpArgs false
def hnum (l : List UInt8) : Int := lng l % 1013
theorem hnum_bd (l : List UInt8) : 0 ≤ hnum l ∧ hnum l < 1013 := by unfold hnum; omega
set_option maxHeartbeats 400000 in
theorem hashNumber_c (s : ByteArray) (w : World) (hs : s.size ≤ 9223372036854775807) : Calls Tryz.prog 94 #[.string s] w fun e w' => e = .returned (.int .i64 (hnum s.data.toList)) ∧ Below w.heap.size w w' := by
  have h0 := (lng_bd s.data.toList).1
  have h1 := (lng_bd s.data.toList).2
  go_enter Tryz.func94, Tryz.ntmps94
  go_wp2_with fail
  refine (hashLong_c s _ hs).mono ?_; rintro e w1 ⟨rfl, hb⟩
  obtain ⟨hc1, hf1⟩ := bcell hb
  have z1 := hb.size
  try simp only [World.size_alloc, World.size_setCell, World.size_drew] at z1
  have hB1 : Below w.heap.size w w1 := below_seq (by repeat (first | exact Below.refl _ _ | refine balloc ?_ _ | refine Below.drew ?_ | refine below_drewN ?_ _ | refine below_set ?_ (by first | omega | (dsimp only; omega)) _)) hb
  clear hb
  go_wp2
  go_ret
  exact ⟨rfl, (by repeat (first | exact hB1 | exact Below.refl _ _ | refine balloc ?_ _ | refine Below.drew ?_ | refine below_drewN ?_ _ | refine below_set ?_ (by first | omega | (dsimp only; omega)) _))⟩
/-- Four times a spot that is right, as the program does it. -/
theorem timesFour_c (s : Sp) (w : World) (hF : FarAt w) (h : Ok s) : Calls Tryz.prog 37 #[spV s, .int .i64 4] w fun e w' => e = .returned (spV (sFour s)) ∧ Below w.heap.size w w' := by
  obtain ⟨u, -, -, rfl⟩ := sq_all h
  rw [four_sq]; exact timesOf_c u 4 w hF
theorem lift_yes' (x : Int) (w : World) (h : inside x = true) (hs : isSq (height x) = true) : Calls Tryz.prog 38 #[.int .i64 x] w fun e w' => e = .returned (.tuple #[spV (lifted x), .nilIface]) ∧ Below w.heap.size w w' := lift_yes x w h hs
def hX (l : List UInt8) (k : Nat) : Int := lng (l ++ [UInt8.ofNat k]) % 4051
theorem hX_in (l : List UInt8) (k : Nat) : inside (hX l k) = true := ins_iff.mpr (by unfold hX; omega)
/-- The spot of a text: the search from k on. -/
def hGo (l : List UInt8) : Nat → Nat → Sp
  | 0, _ => sq 4
  | n+1, k => if isSq (height (hX l k)) = true ∧ (sFour (lifted (hX l k))).far = false then sFour (lifted (hX l k)) else hGo l n (k+1)
def hSpot (l : List UInt8) : Sp := hGo l 256 0
theorem hGo_four (l : List UInt8) : ∀ n k, ∃ j : Int, 1 ≤ j ∧ j < 1013 ∧ hGo l n k = sq (4 * j)
  | 0, k => ⟨1, by omega, by omega, rfl⟩
  | n+1, k => by
    by_cases h : isSq (height (hX l k)) = true ∧ (sFour (lifted (hX l k))).far = false
    · obtain ⟨j, h0, h1, e⟩ := four_all (lifted_ok (hX_in l k) h.1)
      exact ⟨j, four_far h0 h1 e h.2, h1, by unfold hGo; rw [if_pos h, e]⟩
    · obtain ⟨j, h0, h1, e⟩ := hGo_four l n (k+1)
      exact ⟨j, h0, h1, by unfold hGo; rw [if_neg h, e]⟩
theorem hSpot_four (l : List UInt8) : ∃ j : Int, 1 ≤ j ∧ j < 1013 ∧ hSpot l = sq (4 * j) := hGo_four l 256 0
theorem hSpot_ok (l : List UInt8) : Ok (hSpot l) := by obtain ⟨j, -, -, e⟩ := hSpot_four l; rw [e]; exact sq_ok _
theorem hGo_hit {l : List UInt8} {k : Nat} (hk : k < 256) (h1 : isSq (height (hX l k)) = true) (h2 : (sFour (lifted (hX l k))).far = false) : hGo l (256 - k) k = sFour (lifted (hX l k)) := by
  rw [show 256 - k = (255 - k) + 1 by omega, hGo, if_pos ⟨h1, h2⟩]
theorem hGo_miss {l : List UInt8} {k : Nat} (hk : k < 256) (h : isSq (height (hX l k)) = false ∨ (sFour (lifted (hX l k))).far = true) : hGo l (256 - k) k = hGo l (256 - (k + 1)) (k + 1) := by
  rw [show 256 - k = (255 - k) + 1 by omega, hGo, if_neg, show 256 - (k + 1) = 255 - k by omega]
  intro ⟨a, b⟩; rcases h with h | h
  · rw [h] at a; cases a
  · rw [h] at b; cases b
theorem hGo_end (l : List UInt8) : hGo l (256 - 256) 256 = sq 4 := rfl
theorem text_byte (s : ByteArray) (k : Nat) : (s ++ strOfNums [(k : Int)]).data.toList = s.data.toList ++ [UInt8.ofNat k] := by
  rw [Joins.data_append, strOfNums_data]; simp
theorem strOf1 (k : Int) : (strOfNums [k]).size ≤ 1 := by rw [strOfNums_size]; exact Nat.le_refl _
set_option maxHeartbeats 2000000 in
theorem hashSpot_c (s : ByteArray) (w : World) (hF : FarAt w) (hs : s.size ≤ 140737488351232) : Calls Tryz.prog 92 #[.string s] w fun e w' => e = .returned (spV (hSpot s.data.toList)) ∧ Below w.heap.size w w' := by
  have hF' := Lib.hid hF
  clear hF
  go_enter Tryz.func92, Tryz.ntmps92
  go_wp2
  go_loopw [7] (fun i wr => ∃ k : Nat, k ≤ 256 ∧ i = .int .i64 k ∧ hGo s.data.toList (256 - k) k = hSpot s.data.toList ∧ SpAt wr w.heap.size ⟨0, 0, false⟩ ∧ Below w.heap.size w wr) (fun i _ => 256 - (intOf i).toNat)
  case atStart => exact ⟨0, by omega, rfl, rfl, SpAt.fresh _ _ _ _ _, below_alloc _ _⟩
  case round =>
    obtain ⟨k, hk, rfl, hgo, hr, hB⟩ := hrel
    have hgo := Lib.hid hgo
    by_cases hlt : k < 256
    · have hcv := conv1 (wr.alloc (.cells #[.int .u8 k] 5)) wr.heap.size k (by go_simp)
      have hsz := strOf1 (k : Int)
      have htb := Lib.hid (text_byte s k)
      have hl0 := (lng_bd (s.data.toList ++ [UInt8.ofNat k])).1
      have hl1 := (lng_bd (s.data.toList ++ [UInt8.ofNat k])).2
      go_wp2_with fail
      refine (hashLong_c _ _ (by rw [ByteArray.size_append]; omega)).mono ?_; rintro e w1 ⟨rfl, hb⟩
      rw [htb.out]
      have hr1 := (hr.alloc _).below hb
      have hB1 := below_seq (balloc hB _) hb
      clear hr hb hB hcv
      go_wp2_with fail
      change Calls _ _ #[.int .i64 (hX s.data.toList k)] _ _
      cases hq : isSq (height (hX s.data.toList k))
      · refine (lift_no _ _ (hX_in _ _) hq).mono ?_; rintro e w2 ⟨rfl, hb⟩
        have hr2 := hr1.below hb
        have hB2 := below_seq hB1 hb
        have hm := Lib.hid (hGo_miss hlt (Or.inl hq))
        clear hr1 hb hB1 hl0 hl1 hq
        go_wp2
        go_roundw
        case rel => exact ⟨k + 1, by omega, by go_num, by rw [← hm.out]; exact hgo.out, hr2.alloc _, balloc hB2 _⟩
        case measure => simp [intOf]; omega
      · refine (lift_yes' _ _ (hX_in _ _) hq).mono ?_; rintro e w2 ⟨rfl, hb⟩
        have hr2 := hr1.below hb
        have hB2 := below_seq hB1 hb
        have hok := lifted_ok (hX_in s.data.toList k) hq
        have hQ := Lib.hid hq
        clear hr1 hb hB1 hl0 hl1 hq
        generalize hL : lifted (hX s.data.toList k) = L at *
        have hL := Lib.hid hL
        go_wp2_with fail
        refine (timesFour_c L _ (hF'.out.below (by exact balloc hB2 _)) hok).mono ?_; rintro e w3 ⟨rfl, hb⟩
        have hr3 := (hr2.alloc _).below hb
        have hB3 := below_seq (balloc hB2 _) hb
        clear hr2 hb hB2 hok
        cases hf : (sFour L).far
        · have hm : Hid (sFour L = hSpot s.data.toList) := by
            show _ = _
            rw [← hgo.out, hGo_hit hlt hQ.out (by rw [hL.out]; exact hf), hL.out]
          obtain ⟨r0, r1, r2, fr0, fr1, fr2, hrl⟩ := hr3
          generalize hS : sFour L = S at *
          have hS := Lib.hid hS
          go_wp2
          have k := set3_cell (w := w3) (x := .int .i64 S.x) (y := .int .i64 S.y) (z := .bool false) r0 r1 r2
          refine bodyPost_ret (v := spV S) (by simp [results, Tryz.results92, go_sem, k.1, k.2.1, k.2.2, hf, hrl]) rfl ⟨by rw [hm.out], balloc (set3_below hB3 (by omega)) _⟩
        · have hm := Lib.hid (hGo_miss hlt (Or.inr (by rw [hL.out]; exact hf)))
          go_wp2
          go_roundw
          case rel => exact ⟨k + 1, by omega, by go_num, by rw [← hm.out]; exact hgo.out, hr3.alloc _, balloc hB3 _⟩
          case measure => simp [intOf]; omega
    · obtain rfl : k = 256 := by omega
      have hm : Hid (sq 4 = hSpot s.data.toList) := by show _ = _; rw [← hgo.out, hGo_end]
      go_wp2_with fail
      refine (base_c _ (hF'.out.below hB)).mono ?_; rintro e w1 ⟨rfl, hb⟩
      have hr1 := hr.below hb
      have hB1 := below_seq hB hb
      clear hr hb hB
      obtain ⟨r0, r1, r2, fr0, fr1, fr2, hrl⟩ := hr1
      go_wp2
      have k := set3_cell (w := w1) (x := .int .i64 (sq 4).x) (y := .int .i64 (sq 4).y) (z := .bool (sq 4).far) r0 r1 r2
      refine bodyPost_ret (v := spV (sq 4)) (by simp [results, Tryz.results92, go_sem, k.1, k.2.1, k.2.2]) rfl ⟨by rw [hm.out], set3_below hB1 (by omega)⟩
end Go.Proofs.YtjjmelhhalomaaaGreatDoor
