/- Texts of this claim, in one. -/
import Derived.Test.YtjnmknhfmmdoiaaDoorWs
import Derived.Test.YtjnmknhfmmdoiaaDoorWl
import Derived.Test.YtjnmknhfmmdoiaaDoorLf
import Derived.Deep.DeepCutAuto
import Derived.Deep.RegionWith
import Derived.Test.YtjnmknhfmmdoiaaDoorRd
import Derived.Test.YtjnmknhfmmdoiaaDoorRc
import Derived.Laws.Entries
import Derived.Test.YtjnmknhfmmdoiaaDoorWr
import Derived.Test.YtjnmknhfmmdoiaaDoorKe
import Derived.Test.YtjnmknhfmmdoiaaDoorTn
import Derived.Test.YtjnmknhfmmdoiaaDoorSv
import Derived.Test.YtjnmknhfmmdoiaaDoorEm
import Derived.BigQuiet
import Derived.Test.YtjnmknhfmmdoiaaDoorSt
import Derived.Test.YtjnmknhfmmdoiaaDoorTb
namespace Go.Proofs.YtjnmknhfmmdoiaaDoor
open Go.RowKit
set_option maxRecDepth 100000
set_option linter.unusedVariables false
set_option linter.unusedSimpArgs false
def LiftIs (x : Int) (L : Sp) (E : Value) : Prop := ∀ w : World, Calls Tryd.prog 79 #[.int .i64 x] w fun e w' => e = .returned (.tuple #[spV L, E]) ∧ Below w.heap.size w w'
theorem wrap_two (c d : UInt8) : IntKind.i64.wrap (IntKind.i64.wrap (IntKind.i64.wrap (c.toNat : Int) * 256) + IntKind.i64.wrap (d.toNat : Int)) = (c.toNat : Int) * 256 + (d.toNat : Int) := by
  have := c.toNat_lt; have := d.toNat_lt
  rw [IntWalk.i64_in (c.toNat : Int) (by omega), IntWalk.i64_in (d.toNat : Int) (by omega), IntWalk.i64_in ((c.toNat : Int) * 256) (by omega), IntWalk.i64_in _ (by omega)]
/-- What Unpack makes of three bytes whose place lifts to L, with error E. -/
def unS (c0 : UInt8) (L : Sp) : Sp := if c0.toNat = 2 then sTurned L else L
end Go.Proofs.YtjnmknhfmmdoiaaDoor
namespace Go.Proofs.YtjnmknhfmmdoiaaDoor
open Go.RowKit
set_option maxRecDepth 100000
set_option linter.unusedVariables false
set_option linter.unusedSimpArgs false
def unpackR : List UInt8 → Option Sp
  | [c] => if c = 0 then some sFar else none
  | [c0, c1, c2] => if inside ((c1.toNat : Int) * 256 + (c2.toNat : Int)) = true ∧ isSq (height ((c1.toNat : Int) * 256 + (c2.toNat : Int))) = true then
      (if ((sBytes (unS c0 (lifted ((c1.toNat : Int) * 256 + (c2.toNat : Int))))).toList == [c0, c1, c2]) = true then some (unS c0 (lifted ((c1.toNat : Int) * 256 + (c2.toNat : Int)))) else none) else none
  | _ => none
theorem unpackR_three (c0 c1 c2 : UInt8) : unpackR [c0, c1, c2] = if inside ((c1.toNat : Int) * 256 + (c2.toNat : Int)) = true ∧ isSq (height ((c1.toNat : Int) * 256 + (c2.toNat : Int))) = true then
      (if ((sBytes (unS c0 (lifted ((c1.toNat : Int) * 256 + (c2.toNat : Int))))).toList == [c0, c1, c2]) = true then some (unS c0 (lifted ((c1.toNat : Int) * 256 + (c2.toNat : Int)))) else none) else none := rfl
def unV : Option Sp → Value
  | some s => .tuple #[spV s, .nilIface]
  | none => .tuple #[spV ⟨0, 0, false⟩, .iface 95 (.int .i64 2)]
end Go.Proofs.YtjnmknhfmmdoiaaDoor
namespace Go.Proofs.YtjnmknhfmmdoiaaDoor
open Go.RowKit
set_option maxRecDepth 100000
set_option linter.unusedVariables false
set_option linter.unusedSimpArgs false
/-- Two bytes of a place are it again. -/
theorem two_bytes {x : Int} (h0 : 0 ≤ x) (h1 : x < 4051) : ((UInt8.ofNat (x / 256).toNat).toNat : Int) * 256 + ((UInt8.ofNat (x % 256).toNat).toNat : Int) = x := by
  rw [UInt8.toNat_ofNat', UInt8.toNat_ofNat']; omega
theorem sBytes_far {s : Sp} (hf : s.far = true) : (sBytes s).data.toList = [0] := by unfold sBytes; rw [if_pos hf]
theorem sBytes_big {s : Sp} (hf : s.far = false) (hy : pOf (-s.y) < s.y) : (sBytes s).data.toList = [2, UInt8.ofNat (s.x / 256).toNat, UInt8.ofNat (s.x % 256).toNat] := by
  unfold sBytes; rw [if_neg (by rw [hf]; decide), if_pos hy, strOfNums_data]; rfl
theorem sBytes_small {s : Sp} (hf : s.far = false) (hy : ¬ pOf (-s.y) < s.y) : (sBytes s).data.toList = [1, UInt8.ofNat (s.x / 256).toNat, UInt8.ofNat (s.x % 256).toNat] := by
  unfold sBytes; rw [if_neg (by rw [hf]; decide), if_neg hy, strOfNums_data]; rfl
theorem unpack_sBytes {s : Sp} (h : Ok s) : unpackR (sBytes s).data.toList = some s := by
  cases hf : s.far
  · have hx := two_bytes h.x0 h.x1
    have hs := ok_isSq h hf
    by_cases hy : pOf (-s.y) < s.y
    · rw [sBytes_big hf hy, unpackR_three, hx, if_pos ⟨h.ins, hs⟩]
      have e : unS 2 (lifted s.x) = s := by unfold unS; rw [if_pos (by decide)]; exact (lifted_gt h hf hy).symm
      rw [e, if_pos]; rw [ByteArray.toList_eq, sBytes_big hf hy]; simp
    · rw [sBytes_small hf hy, unpackR_three, hx, if_pos ⟨h.ins, hs⟩]
      have e : unS 1 (lifted s.x) = s := by unfold unS; rw [if_neg (by decide)]; exact (lifted_le h hf (by omega)).symm
      rw [e, if_pos]; rw [ByteArray.toList_eq, sBytes_small hf hy]; simp
  · rw [sBytes_far hf]; show (if (0 : UInt8) = 0 then some sFar else none) = some s
    rw [if_pos rfl, h.far_eq hf]
theorem unpack_some {l : List UInt8} {s : Sp} (h : unpackR l = some s) : Ok s ∧ (sBytes s).data.toList = l := by
  match l, h with
  | [c], h =>
    have h : (if c = 0 then some sFar else none) = some s := h
    split at h
    · rename_i e; cases h; exact ⟨ok_far, by rw [sBytes_far rfl, e]⟩
    · cases h
  | [c0, c1, c2], h =>
    rw [unpackR_three] at h
    split at h
    · rename_i hi
      split at h
      · rename_i he
        have hl := lifted_ok hi.1 hi.2
        rw [ByteArray.toList_eq] at he
        cases h
        refine ⟨?_, by simpa using he⟩
        unfold unS; split
        · exact (turned_ok hl).1
        · exact hl
      · cases h
    · cases h
  | [], h => cases h
  | [_, _], h => cases h
  | _ :: _ :: _ :: _ :: _, h => cases h
theorem bytes_ext {a b : ByteArray} (h : a.data.toList = b.data.toList) : a = b := by
  obtain ⟨⟨x⟩⟩ := a; obtain ⟨⟨y⟩⟩ := b; simp only at h; rw [h]
theorem sBytes_inj {s t : Sp} (hs : Ok s) (ht : Ok t) (h : sBytes s = sBytes t) : s = t := by
  have := unpack_sBytes hs; rw [h, unpack_sBytes ht] at this; exact (Option.some.inj this).symm
end Go.Proofs.YtjnmknhfmmdoiaaDoor
namespace Go.Proofs.YtjnmknhfmmdoiaaDoor
open Go.RowKit
set_option maxRecDepth 100000
set_option linter.unusedVariables false
set_option linter.unusedSimpArgs false
set_option maxHeartbeats 1000000 in
theorem refLong_c (s : ByteArray) (w : World) (hs : s.size ≤ 9223372036854775807) : Calls Tryd.prog 105 #[.string s] w fun e w' => e = .returned (.int .i64 (lng s.data.toList)) ∧ Below w.heap.size w w' := by
  have hlen : s.data.toList.length = s.size := rfl
  have HL := Lib.hid hlen; clear hlen
  go_enter Tryd.func105, Tryd.ntmps105
  go_wp2
  go_loop [3, 4] (fun n i => ∃ k : Nat, k ≤ s.size ∧ i = .int .i64 k ∧ n = .int .i64 (lng (s.data.toList.take k))) (fun _ i => s.size - (intOf i).toNat)
  case atStart => exact ⟨0, Nat.zero_le _, rfl, by rw [List.take_zero, lng_nil]⟩
  case round =>
    obtain ⟨k, hk, rfl, rfl⟩ := hrel
    have h1 := (lng_bd (s.data.toList.take k)).1
    have h2 := (lng_bd (s.data.toList.take k)).2
    by_cases hlt : k < s.size
    · have ht : Hid (lng (s.data.toList.take (k + 1)) = (lng (s.data.toList.take k) * 263 + ((s[k]'hlt).toNat : Int) + 1) % 1000003) := lng_take s.data.toList k (by have := HL.out; omega)
      have h3 : (s[k]'hlt).toNat < 256 := UInt8.toNat_lt _
      go_wp2
      go_round
      case rel => exact ⟨k + 1, by omega, by go_num, by rw [ht.out]⟩
      case measure => simp [intOf]; omega
    · go_wp2
      go_ret
      exact ⟨ret_int (by rw [List.take_of_length_le (by have := HL.out; omega)]), (by repeat (first | exact Below.refl _ _ | refine balloc ?_ _ | refine Below.drew ?_ | refine below_drewN ?_ _ | refine below_set ?_ (by first | omega | (dsimp only; omega)) _))⟩
theorem refNumber_c (s : ByteArray) (w : World) (hs : s.size ≤ 9223372036854775807) : Calls Tryd.prog 83 #[.string s] w fun e w' => e = .returned (.int .i64 (hnum s.data.toList)) ∧ Below w.heap.size w w' := by
  have h1 := (lng_bd s.data.toList).1
  have h2 := (lng_bd s.data.toList).2
  go_enter Tryd.func83, Tryd.ntmps83
  go_wp2_with fail
  refine (refLong_c s _ hs).mono ?_; rintro e w1 ⟨rfl, hb⟩
  obtain ⟨hc1, hf1⟩ := bcell hb
  have z1 := hb.size
  try simp only [World.size_alloc, World.size_setCell, World.size_drew] at z1
  have hB1 : Below w.heap.size w w1 := below_seq (by repeat (first | exact Below.refl _ _ | refine balloc ?_ _ | refine Below.drew ?_ | refine below_drewN ?_ _ | refine below_set ?_ (by first | omega | (dsimp only; omega)) _)) hb
  clear hb
  go_wp2
  go_ret
  exact ⟨rfl, (by repeat (first | exact hB1 | exact Below.refl _ _ | refine balloc ?_ _ | refine Below.drew ?_ | refine below_drewN ?_ _ | refine below_set ?_ (by first | omega | (dsimp only; omega)) _))⟩
end Go.Proofs.YtjnmknhfmmdoiaaDoor
namespace Go.Proofs.YtjnmknhfmmdoiaaDoor
open Go.RowKit
set_option maxRecDepth 100000
set_option linter.unusedVariables false
set_option linter.unusedSimpArgs false
set_option maxHeartbeats 1000000 in
theorem refBytes_far (x y : Int) (w : World) : Calls Tryd.prog 89 #[.agg #[.int .i64 x, .int .i64 y, .bool true]] w fun e w' => e = .returned (.string ⟨#[0]⟩) ∧ Below w.heap.size w w' := by
  go_enter Tryd.func89, Tryd.ntmps89
  go_wp2
  go_ret
  exact ⟨rfl, (by repeat (first | exact Below.refl _ _ | refine balloc ?_ _ | refine Below.drew ?_ | refine below_drewN ?_ _ | refine below_set ?_ (by first | omega | (dsimp only; omega)) _))⟩
set_option maxHeartbeats 1000000 in
theorem refBytes_big (x y : Int) (w : World) (x0 : 0 ≤ x) (x1 : x < 4051) (y0 : 0 ≤ y) (y1 : y < 4051) (h : 4051 < 2 * y) : Calls Tryd.prog 89 #[.agg #[.int .i64 x, .int .i64 y, .bool false]] w fun e w' => e = .returned (.string (strOfNums [2, x / 256, x % 256])) ∧ Below w.heap.size w w' := by
  have hcv := conv3 ((w.alloc (.cells #[.int .i64 x, .int .i64 y, .bool false] 29)).alloc (.cells #[.int .u8 2, .int .u8 (x / 256), .int .u8 (x % 256)] 5)) (w.heap.size + 1) 2 (x / 256) (x % 256) (by go_simp) (by go_simp) (by go_simp)
  go_enter Tryd.func89, Tryd.ntmps89
  go_wp2
  go_ret
  exact ⟨rfl, balloc (below_alloc _ _) _⟩
set_option maxHeartbeats 1000000 in
theorem refBytes_small (x y : Int) (w : World) (x0 : 0 ≤ x) (x1 : x < 4051) (y0 : 0 ≤ y) (y1 : y < 4051) (h : ¬ 4051 < 2 * y) : Calls Tryd.prog 89 #[.agg #[.int .i64 x, .int .i64 y, .bool false]] w fun e w' => e = .returned (.string (strOfNums [1, x / 256, x % 256])) ∧ Below w.heap.size w w' := by
  have hcv := conv3 ((w.alloc (.cells #[.int .i64 x, .int .i64 y, .bool false] 29)).alloc (.cells #[.int .u8 1, .int .u8 (x / 256), .int .u8 (x % 256)] 5)) (w.heap.size + 1) 1 (x / 256) (x % 256) (by go_simp) (by go_simp) (by go_simp)
  go_enter Tryd.func89, Tryd.ntmps89
  go_wp2
  go_ret
  exact ⟨rfl, balloc (below_alloc _ _) _⟩
theorem big_iff {y : Int} (y0 : 0 ≤ y) (y1 : y < 4051) : pOf (-y) < y ↔ 4051 < 2 * y := by
  by_cases h : y = 0
  · subst h; unfold pOf; decide
  · have e : pOf (-y) = 4051 - y := by
      unfold pOf
      rw [show -y = (4051 - y) + 4051 * (-1) by omega, Int.add_mul_emod_self_left]
      exact Int.emod_eq_of_lt (by omega) (by omega)
    rw [e]; omega
theorem refBytes_c (s : Sp) (w : World) (h : Ok s) : Calls Tryd.prog 89 #[spV s] w fun e w' => e = .returned (.string (sBytes s)) ∧ Below w.heap.size w w' := by
  have x0 := h.x0; have x1 := h.x1; have y0 := h.y0; have y1 := h.y1
  obtain ⟨x, y, f⟩ := s
  simp only at x0 x1 y0 y1
  cases f
  · by_cases hy : pOf (-y) < y
    · have e : sBytes ⟨x, y, false⟩ = strOfNums [2, x / 256, x % 256] := by simp [sBytes, hy]
      rw [e]; exact refBytes_big x y w x0 x1 y0 y1 ((big_iff y0 y1).mp hy)
    · have e : sBytes ⟨x, y, false⟩ = strOfNums [1, x / 256, x % 256] := by simp [sBytes, hy]
      rw [e]; exact refBytes_small x y w x0 x1 y0 y1 (fun c => hy ((big_iff y0 y1).mpr c))
  · exact refBytes_far x y w
theorem refBytes_e (s : Sp) (B : ByteArray) (w : World) (h : Ok s) (hB : Hid (sBytes s = B)) : Calls Tryd.prog 89 #[spV s] w fun e w' => e = .returned (.string B) ∧ Below w.heap.size w w' := by
  have := refBytes_c s w h; rw [hB.out] at this; exact this
theorem refSpots_full (l : Nat) (a : Option Addr) (cap : Nat) (w : World) (hl : 12 < l) (hm : l ≤ 9223372036854775807) : Calls Tryd.prog 28 #[.slice a l cap] w fun e w' => e = .returned (.int .i64 4) ∧ Below w.heap.size w w' := by
  have hd : decide ((12 : Int) < (l : Int)) = true := by rw [decide_eq_true_iff]; omega
  go_enter Tryd.func28, Tryd.ntmps28
  go_wp2
  go_ret
  exact ⟨rfl, (by repeat (first | exact Below.refl _ _ | refine balloc ?_ _ | refine Below.drew ?_ | refine below_drewN ?_ _ | refine below_set ?_ (by first | omega | (dsimp only; omega)) _))⟩
theorem refSpots_nil (a : Option Addr) (cap : Nat) (w : World) : Calls Tryd.prog 28 #[.slice a 0 cap] w fun e w' => e = .returned (.int .i64 0) ∧ Below w.heap.size w w' := by
  go_enter Tryd.func28, Tryd.ntmps28
  go_wp2
  refine wp_loop_rounds 1 ?_
  rw [rounds_succ]
  go_wp2
  go_ret
  exact ⟨rfl, (by repeat (first | exact Below.refl _ _ | refine balloc ?_ _ | refine Below.drew ?_ | refine below_drewN ?_ _ | refine below_set ?_ (by first | omega | (dsimp only; omega)) _))⟩
set_option maxHeartbeats 1000000 in
theorem refSpots_core (l : List Sp) (b off cap : Nat) (w : World) (hl : l.length ≤ 12) (hs : SpotsAt w b off l) (k : Nat) (hk : k ≤ l.length) (R : Int) (hok : Hid (∀ i (h : i < l.length), i < k → sCheck l[i] = 0))
    (hbad : Hid (∀ h : k < l.length, (sCheck l[k] != 0) = true ∧ R = sCheck l[k])) (hend : Hid (k = l.length → R = 0)) :
    Calls Tryd.prog 28 #[.slice (some ⟨b, off, none⟩) l.length cap] w fun e w' => e = .returned (.int .i64 R) ∧ Below w.heap.size w w' := by
  have hd : decide ((12 : Int) < (l.length : Int)) = false := by rw [decide_eq_false_iff_not]; omega
  have hss := Lib.hid hs
  clear hs
  go_enter Tryd.func28, Tryd.ntmps28
  go_wp2
  go_loopw [3] (fun i wr => ∃ n : Nat, n ≤ k ∧ i = .int .i64 n ∧ Below w.heap.size w wr) (fun i _ => l.length - (intOf i).toNat)
  case atStart => exact ⟨0, Nat.zero_le _, rfl, Below.refl _ _⟩
  case round =>
    obtain ⟨n, hn, rfl, hb⟩ := hrel
    have hsr := hss.out.below hb
    by_cases hlt : n < l.length
    · have h1 := hsr.cx n hlt
      have h2 := hsr.cy n hlt
      have h3 := hsr.cf n hlt
      clear hsr
      by_cases hnk : n < k
      · have ho := Lib.hid (hok.out n hlt hnk)
        go_wp2_with fail
        refine (refSpot_e l[n] 0 _ ho).mono ?_; rintro e w1 ⟨rfl, hb1⟩
        clear h1 h2 h3
        go_wp2
        go_roundw
        case rel => exact ⟨n + 1, by omega, by go_num, below_seq hb hb1⟩
        case measure => simp [intOf]; omega
      · obtain rfl : n = k := by omega
        obtain ⟨hbd, hR⟩ := hbad.out hlt
        replace hR := Lib.hid hR
        go_wp2_with fail
        refine (refSpot_c l[n] _).mono ?_; rintro e w1 ⟨rfl, hb1⟩
        clear h1 h2 h3
        go_wp2
        go_ret
        exact ⟨ret_int hR.out.symm, below_seq hb hb1⟩
    · have hkl : k = l.length := by omega
      have hR := Lib.hid (hend.out hkl)
      clear hkl
      go_wp2
      go_ret
      exact ⟨ret_int hR.out.symm, hb⟩
set_option maxHeartbeats 1000000 in
theorem refList_nil (a : Option Addr) (cap : Nat) (w : World) : Calls Tryd.prog 84 #[.slice a 0 cap] w fun e w' => e = .returned (.string (strOfNums [0])) ∧ Below w.heap.size w w' := by
  have hcv := conv1 (w.alloc (.cells #[.int .u8 0] 5)) w.heap.size 0 (by go_simp)
  go_enter Tryd.func84, Tryd.ntmps84
  go_wp2
  refine wp_loop_rounds 1 ?_
  rw [rounds_succ]
  go_wp2
  go_ret
  exact ⟨rfl, below_alloc _ _⟩
set_option maxHeartbeats 1000000 in
theorem refList_ok (l : List Sp) (b off cap : Nat) (w : World) (hl : l.length ≤ 12) (hs : SpotsAt w b off l) (h : Hid (∀ i (h : i < l.length), Ok l[i])) :
    Calls Tryd.prog 84 #[.slice (some ⟨b, off, none⟩) l.length cap] w fun e w' => e = .returned (.string (lsB l.length l)) ∧ Below w.heap.size w w' := by
  have hcv := conv1 (w.alloc (.cells #[.int .u8 l.length] 5)) w.heap.size l.length (by go_simp)
  go_enter Tryd.func84, Tryd.ntmps84
  go_wp2
  have hss := Lib.hid (hs.below (below_alloc w (.cells #[.int .u8 l.length] 5)))
  have hBs := Lib.hid (below_alloc w (.cells #[.int .u8 l.length] 5))
  clear hcv hs
  generalize w.alloc (.cells #[.int .u8 l.length] 5) = w0 at *
  go_loopw [4, 5] (fun o i wr => ∃ n : Nat, n ≤ l.length ∧ i = .int .i64 n ∧ o = .string (lsB l.length (l.take n)) ∧ Below w0.heap.size w0 wr) (fun _ i _ => l.length - (intOf i).toNat)
  case atStart => exact ⟨0, Nat.zero_le _, rfl, rfl, Below.refl _ _⟩
  case round =>
    obtain ⟨n, hn, rfl, rfl, hb⟩ := hrel
    have hsr := hss.out.below hb
    by_cases hlt : n < l.length
    · have h1 := hsr.cx n hlt
      have h2 := hsr.cy n hlt
      have h3 := hsr.cf n hlt
      clear hsr
      have ho := h.out n hlt
      have hsn := Lib.hid (lsB_snoc l.length l n hlt)
      go_wp2_with fail
      refine (refBytes_c l[n] _ ho).mono ?_; rintro e w1 ⟨rfl, hb1⟩
      clear h1 h2 h3 ho
      have hz1 := lsB_size l.length (l.take n)
      have hz2 := sBytes_size l[n]
      have hz3 : (l.take n).length ≤ 12 := by rw [List.length_take]; omega
      have hz4 : (lsB l.length (l.take n)).size ≤ 37 := by omega
      clear hz1 hz3
      go_wp2
      go_roundw
      case rel => exact ⟨n + 1, by omega, by go_num, by rw [hsn.out], below_seq hb hb1⟩
      case measure => simp [intOf]; omega
    · have ht : Hid (l.take n = l) := List.take_of_length_le (by omega)
      go_wp2
      go_ret
      exact ⟨ret_string (by rw [ht.out]), below_seq hBs.out hb⟩
end Go.Proofs.YtjnmknhfmmdoiaaDoor
namespace Go.Proofs.YtjnmknhfmmdoiaaDoor
open Go.RowKit
set_option maxRecDepth 100000
set_option linter.unusedVariables false
set_option linter.unusedSimpArgs false
theorem ord_dvd {u n : Int} (d : Int) (h1 : 1 ≤ n) (hn : (sq (u * n)).far = true) (hm : ∀ j : Int, 1 ≤ j → j < n → (sq (u * j)).far = false) : (sq (u * d)).far = true ↔ d % n = 0 := by
  have a := sq_far.mp hn
  constructor
  · intro h
    have b := sq_far.mp h
    by_cases e : d % n = 0
    · exact e
    · exfalso
      have r0 : 0 ≤ d % n := Int.emod_nonneg _ (by omega)
      have r1 : d % n < n := Int.emod_lt_of_pos _ (by omega)
      have k := hm (d % n) (by omega) r1
      have e3 : (u * (d % n)) % 4052 = 0 := by
        have e2 : u * (d % n) = u * d - u * n * (d / n) := by rw [Int.emod_def, Int.mul_sub, Int.mul_assoc]
        obtain ⟨x, hx⟩ := Int.dvd_of_emod_eq_zero a
        obtain ⟨y, hy⟩ := Int.dvd_of_emod_eq_zero b
        rw [e2, hx, hy, Int.mul_assoc, ← Int.mul_sub]; exact Int.mul_emod_right _ _
      rw [sq_far.mpr e3] at k; exact Bool.noConfusion k
  · intro h
    apply sq_far.mpr
    obtain ⟨x, hx⟩ := Int.dvd_of_emod_eq_zero a
    obtain ⟨y, hy⟩ := Int.dvd_of_emod_eq_zero h
    rw [hy, ← Int.mul_assoc, hx, Int.mul_assoc]; exact Int.mul_emod_right _ _
def dNat (m : Nat) : Bool := 4052 % m != 0 || m == 1 || m == 2 || m == 4 || m == 1013 || m == 2026 || m == 4052
theorem d_0 : allB dNat 0 2000 = true := by decide +kernel
theorem d_1 : allB dNat 2000 2053 = true := by decide +kernel
theorem div_52 {n : Int} (h1 : 1 ≤ n) (h : 4052 % n = 0) : n = 1 ∨ n = 2 ∨ n = 4 ∨ n = 1013 ∨ n = 2026 ∨ n = 4052 := by
  have hd : n ≤ 4052 := Int.le_of_dvd (by decide) (Int.dvd_of_emod_eq_zero h)
  have key : dNat n.toNat = true := by
    by_cases c : n < 2000
    · exact allB_at dNat 0 2000 d_0 n.toNat (by omega) (by omega)
    · exact allB_at dNat 2000 2053 d_1 n.toNat (by omega) (by omega)
  have hz : (4052 % n.toNat : Nat) = 0 := by
    have : ((4052 % n.toNat : Nat) : Int) = 0 := by rw [Int.natCast_emod, Int.toNat_of_nonneg (by omega)]; exact h
    omega
  unfold dNat at key
  rw [hz] at key
  simp at key
  omega
theorem ord_is {u n : Int} (h1 : 1 ≤ n) (hn : (sq (u * n)).far = true) (hm : ∀ j : Int, 1 ≤ j → j < n → (sq (u * j)).far = false) : n = ordOf u := by
  have dv := fun d => ord_dvd (u := u) d h1 hn hm
  have full : (sq (u * 4052)).far = true := sq_far.mpr (Int.mul_emod_left _ _)
  have six := div_52 h1 ((dv 4052).mp full)
  unfold ordOf
  simp only [dv]
  rcases six with rfl | rfl | rfl | rfl | rfl | rfl <;> decide
theorem refBase_k (w : World) : Calls Tryd.prog 86 #[] w fun e w' => e = .returned (spV ⟨1189, 3667, false⟩) ∧ Below w.heap.size w w' := by
  have := refBase_c w; rw [sq_4] at this; exact this
end Go.Proofs.YtjnmknhfmmdoiaaDoor
namespace Go.Proofs.YtjnmknhfmmdoiaaDoor
open Go.RowKit
set_option maxRecDepth 100000
set_option linter.unusedVariables false
set_option linter.unusedSimpArgs false
set_option maxHeartbeats 400000 in
theorem rSecret_y (n : Int) (w : World) (h1 : 1 ≤ n) (h2 : n < 1013) : Calls Tryd.prog 32 #[.int .i64 n] w fun e w' => e = .returned (.bool true) ∧ w = w' := by
  go_enter Tryd.func32, Tryd.ntmps32
  go_wp2
  go_ret
  exact ⟨rfl, rfl⟩
set_option maxHeartbeats 400000 in
theorem rSecret_n (n : Int) (w : World) (h : ¬ (1 ≤ n ∧ n < 1013)) : Calls Tryd.prog 32 #[.int .i64 n] w fun e w' => e = .returned (.bool false) ∧ w = w' := by
  by_cases h1 : 1 ≤ n
  · have h2 : ¬ n < 1013 := fun c => h ⟨h1, c⟩
    clear h
    go_enter Tryd.func32, Tryd.ntmps32
    go_wp2
    go_ret
    exact ⟨rfl, rfl⟩
  · clear h
    go_enter Tryd.func32, Tryd.ntmps32
    go_wp2
    go_ret
    exact ⟨rfl, rfl⟩
set_option maxHeartbeats 400000 in
theorem rRest_y (n : Int) (w : World) (h1 : 0 ≤ n) (h2 : n < 1013) : Calls Tryd.prog 37 #[.int .i64 n] w fun e w' => e = .returned (.bool true) ∧ w = w' := by
  go_enter Tryd.func37, Tryd.ntmps37
  go_wp2
  go_ret
  exact ⟨rfl, rfl⟩
set_option maxHeartbeats 400000 in
theorem rRest_n (n : Int) (w : World) (h : ¬ (0 ≤ n ∧ n < 1013)) : Calls Tryd.prog 37 #[.int .i64 n] w fun e w' => e = .returned (.bool false) ∧ w = w' := by
  by_cases h1 : 0 ≤ n
  · have h2 : ¬ n < 1013 := fun c => h ⟨h1, c⟩
    clear h
    go_enter Tryd.func37, Tryd.ntmps37
    go_wp2
    go_ret
    exact ⟨rfl, rfl⟩
  · clear h
    go_enter Tryd.func37, Tryd.ntmps37
    go_wp2
    go_ret
    exact ⟨rfl, rfl⟩
/-- Both, as Booleans. -/
def secB (n : Int) : Bool := decide (1 ≤ n ∧ n < 1013)
def resB (n : Int) : Bool := decide (0 ≤ n ∧ n < 1013)
theorem rSecret_b (n : Int) (b : Bool) (w : World) (h : Hid (secB n = b)) : Calls Tryd.prog 32 #[.int .i64 n] w fun e w' => e = .returned (.bool b) ∧ w = w' := by
  rw [← h.out]; unfold secB
  by_cases c : 1 ≤ n ∧ n < 1013
  · rw [decide_eq_true c]; exact rSecret_y n w c.1 c.2
  · rw [decide_eq_false c]; exact rSecret_n n w c
theorem rRest_b (n : Int) (b : Bool) (w : World) (h : Hid (resB n = b)) : Calls Tryd.prog 37 #[.int .i64 n] w fun e w' => e = .returned (.bool b) ∧ w = w' := by
  rw [← h.out]; unfold resB
  by_cases c : 0 ≤ n ∧ n < 1013
  · rw [decide_eq_true c]; exact rRest_y n w c.1 c.2
  · rw [decide_eq_false c]; exact rRest_n n w c
theorem refTimes_b (n : Int) (c : Sp) (w : World) (n0 : -9223372036854775808 ≤ n) (n1 : n ≤ 9223372036854775807) (h : Hid (sq (4 * n) = c)) : Calls Tryd.prog 35 #[spV ⟨1189, 3667, false⟩, .int .i64 n] w fun e w' => e = .returned (spV c) ∧ Below w.heap.size w w' :=
  refTimes_e ⟨1189, 3667, false⟩ c 4 n w n0 n1 sq_4.symm h
set_option maxHeartbeats 1000000 in
theorem refBy_e (n : Int) (c : Sp) (w : World) (n0 : -9223372036854775808 ≤ n) (n1 : n ≤ 9223372036854775807) (h : Hid (sq (4 * n) = c)) : Calls Tryd.prog 34 #[.int .i64 n] w fun e w' => e = .returned (spV c) ∧ Below w.heap.size w w' := by
  go_enter Tryd.func34, Tryd.ntmps34
  go_wp2_with fail
  refine (refBase_k _).mono ?_; rintro e w1 ⟨rfl, hb⟩
  obtain ⟨hc1, hf1⟩ := bcell hb
  have z1 := hb.size
  try simp only [World.size_alloc, World.size_setCell, World.size_drew] at z1
  have s1_0 : w.heap.size < w1.heap.size := by omega
  have hB1 : Below w.heap.size w w1 := below_seq (by repeat (first | exact Below.refl _ _ | refine balloc ?_ _ | refine Below.drew ?_ | refine below_drewN ?_ _ | refine below_set ?_ (by first | omega | (dsimp only; omega)) _)) hb
  clear hb
  go_wp2_with fail
  refine (refTimes_b n c _ n0 n1 h).mono ?_; rintro e w2 ⟨rfl, hb⟩
  obtain ⟨hc2, hf2⟩ := bcell hb
  have z2 := hb.size
  try simp only [World.size_alloc, World.size_setCell, World.size_drew] at z2
  have s2_0 : w.heap.size < w2.heap.size := by omega
  have hB2 : Below w.heap.size w w2 := below_seq (by repeat (first | exact hB1 | exact Below.refl _ _ | refine balloc ?_ _ | refine Below.drew ?_ | refine below_drewN ?_ _ | refine below_set ?_ (by first | omega | (dsimp only; omega)) _)) hb
  clear hb
  have r0 : w2.cell? ⟨w.heap.size, 0, none⟩ = some (.int .i64 0) := by go_simp
  have r1 : w2.cell? ⟨w.heap.size, 1, none⟩ = some (.int .i64 0) := by go_simp
  have r2 : w2.cell? ⟨w.heap.size, 2, none⟩ = some (.bool false) := by go_simp
  go_wp2
  have k := set3_cell (w := w2) (x := .int .i64 (c).x) (y := .int .i64 (c).y) (z := .bool (c).far) r0 r1 r2
  refine bodyPost_ret (v := spV (c)) (by simp [results, Tryd.results34, go_sem, k.1, k.2.1, k.2.2]) rfl ⟨rfl, set3_below (by repeat (first | exact hB2 | exact Below.refl _ _ | refine balloc ?_ _ | refine Below.drew ?_ | refine below_drewN ?_ _ | refine below_set ?_ (by first | omega | (dsimp only; omega)) _)) (by omega)⟩
set_option maxHeartbeats 2000000 in
theorem refSum_e (n m u : Int) (s A B C : Sp) (w : World) (n0 : -9223372036854775808 ≤ n) (n1 : n ≤ 9223372036854775807) (m0 : -9223372036854775808 ≤ m) (m1 : m ≤ 9223372036854775807) (hs : Hid (s = sq u)) (hA : Hid (sq (4 * n) = A)) (hB' : Hid (sq (u * m) = B)) (oA : Ok A) (oB : Ok B) (hC : Hid (sSum A B = C)) : Calls Tryd.prog 43 #[.int .i64 n, .int .i64 m, spV s] w fun e w' => e = .returned (spV C) ∧ Below w.heap.size w w' := by
  go_enter Tryd.func43, Tryd.ntmps43
  go_wp2_with fail
  refine (refBase_k _).mono ?_; rintro e w1 ⟨rfl, hb⟩
  obtain ⟨hc1, hf1⟩ := bcell hb
  have z1 := hb.size
  try simp only [World.size_alloc, World.size_setCell, World.size_drew] at z1
  have s1_0 : w.heap.size < w1.heap.size := by omega
  have s1_1 : w.heap.size + 1 < w1.heap.size := by omega
  have hB1 : Below w.heap.size w w1 := below_seq (by repeat (first | exact Below.refl _ _ | refine balloc ?_ _ | refine Below.drew ?_ | refine below_drewN ?_ _ | refine below_set ?_ (by first | omega | (dsimp only; omega)) _)) hb
  clear hb
  go_wp2_with fail
  refine (refTimes_b n A _ n0 n1 hA).mono ?_; rintro e w2 ⟨rfl, hb⟩
  obtain ⟨hc2, hf2⟩ := bcell hb
  have z2 := hb.size
  try simp only [World.size_alloc, World.size_setCell, World.size_drew] at z2
  have s2_0 : w.heap.size < w2.heap.size := by omega
  have s2_1 : w.heap.size + 1 < w2.heap.size := by omega
  have hB2 : Below w.heap.size w w2 := below_seq (by repeat (first | exact hB1 | exact Below.refl _ _ | refine balloc ?_ _ | refine Below.drew ?_ | refine below_drewN ?_ _ | refine below_set ?_ (by first | omega | (dsimp only; omega)) _)) hb
  clear hb
  go_wp2_with fail
  refine (refTimes_e s B u m _ m0 m1 hs hB').mono ?_; rintro e w3 ⟨rfl, hb⟩
  obtain ⟨hc3, hf3⟩ := bcell hb
  have z3 := hb.size
  try simp only [World.size_alloc, World.size_setCell, World.size_drew] at z3
  have s3_0 : w.heap.size < w3.heap.size := by omega
  have s3_1 : w.heap.size + 1 < w3.heap.size := by omega
  have s3_2 : w2.heap.size < w3.heap.size := by omega
  have hB3 : Below w.heap.size w w3 := below_seq (by repeat (first | exact hB2 | exact Below.refl _ _ | refine balloc ?_ _ | refine Below.drew ?_ | refine below_drewN ?_ _ | refine below_set ?_ (by first | omega | (dsimp only; omega)) _)) hb
  clear hb
  have m3_0_0 : w3.cell? ⟨w2.heap.size, 0, none⟩ = some (.int .i64 A.x) := by go_simp
  have m3_0_1 : w3.cell? ⟨w2.heap.size, 1, none⟩ = some (.int .i64 A.y) := by go_simp
  have m3_0_2 : w3.cell? ⟨w2.heap.size, 2, none⟩ = some (.bool A.far) := by go_simp
  go_wp2_with fail
  refine (refAdd_e A B C _ oA oB hC).mono ?_; rintro e w4 ⟨rfl, hb⟩
  obtain ⟨hc4, hf4⟩ := bcell hb
  have z4 := hb.size
  try simp only [World.size_alloc, World.size_setCell, World.size_drew] at z4
  have s4_0 : w.heap.size < w4.heap.size := by omega
  have s4_1 : w.heap.size + 1 < w4.heap.size := by omega
  have s4_2 : w2.heap.size < w4.heap.size := by omega
  have s4_3 : w3.heap.size < w4.heap.size := by omega
  have hB4 : Below w.heap.size w w4 := below_seq (by repeat (first | exact hB3 | exact Below.refl _ _ | refine balloc ?_ _ | refine Below.drew ?_ | refine below_drewN ?_ _ | refine below_set ?_ (by first | omega | (dsimp only; omega)) _)) hb
  clear hb
  have m4_0_0 : w4.cell? ⟨w2.heap.size, 0, none⟩ = some (.int .i64 A.x) := by go_simp
  have m4_0_1 : w4.cell? ⟨w2.heap.size, 1, none⟩ = some (.int .i64 A.y) := by go_simp
  have m4_0_2 : w4.cell? ⟨w2.heap.size, 2, none⟩ = some (.bool A.far) := by go_simp
  have m4_1_0 : w4.cell? ⟨w3.heap.size, 0, none⟩ = some (.int .i64 B.x) := by go_simp
  have m4_1_1 : w4.cell? ⟨w3.heap.size, 1, none⟩ = some (.int .i64 B.y) := by go_simp
  have m4_1_2 : w4.cell? ⟨w3.heap.size, 2, none⟩ = some (.bool B.far) := by go_simp
  clear m3_0_0 m3_0_1 m3_0_2
  have r0 : w4.cell? ⟨w.heap.size + 1, 0, none⟩ = some (.int .i64 0) := by go_simp
  have r1 : w4.cell? ⟨w.heap.size + 1, 1, none⟩ = some (.int .i64 0) := by go_simp
  have r2 : w4.cell? ⟨w.heap.size + 1, 2, none⟩ = some (.bool false) := by go_simp
  go_wp2
  have k := set3_cell (w := w4) (x := .int .i64 (C).x) (y := .int .i64 (C).y) (z := .bool (C).far) r0 r1 r2
  refine bodyPost_ret (v := spV (C)) (by simp [results, Tryd.results43, go_sem, k.1, k.2.1, k.2.2]) rfl ⟨rfl, set3_below (by repeat (first | exact hB4 | exact Below.refl _ _ | refine balloc ?_ _ | refine Below.drew ?_ | refine below_drewN ?_ _ | refine below_set ?_ (by first | omega | (dsimp only; omega)) _)) (by omega)⟩
set_option maxHeartbeats 1000000 in
theorem rAsk_e (r key : Sp) (t : ByteArray) (c : Int) (w : World) (hr : Ok r) (hk : Ok key) (hz : t.size ≤ 60) (h : Hid (askN r key t.data.toList = c)) : Calls Tryd.prog 42 #[spV r, spV key, .string t] w fun e w' => e = .returned (.int .i64 c) ∧ Below w.heap.size w w' := by
  rw [← h.out]
  have z1 := sBytes_size r
  have z2 := sBytes_size key
  have n1 : ¬ (9223372036854775807 < (sBytes r).size + (sBytes key).size) := by omega
  have n2 : ¬ (9223372036854775807 < (sBytes r).size + (sBytes key).size + t.size) := by omega
  have z4 : Hid ((sBytes r ++ sBytes key ++ t).size ≤ 9223372036854775807) := by show _ ≤ _; rw [ByteArray.size_append, ByteArray.size_append]; omega
  go_enter Tryd.func42, Tryd.ntmps42
  go_wp2_with fail
  refine wp_region_grow Tryd.mixed (by kernel_rfl) ?_
  repeat (quiet_step ((first | (go_at_call 89; exact grow_of (refBytes_c _ _ (by assumption))) | (go_at_call 83; exact grow_of (refNumber_c _ _ z4.out)))))
  refine wpQuiet_nil ?_
  intro _ hw'
  obtain ⟨x, rfl⟩ := hw'
  go_wp2
  go_ret
  exact ⟨rfl, below_seq (balloc (below_alloc _ _) _) x.h⟩
end Go.Proofs.YtjnmknhfmmdoiaaDoor
namespace Go.Proofs.YtjnmknhfmmdoiaaDoor
open Go.RowKit
set_option maxRecDepth 100000
set_option linter.unusedVariables false
set_option linter.unusedSimpArgs false
set_option maxHeartbeats 1000000 in
theorem rEqAsk_e (a b c r s : Sp) (N : Int) (w : World) (h : Hid (∀ z ∈ [a, b, c, r, s], Ok z)) (hN : Hid (ask5 [a, b, c, r, s] = N)) : Calls Tryd.prog 29 #[spV a, spV b, spV c, spV r, spV s] w fun e w' => e = .returned (.int .i64 N) ∧ Below w.heap.size w w' := by
  have hz := lsB_size 5 [a, b, c, r, s]
  simp only [List.length_cons, List.length_nil] at hz
  go_enter Tryd.func29, Tryd.ntmps29
  go_wp2_with fail
  refine (refList_ok [a, b, c, r, s] _ 0 5 _ (by simp) (spots_at _ [a, b, c, r, s] _ _ _ (by simp) rfl) (ok_all h.out)).mono ?_; rintro e w1 ⟨rfl, hb⟩
  obtain ⟨hc1, hf1⟩ := bcell hb
  have z1 := hb.size
  try simp only [World.size_alloc, World.size_setCell, World.size_drew] at z1
  have s1_0 : w.heap.size < w1.heap.size := by omega
  have s1_1 : w.heap.size + 1 < w1.heap.size := by omega
  have s1_2 : w.heap.size + 1 + 1 < w1.heap.size := by omega
  have s1_3 : w.heap.size + 1 + 1 + 1 < w1.heap.size := by omega
  have s1_4 : w.heap.size + 1 + 1 + 1 + 1 < w1.heap.size := by omega
  have s1_5 : w.heap.size + 1 + 1 + 1 + 1 + 1 < w1.heap.size := by omega
  have hB1 : Below w.heap.size w w1 := below_seq (by repeat (first | exact Below.refl _ _ | refine balloc ?_ _ | refine Below.drew ?_ | refine below_drewN ?_ _ | refine below_set ?_ (by first | omega | (dsimp only; omega)) _)) hb
  clear hb
  go_wp2_with fail
  refine (refNumber_c (lsB 5 [a, b, c, r, s]) _ (by omega)).mono ?_; rintro e w2 ⟨rfl, hb⟩
  rw [(show hnum (lsB 5 [a, b, c, r, s]).data.toList = N from hN.out)]
  obtain ⟨hc2, hf2⟩ := bcell hb
  have z2 := hb.size
  try simp only [World.size_alloc, World.size_setCell, World.size_drew] at z2
  have s2_0 : w.heap.size < w2.heap.size := by omega
  have s2_1 : w.heap.size + 1 < w2.heap.size := by omega
  have s2_2 : w.heap.size + 1 + 1 < w2.heap.size := by omega
  have s2_3 : w.heap.size + 1 + 1 + 1 < w2.heap.size := by omega
  have s2_4 : w.heap.size + 1 + 1 + 1 + 1 < w2.heap.size := by omega
  have s2_5 : w.heap.size + 1 + 1 + 1 + 1 + 1 < w2.heap.size := by omega
  have hB2 : Below w.heap.size w w2 := below_seq (by repeat (first | exact hB1 | exact Below.refl _ _ | refine balloc ?_ _ | refine Below.drew ?_ | refine below_drewN ?_ _ | refine below_set ?_ (by first | omega | (dsimp only; omega)) _)) hb
  clear hb
  go_wp2
  go_ret
  exact ⟨rfl, (by repeat (first | exact hB2 | exact Below.refl _ _ | refine balloc ?_ _ | refine Below.drew ?_ | refine below_drewN ?_ _ | refine below_set ?_ (by first | omega | (dsimp only; omega)) _))⟩
abbrev S8 (w1 : World) (i j k : Nat) (b c : Sp) (C S : Int) (w' : World) : Prop := w'.cell? ⟨i, 0, none⟩ = some (.int .i64 b.x) ∧ w'.cell? ⟨i, 1, none⟩ = some (.int .i64 b.y) ∧ w'.cell? ⟨i, 2, none⟩ = some (.bool b.far) ∧ w'.cell? ⟨j, 0, none⟩ = some (.int .i64 c.x) ∧ w'.cell? ⟨j, 1, none⟩ = some (.int .i64 c.y) ∧ w'.cell? ⟨j, 2, none⟩ = some (.bool c.far) ∧ w'.cell? ⟨k, 0, none⟩ = some (.int .i64 C) ∧ w'.cell? ⟨k, 1, none⟩ = some (.int .i64 S) ∧ i < w1.heap.size ∧ j < w1.heap.size ∧ k < w1.heap.size ∧ Below w1.heap.size w1 w'
section
variable {w1 w w' : World} {i j k : Nat} {b c : Sp} {C S : Int}
theorem S8.goes (h : S8 w1 i j k b c C S w) (hb : Below w.heap.size w w') : S8 w1 i j k b c C S w' := by
  obtain ⟨a0, a1, a2, a3, a4, a5, a6, a7, si, sj, sk, hB⟩ := h
  have hi : i < w.heap.size := Nat.lt_of_lt_of_le si hB.size
  have hj : j < w.heap.size := Nat.lt_of_lt_of_le sj hB.size
  have hk : k < w.heap.size := Nat.lt_of_lt_of_le sk hB.size
  exact ⟨((bcell hb).1 _ _ hi).trans a0, ((bcell hb).1 _ _ hi).trans a1, ((bcell hb).1 _ _ hi).trans a2, ((bcell hb).1 _ _ hj).trans a3, ((bcell hb).1 _ _ hj).trans a4, ((bcell hb).1 _ _ hj).trans a5, ((bcell hb).1 _ _ hk).trans a6, ((bcell hb).1 _ _ hk).trans a7, si, sj, sk, below_seq hB hb⟩
theorem S8.drew (h : S8 w1 i j k b c C S w) : S8 w1 i j k b c C S w.drew := h.goes (Below.refl _ _).drew
theorem S8.alloc (h : S8 w1 i j k b c C S w) (o : Obj) : S8 w1 i j k b c C S (w.alloc o) := h.goes (below_alloc _ _)
end
set_option maxHeartbeats 8000000 in
theorem rEqRight_core (a b c R X Y Q : Sp) (j l C S N : Int) (w : World) (oa : Ok a) (ob : Ok b) (oc : Ok c) (c0 : 0 ≤ C) (c1 : C < 1013) (s0 : 0 ≤ S) (s1 : S < 1013) (hj : Hid (b = sq j)) (hl : Hid (c = sq l))
    (hR : Hid (∀ w : World, Calls Tryd.prog 43 #[.int .i64 S, .int .i64 (-C), spV a] w fun e w' => e = .returned (spV R) ∧ Below w.heap.size w w')) (hX : Hid (sq (j * S) = X)) (hY : Hid (sq (l * -C) = Y)) (oX : Ok X) (oY : Ok Y) (hQ : Hid (sSum X Y = Q)) (h5 : Hid (∀ z ∈ [a, b, c, R, Q], Ok z)) (hN : Hid (ask5 [a, b, c, R, Q] = N)) :
    Calls Tryd.prog 38 #[spV a, spV b, spV c, .agg #[.int .i64 C, .int .i64 S]] w fun e w' => e = .returned (.bool (N == C)) ∧ Below w.heap.size w w' := by
  have eng : IntKind.i64.wrap (-C) = -C := IntWalk.i64_in _ (by omega)
  have m0 : -9223372036854775808 ≤ -C := by omega
  have m1 : -C ≤ 9223372036854775807 := by omega
  have n0 : -9223372036854775808 ≤ S := by omega
  have n1 : S ≤ 9223372036854775807 := by omega
  go_enter Tryd.func38, Tryd.ntmps38
  go_wp2_with fail
  refine (hR.out _).mono ?_; rintro e w1 ⟨rfl, hb⟩
  obtain ⟨hc1, hf1⟩ := bcell hb
  have z1 := hb.size
  try simp only [World.size_alloc, World.size_setCell, World.size_drew] at z1
  have s1_0 : w.heap.size < w1.heap.size := by omega
  have s1_1 : w.heap.size + 1 < w1.heap.size := by omega
  have s1_2 : w.heap.size + 1 + 1 < w1.heap.size := by omega
  have s1_3 : w.heap.size + 1 + 1 + 1 < w1.heap.size := by omega
  have hB1 : Below w.heap.size w w1 := below_seq (by repeat (first | exact Below.refl _ _ | refine balloc ?_ _ | refine Below.drew ?_ | refine below_drewN ?_ _ | refine below_set ?_ (by first | omega | (dsimp only; omega)) _)) hb
  clear hb
  have m1_0_0 : w1.cell? ⟨w.heap.size, 0, none⟩ = some (.int .i64 a.x) := by go_simp
  have m1_0_1 : w1.cell? ⟨w.heap.size, 1, none⟩ = some (.int .i64 a.y) := by go_simp
  have m1_0_2 : w1.cell? ⟨w.heap.size, 2, none⟩ = some (.bool a.far) := by go_simp
  have m1_1_0 : w1.cell? ⟨w.heap.size + 1, 0, none⟩ = some (.int .i64 b.x) := by go_simp
  have m1_1_1 : w1.cell? ⟨w.heap.size + 1, 1, none⟩ = some (.int .i64 b.y) := by go_simp
  have m1_1_2 : w1.cell? ⟨w.heap.size + 1, 2, none⟩ = some (.bool b.far) := by go_simp
  have m1_2_0 : w1.cell? ⟨w.heap.size + 1 + 1, 0, none⟩ = some (.int .i64 c.x) := by go_simp
  have m1_2_1 : w1.cell? ⟨w.heap.size + 1 + 1, 1, none⟩ = some (.int .i64 c.y) := by go_simp
  have m1_2_2 : w1.cell? ⟨w.heap.size + 1 + 1, 2, none⟩ = some (.bool c.far) := by go_simp
  have m1_3_0 : w1.cell? ⟨w.heap.size + 1 + 1 + 1, 0, none⟩ = some (.int .i64 C) := by go_simp
  have m1_3_1 : w1.cell? ⟨w.heap.size + 1 + 1 + 1, 1, none⟩ = some (.int .i64 S) := by go_simp
  clear hc1
  go_upto_region 2 with fail
  have y0 : S8 (w1.alloc (.cells #[.int .i64 R.x, .int .i64 R.y, .bool R.far] 29)) (w.heap.size + 1) (w.heap.size + 1 + 1) (w.heap.size + 1 + 1 + 1) b c C S (w1.alloc (.cells #[.int .i64 R.x, .int .i64 R.y, .bool R.far] 29)) := ⟨by go_simp, by go_simp, by go_simp, by go_simp, by go_simp, by go_simp, by go_simp, by go_simp, by simp only [World.size_alloc]; omega, by simp only [World.size_alloc]; omega, by simp only [World.size_alloc]; omega, Below.refl _ _⟩
  have v0 : (w1.alloc (.cells #[.int .i64 R.x, .int .i64 R.y, .bool R.far] 29)).cell? ⟨w1.heap.size, 0, none⟩ = some (.int .i64 R.x) := by go_simp
  have v1 : (w1.alloc (.cells #[.int .i64 R.x, .int .i64 R.y, .bool R.far] 29)).cell? ⟨w1.heap.size, 1, none⟩ = some (.int .i64 R.y) := by go_simp
  have v2 : (w1.alloc (.cells #[.int .i64 R.x, .int .i64 R.y, .bool R.far] 29)).cell? ⟨w1.heap.size, 2, none⟩ = some (.bool R.far) := by go_simp
  have g0 : (w1.alloc (.cells #[.int .i64 R.x, .int .i64 R.y, .bool R.far] 29)).cell? ⟨w.heap.size, 0, none⟩ = some (.int .i64 a.x) := by go_simp
  have g1 : (w1.alloc (.cells #[.int .i64 R.x, .int .i64 R.y, .bool R.far] 29)).cell? ⟨w.heap.size, 1, none⟩ = some (.int .i64 a.y) := by go_simp
  have g2 : (w1.alloc (.cells #[.int .i64 R.x, .int .i64 R.y, .bool R.far] 29)).cell? ⟨w.heap.size, 2, none⟩ = some (.bool a.far) := by go_simp
  have q0 : w.heap.size < (w1.alloc (.cells #[.int .i64 R.x, .int .i64 R.y, .bool R.far] 29)).heap.size := by simp only [World.size_alloc]; omega
  have q2 : w1.heap.size < (w1.alloc (.cells #[.int .i64 R.x, .int .i64 R.y, .bool R.far] 29)).heap.size := by simp only [World.size_alloc]; omega
  have hB2 : Below w.heap.size w (w1.alloc (.cells #[.int .i64 R.x, .int .i64 R.y, .bool R.far] 29)) := balloc hB1 _
  clear m1_0_0 m1_0_1 m1_0_2 m1_1_0 m1_1_1 m1_1_2 m1_2_0 m1_2_1 m1_2_2 m1_3_0 m1_3_1 hf1 hB1 z1 s1_0 s1_1 s1_2 s1_3
  generalize w1.alloc (.cells #[.int .i64 R.x, .int .i64 R.y, .bool R.far] 29) = wz at *
  go_cut [10] (fun s10 wx => ∃ p : Nat, s10 = .pointer (some ⟨p, 0, none⟩) ∧ SpAt wx p Q ∧ wz.heap.size ≤ p ∧ Below wz.heap.size wz wx)
  case first =>
    go_region_held3 (fun w' => w'.cell? ⟨w.heap.size + 1, 0, none⟩ = some (.int .i64 b.x) ∧ w'.cell? ⟨w.heap.size + 1, 1, none⟩ = some (.int .i64 b.y) ∧ w'.cell? ⟨w.heap.size + 1, 2, none⟩ = some (.bool b.far) ∧ w'.cell? ⟨w.heap.size + 1 + 1, 0, none⟩ = some (.int .i64 c.x) ∧ w'.cell? ⟨w.heap.size + 1 + 1, 1, none⟩ = some (.int .i64 c.y) ∧ w'.cell? ⟨w.heap.size + 1 + 1, 2, none⟩ = some (.bool c.far) ∧ w'.cell? ⟨w.heap.size + 1 + 1 + 1, 0, none⟩ = some (.int .i64 C) ∧ w'.cell? ⟨w.heap.size + 1 + 1 + 1, 1, none⟩ = some (.int .i64 S) ∧ w.heap.size + 1 < wz.heap.size ∧ w.heap.size + 1 + 1 < wz.heap.size ∧ w.heap.size + 1 + 1 + 1 < wz.heap.size ∧ Below wz.heap.size wz w') (first | with_reducible exact y0.drew | with_reducible exact (y0.alloc _).drew | with_reducible exact S8.goes y0 hwa | with_reducible exact (S8.goes y0 hwa).alloc _ | with_reducible exact S8.goes y0 (below_seq hwa hwb) | with_reducible exact (S8.goes y0 (below_seq hwa hwb)).alloc _ | with_reducible exact S8.goes y0 (below_seq (below_seq hwa hwb) hwd) | with_reducible exact (S8.goes y0 (below_seq (below_seq hwa hwb) hwd)).alloc _ | (refine S8.goes y0 ?_; repeat (first | with_reducible exact below_seq (below_seq hwa hwb) hwd | with_reducible refine balloc ?_ _ | with_reducible refine Below.drew ?_ | with_reducible refine below_set ?_ (by first | omega | (dsimp only; omega)) _))) (first | (go_at_call_of 35 b.x; refine (refTimes_e b X j S _ n0 n1 hj hX).mono ?_; rintro e wa ⟨rfl, ha⟩; have hwa : Below wz.heap.size wz wa := below_seq (by repeat (with_reducible first | exact Below.refl _ _ | refine balloc ?_ _ | refine Below.drew ?_)) ha; have hza := hwa.size; (first | (with_reducible have kA := fr1 ha) | skip)) | (go_at_call 35; refine (refTimes_e c Y l (-C) _ m0 m1 hl hY).mono ?_; rintro e wb ⟨rfl, hb⟩; have hwb : Below wa.heap.size wa wb := below_seq (by repeat (with_reducible first | exact Below.refl _ _ | refine balloc ?_ _ | refine Below.drew ?_)) hb; have hzb := hwb.size; (first | (have kB := kA.below hwb) | (with_reducible have kB := fs1 hb) | skip)) | (go_at_call 44; refine (refAdd_e X Y Q _ oX oY hQ).mono ?_; rintro e wd ⟨rfl, hd⟩; have hwd : Below wb.heap.size wb wd := below_seq (by repeat (with_reducible first | exact Below.refl _ _ | refine balloc ?_ _ | refine Below.drew ?_)) hd; have hzd := hwd.size; (first | (have kD := kB.below hwd; have kD' := kD; obtain ⟨d0, d1, d2, d3, d4, d5, d6⟩ := kD') | (with_reducible have kD := fs1 hd; have kD' := kD; obtain ⟨d0, d1, d2, d3, d4, d5, d6⟩ := kD') | skip)))
    all_goals
      go_wp2_with fail
      go_meet
      have hBx := below_seq (below_seq hwa hwb) hwd
      refine ⟨_, rfl, ?_, by omega, ?_⟩
      · repeat (with_reducible first | assumption | exact SpAt.freshs _ _ _ _ _ _ _ | exact SpAt.fresh _ _ _ _ _ | refine SpAt.set3 (s := ⟨0, 0, false⟩) ?_ _ | refine SpAt.set3o ?_ (by omega) _ _ _ | refine SpAt.alloc ?_ _)
      · repeat (with_reducible first | exact hBx | refine balloc ?_ _ | refine Below.drew ?_ | refine below_set ?_ (by first | omega | (dsimp only; omega)) _)
  case rest =>
    obtain ⟨p, rfl, hp, hpl, hw⟩ := hcut
    have hB3 : Below w.heap.size w wc := below_seq hB2 hw
    obtain ⟨t0, t1, t2, t3, t4, t5, t6, t7, sb, sc, sp, -⟩ := y0.goes hw
    have u0 := ((bcell hw).1 _ 0 q2).trans v0
    have u1 := ((bcell hw).1 _ 1 q2).trans v1
    have u2 := ((bcell hw).1 _ 2 q2).trans v2
    have f0 := ((bcell hw).1 _ 0 q0).trans g0
    have f1 := ((bcell hw).1 _ 1 q0).trans g1
    have f2 := ((bcell hw).1 _ 2 q0).trans g2
    have hzc := hw.size
    obtain ⟨d0, d1, d2, d3, d4, d5, d6⟩ := hp
    have sb2 : w.heap.size + 1 < wc.heap.size := by omega
    have sc2 : w.heap.size + 1 + 1 < wc.heap.size := by omega
    have sp2 : w.heap.size + 1 + 1 + 1 < wc.heap.size := by omega
    have sa2 : w.heap.size < wc.heap.size := by omega
    have sr2 : w1.heap.size < wc.heap.size := by omega
    clear v0 v1 v2 g0 g1 g2 y0
    go_wp2_with fail
    refine wp_region_grow Tryd.mixed (by kernel_rfl) ?_
    repeat (quiet_step ((go_at_call 29; exact grow_of (rEqAsk_e a b c R Q N _ h5 hN))))
    refine wpQuiet_nil ?_
    intro _ hw'
    obtain ⟨x4, rfl⟩ := hw'
    have z4 := x4.h.size
    try simp only [World.size_alloc, World.size_setCell, World.size_drew] at z4
    have hB4 : Below w.heap.size w x4.w := below_seq (by repeat (first | exact hB3 | exact Below.refl _ _ | refine balloc ?_ _ | refine Below.drew ?_ | refine below_drewN ?_ _ | refine below_set ?_ (by first | omega | (dsimp only; omega)) _)) x4.h
    go_wp2
    go_ret
    exact ⟨rfl, (by repeat (first | exact hB4 | exact Below.refl _ _ | refine balloc ?_ _ | refine Below.drew ?_ | refine below_drewN ?_ _ | refine below_set ?_ (by first | omega | (dsimp only; omega)) _))⟩
theorem rEqRight_e (a b c : Sp) (i j l C S : Int) (w : World) (c0 : 0 ≤ C) (c1 : C < 1013) (s0 : 0 ≤ S) (s1 : S < 1013) (ha : a = sq i) (hb : b = sq j) (hc : c = sq l) : Calls Tryd.prog 38 #[spV a, spV b, spV c, .agg #[.int .i64 C, .int .i64 S]] w fun e w' => e = .returned (.bool (ask5 [a, b, c, sq (4 * S + i * -C), sq (j * S + l * -C)] == C)) ∧ Below w.heap.size w w' := by
  refine rEqRight_core a b c _ _ _ _ j l C S _ w (ok_of ha) (ok_of hb) (ok_of hc) c0 c1 s0 s1 hb hc (fun w => refSum_e S (-C) i a _ _ _ w (by omega) (by omega) (by omega) (by omega) ha rfl rfl (sq_ok _) (sq_ok _) (sq_add _ _)) rfl rfl (sq_ok _) (sq_ok _) (sq_add _ _) ?_ rfl
  show ∀ z ∈ [a, b, c, sq (4 * S + i * -C), sq (j * S + l * -C)], Ok z
  intro z hz
  simp only [List.mem_cons, List.not_mem_nil, or_false] at hz
  rcases hz with rfl | rfl | rfl | rfl | rfl <;> first | exact sq_ok _ | exact ok_of ha | exact ok_of hb | exact ok_of hc
/-- The first fault of some spots. -/
def spotsF : List Sp → Int
  | [] => 0
  | s :: l => if sCheck s = 0 then spotsF l else sCheck s
theorem first_fault : ∀ l : List Sp, (spotsF l = 0 ∧ ∀ z ∈ l, Ok z) ∨ (∃ k, ∃ h : k < l.length, (∀ i (h : i < l.length), i < k → Ok l[i]) ∧ sCheck l[k] = spotsF l ∧ spotsF l ≠ 0)
  | [] => .inl ⟨rfl, fun z h => absurd h (by simp)⟩
  | s :: l => by
    by_cases hs : sCheck s = 0
    · have e : spotsF (s :: l) = spotsF l := by rw [spotsF, if_pos hs]
      rw [e]
      rcases first_fault l with ⟨h0, h⟩ | ⟨k, hk, h, hb, hn⟩
      · left; refine ⟨h0, fun z hz => ?_⟩
        rcases List.mem_cons.mp hz with rfl | hz
        · exact (ok_iff _).mp hs
        · exact h z hz
      · right; refine ⟨k + 1, by simpa using hk, fun i hi hik => ?_, by simpa using hb, hn⟩
        cases i with
        | zero => exact (ok_iff _).mp hs
        | succ i => exact h i (by simpa using hi) (by omega)
    · right
      have e : spotsF (s :: l) = sCheck s := by rw [spotsF, if_neg hs]
      rw [e]
      exact ⟨0, by simp, fun i _ h => absurd h (Nat.not_lt_zero _), by simp, hs⟩
theorem rSpots_e (l : List Sp) (b off cap : Nat) (w : World) (hl : l.length ≤ 12) (hs : SpotsAt w b off l) (n : Int) (h : Hid (spotsF l = n)) : Calls Tryd.prog 28 #[.slice (some ⟨b, off, none⟩) l.length cap] w fun e w' => e = .returned (.int .i64 n) ∧ Below w.heap.size w w' := by
  rw [← h.out]
  rcases first_fault l with ⟨h0, hk⟩ | ⟨k, hk, hi, hb, hn⟩
  · exact refSpots_core l b off cap w hl hs l.length (Nat.le_refl _) _ (fun i hi _ => (ok_iff _).mpr (hk _ (List.getElem_mem hi))) (fun h => absurd h (Nat.lt_irrefl _)) (fun _ => h0)
  · exact refSpots_core l b off cap w hl hs k (Nat.le_of_lt hk) _ (fun i h1 h2 => (ok_iff _).mpr (hi i h1 h2)) (fun _ => ⟨by rw [hb]; simpa using hn, hb.symm⟩) (fun e => absurd hk (by omega))
end Go.Proofs.YtjnmknhfmmdoiaaDoor
namespace Go.Proofs.YtjnmknhfmmdoiaaDoor
open Go.RowKit
set_option maxRecDepth 100000
set_option linter.unusedVariables false
set_option linter.unusedSimpArgs false
theorem set332 {w : World} {b c d : Nat} {x y z p q r u v o0 o1 o2 o3 o4 o5 o6 o7 : Value} (hbc : b ≠ c) (hbd : b ≠ d) (hcd : c ≠ d) (r0 : w.cell? ⟨b, 0, none⟩ = some o0) (r1 : w.cell? ⟨b, 1, none⟩ = some o1) (r2 : w.cell? ⟨b, 2, none⟩ = some o2) (q0 : w.cell? ⟨c, 0, none⟩ = some o3) (q1 : w.cell? ⟨c, 1, none⟩ = some o4) (q2 : w.cell? ⟨c, 2, none⟩ = some o5) (u0 : w.cell? ⟨d, 0, none⟩ = some o6) (u1 : w.cell? ⟨d, 1, none⟩ = some o7) :
    ((((((((w.setCell ⟨b, 0, none⟩ x).setCell ⟨b, 1, none⟩ y).setCell ⟨b, 2, none⟩ z).setCell ⟨c, 0, none⟩ p).setCell ⟨c, 1, none⟩ q).setCell ⟨c, 2, none⟩ r).setCell ⟨d, 0, none⟩ u).setCell ⟨d, 1, none⟩ v).cell? ⟨b, 0, none⟩ = some x ∧ ((((((((w.setCell ⟨b, 0, none⟩ x).setCell ⟨b, 1, none⟩ y).setCell ⟨b, 2, none⟩ z).setCell ⟨c, 0, none⟩ p).setCell ⟨c, 1, none⟩ q).setCell ⟨c, 2, none⟩ r).setCell ⟨d, 0, none⟩ u).setCell ⟨d, 1, none⟩ v).cell? ⟨b, 1, none⟩ = some y ∧ ((((((((w.setCell ⟨b, 0, none⟩ x).setCell ⟨b, 1, none⟩ y).setCell ⟨b, 2, none⟩ z).setCell ⟨c, 0, none⟩ p).setCell ⟨c, 1, none⟩ q).setCell ⟨c, 2, none⟩ r).setCell ⟨d, 0, none⟩ u).setCell ⟨d, 1, none⟩ v).cell? ⟨b, 2, none⟩ = some z ∧ ((((((((w.setCell ⟨b, 0, none⟩ x).setCell ⟨b, 1, none⟩ y).setCell ⟨b, 2, none⟩ z).setCell ⟨c, 0, none⟩ p).setCell ⟨c, 1, none⟩ q).setCell ⟨c, 2, none⟩ r).setCell ⟨d, 0, none⟩ u).setCell ⟨d, 1, none⟩ v).cell? ⟨c, 0, none⟩ = some p ∧ ((((((((w.setCell ⟨b, 0, none⟩ x).setCell ⟨b, 1, none⟩ y).setCell ⟨b, 2, none⟩ z).setCell ⟨c, 0, none⟩ p).setCell ⟨c, 1, none⟩ q).setCell ⟨c, 2, none⟩ r).setCell ⟨d, 0, none⟩ u).setCell ⟨d, 1, none⟩ v).cell? ⟨c, 1, none⟩ = some q ∧ ((((((((w.setCell ⟨b, 0, none⟩ x).setCell ⟨b, 1, none⟩ y).setCell ⟨b, 2, none⟩ z).setCell ⟨c, 0, none⟩ p).setCell ⟨c, 1, none⟩ q).setCell ⟨c, 2, none⟩ r).setCell ⟨d, 0, none⟩ u).setCell ⟨d, 1, none⟩ v).cell? ⟨c, 2, none⟩ = some r ∧ ((((((((w.setCell ⟨b, 0, none⟩ x).setCell ⟨b, 1, none⟩ y).setCell ⟨b, 2, none⟩ z).setCell ⟨c, 0, none⟩ p).setCell ⟨c, 1, none⟩ q).setCell ⟨c, 2, none⟩ r).setCell ⟨d, 0, none⟩ u).setCell ⟨d, 1, none⟩ v).cell? ⟨d, 0, none⟩ = some u ∧ ((((((((w.setCell ⟨b, 0, none⟩ x).setCell ⟨b, 1, none⟩ y).setCell ⟨b, 2, none⟩ z).setCell ⟨c, 0, none⟩ p).setCell ⟨c, 1, none⟩ q).setCell ⟨c, 2, none⟩ r).setCell ⟨d, 0, none⟩ u).setCell ⟨d, 1, none⟩ v).cell? ⟨d, 1, none⟩ = some v := by
  have l1 := set3_cell (w := w) (x := x) (y := y) (z := z) r0 r1 r2
  have l2 := set3_cell (w := (((w.setCell ⟨b, 0, none⟩ x).setCell ⟨b, 1, none⟩ y).setCell ⟨b, 2, none⟩ z)) (x := p) (y := q) (z := r) ((set3_other hbc).trans q0) ((set3_other hbc).trans q1) ((set3_other hbc).trans q2)
  have l3 := set2_cell (w := ((((((w.setCell ⟨b, 0, none⟩ x).setCell ⟨b, 1, none⟩ y).setCell ⟨b, 2, none⟩ z).setCell ⟨c, 0, none⟩ p).setCell ⟨c, 1, none⟩ q).setCell ⟨c, 2, none⟩ r)) (x := u) (y := v) ((set3_other hcd).trans ((set3_other hbd).trans u0)) ((set3_other hcd).trans ((set3_other hbd).trans u1))
  exact ⟨(set2_other hbd.symm).trans ((set3_other hbc.symm).trans l1.1), (set2_other hbd.symm).trans ((set3_other hbc.symm).trans l1.2.1), (set2_other hbd.symm).trans ((set3_other hbc.symm).trans l1.2.2), (set2_other hcd.symm).trans l2.1, (set2_other hcd.symm).trans l2.2.1, (set2_other hcd.symm).trans l2.2.2, l3.1, l3.2⟩
set_option maxHeartbeats 1000000 in
theorem prove_nb (x k n : Int) (b : Sp) (w : World) (hF : FarAt w) (x1 : 1 ≤ x) (x2 : x < 1013) (k1 : 1 ≤ k) (k2 : k < 1013) (hn : Hid (sCheck b = n)) (h0 : n ≠ 0) : Calls Tryd.prog 36 #[.int .i64 x, .int .i64 k, spV b] w fun e w' => e = .returned (.tuple #[spV ⟨0, 0, false⟩, spV ⟨0, 0, false⟩, .agg #[.int .i64 0, .int .i64 0], .iface 95 (.int .i64 n)]) ∧ Below w.heap.size w w' := by
  go_enter Tryd.func36, Tryd.ntmps36
  go_wp2_with fail
  refine (secret_y x _ x1 x2).mono ?_; rintro e w' ⟨rfl, rfl⟩
  go_wp2_with fail
  refine (secret_y k _ k1 k2).mono ?_; rintro e w' ⟨rfl, rfl⟩
  go_wp2_with fail
  refine (check_v b n _ (hF.below (by repeat (first | exact Below.refl _ _ | refine balloc ?_ _ | refine Below.drew ?_ | refine below_drewN ?_ _ | refine below_set ?_ (by first | omega | (dsimp only; omega)) _))) hn h0).mono ?_; rintro e w1 ⟨rfl, hb⟩
  obtain ⟨hc1, hf1⟩ := bcell hb
  have z1 := hb.size
  try simp only [World.size_alloc, World.size_setCell, World.size_drew] at z1
  have s1_0 : w.heap.size < w1.heap.size := by omega
  have s1_1 : w.heap.size + 1 < w1.heap.size := by omega
  have s1_2 : w.heap.size + 1 + 1 < w1.heap.size := by omega
  have s1_3 : w.heap.size + 1 + 1 + 1 < w1.heap.size := by omega
  have hB1 : Below w.heap.size w w1 := below_seq (by repeat (first | exact Below.refl _ _ | refine balloc ?_ _ | refine Below.drew ?_ | refine below_drewN ?_ _ | refine below_set ?_ (by first | omega | (dsimp only; omega)) _)) hb
  clear hb
  have r0 : w1.cell? ⟨w.heap.size + 1, 0, none⟩ = some (.int .i64 0) := by go_simp
  have r1 : w1.cell? ⟨w.heap.size + 1, 1, none⟩ = some (.int .i64 0) := by go_simp
  have r2 : w1.cell? ⟨w.heap.size + 1, 2, none⟩ = some (.bool false) := by go_simp
  have q0 : w1.cell? ⟨w.heap.size + 1 + 1, 0, none⟩ = some (.int .i64 0) := by go_simp
  have q1 : w1.cell? ⟨w.heap.size + 1 + 1, 1, none⟩ = some (.int .i64 0) := by go_simp
  have q2 : w1.cell? ⟨w.heap.size + 1 + 1, 2, none⟩ = some (.bool false) := by go_simp
  have u0 : w1.cell? ⟨w.heap.size + 1 + 1 + 1, 0, none⟩ = some (.int .i64 0) := by go_simp
  have u1 : w1.cell? ⟨w.heap.size + 1 + 1 + 1, 1, none⟩ = some (.int .i64 0) := by go_simp
  have l := set332 (x := .int .i64 0) (y := .int .i64 0) (z := .bool false) (p := .int .i64 0) (q := .int .i64 0) (r := .bool false) (u := .int .i64 0) (v := .int .i64 0) (by omega) (by omega) (by omega) r0 r1 r2 q0 q1 q2 u0 u1
  go_wp2
  refine bodyPost_ret (v := .tuple #[spV ⟨0, 0, false⟩, spV ⟨0, 0, false⟩, .agg #[.int .i64 0, .int .i64 0], .iface 95 (.int .i64 n)]) (by simp [results, Tryd.results36, go_sem, l.1, l.2.1, l.2.2.1, l.2.2.2.1, l.2.2.2.2.1, l.2.2.2.2.2.1, l.2.2.2.2.2.2.1, l.2.2.2.2.2.2.2]) rfl ⟨rfl, set2_below (set3_below (set3_below hB1 (by omega)) (by omega)) (by omega)⟩
/-- A proof, whatever comes of it. -/
def ProveIs (x k : Int) (b A D : Sp) (C S : Int) (E : Value) : Prop := ∀ w : World, FarAt w → Calls Tryd.prog 36 #[.int .i64 x, .int .i64 k, spV b] w fun e w' => e = .returned (.tuple #[spV A, spV D, .agg #[.int .i64 C, .int .i64 S], E]) ∧ Below w.heap.size w w'
def ask5P (x k u : Int) (b : Sp) : Int := ask5 [sq (4 * x), b, sq (u * x), sq (4 * k), sq (u * k)]
theorem prove_at (x k u : Int) (b : Sp) (x1 : 1 ≤ x) (x2 : x < 1013) (k1 : 1 ≤ k) (k2 : k < 1013) (hu : b = sq u) : ProveIs x k b (sq (4 * x)) (sq (u * x)) (ask5P x k u b) ((k + ask5P x k u b * x) % 1013) .nilIface := fun w hF => by
  have ob : Ok b := ok_of hu
  have bd : 0 ≤ ask5P x k u b ∧ ask5P x k u b < 1013 := ask5_bd _
  have hm := mul_q bd.1 bd.2 x1 x2
  exact prove_core x k u b _ _ _ _ _ _ w hF x1 x2 k1 k2 ob hu rfl rfl rfl rfl (by
    show ∀ z ∈ [sq (4 * x), b, sq (u * x), sq (4 * k), sq (u * k)], Ok z
    intro z hz
    simp only [List.mem_cons, List.not_mem_nil, or_false] at hz
    rcases hz with rfl | rfl | rfl | rfl | rfl <;> first | exact sq_ok _ | exact ob) rfl (IntWalk.i64_in _ (by omega)) (IntWalk.i64_in _ (by omega)) (Int.tmod_eq_emod_of_nonneg (by omega))
theorem prove_not (x k : Int) (b : Sp) (ob : Ok b) (h : ¬ (1 ≤ x ∧ x < 1013 ∧ 1 ≤ k ∧ k < 1013)) : ProveIs x k b ⟨0, 0, false⟩ ⟨0, 0, false⟩ 0 0 (.iface 95 (.int .i64 1)) := fun w hF => by
  by_cases hx : 1 ≤ x ∧ x < 1013
  · exact prove_n2 x k b w hx.1 hx.2 (by omega)
  · exact prove_n1 x k b w hx
theorem prove_is (x k : Int) (b : Sp) : ∃ A D C S E, ProveIs x k b A D C S E := by
  by_cases hx : 1 ≤ x ∧ x < 1013
  · by_cases hk : 1 ≤ k ∧ k < 1013
    · by_cases c : sCheck b = 0
      · obtain ⟨u, -, -, e⟩ := sq_all ((ok_iff _).mp c)
        exact ⟨_, _, _, _, _, prove_at x k u b hx.1 hx.2 hk.1 hk.2 e⟩
      · exact ⟨_, _, _, _, _, fun w hF => prove_nb x k _ b w hF hx.1 hx.2 hk.1 hk.2 rfl c⟩
    · exact ⟨_, _, _, _, _, fun w _ => prove_n2 x k b w hx.1 hx.2 hk⟩
  · exact ⟨_, _, _, _, _, fun w _ => prove_n1 x k b w hx⟩
theorem sq12_at : ∃ X Y : Int, Hid (sq 12 = ⟨X, Y, false⟩) := ⟨(sq 12).x, (sq 12).y, by
  have : (sq 12).far = false := sq_far_not (by decide)
  show sq 12 = ⟨(sq 12).x, (sq 12).y, false⟩
  rw [← this]⟩
theorem prove_31 (X Y : Int) (h : Hid (sq 12 = ⟨X, Y, false⟩)) : ∃ C S, Hid (ProveIs 3 1 ⟨1189, 3667, false⟩ ⟨X, Y, false⟩ ⟨X, Y, false⟩ C S .nilIface) := by
  have := prove_at 3 1 4 ⟨1189, 3667, false⟩ (by decide) (by decide) (by decide) (by decide) sq_4.symm
  rw [show (4 : Int) * 3 = 12 by decide, h.out] at this
  exact ⟨_, _, this⟩
theorem prove_11 : ∃ C S, Hid (ProveIs 1 1 ⟨1189, 3667, false⟩ ⟨1189, 3667, false⟩ ⟨1189, 3667, false⟩ C S .nilIface) := by
  have := prove_at 1 1 4 ⟨1189, 3667, false⟩ (by decide) (by decide) (by decide) (by decide) sq_4.symm
  rw [show (4 : Int) * 1 = 4 by decide, sq_4] at this
  exact ⟨_, _, this⟩
theorem in4 : Hid ((sq (4 * 1013)).far = true) := sq_far.mpr (by decide)
/-- A verification, whatever comes of it. -/
def VerIs (a b c : Sp) (C S : Int) (v : Bool) : Prop := ∀ w : World, FarAt w → Calls Tryd.prog 39 #[spV a, spV b, spV c, .agg #[.int .i64 C, .int .i64 S]] w fun e w' => e = .returned (.tuple #[.bool v, .nilIface]) ∧ Below w.heap.size w w'
theorem ver_at (a b c : Sp) (i j l C S : Int) (ha : a = sq i) (hb : b = sq j) (hc : c = sq l) (c0 : 0 ≤ C) (c1 : C < 1013) (s0 : 0 ≤ S) (s1 : S < 1013) : VerIs a b c C S (ask5 [a, b, c, sq (4 * S + i * -C), sq (j * S + l * -C)] == C) := fun w hF => by
  refine verify3_y a b c _ _ C S _ w hF (ok_of ha) (ok_of hb) (ok_of hc) c0 c1 s0 s1 (fun w hF => less_e S C 4 i ⟨1189, 3667, false⟩ a _ _ _ w hF c0 c1 sq_4.symm ha rfl rfl (sq_ok _) (sq_ok _) (sq_add _ _)) (fun w hF => less_e S C j l b c _ _ _ w hF c0 c1 hb hc rfl rfl (sq_ok _) (sq_ok _) (sq_add _ _)) ?_ rfl
  show ∀ z ∈ [a, b, c, sq (4 * S + i * -C), sq (j * S + l * -C)], Ok z
  intro z hz
  simp only [List.mem_cons, List.not_mem_nil, or_false] at hz
  rcases hz with rfl | rfl | rfl | rfl | rfl <;> first | exact sq_ok _ | exact ok_of ha | exact ok_of hb | exact ok_of hc
theorem ver_right (x k u : Int) (b : Sp) (hu : b = sq u) (hI : (sq (u * 1013)).far = true) (x1 : 1 ≤ x) (x2 : x < 1013) : VerIs (sq (4 * x)) b (sq (u * x)) (ask5P x k u b) ((k + ask5P x k u b * x) % 1013) true := fun w hF => by
  have bd : 0 ≤ ask5P x k u b ∧ ask5P x k u b < 1013 := ask5_bd _
  have h4 : u * 1013 % 4052 = 0 := sq_far.mp hI
  have := ver_at (sq (4 * x)) b (sq (u * x)) (4 * x) u (u * x) (ask5P x k u b) ((k + ask5P x k u b * x) % 1013) rfl hu rfl bd.1 bd.2 (Int.emod_nonneg _ (by decide)) (Int.emod_lt_of_pos _ (by decide)) w hF
  have e1 : sq (4 * ((k + ask5P x k u b * x) % 1013) + 4 * x * -ask5P x k u b) = sq (4 * k) := by
    apply sq_eq_iff.mpr
    rw [Int.mul_assoc, Int.mul_neg, Int.mul_comm x]
    generalize ask5P x k u b * x = m
    omega
  have e2 : sq (u * ((k + ask5P x k u b * x) % 1013) + u * x * -ask5P x k u b) = sq (u * k) := by
    apply sq_eq_iff.mpr
    have e4 : u = 4 * (u / 4) := by omega
    rw [Int.mul_assoc, Int.mul_neg, Int.mul_comm x]
    generalize ask5P x k u b * x = m
    rw [e4, Int.mul_assoc, Int.mul_assoc, Int.mul_assoc, ← Int.mul_add, ← Int.mul_add]
    have e5 : (k + m) % 1013 + -m = k - 1013 * ((k + m) / 1013) := by omega
    rw [e5, Int.mul_sub, Int.mul_sub]
    have e6 : 4 * (u / 4 * (1013 * ((k + m) / 1013))) = 4052 * (u / 4 * ((k + m) / 1013)) := by
      rw [Int.mul_left_comm (u / 4) 1013, ← Int.mul_assoc]; rfl
    rw [e6]
    generalize u / 4 * ((k + m) / 1013) = g
    omega
  rw [e1, e2] at this
  have e3 : (ask5 [sq (4 * x), b, sq (u * x), sq (4 * k), sq (u * k)] == ask5P x k u b) = true := by unfold ask5P; simp
  rw [e3] at this
  exact this
end Go.Proofs.YtjnmknhfmmdoiaaDoor
