/- The law BytesLong, walked: as long as it is said. -/
import Derived.Test.YtlppjihejgcplaaDoorLs
import Derived.Test.YtlppjihejgcplaaDoorFs
namespace Go.Proofs.YtlppjihejgcplaaDoor
open Go.RowKit
set_option maxRecDepth 100000
set_option linter.unusedVariables false
set_option linter.unusedSimpArgs false
def cnt (l : List Sp) : Nat := l.foldl (fun n s => n + if s.far = true then 1 else 3) 1
theorem cnt_snoc (l : List Sp) (k : Nat) (h : k < l.length) : cnt (l.take (k + 1)) = cnt (l.take k) + if l[k].far = true then 1 else 3 := by
  unfold cnt; rw [List.take_succ_eq_append_getElem h, List.foldl_append]; rfl
theorem sBytes_len (s : Sp) : (sBytes s).size = if s.far = true then 1 else 3 := by
  unfold sBytes; split
  · rfl
  · split <;> simp [strOfNums_size]
theorem cnt_fold : ∀ (l : List Sp) (a : ByteArray) (n : Nat), a.size = n → (l.foldl (fun a s => a ++ sBytes s) a).size = l.foldl (fun n s => n + if s.far = true then 1 else 3) n
  | [], a, n, h => h
  | s :: l, a, n, h => cnt_fold l _ _ (by rw [ByteArray.size_append, h, sBytes_len])
theorem cnt_size (n : Nat) (l : List Sp) : (lsB n l).size = cnt l := cnt_fold l _ _ (strOfNums_size _)
theorem cnt_le (l : List Sp) : cnt l ≤ 1 + 3 * l.length := by rw [← cnt_size 0]; exact lsB_size 0 l
set_option maxHeartbeats 1000000 in
theorem bl_zero (a : Option Addr) (cap : Nat) (w : World) : Calls Tryd.prog 3 #[.slice a 0 cap] w fun e w' => e = .returned (.bool true) ∧ Below w.heap.size w w' := by
  have hq : (strOfNums [0]).toList = [0] := by rw [ByteArray.toList_eq]; rfl
  have hz : (strOfNums [0]).size = 1 := rfl
  go_enter Tryd.func3, Tryd.ntmps3
  go_wp2_with fail
  refine (list_zero _ _ _).mono ?_; rintro e w1 ⟨rfl, hb⟩
  obtain ⟨hc1, hf1⟩ := bcell hb
  have z1 := hb.size
  try simp only [World.size_alloc, World.size_setCell, World.size_drew] at z1
  have hB1 : Below w.heap.size w w1 := below_seq (by repeat (first | exact Below.refl _ _ | refine balloc ?_ _ | refine Below.drew ?_ | refine below_drewN ?_ _ | refine below_set ?_ (by first | omega | (dsimp only; omega)) _)) hb
  clear hb
  go_wp2_with fail
  refine (list_zero _ _ _).mono ?_; rintro e w2 ⟨rfl, hb⟩
  obtain ⟨hc2, hf2⟩ := bcell hb
  have z2 := hb.size
  try simp only [World.size_alloc, World.size_setCell, World.size_drew] at z2
  have hB2 : Below w.heap.size w w2 := below_seq (by repeat (first | exact hB1 | exact Below.refl _ _ | refine balloc ?_ _ | refine Below.drew ?_ | refine below_drewN ?_ _ | refine below_set ?_ (by first | omega | (dsimp only; omega)) _)) hb
  clear hb
  go_wp2
  refine wp_loop_rounds 1 ?_
  rw [rounds_succ]
  go_wp2
  go_ret
  exact ⟨rfl, (by repeat (first | exact hB2 | exact Below.refl _ _ | refine balloc ?_ _ | refine Below.drew ?_ | refine below_drewN ?_ _ | refine below_set ?_ (by first | omega | (dsimp only; omega)) _))⟩
set_option maxHeartbeats 1000000 in
theorem bl_bad (l : List Sp) (b off cap : Nat) (e : Int) (w : World) (hq : Hid (∀ w1 : World, Below w.heap.size w w1 → Calls Tryd.prog 21 #[.slice (some ⟨b, off, none⟩) l.length cap] w1 fun e1 w' => e1 = .returned (.tuple #[.string ⟨#[]⟩, .iface 101 (.int .i64 e)]) ∧ Below w1.heap.size w1 w')) : Calls Tryd.prog 3 #[.slice (some ⟨b, off, none⟩) l.length cap] w fun e w' => e = .returned (.bool true) ∧ Below w.heap.size w w' := by
  have hq1 : (strOfNums [0]).toList = [0] := by rw [ByteArray.toList_eq]; rfl
  go_enter Tryd.func3, Tryd.ntmps3
  go_wp2_with fail
  refine (list_zero _ _ _).mono ?_; rintro e w1 ⟨rfl, hb⟩
  obtain ⟨hc1, hf1⟩ := bcell hb
  have z1 := hb.size
  try simp only [World.size_alloc, World.size_setCell, World.size_drew] at z1
  have hB1 : Below w.heap.size w w1 := below_seq (by repeat (first | exact Below.refl _ _ | refine balloc ?_ _ | refine Below.drew ?_ | refine below_drewN ?_ _ | refine below_set ?_ (by first | omega | (dsimp only; omega)) _)) hb
  clear hb
  go_wp2_with fail
  refine (hq.out _ (by repeat (first | exact hB1 | exact Below.refl _ _ | refine balloc ?_ _ | refine Below.drew ?_ | refine below_drewN ?_ _ | refine below_set ?_ (by first | omega | (dsimp only; omega)) _))).mono ?_; rintro e w2 ⟨rfl, hb⟩
  obtain ⟨hc2, hf2⟩ := bcell hb
  have z2 := hb.size
  try simp only [World.size_alloc, World.size_setCell, World.size_drew] at z2
  have hB2 : Below w.heap.size w w2 := below_seq (by repeat (first | exact hB1 | exact Below.refl _ _ | refine balloc ?_ _ | refine Below.drew ?_ | refine below_drewN ?_ _ | refine below_set ?_ (by first | omega | (dsimp only; omega)) _)) hb
  clear hb
  go_wp2
  go_ret
  exact ⟨rfl, (by repeat (first | exact hB2 | exact Below.refl _ _ | refine balloc ?_ _ | refine Below.drew ?_ | refine below_drewN ?_ _ | refine below_set ?_ (by first | omega | (dsimp only; omega)) _))⟩
set_option maxHeartbeats 1000000 in
theorem bl_ok (l : List Sp) (b off cap : Nat) (w : World) (hF : FarAt w) (hl : l.length ≤ 12) (hs : SpotsAt w b off l) (h : Hid (∀ i (h : i < l.length), Ok l[i])) : Calls Tryd.prog 3 #[.slice (some ⟨b, off, none⟩) l.length cap] w fun e w' => e = .returned (.bool true) ∧ Below w.heap.size w w' := by
  have hq1 : (strOfNums [0]).toList = [0] := by rw [ByteArray.toList_eq]; rfl
  have hsz := Lib.hid (cnt_size l.length l)
  have hsb : (lsB l.length l).size ≤ 37 := by have := lsB_size l.length l; omega
  go_enter Tryd.func3, Tryd.ntmps3
  go_wp2_with fail
  refine (list_zero _ _ _).mono ?_; rintro e w1 ⟨rfl, hb⟩
  obtain ⟨hc1, hf1⟩ := bcell hb
  have z1 := hb.size
  try simp only [World.size_alloc, World.size_setCell, World.size_drew] at z1
  have hB1 : Below w.heap.size w w1 := below_seq (by repeat (first | exact Below.refl _ _ | refine balloc ?_ _ | refine Below.drew ?_ | refine below_drewN ?_ _ | refine below_set ?_ (by first | omega | (dsimp only; omega)) _)) hb
  clear hb
  go_wp2_with fail
  refine (list_ok l b off cap _ (hF.below (by repeat (first | exact hB1 | exact Below.refl _ _ | refine balloc ?_ _ | refine Below.drew ?_ | refine below_drewN ?_ _ | refine below_set ?_ (by first | omega | (dsimp only; omega)) _))) hl (hs.below (by repeat (first | exact hB1 | exact Below.refl _ _ | refine balloc ?_ _ | refine Below.drew ?_ | refine below_drewN ?_ _ | refine below_set ?_ (by first | omega | (dsimp only; omega)) _))) h.out).mono ?_; rintro e w2 ⟨rfl, hb⟩
  obtain ⟨hc2, hf2⟩ := bcell hb
  have z2 := hb.size
  try simp only [World.size_alloc, World.size_setCell, World.size_drew] at z2
  have hB2 : Below w.heap.size w w2 := below_seq (by repeat (first | exact hB1 | exact Below.refl _ _ | refine balloc ?_ _ | refine Below.drew ?_ | refine below_drewN ?_ _ | refine below_set ?_ (by first | omega | (dsimp only; omega)) _)) hb
  clear hb
  go_wp2
  clear hq1 hc1 hf1 z1 hc2 hf2 z2
  have hs2 := Lib.hid (hs.below hB2)
  clear hs hF
  generalize hSB : (lsB l.length l) = SB at *
  have hSB := Lib.hid hSB
  go_loopw [7, 8] (fun o i wr => ∃ n : Nat, n ≤ l.length ∧ i = .int .i64 n ∧ o = .int .i64 (cnt (l.take n) : Nat) ∧ Below w2.heap.size w2 wr) (fun _ i _ => l.length - (intOf i).toNat)
  case atStart => exact ⟨0, Nat.zero_le _, rfl, rfl, Below.refl _ _⟩
  case round =>
    obtain ⟨n, hn, rfl, rfl, hb⟩ := hrel
    have hcn : cnt (l.take n) ≤ 37 := by have := cnt_le (l.take n); rw [List.length_take] at this; omega
    by_cases hlt : n < l.length
    · have h3 := (hs2.out.below hb).cf n hlt
      have hsn := Lib.hid (cnt_snoc l n hlt)
      cases hf : l[n].far
      · rw [hf] at h3
        have hsn : Hid (cnt (l.take (n + 1)) = cnt (l.take n) + 3) := by have := hsn.out; rw [hf] at this; exact this
        clear hf
        go_wp2
        go_roundw
        case rel => exact ⟨n + 1, by omega, by go_num, by rw [hsn.out]; go_num, hb⟩
        case measure => simp [intOf]; omega
      · rw [hf] at h3
        have hsn : Hid (cnt (l.take (n + 1)) = cnt (l.take n) + 1) := by have := hsn.out; rw [hf] at this; exact this
        clear hf
        go_wp2
        go_roundw
        case rel => exact ⟨n + 1, by omega, by go_num, by rw [hsn.out]; go_num, hb⟩
        case measure => simp [intOf]; omega
    · have ht : Hid (l.take n = l) := List.take_of_length_le (by omega)
      have he : Hid (SB.size = cnt (l.take n)) := by rw [ht.out]; exact hsz.out
      go_wp2
      go_ret
      exact ⟨by rw [he.out]; simp, below_seq hB2 hb⟩
theorem bytesLong_law (v : Value) (w : World) (hv : SpotsV w v) (hF : FarAt w) : Calls Tryd.prog 3 #[v] w fun e w' => e = .returned (.bool true) ∧ Below w.heap.size w w' := by
  rcases hv with ⟨a, cap, rfl⟩ | ⟨b, off, cap, l, rfl, h1, hm, hs⟩
  · exact bl_zero a cap w
  by_cases hl : l.length ≤ 12
  · rcases first_bad l with h | ⟨k, hk, h, hb⟩
    · exact bl_ok l b off cap w hF hl hs h
    · exact bl_bad l b off cap _ w (fun w1 hw => list_bad l b off cap w1 (hF.below hw) hl (hs.below hw) k hk h hb)
  · exact bl_bad l b off cap _ w (fun w1 hw => list_full _ _ _ w1 (by omega) (by unfold maxLen at hm; omega))
end Go.Proofs.YtlppjihejgcplaaDoor
