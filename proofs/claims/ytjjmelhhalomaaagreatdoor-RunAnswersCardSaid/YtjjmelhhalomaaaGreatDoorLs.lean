/- Walk of bytes.List: spots one behind the other. -/
import Derived.Test.YtjjmelhhalomaaaGreatDoorWs
import Derived.Laws.BytesArg
namespace Go.Proofs.YtjjmelhhalomaaaGreatDoor
open Go.RowKit
set_option maxRecDepth 100000
set_option linter.unusedVariables false
set_option linter.unusedSimpArgs false
theorem conv1 (w : World) (b : Nat) (p : Int) (h0 : w.cell? ⟨b, 0, none⟩ = some (.int .u8 p)) :
    Sem.run Tryz.prog (convert 62 9 (.slice (some ⟨b, 0, none⟩) 1 1)) w = .ok (.string (strOfNums [p])) w := by
  refine run_convert_bytes_arg w 62 5 Tryz.underlying62 Tryz.underlying5 b 0 1 1 [p] rfl ?_ 9 Tryz.underlying9
  intro i hi
  obtain rfl : i = 0 := by omega
  exact h0
def lsB (n : Nat) (l : List Sp) : ByteArray := l.foldl (fun a s => a ++ sBytes s) (strOfNums [(n : Int)])
theorem lsB_snoc (n : Nat) (l : List Sp) (k : Nat) (h : k < l.length) : lsB n (l.take (k + 1)) = lsB n (l.take k) ++ sBytes l[k] := by
  unfold lsB; rw [List.take_succ_eq_append_getElem h, List.foldl_append]; rfl
theorem sBytes_size (s : Sp) : (sBytes s).size ≤ 3 := by
  unfold sBytes; split
  · decide
  · split <;> simp [strOfNums_size]
theorem foldl_size : ∀ (l : List Sp) (a : ByteArray), (l.foldl (fun a s => a ++ sBytes s) a).size ≤ a.size + 3 * l.length
  | [], a => by simp
  | s :: l, a => by
    have := foldl_size l (a ++ sBytes s)
    have h := sBytes_size s
    simp only [List.foldl_cons, List.length_cons, ByteArray.size_append] at this ⊢
    omega
theorem lsB_size (n : Nat) (l : List Sp) : (lsB n l).size ≤ 1 + 3 * l.length := by
  have := foldl_size l (strOfNums [(n : Int)])
  rw [strOfNums_size] at this
  exact this
set_option maxHeartbeats 1000000 in
theorem list_full (l : Nat) (a : Option Addr) (cap : Nat) (w : World) (hl : 12 < l) (hm : l ≤ 9223372036854775807) :
    Calls Tryz.prog 93 #[.slice a l cap] w fun e w' => e = .returned (.tuple #[.string ⟨#[]⟩, .iface 84 (.int .i64 4)]) ∧ Below w.heap.size w w' := by
  go_enter Tryz.func93, Tryz.ntmps93
  go_wp2
  go_ret2
  exact ⟨rfl, Below.refl _ _⟩
set_option maxHeartbeats 1000000 in
theorem list_core (l : List Sp) (b off cap : Nat) (w : World) (hF : FarAt w) (hl : l.length ≤ 12) (hs : SpotsAt w b off l) (k : Nat) (hk : k ≤ l.length) (R : Value) (hok : Hid (∀ i (h : i < l.length), i < k → Ok l[i]))
    (hbad : Hid (∀ h : k < l.length, sCheck l[k] ≠ 0 ∧ R = .tuple #[.string ⟨#[]⟩, .iface 84 (.int .i64 (sCheck l[k]))])) (hend : Hid (k = l.length → R = .tuple #[.string (lsB l.length l), .nilIface])) :
    Calls Tryz.prog 93 #[.slice (some ⟨b, off, none⟩) l.length cap] w fun e w' => e = .returned R ∧ Below w.heap.size w w' := by
  go_enter Tryz.func93, Tryz.ntmps93
  have hd : decide ((12 : Int) < (l.length : Int)) = false := by rw [decide_eq_false_iff_not]; omega
  have hcv := conv1 (w.alloc (.cells #[.int .u8 l.length] 5)) w.heap.size l.length (by go_simp)
  go_wp2
  have hFs := Lib.hid (hF.below (below_alloc w (.cells #[.int .u8 l.length] 5)))
  have hss := Lib.hid (hs.below (below_alloc w (.cells #[.int .u8 l.length] 5)))
  have hBs := Lib.hid (below_alloc w (.cells #[.int .u8 l.length] 5))
  clear hcv hs hF hd
  generalize w.alloc (.cells #[.int .u8 l.length] 5) = w0 at *
  go_loopw [4, 20] (fun o i wr => ∃ n : Nat, n ≤ k ∧ i = .int .i64 n ∧ o = .string (lsB l.length (l.take n)) ∧ Below w0.heap.size w0 wr) (fun _ i _ => l.length - (intOf i).toNat)
  case atStart => exact ⟨0, Nat.zero_le _, rfl, rfl, Below.refl _ _⟩
  case round =>
    obtain ⟨n, hn, rfl, rfl, hb⟩ := hrel
    have hFr := hFs.out.below hb
    have hsr := hss.out.below hb
    by_cases hlt : n < l.length
    · have h1 := hsr.cx n hlt
      have h2 := hsr.cy n hlt
      have h3 := hsr.cf n hlt
      clear hsr
      by_cases hnk : n < k
      · have ho := hok.out n hlt hnk
        have hsn := Lib.hid (lsB_snoc l.length l n hlt)
        go_wp2_with fail
        refine (pack_ok l[n] _ (hFr.below (below_alloc _ _)) ho).mono ?_; rintro e w1 ⟨rfl, hb1⟩
        clear h1 h2 h3 ho
        have hz1 := lsB_size l.length (l.take n)
        have hz2 := sBytes_size l[n]
        have hz3 : (l.take n).length ≤ 12 := by rw [List.length_take]; omega
        have hz4 : (lsB l.length (l.take n)).size ≤ 37 := by omega
        clear hz1 hz3
        go_wp2
        go_roundw
        case rel => exact ⟨n + 1, by omega, by go_num, by rw [hsn.out], hb.trans ((below_seq (below_alloc _ _) hb1).mono hb.size)⟩
        case measure => simp [intOf]; omega
      · obtain rfl : n = k := by omega
        obtain ⟨hbd, hR⟩ := hbad.out hlt
        have hR := Lib.hid hR
        go_wp2_with fail
        refine (pack_bad l[n] _ (hFr.below (below_alloc _ _)) hbd).mono ?_; rintro e w1 ⟨rfl, hb1⟩
        clear h1 h2 h3 hbd
        go_wp2
        go_ret2
        exact ⟨ret_eq hR.out.symm, below_seq hBs.out (hb.trans ((below_seq (below_alloc _ _) hb1).mono hb.size))⟩
    · have hkl : k = l.length := by omega
      have hR := Lib.hid (hend.out hkl)
      have ht : Hid (l.take n = l) := List.take_of_length_le (by omega)
      clear hkl
      go_wp2
      go_ret2
      exact ⟨ret_eq (by rw [hR.out, ht.out]; rfl), below_seq hBs.out hb⟩
set_option maxHeartbeats 1000000 in
theorem list_zero (a : Option Addr) (cap : Nat) (w : World) : Calls Tryz.prog 93 #[.slice a 0 cap] w fun e w' => e = .returned (.tuple #[.string (strOfNums [0]), .nilIface]) ∧ Below w.heap.size w w' := by
  go_enter Tryz.func93, Tryz.ntmps93
  have hcv := conv1 (w.alloc (.cells #[.int .u8 0] 5)) w.heap.size 0 (by go_simp)
  go_wp2
  refine wp_loop_rounds 1 ?_
  rw [rounds_succ]
  go_wp2
  go_ret2
  exact ⟨rfl, below_alloc _ _⟩
theorem list_ok (l : List Sp) (b off cap : Nat) (w : World) (hF : FarAt w) (hl : l.length ≤ 12) (hs : SpotsAt w b off l) (h : ∀ i (h : i < l.length), Ok l[i]) :
    Calls Tryz.prog 93 #[.slice (some ⟨b, off, none⟩) l.length cap] w fun e w' => e = .returned (.tuple #[.string (lsB l.length l), .nilIface]) ∧ Below w.heap.size w w' :=
  list_core l b off cap w hF hl hs l.length (Nat.le_refl _) _ (fun i hi _ => h i hi) (fun h => absurd h (Nat.lt_irrefl _)) (fun _ => rfl)
theorem list_bad (l : List Sp) (b off cap : Nat) (w : World) (hF : FarAt w) (hl : l.length ≤ 12) (hs : SpotsAt w b off l) (k : Nat) (hk : k < l.length) (h : ∀ i (h : i < l.length), i < k → Ok l[i]) (hb : sCheck l[k] ≠ 0) :
    Calls Tryz.prog 93 #[.slice (some ⟨b, off, none⟩) l.length cap] w fun e w' => e = .returned (.tuple #[.string ⟨#[]⟩, .iface 84 (.int .i64 (sCheck l[k]))]) ∧ Below w.heap.size w w' :=
  list_core l b off cap w hF hl hs k (Nat.le_of_lt hk) _ h (fun _ => ⟨hb, rfl⟩) (fun e => absurd hk (by omega))
/-- All of some spots are right, or there is a first one that is not. -/
theorem first_bad : ∀ l : List Sp, (∀ i (h : i < l.length), Ok l[i]) ∨ ∃ k, ∃ h : k < l.length, (∀ i (h : i < l.length), i < k → Ok l[i]) ∧ sCheck l[k] ≠ 0
  | [] => .inl fun i h => absurd h (Nat.not_lt_zero _)
  | s :: l => by
    by_cases hs : sCheck s = 0
    · rcases first_bad l with h | ⟨k, hk, h, hb⟩
      · left; intro i hi
        cases i with
        | zero => exact (ok_iff _).mp hs
        | succ i => exact h i (by simpa using hi)
      · right; refine ⟨k + 1, by simpa using hk, fun i hi hik => ?_, by simpa using hb⟩
        cases i with
        | zero => exact (ok_iff _).mp hs
        | succ i => exact h i (by simpa using hi) (by omega)
    · right; exact ⟨0, by simp, fun i _ h => absurd h (Nat.not_lt_zero _), by simpa using hs⟩
end Go.Proofs.YtjjmelhhalomaaaGreatDoor
