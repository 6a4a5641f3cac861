/- Walks: share.Split refused; quorum.right, Part, Public, of shares that may be. -/
import Derived.Test.YtnlaofapjldciaaDoorSpn
import Derived.Test.YtnlaofapjldciaaDoorSn
namespace Go.Proofs.YtnlaofapjldciaaDoor
open Go.RowKit
set_option maxRecDepth 100000
set_option linter.unusedVariables false
set_option linter.unusedSimpArgs false
theorem take_snoc2 {α : Type} (l : List α) (n : Nat) (h : n < l.length) : l.take (n + 1) = l.take n ++ [l[n]] := by
  rw [List.take_add_one, List.getElem?_eq_getElem h]; rfl
theorem right_sy (x y : Int) (w : World) (x1 : 1 ≤ x) (x2 : x < 1013) (y0 : 0 ≤ y) (y1 : y < 1013) : Calls Tryd.prog 100 #[.agg #[.int .i64 x, .int .i64 y]] w fun e w' => e = .returned (.bool true) ∧ Below w.heap.size w w' := by
  go_enter Tryd.func100, Tryd.ntmps100
  go_wp2_with fail
  refine (secret_y x _ x1 x2).mono ?_; rintro e w' ⟨rfl, rfl⟩
  go_wp2_with fail
  refine (rest_y y _ y0 y1).mono ?_; rintro e w' ⟨rfl, rfl⟩
  go_wp2
  go_ret
  exact ⟨rfl, below_alloc _ _⟩
set_option maxHeartbeats 2000000 in
theorem part_y (x y j : Int) (t : ByteArray) (H S : Sp) (w : World) (hF : FarAt w) (x1 : 1 ≤ x) (x2 : x < 1013) (y0 : 0 ≤ y) (y1 : y < 1013) (hz : t.size ≤ 60) (hH : Hid (hSpot t.data.toList = H)) (hu : Hid (H = sq (4 * j))) (hS : Hid (sq (4 * j * y) = S)) :
    Calls Tryd.prog 29 #[.agg #[.int .i64 x, .int .i64 y], .string t] w fun e w' => e = .returned (.tuple #[spV S, .nilIface]) ∧ Below w.heap.size w w' := by
  go_enter Tryd.func29, Tryd.ntmps29
  go_wp2_with fail
  refine (right_sy x y _ x1 x2 y0 y1).mono ?_; rintro e w1 ⟨rfl, hb⟩
  obtain ⟨hc1, hf1⟩ := bcell hb
  have z1 := hb.size
  try simp only [World.size_alloc, World.size_setCell, World.size_drew] at z1
  have s1_0 : w.heap.size < w1.heap.size := by omega
  have s1_1 : w.heap.size + 1 < w1.heap.size := by omega
  have hB1 : Below w.heap.size w w1 := below_seq (by repeat (first | exact Below.refl _ _ | refine balloc ?_ _ | refine Below.drew ?_ | refine below_drewN ?_ _ | refine below_set ?_ (by first | omega | (dsimp only; omega)) _)) hb
  clear hb
  go_wp2_with fail
  refine (text_y t _ hz).mono ?_; rintro e w' ⟨rfl, rfl⟩
  go_wp2_with fail
  refine wp_region_grow_tail 5 Tryd.mixed (by kernel_rfl) ?_
  simp only [List.take_succ_cons, List.take_zero, List.drop_succ_cons, List.drop_zero]
  repeat (quiet_step ((first | (go_at_call 30; exact grow_of (hashSpot_e t H _ (hF.below (below_seq (by repeat (first | exact hB1 | exact Below.refl _ _ | refine balloc ?_ _ | refine Below.drew ?_ | refine below_drewN ?_ _ | refine below_set ?_ (by first | omega | (dsimp only; omega)) _)) (Grew.h _))) (by omega) hH)) | (go_at_call 102; exact grow_of (of_e H S (4 * j) y _ (hF.below (below_seq (by repeat (first | exact hB1 | exact Below.refl _ _ | refine balloc ?_ _ | refine Below.drew ?_ | refine below_drewN ?_ _ | refine below_set ?_ (by first | omega | (dsimp only; omega)) _)) (Grew.h _))) hu hS)))))
  refine wpQuiet_nil ?_
  intro _ hw'
  obtain ⟨x2, rfl⟩ := hw'
  have z2 := x2.h.size
  try simp only [World.size_alloc, World.size_setCell, World.size_drew] at z2
  have s2_0 : w.heap.size < x2.w.heap.size := by omega
  have s2_1 : w.heap.size + 1 < x2.w.heap.size := by omega
  have hB2 : Below w.heap.size w x2.w := below_seq (by repeat (first | exact hB1 | exact Below.refl _ _ | refine balloc ?_ _ | refine Below.drew ?_ | refine below_drewN ?_ _ | refine below_set ?_ (by first | omega | (dsimp only; omega)) _)) x2.h
  have r0 : x2.w.cell? ⟨w.heap.size + 1, 0, none⟩ = some (.int .i64 0) := by go_simp
  have r1 : x2.w.cell? ⟨w.heap.size + 1, 1, none⟩ = some (.int .i64 0) := by go_simp
  have r2 : x2.w.cell? ⟨w.heap.size + 1, 2, none⟩ = some (.bool false) := by go_simp
  go_wp2
  have k := set3_cell (w := x2.w) (x := .int .i64 (S).x) (y := .int .i64 (S).y) (z := .bool (S).far) r0 r1 r2
  refine bodyPost_ret (v := .tuple #[spV (S), .nilIface]) (by simp [results, Tryd.results29, go_sem, k.1, k.2.1, k.2.2]) rfl ⟨rfl, set3_below (by repeat (first | exact hB2 | exact Below.refl _ _ | refine balloc ?_ _ | refine Below.drew ?_ | refine below_drewN ?_ _ | refine below_set ?_ (by first | omega | (dsimp only; omega)) _)) (by omega)⟩
set_option maxHeartbeats 4000000 in
theorem public_c (l : List (Int × Int)) (v : Value) (w : World) (hF : FarAt w) (hl : l.length ≤ 12) (h : ShSl w v l) (hok : ∀ i (h : i < l.length), 1 ≤ l[i].1 ∧ l[i].1 < 1013 ∧ 0 ≤ l[i].2 ∧ l[i].2 < 1013) :
    Calls Tryd.prog 31 #[v] w fun e w' => ∃ v', e = .returned (.tuple #[v', .nilIface]) ∧ SpSl w' v' (l.map fun s => sq (4 * s.2)) ∧ Below w.heap.size w w' := by
  obtain ⟨a, cap, rfl, h0⟩ := h
  have hd : decide ((12 : Int) < (l.length : Int)) = false := by rw [decide_eq_false_iff_not]; omega
  replace h0 := Lib.hid h0
  replace hok := Lib.hid hok
  replace hF := Lib.hid hF
  go_enter Tryd.func31, Tryd.ntmps31
  go_wp2
  go_loopw [4, 13] (fun o i wr => ∃ (n : Nat) (u : Value), n ≤ l.length ∧ i = .int .i64 n ∧ u = o ∧ wr.ownsRow w.heap.size 24 3 u n (spCells ((l.map fun s => sq (4 * s.2)).take n)) ∧ Below w.heap.size w wr) (fun _ i _ => l.length - (intOf i).toNat)
  case atStart => exact ⟨0, _, Nat.zero_le _, rfl, rfl, World.ownsRow_nil _ _ _ _, Below.refl _ _⟩
  case round =>
    obtain ⟨n, u, hn, rfl, rfl, hown, hb⟩ := hrel
    replace hown := Lib.hid hown
    replace hb := Lib.hid hb
    by_cases hlt : n < l.length
    · obtain ⟨b, off, rfl, hs⟩ := h0.out (by omega)
      have hs := hs.below hb.out
      have l1 := hs.cx n hlt
      have l2 := hs.cy n hlt
      have l3 := hs.lt
      have hlw := hb.out.size
      obtain ⟨x1, x2, y0, y1⟩ := hok.out n hlt
      have hsn := take_snoc2 (l.map fun s => sq (4 * s.2)) n (by simpa using hlt)
      rw [List.getElem_map] at hsn
      have htl : Hid (((l.map fun s => sq (4 * s.2)).take n).length = n) := Lib.hid (by rw [List.length_take, List.length_map]; omega)
      clear hs
      generalize l[n] = s at *
      obtain ⟨x, y⟩ := s
      simp only at l1 l2 x1 x2 y0 y1 hsn
      obtain ⟨A, hA⟩ : ∃ A, sq (4 * y) = A := ⟨_, rfl⟩
      rw [hA] at hsn
      replace hA := Lib.hid hA
      replace hsn := Lib.hid hsn
      generalize hT : (l.map fun s => sq (4 * s.2)).take n = T at *
      clear hT
      have hFr := Lib.hid (hF.out.below hb.out)
      go_wp2_with fail
      refine (right_sy x y _ x1 x2 y0 y1).mono ?_; rintro e w1 ⟨rfl, hb1⟩
      have ow1 := Lib.hid (own_below (hown.out.alloc _) hb1)
      have hB1 := Lib.hid (below_seq (balloc hb.out _) hb1)
      obtain ⟨kc, -⟩ := bcell hb1
      have y2 := (kc wr.heap.size 1 (by simp)).trans (show (wr.alloc (.cells #[.int .i64 x, .int .i64 y] 41)).cell? ⟨wr.heap.size, 1, none⟩ = some (.int .i64 y) by simp)
      have z1 := hb1.size
      simp only [World.size_alloc] at z1
      clear kc hown hb hb1 l1 l2 l3
      go_wp2_with fail
      refine (by_e y A _ (hF.out.below hB1.out) hA).mono ?_; rintro e w2 ⟨rfl, hb2⟩
      have ow2 := Lib.hid (own_below ow1.out hb2)
      have hB2 := Lib.hid (below_seq hB1.out hb2)
      have z2 := hb2.size
      clear ow1 hB1 hb2 y2
      go_wp2_with (first | (at_builtin; refine wpl_append_spot rfl _ _ _ rfl (by kernel_rfl) w.heap.size _ T n rfl (ow2.out.alloc _) htl.out (by omega) (by simp only [World.size_alloc]; omega) w2.heap.size A rfl (by go_simp) (by go_simp) (by go_simp) ?_; intro v' w3 hown' hgrow hbel hloc; replace hown' := Lib.hid hown'; replace hbel := Lib.hid (hbel w (balloc hB2.out _)); clear hgrow hloc ow2 hB2) | fail)
      go_wp2
      go_roundw
      case rel => exact ⟨n + 1, _, by omega, by go_num, rfl, by rw [hsn.out]; exact hown'.out, hbel.out⟩
      case measure => simp [intOf]; omega
    · obtain rfl : n = l.length := by omega
      have hSp : Hid (SpSl wr u (l.map fun s => sq (4 * s.2))) := Lib.hid (own_spots (by have := hown.out; rw [List.take_of_length_le (by simp)] at this; exact this) (by simp))
      go_wp2
      go_ret2
      exact ⟨_, rfl, hSp.out, hb.out⟩
theorem ShSl.made (w : World) (l : List (Int × Int)) (k n cap : Nat) (cs : Array Value) (t : TypeId) (hk : k = w.heap.size) (hc : cs = (shCells l).toArray) (hn : n = l.length) : ShSl (w.alloc (.cells cs t)) (.slice (some ⟨k, 0, none⟩) n cap) l := by
  subst hk hc hn
  refine ⟨_, _, rfl, fun _ => ⟨w.heap.size, 0, rfl, by simp, fun i hi => ?_, fun i hi => ?_⟩⟩
  all_goals
    obtain ⟨k1, k2⟩ := shCells_get l i hi
    rw [cell_of_row _ w.heap.size _ (shCells l).toArray t (0, 0) (heap_alloc_new w _)]
    simp only [Nat.zero_add, List.getElem?_toArray]
    assumption
end Go.Proofs.YtnlaofapjldciaaDoor
