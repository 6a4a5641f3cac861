/- Walk of share.Combine, all right. -/
import Derived.Test.YtnlaofapjldciaaDoorSx
import Derived.Test.YtnlaofapjldciaaDoorSpl
import Derived.Deep.QuietTactic
import Derived.BigQuiet
namespace Go.Proofs.YtnlaofapjldciaaDoor
open Go.RowKit
set_option maxRecDepth 100000
set_option linter.unusedVariables false
set_option linter.unusedSimpArgs false
/-- What the shares so far add up to. -/
def csum (ws ys : List Int) : Nat → Int
  | 0 => 0
  | n + 1 => (csum ws ys n + ws.getD n 0 * ys.getD n 0) % 1013
theorem csum_bd (ws ys : List Int) : ∀ n, 0 ≤ csum ws ys n ∧ csum ws ys n < 1013
  | 0 => ⟨Int.le_refl 0, by show (0 : Int) < 1013; decide⟩
  | n + 1 => ⟨Int.emod_nonneg _ (by decide), Int.emod_lt_of_pos _ (by decide)⟩
/-- What the shares tell. -/
def comb (l : List (Int × Int)) : Int := csum (wgts (l.map (·.1))) (l.map (·.2)) l.length
theorem own_cap {w : World} {B e size n : Nat} {v : Value} {xs : List Value} (h : w.ownsRow B e size v n xs) : CapOk v := by
  intro a m cap hv
  rcases h.2 with ⟨rfl, -⟩ | ⟨g, cap', cur, rfl, -, -, hnc, -⟩
  · cases hv; exact Nat.le_refl _
  · cases hv; exact hnc
theorem wgts_bd (xs : List Int) (i : Nat) (h : i < (wgts xs).length) : 0 ≤ (wgts xs)[i] ∧ (wgts xs)[i] < 1013 := by rw [wgts_get]; exact wpre_bd xs i xs.length
theorem gD {l : List Int} {i : Nat} (h : i < l.length) : l.getD i 0 = l[i] := by rw [List.getD_eq_getElem?_getD, List.getElem?_eq_getElem h]; rfl
set_option maxHeartbeats 8000000 in
theorem combine_ok (l : List (Int × Int)) (v : Value) (w : World) (h1 : 1 ≤ l.length) (h2 : l.length ≤ 12) (hs : ∀ i (h : i < l.length), 1 ≤ l[i].1 ∧ l[i].1 < 1013 ∧ 0 ≤ l[i].2 ∧ l[i].2 < 1013) (hd : ∀ i j (hi : i < l.length) (hj : j < l.length), i < j → l[i].1 ≠ l[j].1) (h : ShSl w v l) :
    Calls Tryd.prog 28 #[v] w fun e w' => e = .returned (.tuple #[.int .i64 (comb l), .nilIface]) ∧ Below w.heap.size w w' := by
  obtain ⟨a, cap, rfl, h⟩ := h
  obtain ⟨b, off, rfl, hI⟩ := h (by omega)
  clear h
  replace hI := Lib.hid hI
  have hxl : (l.map (·.1)).length = l.length := List.length_map ..
  have hW := Lib.hid (fun v w h hv => weights_ok (l.map (·.1)) v w (by omega) (by omega) (fun i hi => by rw [List.getElem_map]; exact ⟨(hs i (by omega)).1, (hs i (by omega)).2.1⟩) (fun i j hi hj hij => by rw [List.getElem_map, List.getElem_map]; exact hd i j (by omega) (by omega) hij) h hv)
  have hwl := wgts_len (l.map (·.1))
  rw [hxl] at hwl
  have hwb := Lib.hid (wgts_bd (l.map (·.1)))
  have hcb := Lib.hid (csum_bd (wgts (l.map (·.1))) (l.map (·.2)))
  have hcs := Lib.hid (show ∀ n (h : n < l.length) (h' : n < (wgts (l.map (·.1))).length), csum (wgts (l.map (·.1))) (l.map (·.2)) (n + 1) = (csum (wgts (l.map (·.1))) (l.map (·.2)) n + (wgts (l.map (·.1)))[n] * l[n].2) % 1013 from fun n h h' => by rw [csum, gD h', gD (by rw [List.length_map]; exact h), List.getElem_map])
  have hend : Hid (csum (wgts (l.map (·.1))) (l.map (·.2)) l.length = comb l) := Lib.hid rfl
  have hc0 : Hid (csum (wgts (l.map (·.1))) (l.map (·.2)) 0 = 0) := Lib.hid rfl
  generalize hcf : csum (wgts (l.map (·.1))) (l.map (·.2)) = cf at *
  generalize hwg : wgts (l.map (·.1)) = ws at *
  clear hcf hwg
  replace hs := Lib.hid hs
  clear hd
  replace hxl := Lib.hid hxl
  replace hwl := Lib.hid hwl
  go_enter Tryd.func28, Tryd.ntmps28
  go_wp2
  go_loopw [4, 14] (fun o i wr => ∃ (n : Nat) (u : Value), n ≤ l.length ∧ i = .int .i64 n ∧ u = o ∧ wr.ownsRow w.heap.size 3 1 u n (((l.map (·.1)).take n).map (Value.int .i64)) ∧ Below w.heap.size w wr) (fun _ i _ => l.length - (intOf i).toNat)
  case atStart => exact ⟨0, _, Nat.zero_le _, rfl, rfl, World.ownsRow_nil _ _ _ _, Below.refl _ _⟩
  case round =>
    obtain ⟨n, u, hn, rfl, rfl, hown, hb⟩ := hrel
    replace hown := Lib.hid hown
    replace hb := Lib.hid hb
    by_cases hlt : n < l.length
    · have hIr := hI.out.below hb.out
      have m1 := hIr.cx n hlt
      have m2 := hIr.cy n hlt
      have ml := hIr.lt
      have hlw := hb.out.size
      have htl := Lib.hid (show ((l.map (·.1)).take n).length = n by rw [List.length_take, hxl.out]; omega)
      have hsn := Lib.hid (show (l.map (·.1)).take (n + 1) = (l.map (·.1)).take n ++ [l[n].1] by rw [take_snoc3 _ n (by rw [hxl.out]; exact hlt), List.getElem_map])
      clear hIr
      generalize l[n] = s at *
      obtain ⟨x, y⟩ := s
      simp only at m1 m2
      generalize hT : (l.map (·.1)).take n = T at *
      clear hT
      go_wp2_with (first | (at_builtin; refine wpl_append_int rfl _ _ _ rfl (by kernel_rfl) w.heap.size _ T n rfl ((hown.out.alloc _).alloc _) htl.out (by omega) (by simp only [World.size_alloc]; omega) (wr.heap.size + 1) x rfl (by go_simp) ?_; intro v' w3 hown' hgrow hbel hloc; replace hown' := Lib.hid hown'; replace hbel := Lib.hid (hbel w (balloc (balloc hb.out _) _)); clear hgrow hloc) | fail)
      go_wp2
      go_roundw
      case rel => exact ⟨n + 1, _, by omega, by go_num, rfl, by rw [hsn.out]; exact hown'.out, hbel.out⟩
      case measure => simp [intOf]; omega
    · obtain rfl : n = l.length := by omega
      have hcap := Lib.hid (own_cap hown.out)
      have hX := Lib.hid (own_ints (by have := hown.out; rw [List.take_of_length_le (by rw [hxl.out]; exact Nat.le_refl _)] at this; exact this) hxl.out.symm)
      clear hown
      go_wp2_with fail
      refine (hW.out u wr hX.out hcap.out).mono ?_; rintro e w1 ⟨wv, rfl, hi, hb1⟩
      obtain ⟨wa, wc, rfl, hi⟩ := hi
      rw [hwl.out] at hi ⊢
      obtain ⟨b2, off2, rfl, hi2⟩ := hi (by omega)
      clear hi
      have hi := Lib.hid hi2
      clear hi2
      have hB1 := Lib.hid (below_seq hb.out hb1)
      clear hb hb1 hX hcap hW
      go_wp2
      go_loopw [9, 34] (fun o i wr => ∃ (n : Nat), n ≤ l.length ∧ i = .int .i64 n ∧ o = .int .i64 (cf n) ∧ Below w1.heap.size w1 wr) (fun _ i _ => l.length - (intOf i).toNat)
      case atStart => exact ⟨0, Nat.zero_le _, rfl, by rw [hc0.out], Below.refl _ _⟩
      case round =>
        obtain ⟨n, hn, rfl, rfl, hb⟩ := hrel
        replace hb := Lib.hid hb
        by_cases hlt2 : n < l.length
        · have hIr := (hI.out.below hB1.out).below hb.out
          have m1 := hIr.cx n hlt2
          have m2 := hIr.cy n hlt2
          have ml := hIr.lt
          have hir := hi.out.below hb.out
          have m3 := hir.c n (by rw [hwl.out]; exact hlt2)
          have ml2 := hir.lt
          have hstep := hcs.out n hlt2 (by rw [hwl.out]; exact hlt2)
          obtain ⟨p0, p1⟩ := hwb.out n (by rw [hwl.out]; exact hlt2)
          obtain ⟨x1, x2, y1, y2⟩ := hs.out n hlt2
          obtain ⟨q0, q1⟩ := hcb.out n
          clear hIr hir
          generalize l[n] = s at *
          obtain ⟨x, y⟩ := s
          simp only at m1 m2 y1 y2 hstep
          generalize (ws[n]'(by rw [hwl.out]; exact hlt2)) = c at *
          generalize cf n = q at *
          obtain ⟨r0, r1⟩ := mul_bq p0 p1 y1 y2
          have f1 : IntKind.i64.wrap (c * y) = c * y := IntWalk.i64_in _ (by omega)
          have f2 : IntKind.i64.wrap (q + c * y) = q + c * y := IntWalk.i64_in _ (by omega)
          have f3 : (q + c * y).tmod 1013 = (q + c * y) % 1013 := Int.tmod_eq_emod_of_nonneg (by omega)
          replace hstep := Lib.hid hstep
          go_wp2_with fail
          refine (rest_y y _ y1 y2).mono ?_; rintro e w' ⟨rfl, rfl⟩
          go_wp2_with fail
          go_quiet (fail)
          go_wp2
          go_roundw
          case rel => exact ⟨n + 1, by omega, by go_num, by rw [hstep.out], (by repeat (first | exact hb.out | refine balloc ?_ _ | refine below_drewN ?_ _ | refine Below.drew ?_))⟩
          case measure => simp [intOf]; omega
        · obtain rfl : n = l.length := by omega
          rw [hend.out]
          go_wp2
          go_ret2
          exact ⟨rfl, below_seq hB1.out hb.out⟩
end Go.Proofs.YtnlaofapjldciaaDoor
