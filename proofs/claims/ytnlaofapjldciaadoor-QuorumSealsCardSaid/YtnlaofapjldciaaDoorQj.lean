/- Walk of quorum.Join. -/
import Derived.Test.YtnlaofapjldciaaDoorSk
import Derived.Test.YtnlaofapjldciaaDoorQu
import Derived.Test.YtnlaofapjldciaaDoorGp
namespace Go.Proofs.YtnlaofapjldciaaDoor
open Go.RowKit
set_option maxRecDepth 100000
set_option linter.unusedVariables false
set_option linter.unusedSimpArgs false
theorem chk_v (s : Sp) (n : Int) (w : World) (hF : FarAt w) (h : Hid (sCheck s = n)) (h0 : n ≠ 0) : Calls Tryd.prog 106 #[spV s] w fun e w' => e = .returned (.iface 125 (.int .i64 n)) ∧ Below w.heap.size w w' := by
  have := check_bad s w hF (by rw [h.out]; exact h0); rw [h.out] at this; exact this
set_option maxHeartbeats 8000000 in
theorem qjoin_core (xs us : List Int) (l : List Sp) (v1 v2 : Value) (k : Nat) (R : Sp) (RE : Value) (w : World) (hF : FarAt w) (h1 : 1 ≤ xs.length) (h2 : xs.length ≤ 12) (hxl : l.length = xs.length) (hul : us.length = xs.length)
    (hs : ∀ i (h : i < xs.length), 1 ≤ xs[i] ∧ xs[i] < 1013) (hd : ∀ i j (hi : i < xs.length) (hj : j < xs.length), i < j → xs[i] ≠ xs[j]) (hi : IntSl w v1 xs) (hv : CapOk v1) (hsl : SpSl w v2 l) (hk : k ≤ l.length)
    (hue : Hid (∀ i (h1 : i < l.length) (h2 : i < us.length), i < k → l[i] = sq us[i]))
    (hbad : Hid (∀ h : k < l.length, sCheck l[k] ≠ 0 ∧ R = ⟨0, 0, false⟩ ∧ RE = .iface 125 (.int .i64 (sCheck l[k]))))
    (hend : Hid (k = l.length → R = sq (dot us (wgts xs)) ∧ RE = .nilIface)) :
    Calls Tryd.prog 32 #[v1, v2] w fun e w' => e = .returned (.tuple #[spV R, RE]) ∧ Below w.heap.size w w' := by
  obtain ⟨a1, c1, rfl, hi⟩ := hi
  obtain ⟨a2, c2, rfl, h0⟩ := hsl
  have hW := Lib.hid (fun w h => weights_ok xs (.slice a1 xs.length c1) w h1 h2 hs hd h hv)
  have hlen := wgts_len xs
  have hbd := Lib.hid (wgts_bd xs)
  generalize wgts xs = ws at *
  obtain ⟨b1, o1, rfl, hi'⟩ := hi (by omega)
  obtain ⟨b2, o2, rfl, h0'⟩ := h0 (by omega)
  clear hi h0
  have hxl' := Lib.hid hxl
  rw [hxl] at hk ⊢
  clear hs hd hv
  have hi := Lib.hid hi'
  have h0 := Lib.hid h0'
  clear hi' h0'
  have hF' := Lib.hid hF
  go_enter Tryd.func32, Tryd.ntmps32
  go_wp2_with fail
  refine (hW.out _ ⟨_, c1, rfl, fun _ => ⟨b1, o1, rfl, hi.out.below (below_alloc _ _)⟩⟩).mono ?_; rintro e w1 ⟨v', rfl, hi2, hb1⟩
  obtain ⟨ac, cc, rfl, hi2⟩ := hi2
  rw [hlen] at hi2 ⊢
  obtain ⟨bc, oc, rfl, hic0⟩ := hi2 (by omega)
  clear hW hi2
  have hR := Lib.hid ((SpAt.fresh w 0 0 false 24).below hb1)
  have hB1 := Lib.hid (below_seq (below_alloc w (.cells #[.int .i64 0, .int .i64 0, .bool false] 24)) hb1)
  have hF1 := Lib.hid (hF.below hB1.out)
  have hS1 := Lib.hid (h0.out.below hB1.out)
  replace hic0 := Lib.hid hic0
  clear h0 hF hb1 hi
  obtain ⟨q0, q1, q2, ql⟩ := hF1.out
  go_wp2
  clear q0 q1 q2 ql
  have hO := Lib.hid (SpAt.fresh w1 0 0 true 24)
  have hB2 := Lib.hid (below_alloc w1 (.cells #[.int .i64 0, .int .i64 0, .bool true] 24))
  generalize w1.alloc (.cells #[.int .i64 0, .int .i64 0, .bool true] 24) = w2 at *
  go_loopw [31] (fun i wr => ∃ n : Nat, n ≤ k ∧ i = .int .i64 n ∧ SpAt wr w1.heap.size (sq (dot (us.take n) ws)) ∧ Below w1.heap.size w1 wr) (fun i _ => xs.length - (intOf i).toNat)
  case atStart => exact ⟨0, Nat.zero_le _, rfl, by rw [List.take_zero, dot_nil, sq_zero]; exact hO.out, hB2.out⟩
  case round =>
    clear hO hB2
    obtain ⟨n, hn, rfl, hP, hb⟩ := hrel
    replace hP := Lib.hid hP
    replace hb := Lib.hid hb
    by_cases hlt : n < xs.length
    · have hsr := hS1.out.below hb.out
      have l1 := hsr.cx n (by omega)
      have l2 := hsr.cy n (by omega)
      have l3 := hsr.cf n (by omega)
      have hs3 := hsr.lt
      have hic1 := Lib.hid (hic0.out.below hb.out)
      have hlw := hb.out.size
      have hlr := hP.out.lt
      have hFr := Lib.hid (hF1.out.below hb.out)
      clear hsr
      by_cases hnk : n < k
      · have hA := hue.out n (by omega) (by omega) hnk
        have hdd := dot_snoc us ws n (by omega) (by omega)
        have hwn := hic1.out.c n (by omega)
        generalize (l[n]'(by omega)) = A at *
        generalize (us[n]'(by omega)) = u at *
        generalize (ws[n]'(by omega)) = c at *
        have oA : Ok A := by rw [hA]; exact sq_ok _
        replace hdd := Lib.hid hdd
        replace hA := Lib.hid hA
        obtain ⟨C, hCe⟩ : ∃ C, sq (u * c) = C := ⟨_, rfl⟩
        obtain ⟨D, hD⟩ : ∃ D, sSum (sq (dot (us.take n) ws)) C = D := ⟨_, rfl⟩
        have oP := sq_ok (dot (us.take n) ws)
        have hDe : Hid (sq (dot (us.take (n + 1)) ws) = D) := by rw [hdd.out, ← sq_add, hCe]; exact hD
        generalize sq (dot (us.take n) ws) = P at *
        have oC : Ok C := by rw [← hCe]; exact sq_ok _
        replace hCe := Lib.hid hCe
        replace hD := Lib.hid hD
        have hwn := Lib.hid hwn
        go_wp2_with fail
        refine (check_ok A _ (hFr.out.below (below_alloc _ _)) oA).mono ?_; rintro e w3 ⟨rfl, hb3⟩
        have hA3 := (SpAt.fresh wr A.x A.y A.far 24).below hb3
        have hP3 := Lib.hid ((hP.out.alloc (.cells #[.int .i64 A.x, .int .i64 A.y, .bool A.far] 24)).below hb3)
        have hb13 := Lib.hid (below_seq (balloc hb.out _) hb3)
        have hi3 := hic0.out.below hb13.out
        have hF3 := Lib.hid (hF1.out.below hb13.out)
        obtain ⟨s0, s1, s2, -, -, -, sl⟩ := hA3
        obtain ⟨p0, p1, p2, p3, p4, p5, pl⟩ := hP3.out
        have hci := hi3.lt
        have wn : w3.cell? ⟨bc, oc + n, none⟩ = some (.int .i64 c) := ((bcell (below_seq (below_alloc wr _) hb3)).1 _ _ hic1.out.lt).trans hwn.out
        clear hi3 l1 l2 l3 hb3 hwn hP hb hFr hic1
        go_wp2_with fail
        refine wp_region_grow_tail 8 Tryd.mixed (by kernel_rfl) ?_
        simp only [List.take_succ_cons, List.take_zero, List.drop_succ_cons, List.drop_zero]
        repeat (quiet_step (first | (go_at_call 102; exact grow_of (of_e A C u c _ (hF3.out.below (Grew.h _)) hA hCe)) | (go_at_call 107; exact grow_of (sum_e P C D _ (hF3.out.below (Grew.h _)) oP oC hD))))
        refine wpQuiet_nil ?_
        intro _ hw'
        obtain ⟨x, rfl⟩ := hw'
        have hP2 := hP3.out.below x.h
        have hBx := Lib.hid (below_seq hb13.out x.h)
        have hP2' := Lib.hid hP2
        clear p0 p1 p2 p3 p4 p5 pl s0 s1 s2 sl wn
        obtain ⟨p0, p1, p2, p3, p4, p5, p6⟩ := hP2
        go_wp2
        go_roundw
        case rel => exact ⟨n + 1, by omega, by go_num, by rw [hDe.out]; exact hP2'.out.set3 D, set3_below hBx.out (Nat.le_refl _)⟩
        case measure => simp [intOf]; omega
      · obtain rfl : n = k := by omega
        obtain ⟨hbd1, hR1, hR2⟩ := hbad.out (by omega)
        have hR3 := hR.out.below hb.out
        generalize (l[n]'(by omega)) = A at *
        obtain ⟨E, hE⟩ : ∃ E, sCheck A = E := ⟨_, rfl⟩
        rw [hE] at hbd1 hR2
        subst hR1 hR2
        go_wp2_with fail
        refine (chk_v A E _ (hFr.out.below (below_alloc _ _)) (Lib.hid hE) hbd1).mono ?_; rintro e w3 ⟨rfl, hb3⟩
        have hR4 := (hR3.alloc _).below hb3
        have hB4 := Lib.hid (below_seq hB1.out (below_seq (balloc hb.out _) hb3))
        obtain ⟨r0, r1, r2, f0, f1, f2, -⟩ := hR4
        clear l1 l2 l3 hb3
        go_wp2
        have k := set3_cell (w := w3) (x := .int .i64 0) (y := .int .i64 0) (z := .bool false) r0 r1 r2
        refine bodyPost_ret (v := .tuple #[spV ⟨0, 0, false⟩, .iface 125 (.int .i64 E)]) (by simp [results, Tryd.results32, go_sem, k.1, k.2.1, k.2.2]) rfl ⟨rfl, set3_below hB4.out (Nat.le_refl _)⟩
    · obtain rfl : n = xs.length := by omega
      obtain ⟨hJ1, hJ2⟩ := hend.out (by omega)
      subst hJ2
      have hPJ : sq (dot (us.take xs.length) ws) = R := by rw [List.take_of_length_le (by omega)]; exact hJ1.symm
      rw [hPJ] at hP
      obtain ⟨p0, p1, p2, p3, p4, p5, -⟩ := hP.out
      have hR2 := hR.out.below hb.out
      obtain ⟨r0, r1, r2, f0, f1, f2, -⟩ := hR2
      have hBr := Lib.hid (below_seq hB1.out hb.out)
      clear hJ1 hPJ
      go_wp2
      have k := set3_cell (w := wr) (x := .int .i64 R.x) (y := .int .i64 R.y) (z := .bool R.far) r0 r1 r2
      refine bodyPost_ret (v := .tuple #[spV R, .nilIface]) (by simp [results, Tryd.results32, go_sem, k.1, k.2.1, k.2.2]) rfl ⟨rfl, set3_below hBr.out (Nat.le_refl _)⟩
theorem qjoin_y (xs us : List Int) (l : List Sp) (v1 v2 : Value) (R : Sp) (w : World) (hF : FarAt w) (h1 : 1 ≤ xs.length) (h2 : xs.length ≤ 12) (hxl : us.length = xs.length)
    (hs : ∀ i (h : i < xs.length), 1 ≤ xs[i] ∧ xs[i] < 1013) (hd : ∀ i j (hi : i < xs.length) (hj : j < xs.length), i < j → xs[i] ≠ xs[j]) (hi : IntSl w v1 xs) (hv : CapOk v1) (hsl : SpSl w v2 l)
    (hu : Hid (l = us.map sq)) (hR : Hid (sq (dot us (wgts xs)) = R)) :
    Calls Tryd.prog 32 #[v1, v2] w fun e w' => e = .returned (.tuple #[spV R, .nilIface]) ∧ Below w.heap.size w w' := by
  have hl : l.length = us.length := by rw [hu.out, List.length_map]
  refine qjoin_core xs us l v1 v2 l.length R .nilIface w hF h1 h2 (by omega) hxl hs hd hi hv hsl (Nat.le_refl _) (Lib.hid fun i h1 h2 _ => ?_) (Lib.hid fun h => absurd h (Nat.lt_irrefl _)) (Lib.hid fun _ => ⟨hR.out.symm, rfl⟩)
  have := hu.out
  subst this
  rw [List.getElem_map]
end Go.Proofs.YtnlaofapjldciaaDoor
