/- Walks of layer pair: the pair of two that count. -/
import Derived.Test.YtfnifdmnbccblaaDoorPo
import Derived.Deep.DeepCutAuto
namespace Go.Proofs.YtfnifdmnbccblaaDoor
open Go.RowKit
set_option maxRecDepth 100000
set_option linter.unusedVariables false
set_option linter.unusedSimpArgs false
set_option maxHeartbeats 1000000 in
theorem pairOf_farl (a b : Sp) (w : World) (hO : OneAt w) (h : a.far = true) : Calls Tryd.prog 88 #[spV a, spV b] w fun e w' => e = .returned (.agg #[.int .i64 1, .int .i64 0]) ∧ Below w.heap.size w w' := by
  obtain ⟨x, y, f⟩ := a; obtain ⟨u, v, g⟩ := b
  subst h
  obtain ⟨q0, q1, ql⟩ := hO
  have q2 : 0 < w.heap.size := Nat.lt_of_le_of_lt (Nat.zero_le _) ql
  go_enter Tryd.func88, Tryd.ntmps88
  go_wp2
  refine bodyPost_ret (v := .agg #[.int .i64 1, .int .i64 0]) (by simp [results, Tryd.results88, go_sem]) rfl ⟨rfl, (by repeat (first | exact Below.refl _ _ | refine balloc ?_ _ | refine Below.drew ?_ | refine below_drewN ?_ _ | refine below_set ?_ (by first | omega | (dsimp only; omega)) _))⟩
set_option maxHeartbeats 1000000 in
theorem pairOf_farr (a b : Sp) (w : World) (hO : OneAt w) (h0 : a.far = false) (h : b.far = true) : Calls Tryd.prog 88 #[spV a, spV b] w fun e w' => e = .returned (.agg #[.int .i64 1, .int .i64 0]) ∧ Below w.heap.size w w' := by
  obtain ⟨x, y, f⟩ := a; obtain ⟨u, v, g⟩ := b
  subst h; subst h0
  obtain ⟨q0, q1, ql⟩ := hO
  have q2 : 0 < w.heap.size := Nat.lt_of_le_of_lt (Nat.zero_le _) ql
  go_enter Tryd.func88, Tryd.ntmps88
  go_wp2
  refine bodyPost_ret (v := .agg #[.int .i64 1, .int .i64 0]) (by simp [results, Tryd.results88, go_sem]) rfl ⟨rfl, (by repeat (first | exact Below.refl _ _ | refine balloc ?_ _ | refine Below.drew ?_ | refine below_drewN ?_ _ | refine below_set ?_ (by first | omega | (dsimp only; omega)) _))⟩
/-- What pair.Of keeps in memory. -/
structure PMem (w wr : World) (g h : Nat) (a b : Sp) (f : Z) (t : Sp) : Prop where
  bel : Below w.heap.size w wr
  sa : SpAt wr w.heap.size a
  sb : SpAt wr (w.heap.size + 1) b
  sr : TwAt wr (w.heap.size + 1 + 1) ⟨0, 0⟩
  sg : TwAt wr g f
  sh : SpAt wr h t
  hg : w.heap.size + 1 + 1 < g
  hh : w.heap.size + 1 + 1 < h
  ne : g ≠ h
theorem PMem.below {w wr w1 : World} {g h : Nat} {a b : Sp} {f : Z} {t : Sp} (m : PMem w wr g h a b f t) (hb : Below wr.heap.size wr w1) : PMem w w1 g h a b f t :=
  ⟨below_seq m.bel hb, m.sa.below hb, m.sb.below hb, m.sr.below hb, m.sg.below hb, m.sh.below hb, m.hg, m.hh, m.ne⟩
theorem PMem.setG {w wr : World} {g h : Nat} {a b : Sp} {f : Z} {t : Sp} (m : PMem w wr g h a b f t) (v : Z) : PMem w ((wr.setCell ⟨g, 0, none⟩ (.int .i64 (fz v.re))).setCell ⟨g, 1, none⟩ (.int .i64 (fz v.im))) g h a b v t := by
  obtain ⟨bel, sa, sb, sr, sg, sh, hg, hh, ne⟩ := m
  exact ⟨set2_below bel (by omega), (sa.other _ (by omega)).other _ (by omega), (sb.other _ (by omega)).other _ (by omega), (sr.other _ (by omega)).other _ (by omega), sg.set2 v, (sh.other _ ne).other _ ne, hg, hh, ne⟩
theorem PMem.setH {w wr : World} {g h : Nat} {a b : Sp} {f : Z} {t : Sp} (m : PMem w wr g h a b f t) (v : Sp) : PMem w (((wr.setCell ⟨h, 0, none⟩ (.int .i64 v.x)).setCell ⟨h, 1, none⟩ (.int .i64 v.y)).setCell ⟨h, 2, none⟩ (.bool v.far)) g h a b f v := by
  obtain ⟨bel, sa, sb, sr, sg, sh, hg, hh, ne⟩ := m
  exact ⟨set3_below bel (by omega), ((sa.other _ (by omega)).other _ (by omega)).other _ (by omega), ((sb.other _ (by omega)).other _ (by omega)).other _ (by omega), ((sr.other _ (by omega)).other _ (by omega)).other _ (by omega), ((sg.other _ ne.symm).other _ ne.symm).other _ ne.symm, sh.set3 v, hg, hh, ne⟩
theorem TwAt.one_of {w : World} {b : Nat} (h0 : w.cell? ⟨b, 0, none⟩ = some (.int .i64 1)) (h1 : w.cell? ⟨b, 1, none⟩ = some (.int .i64 0)) (f0 : w.frozen? ⟨b, 0, none⟩ = false) (f1 : w.frozen? ⟨b, 1, none⟩ = false) (hl : b < w.heap.size) : TwAt w b .one := ⟨h0, h1, f0, f1, hl⟩
theorem TwAt.zero_of {w : World} {b : Nat} (h0 : w.cell? ⟨b, 0, none⟩ = some (.int .i64 0)) (h1 : w.cell? ⟨b, 1, none⟩ = some (.int .i64 0)) (f0 : w.frozen? ⟨b, 0, none⟩ = false) (f1 : w.frozen? ⟨b, 1, none⟩ = false) (hl : b < w.heap.size) : TwAt w b ⟨0, 0⟩ := ⟨h0, h1, f0, f1, hl⟩
/-- The steps that are left. -/
def restN : Nat → List Bool
  | 0 => []
  | 1 => false :: true :: restN 0
  | 2 => false :: restN 1
  | 3 => false :: true :: restN 2
  | 4 => false :: restN 3
  | n+1 => false :: true :: restN n
def bitOf (n : Nat) : Bool := n != 4 && n != 2
theorem rest_yes {n : Nat} (h1 : 1 ≤ n) (h2 : n ≤ 9) (hb : bitOf n = true) : restN n = false :: true :: restN (n - 1) := by
  have hk : n = 1 ∨ n = 2 ∨ n = 3 ∨ n = 4 ∨ n = 5 ∨ n = 6 ∨ n = 7 ∨ n = 8 ∨ n = 9 := by omega
  rcases hk with rfl | rfl | rfl | rfl | rfl | rfl | rfl | rfl | rfl <;> first | rfl | cases hb
theorem rest_no {n : Nat} (hb : bitOf n = false) : restN n = false :: restN (n - 1) := by
  have hk : n = 4 ∨ n = 2 := by unfold bitOf at hb; simp at hb; omega
  rcases hk with rfl | rfl <;> rfl
theorem rest_all : restN 9 = goOps ++ [true] := rfl
theorem sum_o {a b : Sp} (ha : Ok a) (hb : Ok b) : Ok (sSum a b) := (sum_ok ha hb).1
set_option maxHeartbeats 4000000 in
theorem pairOf_c (a b : Sp) (w : World) (hF : FarAt w) (hO : OneAt w) (ha : Ok a) (hb : Ok b) (fa : a.far = false) (fb : b.far = false) : Calls Tryd.prog 88 #[spV a, spV b] w fun e w' => e = .returned (twR (zP goOps a b)) ∧ Below w.heap.size w w' := by
  have hF' := Lib.hid hF
  have hO' := Lib.hid hO
  clear hF
  obtain ⟨q0, q1, ql⟩ := hO
  have q2 : 0 < w.heap.size := Nat.lt_of_le_of_lt (Nat.zero_le _) ql
  go_enter Tryd.func88, Tryd.ntmps88
  go_upto_region 3 with fail
  go_cut [5, 6] (fun s5 s6 wx => ∃ g h : Nat, s5 = .pointer (some ⟨g, 0, none⟩) ∧ s6 = .pointer (some ⟨h, 0, none⟩) ∧ PMem w wx g h a b .one a)
  case first =>
    go_region
    all_goals
      go_wp2_with fail
      go_meet
      refine ⟨_, _, rfl, rfl, ?_, ?_, ?_, TwAt.zero_of (by go_simp) (by go_simp) (by go_simp) (by go_simp) (by simp), TwAt.one_of (by go_simp) (by go_simp) (by go_simp) (by go_simp) (by simp), ?_, by omega, by omega, by omega⟩
      · repeat (first | exact Below.refl _ _ | refine balloc ?_ _ | refine Below.drew ?_)
      · constructor <;> go_simp
      · constructor <;> go_simp
      · constructor <;> go_simp
  case rest =>
    obtain ⟨g, h, rfl, rfl, m⟩ := hcut
    clear q0 q1 ql q2 fa fb
    have m := Lib.hid m
    have hr0 : Hid ((restN 9).foldl (mstep a b) (.one, a) = mrun a b (goOps ++ [true])) := by show _ = _; rw [rest_all]; rfl
    go_wp2_with fail
    refine (len_c _).mono ?_; rintro e w0 ⟨rfl, hb0⟩
    have m0 := Lib.hid (m.out.below hb0)
    clear m hb0
    go_wp2
    go_loopw [7] (fun s7 wr => ∃ (n : Nat) (f : Z) (t : Sp), n ≤ 9 ∧ s7 = .int .i64 ((n : Int) - 1) ∧ PMem w wr g h a b f t ∧ Ok t ∧ (restN n).foldl (mstep a b) (f, t) = mrun a b (goOps ++ [true])) (fun s7 _ => (intOf s7 + 1).toNat)
    case atStart => exact ⟨9, .one, a, by omega, rfl, m0.out, ha, hr0.out⟩
    case round =>
      clear m0 hr0
      obtain ⟨n, f, t, hn, rfl, m, ht, hr⟩ := hrel
      have m := Lib.hid m
      have hr := Lib.hid hr
      by_cases h0 : n = 0
      · subst h0
        obtain ⟨bel, ⟨a0, a1, a2, fa0, fa1, fa2, al⟩, ⟨b0, b1, b2, fb0, fb1, fb2, bl⟩, ⟨r0, r1, fr0, fr1, rl⟩, ⟨g0, g1, fg0, fg1, gl⟩, ⟨h0, h1, h2, fh0, fh1, fh2, hl⟩, hg, hh, ne⟩ := m.out
        have hW : Hid (f.pow (16200 : Int).toNat = zP goOps a b) := by
          have e : (f, t) = mrun a b (goOps ++ [true]) := hr.out
          show _ = _; unfold zP zM; rw [← e]; rfl
        go_wp2_with fail
        refine (power_z f 16200 _ (by omega) (by omega)).mono ?_; rintro e w1 ⟨rfl, hb1⟩
        generalize hV : f.pow (16200 : Int).toNat = V at *
        have hV2 := Lib.hid hV
        clear hV
        have m1 := m.out.below hb1
        clear bel a0 a1 a2 fa0 fa1 fa2 al b0 b1 b2 fb0 fb1 fb2 bl r0 r1 fr0 fr1 rl g0 g1 fg0 fg1 gl h0 h1 h2 fh0 fh1 fh2 hl hg hh ne hb1
        obtain ⟨bel, ⟨a0, a1, a2, fa0, fa1, fa2, al⟩, ⟨b0, b1, b2, fb0, fb1, fb2, bl⟩, ⟨r0, r1, fr0, fr1, rl⟩, ⟨g0, g1, fg0, fg1, gl⟩, ⟨h0, h1, h2, fh0, fh1, fh2, hl⟩, hg, hh, ne⟩ := m1
        go_wp2
        have k := set2_cell (w := w1) (x := .int .i64 (fz V.re)) (y := .int .i64 (fz V.im)) r0 r1
        refine bodyPost_ret (v := twR V) (by simp [results, Tryd.results88, go_sem, k.1, k.2]) rfl ⟨by rw [hW.out], set2_below bel (by omega)⟩
      · have hn1 : 1 ≤ n := by omega
        clear h0
        have mm := m.out
        obtain ⟨bel, ⟨a0, a1, a2, fa0, fa1, fa2, al⟩, ⟨b0, b1, b2, fb0, fb1, fb2, bl⟩, ⟨r0, r1, fr0, fr1, rl⟩, ⟨g0, g1, fg0, fg1, gl⟩, ⟨h0, h1, h2, fh0, fh1, fh2, hl⟩, hg, hh, ne⟩ := mm
        go_wp2_with fail
        refine wp_region_grow_tail 8 Tryd.mixed (by kernel_rfl) ?_
        simp only [List.take_succ_cons, List.take_zero, List.drop_succ_cons, List.drop_zero]
        repeat (quiet_step ((first | (go_at_call 91; exact grow_of (mul_z _ _ _)) | (go_at_call 132; exact grow_of (line_c t t b _ (hO'.out.below (below_seq bel (Grew.h _))) ht hb)))))
        refine wpQuiet_nil ?_
        intro _ hw'
        obtain ⟨x1, rfl⟩ := hw'
        have m1 := m.out.below x1.h
        have n1 := Lib.hid m1
        clear m
        clear bel a0 a1 a2 fa0 fa1 fa2 al b0 b1 b2 fb0 fb1 fb2 bl r0 r1 fr0 fr1 rl g0 g1 fg0 fg1 gl h0 h1 h2 fh0 fh1 fh2 hl hg hh ne
        obtain ⟨bel, ⟨a0, a1, a2, fa0, fa1, fa2, al⟩, ⟨b0, b1, b2, fb0, fb1, fb2, bl⟩, ⟨r0, r1, fr0, fr1, rl⟩, ⟨g0, g1, fg0, fg1, gl⟩, ⟨h0, h1, h2, fh0, fh1, fh2, hl⟩, hg, hh, ne⟩ := m1
        go_wp2_with fail
        refine (sum_e t t (sSum t t) _ (hF'.out.below (n1.out.setG _).bel) ht ht rfl).mono ?_; rintro e w2 ⟨rfl, hb2⟩
        have m2 := (n1.out.setG ((f.mul f).mul (zLine t t b))).below hb2
        have n2 := Lib.hid m2
        clear n1 hb2
        clear bel a0 a1 a2 fa0 fa1 fa2 al b0 b1 b2 fb0 fb1 fb2 bl r0 r1 fr0 fr1 rl g0 g1 fg0 fg1 gl h0 h1 h2 fh0 fh1 fh2 hl hg hh ne
        obtain ⟨bel, ⟨a0, a1, a2, fa0, fa1, fa2, al⟩, ⟨b0, b1, b2, fb0, fb1, fb2, bl⟩, ⟨r0, r1, fr0, fr1, rl⟩, ⟨g0, g1, fg0, fg1, gl⟩, ⟨h0, h1, h2, fh0, fh1, fh2, hl⟩, hg, hh, ne⟩ := m2
        have n2s := Lib.hid (n2.out.setH (sSum t t))
        go_upto_region 9 with fail
        go_cut [37] from 19 to 46 (fun s37 wx => s37 = .bool (bitOf n) ∧ PMem w wx g h a b ((f.mul f).mul (zLine t t b)) (sSum t t))
        case first =>
          clear bel a0 a1 a2 fa0 fa1 fa2 al b0 b1 b2 fb0 fb1 fb2 bl r0 r1 fr0 fr1 rl g0 g1 fg0 fg1 gl h0 h1 h2 fh0 fh1 fh2 hl hg hh ne
          have hk : n = 1 ∨ n = 2 ∨ n = 3 ∨ n = 4 ∨ n = 5 ∨ n = 6 ∨ n = 7 ∨ n = 8 ∨ n = 9 := by omega
          rcases hk with rfl | rfl | rfl | rfl | rfl | rfl | rfl | rfl | rfl
          all_goals
            go_wp2_with fail
            go_meet
            exact ⟨rfl, n2s.out⟩
        case rest =>
          clear bel a0 a1 a2 fa0 fa1 fa2 al b0 b1 b2 fb0 fb1 fb2 bl r0 r1 fr0 fr1 rl g0 g1 fg0 fg1 gl h0 h1 h2 fh0 fh1 fh2 hl hg hh ne n2 n2s
          obtain ⟨rfl, m3⟩ := hcut
          cases hbit : bitOf n
          · have hr2 : Hid ((restN (n - 1)).foldl (mstep a b) ((f.mul f).mul (zLine t t b), sSum t t) = mrun a b (goOps ++ [true])) := by
              have := hr.out; rw [rest_no hbit] at this; exact this
            go_wp2
            go_roundw
            case rel => exact ⟨n - 1, _, _, by omega, congrArg (Value.int .i64) (by omega), m3, sum_o ht ht, hr2.out⟩
            case measure => simp [intOf]; omega
          · have hr2 : Hid ((restN (n - 1)).foldl (mstep a b) (((f.mul f).mul (zLine t t b)).mul (zLine (sSum t t) a b), sSum (sSum t t) a) = mrun a b (goOps ++ [true])) := by
              have := hr.out; rw [rest_yes hn1 hn hbit] at this; exact this
            have n2 := Lib.hid m3
            obtain ⟨bel, ⟨a0, a1, a2, fa0, fa1, fa2, al⟩, ⟨b0, b1, b2, fb0, fb1, fb2, bl⟩, ⟨r0, r1, fr0, fr1, rl⟩, ⟨g0, g1, fg0, fg1, gl⟩, ⟨h0, h1, h2, fh0, fh1, fh2, hl⟩, hg, hh, ne⟩ := m3
            go_wp2_with fail
            refine wp_region_grow_tail 6 Tryd.mixed (by kernel_rfl) ?_
            simp only [List.take_succ_cons, List.take_zero, List.drop_succ_cons, List.drop_zero]
            repeat (quiet_step ((first | (go_at_call 91; exact grow_of (mul_z _ _ _)) | (go_at_call 132; exact grow_of (line_c (sSum t t) a b _ (hO'.out.below (below_seq bel (Grew.h _))) (sum_o ht ht) hb)))))
            refine wpQuiet_nil ?_
            intro _ hw'
            obtain ⟨x3, rfl⟩ := hw'
            have m3 := n2.out.below x3.h
            have n3 := Lib.hid m3
            clear n2
            clear bel a0 a1 a2 fa0 fa1 fa2 al b0 b1 b2 fb0 fb1 fb2 bl r0 r1 fr0 fr1 rl g0 g1 fg0 fg1 gl h0 h1 h2 fh0 fh1 fh2 hl hg hh ne
            obtain ⟨bel, ⟨a0, a1, a2, fa0, fa1, fa2, al⟩, ⟨b0, b1, b2, fb0, fb1, fb2, bl⟩, ⟨r0, r1, fr0, fr1, rl⟩, ⟨g0, g1, fg0, fg1, gl⟩, ⟨h0, h1, h2, fh0, fh1, fh2, hl⟩, hg, hh, ne⟩ := m3
            go_wp2_with fail
            refine (sum_e (sSum t t) a (sSum (sSum t t) a) _ (hF'.out.below (n3.out.setG _).bel) (sum_o ht ht) ha rfl).mono ?_; rintro e w4 ⟨rfl, hb4⟩
            have m4 := (n3.out.setG (((f.mul f).mul (zLine t t b)).mul (zLine (sSum t t) a b))).below hb4
            have n4 := Lib.hid m4
            clear n3 hb4
            clear bel a0 a1 a2 fa0 fa1 fa2 al b0 b1 b2 fb0 fb1 fb2 bl r0 r1 fr0 fr1 rl g0 g1 fg0 fg1 gl h0 h1 h2 fh0 fh1 fh2 hl hg hh ne
            obtain ⟨bel, ⟨a0, a1, a2, fa0, fa1, fa2, al⟩, ⟨b0, b1, b2, fb0, fb1, fb2, bl⟩, ⟨r0, r1, fr0, fr1, rl⟩, ⟨g0, g1, fg0, fg1, gl⟩, ⟨h0, h1, h2, fh0, fh1, fh2, hl⟩, hg, hh, ne⟩ := m4
            go_wp2
            go_roundw
            case rel => exact ⟨n - 1, _, _, by omega, congrArg (Value.int .i64) (by omega), n4.out.setH _, sum_o (sum_o ht ht) ha, hr2.out⟩
            case measure => simp [intOf]; omega
end Go.Proofs.YtfnifdmnbccblaaDoor
