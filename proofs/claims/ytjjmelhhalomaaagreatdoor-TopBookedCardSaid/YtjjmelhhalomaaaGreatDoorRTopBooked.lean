/- The statement of TopBooked: for every input the law returns true, and the arguments read as they did. (its listed variable reads as laid; the card ties it) -/
import Derived.Test.YtjjmelhhalomaaaGreatDoorMTopBooked
import Derived.Test.YtjjmelhhalomaaaGreatDoorM2TopBooked
import Derived.Test.YtjjmelhhalomaaaGreatDoorKe
import Derived.Deep.DeepCutAuto
import Derived.Deep.CutBlock
import Derived.Deep.RegionHeld3
import Derived.Deep.DrawnRows
import Derived.BigQuiet
import Derived.Test.YtjjmelhhalomaaaGreatDoorRows
import Derived.Test.YtjjmelhhalomaaaGreatDoorWv
import Derived.ProofKit
import Derived.LaidMore
import Derived.OpenShut
import Derived.MakeChecks
import Derived.Deep.Strs
import Derived.LaidHandle
import Derived.Stop.LaidErr
import Derived.Test.YtjjmelhhalomaaaGreatDoorFr
import Derived.Test.YtjjmelhhalomaaaGreatDoorFs
import Derived.SizedLaws
import Derived.Test.YtjjmelhhalomaaaGreatDoorTie
import Derived.Test.YtjjmelhhalomaaaGreatDoorCards
import Derived.SevenTiedAt
namespace Go.Proofs.YtjjmelhhalomaaaGreatDoor
open Go.RowKit
set_option maxRecDepth 100000
set_option linter.unusedVariables false
set_option linter.unusedSimpArgs false
attribute [local go_sem ↓] Go.wp_at_zero Go.wp_at_succ
theorem tsum_mod (l : List Int) (n : Nat) (x : Int) (hx : l.getD n 0 = x) (h0 : 0 ≤ x) : (tsum l n % 1013 + x).tmod 1013 = tsum l (n + 1) % 1013 := by
  show _ = (tsum l n + l.getD n 0) % 1013
  have := Int.emod_nonneg (tsum l n) (show (1013 : Int) ≠ 0 by decide)
  rw [hx, Int.tmod_eq_emod_of_nonneg (by omega), Int.emod_add_emod]
/-- The two rows. -/
structure TbL (B : Nat) (vs rs : List Int) (n : Nat) (o q : Value) (wr : World) : Prop where
  ro : wr.ownsRow B 28 3 o n (spCells ((coinN vs rs n).map qS))
  rq : wr.ownsRow B 3 1 q n ((rs.take n).map (Value.int .i64))
  ra : Ap o q
set_option maxHeartbeats 64000000 in
theorem tb_core (vs rs ns : List Int) (sync keep : Int) (s0 : -9223372036854775808 ≤ sync) (s1 : sync ≤ 9223372036854775807) (a0 a1 a2 : Option Addr) (c0 c1 c2 : Nat) (w : World) (hF : FarAt w) (hA : AscAt w) (hT : TenAt w)
    (l0 : vs.length ≤ 9223372036854775807) (l1 : rs.length ≤ 9223372036854775807) (l2 : ns.length ≤ 9223372036854775807) (k0 : -9223372036854775808 ≤ keep) (k1 : keep ≤ 9223372036854775807)
    (h0 : 0 < vs.length → ∃ b o, a0 = some ⟨b, o, none⟩ ∧ IntsAt w b o vs) (h1 : 0 < rs.length → ∃ b o, a1 = some ⟨b, o, none⟩ ∧ IntsAt w b o rs) (h2 : 0 < ns.length → ∃ b o, a2 = some ⟨b, o, none⟩ ∧ IntsAt w b o ns) :
    Calls Tryz.prog 6 #[.slice a0 vs.length c0, .slice a1 rs.length c1, .slice a2 ns.length c2, .int .i64 sync, .int .i64 keep] w fun e w' => e = .returned (.bool true) ∧ Below w.heap.size w w' := by
  replace h0 := Lib.hid h0
  replace h1 := Lib.hid h1
  replace h2 := Lib.hid h2
  have hF' := Lib.hid hF
  have hA' := Lib.hid hA
  have hT' := Lib.hid hT
  have kO := Lib.hid (one_c w hF)
  clear hF hA hT
  go_enter Tryz.func6, Tryz.ntmps6
  go_wp2_with fail
  refine kO.out.mono ?_; rintro e w1 ⟨rfl, hb⟩
  have hW1 := Lib.hid hb
  clear hb kO
  go_wp2_with fail
  go_loopw [12, 13, 14, 15, 16] (fun o v r q i wr => ∃ n : Nat, n ≤ 6 ∧ n ≤ vs.length ∧ n ≤ rs.length ∧ i = .int .i64 n ∧ v = .int .i64 (tsum vs n % 1013) ∧ r = .int .i64 (tsum rs n % 1013) ∧ okV vs rs n ∧ TbL w1.heap.size vs rs n o q wr ∧ Below w1.heap.size w1 wr) (fun _ _ _ _ i _ => 6 - (intOf i).toNat)
  case atStart => exact ⟨0, by omega, Nat.zero_le _, Nat.zero_le _, rfl, rfl, rfl, fun j h => absurd h (Nat.not_lt_zero _), ⟨World.ownsRow_nil _ _ _ _, World.ownsRow_nil _ _ _ _, fun k h => by cases h⟩, Below.refl _ _⟩
  case round =>
    obtain ⟨n, hn6, hnv, hnr, rfl, rfl, rfl, hok, ⟨ro, rq, ra⟩, hb⟩ := hrel
    obtain ⟨ao, co, rfl⟩ := own_slB ro
    obtain ⟨aq, cq, rfl⟩ := own_slB rq
    replace hok := Lib.hid hok
    replace ro := Lib.hid ro
    replace rq := Lib.hid rq
    replace ra := Lib.hid ra
    have hbr := Lib.hid hb
    clear hb
    obtain ⟨C, hC⟩ : ∃ C, decide (n < vs.length ∧ n < rs.length ∧ n < 6) = C := ⟨_, rfl⟩
    have v0 := Int.emod_nonneg (tsum vs n) (show (1013 : Int) ≠ 0 by decide)
    have v1 := Int.emod_lt_of_pos (tsum vs n) (show (0 : Int) < 1013 by decide)
    have r0 := Int.emod_nonneg (tsum rs n) (show (1013 : Int) ≠ 0 by decide)
    have r1 := Int.emod_lt_of_pos (tsum rs n) (show (0 : Int) < 1013 by decide)
    go_upto_region 9 with fail
    go_cut [56] from 43 to 55 (fun s56 wx => s56 = .bool C ∧ wx = wr)
    case first =>
      clear ro rq ra hok hbr
      by_cases q1 : n < vs.length
      · by_cases q2 : n < rs.length
        · by_cases q3 : n < 6
          · rw [decide_eq_true ⟨q1, q2, q3⟩] at hC
            subst hC
            have g3 : decide ((n : Int) < 6) = true := by rw [decide_eq_true_iff]; omega
            go_wp2_with fail
            go_meet
            exact ⟨rfl, rfl⟩
          · rw [decide_eq_false (fun h => q3 h.2.2)] at hC
            subst hC
            have g3 : decide ((n : Int) < 6) = false := by rw [decide_eq_false_iff_not]; omega
            go_wp2_with fail
            go_meet
            exact ⟨rfl, rfl⟩
        · rw [decide_eq_false (fun h => q2 h.2.1)] at hC
          subst hC
          go_wp2_with fail
          go_meet
          exact ⟨rfl, rfl⟩
      · rw [decide_eq_false (fun h => q1 h.1)] at hC
        subst hC
        go_wp2_with fail
        go_meet
        exact ⟨rfl, rfl⟩
    case rest =>
    obtain ⟨rfl, hwx⟩ := hcut
    obtain ⟨wA, rfl⟩ : ∃ x : World, x = wc := ⟨_, rfl⟩
    subst hwx
    have hWA := Lib.hid (hW1.out.trans (hbr.out.mono hW1.out.size))
    have hFA := Lib.hid (hF'.out.below hWA.out)
    cases C
    · clear hC
      have hMl := coinN_len vs rs n
      have hcoS := own_spots ro.out (by rw [List.length_map, coinN_len])
      have hco : Hid (∀ w', Below wA.heap.size wA w' → 0 < ((coinN vs rs n).map qS).length → ∃ b o, ao = some ⟨b, o, none⟩ ∧ SpotsAt w' b o ((coinN vs rs n).map qS)) := Lib.hid fun w' hb h => by
        obtain ⟨a, c, e, hs⟩ := hcoS
        simp only [Value.slice.injEq] at e
        obtain ⟨rfl, -, -⟩ := e
        obtain ⟨b, o, e, hs⟩ := hs h
        exact ⟨b, o, e, hs.below hb⟩
      have hq : Hid (0 < n → ∃ b o, aq = some ⟨b, o, none⟩ ∧ IntsAt wA b o (rs.take n)) := Lib.hid fun h => by
        obtain ⟨a, c, e, hs⟩ := own_ints rq.out (by rw [List.length_take]; omega)
        simp only [Value.slice.injEq] at e
        obtain ⟨rfl, -, -⟩ := e
        exact hs (by rw [List.length_take]; omega)
      have hNb := bnew_y (coinN vs rs n) ao co wA (by omega) hFA.out (hco.out _ (Below.refl _ _))
      have hNl := fun (wB : World) (hb : Below wA.heap.size wA wB) => lnew_y (coinN vs rs n) ao co wB (by omega) (hFA.out.below hb) (hco.out _ hb)
      rw [hMl] at hNb
      simp only [hMl] at hNl
      replace hNb := Lib.hid hNb
      replace hNl := Lib.hid hNl
      clear ro rq ra hcoS hbr hW1
      go_wp2_with fail
      refine hNb.out.mono ?_; rintro e wB ⟨p, rfl, ⟨vc, vg, hbk⟩, hbB⟩
      replace hbk := Lib.hid (show BkV wB wA.heap.size p vc vg (coinN vs rs n) (List.replicate (coinN vs rs n).length false) by rw [hMl]; exact hbk)
      replace hbB := Lib.hid hbB
      clear hNb
      go_wp2_with fail
      refine (hNl.out wB hbB.out).mono ?_; rintro e wC ⟨q, h, rfl, hv, hbC⟩
      have hst := TbK.start (r := tsum rs n % 1013) hbk.out hbB.out hv hbC
      rw [← sumsL_0 rs ns n] at hst
      obtain ⟨su, hsu⟩ : ∃ su, wC.heap.size = su := ⟨_, rfl⟩
      rw [hsu] at hst
      replace hst := Lib.hid hst
      have hp0 := Lib.hid (TbP.new vs rs ns n hn6)
      clear hNl hbk hbB hv hbC hco
      go_upto_region 23 with fail
      generalize wC.alloc (.cells #[.int .i64 (tsum rs n % 1013)] 3) = wD at *
      clear hsu
      go_wp2
      go_loopw [23, 24, 25] (fun v23 v24 v25 wr => ∃ (i saved : Nat) (vc vg : Value) (h : LgH) (s : LgS) (su sc : Nat), i ≤ n ∧ i ≤ ns.length ∧ v25 = .int .i64 i ∧ v24 = .int .i64 saved ∧ v23 = .slice (some ⟨su, 0, none⟩) (i + 1) sc ∧ TbK wA (coinN vs rs n) (tbDs vs rs ns i) p vc vg q h s (sumsL rs ns n i) su sc wr ∧ TbP vs rs ns n i saved s) (fun _ _ i _ => n - (intOf i).toNat)
      case atStart => exact ⟨0, 0, vc, vg, h, LgS.new, su, 1, Nat.zero_le _, Nat.zero_le _, rfl, rfl, rfl, hst.out, hp0.out⟩
      case round =>
        clear hst hp0
        obtain ⟨i, saved, vc, vg, h, s, su, sc, hi6, hil, rfl, rfl, rfl, hk, hp⟩ := hrel
        replace hk := Lib.hid hk
        replace hp := Lib.hid hp
        obtain ⟨C2, hC2⟩ : ∃ C, decide (i < ns.length ∧ i < n) = C := ⟨_, rfl⟩
        go_upto_region 25 with fail
        go_cut [125] from 116 to 124 (fun s125 wx => s125 = .bool C2 ∧ wx = wr)
        case first =>
          clear hk hp hok hq
          by_cases q1 : i < ns.length
          · have g1 : decide ((i : Int) < (ns.length : Int)) = true := by rw [decide_eq_true_iff]; omega
            by_cases q2 : i < n
            · have g2 : decide ((i : Int) < (n : Int)) = true := by rw [decide_eq_true_iff]; omega
              rw [decide_eq_true ⟨q1, q2⟩] at hC2
              subst hC2
              go_wp2_with fail
              go_meet
              exact ⟨rfl, rfl⟩
            · have g2 : decide ((i : Int) < (n : Int)) = false := by rw [decide_eq_false_iff_not]; omega
              rw [decide_eq_false (fun h => q2 h.2)] at hC2
              subst hC2
              go_wp2_with fail
              go_meet
              exact ⟨rfl, rfl⟩
          · have g1 : decide ((i : Int) < (ns.length : Int)) = false := by rw [decide_eq_false_iff_not]; omega
            rw [decide_eq_false (fun h => q1 h.1)] at hC2
            subst hC2
            go_wp2_with fail
            go_meet
            exact ⟨rfl, rfl⟩
        case rest =>
        obtain ⟨rfl, hwx⟩ := hcut
        obtain ⟨wE, rfl⟩ : ∃ x : World, x = wc := ⟨_, rfl⟩
        subst hwx
        have hWE := Lib.hid (hWA.out.trans (hk.out.g.mono hWA.out.size))
        have hFE := Lib.hid (hF'.out.below hWE.out)
        cases C2
        · clear hC2
          have tb := tb_book vs rs ns n i hi6
          obtain ⟨T, hT0⟩ : ∃ T, qS (totN (stN (coinN vs rs n) (tbDs vs rs ns i)) (stG (coinN vs rs n) (tbDs vs rs ns i)) (stN (coinN vs rs n) (tbDs vs rs ns i)).length) = T := ⟨_, rfl⟩
          have oT : Ok T := by rw [← hT0]; exact qS_ok _
          have hNn : (stN (coinN vs rs n) (tbDs vs rs ns i)).length ≤ 1000000 := by rw [tb.hn]; omega
          have kT : Hid (∀ W, Below wE.heap.size wE W → Calls Tryz.prog 24 #[.pointer (some ⟨p, 0, none⟩)] W fun e w' => e = .returned (spV T) ∧ Below W.heap.size W w') := Lib.hid fun W hb => by
            have := btotal_c _ _ wA.heap.size p W (hFE.out.below hb) ⟨_, _, (hk.out.below hb).b⟩ hNn
            rw [hT0] at this
            exact this
          have kL : Hid (∀ W, Below wE.heap.size wE W → Calls Tryz.prog 25 #[.pointer (some ⟨q, 0, none⟩)] W fun e w' => e = .returned (spV T) ∧ Below W.heap.size W w') := Lib.hid fun W hb =>
            (hk.out.below hb).v.total_c (hFE.out.below hb) (by rw [hp.out.ds]; exact hNn) T (Lib.hid (by rw [hp.out.ds]; exact hT0))
          have hop := tb_open tb (tsum vs n % 1013) (sumA rs ns n i) rfl rfl
          rw [hT0] at hop
          obtain ⟨V, hVV⟩ : ∃ V, tsum vs n % 1013 = V := ⟨_, rfl⟩
          have hV0 : 0 ≤ V := by rw [← hVV]; exact Int.emod_nonneg _ (by decide)
          have hV1 : V < 1013 := by rw [← hVV]; exact Int.emod_lt_of_pos _ (by decide)
          obtain ⟨R0, hR0⟩ : ∃ R0, sumA rs ns n i = R0 := ⟨_, rfl⟩
          have hRb := sumA_bd rs ns n i
          rw [hR0] at hRb hop
          rw [hVV] at hop
          rw [hVV]
          have kO : Hid (∀ W, FarAt W → Calls Tryz.prog 23 #[spV T, .int .i64 V, .int .i64 R0] W fun e w' => e = .returned (.tuple #[.bool true, .nilIface]) ∧ Below W.heap.size W w') := Lib.hid fun W hFW => open_y T _ V R0 true W hFW oT hV0 hV1 hRb.1 hRb.2 (Lib.hid rfl) hop
          have hsl := sumsL_len rs ns n i
          have hcs : Hid (∀ W, Below wE.heap.size wE W → W.cell? ⟨su, i, none⟩ = some (.int .i64 R0) ∧ su < W.heap.size ∧ Below wE.heap.size wE W) := Lib.hid fun W hb => by
            have k := hk.out.below hb
            have hc := k.cellS i (by rw [hsl]; omega)
            rw [sumsL_get, hR0] at hc
            exact ⟨hc, k.slt.2, hb⟩
          have wi : IntKind.i64.wrap (((i + 1 : Nat) : Int) - 1) = (i : Int) := by rw [IntKind.wrap_i64]; omega
          have wi2 : IntKind.i64.wrap ((i : Int) + 1 - 1) = (i : Int) := by rw [IntKind.wrap_i64]; omega
          have wi3 : IntKind.i64.wrap (i : Int) = (i : Int) := by rw [IntKind.wrap_i64]; omega
          have wi4 : (i : Int) < (i : Int) + 1 := by omega
          have wi5 : (i : Int) < ((i + 1 : Nat) : Int) := by omega
          replace hVV := Lib.hid hVV
          replace hT0 := Lib.hid hT0
          clear tb hop hR0 hok hq
          go_upto_region 40 with fail
          go_cut [33, 34] from 218 to 230 (fun s33 s34 wx => s33 = .bool true ∧ s34 = .nilIface ∧ Below wE.heap.size wE wx)
          case first =>
            clear hk hp kL hT0 hVV
            go_region_held3 (fun W => W.cell? ⟨su, i, none⟩ = some (.int .i64 R0) ∧ su < W.heap.size ∧ Below wE.heap.size wE W) (first | (refine hcs.out _ ?_; repeat (with_reducible first | exact Below.refl _ _ | exact hwt.out | exact hwu.out | refine Below.drew ?_))) (first | (go_at_call 24; refine (kT.out _ (by repeat (with_reducible first | exact Below.refl _ _ | refine Below.drew ?_))).mono ?_; rintro e wb ⟨rfl, hbb⟩; have hwt := Lib.hid (show Below wE.heap.size wE wb from below_seq (by repeat (with_reducible first | exact Below.refl _ _ | refine Below.drew ?_)) hbb); clear hbb) | (go_at_call 23; refine (kO.out _ (hFE.out.below (by repeat (with_reducible first | exact hwt.out | refine Below.drew ?_)))).mono ?_; rintro e wd ⟨rfl, hbd⟩; have hwu := Lib.hid (show Below wE.heap.size wE wd from below_seq (by repeat (with_reducible first | exact hwt.out | refine Below.drew ?_)) hbd); clear hbd) | fail)
            all_goals
              go_wp2_with fail
              go_meet
              exact ⟨rfl, rfl, hwu.out⟩
          case rest =>
          obtain ⟨rfl, rfl, hbx⟩ := hcut
          obtain ⟨wG, hwG⟩ : ∃ x : World, x = wc := ⟨_, rfl⟩
          rw [← hwG] at hbx ⊢
          clear hwG kO hcs
          have hbG := Lib.hid hbx
          have kLG := Lib.hid (kL.out _ hbx)
          clear hbx
          go_wp2_with fail
          refine kLG.out.mono ?_; rintro e wH ⟨rfl, hbH⟩
          have hbH' := Lib.hid (below_seq hbG.out hbH)
          have kTH := Lib.hid (kT.out _ hbH'.out)
          clear hbH kLG kL kT hbG
          go_wp2_with fail
          refine kTH.out.mono ?_; rintro e wI ⟨rfl, hbI⟩
          have hbI' := below_seq hbH'.out hbI
          have hkI := Lib.hid (hk.out.below hbI')
          clear hbI hbH' kTH hbI' hk
          obtain ⟨m, hsm, hmi, hcr⟩ := hp.out.crash keep
          have hGl := Glo.of hF'.out hA'.out hT'.out (hWA.out.trans (hkI.out.g.mono hWA.out.size)) hWA.out.size
          have hCr := Lib.hid (hkI.out.v.crash_c hp.out.p hkI.out.bl hGl keep k0 k1)
          clear hGl
          go_wp2_with fail
          refine hCr.out.mono ?_; rintro e wJ ⟨⟨u, rfl⟩, hd⟩
          obtain ⟨h2, hkJ⟩ := hkI.out.ldo hd
          have tb2 := tb_book vs rs ns n m (by omega)
          obtain ⟨T2, hT2⟩ : ∃ T, qS (totN (stN (coinN vs rs n) (tbDs vs rs ns m)) (stG (coinN vs rs n) (tbDs vs rs ns m)) (stN (coinN vs rs n) (tbDs vs rs ns m)).length) = T := ⟨_, rfl⟩
          have oT2 : Ok T2 := by rw [← hT2]; exact qS_ok _
          have hNm : (stN (coinN vs rs n) (tbDs vs rs ns m)).length ≤ 1000000 := by rw [tb2.hn]; omega
          have hFJ := hF'.out.below (hWA.out.trans (hkJ.g.mono hWA.out.size))
          have kL2 := Lib.hid (hkJ.v.total_c hFJ (by rw [hcr]; exact hNm) T2 (Lib.hid (by rw [hcr]; exact hT2)))
          have hop2 := tb_open tb2 V (sumA rs ns n m) hVV.out.symm rfl
          rw [hT2] at hop2
          replace hop2 := Lib.hid hop2
          replace hkJ := Lib.hid hkJ
          clear hd hCr hkI hFJ
          go_wp2_with fail
          refine kL2.out.mono ?_; rintro e wK ⟨rfl, hbK⟩
          have hsT := Lib.hid (SpAt.fresh wK T2.x T2.y T2.far 28)
          have hbL := balloc hbK (.cells #[.int .i64 T2.x, .int .i64 T2.y, .bool T2.far] 28)
          obtain ⟨bT, hbT⟩ : ∃ bT, wK.heap.size = bT := ⟨_, rfl⟩
          go_upto_region 45 with fail
          rw [hbT] at hsT
          generalize wK.alloc (.cells #[.int .i64 T2.x, .int .i64 T2.y, .bool T2.far] 28) = wL at *
          have hkL := Lib.hid (hkJ.out.below hbL)
          clear hbK hbL hbT hkJ kL2
          have hFL := Lib.hid (hF'.out.below (hWA.out.trans (hkL.out.g.mono hWA.out.size)))
          have hWL := Lib.hid (hWA.out.trans (hkL.out.g.mono hWA.out.size))
          have hLv := fun (W : World) (hb : Below wL.heap.size wL W) => (hkL.out.below hb).v.live_c (by rw [hcr]; exact hNm)
          simp only [hcr, tb2.hv] at hLv
          replace hLv := Lib.hid hLv
          replace hcr := Lib.hid hcr
          replace hT2 := Lib.hid hT2
          have hsv := hp.out.le
          clear tb2 hp hFE
          go_wp2
          go_loopw [36, 37] (fun v36 v37 wr => ∃ (f : Bool) (j : Nat), j ≤ i + 1 ∧ saved ≤ j ∧ v36 = .bool f ∧ v37 = .int .i64 j ∧ (m < j → f = true) ∧ Below wL.heap.size wL wr) (fun _ j _ => i + 1 - (intOf j).toNat)
          case atStart => exact ⟨false, saved, by omega, Nat.le_refl _, rfl, rfl, fun h => by omega, Below.refl _ _⟩
          case round =>
            obtain ⟨f, j, hj1, hj2, rfl, rfl, hf, hbr⟩ := hrel
            replace hbr := Lib.hid hbr
            replace hf := Lib.hid hf
            have hkr := Lib.hid (hkL.out.below hbr.out)
            have hFr := Lib.hid (hFL.out.below hbr.out)
            by_cases q1 : j < i + 1
            · have g1 : decide ((j : Int) < ((i + 1 : Nat) : Int)) = true := by rw [decide_eq_true_iff]; omega
              have g3 : decide ((j : Int) < (i : Int) + 1) = true := by rw [decide_eq_true_iff]; omega
              have g5 : (j : Int) < (i : Int) + 1 := by omega
              have g6 : (j : Int) < ((i + 1 : Nat) : Int) := by omega
              obtain ⟨R1, hR1⟩ : ∃ R1, sumA rs ns n j = R1 := ⟨_, rfl⟩
              obtain ⟨bj, hbj⟩ : ∃ b, Sp.beq (sq (4 * V + 4 * hJ * R1)) T2 = b := ⟨_, rfl⟩
              have hbm : j = m → bj = true := fun e => by
                subst e
                rw [← hbj, ← hR1]; exact hop2.out
              have hRb := sumA_bd rs ns n j
              rw [hR1] at hRb
              have kO : Hid (∀ W, FarAt W → Calls Tryz.prog 23 #[spV T2, .int .i64 V, .int .i64 R1] W fun e w' => e = .returned (.tuple #[.bool bj, .nilIface]) ∧ Below W.heap.size W w') := Lib.hid fun W hFW => open_y T2 _ V R1 bj W hFW oT2 hV0 hV1 hRb.1 hRb.2 (Lib.hid rfl) hbj
              have hcs : Hid (∀ W, Below wr.heap.size wr W → W.cell? ⟨su, j, none⟩ = some (.int .i64 R1) ∧ su < W.heap.size ∧ W.cell? ⟨bT, 0, none⟩ = some (.int .i64 T2.x) ∧ W.cell? ⟨bT, 1, none⟩ = some (.int .i64 T2.y) ∧ W.cell? ⟨bT, 2, none⟩ = some (.bool T2.far) ∧ bT < W.heap.size ∧ Below wr.heap.size wr W) := Lib.hid fun W hb => by
                have k := hkr.out.below hb
                have hc := k.cellS j (by rw [hsl]; omega)
                rw [sumsL_get, hR1] at hc
                have h3 := hsT.out.below (below_seq hbr.out hb)
                exact ⟨hc, k.slt.2, h3.c0, h3.c1, h3.c2, h3.lt, hb⟩
              replace hbm := Lib.hid hbm
              clear hbj hR1
              go_upto_region 49 with fail
              go_cut [38, 39] from 256 to 265 (fun s38 s39 wx => s38 = .bool bj ∧ s39 = .nilIface ∧ Below wr.heap.size wr wx)
              case first =>
                clear hkr hop2 hsT hLv hf hbm hkL
                go_region_held3 (fun W => W.cell? ⟨su, j, none⟩ = some (.int .i64 R1) ∧ su < W.heap.size ∧ W.cell? ⟨bT, 0, none⟩ = some (.int .i64 T2.x) ∧ W.cell? ⟨bT, 1, none⟩ = some (.int .i64 T2.y) ∧ W.cell? ⟨bT, 2, none⟩ = some (.bool T2.far) ∧ bT < W.heap.size ∧ Below wr.heap.size wr W) (first | (refine hcs.out _ ?_; repeat (with_reducible first | exact Below.refl _ _ | exact hwu.out | refine Below.drew ?_))) (first | (go_at_call 23; refine (kO.out _ (hFr.out.below (by repeat (with_reducible first | exact Below.refl _ _ | refine Below.drew ?_)))).mono ?_; rintro e wd ⟨rfl, hbd⟩; have hwu := Lib.hid (show Below wr.heap.size wr wd from below_seq (by repeat (with_reducible first | exact Below.refl _ _ | refine Below.drew ?_)) hbd); clear hbd) | fail)
                all_goals
                  go_wp2_with fail
                  go_meet
                  exact ⟨rfl, rfl, hwu.out⟩
              case rest =>
              obtain ⟨rfl, rfl, hbx⟩ := hcut
              obtain ⟨wM, hwM⟩ : ∃ x : World, x = wc := ⟨_, rfl⟩
              rw [← hwM] at hbx ⊢
              have hbM := Lib.hid (below_seq hbr.out hbx)
              clear hwM hbx kO hcs hkr hFr hbr
              have hfb : Hid (m < j + 1 → (f || bj) = true) := Lib.hid fun h => by
                by_cases e : j = m
                · rw [hbm.out e, Bool.or_true]
                · rw [hf.out (by omega), Bool.true_or]
              clear hf hbm
              cases f <;> cases bj
              all_goals
                go_wp2_with fail
                go_roundw
                case rel => exact ⟨_, j + 1, by omega, by omega, rfl, by go_num, hfb.out, hbM.out⟩
                case measure => simp [intOf]; omega
            · have g1 : decide ((j : Int) < ((i + 1 : Nat) : Int)) = false := by rw [decide_eq_false_iff_not]; omega
              have g3 : decide ((j : Int) < (i : Int) + 1) = false := by rw [decide_eq_false_iff_not]; omega
              obtain rfl : f = true := hf.out (by omega)
              have hLr := Lib.hid (hLv.out wr hbr.out)
              have hWr := Lib.hid (hWL.out.trans (hbr.out.mono hWL.out.size))
              clear hLv hkr hFr hf hop2 hsT
              go_wp2_with fail
              refine hLr.out.mono ?_; rintro e wd ⟨v', rfl, hown, hbd⟩
              obtain ⟨al, cl, rfl⟩ := own_slB hown
              have hbd' := Lib.hid (below_seq hWr.out hbd)
              clear hown hbd hLr
              go_wp2_with fail
              go_ret
              exact ⟨rfl, hbd'.out⟩
        · obtain ⟨q1, q2⟩ := of_decide_eq_true hC2
          clear hC2
          obtain ⟨b0, f0, rfl, x0⟩ := h0.out (by omega)
          obtain ⟨b2, f2, rfl, x2⟩ := h2.out (by omega)
          obtain ⟨bq, oq, rfl, xq⟩ := hq.out (by omega)
          obtain ⟨o0, o1, o2, o3⟩ := hok.out i q2
          obtain ⟨v, hv⟩ : ∃ v, vs.getD i 0 = v := ⟨_, rfl⟩
          obtain ⟨nv, hnv⟩ : ∃ nv, ns.getD i 0 = nv := ⟨_, rfl⟩
          have hS : Hid (∀ w', Below wE.heap.size wE w' → w'.cell? ⟨b0, f0 + i, none⟩ = some (.int .i64 v) ∧ b0 < w'.heap.size ∧ w'.cell? ⟨b2, f2 + i, none⟩ = some (.int .i64 nv) ∧ b2 < w'.heap.size ∧ Below wE.heap.size wE w') := Lib.hid fun w' h => by
            have y0 := x0.below (below_seq hWE.out h)
            have y2 := x2.below (below_seq hWE.out h)
            have z0 := y0.c i (by omega)
            have z2 := y2.c i (by omega)
            rw [← tb_getD vs i (by omega), hv] at z0
            rw [← tb_getD ns i (by omega), hnv] at z2
            exact ⟨z0, y0.lt, z2, y2.lt, h⟩
          have e0 : (i : Int) < (vs.length : Int) := by omega
          have e2 : (i : Int) < (ns.length : Int) := by omega
          rw [hv] at o0 o1
          by_cases hvr : 0 ≤ nv ∧ nv < 1013
          · obtain ⟨C, hCC⟩ : ∃ C, sq (4 * v + 4 * hJ * nv) = C := ⟨_, rfl⟩
            have hqC : Hid (qS (vs.getD i 0 + hJ * ns.getD i 0) = C) := Lib.hid (by rw [hv, hnv, ← hCC]; unfold qS; rw [Int.mul_add, Int.mul_assoc])
            have cH := Lib.hid (fun (w1 : World) hF1 => hide_y v nv C w1 hF1 o0 o1 hvr.1 hvr.2 (Lib.hid hCC))
            clear hCC
            replace x2 := Lib.hid x2
            replace xq := Lib.hid xq
            have hvb : Hid (0 ≤ rs.getD i 0 ∧ rs.getD i 0 < 1013 ∧ 0 ≤ ns.getD i 0 ∧ ns.getD i 0 < 1013) := Lib.hid ⟨o2, o3, by rw [hnv]; exact hvr.1, by rw [hnv]; exact hvr.2⟩
            clear x0 hv hnv hvr o0 o1 o2 o3
            go_upto_region 27 with fail
            go_cut [26, 27] from 128 to 139 (fun s26 s27 wx => ∃ k : Nat, s26 = .pointer (some ⟨k, 0, none⟩) ∧ s27 = .nilIface ∧ SpAt wx k C ∧ Below wE.heap.size wE wx)
            case first =>
              clear hk hp hok hqC hvb x2 xq
              go_region_held3 (fun w' => w'.cell? ⟨b0, f0 + i, none⟩ = some (.int .i64 v) ∧ b0 < w'.heap.size ∧ w'.cell? ⟨b2, f2 + i, none⟩ = some (.int .i64 nv) ∧ b2 < w'.heap.size ∧ Below wE.heap.size wE w') (first | (refine hS.out _ ?_; repeat (with_reducible first | exact Below.refl _ _ | exact hwt.out | refine balloc ?_ _ | refine Below.drew ?_ | refine below_set ?_ (by first | omega | (dsimp only; omega)) _))) (first | (go_at_call 14; refine (cH.out _ (hFE.out.below (by repeat (with_reducible first | exact Below.refl _ _ | refine balloc ?_ _ | refine Below.drew ?_)))).mono ?_; rintro e wb ⟨rfl, hbb⟩; have hwt := Lib.hid (show Below wE.heap.size wE wb from below_seq (by repeat (with_reducible first | exact Below.refl _ _ | refine balloc ?_ _ | refine Below.drew ?_)) hbb); have hza := hwt.out.size; obtain ⟨hcc, hff⟩ := bcell hbb) | fail)
              all_goals
                go_wp2_with fail
                go_meet
                have hbA : Below wE.heap.size wE wb := below_seq (by repeat (first | exact Below.refl _ _ | refine balloc ?_ _ | refine Below.drew ?_)) hbb
                have hsz := hbA.size
                first
                | exact ⟨_, rfl, rfl, SpAt.fresh _ _ _ _ _, balloc hbA _⟩
                | exact ⟨_, rfl, rfl, SpAt.set3 (s := ⟨0, 0, false⟩) (SpAt.below (SpAt.fresh _ _ _ _ _) hbb) C, set3_below hbA (by omega)⟩
                | exact ⟨_, rfl, rfl, SpAt.set3 (s := ⟨0, 0, false⟩) (SpAt.below (SpAt.drew (SpAt.fresh _ _ _ _ _)) hbb) C, set3_below hbA (by omega)⟩
            case rest =>
            obtain ⟨bc, rfl, rfl, hsc, hbx⟩ := hcut
            obtain ⟨wG, hwG⟩ : ∃ x : World, x = wc := ⟨_, rfl⟩
            rw [← hwG] at hbx hsc ⊢
            have hkG := Lib.hid (hk.out.below hbx)
            replace hsc := Lib.hid hsc
            clear hwG hbx hk hS cH hFE hWE
            go_step
            refine tb_deal vs rs ns n i saved hn6 q2 hnr q1 l2 w wA hF' hA' hT' hWA sync s0 s1 b2 f2 c2 bq oq cq x2 xq hvb p vc vg q h s su sc bc wG hkG hp C hqC hsc _ _ rfl ?_
            intro saved2 vc2 vg2 h2' s2 su2 sc2 wN
            intros
            rename_i y1 y2 y3 y4
            subst y3 y4
            have y1' := Lib.hid y1
            have y2' := Lib.hid y2
            clear hkG hp hsc hvb hqC x2 xq y1 y2
            go_wp2_with fail
            go_roundw
            case rel => exact ⟨i + 1, saved2, vc2, vg2, h2', s2, su2, sc2, by omega, by omega, by go_num, rfl, rfl, y1'.out, y2'.out⟩
            case measure => simp [intOf]; omega
          · have cH := Lib.hid (fun (w1 : World) => hide_n v nv w1 (fun h => hvr ⟨h.2.2.1, h.2.2.2⟩))
            clear hvr x0 x2 xq hk hp hok hq hv hnv
            go_upto_region 27 with fail
            go_region_held3 (fun w' => w'.cell? ⟨b0, f0 + i, none⟩ = some (.int .i64 v) ∧ b0 < w'.heap.size ∧ w'.cell? ⟨b2, f2 + i, none⟩ = some (.int .i64 nv) ∧ b2 < w'.heap.size ∧ Below wE.heap.size wE w') (first | (refine hS.out _ ?_; repeat (with_reducible first | exact Below.refl _ _ | exact hwt.out | refine balloc ?_ _ | refine Below.drew ?_ | refine below_set ?_ (by first | omega | (dsimp only; omega)) _))) (first | (go_at_call 14; refine (cH.out _).mono ?_; rintro e wb ⟨rfl, hbb⟩; have hwt := Lib.hid (show Below wE.heap.size wE wb from below_seq (by repeat (with_reducible first | exact Below.refl _ _ | refine balloc ?_ _ | refine Below.drew ?_)) hbb); have hza := hwt.out.size; obtain ⟨hcc, hff⟩ := bcell hbb) | fail)
            all_goals
              have hbA : Below wE.heap.size wE wb := below_seq (by repeat (first | exact Below.refl _ _ | refine balloc ?_ _ | refine Below.drew ?_)) hbb
              have hsz := hbA.size
              go_wp2
              go_ret
              first
              | exact ⟨rfl, below_seq hWE.out (balloc hbA _)⟩
              | exact ⟨rfl, below_seq hWE.out (set3_below hbA (by omega))⟩
    · obtain ⟨q1, q2, q3⟩ := of_decide_eq_true hC
      clear hC
      obtain ⟨b0, f0, rfl, x0⟩ := h0.out (by omega)
      obtain ⟨b1, f1, rfl, x1⟩ := h1.out (by omega)
      have x0' := x0.below hWA.out
      have x1' := x1.below hWA.out
      have j0 := x0'.c n q1
      have j1 := x0'.lt
      have y0 := x1'.c n q2
      have y1 := x1'.lt
      have ev := tb_getD vs n q1
      have er := tb_getD rs n q2
      have hX0 : Hid (∀ w', Below w.heap.size w w' → w'.cell? ⟨b0, f0 + n, none⟩ = some (.int .i64 vs[n]) ∧ b0 < w'.heap.size) := Lib.hid fun w' hb => ⟨(x0.below hb).c n q1, (x0.below hb).lt⟩
      have hX1 : Hid (∀ w', Below w.heap.size w w' → w'.cell? ⟨b1, f1 + n, none⟩ = some (.int .i64 rs[n]) ∧ b1 < w'.heap.size) := Lib.hid fun w' hb => ⟨(x1.below hb).c n q2, (x1.below hb).lt⟩
      have hsn : Hid (∀ k : 0 ≤ vs.getD n 0 ∧ vs.getD n 0 < 1013 ∧ 0 ≤ rs.getD n 0 ∧ rs.getD n 0 < 1013, okV vs rs (n + 1)) := Lib.hid fun k => hok.out.snoc k
      have hcn : coinN vs rs (n + 1) = coinN vs rs n ++ [vs.getD n 0 + hJ * rs.getD n 0] := rfl
      have hqn : rs.take (n + 1) = rs.take n ++ [rs[n]] := take_snocI rs n q2
      have tv := tsum_mod vs n
      have tr := tsum_mod rs n
      rw [ev] at tv
      rw [er] at tr
      rw [ev, er] at hsn hcn
      have e1 : (n : Int) < (vs.length : Int) := by omega
      have e2 : (n : Int) < (rs.length : Int) := by omega
      clear x0 x1 x0' x1' ev er
      generalize vs[n] = v at *
      generalize rs[n] = r at *
      replace hcn := Lib.hid hcn
      replace hqn := Lib.hid hqn
      by_cases hvr : 0 ≤ v ∧ v < 1013 ∧ 0 ≤ r ∧ r < 1013
      · obtain ⟨A, hA⟩ : ∃ A, sq (4 * v + 4 * hJ * r) = A := ⟨_, rfl⟩
        have hqA : Hid (A = qS (v + hJ * r)) := Lib.hid (by rw [← hA]; unfold qS; rw [Int.mul_add, Int.mul_assoc])
        have hAf : Hid (sq (4 * v + 4 * hJ * r) = A) := Lib.hid hA
        clear hA
        have cH := Lib.hid (fun (w1 : World) hF1 => hide_y v r A w1 hF1 hvr.1 hvr.2.1 hvr.2.2.1 hvr.2.2.2 hAf)
        have hok1 := Lib.hid (hsn.out hvr)
        have tv1 := tv v rfl hvr.1
        have tr1 := tr r rfl hvr.2.2.1
        have hv1 := hvr.2.1
        have hr1 := hvr.2.2.2
        have hv0 := hvr.1
        have hr0 := hvr.2.2.1
        clear hvr hsn hok tv tr
        go_upto_region 11 with fail
        have hS : Hid (∀ w', Below wA.heap.size wA w' → w'.cell? ⟨b0, f0 + n, none⟩ = some (.int .i64 v) ∧ b0 < w'.heap.size ∧ w'.cell? ⟨b1, f1 + n, none⟩ = some (.int .i64 r) ∧ b1 < w'.heap.size ∧ Below wA.heap.size wA w') := Lib.hid fun w' h => ⟨((bcell h).1 _ _ j1).trans j0, Nat.lt_of_lt_of_le j1 h.size, ((bcell h).1 _ _ y1).trans y0, Nat.lt_of_lt_of_le y1 h.size, h⟩
        go_cut [17, 18] from 59 to 70 (fun s17 s18 wx => ∃ k : Nat, s17 = .pointer (some ⟨k, 0, none⟩) ∧ s18 = .nilIface ∧ SpAt wx k A ∧ Below wA.heap.size wA wx)
        case first =>
          go_region_held3 (fun w' => w'.cell? ⟨b0, f0 + n, none⟩ = some (.int .i64 v) ∧ b0 < w'.heap.size ∧ w'.cell? ⟨b1, f1 + n, none⟩ = some (.int .i64 r) ∧ b1 < w'.heap.size ∧ Below wA.heap.size wA w') (first | (refine hS.out _ ?_; repeat (with_reducible first | exact Below.refl _ _ | exact hwt.out | refine balloc ?_ _ | refine Below.drew ?_ | refine below_set ?_ (by first | omega | (dsimp only; omega)) _))) (first | (go_at_call 14; refine (cH.out _ (hFA.out.below (by repeat (with_reducible first | exact Below.refl _ _ | refine balloc ?_ _ | refine Below.drew ?_)))).mono ?_; rintro e wb ⟨rfl, hbb⟩; have hwt := Lib.hid (show Below wA.heap.size wA wb from below_seq (by repeat (with_reducible first | exact Below.refl _ _ | refine balloc ?_ _ | refine Below.drew ?_)) hbb); have hza := hwt.out.size; obtain ⟨hcc, hff⟩ := bcell hbb) | fail)
          all_goals
            go_wp2_with fail
            go_meet
            have hbA : Below wA.heap.size wA wb := below_seq (by repeat (first | exact Below.refl _ _ | refine balloc ?_ _ | refine Below.drew ?_)) hbb
            have hsz := hbA.size
            first
            | exact ⟨_, rfl, rfl, SpAt.fresh _ _ _ _ _, balloc hbA _⟩
            | exact ⟨_, rfl, rfl, SpAt.set3 (s := ⟨0, 0, false⟩) (SpAt.below (SpAt.fresh _ _ _ _ _) hbb) A, set3_below hbA (by omega)⟩
            | exact ⟨_, rfl, rfl, SpAt.set3 (s := ⟨0, 0, false⟩) (SpAt.below (SpAt.drew (SpAt.fresh _ _ _ _ _)) hbb) A, set3_below hbA (by omega)⟩
        case rest =>
        obtain ⟨k17, rfl, rfl, hs17, hbx⟩ := hcut
        obtain ⟨wB, hwB⟩ : ∃ x : World, x = wc := ⟨_, rfl⟩
        rw [← hwB] at hbx hs17 ⊢
        clear hwB
        obtain ⟨i0, i1, i2, -, -, -, il⟩ := hs17
        have rB := Lib.hid (own_below ro.out hbx)
        have qB := Lib.hid (own_below rq.out hbx)
        have hbn := Lib.hid (below_seq hbr.out hbx)
        have hbA := Lib.hid hbx
        have hbz : w1.heap.size ≤ wB.heap.size := hbn.out.size
        clear j0 j1 y0 y1 ro rq hbx
        have wv : IntKind.i64.wrap (tsum vs n % 1013 + v) = tsum vs n % 1013 + v := by rw [IntKind.wrap_i64]; omega
        have wr' : IntKind.i64.wrap (tsum rs n % 1013 + r) = tsum rs n % 1013 + r := by rw [IntKind.wrap_i64]; omega
        go_wp2_with (first | (at_builtin; refine wpl_append_spot rfl _ _ _ rfl (by kernel_rfl) w1.heap.size _ ((coinN vs rs n).map qS) n rfl (rB.out.alloc _) (by rw [List.length_map, coinN_len]) (by omega) (by simp only [World.size_alloc]; omega) wB.heap.size A rfl (by go_simp) (by go_simp) (by go_simp) ?_; intro v1' w7 hown1 hgr1 hbel1 hloc1; obtain ⟨i7, a7⟩ := row_pair (qB.out.alloc _) ra.out hgr1 hloc1; obtain ⟨ao1, co1, rfl⟩ := own_slB hown1; replace hown1 := Lib.hid hown1; have hb7 := Lib.hid (hbel1 w1 (balloc hbn.out _)); obtain ⟨k10, k11⟩ := hX1.out _ (hW1.out.trans (hb7.out.mono hW1.out.size)); replace i7 := Lib.hid i7; replace a7 := Lib.hid a7; clear hgr1 hloc1 hbel1) | (at_builtin; refine wpl_append_int rfl _ _ _ rfl (by kernel_rfl) w1.heap.size _ (rs.take n) n rfl (i7.out.alloc _) (by rw [List.length_take]; omega) (by omega) (by have := hb7.out.size; simp only [World.size_alloc]; omega) w7.heap.size r rfl (by go_simp) ?_; intro v2' w8 hown2 hgr2 hbel2 hloc2; obtain ⟨j8, a8⟩ := row_pair (hown1.out.alloc _) a7.out.symm hgr2 hloc2; obtain ⟨aq2, cq2, rfl⟩ := own_slB hown2; have hb8 := Lib.hid (hbel2 w1 (balloc hb7.out _)); obtain ⟨e80, e81⟩ := hX0.out _ (hW1.out.trans (hb8.out.mono hW1.out.size)); obtain ⟨e90, e91⟩ := hX1.out _ (hW1.out.trans (hb8.out.mono hW1.out.size)); replace hown2 := Lib.hid hown2; replace j8 := Lib.hid j8; replace a8 := Lib.hid a8; clear hgr2 hloc2 hbel2) | fail)
        go_roundw
        case rel => exact ⟨n + 1, by omega, by omega, by omega, by go_num, rfl, rfl, hok1.out, ⟨by rw [hcn.out, List.map_append, List.map_cons, List.map_nil, ← hqA.out]; exact j8.out, by rw [hqn.out]; exact hown2.out, a8.out.symm⟩, hb8.out⟩
        case measure => simp [intOf]; omega
      · have cH := Lib.hid (fun (w1 : World) => hide_n v r w1 hvr)
        clear hvr hsn hok tv tr
        go_upto_region 11 with fail
        have hS : Hid (∀ w', Below wA.heap.size wA w' → w'.cell? ⟨b0, f0 + n, none⟩ = some (.int .i64 v) ∧ b0 < w'.heap.size ∧ w'.cell? ⟨b1, f1 + n, none⟩ = some (.int .i64 r) ∧ b1 < w'.heap.size ∧ Below wA.heap.size wA w') := Lib.hid fun w' h => ⟨((bcell h).1 _ _ j1).trans j0, Nat.lt_of_lt_of_le j1 h.size, ((bcell h).1 _ _ y1).trans y0, Nat.lt_of_lt_of_le y1 h.size, h⟩
        go_region_held3 (fun w' => w'.cell? ⟨b0, f0 + n, none⟩ = some (.int .i64 v) ∧ b0 < w'.heap.size ∧ w'.cell? ⟨b1, f1 + n, none⟩ = some (.int .i64 r) ∧ b1 < w'.heap.size ∧ Below wA.heap.size wA w') (first | (refine hS.out _ ?_; repeat (with_reducible first | exact Below.refl _ _ | exact hwt.out | refine balloc ?_ _ | refine Below.drew ?_ | refine below_set ?_ (by first | omega | (dsimp only; omega)) _))) (first | (go_at_call 14; refine (cH.out _).mono ?_; rintro e wb ⟨rfl, hbb⟩; have hwt := Lib.hid (show Below wA.heap.size wA wb from below_seq (by repeat (with_reducible first | exact Below.refl _ _ | refine balloc ?_ _ | refine Below.drew ?_)) hbb); have hza := hwt.out.size; obtain ⟨hcc, hff⟩ := bcell hbb) | fail)
        all_goals
          have hbA : Below wA.heap.size wA wb := below_seq (by repeat (first | exact Below.refl _ _ | refine balloc ?_ _ | refine Below.drew ?_)) hbb
          have hsz := hbA.size
          go_wp2
          go_ret
          first
          | exact ⟨rfl, below_seq hWA.out (balloc hbA _)⟩
          | exact ⟨rfl, below_seq hWA.out (set3_below hbA (by omega))⟩
end Go.Proofs.YtjjmelhhalomaaaGreatDoor
namespace Go.Proofs.YtjjmelhhalomaaaGreatDoor
open Go.RowKit
set_option linter.unusedVariables false
theorem IntsV.sl6 {w : World} {v : Value} (h : IntsV w v) : ∃ (l : List Int) (a : Option Addr) (c : Nat), v = .slice a l.length c ∧ l.length ≤ 9223372036854775807 ∧ (0 < l.length → ∃ b o, a = some ⟨b, o, none⟩ ∧ IntsAt w b o l) ∧ ∀ n ∈ l, -9223372036854775808 ≤ n ∧ n ≤ 9223372036854775807 := by
  rcases h with ⟨a, c, rfl⟩ | ⟨b, o, c, l, rfl, h1, h2, h3, h4⟩
  · exact ⟨[], a, c, rfl, by decide, fun h => absurd h (Nat.lt_irrefl 0), fun n h => absurd h List.not_mem_nil⟩
  · exact ⟨l, _, c, rfl, h2, fun _ => ⟨b, o, rfl, h3⟩, fun n hn => by have := h4 n hn; simp [Lit.wf] at this; exact this⟩
theorem topBooked_law (v0 v1 v2 : Value) (sync : Int) (hs : (Lit.int .i64 sync).wf = true) (keep : Int) (hk : (Lit.int .i64 keep).wf = true) (w : World) (o0 : IntsV w v0) (o1 : IntsV w v1) (o2 : IntsV w v2) (hL : FarAt w ∧ AscAt w ∧ TenAt w) :
    Calls Tryz.prog 6 #[v0, v1, v2, .int .i64 sync, .int .i64 keep] w fun e w' => e = .returned (.bool true) ∧ Below w.heap.size w w' := by
  obtain ⟨hF, hA, hT⟩ := hL
  obtain ⟨vs, a0, c0, rfl, m0, h0, -⟩ := o0.sl6
  obtain ⟨rs, a1, c1, rfl, m1, h1, -⟩ := o1.sl6
  obtain ⟨ns, a2, c2, rfl, m2, h2, -⟩ := o2.sl6
  simp [Lit.wf] at hs hk
  exact tb_core vs rs ns sync keep hs.1 hs.2 a0 a1 a2 c0 c1 c2 w hF hA hT m0 m1 m2 hk.1 hk.2 h0 h1 h2
end Go.Proofs.YtjjmelhhalomaaaGreatDoor
namespace Go.Proofs.YtjjmelhhalomaaaGreatDoor
open Go.ChangeShapes Go.WideShapes Go.ChangeAt Go.WideMaps Go.WideElems Go.RowKit
set_option maxRecDepth 100000
abbrev farLaid : List (String × DataW Unit) := [("pairstone/curve.Far", Rows.laid_pairstone_curve_Far)]
theorem gFar : Tryz.prog.globalNamed "pairstone/curve.Far" = some 0 := by kernel_rfl
theorem tFar : (Tryz.prog.globals[0]?).map (·.type) = some 28 := by kernel_rfl
/-- The door's own heap meets the condition. -/
theorem farLaid_met (os : Os) (args : Array Value) : laidMetH Tryz.prog farLaid ((World.doorLaid Tryz.prog 400 os).forCall (fun _ _ => 0) ⟨#[], args, []⟩).memory :=
  laidMetH_of_parts3 (fuel := 8) (laidMet_of_run' 8 (by kernel_rfl) (by kernel_rfl)) (by kernel_rfl) (by kernel_rfl)
theorem lt_of_cell {w : World} {b o : Nat} {v : Value} (h : w.cell? ⟨b, o, none⟩ = some v) : b < w.heap.size := by
  rcases Nat.lt_or_ge b w.heap.size with h1 | h1
  · exact h1
  · simp [World.cell?, Array.getElem?_eq_none h1] at h
theorem farLaid_at {W : World} (h : laidMetH Tryz.prog farLaid W) : FarAt W := by
  rw [MakeChecks.laidMetH_plain _ _ _ (by kernel_rfl)] at h
  obtain ⟨ps, ⟨g0, t0, cs0, f0, p0, q0, hg0, ht0, hv0, hd0, _, _⟩, _, _⟩ := h
  obtain rfl := Option.some.inj (gFar.symm.trans hg0)
  obtain rfl := Option.some.inj (tFar.symm.trans ht0)
  obtain ⟨y0, y1, y2, n, hx, hlen, h0, h1, h2⟩ := Deep.trod_struct3 Tryz.underlying28 hd0
  simp only [Rows.laid_pairstone_curve_Far, Prod.mk.injEq, DataW.agg.injEq, List.cons.injEq, and_true] at hx
  obtain ⟨⟨e0, e1, e2⟩, _⟩ := hx
  obtain ⟨a, c0, rfl, _⟩ := DataW.trod_int Tryz.underlying3 h0
  obtain ⟨b, c1, rfl, _⟩ := DataW.trod_int Tryz.underlying3 h1
  obtain ⟨f, c2, rfl⟩ := DataW.trod_bool Tryz.underlying4 h2
  have k3 : Tryz.prog.cellsOf 28 = 3 := by kernel_rfl
  have ki : Tryz.prog.cellsOf 3 = 1 := by kernel_rfl
  have kb : Tryz.prog.cellsOf 4 = 1 := by kernel_rfl
  obtain ⟨l⟩ := cs0
  have h3 : l.length = 3 := by simpa using hlen.trans k3
  match l, h3 with
  | [x, y, z], _ =>
    simp [ki, kb] at c0 c1 c2
    subst c0 c1 c2
    have v0 := World.var?_cell hg0 hv0 0
    have v1 := World.var?_cell hg0 hv0 1
    have v2 := World.var?_cell hg0 hv0 2
    simp at e0 e1 e2 v0 v1 v2
    subst e0 e1 e2
    exact ⟨v0, v1, v2, lt_of_cell v0⟩
end Go.Proofs.YtjjmelhhalomaaaGreatDoor
namespace Go.Proofs.YtjjmelhhalomaaaGreatDoor
open Go.ChangeShapes Go.WideShapes Go.ChangeAt Go.WideMaps Go.WideElems Go.RowKit
set_option maxRecDepth 100000
theorem gErr : Tryz.prog.globalNamed "errors.errorType" = some 2 := by kernel_rfl
theorem cutR : (Tryz.prog.cutTypes.find? (·.1 == "internal/reflectlite.rtype")).map (·.2) = some 184 := by kernel_rfl
theorem rowError : ((List.range Tryz.prog.types.size).filter fun t => Tryz.prog.rowNamed t [101, 114, 114, 111, 114]) = [30] := by kernel_rfl
/-- What the condition on the variable says of its cell. -/
theorem err_of_handles {l : List (String × DataW Unit)} {W : World} (h : handlesMet Tryz.prog l W) (hm : ("errors.errorType", Rows.laid_errors_errorType) ∈ l) : ErrAt W := by
  obtain ⟨name, u, ty, e1, e2, e3, e4, e5⟩ := h _ hm
  have en : name = [101, 114, 114, 111, 114] := (Option.some.inj e1).symm
  subst en
  obtain rfl := Option.some.inj (cutR.symm.trans e2)
  have hm : ty ∈ (List.range Tryz.prog.types.size).filter fun t => Tryz.prog.rowNamed t [101, 114, 114, 111, 114] := List.mem_filter.2 ⟨List.mem_range.2 e3, e4⟩
  rw [rowError] at hm
  obtain rfl := List.mem_singleton.1 hm
  have hh : typeHandle Tryz.prog 30 = .pointer (some ⟨13, 30, none⟩) := by kernel_rfl
  rw [hh] at e5
  have v := World.var?_cell gErr e5 0
  simp at v
  exact ⟨v, lt_of_cell v⟩
abbrev errLaid : List (String × DataW Unit) := [("errors.errorType", Rows.laid_errors_errorType)]
abbrev farErrLaid : List (String × DataW Unit) := [("pairstone/curve.Far", Rows.laid_pairstone_curve_Far), ("errors.errorType", Rows.laid_errors_errorType)]
theorem errLaid_met (os : Os) (args : Array Value) : laidMetH Tryz.prog errLaid ((World.doorLaid Tryz.prog 400 os).forCall (fun _ _ => 0) ⟨#[], args, []⟩).memory :=
  laidMetH_of_parts ⟨[], rfl, List.nodup_nil, fun _ _ h => by cases h⟩ (by kernel_rfl)
theorem farErrLaid_met (os : Os) (args : Array Value) : laidMetH Tryz.prog farErrLaid ((World.doorLaid Tryz.prog 400 os).forCall (fun _ _ => 0) ⟨#[], args, []⟩).memory :=
  laidMetH_of_parts (laidMet_of_run' 8 (by kernel_rfl) (by kernel_rfl)) (by kernel_rfl)
theorem errLaid_at {W : World} (h : laidMetH Tryz.prog errLaid W) : ErrAt W := by
  have h' : laidMet Tryz.prog [] W ∧ handlesMet Tryz.prog errLaid W := h
  exact err_of_handles h'.2 (by simp)
theorem farErrLaid_at {W : World} (h : laidMetH Tryz.prog farErrLaid W) : FarAt W ∧ ErrAt W := by
  have h' : laidMet Tryz.prog farLaid W ∧ handlesMet Tryz.prog errLaid W := h
  exact ⟨farLaid_at (by rw [MakeChecks.laidMetH_plain _ _ _ (by kernel_rfl)]; exact h'.1), err_of_handles h'.2 (by simp)⟩
end Go.Proofs.YtjjmelhhalomaaaGreatDoor
namespace Go.Proofs.YtjjmelhhalomaaaGreatDoor
open Go.ChangeShapes Go.WideShapes Go.ChangeAt Go.WideMaps Go.WideElems Go.RowKit
set_option maxRecDepth 100000
theorem laidMet_head {x : String × DataW Unit} {r : List (String × DataW Unit)} {w : World} (h : laidMet Tryz.prog (x :: r) w) : laidMet Tryz.prog [x] w := by
  obtain ⟨ps, hv, hnd, hrows⟩ := h
  obtain ⟨n, d⟩ := x
  obtain ⟨g, t, cs, fuel, p, q, h1, h2, h3, h4, hq, rfl⟩ := hv
  refine ⟨_, ⟨g, t, cs, fuel, p, [], h1, h2, h3, h4, rfl, rfl⟩, ?_, fun b off hm => hrows b off ?_⟩
  · rw [List.append_nil]; exact List.Nodup.sublist (List.sublist_append_left _ _) hnd
  · rw [List.append_nil] at hm; exact List.mem_append_left _ hm
theorem ten_of_head {r : List (String × DataW Unit)} {W : World} (h : laidMet Tryz.prog (("internal/strconv.uint64pow10", Rows.laid_internal_strconv_uint64pow10) :: r) W) : TenAt W := by
  have e : (Rows.laid_internal_strconv_uint64pow10 : DataW Unit) = Lib.tabData .u64 Lib.pow10Tab := by kernel_rfl
  rw [e] at h
  exact Lib.tabIs_of_head (g := 7) (t := 230) (e := 210) (n := 20) (by kernel_rfl) (by kernel_rfl) (by kernel_rfl) (by kernel_rfl) (by kernel_rfl) (by kernel_rfl) h
theorem asc_of_head {r : List (String × DataW Unit)} {W : World} (h : laidMet Tryz.prog (("strings.asciiSpace", Rows.laid_strings_asciiSpace) :: r) W) : AscAt W := by
  have e : (Rows.laid_strings_asciiSpace : DataW Unit) = Lib.tabData .u8 Lib.asciiSpaceTab := by kernel_rfl
  rw [e] at h
  exact Lib.tabIs_of_head (g := 4) (t := 198) (e := 5) (n := 256) (by kernel_rfl) (by kernel_rfl) (by kernel_rfl) (by kernel_rfl) (by kernel_rfl) (by kernel_rfl) h
theorem far_of_head {r : List (String × DataW Unit)} {W : World} (h : laidMet Tryz.prog (("pairstone/curve.Far", Rows.laid_pairstone_curve_Far) :: r) W) : FarAt W :=
  farLaid_at (by rw [MakeChecks.laidMetH_plain _ _ _ (by kernel_rfl)]; exact laidMet_head h)
abbrev topLaid : List (String × DataW Unit) := [("math/bits.deBruijn32tab", Rows.laid_math_bits_deBruijn32tab), ("math/bits.deBruijn64tab", Rows.laid_math_bits_deBruijn64tab), ("internal/strconv.uint64pow10", Rows.laid_internal_strconv_uint64pow10), ("pairstone/curve.Far", Rows.laid_pairstone_curve_Far), ("strconv.ErrRange", Rows.laid_strconv_ErrRange), ("strconv.ErrSyntax", Rows.laid_strconv_ErrSyntax), ("unicode.White_Space", Rows.laid_unicode_White_Space), ("strings.asciiSpace", Rows.laid_strings_asciiSpace)]
abbrev logLaid : List (String × DataW Unit) := [("math/bits.deBruijn32tab", Rows.laid_math_bits_deBruijn32tab), ("math/bits.deBruijn64tab", Rows.laid_math_bits_deBruijn64tab), ("internal/strconv.uint64pow10", Rows.laid_internal_strconv_uint64pow10), ("pairstone/curve.Far", Rows.laid_pairstone_curve_Far), ("errors.errorType", Rows.laid_errors_errorType), ("strconv.ErrRange", Rows.laid_strconv_ErrRange), ("strconv.ErrSyntax", Rows.laid_strconv_ErrSyntax), ("unicode.White_Space", Rows.laid_unicode_White_Space), ("strings.asciiSpace", Rows.laid_strings_asciiSpace)]
theorem topLaid_met (os : Os) (args : Array Value) : laidMetH Tryz.prog topLaid ((World.doorLaid Tryz.prog 400 os).forCall (fun _ _ => 0) ⟨#[], args, []⟩).memory :=
  laidMetH_of_parts (laidMet_of_run' 8 (by kernel_rfl) (by kernel_rfl)) (by kernel_rfl)
theorem logLaid_met (os : Os) (args : Array Value) : laidMetH Tryz.prog logLaid ((World.doorLaid Tryz.prog 400 os).forCall (fun _ _ => 0) ⟨#[], args, []⟩).memory :=
  laidMetH_of_parts (laidMet_of_run' 8 (by kernel_rfl) (by kernel_rfl)) (by kernel_rfl)
theorem top_at {W : World} (h : laidMet Tryz.prog topLaid W) : FarAt W ∧ AscAt W ∧ TenAt W :=
  ⟨far_of_head h.tail.tail.tail, asc_of_head h.tail.tail.tail.tail.tail.tail.tail, ten_of_head h.tail.tail⟩
theorem topLaid_at {W : World} (h : laidMetH Tryz.prog topLaid W) : FarAt W ∧ AscAt W ∧ TenAt W :=
  top_at (by rw [MakeChecks.laidMetH_plain _ _ _ (by kernel_rfl)] at h; exact h)
theorem logLaid_at {W : World} (h : laidMetH Tryz.prog logLaid W) : (FarAt W ∧ AscAt W ∧ TenAt W) ∧ ErrAt W := by
  have h' : laidMet Tryz.prog topLaid W ∧ handlesMet Tryz.prog errLaid W := h
  exact ⟨top_at h'.1, err_of_handles h'.2 (by simp)⟩
end Go.Proofs.YtjjmelhhalomaaaGreatDoor
namespace Go.Proofs.YtjjmelhhalomaaaGreatDoor
open Go.RowKit
set_option maxRecDepth 100000
theorem headL : ∃ l : List Char, Tryz.prog.initOrder = String.ofList l ∧ ((behindMainWord (wordsSigns l)).head? = some "cut".toList ∧
    (match wordsSigns l with
      | h :: s :: _ => if !isSumSigns s then none else if h == "harness".toList then some (true, s) else if h == "ownmain".toList then some (false, s) else none
      | _ => none) = some (true, "d14747ce2e7cdd5bce8c9fd338f68f0c21c66e61985c11e026f74a52be8974b7".toList)) := by
  refine ⟨?l, ?h1, ?h2, ?h3⟩
  case h1 =>
    unfold Tryz.prog
    first | rfl | (dsimp only; rfl)
  case h2 => kernel_rfl
  case h3 => kernel_rfl
theorem headCut : ∃ r, behindMainWord (wordsSigns Tryz.prog.initOrder.toList) = "cut".toList :: r := by
  obtain ⟨l, h, hw, -⟩ := headL
  rw [h, String.toList_ofList]
  cases e : behindMainWord (wordsSigns l) with
  | nil => rw [e] at hw; cases hw
  | cons c r => rw [e] at hw; exact ⟨r, by rw [Option.some.inj hw]⟩
theorem mainIsK : Tryz.prog.mainIs = some (true, "d14747ce2e7cdd5bce8c9fd338f68f0c21c66e61985c11e026f74a52be8974b7".toList) := by
  obtain ⟨l, h, -, hm⟩ := headL
  unfold Program.mainIs; rw [h, String.toList_ofList]; exact hm
theorem mayEnterK : Tryz.prog.mayEnter = true := by
  obtain ⟨r, h⟩ := headCut
  unfold Program.mayEnter; rw [h]; kernel_rfl
theorem headLiftsK : Tryz.prog.headLifts = [] := by
  obtain ⟨r, h⟩ := headCut
  unfold Program.headLifts; rw [h]; kernel_rfl
theorem liftsFinalK : Tryz.prog.liftsFinal = false := by
  obtain ⟨r, h⟩ := headCut
  unfold Program.liftsFinal; rw [h, headLiftsK]; kernel_rfl
theorem makeK : Tryz.prog.make = some .cut := by
  obtain ⟨r, h⟩ := headCut
  unfold Program.make; rw [h]; kernel_rfl
end Go.Proofs.YtjjmelhhalomaaaGreatDoor
namespace Go.Proofs.YtjjmelhhalomaaaGreatDoor.topBooked
open Go.ChangeShapes Go.WideShapes Go.ChangeAt Go.RowKit
set_option linter.unusedVariables false
theorem typesOk : ([36, 36, 36, 3, 3].all fun t => Tryz.prog.readableRec t && decide (t < Tryz.prog.types.size)) = true := by kernel_rfl
set_option maxRecDepth 100000 in
theorem lifted (os : Os) (started : os.Started) (H : Type) (enc : TypeId × Value → H) :
    ReturnsInHanded {} Tryz.checked os 6 .any (fun w args => (Rows.topBookedSpec.pre enc Tryz.prog Tryz.f6 [] false w args ∧ laidMetH Tryz.prog topLaid w) ∧ sizedMet enc Tryz.prog Tryz.f6 (OpenSpec.ofChange Rows.topBookedSpec) false w args)
      (Rows.topBookedSpec.post enc Tryz.prog Tryz.f6 false true false false) := by
  refine returnsInHanded_of_change_and (C := Tryz.checked) (X := fun w _ => laidMetH Tryz.prog topLaid w) (fun _ _ _ hh h => h.of_heap hh) Tryz.ownK started (by kernel_rfl) Tryz.func6
    (ChangeSpec.witness_shaped (enc := enc) (C := Tryz.checked) (os := os) (X := fun w _ => laidMetH Tryz.prog topLaid w) false (World.doorLaid Tryz.prog 400 os) #[.slice none 0 0, .slice none 0 0, .slice none 0 0, .int .i64 0, .int .i64 0] 8 rfl (World.shaped_of_RefB (by kernel_rfl) (by kernel_rfl)) (by kernel_rfl) (by kernel_rfl) (by kernel_rfl) (topLaid_met os _)) ?_
  intro W base args ds gs before hval0 hW hcnd hsz0 hL hholds
  have hval : ∀ (j : Nat) t v, Tryz.f6.params[j]? = some t → args[j]? = some v → Value.okWide Tryz.prog W .any base t v := hval0
  have hW' := hW
  obtain ⟨p, q, hA0, hV, rfl, hfz, hnd⟩ := hW
  have hA : DataW.TrodAll enc Tryz.prog W 0 (fun _ => true) true Tryz.f6.params.toList args.toList ds p := hA0
  obtain ⟨rfl, rfl⟩ := trodVars_none hV
  simp only [List.append_nil] at hW'
  have hlt : ∀ x ∈ p, x.block < W.heap.size := fun x hx => hW'.lt x hx
  have hsz : (DataW.weightsEach Tryz.prog (Tryz.f6.params.toList ++ Rows.topBookedSpec.plain.varTypes Tryz.prog) (ds ++ [])).all (· ≤ reachBytes) = true := hsz0
  rw [Tryz.params6] at hA hval hsz
  have hK := hA
  obtain ⟨v0, vs0, d0, ds0, p0, q0, hargs, rfl, rfl, h0, r0⟩ := trodAll_cons hA
  obtain ⟨v1, vs1, d1, ds1, p1, q1, rfl, rfl, rfl, h1, r1⟩ := trodAll_cons r0
  obtain ⟨v2, vs2, d2, ds2, p2, q2, rfl, rfl, rfl, h2, r2⟩ := trodAll_cons r1
  obtain ⟨v3, vs3, d3, ds3, p3, q3, rfl, rfl, rfl, h3, r3⟩ := trodAll_cons r2
  obtain ⟨v4, vs4, d4, ds4, p4, q4, rfl, rfl, rfl, h4, r4⟩ := trodAll_cons r3
  obtain ⟨rfl, rfl, rfl⟩ := trodAll_nil r4
  obtain rfl : args = #[v0, v1, v2, v3, v4] := by cases args; simp_all
  have o0 := open_intl Tryz.underlying36 Tryz.underlying3 (by kernel_rfl) (hval 0 36 v0 rfl rfl) h0
  have o1 := open_intl Tryz.underlying36 Tryz.underlying3 (by kernel_rfl) (hval 1 36 v1 rfl rfl) h1
  have o2 := open_intl Tryz.underlying36 Tryz.underlying3 (by kernel_rfl) (hval 2 36 v2 rfl rfl) h2
  obtain ⟨a3, rfl, rfl, rfl, w3⟩ := open_int Tryz.underlying3 (hval 3 3 v3 rfl rfl) h3
  obtain ⟨a4, rfl, rfl, rfl, w4⟩ := open_int Tryz.underlying3 (hval 4 3 v4 rfl rfl) h4
  clear hA0 hval0
  refine (topBooked_law v0 v1 v2 a3 w3 a4 w4 W o0 o1 o2 (topLaid_at hL)).mono fun e W' ⟨he, hg⟩ => ?_
  subst he
  exact ⟨_, rfl, post_of_below (pa := _) (pv := []) hW' (fun _ _ _ => (trodAll_cons_mk (shut_bool Tryz.underlying4 _) trodAll_mk0)) (fun sp hsp => trodAll_stays Tryz.laidOutK hg typesOk hK (fun x hx => ⟨hlt x hx, hsp x (by first | exact hx | (simp at hx) | simpa using hx)⟩)) (fun _ _ => rfl) (by simp) hg (ok_one (by kernel_rfl) rfl (okWide_bool_mk Tryz.underlying4 _))⟩

theorem over : Rows.topBookedRow.holds Tryz.pinned (OpenSpec.ofChange Rows.topBookedSpec) :=
  OpenClaim.holds_of_wide 6 Tryz.f6 rfl rfl rfl rfl rfl rfl rfl ⟨rfl, rfl, rfl, rfl, rfl⟩ rfl rfl rfl rfl rfl (by kernel_rfl) Tryz.func6 (by show joinedFacts Tryz.prog _ _ _ _ = true; unfold joinedFacts; rw [mayEnterK, liftsFinalK, makeK]; kernel_rfl)
    (of_decide_eq_true (by kernel_rfl)) (by unfold Func.isWrapper; first | (rw [if_pos (by decide +kernel)]; kernel_rfl) | (rw [if_neg (by decide +kernel)]; exact ⟨rfl, rfl⟩))
    (fun os started H enc _ => lifted os started H enc)
theorem card : Rows.TopBookedCardSaid :=
  Claim7.holds_tied_plain_at .later [] [.data, .data, .data, .data, .sentinel, .sentinel, .listed, .data] true (true, "d14747ce2e7cdd5bce8c9fd338f68f0c21c66e61985c11e026f74a52be8974b7") true
    over (fun _ h => by cases h) (by kernel_rfl) (fun _ h => by cases h) topBooked_row_tie rfl ⟨rfl, rfl⟩ mainIsK rfl
    (fun f fn hf hfn => by
      obtain rfl : f = 6 := Option.some.inj ((show Tryz.prog.funcNamed "pairstone/stonetop.TopBooked" = some 6 by kernel_rfl).symm.trans hf) |>.symm
      obtain rfl : fn = Tryz.f6 := (Option.some.inj (Tryz.func6.symm.trans hfn)).symm
      exact ⟨by kernel_rfl, fun j t ht => by
        rw [Tryz.params6] at ht
        have hm : t ∈ ([36, 36, 36, 3, 3] : List TypeId) := by simpa using Array.mem_of_getElem? ht
        have hall : (([36, 36, 36, 3, 3] : List TypeId).all fun u => !Tryz.prog.wantsStandIn u) = true := by kernel_rfl
        exact (show Tryz.prog.wantsStandIn t = false by simpa using List.all_eq_true.1 hall t hm)⟩)
    (by kernel_rfl)
#print axioms card
end Go.Proofs.YtjjmelhhalomaaaGreatDoor.topBooked
