/- The statement of LogKeeps: for every input the law returns true, and the arguments read as they did. (its listed variable reads as laid; the card ties it) -/
import Derived.Test.YtahgaccdeakmcaaGreatDoorMLogKeeps
import Derived.Test.YtahgaccdeakmcaaGreatDoorM2LogKeeps
import Derived.Deep.DeepCutAuto
import Derived.Deep.CutBlock
import Derived.Deep.RegionHeld3
import Derived.BigQuiet
import Derived.Test.YtahgaccdeakmcaaGreatDoorRows
import Derived.Test.YtahgaccdeakmcaaGreatDoorWv
import Derived.ProofKit
import Derived.LaidMore
import Derived.OpenShut
import Derived.MakeChecks
import Derived.Deep.Strs
import Derived.Test.YtahgaccdeakmcaaGreatDoorM3LogKeeps
import Derived.LaidHandle
import Derived.Stop.LaidErr
import Derived.Test.YtahgaccdeakmcaaGreatDoorFr
import Derived.Test.YtahgaccdeakmcaaGreatDoorFs
import Derived.SizedLaws
import Derived.Test.YtahgaccdeakmcaaGreatDoorTie
import Derived.Test.YtahgaccdeakmcaaGreatDoorCards
import Derived.SevenTiedAt
namespace Go.Proofs.YtahgaccdeakmcaaGreatDoor
open Go.RowKit
set_option maxRecDepth 100000
set_option linter.unusedVariables false
set_option linter.unusedSimpArgs false
attribute [local go_sem ↓] Go.wp_at_zero Go.wp_at_succ
theorem SeAt.keep {w w' : World} {b : Nat} {s : Sp} {z : Int} (h : SeAt w b s z) (hs : w.heap.size ≤ w'.heap.size) (hb : w'.heap[b]? = w.heap[b]?) : SeAt w' b s z := by
  have c : ∀ o, w'.cell? ⟨b, o, none⟩ = w.cell? ⟨b, o, none⟩ := fun o => World.cell?_of_block (a := ⟨b, o, none⟩) hb
  have f : ∀ o, w'.frozen? ⟨b, o, none⟩ = w.frozen? ⟨b, o, none⟩ := fun o => World.frozen?_of_block (a := ⟨b, o, none⟩) hb
  exact ⟨(c 0).trans h.c0, (c 1).trans h.c1, (c 2).trans h.c2, (c 3).trans h.c3, (f 0).trans h.f0, (f 1).trans h.f1, (f 2).trans h.f2, (f 3).trans h.f3, Nat.lt_of_lt_of_le h.lt hs⟩
/-- The log of no coins, and a seal. -/
structure LoK (w : World) (B q zB : Nat) (P : Sp) (h : LgH) (s : LgS) (wr : World) : Prop where
  v : LgV wr B q [] h s
  z : SeAt wr zB P 1
  zb : zB < B
  wb : w.heap.size ≤ B
  bl : B ≤ wr.heap.size
  b : Below w.heap.size w wr
theorem LoK.did {w : World} {B q zB : Nat} {P : Sp} {h : LgH} {s s' : LgS} {wr w' : World} (k : LoK w B q zB P h s wr) (hd : LgDid wr w' B q [] h s') : ∃ h', LoK w B q zB P h' s' w' := by
  have hB := hd.glo k.v k.bl
  obtain ⟨h', v', hin, hbt⟩ := hd
  exact ⟨h', v', k.z.keep hbt.size (hB.block zB k.zb), k.zb, k.wb, Nat.le_trans k.bl hbt.size, k.b.trans (hB.mono k.wb)⟩
theorem no_ints (w : World) (P : Sp) : IntSl w (.slice none (d0 P).gl.length 0) (d0 P).G := ⟨none, 0, rfl, fun h => absurd h (Nat.lt_irrefl 0)⟩
theorem no_lies {w : World} {p : Nat} {vc vg : Value} : Lies w p vc vg none none [] [] := ⟨fun h => absurd h (Nat.lt_irrefl 0), fun h => absurd h (Nat.lt_irrefl 0)⟩
theorem LgP.dd {s : LgS} {P : Sp} (hP : LgP [] s) (hPP : sq (4 * hJ * 1) = P) : Done (stN [] s.ds) (stG [] s.ds) (d0 P) := d0_done hPP _ _ (stG_len [] s.ds) (hP.all.bound hP.m)
theorem LoK.do_y {w : World} {B q zB : Nat} {P : Sp} {h : LgH} {s : LgS} {wr : World} (k : LoK w B q zB P h s wr) (hF : FarAt w) (hA : AscAt w) (hT : TenAt w) (hP : LgP [] s) (hPP : sq (4 * hJ * 1) = P) (hs : s.st = false) (h0 : s.lf ≠ 0) : Calls Tryz.prog 18 #[.pointer (some ⟨q, 0, none⟩), dlV (.slice none 0 0) (.slice none 0 0) P 1] wr fun e w' => e = .returned .nilIface ∧ LgDid wr w' B q [] h (s.done (d0 P)) :=
  k.v.do_y hP k.bl (Glo.of hF hA hT k.b k.wb) hs (d0 P) (hP.dd hPP) none none 0 0 (no_ints wr P) (fun _ b o e => by cases e) (fun h => absurd h (Nat.lt_irrefl 0)) (fun w1 hb => by
    have := (hP.dd hPP).run B h.p h.vc h.vg none none 0 0 w1 ((hF.below k.b).below hb) (k.v.bk.below hb) (Nat.le_trans k.bl hb.size) (Nat.le_refl _) (by decide) no_lies
    rw [stN_snoc, stG_snoc]
    exact this) h0
def lo1 (P : Sp) : LgS := LgS.new.done (d0 P)
def lo2 (P : Sp) : LgS := { lo1 P with sf := ((lo1 P).bytes.length : Int), lf := dec1 (lo1 P).lf, st := false }
def lo3 (P : Sp) : LgS := (lo2 P).done (d0 P)
def lo4 (P : Sp) : LgS := (lo3 P).crash 0
theorem lo_all {P : Sp} (hPP : sq (4 * hJ * 1) = P) : LgP [] (lo1 P) ∧ LgP [] (lo2 P) ∧ LgP [] (lo3 P) ∧ LgP [] (lo4 P) := by
  have p0 : LgP [] LgS.new := LgP.new (Nat.zero_le _)
  have p1 : LgP [] (lo1 P) := p0.done rfl (by decide) (p0.dd hPP)
  have hl := dec1_bd p1.l0 p1.l1
  have p2 : LgP [] (lo2 P) := p1.nums _ _ false (fun _ => rfl) (Int.natCast_nonneg _) (Int.le_refl _) hl.1 hl.2
  have p3 : LgP [] (lo3 P) := p2.done rfl (by show 1 < 500; decide) (p2.dd hPP)
  exact ⟨p1, p2, p3, p3.crash 0⟩
theorem lo_end {P : Sp} (hPP : sq (4 * hJ * 1) = P) : ∃ n : Nat, 2 ≤ n ∧ n ≤ 20000 ∧ (lo3 P).sf = (n : Int) ∧ (lo4 P).bytes.length = n ∧ (lo4 P).sf = (n : Int) ∧ (lo4 P).ds = [d0 P] := by
  have hl := (d0_ok (P := P) (by rw [← hPP]; exact sq_ok _)).len
  have e1 : (lo1 P).bytes.length = (recX (d0 P)).length := by
    show ((recsB ([] ++ [d0 P])).flatten ++ []).length = _
    rw [List.append_nil, recsB_snoc]; simp [recsB]
  have e3 : (lo3 P).sf = ((recX (d0 P)).length : Int) := by show (((lo1 P).bytes.length : Nat) : Int) = _; rw [e1]
  have hc : cutAt (lo3 P) 0 = (recX (d0 P)).length := by
    unfold cutAt; rw [e3]
    have : max (0 : Int) (min 0 (((lo3 P).bytes.length : Int) - ((recX (d0 P)).length : Int))) = 0 := by omega
    rw [this]; omega
  have hk : keepN (recsB (lo3 P).ds) (recX (d0 P)).length = 1 := by
    show keepN [recX (d0 P), recX (d0 P)] _ = 1
    unfold keepN
    rw [if_pos (Nat.le_refl _), Nat.sub_self]
    unfold keepN
    rw [if_neg (by omega)]
  have hd : (lo4 P).ds = [d0 P] := by
    show (lo3 P).ds.take (keepN (recsB (lo3 P).ds) (cutAt (lo3 P) 0)) = _
    rw [hc, hk]; rfl
  have hf : (recsB [d0 P]).flatten = recX (d0 P) := by simp [recsB]
  refine ⟨(recX (d0 P)).length, hl.1, hl.2, e3, ?_, ?_, hd⟩
  · show ((recsB (lo4 P).ds).flatten ++ []).length = _
    rw [hd, hf, List.append_nil]
  · show (((recsB (lo4 P).ds).flatten.length : Nat) : Int) = _
    rw [hd, hf]
theorem LkK.start {w wd wf : World} {B q : Nat} {M : List Int} {h : LgH} {pc : Nat} {rc rg : Value} (hv : LgV wd B q M h LgS.new) (hr : BkV wf wd.heap.size pc rc rg M (List.replicate M.length false)) (hbf : Below wd.heap.size wd wf) (wb : w.heap.size ≤ B) (bl : B ≤ wd.heap.size) (hb : Below w.heap.size w wf) :
    LkK w B q M h LgS.new [⟨pc, rc, rg⟩] wf.heap.size 1 (wf.heap.size + 1) 1 ((wf.alloc (.cells #[.pointer (some ⟨pc, 0, none⟩)] 55)).alloc (.cells #[.int .i64 0] 3)) := by
  have b1 : Below wf.heap.size wf ((wf.alloc (.cells #[.pointer (some ⟨pc, 0, none⟩)] 55)).alloc (.cells #[.int .i64 0] 3)) := balloc (below_alloc _ _) _
  have hvb := fun k hk => (hv.blk k hk).2
  have hrb := fun k hk => hr.blk k hk
  have hz := hbf.size
  have d1 : (wf.alloc (.cells #[.pointer (some ⟨pc, 0, none⟩)] 55)).ownsRow B 55 1 (.slice (some ⟨wf.heap.size, 0, none⟩) 1 1) 1 [ptV pc] := World.ownsRow_lit wf #[.pointer (some ⟨pc, 0, none⟩)] 1 (by omega) (by decide) rfl
  have d2 : ((wf.alloc (.cells #[.pointer (some ⟨pc, 0, none⟩)] 55)).alloc (.cells #[.int .i64 0] 3)).ownsRow B 3 1 (.slice (some ⟨wf.heap.size + 1, 0, none⟩) 1 1) 1 [.int .i64 0] := by
    have := World.ownsRow_lit (base := B) (e := 3) (size := 1) (wf.alloc (.cells #[.pointer (some ⟨pc, 0, none⟩)] 55)) #[.int .i64 0] 1 (by simp; omega) (by decide) rfl
    simpa using this
  refine ⟨(hv.below hbf).below b1, ⟨rfl, d1.alloc _, d2, fun i hi => ?_, fun r hr' k hk => ?_, fun hi => ?_, fun hi => ?_, by omega⟩, wb, by simp; omega, below_seq hb b1⟩
  · obtain rfl : i = 0 := by simp at hi; omega
    exact (hr.below b1).base bl
  · obtain rfl := List.mem_singleton.mp hr'
    have h1 := hrb k hk
    exact ⟨fun hi => by have := hvb k hi; omega, by omega, by omega⟩
  · have := hvb _ hi; omega
  · have := hvb _ hi; omega
set_option maxHeartbeats 64000000 in
theorem lk_core (L0 : List Sp) (dl : List DealR) (ys fs ks : List Int) (a0 a1 a2 a3 a4 : Option Addr) (c0 c1 c2 c3 c4 : Nat) (w : World) (hF : FarAt w) (hA : AscAt w) (hT : TenAt w) (hE : ErrAt w) (P : Sp) (c : Int) (hPP : Hid (sq (4 * hJ * 1) = P)) (hc : Hid (bAsk P ⟨0, 0, true⟩ = c))
    (m0 : L0.length ≤ 9223372036854775807) (m1 : dl.length ≤ 9223372036854775807) (m2 : ys.length ≤ 9223372036854775807) (m3 : fs.length ≤ 9223372036854775807) (m4 : ks.length ≤ 9223372036854775807)
    (h0 : 0 < L0.length → ∃ b o, a0 = some ⟨b, o, none⟩ ∧ SpotsAt w b o L0) (h1 : 0 < dl.length → ∃ b o, a1 = some ⟨b, o, none⟩ ∧ DealsAt w b o dl)
    (h2 : 0 < ys.length → ∃ b o, a2 = some ⟨b, o, none⟩ ∧ IntsAt w b o ys) (h3 : 0 < fs.length → ∃ b o, a3 = some ⟨b, o, none⟩ ∧ IntsAt w b o fs) (h4 : 0 < ks.length → ∃ b o, a4 = some ⟨b, o, none⟩ ∧ IntsAt w b o ks)
    (b3 : ∀ n ∈ fs, -9223372036854775808 ≤ n ∧ n ≤ 9223372036854775807) (b4 : ∀ n ∈ ks, -9223372036854775808 ≤ n ∧ n ≤ 9223372036854775807) :
    Calls Tryz.prog 7 #[.slice a0 L0.length c0, .slice a1 dl.length c1, .slice a2 ys.length c2, .slice a3 fs.length c3, .slice a4 ks.length c4] w fun e w' => e = .returned (.bool true) ∧ Below w.heap.size w w' := by
  have kC := Lib.hid (bclose_y 0 1 ⟨0, 0, true⟩ P c 1 w hF (by decide) (by decide) (by decide) (by decide) (by rw [← qS_zero]; exact qS_ok _) hPP hc (by rw [Int.mul_zero]; rfl))
  have hF' := Lib.hid hF
  have hA' := Lib.hid hA
  have hT' := Lib.hid hT
  have hE' := Lib.hid hE
  replace h0 := Lib.hid h0
  replace h1 := Lib.hid h1
  replace h2 := Lib.hid h2
  replace h3 := Lib.hid h3
  replace h4 := Lib.hid h4
  replace b3 := Lib.hid b3
  replace b4 := Lib.hid b4
  clear hF hA hT hE
  go_enter Tryz.func7, Tryz.ntmps7
  go_wp2_with fail
  refine kC.out.mono ?_; rintro e w1 ⟨rfl, hb1⟩
  have hB1 := Lib.hid hb1
  clear hb1 kC
  go_wp2_with fail
  have hz2 := SeAt.fresh w1 P.x P.y P.far 1 37
  have hB2 := Lib.hid (balloc hB1.out (.cells #[.int .i64 P.x, .int .i64 P.y, .bool P.far, .int .i64 1] 37))
  have hN := lnew_y [] none 0 (w1.alloc (.cells #[.int .i64 P.x, .int .i64 P.y, .bool P.far, .int .i64 1] 37)) (by decide) (hF'.out.below hB2.out) (fun h => absurd h (Nat.lt_irrefl 0))
  have hzl : w1.heap.size < (w1.alloc (.cells #[.int .i64 P.x, .int .i64 P.y, .bool P.far, .int .i64 1] 37)).heap.size := by simp
  generalize w1.alloc (.cells #[.int .i64 P.x, .int .i64 P.y, .bool P.far, .int .i64 1] 37) = w2 at *
  replace hz2 := Lib.hid hz2
  replace hN := Lib.hid hN
  refine hN.out.mono ?_; rintro e w3 ⟨q, h, rfl, hv, hb3⟩
  have hB3 := Lib.hid (below_seq hB2.out hb3)
  have hz3 := hz2.out.below hb3
  have hK0 : LoK w w2.heap.size q w1.heap.size P h LgS.new w3 := ⟨hv, hz3, hzl, hB2.out.size, hb3.size, hB3.out⟩
  obtain ⟨zB, hzB⟩ : ∃ zB, w1.heap.size = zB := ⟨_, rfl⟩
  obtain ⟨B, hBB⟩ : ∃ B, w2.heap.size = B := ⟨_, rfl⟩
  rw [hzB, hBB] at hK0
  rw [hzB]
  have pp := lo_all hPP.out
  obtain ⟨nE, e2, e20, eS3, eB4, eS4, eD4⟩ := lo_end hPP.out
  have hD1 := Lib.hid (hK0.do_y hF'.out hA'.out hT'.out (LgP.new (Nat.zero_le _)) hPP.out rfl (by decide))
  obtain ⟨zc0, zc1, zc2, zc3, -, -, -, -, zl⟩ := hK0.z
  replace hK0 := Lib.hid hK0
  replace pp := Lib.hid pp
  replace eB4 := Lib.hid eB4
  replace eD4 := Lib.hid eD4
  clear hv hb3 hN hz2 hz3 hzB hBB hzl hB3 hB2 hB1
  go_wp2_with fail
  refine hD1.out.mono ?_; rintro e w4 ⟨rfl, hd⟩
  obtain ⟨h4', hK4⟩ := hK0.out.did hd
  replace hK4 : LoK w B q zB P h4' (lo1 P) w4 := hK4
  have hD2 := Lib.hid (hK4.v.sync_1 pp.out.1 rfl (by show dec1 (-1) ≠ 0; decide))
  replace hK4 := Lib.hid hK4
  clear hd hK0 hD1 zc0 zc1 zc2 zc3 zl
  go_wp2_with fail
  refine hD2.out.mono ?_; rintro e w5 ⟨rfl, hd⟩
  obtain ⟨h5', hK5⟩ := hK4.out.did hd
  replace hK5 : LoK w B q zB P h5' (lo2 P) w5 := hK5
  have hD3 := Lib.hid (hK5.do_y hF'.out hA'.out hT'.out pp.out.2.1 hPP.out rfl (by show dec1 (dec1 (-1)) ≠ 0; decide))
  obtain ⟨zc0, zc1, zc2, zc3, -, -, -, -, zl⟩ := hK5.z
  replace hK5 := Lib.hid hK5
  clear hd hK4 hD2
  go_wp2_with fail
  refine hD3.out.mono ?_; rintro e w6 ⟨rfl, hd⟩
  obtain ⟨h6', hK6⟩ := hK5.out.did hd
  replace hK6 : LoK w B q zB P h6' (lo3 P) w6 := hK6
  have hD4 := hK6.v.safe_c
  rw [eS3] at hD4
  replace hD4 := Lib.hid hD4
  have hD5 := Lib.hid (hK6.v.crash_c pp.out.2.2.1 hK6.bl (Glo.of hF'.out hA'.out hT'.out hK6.b hK6.wb) 0 (by decide) (by decide))
  replace hK6 := Lib.hid hK6
  clear hd hK5 hD3 zc0 zc1 zc2 zc3 zl
  go_wp2_with fail
  refine hD4.out.mono ?_; rintro e w' ⟨rfl, rfl⟩
  go_wp2_with fail
  refine hD5.out.mono ?_; rintro e w7 ⟨⟨u, rfl⟩, hd⟩
  obtain ⟨h7', hK7⟩ := hK6.out.did hd
  replace hK7 : LoK w B q zB P h7' (lo4 P) w7 := hK7
  have hD6 := hK7.v.bytes_c
  rw [eB4.out] at hD6
  have hD7 := hK7.v.safe_c
  rw [eS4] at hD7
  have hD8 := hK7.v.total_c (hF'.out.below hK7.b) (by rw [eD4.out]; show 0 ≤ 1000000; decide) ⟨0, 0, true⟩ (Lib.hid (by rw [eD4.out]; show qS 0 = _; exact qS_zero))
  have hB7 := Lib.hid hK7.b
  replace hD6 := Lib.hid hD6
  replace hD7 := Lib.hid hD7
  replace hD8 := Lib.hid hD8
  have ge2 : decide ((nE : Int) < 2) = false := by rw [decide_eq_false_iff_not]; omega
  clear hd hK6 hD4 hD5 hK7 eS3 eS4 eB4 eD4 pp
  go_wp2_with (first | (go_at_call 22; refine hD6.out.mono ?_; rintro e w' ⟨rfl, rfl⟩) | (go_at_call 23; refine hD7.out.mono ?_; rintro e w' ⟨rfl, rfl⟩) | fail)
  refine hD8.out.mono ?_; rintro e w8 ⟨rfl, hb8⟩
  have hB8 := Lib.hid (below_seq hB7.out hb8)
  clear hb8 hB7 hD6 hD7 hD8 ge2
  obtain ⟨EC, hM, hC⟩ := coins_out L0 m0
  replace hM := Lib.hid hM
  replace hC := Lib.hid hC
  have hs0 : Hid (∀ w', Below w.heap.size w w' → 0 < L0.length → ∃ b o, a0 = some ⟨b, o, none⟩ ∧ SpotsAt w' b o L0) := Lib.hid fun w' hb h => by obtain ⟨b, o, e, hs⟩ := h0.out h; exact ⟨b, o, e, hs.below hb⟩
  clear e2 e20 h h4' h5' h6' h7' w1 w2 w3 w4 w5
  go_wp2_with fail
  refine (hC.out a0 c0 w8 (hF'.out.below hB8.out) (hs0.out _ hB8.out)).2.mono ?_; rintro e wa ⟨rfl, hba⟩
  have hBa := Lib.hid (below_seq hB8.out hba)
  clear hba
  by_cases hEC : EC = 0
  case neg =>
    have hck := (hC.out a0 c0 wa (hF'.out.below hBa.out) (hs0.out _ hBa.out)).1
    have hNw := Lib.hid (lnew_n L0.length (errV EC) a0 c0 wa ⟨EC, errVB_ne hEC⟩ (bnew_n L0.length (errV EC) a0 c0 wa ⟨EC, errVB_ne hEC⟩ hck))
    have g1 : (EC != 0) = true := by simpa using hEC
    clear hck hEC hC hM hs0
    go_wp2_with fail
    refine hNw.out.mono ?_; rintro e wb ⟨rfl, hbb⟩
    have hBb := Lib.hid (below_seq hBa.out hbb)
    clear hbb
    go_wp2_with fail
    refine (error_same _ EC _ (hE'.out.below hBb.out) (Lib.hid rfl)).mono ?_; rintro e wd ⟨rfl, hbd⟩
    have hBd := Lib.hid (below_seq hBb.out hbd)
    clear hbd
    go_wp2_with fail
    go_ret
    exact ⟨rfl, hBd.out⟩
  subst hEC
  obtain ⟨M, hM12, hLM⟩ := hM.out rfl
  have hlM : M.length = L0.length := by rw [hLM, List.length_map]
  have hNw := lnew_y M a0 c0 wa hM12 (hF'.out.below hBa.out) (by rw [← hLM]; exact hs0.out _ hBa.out)
  rw [hlM] at hNw
  replace hNw := Lib.hid hNw
  replace hLM := Lib.hid hLM
  replace hlM := Lib.hid hlM
  clear hC hM
  go_wp2_with fail
  refine hNw.out.mono ?_; rintro e wb ⟨q, h, rfl, hv, hbb⟩
  have hBb := Lib.hid (below_seq hBa.out hbb)
  have hab := hbb.size
  replace hv := Lib.hid hv
  clear hbb hNw
  go_wp2_with fail
  refine (error_nil 0 _ true (Lib.hid rfl)).mono ?_; rintro e wd ⟨rfl, hbd⟩
  have hBd := Lib.hid (below_seq hBb.out hbd)
  replace hv := Lib.hid (hv.out.below hbd)
  have hbd2 := hbd.size
  have hwa := hBa.out.size
  clear hbd hBa hBb
  have hNb := rbook_y M a0 c0 wd hM12 (by rw [← hLM.out]; exact hs0.out _ hBd.out)
  rw [hlM.out] at hNb
  replace hNb := Lib.hid hNb
  go_wp2_with fail
  refine hNb.out.mono ?_; rintro e wf ⟨pc, rfl, ⟨rc, rg, hr⟩, hbf⟩
  have hBf := below_seq hBd.out hbf
  have hst := LkK.start hv.out (by rw [hlM.out]; exact hr) hbf hwa (by omega) hBf
  obtain ⟨B, hBB⟩ : ∃ B, wa.heap.size = B := ⟨_, rfl⟩
  rw [hBB] at hst
  replace hst := Lib.hid hst
  clear hNb hv hbf hBd hBf hr hab hbd2 hs0 hB8 hBB hwa
  have pN := Lib.hid (LgP.new hM12)
  obtain ⟨gd, hgd⟩ : ∃ gd, wf.heap.size = gd := ⟨_, rfl⟩
  rw [hgd] at hst
  go_upto_region 20 with fail
  generalize (wf.alloc (.cells #[.pointer (some ⟨pc, 0, none⟩)] 55)).alloc (.cells #[.int .i64 0] 3) = wg at *
  clear hgd
  go_wp2
  go_loopw [23, 24, 25, 26] (fun v23 v24 v25 v26 wr => ∃ (rd at' : Nat) (h : LgH) (s : LgS) (rs : List RfB) (gd cd gm cm : Nat), rd ≤ 4 ∧ at' ≤ dl.length ∧ v26 = .int .i64 rd ∧ v25 = .int .i64 at' ∧ s.ds.length ≤ 6 * rd ∧ v23 = .slice (some ⟨gd, 0, none⟩) (s.ds.length + 1) cd ∧ v24 = .slice (some ⟨gm, 0, none⟩) (s.ds.length + 1) cm ∧ LgP M s ∧ LkK w B q M h s rs gd cd gm cm wr) (fun _ _ _ i _ => 4 - (intOf i).toNat)
  case atStart => exact ⟨0, 0, h, LgS.new, _, gd, 1, gd + 1, 1, by decide, Nat.zero_le _, rfl, rfl, Nat.zero_le _, rfl, rfl, pN.out, hst.out⟩
  case round =>
    clear hst pN
    obtain ⟨rd, at', h, s, rs, gd, cd, gm, cm, r4, hat, rfl, rfl, hds, rfl, rfl, hP, hk⟩ := hrel
    have hk' := Lib.hid hk
    replace hP := Lib.hid hP
    obtain ⟨C, hCd⟩ : ∃ C, decide (rd ≤ fs.length ∧ rd < 4) = C := ⟨_, rfl⟩
    obtain ⟨n, hn⟩ : ∃ n, s.ds.length = n := ⟨_, rfl⟩
    rw [hn]
    clear hk
    go_upto_region 21 with fail
    go_cut [129] from 122 to 128 (fun s129 wx => s129 = .bool C ∧ wx = wr)
    case first =>
      clear hk' hP
      by_cases q1 : rd ≤ fs.length
      · have g1 : decide ((rd : Int) ≤ (fs.length : Int)) = true := by rw [decide_eq_true_iff]; omega
        by_cases q2 : rd < 4
        · have g2 : decide ((rd : Int) < 4) = true := by rw [decide_eq_true_iff]; omega
          rw [decide_eq_true ⟨q1, q2⟩] at hCd
          subst hCd
          go_wp2_with fail
          go_meet
          exact ⟨rfl, rfl⟩
        · have g2 : decide ((rd : Int) < 4) = false := by rw [decide_eq_false_iff_not]; omega
          rw [decide_eq_false (fun h => q2 h.2)] at hCd
          subst hCd
          go_wp2_with fail
          go_meet
          exact ⟨rfl, rfl⟩
      · have g1 : decide ((rd : Int) ≤ (fs.length : Int)) = false := by rw [decide_eq_false_iff_not]; omega
        rw [decide_eq_false (fun h => q1 h.1)] at hCd
        subst hCd
        go_wp2_with fail
        go_meet
        exact ⟨rfl, rfl⟩
    case rest =>
    obtain ⟨rfl, hwx⟩ := hcut
    obtain ⟨wA, rfl⟩ : ∃ x : World, x = wc := ⟨_, rfl⟩
    subst hwx
    cases C
    · go_wp2_with fail
      go_ret
      exact ⟨rfl, hk'.out.b⟩
    obtain ⟨q1, q2⟩ := of_decide_eq_true hCd
    clear hCd
    go_upto_if 135 with fail
    go_cut [] from 132 to 141 (fun wx => ∃ (h : LgH) (s2 : LgS), LgP M s2 ∧ s2.ds = s.ds ∧ LkK w B q M h s2 rs gd cd gm cm wx)
    case first =>
      by_cases q3 : rd < fs.length
      · have g1 : decide ((rd : Int) < (fs.length : Int)) = true := by rw [decide_eq_true_iff]; omega
        obtain ⟨bF, oF, rfl, hI⟩ := h3.out (by omega)
        have hI1 := hI.below hk'.out.b
        have l1 := hI1.c rd q3
        have l2 := hI1.lt
        obtain ⟨bf0, bf1⟩ := b3.out _ (List.getElem_mem q3)
        generalize fs[rd] = fv at *
        have hfl := Lib.hid (hk'.out.v.fail_c fv bf1 bf0)
        have hfp := Lib.hid (hP.out.nums s.sf (max (-1) fv) s.st id hP.out.s0 hP.out.s1 (by omega) (by omega))
        clear hI hI1
        go_wp2_with fail
        refine hfl.out.mono ?_; rintro e wb ⟨⟨u, rfl⟩, hd⟩
        obtain ⟨h2', hk2⟩ := hk'.out.did hd rfl
        replace hk2 := Lib.hid hk2
        clear hd hfl
        go_wp2_with fail
        go_meet
        exact ⟨_, _, hfp.out, rfl, hk2.out⟩
      · have g1 : decide ((rd : Int) < (fs.length : Int)) = false := by rw [decide_eq_false_iff_not]; omega
        go_wp2_with fail
        go_meet
        exact ⟨_, _, hP.out, rfl, hk'.out⟩
    case rest =>
    obtain ⟨hX, sX, hPX, hsX, hkX⟩ := hcut
    have hds2 : sX.ds.length ≤ 6 * rd := by rw [hsX]; exact hds
    have hn2 : sX.ds.length = n := by rw [hsX]; exact hn
    clear hk' hP hn hds hsX
    replace hPX := Lib.hid hPX
    replace hkX := Lib.hid hkX
    go_wp2
    go_loopw [23, 24, 25, 27] (fun v23 v24 v25 v27 wr => ∃ (k at' : Nat) (h : LgH) (s : LgS) (rs : List RfB) (gd cd gm cm : Nat), k ≤ 6 ∧ at' ≤ dl.length ∧ v27 = .int .i64 k ∧ v25 = .int .i64 at' ∧ s.ds.length ≤ 6 * rd + k ∧ v23 = .slice (some ⟨gd, 0, none⟩) (s.ds.length + 1) cd ∧ v24 = .slice (some ⟨gm, 0, none⟩) (s.ds.length + 1) cm ∧ LgP M s ∧ LkK w B q M h s rs gd cd gm cm wr) (fun _ _ _ i _ => 6 - (intOf i).toNat)
    case atStart => exact ⟨0, at', hX, sX, rs, gd, cd, gm, cm, by decide, hat, rfl, rfl, hds2, by rw [hn2], by rw [hn2], hPX.out, hkX.out⟩
    case round =>
      clear hkX hPX hds2 hn2 hat
      obtain ⟨k, at', h, s, rs, gd, cd, gm, cm, k6, hat, rfl, rfl, hds, rfl, rfl, hP, hk⟩ := hrel
      have hk' := Lib.hid hk
      replace hP := Lib.hid hP
      obtain ⟨C, hCd⟩ : ∃ C, decide (k < 6 ∧ at' < dl.length) = C := ⟨_, rfl⟩
      obtain ⟨n, hn⟩ : ∃ n, s.ds.length = n := ⟨_, rfl⟩
      rw [hn] at hds ⊢
      clear hk
      go_upto_region 26 with fail
      go_cut [149] from 142 to 148 (fun s149 wx => s149 = .bool C ∧ wx = wr)
      case first =>
        clear hk' hP
        by_cases p1 : k < 6
        · have g1 : decide ((k : Int) < 6) = true := by rw [decide_eq_true_iff]; omega
          by_cases p2 : at' < dl.length
          · have g2 : decide ((at' : Int) < (dl.length : Int)) = true := by rw [decide_eq_true_iff]; omega
            rw [decide_eq_true ⟨p1, p2⟩] at hCd
            subst hCd
            go_wp2_with fail
            go_meet
            exact ⟨rfl, rfl⟩
          · have g2 : decide ((at' : Int) < (dl.length : Int)) = false := by rw [decide_eq_false_iff_not]; omega
            rw [decide_eq_false (fun h => p2 h.2)] at hCd
            subst hCd
            go_wp2_with fail
            go_meet
            exact ⟨rfl, rfl⟩
        · have g1 : decide ((k : Int) < 6) = false := by rw [decide_eq_false_iff_not]; omega
          rw [decide_eq_false (fun h => p1 h.1)] at hCd
          subst hCd
          go_wp2_with fail
          go_meet
          exact ⟨rfl, rfl⟩
      case rest =>
      obtain ⟨rfl, hwx⟩ := hcut
      obtain ⟨wA, rfl⟩ : ∃ x : World, x = wc := ⟨_, rfl⟩
      subst hwx
      cases C
      · clear hCd
        go_upto_region 48 with fail
        go_cut [34] from 34 to 34 (fun s34 wx => s34 = .int .i64 0 ∧ wx = wA)
        case first =>
          clear hk' hP
          go_wp2_with fail
          go_meet
          exact ⟨rfl, rfl⟩
        case rest =>
        obtain ⟨rfl, hwx⟩ := hcut
        obtain ⟨wB, hwB⟩ : ∃ x : World, x = wc := ⟨_, rfl⟩
        rw [← hwB] at hwx ⊢
        subst hwx
        clear hwB
        go_step
        refine lk_end ks a4 c4 w hF' hA' hT' hE' M hM12 B q h s rs gd cd gm cm n wB hk' hP hn m4 h4 b4 rd q2 _ _ rfl ?_
        intro h2 s2 rs2 gd2 cd2 gm2 cm2 wN
        intros
        rename_i y1 y2 y3 y4 y5
        subst y4 y5
        have y3' := Lib.hid y3
        clear hk' hP y3
        go_wp2_with fail
        go_roundw
        case rel => exact ⟨rd + 1, at', h2, s2, rs2, gd2, cd2, gm2, cm2, by omega, hat, by go_num, rfl, by omega, rfl, rfl, y1, y3'.out⟩
        case measure => simp [intOf]; omega
      · obtain ⟨p1, p2⟩ := of_decide_eq_true hCd
        clear hCd
        go_upto_block 3 with fail
        refine lk_deal dl ys a1 a2 c1 c2 w hF' hA' hT' hE' M hM12 B q h s rs gd cd gm cm n wA hk' hP hn m1 m2 h1 h2 at' p2 (by omega) _ _ rfl ?_
        intro h2 s2 rs2 gd2 cd2 gm2 cm2 wN
        intros
        rename_i y1 y2 y3 y4 y5 y6
        subst y4 y5 y6
        have y3' := Lib.hid y3
        clear hk' hP y3
        go_wp2_with fail
        go_roundw
        case rel => exact ⟨k + 1, at' + 1, h2, s2, rs2, gd2, cd2, gm2, cm2, by omega, by omega, by go_num, rfl, by omega, rfl, rfl, y1, y3'.out⟩
        case measure => simp [intOf]; omega
end Go.Proofs.YtahgaccdeakmcaaGreatDoor
namespace Go.Proofs.YtahgaccdeakmcaaGreatDoor
open Go.RowKit
set_option linter.unusedVariables false
theorem IntsV.sl6 {w : World} {v : Value} (h : IntsV w v) : ∃ (l : List Int) (a : Option Addr) (c : Nat), v = .slice a l.length c ∧ l.length ≤ 9223372036854775807 ∧ (0 < l.length → ∃ b o, a = some ⟨b, o, none⟩ ∧ IntsAt w b o l) ∧ ∀ n ∈ l, -9223372036854775808 ≤ n ∧ n ≤ 9223372036854775807 := by
  rcases h with ⟨a, c, rfl⟩ | ⟨b, o, c, l, rfl, h1, h2, h3, h4⟩
  · exact ⟨[], a, c, rfl, by decide, fun h => absurd h (Nat.lt_irrefl 0), fun n h => absurd h List.not_mem_nil⟩
  · exact ⟨l, _, c, rfl, h2, fun _ => ⟨b, o, rfl, h3⟩, fun n hn => by have := h4 n hn; simp [Lit.wf] at this; exact this⟩
theorem logKeeps_law (v0 v1 v2 v3 v4 : Value) (w : World) (o0 : SpotsV w v0) (o1 : DealsV w v1) (o2 : IntsV w v2) (o3 : IntsV w v3) (o4 : IntsV w v4) (hL : (FarAt w ∧ AscAt w ∧ TenAt w) ∧ ErrAt w) :
    Calls Tryz.prog 7 #[v0, v1, v2, v3, v4] w fun e w' => e = .returned (.bool true) ∧ Below w.heap.size w w' := by
  obtain ⟨⟨hF, hA, hT⟩, hE⟩ := hL
  obtain ⟨L0, ⟨a0, c0, rfl, h0⟩, m0⟩ := o0.sl
  obtain ⟨ds, a1, c1, rfl, h1, m1⟩ := o1
  obtain ⟨ys, a2, c2, rfl, m2, h2, -⟩ := o2.sl6
  obtain ⟨fs, a3, c3, rfl, m3, h3, b3⟩ := o3.sl6
  obtain ⟨ks, a4, c4, rfl, m4, h4, b4⟩ := o4.sl6
  exact lk_core L0 ds ys fs ks a0 a1 a2 a3 a4 c0 c1 c2 c3 c4 w hF hA hT hE _ _ (Lib.hid rfl) (Lib.hid rfl) m0 m1 m2 m3 m4 h0 h1 h2 h3 h4 b3 b4
end Go.Proofs.YtahgaccdeakmcaaGreatDoor
namespace Go.Proofs.YtahgaccdeakmcaaGreatDoor
open Go.ChangeShapes Go.WideShapes Go.ChangeAt Go.WideMaps Go.WideElems Go.RowKit
set_option maxRecDepth 100000
abbrev farLaid : List (String × DataW Unit) := [("pairstone/curve.Far", Rows.laid_pairstone_curve_Far)]
theorem gFar : Tryz.prog.globalNamed "pairstone/curve.Far" = some 0 := by kernel_rfl
theorem tFar : (Tryz.prog.globals[0]?).map (·.type) = some 28 := by kernel_rfl
/-- The door's own heap meets the condition. -/
theorem farLaid_met (os : Os) (args : Array Value) : laidMetH Tryz.prog farLaid ((World.doorLaid Tryz.prog 400 os).forCall (fun _ _ => 0) ⟨#[], args, []⟩).memory :=
  laidMetH_of_parts3 (fuel := 8) (laidMet_of_run' 8 (by kernel_rfl) (by kernel_rfl)) (by kernel_rfl) (by kernel_rfl)
theorem lt_of_cell {w : World} {b o : Nat} {v : Value} (h : w.cell? ⟨b, o, none⟩ = some v) : b < w.heap.size := by
  rcases Nat.lt_or_ge b w.heap.size with h1 | h1
  · exact h1
  · simp [World.cell?, Array.getElem?_eq_none h1] at h
theorem farLaid_at {W : World} (h : laidMetH Tryz.prog farLaid W) : FarAt W := by
  rw [MakeChecks.laidMetH_plain _ _ _ (by kernel_rfl)] at h
  obtain ⟨ps, ⟨g0, t0, cs0, f0, p0, q0, hg0, ht0, hv0, hd0, _, _⟩, _, _⟩ := h
  obtain rfl := Option.some.inj (gFar.symm.trans hg0)
  obtain rfl := Option.some.inj (tFar.symm.trans ht0)
  obtain ⟨y0, y1, y2, n, hx, hlen, h0, h1, h2⟩ := Deep.trod_struct3 Tryz.underlying28 hd0
  simp only [Rows.laid_pairstone_curve_Far, Prod.mk.injEq, DataW.agg.injEq, List.cons.injEq, and_true] at hx
  obtain ⟨⟨e0, e1, e2⟩, _⟩ := hx
  obtain ⟨a, c0, rfl, _⟩ := DataW.trod_int Tryz.underlying3 h0
  obtain ⟨b, c1, rfl, _⟩ := DataW.trod_int Tryz.underlying3 h1
  obtain ⟨f, c2, rfl⟩ := DataW.trod_bool Tryz.underlying4 h2
  have k3 : Tryz.prog.cellsOf 28 = 3 := by kernel_rfl
  have ki : Tryz.prog.cellsOf 3 = 1 := by kernel_rfl
  have kb : Tryz.prog.cellsOf 4 = 1 := by kernel_rfl
  obtain ⟨l⟩ := cs0
  have h3 : l.length = 3 := by simpa using hlen.trans k3
  match l, h3 with
  | [x, y, z], _ =>
    simp [ki, kb] at c0 c1 c2
    subst c0 c1 c2
    have v0 := World.var?_cell hg0 hv0 0
    have v1 := World.var?_cell hg0 hv0 1
    have v2 := World.var?_cell hg0 hv0 2
    simp at e0 e1 e2 v0 v1 v2
    subst e0 e1 e2
    exact ⟨v0, v1, v2, lt_of_cell v0⟩
end Go.Proofs.YtahgaccdeakmcaaGreatDoor
namespace Go.Proofs.YtahgaccdeakmcaaGreatDoor
open Go.ChangeShapes Go.WideShapes Go.ChangeAt Go.WideMaps Go.WideElems Go.RowKit
set_option maxRecDepth 100000
theorem gErr : Tryz.prog.globalNamed "errors.errorType" = some 2 := by kernel_rfl
theorem cutR : (Tryz.prog.cutTypes.find? (·.1 == "internal/reflectlite.rtype")).map (·.2) = some 204 := by kernel_rfl
theorem rowError : ((List.range Tryz.prog.types.size).filter fun t => Tryz.prog.rowNamed t [101, 114, 114, 111, 114]) = [30] := by kernel_rfl
/-- What the condition on the variable says of its cell. -/
theorem err_of_handles {l : List (String × DataW Unit)} {W : World} (h : handlesMet Tryz.prog l W) (hm : ("errors.errorType", Rows.laid_errors_errorType) ∈ l) : ErrAt W := by
  obtain ⟨name, u, ty, e1, e2, e3, e4, e5⟩ := h _ hm
  have en : name = [101, 114, 114, 111, 114] := (Option.some.inj e1).symm
  subst en
  obtain rfl := Option.some.inj (cutR.symm.trans e2)
  have hm : ty ∈ (List.range Tryz.prog.types.size).filter fun t => Tryz.prog.rowNamed t [101, 114, 114, 111, 114] := List.mem_filter.2 ⟨List.mem_range.2 e3, e4⟩
  rw [rowError] at hm
  obtain rfl := List.mem_singleton.1 hm
  have hh : typeHandle Tryz.prog 30 = .pointer (some ⟨13, 30, none⟩) := by kernel_rfl
  rw [hh] at e5
  have v := World.var?_cell gErr e5 0
  simp at v
  exact ⟨v, lt_of_cell v⟩
abbrev errLaid : List (String × DataW Unit) := [("errors.errorType", Rows.laid_errors_errorType)]
abbrev farErrLaid : List (String × DataW Unit) := [("pairstone/curve.Far", Rows.laid_pairstone_curve_Far), ("errors.errorType", Rows.laid_errors_errorType)]
theorem errLaid_met (os : Os) (args : Array Value) : laidMetH Tryz.prog errLaid ((World.doorLaid Tryz.prog 400 os).forCall (fun _ _ => 0) ⟨#[], args, []⟩).memory :=
  laidMetH_of_parts ⟨[], rfl, List.nodup_nil, fun _ _ h => by cases h⟩ (by kernel_rfl)
theorem farErrLaid_met (os : Os) (args : Array Value) : laidMetH Tryz.prog farErrLaid ((World.doorLaid Tryz.prog 400 os).forCall (fun _ _ => 0) ⟨#[], args, []⟩).memory :=
  laidMetH_of_parts (laidMet_of_run' 8 (by kernel_rfl) (by kernel_rfl)) (by kernel_rfl)
theorem errLaid_at {W : World} (h : laidMetH Tryz.prog errLaid W) : ErrAt W := by
  have h' : laidMet Tryz.prog [] W ∧ handlesMet Tryz.prog errLaid W := h
  exact err_of_handles h'.2 (by simp)
theorem farErrLaid_at {W : World} (h : laidMetH Tryz.prog farErrLaid W) : FarAt W ∧ ErrAt W := by
  have h' : laidMet Tryz.prog farLaid W ∧ handlesMet Tryz.prog errLaid W := h
  exact ⟨farLaid_at (by rw [MakeChecks.laidMetH_plain _ _ _ (by kernel_rfl)]; exact h'.1), err_of_handles h'.2 (by simp)⟩
end Go.Proofs.YtahgaccdeakmcaaGreatDoor
namespace Go.Proofs.YtahgaccdeakmcaaGreatDoor
open Go.ChangeShapes Go.WideShapes Go.ChangeAt Go.WideMaps Go.WideElems Go.RowKit
set_option maxRecDepth 100000
theorem laidMet_head {x : String × DataW Unit} {r : List (String × DataW Unit)} {w : World} (h : laidMet Tryz.prog (x :: r) w) : laidMet Tryz.prog [x] w := by
  obtain ⟨ps, hv, hnd, hrows⟩ := h
  obtain ⟨n, d⟩ := x
  obtain ⟨g, t, cs, fuel, p, q, h1, h2, h3, h4, hq, rfl⟩ := hv
  refine ⟨_, ⟨g, t, cs, fuel, p, [], h1, h2, h3, h4, rfl, rfl⟩, ?_, fun b off hm => hrows b off ?_⟩
  · rw [List.append_nil]; exact List.Nodup.sublist (List.sublist_append_left _ _) hnd
  · rw [List.append_nil] at hm; exact List.mem_append_left _ hm
theorem ten_of_head {r : List (String × DataW Unit)} {W : World} (h : laidMet Tryz.prog (("internal/strconv.uint64pow10", Rows.laid_internal_strconv_uint64pow10) :: r) W) : TenAt W := by
  have e : (Rows.laid_internal_strconv_uint64pow10 : DataW Unit) = Lib.tabData .u64 Lib.pow10Tab := by kernel_rfl
  rw [e] at h
  exact Lib.tabIs_of_head (g := 7) (t := 250) (e := 230) (n := 20) (by kernel_rfl) (by kernel_rfl) (by kernel_rfl) (by kernel_rfl) (by kernel_rfl) (by kernel_rfl) h
theorem asc_of_head {r : List (String × DataW Unit)} {W : World} (h : laidMet Tryz.prog (("strings.asciiSpace", Rows.laid_strings_asciiSpace) :: r) W) : AscAt W := by
  have e : (Rows.laid_strings_asciiSpace : DataW Unit) = Lib.tabData .u8 Lib.asciiSpaceTab := by kernel_rfl
  rw [e] at h
  exact Lib.tabIs_of_head (g := 4) (t := 218) (e := 5) (n := 256) (by kernel_rfl) (by kernel_rfl) (by kernel_rfl) (by kernel_rfl) (by kernel_rfl) (by kernel_rfl) h
theorem far_of_head {r : List (String × DataW Unit)} {W : World} (h : laidMet Tryz.prog (("pairstone/curve.Far", Rows.laid_pairstone_curve_Far) :: r) W) : FarAt W :=
  farLaid_at (by rw [MakeChecks.laidMetH_plain _ _ _ (by kernel_rfl)]; exact laidMet_head h)
abbrev topLaid : List (String × DataW Unit) := [("math/bits.deBruijn32tab", Rows.laid_math_bits_deBruijn32tab), ("math/bits.deBruijn64tab", Rows.laid_math_bits_deBruijn64tab), ("internal/strconv.uint64pow10", Rows.laid_internal_strconv_uint64pow10), ("pairstone/curve.Far", Rows.laid_pairstone_curve_Far), ("strconv.ErrRange", Rows.laid_strconv_ErrRange), ("strconv.ErrSyntax", Rows.laid_strconv_ErrSyntax), ("unicode.White_Space", Rows.laid_unicode_White_Space), ("strings.asciiSpace", Rows.laid_strings_asciiSpace)]
abbrev logLaid : List (String × DataW Unit) := [("math/bits.deBruijn32tab", Rows.laid_math_bits_deBruijn32tab), ("math/bits.deBruijn64tab", Rows.laid_math_bits_deBruijn64tab), ("internal/strconv.uint64pow10", Rows.laid_internal_strconv_uint64pow10), ("pairstone/curve.Far", Rows.laid_pairstone_curve_Far), ("errors.errorType", Rows.laid_errors_errorType), ("strconv.ErrRange", Rows.laid_strconv_ErrRange), ("strconv.ErrSyntax", Rows.laid_strconv_ErrSyntax), ("unicode.White_Space", Rows.laid_unicode_White_Space), ("strings.asciiSpace", Rows.laid_strings_asciiSpace)]
theorem topLaid_met (os : Os) (args : Array Value) : laidMetH Tryz.prog topLaid ((World.doorLaid Tryz.prog 400 os).forCall (fun _ _ => 0) ⟨#[], args, []⟩).memory :=
  laidMetH_of_parts (laidMet_of_run' 8 (by kernel_rfl) (by kernel_rfl)) (by kernel_rfl)
theorem logLaid_met (os : Os) (args : Array Value) : laidMetH Tryz.prog logLaid ((World.doorLaid Tryz.prog 400 os).forCall (fun _ _ => 0) ⟨#[], args, []⟩).memory :=
  laidMetH_of_parts (laidMet_of_run' 8 (by kernel_rfl) (by kernel_rfl)) (by kernel_rfl)
theorem top_at {W : World} (h : laidMet Tryz.prog topLaid W) : FarAt W ∧ AscAt W ∧ TenAt W :=
  ⟨far_of_head h.tail.tail.tail, asc_of_head h.tail.tail.tail.tail.tail.tail.tail, ten_of_head h.tail.tail⟩
theorem topLaid_at {W : World} (h : laidMetH Tryz.prog topLaid W) : FarAt W ∧ AscAt W ∧ TenAt W :=
  top_at (by rw [MakeChecks.laidMetH_plain _ _ _ (by kernel_rfl)] at h; exact h)
theorem logLaid_at {W : World} (h : laidMetH Tryz.prog logLaid W) : (FarAt W ∧ AscAt W ∧ TenAt W) ∧ ErrAt W := by
  have h' : laidMet Tryz.prog topLaid W ∧ handlesMet Tryz.prog errLaid W := h
  exact ⟨top_at h'.1, err_of_handles h'.2 (by simp)⟩
end Go.Proofs.YtahgaccdeakmcaaGreatDoor
namespace Go.Proofs.YtahgaccdeakmcaaGreatDoor
open Go.RowKit
set_option maxRecDepth 100000
theorem headL : ∃ l : List Char, Tryz.prog.initOrder = String.ofList l ∧ ((behindMainWord (wordsSigns l)).head? = some "cut".toList ∧
    (match wordsSigns l with
      | h :: s :: _ => if !isSumSigns s then none else if h == "harness".toList then some (true, s) else if h == "ownmain".toList then some (false, s) else none
      | _ => none) = some (true, "cf87a92c0bda03de77ea464f474e355050c3702182b83bf7df8e796472efe6ca".toList)) := by
  refine ⟨?l, ?h1, ?h2, ?h3⟩
  case h1 =>
    unfold Tryz.prog
    first | rfl | (dsimp only; rfl)
  case h2 => kernel_rfl
  case h3 => kernel_rfl
theorem headCut : ∃ r, behindMainWord (wordsSigns Tryz.prog.initOrder.toList) = "cut".toList :: r := by
  obtain ⟨l, h, hw, -⟩ := headL
  rw [h, String.toList_ofList]
  cases e : behindMainWord (wordsSigns l) with
  | nil => rw [e] at hw; cases hw
  | cons c r => rw [e] at hw; exact ⟨r, by rw [Option.some.inj hw]⟩
theorem mainIsK : Tryz.prog.mainIs = some (true, "cf87a92c0bda03de77ea464f474e355050c3702182b83bf7df8e796472efe6ca".toList) := by
  obtain ⟨l, h, -, hm⟩ := headL
  unfold Program.mainIs; rw [h, String.toList_ofList]; exact hm
theorem mayEnterK : Tryz.prog.mayEnter = true := by
  obtain ⟨r, h⟩ := headCut
  unfold Program.mayEnter; rw [h]; kernel_rfl
theorem headLiftsK : Tryz.prog.headLifts = [] := by
  obtain ⟨r, h⟩ := headCut
  unfold Program.headLifts; rw [h]; kernel_rfl
theorem liftsFinalK : Tryz.prog.liftsFinal = false := by
  obtain ⟨r, h⟩ := headCut
  unfold Program.liftsFinal; rw [h, headLiftsK]; kernel_rfl
theorem makeK : Tryz.prog.make = some .cut := by
  obtain ⟨r, h⟩ := headCut
  unfold Program.make; rw [h]; kernel_rfl
end Go.Proofs.YtahgaccdeakmcaaGreatDoor
namespace Go.Proofs.YtahgaccdeakmcaaGreatDoor.logKeeps
open Go.ChangeShapes Go.WideShapes Go.ChangeAt Go.RowKit
set_option linter.unusedVariables false
theorem typesOk : ([44, 53, 43, 43, 43].all fun t => Tryz.prog.readableRec t && decide (t < Tryz.prog.types.size)) = true := by kernel_rfl
set_option maxRecDepth 100000 in
theorem lifted (os : Os) (started : os.Started) (H : Type) (enc : TypeId × Value → H) :
    ReturnsInHanded {} Tryz.checked os 7 .any (fun w args => (Rows.logKeepsSpec.pre enc Tryz.prog Tryz.f7 [] false w args ∧ laidMetH Tryz.prog logLaid w) ∧ sizedMet enc Tryz.prog Tryz.f7 (OpenSpec.ofChange Rows.logKeepsSpec) false w args)
      (Rows.logKeepsSpec.post enc Tryz.prog Tryz.f7 false true false false) := by
  refine returnsInHanded_of_change_and (C := Tryz.checked) (X := fun w _ => laidMetH Tryz.prog logLaid w) (fun _ _ _ hh h => h.of_heap hh) Tryz.ownK started (by kernel_rfl) Tryz.func7
    (ChangeSpec.witness_shaped (enc := enc) (C := Tryz.checked) (os := os) (X := fun w _ => laidMetH Tryz.prog logLaid w) false (World.doorLaid Tryz.prog 400 os) #[.slice none 0 0, .slice none 0 0, .slice none 0 0, .slice none 0 0, .slice none 0 0] 8 rfl (World.shaped_of_RefB (by kernel_rfl) (by kernel_rfl)) (by kernel_rfl) (by kernel_rfl) (by kernel_rfl) (logLaid_met os _)) ?_
  intro W base args ds gs before hval0 hW hcnd hsz0 hL hholds
  have hval : ∀ (j : Nat) t v, Tryz.f7.params[j]? = some t → args[j]? = some v → Value.okWide Tryz.prog W .any base t v := hval0
  have hW' := hW
  obtain ⟨p, q, hA0, hV, rfl, hfz, hnd⟩ := hW
  have hA : DataW.TrodAll enc Tryz.prog W 0 (fun _ => true) true Tryz.f7.params.toList args.toList ds p := hA0
  obtain ⟨rfl, rfl⟩ := trodVars_none hV
  simp only [List.append_nil] at hW'
  have hlt : ∀ x ∈ p, x.block < W.heap.size := fun x hx => hW'.lt x hx
  have hsz : (DataW.weightsEach Tryz.prog (Tryz.f7.params.toList ++ Rows.logKeepsSpec.plain.varTypes Tryz.prog) (ds ++ [])).all (· ≤ reachBytes) = true := hsz0
  rw [Tryz.params7] at hA hval hsz
  have hK := hA
  obtain ⟨v0, vs0, d0, ds0, p0, q0, hargs, rfl, rfl, h0, r0⟩ := trodAll_cons hA
  obtain ⟨v1, vs1, d1, ds1, p1, q1, rfl, rfl, rfl, h1, r1⟩ := trodAll_cons r0
  obtain ⟨v2, vs2, d2, ds2, p2, q2, rfl, rfl, rfl, h2, r2⟩ := trodAll_cons r1
  obtain ⟨v3, vs3, d3, ds3, p3, q3, rfl, rfl, rfl, h3, r3⟩ := trodAll_cons r2
  obtain ⟨v4, vs4, d4, ds4, p4, q4, rfl, rfl, rfl, h4, r4⟩ := trodAll_cons r3
  obtain ⟨rfl, rfl, rfl⟩ := trodAll_nil r4
  obtain rfl : args = #[v0, v1, v2, v3, v4] := by cases args; simp_all
  have o0 := open_spots Tryz.underlying44 Tryz.underlying28 (by kernel_rfl) (by kernel_rfl) Tryz.underlying3 Tryz.underlying3 Tryz.underlying4 (hval 0 44 v0 rfl rfl) h0
  have o1 := open_deals Tryz.underlying53 Tryz.underlying46 (by kernel_rfl) rfl rfl rfl (by kernel_rfl) (by kernel_rfl) (by kernel_rfl) Tryz.underlying43 Tryz.underlying3 (by kernel_rfl) Tryz.underlying44 Tryz.underlying28 (by kernel_rfl) Tryz.underlying37 rfl rfl (by kernel_rfl) (by kernel_rfl) Tryz.underlying28 (by kernel_rfl) Tryz.underlying3 Tryz.underlying3 Tryz.underlying4 Tryz.underlying3 (hval 1 53 v1 rfl rfl) h1
  have o2 := open_intl Tryz.underlying43 Tryz.underlying3 (by kernel_rfl) (hval 2 43 v2 rfl rfl) h2
  have o3 := open_intl Tryz.underlying43 Tryz.underlying3 (by kernel_rfl) (hval 3 43 v3 rfl rfl) h3
  have o4 := open_intl Tryz.underlying43 Tryz.underlying3 (by kernel_rfl) (hval 4 43 v4 rfl rfl) h4
  clear hA0 hval0
  refine (logKeeps_law v0 v1 v2 v3 v4 W o0 o1 o2 o3 o4 (logLaid_at hL)).mono fun e W' ⟨he, hg⟩ => ?_
  subst he
  exact ⟨_, rfl, post_of_below (pa := _) (pv := []) hW' (fun _ _ _ => (trodAll_cons_mk (shut_bool Tryz.underlying4 _) trodAll_mk0)) (fun sp hsp => trodAll_stays Tryz.laidOutK hg typesOk hK (fun x hx => ⟨hlt x hx, hsp x (by first | exact hx | (simp at hx) | simpa using hx)⟩)) (fun _ _ => rfl) (by simp) hg (ok_one (by kernel_rfl) rfl (okWide_bool_mk Tryz.underlying4 _))⟩

theorem over : Rows.logKeepsRow.holds Tryz.pinned (OpenSpec.ofChange Rows.logKeepsSpec) :=
  OpenClaim.holds_of_wide 7 Tryz.f7 rfl rfl rfl rfl rfl rfl rfl ⟨rfl, rfl, rfl, rfl, rfl⟩ rfl rfl rfl rfl rfl (by kernel_rfl) Tryz.func7 (by show joinedFacts Tryz.prog _ _ _ _ = true; unfold joinedFacts; rw [mayEnterK, liftsFinalK, makeK]; kernel_rfl)
    (of_decide_eq_true (by kernel_rfl)) (by unfold Func.isWrapper; first | (rw [if_pos (by decide +kernel)]; kernel_rfl) | (rw [if_neg (by decide +kernel)]; exact ⟨rfl, rfl⟩))
    (fun os started H enc _ => lifted os started H enc)
theorem card : Rows.LogKeepsCardSaid :=
  Claim7.holds_tied_plain_at .later [] [.data, .data, .data, .data, .handle, .sentinel, .sentinel, .listed, .data] true (true, "cf87a92c0bda03de77ea464f474e355050c3702182b83bf7df8e796472efe6ca") true
    over (fun _ h => by cases h) (by kernel_rfl) (fun _ h => by cases h) logKeeps_row_tie rfl ⟨rfl, rfl⟩ mainIsK rfl
    (fun f fn hf hfn => by
      obtain rfl : f = 7 := Option.some.inj ((show Tryz.prog.funcNamed "pairstone/stonelaw3.LogKeeps" = some 7 by kernel_rfl).symm.trans hf) |>.symm
      obtain rfl : fn = Tryz.f7 := (Option.some.inj (Tryz.func7.symm.trans hfn)).symm
      exact ⟨by kernel_rfl, fun j t ht => by
        rw [Tryz.params7] at ht
        have hm : t ∈ ([44, 53, 43, 43, 43] : List TypeId) := by simpa using Array.mem_of_getElem? ht
        have hall : (([44, 53, 43, 43, 43] : List TypeId).all fun u => !Tryz.prog.wantsStandIn u) = true := by kernel_rfl
        exact (show Tryz.prog.wantsStandIn t = false by simpa using List.all_eq_true.1 hall t hm)⟩)
    (by kernel_rfl)
#print axioms card
end Go.Proofs.YtahgaccdeakmcaaGreatDoor.logKeeps
