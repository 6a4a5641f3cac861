/- The statement of LogStops: for every input the law returns true, and the arguments read as they did. (its listed variable reads as laid; the card ties it) -/
import Derived.Test.YtahgaccdeakmcaaGreatDoorMLogStops
import Derived.Deep.DeepCutAuto
import Derived.Deep.CutBlock
import Derived.BigQuiet
import Derived.Test.YtahgaccdeakmcaaGreatDoorRows
import Derived.Test.YtahgaccdeakmcaaGreatDoorWv
import Derived.ProofKit
import Derived.LaidMore
import Derived.OpenShut
import Derived.MakeChecks
import Derived.Deep.Strs
import Derived.LaidHandle
import Derived.Stop.LaidErr
import Derived.Test.YtahgaccdeakmcaaGreatDoorFr
import Derived.SizedLaws
import Derived.Test.YtahgaccdeakmcaaGreatDoorTie
import Derived.Test.YtahgaccdeakmcaaGreatDoorCards
import Derived.SevenTiedAt
namespace Go.Proofs.YtahgaccdeakmcaaGreatDoor
open Go.RowKit
set_option maxRecDepth 100000
set_option linter.unusedVariables false
set_option linter.unusedSimpArgs false
attribute [local go_sem ↓] Go.wp_at_zero Go.wp_at_succ
/-- The log, the deal and the seal as they lie. -/
structure LsK (w : World) (B q zB dB : Nat) (P : Sp) (h : LgH) (s : LgS) (wr : World) : Prop where
  v : LgV wr B q [] h s
  d : DlAt wr dB (.slice none 0 0) (.slice none 0 0) P 1
  z : SeAt wr zB P 1
  nd : ¬ inL [] q h dB
  zb : zB < B
  wb : w.heap.size ≤ B
  bl : B ≤ wr.heap.size
  b : Below w.heap.size w wr
theorem LsK.below {w : World} {B q zB dB : Nat} {P : Sp} {h : LgH} {s : LgS} {wr w' : World} (k : LsK w B q zB dB P h s wr) (hb : Below wr.heap.size wr w') : LsK w B q zB dB P h s w' :=
  ⟨k.v.below hb, k.d.below hb, k.z.below hb, k.nd, k.zb, k.wb, Nat.le_trans k.bl hb.size, below_seq k.b hb⟩
theorem SeAt.keep {w w' : World} {b : Nat} {s : Sp} {z : Int} (h : SeAt w b s z) (hs : w.heap.size ≤ w'.heap.size) (hb : w'.heap[b]? = w.heap[b]?) : SeAt w' b s z := by
  have c : ∀ o, w'.cell? ⟨b, o, none⟩ = w.cell? ⟨b, o, none⟩ := fun o => World.cell?_of_block (a := ⟨b, o, none⟩) hb
  have f : ∀ o, w'.frozen? ⟨b, o, none⟩ = w.frozen? ⟨b, o, none⟩ := fun o => World.frozen?_of_block (a := ⟨b, o, none⟩) hb
  exact ⟨(c 0).trans h.c0, (c 1).trans h.c1, (c 2).trans h.c2, (c 3).trans h.c3, (f 0).trans h.f0, (f 1).trans h.f1, (f 2).trans h.f2, (f 3).trans h.f3, Nat.lt_of_lt_of_le h.lt hs⟩
theorem LsK.did {w : World} {B q zB dB : Nat} {P : Sp} {h : LgH} {s s' : LgS} {wr w' : World} (k : LsK w B q zB dB P h s wr) (hd : LgDid wr w' B q [] h s') : ∃ h', LsK w B q zB dB P h' s' w' := by
  have hB := hd.glo k.v k.bl
  obtain ⟨h', v', hin, hbt⟩ := hd
  refine ⟨h', v', k.d.keep hbt.size (hbt.block dB k.d.lt k.nd), k.z.keep hbt.size (hB.block zB k.zb), fun hk => ?_, k.zb, k.wb, Nat.le_trans k.bl hbt.size, k.b.trans (hB.mono k.wb)⟩
  rcases hin dB hk with h1 | h1
  · exact k.nd h1
  · have := k.d.lt; omega
theorem no_ints (w : World) (P : Sp) : IntSl w (.slice none (d0 P).gl.length 0) (d0 P).G := ⟨none, 0, rfl, fun h => absurd h (Nat.lt_irrefl 0)⟩
theorem no_lies {w : World} {p : Nat} {vc vg : Value} : Lies w p vc vg none none [] [] := ⟨fun h => absurd h (Nat.lt_irrefl 0), fun h => absurd h (Nat.lt_irrefl 0)⟩
theorem LgP.dd {s : LgS} {P : Sp} (hP : LgP [] s) (hPP : sq (4 * hJ * 1) = P) : Done (stN [] s.ds) (stG [] s.ds) (d0 P) := d0_done hPP _ _ (stG_len [] s.ds) (hP.all.bound hP.m)
section
variable {w : World} {B q zB dB : Nat} {P : Sp} {h : LgH} {s : LgS} {wr : World} (k : LsK w B q zB dB P h s wr) (hF : FarAt w) (hA : AscAt w) (hT : TenAt w) (hP : LgP [] s) (hPP : sq (4 * hJ * 1) = P)
include k hF hP hPP
theorem LsK.bd : ∀ w1, Below wr.heap.size wr w1 → Calls Tryz.prog 38 #[.pointer (some ⟨h.p, 0, none⟩), dlV (.slice none (d0 P).gl.length 0) (.slice none (d0 P).M.length 0) (d0 P).R ((d0 P).s : Int)] w1 fun e w' => e = .returned .nilIface ∧ Did w1 w' B h.p h.vc h.vg (stN [] (s.ds ++ [d0 P])) (stG [] (s.ds ++ [d0 P])) := fun w1 hb => by
  have := (hP.dd hPP).run B h.p h.vc h.vg none none 0 0 w1 ((hF.below k.b).below hb) (k.v.bk.below hb) (Nat.le_trans k.bl hb.size) (Nat.le_refl _) (by decide) no_lies
  rw [stN_snoc, stG_snoc]
  exact this
include hA hT
theorem LsK.do_y (hs : s.st = false) (h0 : s.lf ≠ 0) : Calls Tryz.prog 18 #[.pointer (some ⟨q, 0, none⟩), dlV (.slice none 0 0) (.slice none 0 0) P 1] wr fun e w' => e = .returned .nilIface ∧ LgDid wr w' B q [] h (s.done (d0 P)) :=
  k.v.do_y hP k.bl (Glo.of hF hA hT k.b k.wb) hs (d0 P) (hP.dd hPP) none none 0 0 (no_ints wr P) (fun b o e => by cases e) (fun h => absurd h (Nat.lt_irrefl 0)) (k.bd hF hP hPP) h0
theorem LsK.do_0 (hs : s.st = false) (h0 : s.lf = 0) : Calls Tryz.prog 18 #[.pointer (some ⟨q, 0, none⟩), dlV (.slice none 0 0) (.slice none 0 0) P 1] wr fun e w' => e = .returned (errV 6) ∧ LgDid wr w' B q [] h (s.halt (d0 P)) :=
  k.v.do_0 hP k.bl (Glo.of hF hA hT k.b k.wb) hs (d0 P) (hP.dd hPP) none none 0 0 (no_ints wr P) (fun b o e => by cases e) (fun h => absurd h (Nat.lt_irrefl 0)) (k.bd hF hP hPP) h0
end
/-- A coin that is not there. -/
theorem LsK.do_1 {w : World} {B q zB dB : Nat} {P : Sp} {h : LgH} {s : LgS} {wr : World} (k : LsK w B q zB dB P h s wr) (hF : FarAt w) (hs : s.st = false) (hN : stN [] s.ds = []) (b : Nat) (hb : wr.heap.size ≤ b) (w2 : World) (hw : Below wr.heap.size wr w2) (hI : IntsAt w2 b 0 [0]) : Calls Tryz.prog 18 #[.pointer (some ⟨q, 0, none⟩), dlV (.slice (some ⟨b, 0, none⟩) 1 1) (.slice none 0 0) P 1] w2 fun e w' => e = .returned (errV 1) ∧ LgDid w2 w' B q [] h s := by
  have k2 := k.below hw
  have hG : stG [] s.ds = [] := by
    have := stG_len [] s.ds
    rw [hN] at this
    exact List.eq_nil_of_length_eq_zero this
  refine k2.v.do_no hs (some ⟨b, 0, none⟩) none 1 0 1 0 P 1 1 (by decide) (fun w1 hb1 => ?_)
  have hv := k2.v.bk.below hb1
  rw [hN, hG] at hv ⊢
  have hF1 : FarAt w1 := (hF.below k2.b).below hb1
  refine (bdo_e h.p (some ⟨b, 0, none⟩) none 1 0 1 0 P 1 1 w1 (Lib.hid fun w3 hb3 => ?_)).mono fun e w' ⟨h1, h2⟩ => ⟨h1.trans (by rw [errVB_ne (by decide)]), did_same hv h2⟩
  exact bex_core [] [] B h.p [0] [] (some ⟨b, 0, none⟩) none 1 0 0 1 .nilIface _ w3 (hF1.below hb3) ⟨_, _, hv.below hb3⟩ (by decide) (by decide) (by decide) (by decide) (fun _ => ⟨b, 0, rfl, (hI.below hb1).below hb3⟩) (fun h => absurd h (Nat.lt_irrefl 0)) (by decide) (by decide) (fun i h1 h2 => absurd h2 (Nat.not_lt_zero _)) (fun _ => ⟨rfl, by decide⟩)
    (Lib.hid fun w4 hb4 => bcheck_no w4 ((hF1.below hb3).below hb4)) (Lib.hid fun _ => rfl) (Lib.hid fun h => absurd h (by decide))
theorem ints1 (w : World) (x : Int) (t : TypeId) : IntsAt (w.alloc (.cells #[.int .i64 x] t)) w.heap.size 0 [x] := ⟨by simp, fun i hi => by
  obtain rfl : i = 0 := by simp at hi; omega
  simp⟩
theorem LgP.done_len {M0 : List Int} {s : LgS} (h : LgP M0 s) (hs : s.st = false) (d : Rec) : (s.done d).bytes.length = s.bytes.length + (recX d).length := by
  rw [h.bytes0 hs]
  show ((recsB (s.ds ++ [d])).flatten ++ []).length = _
  rw [List.append_nil, recsB_snoc, List.length_append]
/-- What holds of the log behind n steps. -/
structure LsS (A n : Nat) (s : LgS) : Prop where
  p : LgP [] s
  N : stN [] s.ds = []
  l : s.ds.length ≤ n
  lo : n ≤ A → s.st = false ∧ s.lf = (A : Int) - n
  hi : A < n → s.st = true
theorem LsS.start (A : Nat) (hA : A ≤ 12) : LsS A 0 { LgS.new with lf := max (-1) (A : Int) } :=
  ⟨(LgP.new (Nat.zero_le _)).nums 0 (max (-1) (A : Int)) false id (Int.le_refl _) (Int.natCast_nonneg _) (by omega) (by omega), rfl, Nat.zero_le _, fun _ => ⟨rfl, by show max (-1) (A : Int) = (A : Int) - (0 : Nat); omega⟩, fun h => absurd h (Nat.not_lt_zero _)⟩
theorem LsS.done {A n : Nat} {s : LgS} {P : Sp} (h : LsS A n s) (hn : n < A) (hA : A ≤ 12) (hPP : sq (4 * hJ * 1) = P) : LsS A (n + 1) (s.done (d0 P)) := by
  obtain ⟨h1, h2⟩ := h.lo (Nat.le_of_lt hn)
  refine ⟨h.p.done h1 (by have := h.l; omega) (h.p.dd hPP), ?_, ?_, fun _ => ⟨rfl, ?_⟩, fun h => by omega⟩
  · show stN [] (s.ds ++ [d0 P]) = []
    rw [stN_snoc, h.N]; rfl
  · show (s.ds ++ [d0 P]).length ≤ n + 1
    rw [List.length_append]; have := h.l; simp; omega
  · show dec1 s.lf = (A : Int) - ((n + 1 : Nat) : Int)
    rw [h2]; unfold dec1; omega
theorem LsS.halt {A n : Nat} {s : LgS} {P : Sp} (h : LsS A n s) (hn : n = A) (hPP : sq (4 * hJ * 1) = P) : LsS A (n + 1) (s.halt (d0 P)) := by
  obtain ⟨h1, h2⟩ := h.lo (by omega)
  exact ⟨h.p.halt h1 (d0_ok (by rw [← hPP]; exact sq_ok _)), h.N, Nat.le_succ_of_le h.l, fun h => by omega, fun _ => rfl⟩
theorem LsS.stay {A n : Nat} {s : LgS} (h : LsS A n s) (hn : A < n) : LsS A (n + 1) s := ⟨h.p, h.N, Nat.le_succ_of_le h.l, fun h => by omega, fun _ => h.hi hn⟩
theorem LsS.sync {A n : Nat} {s : LgS} (h : LsS A n s) (hn : n < A) (hA : A ≤ 12) : LsS A (n + 1) { s with sf := (s.bytes.length : Int), lf := dec1 s.lf, st := false } := by
  obtain ⟨h1, h2⟩ := h.lo (Nat.le_of_lt hn)
  have hl := dec1_bd h.p.l0 h.p.l1
  exact ⟨h.p.nums _ _ false (fun _ => h1) (Int.natCast_nonneg _) (Int.le_refl _) hl.1 hl.2, h.N, Nat.le_succ_of_le h.l, fun _ => ⟨rfl, by show dec1 s.lf = _; rw [h2]; unfold dec1; omega⟩, fun h => by omega⟩
theorem LsS.stop {A n : Nat} {s : LgS} (h : LsS A n s) (hn : n = A) : LsS A (n + 1) { s with lf := dec1 s.lf, st := true } := by
  have hl := dec1_bd h.p.l0 h.p.l1
  exact ⟨h.p.nums s.sf _ true (fun e => by cases e) h.p.s0 h.p.s1 hl.1 hl.2, h.N, Nat.le_succ_of_le h.l, fun h => by omega, fun _ => rfl⟩
set_option maxHeartbeats 16000000 in
theorem ls_core (after many keep : Int) (w : World) (hF : FarAt w) (hA : AscAt w) (hT : TenAt w) (hE : ErrAt w) (k0 : -9223372036854775808 ≤ keep) (k1 : keep ≤ 9223372036854775807) (P : Sp) (c : Int) (hPP : Hid (sq (4 * hJ * 1) = P)) (hc : Hid (bAsk P ⟨0, 0, true⟩ = c)) :
    Calls Tryz.prog 6 #[.int .i64 after, .int .i64 many, .int .i64 keep] w fun e w' => e = .returned (.bool true) ∧ Below w.heap.size w w' := by
  have kC := Lib.hid (bclose_y 0 1 ⟨0, 0, true⟩ P c 1 w hF (by decide) (by decide) (by decide) (by decide) (by rw [← qS_zero]; exact qS_ok _) hPP hc (by rw [Int.mul_zero]; rfl))
  have hF' := Lib.hid hF
  have hA' := Lib.hid hA
  have hT' := Lib.hid hT
  have hE' := Lib.hid hE
  clear hF hA hT hE
  go_enter Tryz.func6, Tryz.ntmps6
  go_wp2_with fail
  refine kC.out.mono ?_; rintro e w1 ⟨rfl, hb1⟩
  have hB1 := Lib.hid hb1
  clear hb1 kC
  go_wp2_with fail
  have hz2 := SeAt.fresh w1 P.x P.y P.far 1 37
  have hB2 := Lib.hid (balloc hB1.out (.cells #[.int .i64 P.x, .int .i64 P.y, .bool P.far, .int .i64 1] 37))
  have hN := lnew_y [] none 0 (w1.alloc (.cells #[.int .i64 P.x, .int .i64 P.y, .bool P.far, .int .i64 1] 37)) (by decide) (hF'.out.below hB2.out) (fun h => absurd h (Nat.lt_irrefl 0))
  have hzl : w1.heap.size < (w1.alloc (.cells #[.int .i64 P.x, .int .i64 P.y, .bool P.far, .int .i64 1] 37)).heap.size := by simp
  generalize w1.alloc (.cells #[.int .i64 P.x, .int .i64 P.y, .bool P.far, .int .i64 1] 37) = w2 at *
  replace hz2 := Lib.hid hz2
  replace hN := Lib.hid hN
  refine hN.out.mono ?_; rintro e w3 ⟨q, h, rfl, hv, hb3⟩
  have hB3 := Lib.hid (below_seq hB2.out hb3)
  have hz3 := Lib.hid (hz2.out.below hb3)
  have hww := hB2.out.size
  have hw3 := hb3.size
  replace hv := Lib.hid hv
  clear hb3 hN hz2
  by_cases a1 : after < 0
  · have e1 : decide (after < 0) = true := decide_eq_true a1
    clear a1
    go_wp2
    go_ret
    exact ⟨rfl, hB3.out⟩
  have e1 : decide (after < 0) = false := decide_eq_false a1
  by_cases a2 : 12 < after
  · have e2 : decide (12 < after) = true := decide_eq_true a2
    clear a1 a2
    go_wp2
    go_ret
    exact ⟨rfl, hB3.out⟩
  have e2 : decide (12 < after) = false := decide_eq_false a2
  by_cases a3 : many < 0
  · have e3 : decide (many < 0) = true := decide_eq_true a3
    clear a1 a2 a3
    go_wp2
    go_ret
    exact ⟨rfl, hB3.out⟩
  have e3 : decide (many < 0) = false := decide_eq_false a3
  by_cases a4 : 12 < many
  · have e4 : decide (12 < many) = true := decide_eq_true a4
    clear a1 a2 a3 a4
    go_wp2
    go_ret
    exact ⟨rfl, hB3.out⟩
  have e4 : decide (12 < many) = false := decide_eq_false a4
  obtain ⟨A, rfl⟩ : ∃ A : Nat, after = (A : Int) := ⟨after.toNat, by omega⟩
  obtain ⟨m, rfl⟩ : ∃ m : Nat, many = (m : Int) := ⟨many.toNat, by omega⟩
  have hA12 : A ≤ 12 := by omega
  have hm12 : m ≤ 12 := by omega
  clear a1 a2 a3 a4
  obtain ⟨zc0, zc1, zc2, zc3, -, -, -, -, -⟩ := hz3.out
  go_wp2_with fail
  clear zc0 zc1 zc2 zc3
  have hK : LsK w w2.heap.size q w1.heap.size w3.heap.size P h LgS.new (w3.alloc (.cells #[.slice none 0 0, .slice none 0 0, .int .i64 P.x, .int .i64 P.y, .bool P.far, .int .i64 1] 46)) :=
    ⟨hv.out.below (below_alloc _ _), ⟨by go_simp, by go_simp, by go_simp, by go_simp, by go_simp, by go_simp, by go_simp, by go_simp, by go_simp, by go_simp, by go_simp, by go_simp, by simp⟩, hz3.out.below (below_alloc _ _), fun hi => by have := (hv.out.blk _ hi).2; omega, hzl, hww, by rw [World.size_alloc]; omega, balloc hB3.out _⟩
  generalize w3.alloc (.cells #[.slice none 0 0, .slice none 0 0, .int .i64 P.x, .int .i64 P.y, .bool P.far, .int .i64 1] 46) = w4 at *
  obtain ⟨zB, hzB⟩ : ∃ zB, w1.heap.size = zB := ⟨_, rfl⟩
  obtain ⟨dB, hdB⟩ : ∃ dB, w3.heap.size = dB := ⟨_, rfl⟩
  obtain ⟨B, hB⟩ : ∃ B, w2.heap.size = B := ⟨_, rfl⟩
  have hKf := hK.v.fail_c (A : Int) (by omega) (by omega)
  rw [hzB, hdB, hB] at hK
  rw [hB] at hKf
  rw [hzB, hdB]
  replace hK := Lib.hid hK
  replace hKf := Lib.hid hKf
  clear hv hz3 hzl hww hw3 hB3 hB2 hB1 hzB hdB hB
  refine hKf.out.mono ?_; rintro e w5 ⟨⟨u, rfl⟩, hd5⟩
  obtain ⟨h5, hK5⟩ := hK.out.did hd5
  replace hK5 := Lib.hid hK5
  clear hd5 hKf hK
  go_wp2_with fail
  have hS0 := Lib.hid (LsS.start A hA12)
  go_loopw [12, 13] (fun v i wr => ∃ (n : Nat) (h : LgH) (s : LgS), n ≤ m ∧ i = .int .i64 n ∧ v = .int .i64 n ∧ LsK w B q zB dB P h s wr ∧ LsS A n s) (fun _ i _ => m - (intOf i).toNat)
  case atStart => exact ⟨0, _, _, Nat.zero_le _, rfl, rfl, hK5.out, hS0.out⟩
  case round =>
    clear hK5 hS0
    obtain ⟨n, h, s, hn, rfl, rfl, hk, hs⟩ := hrel
    by_cases hlt : n < m
    · rcases Nat.lt_trichotomy n A with hc1 | hc1 | hc1
      · have g1 : decide ((A : Int) < (n : Int)) = false := by rw [decide_eq_false_iff_not]; omega
        have g2 : decide ((n : Int) ≤ (A : Int)) = true := by rw [decide_eq_true_iff]; omega
        have g3 : ((n : Int) == (A : Int)) = false := by rw [beq_eq_false_iff_ne]; omega
        have g4 : decide ((n : Int) < (A : Int)) = true := by rw [decide_eq_true_iff]; omega
        have hD1 := hk.do_1 hF'.out (hs.lo (by omega)).1 hs.N wr.heap.size (Nat.le_refl _) (wr.alloc (.cells #[.int .i64 0] 3)) (below_alloc _ _) (ints1 wr 0 3)
        rw [errVB_ne (by decide)] at hD1
        have hk0 := Lib.hid (hk.below (below_alloc wr (.cells #[.int .i64 0] 3)))
        obtain ⟨zc0, zc1, zc2, zc3, -, -, -, -, zl⟩ := hk.z
        replace hD1 := Lib.hid hD1
        clear hk
        go_wp2_with fail
        refine hD1.out.mono ?_; rintro e wa ⟨rfl, hda⟩
        obtain ⟨ha, hka⟩ := hk0.out.did hda
        have hD2 := hka.do_y hF'.out hA'.out hT'.out hs.p hPP.out (hs.lo (by omega)).1 (by rw [(hs.lo (by omega)).2]; omega)
        obtain ⟨d0, d1, d2, d3, d4, d5, -, -, -, -, -, -, dl⟩ := hka.d
        replace hD2 := Lib.hid hD2
        replace hka := Lib.hid hka
        clear zc0 zc1 zc2 zc3 zl hda hk0 hD1
        go_wp2_with fail
        refine hD2.out.mono ?_; rintro e wb ⟨rfl, hdb⟩
        obtain ⟨hb, hkb⟩ := hka.out.did hdb
        have hs2 := Lib.hid (hs.done (by omega) hA12 hPP.out)
        replace hkb := Lib.hid hkb
        clear d0 d1 d2 d3 d4 d5 dl hdb hka hD2 hs
        go_wp2_with fail
        refine (error_err 1 6 _ (hE'.out.below hkb.out.b) false (Lib.hid rfl)).mono ?_; rintro e wc0 ⟨rfl, hbc⟩
        have hkc0 := Lib.hid (hkb.out.below hbc)
        clear hbc hkb
        go_wp2_with fail
        refine (error_err 1 1 _ (hE'.out.below hkc0.out.b) true (Lib.hid rfl)).mono ?_; rintro e wc1 ⟨rfl, hbc⟩
        have hkc1 := Lib.hid (hkc0.out.below hbc)
        clear hbc hkc0
        go_wp2_with fail
        refine (error_nil 6 _ false (Lib.hid rfl)).mono ?_; rintro e wc2 ⟨rfl, hbc⟩
        have hkc2 := Lib.hid (hkc1.out.below hbc)
        clear hbc hkc1
        go_wp2
        go_roundw
        case rel => exact ⟨n + 1, hb, s.done (d0 P), by omega, by go_num, by go_num, hkc2.out, hs2.out⟩
        case measure => simp [intOf]; omega
      · have g1 : decide ((A : Int) < (n : Int)) = false := by rw [decide_eq_false_iff_not]; omega
        have g2 : decide ((n : Int) ≤ (A : Int)) = true := by rw [decide_eq_true_iff]; omega
        have g3 : ((n : Int) == (A : Int)) = true := by rw [beq_iff_eq]; omega
        have g4 : decide ((n : Int) < (A : Int)) = false := by rw [decide_eq_false_iff_not]; omega
        have hD1 := hk.do_1 hF'.out (hs.lo (by omega)).1 hs.N wr.heap.size (Nat.le_refl _) (wr.alloc (.cells #[.int .i64 0] 3)) (below_alloc _ _) (ints1 wr 0 3)
        rw [errVB_ne (by decide)] at hD1
        have hk0 := Lib.hid (hk.below (below_alloc wr (.cells #[.int .i64 0] 3)))
        obtain ⟨zc0, zc1, zc2, zc3, -, -, -, -, zl⟩ := hk.z
        replace hD1 := Lib.hid hD1
        clear hk
        go_wp2_with fail
        refine hD1.out.mono ?_; rintro e wa ⟨rfl, hda⟩
        obtain ⟨ha, hka⟩ := hk0.out.did hda
        have hD2 := hka.do_0 hF'.out hA'.out hT'.out hs.p hPP.out (hs.lo (by omega)).1 (by rw [(hs.lo (by omega)).2]; omega)
        rw [errVB_ne (by decide)] at hD2
        obtain ⟨d0, d1, d2, d3, d4, d5, -, -, -, -, -, -, dl⟩ := hka.d
        replace hD2 := Lib.hid hD2
        replace hka := Lib.hid hka
        clear zc0 zc1 zc2 zc3 zl hda hk0 hD1
        go_wp2_with fail
        refine hD2.out.mono ?_; rintro e wb ⟨rfl, hdb⟩
        obtain ⟨hb, hkb⟩ := hka.out.did hdb
        have hs2 := Lib.hid (hs.halt (by omega) hPP.out)
        replace hkb := Lib.hid hkb
        clear d0 d1 d2 d3 d4 d5 dl hdb hka hD2 hs
        go_wp2_with fail
        refine (error_err 1 6 _ (hE'.out.below hkb.out.b) false (Lib.hid rfl)).mono ?_; rintro e wc0 ⟨rfl, hbc⟩
        have hkc0 := Lib.hid (hkb.out.below hbc)
        clear hbc hkb
        go_wp2_with fail
        refine (error_err 1 1 _ (hE'.out.below hkc0.out.b) true (Lib.hid rfl)).mono ?_; rintro e wc1 ⟨rfl, hbc⟩
        have hkc1 := Lib.hid (hkc0.out.below hbc)
        clear hbc hkc0
        go_wp2_with fail
        refine (error_err 6 6 _ (hE'.out.below hkc1.out.b) true (Lib.hid rfl)).mono ?_; rintro e wc2 ⟨rfl, hbc⟩
        have hkc2 := Lib.hid (hkc1.out.below hbc)
        clear hbc hkc1
        go_wp2
        go_roundw
        case rel => exact ⟨n + 1, hb, s.halt (d0 P), by omega, by go_num, by go_num, hkc2.out, hs2.out⟩
        case measure => simp [intOf]; omega
      · have g1 : decide ((A : Int) < (n : Int)) = true := by rw [decide_eq_true_iff]; omega
        have g2 : decide ((n : Int) ≤ (A : Int)) = false := by rw [decide_eq_false_iff_not]; omega
        have g3 : ((n : Int) == (A : Int)) = false := by rw [beq_eq_false_iff_ne]; omega
        have g4 : decide ((n : Int) < (A : Int)) = false := by rw [decide_eq_false_iff_not]; omega
        have hD1 := (hk.below (below_alloc wr (.cells #[.int .i64 0] 3))).v.do_st (hs.hi (by omega)) (some ⟨wr.heap.size, 0, none⟩) none 1 0 1 0 P 1
        rw [errVB_ne (by decide)] at hD1
        have hk0 := Lib.hid (hk.below (below_alloc wr (.cells #[.int .i64 0] 3)))
        obtain ⟨zc0, zc1, zc2, zc3, -, -, -, -, zl⟩ := hk.z
        replace hD1 := Lib.hid hD1
        clear hk
        go_wp2_with fail
        refine hD1.out.mono ?_; rintro e wa ⟨rfl, hda⟩
        obtain ⟨ha, hka⟩ : ∃ ha, LsK w B q zB dB P ha s wa := ⟨h, hk0.out.below hda⟩
        have hD2 := hka.v.do_st (hs.hi (by omega)) none none 0 0 0 0 P 1
        rw [errVB_ne (by decide)] at hD2
        obtain ⟨d0, d1, d2, d3, d4, d5, -, -, -, -, -, -, dl⟩ := hka.d
        replace hD2 := Lib.hid hD2
        replace hka := Lib.hid hka
        clear zc0 zc1 zc2 zc3 zl hda hk0 hD1
        go_wp2_with fail
        refine hD2.out.mono ?_; rintro e wb ⟨rfl, hdb⟩
        obtain ⟨hb, hkb⟩ : ∃ hb, LsK w B q zB dB P hb s wb := ⟨ha, hka.out.below hdb⟩
        have hs2 := Lib.hid (hs.stay (by omega))
        replace hkb := Lib.hid hkb
        clear d0 d1 d2 d3 d4 d5 dl hdb hka hD2 hs
        go_wp2_with fail
        refine (error_err 6 6 _ (hE'.out.below hkb.out.b) true (Lib.hid rfl)).mono ?_; rintro e wc0 ⟨rfl, hbc⟩
        have hkc0 := Lib.hid (hkb.out.below hbc)
        clear hbc hkb
        go_wp2_with fail
        refine (error_err 6 1 _ (hE'.out.below hkc0.out.b) false (Lib.hid rfl)).mono ?_; rintro e wc1 ⟨rfl, hbc⟩
        have hkc1 := Lib.hid (hkc0.out.below hbc)
        clear hbc hkc0
        go_wp2_with fail
        refine (error_err 6 6 _ (hE'.out.below hkc1.out.b) true (Lib.hid rfl)).mono ?_; rintro e wc2 ⟨rfl, hbc⟩
        have hkc2 := Lib.hid (hkc1.out.below hbc)
        clear hbc hkc1
        go_wp2
        go_roundw
        case rel => exact ⟨n + 1, hb, s, by omega, by go_num, by go_num, hkc2.out, hs2.out⟩
        case measure => simp [intOf]; omega
    · obtain rfl : n = m := by omega
      clear hlt hn e3 e4
      have hk' := Lib.hid hk
      have hs' := Lib.hid hs
      clear hk hs
      go_wp2
      go_loopw [12] (fun v wr => ∃ (k : Nat) (h : LgH) (s : LgS), v = .int .i64 k ∧ LsK w B q zB dB P h s wr ∧ LsS A k s ∧ k ≤ 13) (fun v _ => A + 1 - (intOf v).toNat)
      case atStart => exact ⟨n, _, _, rfl, hk'.out, hs'.out, by omega⟩
      case round =>
        clear hk' hs' h s
        obtain ⟨k, h, s, rfl, hk, hs, hk13⟩ := hrel
        rcases Nat.lt_trichotomy k A with hc1 | hc1 | hc1
        · have g3 : ((k : Int) == (A : Int)) = false := by rw [beq_eq_false_iff_ne]; omega
          have hD := hk.v.sync_1 hs.p (hs.lo (by omega)).1 (by rw [(hs.lo (by omega)).2]; omega)
          have hs2 := Lib.hid (hs.sync (by omega) hA12)
          have hk' := Lib.hid hk
          replace hD := Lib.hid hD
          clear hk hs
          go_wp2_with fail
          refine hD.out.mono ?_; rintro e wb ⟨rfl, hdb⟩
          obtain ⟨hb, hkb⟩ := hk'.out.did hdb
          replace hkb := Lib.hid hkb
          clear hdb hk' hD
          go_wp2
          go_roundw
          case rel => exact ⟨k + 1, hb, { s with sf := (s.bytes.length : Int), lf := dec1 s.lf, st := false }, by go_num, hkb.out, hs2.out, by omega⟩
          case measure => simp [intOf]; omega
        · have g3 : ((k : Int) == (A : Int)) = true := by rw [beq_iff_eq]; omega
          have hD := hk.v.sync_0 hs.p (hs.lo (by omega)).1 (by rw [(hs.lo (by omega)).2]; omega)
          rw [errVB_ne (by decide)] at hD
          have hs2 := Lib.hid (hs.stop (by omega))
          have hk' := Lib.hid hk
          replace hD := Lib.hid hD
          clear hk hs
          go_wp2_with fail
          refine hD.out.mono ?_; rintro e wb ⟨rfl, hdb⟩
          obtain ⟨hb, hkb⟩ := hk'.out.did hdb
          replace hkb := Lib.hid hkb
          clear hdb hk' hD
          go_wp2
          go_roundw
          case rel => exact ⟨k + 1, hb, { s with lf := dec1 s.lf, st := true }, by go_num, hkb.out, hs2.out, by omega⟩
          case measure => simp [intOf]; omega
        · have hst := hs.hi hc1
          have hD1 := hk.v.sync_st hst
          rw [errVB_ne (by decide)] at hD1
          have hk' := Lib.hid hk
          have hpp := Lib.hid hs.p
          have hdl := Lib.hid (show s.ds.length ≤ 13 from Nat.le_trans hs.l hk13)
          replace hD1 := Lib.hid hD1
          replace hst := Lib.hid hst
          clear hk hs
          go_wp2_with fail
          refine hD1.out.mono ?_; rintro e wa ⟨rfl, hda⟩
          obtain ⟨ha, hka⟩ := hk'.out.did hda
          have hD2 := hka.v.do_st hst.out none none 0 0 0 0 P 1
          rw [errVB_ne (by decide)] at hD2
          obtain ⟨d0, d1, d2, d3, d4, d5, -, -, -, -, -, -, dl⟩ := hka.d
          replace hD2 := Lib.hid hD2
          replace hka := Lib.hid hka
          clear hda hk' hD1
          go_wp2_with fail
          refine hD2.out.mono ?_; rintro e wb ⟨rfl, hbb⟩
          have hkb := Lib.hid (hka.out.below hbb)
          clear d0 d1 d2 d3 d4 d5 dl hbb hka hD2
          go_wp2_with fail
          refine (error_err 6 6 _ (hE'.out.below hkb.out.b) true (Lib.hid rfl)).mono ?_; rintro e wc ⟨rfl, hbc⟩
          have hkc := Lib.hid (hkb.out.below hbc)
          clear hbc hkb
          go_wp2_with fail
          refine (error_err 6 6 _ (hE'.out.below hkc.out.b) true (Lib.hid rfl)).mono ?_; rintro e wd ⟨rfl, hbd⟩
          have hkd := Lib.hid (hkc.out.below hbd)
          clear hbd hkc
          have hD3 := Lib.hid (hkd.out.v.crash_c hpp.out hkd.out.bl (Glo.of hF'.out hA'.out hT'.out hkd.out.b hkd.out.wb) keep k0 k1)
          have hp2 := hpp.out.crash keep
          obtain ⟨s2, hs2⟩ : ∃ s2, s.crash keep = s2 := ⟨_, rfl⟩
          have hst2 : s2.st = false := by rw [← hs2]; rfl
          have hlf2 : s2.lf = -1 := by rw [← hs2]; rfl
          rw [hs2] at hD3 hp2
          replace hp2 := Lib.hid hp2
          replace hs2 := Lib.hid hs2
          replace hst2 := Lib.hid hst2
          replace hlf2 := Lib.hid hlf2
          go_wp2_with fail
          refine hD3.out.mono ?_; rintro e we ⟨⟨u, rfl⟩, hde⟩
          obtain ⟨he, hke⟩ := hkd.out.did hde
          replace hke := Lib.hid hke
          clear hde hkd hD3
          obtain ⟨b2, hb2⟩ : ∃ b2, s2.bytes.length = b2 := ⟨_, rfl⟩
          have hb2s := Lib.hid (show b2 ≤ 20000 * 501 by rw [← hb2]; exact hp2.out.len)
          have hby := hke.out.v.bytes_c
          rw [hb2] at hby
          replace hby := Lib.hid hby
          go_wp2_with fail
          refine hby.out.mono ?_; rintro e w' ⟨rfl, rfl⟩
          have hD4 := Lib.hid (hke.out.do_y hF'.out hA'.out hT'.out hp2.out hPP.out hst2.out (by rw [hlf2.out]; decide))
          obtain ⟨x0, x1, x2, x3, x4, x5, -, -, -, -, -, -, xl⟩ := hke.out.d
          clear hby
          go_wp2_with fail
          refine hD4.out.mono ?_; rintro e wf ⟨rfl, hdf⟩
          obtain ⟨hf, hkf⟩ := hke.out.did hdf
          have hp3 := hp2.out.done hst2.out (by rw [← hs2.out]; show (s.ds.take _).length < 500; rw [List.length_take]; have := hdl.out; omega) (hp2.out.dd hPP.out)
          have hlen3 := hp2.out.done_len hst2.out (d0 P)
          rw [hb2] at hlen3
          have hr2 := (d0_ok (P := P) (by rw [← hPP.out]; exact sq_ok _)).len.1
          obtain ⟨b4, hb4⟩ : ∃ b4, (s2.done (d0 P)).bytes.length = b4 := ⟨_, rfl⟩
          have hge : b2 + 2 ≤ b4 := by omega
          have hD5 := hkf.v.sync_1 hp3 rfl (by show dec1 s2.lf ≠ 0; rw [hlf2.out]; decide)
          replace hD5 := Lib.hid hD5
          replace hkf := Lib.hid hkf
          clear x0 x1 x2 x3 x4 x5 xl hdf hke hD4 hp3 hlen3 hr2
          go_wp2_with fail
          refine hD5.out.mono ?_; rintro e wg ⟨rfl, hdg⟩
          obtain ⟨hg, hkg⟩ := hkf.out.did hdg
          obtain ⟨s4, hs4⟩ : ∃ s4, s4 = { s2.done (d0 P) with sf := ((s2.done (d0 P)).bytes.length : Int), lf := dec1 (s2.done (d0 P)).lf, st := false } := ⟨_, rfl⟩
          rw [← hs4] at hkg
          have hB6 := hkg.v.bytes_c
          have hS6 := hkg.v.safe_c
          have e6 : s4.bytes.length = b4 := by rw [hs4]; exact hb4
          have e7 : s4.sf = (b4 : Int) := by rw [hs4, ← hb4]
          rw [e6] at hB6
          rw [e7] at hS6
          have hfin := Lib.hid hkg.b
          have g6 : decide ((b2 : Int) + 2 ≤ (b4 : Int)) = true := by rw [decide_eq_true_iff]; omega
          have w6 : IntKind.i64.wrap ((b2 : Int) + 2) = (b2 : Int) + 2 := by rw [IntKind.wrap_i64]; have := hb2s.out; omega
          replace hB6 := Lib.hid hB6
          replace hS6 := Lib.hid hS6
          clear hdg hkf hD5 hkg hs4 hb4 hge e6 e7 hb2
          go_wp2_with (first | (go_at_call 22; refine hB6.out.mono ?_; rintro e w' ⟨rfl, rfl⟩) | (go_at_call 23; refine hS6.out.mono ?_; rintro e w' ⟨rfl, rfl⟩) | fail)
          go_ret
          exact ⟨rfl, hfin.out⟩
theorem logStops_law (after : Int) (h0 : (Lit.int .i64 after).wf = true) (many : Int) (h1 : (Lit.int .i64 many).wf = true) (keep : Int) (h2 : (Lit.int .i64 keep).wf = true) (w : World) (hL : (FarAt w ∧ AscAt w ∧ TenAt w) ∧ ErrAt w) :
    Calls Tryz.prog 6 #[.int .i64 after, .int .i64 many, .int .i64 keep] w fun e w' => e = .returned (.bool true) ∧ Below w.heap.size w w' := by
  obtain ⟨⟨hF, hA, hT⟩, hE⟩ := hL
  have hk : -9223372036854775808 ≤ keep ∧ keep ≤ 9223372036854775807 := by simp [Lit.wf] at h2; exact h2
  exact ls_core after many keep w hF hA hT hE hk.1 hk.2 _ _ (Lib.hid rfl) (Lib.hid rfl)
end Go.Proofs.YtahgaccdeakmcaaGreatDoor
namespace Go.Proofs.YtahgaccdeakmcaaGreatDoor
open Go.ChangeShapes Go.WideShapes Go.ChangeAt Go.WideMaps Go.WideElems Go.RowKit
set_option maxRecDepth 100000
abbrev farLaid : List (String × DataW Unit) := [("pairstone/curve.Far", Rows.laid_pairstone_curve_Far)]
theorem gFar : Tryz.prog.globalNamed "pairstone/curve.Far" = some 0 := by kernel_rfl
theorem tFar : (Tryz.prog.globals[0]?).map (·.type) = some 28 := by kernel_rfl
/-- The door's own heap meets the condition. -/
theorem farLaid_met (os : Os) (args : Array Value) : laidMetH Tryz.prog farLaid ((World.doorLaid Tryz.prog 400 os).forCall (fun _ _ => 0) ⟨#[], args, []⟩).memory :=
  laidMetH_of_parts3 (fuel := 8) (laidMet_of_run' 8 (by kernel_rfl) (by kernel_rfl)) (by kernel_rfl) (by kernel_rfl)
theorem lt_of_cell {w : World} {b o : Nat} {v : Value} (h : w.cell? ⟨b, o, none⟩ = some v) : b < w.heap.size := by
  rcases Nat.lt_or_ge b w.heap.size with h1 | h1
  · exact h1
  · simp [World.cell?, Array.getElem?_eq_none h1] at h
theorem farLaid_at {W : World} (h : laidMetH Tryz.prog farLaid W) : FarAt W := by
  rw [MakeChecks.laidMetH_plain _ _ _ (by kernel_rfl)] at h
  obtain ⟨ps, ⟨g0, t0, cs0, f0, p0, q0, hg0, ht0, hv0, hd0, _, _⟩, _, _⟩ := h
  obtain rfl := Option.some.inj (gFar.symm.trans hg0)
  obtain rfl := Option.some.inj (tFar.symm.trans ht0)
  obtain ⟨y0, y1, y2, n, hx, hlen, h0, h1, h2⟩ := Deep.trod_struct3 Tryz.underlying28 hd0
  simp only [Rows.laid_pairstone_curve_Far, Prod.mk.injEq, DataW.agg.injEq, List.cons.injEq, and_true] at hx
  obtain ⟨⟨e0, e1, e2⟩, _⟩ := hx
  obtain ⟨a, c0, rfl, _⟩ := DataW.trod_int Tryz.underlying3 h0
  obtain ⟨b, c1, rfl, _⟩ := DataW.trod_int Tryz.underlying3 h1
  obtain ⟨f, c2, rfl⟩ := DataW.trod_bool Tryz.underlying4 h2
  have k3 : Tryz.prog.cellsOf 28 = 3 := by kernel_rfl
  have ki : Tryz.prog.cellsOf 3 = 1 := by kernel_rfl
  have kb : Tryz.prog.cellsOf 4 = 1 := by kernel_rfl
  obtain ⟨l⟩ := cs0
  have h3 : l.length = 3 := by simpa using hlen.trans k3
  match l, h3 with
  | [x, y, z], _ =>
    simp [ki, kb] at c0 c1 c2
    subst c0 c1 c2
    have v0 := World.var?_cell hg0 hv0 0
    have v1 := World.var?_cell hg0 hv0 1
    have v2 := World.var?_cell hg0 hv0 2
    simp at e0 e1 e2 v0 v1 v2
    subst e0 e1 e2
    exact ⟨v0, v1, v2, lt_of_cell v0⟩
end Go.Proofs.YtahgaccdeakmcaaGreatDoor
namespace Go.Proofs.YtahgaccdeakmcaaGreatDoor
open Go.ChangeShapes Go.WideShapes Go.ChangeAt Go.WideMaps Go.WideElems Go.RowKit
set_option maxRecDepth 100000
theorem gErr : Tryz.prog.globalNamed "errors.errorType" = some 2 := by kernel_rfl
theorem cutR : (Tryz.prog.cutTypes.find? (·.1 == "internal/reflectlite.rtype")).map (·.2) = some 204 := by kernel_rfl
theorem rowError : ((List.range Tryz.prog.types.size).filter fun t => Tryz.prog.rowNamed t [101, 114, 114, 111, 114]) = [30] := by kernel_rfl
/-- What the condition on the variable says of its cell. -/
theorem err_of_handles {l : List (String × DataW Unit)} {W : World} (h : handlesMet Tryz.prog l W) (hm : ("errors.errorType", Rows.laid_errors_errorType) ∈ l) : ErrAt W := by
  obtain ⟨name, u, ty, e1, e2, e3, e4, e5⟩ := h _ hm
  have en : name = [101, 114, 114, 111, 114] := (Option.some.inj e1).symm
  subst en
  obtain rfl := Option.some.inj (cutR.symm.trans e2)
  have hm : ty ∈ (List.range Tryz.prog.types.size).filter fun t => Tryz.prog.rowNamed t [101, 114, 114, 111, 114] := List.mem_filter.2 ⟨List.mem_range.2 e3, e4⟩
  rw [rowError] at hm
  obtain rfl := List.mem_singleton.1 hm
  have hh : typeHandle Tryz.prog 30 = .pointer (some ⟨13, 30, none⟩) := by kernel_rfl
  rw [hh] at e5
  have v := World.var?_cell gErr e5 0
  simp at v
  exact ⟨v, lt_of_cell v⟩
abbrev errLaid : List (String × DataW Unit) := [("errors.errorType", Rows.laid_errors_errorType)]
abbrev farErrLaid : List (String × DataW Unit) := [("pairstone/curve.Far", Rows.laid_pairstone_curve_Far), ("errors.errorType", Rows.laid_errors_errorType)]
theorem errLaid_met (os : Os) (args : Array Value) : laidMetH Tryz.prog errLaid ((World.doorLaid Tryz.prog 400 os).forCall (fun _ _ => 0) ⟨#[], args, []⟩).memory :=
  laidMetH_of_parts ⟨[], rfl, List.nodup_nil, fun _ _ h => by cases h⟩ (by kernel_rfl)
theorem farErrLaid_met (os : Os) (args : Array Value) : laidMetH Tryz.prog farErrLaid ((World.doorLaid Tryz.prog 400 os).forCall (fun _ _ => 0) ⟨#[], args, []⟩).memory :=
  laidMetH_of_parts (laidMet_of_run' 8 (by kernel_rfl) (by kernel_rfl)) (by kernel_rfl)
theorem errLaid_at {W : World} (h : laidMetH Tryz.prog errLaid W) : ErrAt W := by
  have h' : laidMet Tryz.prog [] W ∧ handlesMet Tryz.prog errLaid W := h
  exact err_of_handles h'.2 (by simp)
theorem farErrLaid_at {W : World} (h : laidMetH Tryz.prog farErrLaid W) : FarAt W ∧ ErrAt W := by
  have h' : laidMet Tryz.prog farLaid W ∧ handlesMet Tryz.prog errLaid W := h
  exact ⟨farLaid_at (by rw [MakeChecks.laidMetH_plain _ _ _ (by kernel_rfl)]; exact h'.1), err_of_handles h'.2 (by simp)⟩
end Go.Proofs.YtahgaccdeakmcaaGreatDoor
namespace Go.Proofs.YtahgaccdeakmcaaGreatDoor
open Go.ChangeShapes Go.WideShapes Go.ChangeAt Go.WideMaps Go.WideElems Go.RowKit
set_option maxRecDepth 100000
theorem laidMet_head {x : String × DataW Unit} {r : List (String × DataW Unit)} {w : World} (h : laidMet Tryz.prog (x :: r) w) : laidMet Tryz.prog [x] w := by
  obtain ⟨ps, hv, hnd, hrows⟩ := h
  obtain ⟨n, d⟩ := x
  obtain ⟨g, t, cs, fuel, p, q, h1, h2, h3, h4, hq, rfl⟩ := hv
  refine ⟨_, ⟨g, t, cs, fuel, p, [], h1, h2, h3, h4, rfl, rfl⟩, ?_, fun b off hm => hrows b off ?_⟩
  · rw [List.append_nil]; exact List.Nodup.sublist (List.sublist_append_left _ _) hnd
  · rw [List.append_nil] at hm; exact List.mem_append_left _ hm
theorem ten_of_head {r : List (String × DataW Unit)} {W : World} (h : laidMet Tryz.prog (("internal/strconv.uint64pow10", Rows.laid_internal_strconv_uint64pow10) :: r) W) : TenAt W := by
  have e : (Rows.laid_internal_strconv_uint64pow10 : DataW Unit) = Lib.tabData .u64 Lib.pow10Tab := by kernel_rfl
  rw [e] at h
  exact Lib.tabIs_of_head (g := 7) (t := 250) (e := 230) (n := 20) (by kernel_rfl) (by kernel_rfl) (by kernel_rfl) (by kernel_rfl) (by kernel_rfl) (by kernel_rfl) h
theorem asc_of_head {r : List (String × DataW Unit)} {W : World} (h : laidMet Tryz.prog (("strings.asciiSpace", Rows.laid_strings_asciiSpace) :: r) W) : AscAt W := by
  have e : (Rows.laid_strings_asciiSpace : DataW Unit) = Lib.tabData .u8 Lib.asciiSpaceTab := by kernel_rfl
  rw [e] at h
  exact Lib.tabIs_of_head (g := 4) (t := 218) (e := 5) (n := 256) (by kernel_rfl) (by kernel_rfl) (by kernel_rfl) (by kernel_rfl) (by kernel_rfl) (by kernel_rfl) h
theorem far_of_head {r : List (String × DataW Unit)} {W : World} (h : laidMet Tryz.prog (("pairstone/curve.Far", Rows.laid_pairstone_curve_Far) :: r) W) : FarAt W :=
  farLaid_at (by rw [MakeChecks.laidMetH_plain _ _ _ (by kernel_rfl)]; exact laidMet_head h)
abbrev topLaid : List (String × DataW Unit) := [("math/bits.deBruijn32tab", Rows.laid_math_bits_deBruijn32tab), ("math/bits.deBruijn64tab", Rows.laid_math_bits_deBruijn64tab), ("internal/strconv.uint64pow10", Rows.laid_internal_strconv_uint64pow10), ("pairstone/curve.Far", Rows.laid_pairstone_curve_Far), ("strconv.ErrRange", Rows.laid_strconv_ErrRange), ("strconv.ErrSyntax", Rows.laid_strconv_ErrSyntax), ("unicode.White_Space", Rows.laid_unicode_White_Space), ("strings.asciiSpace", Rows.laid_strings_asciiSpace)]
abbrev logLaid : List (String × DataW Unit) := [("math/bits.deBruijn32tab", Rows.laid_math_bits_deBruijn32tab), ("math/bits.deBruijn64tab", Rows.laid_math_bits_deBruijn64tab), ("internal/strconv.uint64pow10", Rows.laid_internal_strconv_uint64pow10), ("pairstone/curve.Far", Rows.laid_pairstone_curve_Far), ("errors.errorType", Rows.laid_errors_errorType), ("strconv.ErrRange", Rows.laid_strconv_ErrRange), ("strconv.ErrSyntax", Rows.laid_strconv_ErrSyntax), ("unicode.White_Space", Rows.laid_unicode_White_Space), ("strings.asciiSpace", Rows.laid_strings_asciiSpace)]
theorem topLaid_met (os : Os) (args : Array Value) : laidMetH Tryz.prog topLaid ((World.doorLaid Tryz.prog 400 os).forCall (fun _ _ => 0) ⟨#[], args, []⟩).memory :=
  laidMetH_of_parts (laidMet_of_run' 8 (by kernel_rfl) (by kernel_rfl)) (by kernel_rfl)
theorem logLaid_met (os : Os) (args : Array Value) : laidMetH Tryz.prog logLaid ((World.doorLaid Tryz.prog 400 os).forCall (fun _ _ => 0) ⟨#[], args, []⟩).memory :=
  laidMetH_of_parts (laidMet_of_run' 8 (by kernel_rfl) (by kernel_rfl)) (by kernel_rfl)
theorem top_at {W : World} (h : laidMet Tryz.prog topLaid W) : FarAt W ∧ AscAt W ∧ TenAt W :=
  ⟨far_of_head h.tail.tail.tail, asc_of_head h.tail.tail.tail.tail.tail.tail.tail, ten_of_head h.tail.tail⟩
theorem topLaid_at {W : World} (h : laidMetH Tryz.prog topLaid W) : FarAt W ∧ AscAt W ∧ TenAt W :=
  top_at (by rw [MakeChecks.laidMetH_plain _ _ _ (by kernel_rfl)] at h; exact h)
theorem logLaid_at {W : World} (h : laidMetH Tryz.prog logLaid W) : (FarAt W ∧ AscAt W ∧ TenAt W) ∧ ErrAt W := by
  have h' : laidMet Tryz.prog topLaid W ∧ handlesMet Tryz.prog errLaid W := h
  exact ⟨top_at h'.1, err_of_handles h'.2 (by simp)⟩
end Go.Proofs.YtahgaccdeakmcaaGreatDoor
namespace Go.Proofs.YtahgaccdeakmcaaGreatDoor
open Go.RowKit
set_option maxRecDepth 100000
theorem headL : ∃ l : List Char, Tryz.prog.initOrder = String.ofList l ∧ ((behindMainWord (wordsSigns l)).head? = some "cut".toList ∧
    (match wordsSigns l with
      | h :: s :: _ => if !isSumSigns s then none else if h == "harness".toList then some (true, s) else if h == "ownmain".toList then some (false, s) else none
      | _ => none) = some (true, "cf87a92c0bda03de77ea464f474e355050c3702182b83bf7df8e796472efe6ca".toList)) := by
  refine ⟨?l, ?h1, ?h2, ?h3⟩
  case h1 =>
    unfold Tryz.prog
    first | rfl | (dsimp only; rfl)
  case h2 => kernel_rfl
  case h3 => kernel_rfl
theorem headCut : ∃ r, behindMainWord (wordsSigns Tryz.prog.initOrder.toList) = "cut".toList :: r := by
  obtain ⟨l, h, hw, -⟩ := headL
  rw [h, String.toList_ofList]
  cases e : behindMainWord (wordsSigns l) with
  | nil => rw [e] at hw; cases hw
  | cons c r => rw [e] at hw; exact ⟨r, by rw [Option.some.inj hw]⟩
theorem mainIsK : Tryz.prog.mainIs = some (true, "cf87a92c0bda03de77ea464f474e355050c3702182b83bf7df8e796472efe6ca".toList) := by
  obtain ⟨l, h, -, hm⟩ := headL
  unfold Program.mainIs; rw [h, String.toList_ofList]; exact hm
theorem mayEnterK : Tryz.prog.mayEnter = true := by
  obtain ⟨r, h⟩ := headCut
  unfold Program.mayEnter; rw [h]; kernel_rfl
theorem headLiftsK : Tryz.prog.headLifts = [] := by
  obtain ⟨r, h⟩ := headCut
  unfold Program.headLifts; rw [h]; kernel_rfl
theorem liftsFinalK : Tryz.prog.liftsFinal = false := by
  obtain ⟨r, h⟩ := headCut
  unfold Program.liftsFinal; rw [h, headLiftsK]; kernel_rfl
theorem makeK : Tryz.prog.make = some .cut := by
  obtain ⟨r, h⟩ := headCut
  unfold Program.make; rw [h]; kernel_rfl
end Go.Proofs.YtahgaccdeakmcaaGreatDoor
namespace Go.Proofs.YtahgaccdeakmcaaGreatDoor.logStops
open Go.ChangeShapes Go.WideShapes Go.ChangeAt Go.RowKit
set_option linter.unusedVariables false
theorem typesOk : ([3, 3, 3].all fun t => Tryz.prog.readableRec t && decide (t < Tryz.prog.types.size)) = true := by kernel_rfl
set_option maxRecDepth 100000 in
theorem lifted (os : Os) (started : os.Started) (H : Type) (enc : TypeId × Value → H) :
    ReturnsInHanded {} Tryz.checked os 6 .any (fun w args => (Rows.logStopsSpec.pre enc Tryz.prog Tryz.f6 [] false w args ∧ laidMetH Tryz.prog logLaid w) ∧ sizedMet enc Tryz.prog Tryz.f6 (OpenSpec.ofChange Rows.logStopsSpec) false w args)
      (Rows.logStopsSpec.post enc Tryz.prog Tryz.f6 false true false false) := by
  refine returnsInHanded_of_change_and (C := Tryz.checked) (X := fun w _ => laidMetH Tryz.prog logLaid w) (fun _ _ _ hh h => h.of_heap hh) Tryz.ownK started (by kernel_rfl) Tryz.func6
    (ChangeSpec.witness_shaped (enc := enc) (C := Tryz.checked) (os := os) (X := fun w _ => laidMetH Tryz.prog logLaid w) false (World.doorLaid Tryz.prog 400 os) #[.int .i64 0, .int .i64 0, .int .i64 0] 8 rfl (World.shaped_of_RefB (by kernel_rfl) (by kernel_rfl)) (by kernel_rfl) (by kernel_rfl) (by kernel_rfl) (logLaid_met os _)) ?_
  intro W base args ds gs before hval0 hW hcnd hsz0 hL hholds
  have hval : ∀ (j : Nat) t v, Tryz.f6.params[j]? = some t → args[j]? = some v → Value.okWide Tryz.prog W .any base t v := hval0
  have hW' := hW
  obtain ⟨p, q, hA0, hV, rfl, hfz, hnd⟩ := hW
  have hA : DataW.TrodAll enc Tryz.prog W 0 (fun _ => true) true Tryz.f6.params.toList args.toList ds p := hA0
  obtain ⟨rfl, rfl⟩ := trodVars_none hV
  simp only [List.append_nil] at hW'
  have hlt : ∀ x ∈ p, x.block < W.heap.size := fun x hx => hW'.lt x hx
  have hsz : (DataW.weightsEach Tryz.prog (Tryz.f6.params.toList ++ Rows.logStopsSpec.plain.varTypes Tryz.prog) (ds ++ [])).all (· ≤ reachBytes) = true := hsz0
  rw [Tryz.params6] at hA hval hsz
  have hK := hA
  obtain ⟨v0, vs0, d0, ds0, p0, q0, hargs, rfl, rfl, h0, r0⟩ := trodAll_cons hA
  obtain ⟨v1, vs1, d1, ds1, p1, q1, rfl, rfl, rfl, h1, r1⟩ := trodAll_cons r0
  obtain ⟨v2, vs2, d2, ds2, p2, q2, rfl, rfl, rfl, h2, r2⟩ := trodAll_cons r1
  obtain ⟨rfl, rfl, rfl⟩ := trodAll_nil r2
  obtain rfl : args = #[v0, v1, v2] := by cases args; simp_all
  obtain ⟨a0, rfl, rfl, rfl, w0⟩ := open_int Tryz.underlying3 (hval 0 3 v0 rfl rfl) h0
  obtain ⟨a1, rfl, rfl, rfl, w1⟩ := open_int Tryz.underlying3 (hval 1 3 v1 rfl rfl) h1
  obtain ⟨a2, rfl, rfl, rfl, w2⟩ := open_int Tryz.underlying3 (hval 2 3 v2 rfl rfl) h2
  clear hA0 hval0
  refine (logStops_law a0 w0 a1 w1 a2 w2 W (logLaid_at hL)).mono fun e W' ⟨he, hg⟩ => ?_
  subst he
  exact ⟨_, rfl, post_of_below (pa := _) (pv := []) hW' (fun _ _ _ => (trodAll_cons_mk (shut_bool Tryz.underlying4 _) trodAll_mk0)) (fun sp hsp => trodAll_stays Tryz.laidOutK hg typesOk hK (fun x hx => ⟨hlt x hx, hsp x (by first | exact hx | (simp at hx) | simpa using hx)⟩)) (fun _ _ => rfl) (by simp) hg (ok_one (by kernel_rfl) rfl (okWide_bool_mk Tryz.underlying4 _))⟩

theorem over : Rows.logStopsRow.holds Tryz.pinned (OpenSpec.ofChange Rows.logStopsSpec) :=
  OpenClaim.holds_of_wide 6 Tryz.f6 rfl rfl rfl rfl rfl rfl rfl ⟨rfl, rfl, rfl, rfl, rfl⟩ rfl rfl rfl rfl rfl (by kernel_rfl) Tryz.func6 (by show joinedFacts Tryz.prog _ _ _ _ = true; unfold joinedFacts; rw [mayEnterK, liftsFinalK, makeK]; kernel_rfl)
    (of_decide_eq_true (by kernel_rfl)) (by unfold Func.isWrapper; first | (rw [if_pos (by decide +kernel)]; kernel_rfl) | (rw [if_neg (by decide +kernel)]; exact ⟨rfl, rfl⟩))
    (fun os started H enc _ => lifted os started H enc)
theorem card : Rows.LogStopsCardSaid :=
  Claim7.holds_tied_plain_at .later [] [.data, .data, .data, .data, .handle, .sentinel, .sentinel, .listed, .data] true (true, "cf87a92c0bda03de77ea464f474e355050c3702182b83bf7df8e796472efe6ca") true
    over (fun _ h => by cases h) (by kernel_rfl) (fun _ h => by cases h) logStops_row_tie rfl ⟨rfl, rfl⟩ mainIsK rfl
    (fun f fn hf hfn => by
      obtain rfl : f = 6 := Option.some.inj ((show Tryz.prog.funcNamed "pairstone/stonelaw3.LogStops" = some 6 by kernel_rfl).symm.trans hf) |>.symm
      obtain rfl : fn = Tryz.f6 := (Option.some.inj (Tryz.func6.symm.trans hfn)).symm
      exact ⟨by kernel_rfl, fun j t ht => by
        rw [Tryz.params6] at ht
        have hm : t ∈ ([3, 3, 3] : List TypeId) := by simpa using Array.mem_of_getElem? ht
        have hall : (([3, 3, 3] : List TypeId).all fun u => !Tryz.prog.wantsStandIn u) = true := by kernel_rfl
        exact (show Tryz.prog.wantsStandIn t = false by simpa using List.all_eq_true.1 hall t hm)⟩)
    (by kernel_rfl)
#print axioms card
end Go.Proofs.YtahgaccdeakmcaaGreatDoor.logStops
