/- Texts of this claim, in one. -/
import Derived.Test.YtjjmelhhalomaaaGreatDoorM4RunAnswers
import Derived.Deep.DeepCutAuto
import Derived.Deep.CutBlock
import Derived.Deep.RegionHeld3
import Derived.Deep.DrawnRows
import Derived.BigQuiet
import Derived.Test.YtjjmelhhalomaaaGreatDoorM5RunAnswers
import Derived.Test.YtjjmelhhalomaaaGreatDoorOw
import Derived.Test.YtjjmelhhalomaaaGreatDoorSe
import Derived.RangeFuncNested
import Derived.RangeFuncBound
import Derived.RangeFuncCalls
import Derived.RangeFuncLeaves
import Derived.Shelf.Abstract
import Derived.Shelf.RegionOpen
import Derived.WalkKit
import Derived.OwnWalkIn
import Derived.TacticsInMore
import Derived.LoopNIn
import Derived.LoopIn
import Derived.RangeFuncBox
import Derived.Laws.OwnMore
import Derived.Test.YtjjmelhhalomaaaGreatDoorSf
import Derived.Test.YtjjmelhhalomaaaGreatDoorHa
import Derived.Shelf.Strings.Builder1
import Derived.Shelf.Strings.OnBuilder
import Derived.Laws.MakeOwn
namespace Go.Proofs.YtjjmelhhalomaaaGreatDoor
open Go.RowKit
set_option maxRecDepth 100000
set_option linter.unusedVariables false
set_option linter.unusedSimpArgs false
attribute [local go_sem ↓] Go.wp_at_zero Go.wp_at_succ
/-- What a line gives, out of its words: 'how' tells what the deed gives. -/
def LineR (K : Nat) (B : Bool) (f : Nat) (r : List UInt8) (m : Bool) (w : World) (out : List UInt8) (c : Int) : Prop := match takeN K r m with
  | none => out = [] ∧ c = -1
  | some (ns, r1, m1) => if m1 = B then (∀ v w1, Below w.heap.size w w1 → LnS w1 v ns → DeedC f v r1 w1 out c) else out = [] ∧ c = -1
theorem unread_iface : errR (-1) = .iface 104 (.agg #[.iface 84 (.int .i64 2)]) := rfl
/-- What lies of a line while it is read. -/
structure LnM (wd wr : World) (j : Nat) (ns : List Nat) (v : Value) : Prop where
  c0 : wr.cell? ⟨wd.heap.size, 0, none⟩ = some v
  c1 : wr.cell? ⟨wd.heap.size, 1, none⟩ = some (.string ⟨#[]⟩)
  f0 : wr.frozen? ⟨wd.heap.size, 0, none⟩ = false
  f1 : wr.frozen? ⟨wd.heap.size, 1, none⟩ = false
  lt : wd.heap.size < wr.heap.size
  own : wr.ownsRow (wd.heap.size + 1) 3 1 v j ((nI ns).map (Value.int .i64))
  b : Below wd.heap.size wd wr
theorem LnM.below {wd wr w' : World} {j : Nat} {ns : List Nat} {v : Value} (h : LnM wd wr j ns v) (hb : Below wr.heap.size wr w') : LnM wd w' j ns v :=
  ⟨(hb.cell (p := ⟨wd.heap.size, 0, none⟩) h.lt).trans h.c0, (hb.cell (p := ⟨wd.heap.size, 1, none⟩) h.lt).trans h.c1, (hb.frozen (p := ⟨wd.heap.size, 0, none⟩) h.lt).trans h.f0, (hb.frozen (p := ⟨wd.heap.size, 1, none⟩) h.lt).trans h.f1, Nat.lt_of_lt_of_le h.lt hb.size, own_keep h.own (fun k e => hb.block k (h.own.lt k e).2), below_seq h.b hb⟩
theorem LnM.start (wd : World) : LnM wd (wd.alloc (.cells #[.slice none 0 0, .string ⟨#[]⟩] 143)) 0 [] (.slice none 0 0) :=
  ⟨by simp, by simp, by simp, by simp, by simp, World.ownsRow_nil _ _ _ _, below_alloc _ _⟩
/-- One number more. -/
theorem LnM.push {wd wr wa w4 : World} {j : Nat} {ns : List Nat} {v v' : Value} {n : Nat} (h : LnM wd wr j ns v) (ha : Below wr.heap.size wr wa) (hown : w4.ownsRow (wd.heap.size + 1) 3 1 v' (j + 1) ((nI ns ++ [(n : Int)]).map (Value.int .i64))) (hg : wa.grownBy w4 v.ownBlock) (hv : ∃ a b c, v' = .slice a b c) :
    LnM wd (w4.setCell ⟨wd.heap.size, 0, none⟩ v') (j + 1) (ns ++ [n]) v' := by
  have h' := h.below ha
  have hne : some wd.heap.size ≠ v.ownBlock := fun e => by have := (h'.own.lt _ e.symm).1; omega
  have hb := hg.block _ h'.lt hne
  have k0 := (World.cell?_of_block (a := ⟨wd.heap.size, 0, none⟩) hb).trans h'.c0
  have k1 := (World.cell?_of_block (a := ⟨wd.heap.size, 1, none⟩) hb).trans h'.c1
  have g0 := (World.frozen?_of_block (a := ⟨wd.heap.size, 0, none⟩) hb).trans h'.f0
  have g1 := (World.frozen?_of_block (a := ⟨wd.heap.size, 1, none⟩) hb).trans h'.f1
  have l4 := Nat.lt_of_lt_of_le h'.lt hg.size
  have hne' : ∀ k, v'.ownBlock = some k → k ≠ wd.heap.size := fun k e h2 => by have := (hown.lt k e).1; omega
  refine ⟨World.cell?_setCell_same _ _ _ k0, by rw [World.cell?_setCell_other (h := by simp)]; exact k1, by simpa using g0, by simpa using g1, by simpa using l4, own_keep (by rw [nI_snoc]; exact hown) (fun k e => heap_setCell_other w4 ⟨wd.heap.size, 0, none⟩ k v' (fun e2 => hne' k e (by simpa using e2))), ?_⟩
  refine below_set (Below.grown h'.b hg (Nat.le_of_lt h'.lt) (fun k hk => by have := (h'.own.lt k hk).1; omega)) (Nat.le_refl _) _
theorem LnM.lns {wd wr w' : World} {j : Nat} {ns : List Nat} {v x : Value} (h : LnM wd wr j ns v) (hn : ns.length = j) (hw : w' = wr.setCell ⟨wd.heap.size, 1, none⟩ x) : LnS w' v ns := by
  subst hw
  have hne : ∀ k, v.ownBlock = some k → k ≠ wd.heap.size := fun k e h2 => by have := (h.own.lt k e).1; omega
  have ho := own_keep h.own (fun k e => heap_setCell_other wr ⟨wd.heap.size, 1, none⟩ k x (fun e2 => hne k e (by simpa using e2)))
  refine LnS.of_own (B := wd.heap.size + 1) (n := j) ?_ hn
  have e : (nI ns).map (Value.int .i64) = ns.map fun n : Nat => Value.int .i64 (n : Int) := by unfold nI; rw [List.map_map]; rfl
  rw [← e]; exact ho
theorem LineR.none {K : Nat} {B : Bool} {f : Nat} {r : List UInt8} {m : Bool} {w : World} {out : List UInt8} {c : Int} (h : LineR K B f r m w out c) (hn : takeN K r m = Option.none) : out = [] ∧ c = -1 := by
  unfold LineR at h; rw [hn] at h; exact h
theorem LineR.some {K : Nat} {B : Bool} {f : Nat} {r r1 : List UInt8} {m m1 : Bool} {ns : List Nat} {w : World} {out : List UInt8} {c : Int} (h : LineR K B f r m w out c) (hn : takeN K r m = Option.some (ns, r1, m1)) : if m1 = B then (∀ v w1, Below w.heap.size w w1 → LnS w1 v ns → DeedC f v r1 w1 out c) else out = [] ∧ c = -1 := by
  unfold LineR at h; rw [hn] at h; exact h
theorem takeN_more {k : Nat} {r r1 : List UInt8} {m : Bool} {ns : List Nat} (h : takeN k r m = Option.some (ns, r1, false)) : takeN (k + 1) r m = Option.none := by
  unfold takeN; rw [h]; rfl
theorem takeN_bad {k : Nat} {r r1 : List UInt8} {m : Bool} {ns : List Nat} (h : takeN k r m = Option.some (ns, r1, true)) (hn : numF (cutW r1).1 = Option.none) : takeN (k + 1) r m = Option.none := by
  unfold takeN; rw [h]; show (if true = true then _ else _) = _; rw [if_pos rfl, hn]
theorem takeN_good {k n : Nat} {r r1 : List UInt8} {m : Bool} {ns : List Nat} (h : takeN k r m = Option.some (ns, r1, true)) (hn : numF (cutW r1).1 = Option.some n) : takeN (k + 1) r m = Option.some (ns ++ [n], (cutW r1).2.1, (cutW r1).2.2) := by
  conv => lhs; unfold takeN
  rw [h]; show (if true = true then _ else _) = _; rw [if_pos rfl, hn]
set_option maxHeartbeats 16000000 in
theorem read_base (s : List UInt8) (w : World) (R : RunAt w) (hl : s.length ≤ 3000) (hw : (cutW s).1 = [98, 97, 115, 101]) (out : List UInt8) (c : Int) (hc : ErrR c) (h : LineR 1 false 136 (cutW s).2.1 (cutW s).2.2 w out c) :
    Calls Tryz.prog 60 #[.string (bS s)] w fun e w' => e = .returned (.tuple #[.string (bS out), errR c]) ∧ Below w.heap.size w w' := by
  have hC := Lib.hid (cut_c s w hl R)
  have hr0 := (cutW_len s).2
  rw [hw] at hC
  generalize (cutW s).2.1 = r0 at *
  generalize (cutW s).2.2 = m0 at *
  replace h := Lib.hid h
  have R' := Lib.hid R
  clear R hw
  go_enter Tryz.func60, Tryz.ntmps60
  go_wp2_with fail
  refine hC.out.mono ?_; rintro e w1 ⟨rfl, hb1⟩
  replace hb1 := Lib.hid hb1
  clear hC
  have hlk := look_c (w1.alloc (dM 9)) w1.heap.size (bS [98, 97, 115, 101]) (some (0, dV 1 false 136)) (heap_alloc_new w1 _) rfl
  have hbw := Lib.hid (balloc hb1.out (dM 9))
  simp only [Option.map_some, Option.getD_some, Option.isSome_some] at hlk
  unfold dV at hlk
  have hsf : (store ⟨w1.heap.size + 1, 2, none⟩ (.func (.func 136) #[] #[])).run Tryz.prog ((w1.alloc (dM 9)).alloc (.cells #[.int .i64 1, .bool false, .nilFunc] 138)) = .ok () ((w1.alloc (dM 9)).alloc (.cells #[.int .i64 1, .bool false, .func (.func 136) #[] #[]] 138)) := by
    rw [run_store Tryz.prog _ _ _ _ (by rfl)]
    have hsc := World.setCell_alloc_at (w := w1.alloc (dM 9)) #[.int .i64 1, .bool false, .nilFunc] 138 (w1.heap.size + 1) 2 (.func (.func 136) #[] #[]) (by simp)
    simp
    exact hsc
  go_wp2_with fail
  refine (deeds_c w1).mono ?_; rintro e w2 ⟨rfl, rfl⟩
  go_upto_region 5 with fail
  have hbd := balloc hbw.out (.cells #[.int .i64 1, .bool false, .func (.func 136) #[] #[]] 138)
  have dd : ∀ W : World, W.heap.size = w1.heap.size + 1 → (W.alloc (.cells #[.int .i64 1, .bool false, .func (.func 136) #[] #[]] 138)).cell? ⟨w1.heap.size + 1, 0, none⟩ = some (.int .i64 1) ∧ (W.alloc (.cells #[.int .i64 1, .bool false, .func (.func 136) #[] #[]] 138)).cell? ⟨w1.heap.size + 1, 1, none⟩ = some (.bool false) ∧ (W.alloc (.cells #[.int .i64 1, .bool false, .func (.func 136) #[] #[]] 138)).cell? ⟨w1.heap.size + 1, 2, none⟩ = some (.func (.func 136) #[] #[]) ∧ w1.heap.size + 1 < (W.alloc (.cells #[.int .i64 1, .bool false, .func (.func 136) #[] #[]] 138)).heap.size := fun W hW => by
    rw [← hW]; exact ⟨by simp, by simp, by simp, by simp⟩
  have hd := dd (w1.alloc (dM 9)) (by simp)
  clear dd hlk hsf
  generalize (w1.alloc (dM 9)).alloc (.cells #[.int .i64 1, .bool false, .func (.func 136) #[] #[]] 138) = wd at *
  have hst := LnM.start wd
  have hd' := Lib.hid (fun (w' : World) (hb : Below wd.heap.size wd w') => (⟨((bcell hb).1 _ _ hd.2.2.2).trans hd.1, ((bcell hb).1 _ _ hd.2.2.2).trans hd.2.1, ((bcell hb).1 _ _ hd.2.2.2).trans hd.2.2.1, Nat.lt_of_lt_of_le hd.2.2.2 hb.size⟩ : w'.cell? ⟨w1.heap.size + 1, 0, none⟩ = some (.int .i64 1) ∧ w'.cell? ⟨w1.heap.size + 1, 1, none⟩ = some (.bool false) ∧ w'.cell? ⟨w1.heap.size + 1, 2, none⟩ = some (.func (.func 136) #[] #[]) ∧ w1.heap.size + 1 < w'.heap.size))
  obtain ⟨d0, d1, d2, dl⟩ := hd'.out _ hst.b
  replace hbd := Lib.hid hbd
  clear hd hbw hb1
  go_upto_region 6 with fail
  generalize wd.alloc (.cells #[.slice none 0 0, .string ⟨#[]⟩] 143) = wl at *
  replace hst := Lib.hid hst
  go_wp2_with fail
  clear d0 d1 d2 dl
  go_loopw [5, 6, 31] (fun v5 v6 i wr => ∃ (j : Nat) (ns : List Nat) (r : List UInt8) (m : Bool) (v : Value), j ≤ 1 ∧ i = .int .i64 j ∧ v5 = .string (bS r) ∧ v6 = .bool m ∧ takeN j r0 m0 = some (ns, r, m) ∧ LnM wd wr j ns v) (fun _ _ i _ => 1 - (intOf i).toNat)
  case atStart => exact ⟨0, [], r0, m0, _, Nat.zero_le _, rfl, rfl, rfl, rfl, hst.out⟩
  case round =>
    clear hst
    obtain ⟨j, ns, r, m, v, hj, rfl, rfl, rfl, ht, hM⟩ := hrel
    replace hM := Lib.hid hM
    obtain ⟨t1, t2, t3⟩ := takeN_spec _ _ _ _ _ _ ht
    have hBr := Lib.hid (hbd.out.trans (hM.out.b.mono hbd.out.size))
    have Rr := Lib.hid (R'.out.below hBr.out)
    obtain ⟨u0, u1⟩ := Rr.out.U
    by_cases q1 : j < 1
    · have g1 : decide ((j : Int) < 1) = true := by rw [decide_eq_true_iff]; omega
      cases m
      · obtain ⟨rfl, rfl⟩ := h.out.none (takeN_none (takeN_more ht) _ (by omega))
        clear h hM hd'
        go_upto_region 9 with fail
        go_region
        all_goals
          go_wp2
          go_ret2
          exact ⟨rfl, (by repeat (first | exact hBr.out | refine Below.drew ?_))⟩
      · have hC2 := Lib.hid (cut_c r _ (by omega) Rr.out)
        have hlr := (cutW_len r).1
        clear u0 u1
        go_wp2_with fail
        refine hC2.out.mono ?_; rintro e w2 ⟨rfl, hb2⟩
        have R2 := Rr.out.below hb2
        have hM2 := Lib.hid (hM.out.below hb2)
        have hB2 := Lib.hid (below_seq hBr.out hb2)
        have hN2 := Lib.hid (number_c (cutW r).1 w2 (by omega) R2.T R2.S R2.R)
        have hgd := fun n => takeN_good (n := n) ht
        have hbad := takeN_bad ht
        replace hgd := Lib.hid hgd
        replace hbad := Lib.hid hbad
        have hlr2 := (cutW_len r).2
        generalize (cutW r).1 = wd2 at *
        generalize (cutW r).2.1 = r2 at *
        generalize (cutW r).2.2 = m2 at *
        replace R2 := Lib.hid R2
        clear hC2 hb2
        go_wp2_with fail
        refine hN2.out.mono ?_; rintro e w3 ⟨vn, rfl, hvn, hb3⟩
        have hM3 := Lib.hid (hM2.out.below hb3)
        have hB3 := Lib.hid (below_seq hB2.out hb3)
        obtain ⟨u0, u1⟩ := (R2.out.below hb3).U
        clear hN2 hb3
        cases hnf : numF wd2 with
        | none =>
          obtain ⟨rfl, rfl⟩ := h.out.none (takeN_none (hbad.out hnf) _ (by omega))
          rw [hnf] at hvn
          have e1 : (none : Option Nat).isSome = false := rfl
          clear h hM hM2 hM3 hd' hgd hbad hvn
          go_upto_region 14 with fail
          go_region
          all_goals
            go_wp2
            go_ret2
            exact ⟨rfl, (by repeat (first | exact hB3.out | refine Below.drew ?_))⟩
        | some n =>
          obtain rfl := hvn n hnf
          have ht2 := hgd.out n hnf
          have e1 : (some n : Option Nat).isSome = true := rfl
          obtain ⟨a3, c3, rfl⟩ := own_slB hM3.out.own
          have k0 := hM3.out.c0
          have k1 := hM3.out.f0
          have kl := hM3.out.lt
          have hrow := Lib.hid hM3.out.own
          have hnl : (nI ns).length = j := by rw [nI_len]; exact t1
          have hsz := hM3.out.b.size
          replace ht2 := Lib.hid ht2
          clear hgd hbad hM2 hM hnf u0 u1
          go_wp2_with (first | (at_builtin; refine wpl_append_int rfl _ _ _ rfl (by kernel_rfl) (wd.heap.size + 1) _ (nI ns) j rfl (hrow.out.alloc _) hnl (by omega) (by simp only [World.size_alloc]; omega) w3.heap.size (n : Int) rfl (by go_simp) ?_; intro v' w4 hown' hgr hbel hloc; have hP4 := Lib.hid (hM3.out.push (below_alloc _ _) hown' hgr ⟨_, _, _, (own_slB hown').choose_spec.choose_spec⟩); obtain ⟨av, cv, rfl⟩ := own_slB hown'; have hz4 := hgr.size; have nb : some wd.heap.size ≠ (Value.slice a3 j c3).ownBlock := (fun e => by have := (hrow.out.lt _ e.symm).1; omega); have y0 := (World.cell?_of_block (a := ⟨wd.heap.size, 0, none⟩) (hgr.block _ (by simp only [World.size_alloc]; omega) nb)).trans ((World.cell?_alloc_lt _ _ ⟨wd.heap.size, 0, none⟩ kl).trans k0); have y1 := (World.frozen?_of_block (a := ⟨wd.heap.size, 0, none⟩) (hgr.block _ (by simp only [World.size_alloc]; omega) nb)).trans ((World.frozen?_alloc_old _ _ ⟨wd.heap.size, 0, none⟩ (Nat.ne_of_lt kl)).trans k1); have yl : wd.heap.size < w4.heap.size := Nat.lt_of_lt_of_le (by simp only [World.size_alloc]; omega) hz4; clear hown' hgr hbel hloc k0 k1) | fail)
          go_roundw
          case rel => exact ⟨j + 1, _, _, _, _, by omega, by go_num, rfl, rfl, ht2.out, hP4.out⟩
          case measure => simp [intOf]; omega
    · have g1 : decide ((j : Int) < 1) = false := by rw [decide_eq_false_iff_not]; omega
      obtain rfl : j = 1 := by omega
      have hsome := h.out.some ht
      obtain ⟨d0, d1, d2, dl⟩ := hd'.out _ hM.out.b
      obtain ⟨a3, c3, rfl⟩ := own_slB hM.out.own
      by_cases q2 : m = false
      · subst q2
        rw [if_pos rfl] at hsome
        have k0 := hM.out.c0
        have k1 := hM.out.c1
        have k2 := hM.out.f1
        have kl := hM.out.lt
        have hB5 : Below w.heap.size w (wr.setCell ⟨wd.heap.size, 1, none⟩ (.string (bS r))) := below_set hBr.out hbd.out.size _
        have hD := Lib.hid (hsome _ _ hB5 (hM.out.lns t1 rfl))
        unfold DeedC lnV at hD
        replace hB5 := Lib.hid hB5
        clear hsome h hd' ht hM u0 u1
        go_wp2_with fail
        refine hD.out.mono ?_; rintro e w6 ⟨rfl, hb6⟩
        have hB6 := Lib.hid (below_seq hB5.out hb6)
        clear hb6
        go_wp2
        go_ret2
        exact ⟨rfl, hB6.out⟩
      · rw [if_neg q2] at hsome
        obtain ⟨rfl, rfl⟩ := hsome
        cases m
        · first
          | (exfalso; exact q2 rfl)
          | (clear h hd' ht hM
             go_upto_region 18 with fail
             go_region
             all_goals
               go_wp2
               go_ret2
               exact ⟨rfl, (by repeat (first | exact hBr.out | refine Below.drew ?_))⟩)
        · first
          | (exfalso; exact q2 rfl)
          | (clear h hd' ht hM
             go_upto_region 18 with fail
             go_region
             all_goals
               go_wp2
               go_ret2
               exact ⟨rfl, (by repeat (first | exact hBr.out | refine Below.drew ?_))⟩)
set_option maxHeartbeats 16000000 in
theorem read_lift (s : List UInt8) (w : World) (R : RunAt w) (hl : s.length ≤ 3000) (hw : (cutW s).1 = [108, 105, 102, 116]) (out : List UInt8) (c : Int) (hc : ErrR c) (h : LineR 1 false 138 (cutW s).2.1 (cutW s).2.2 w out c) :
    Calls Tryz.prog 60 #[.string (bS s)] w fun e w' => e = .returned (.tuple #[.string (bS out), errR c]) ∧ Below w.heap.size w w' := by
  have hC := Lib.hid (cut_c s w hl R)
  have hr0 := (cutW_len s).2
  rw [hw] at hC
  generalize (cutW s).2.1 = r0 at *
  generalize (cutW s).2.2 = m0 at *
  replace h := Lib.hid h
  have R' := Lib.hid R
  clear R hw
  go_enter Tryz.func60, Tryz.ntmps60
  go_wp2_with fail
  refine hC.out.mono ?_; rintro e w1 ⟨rfl, hb1⟩
  replace hb1 := Lib.hid hb1
  clear hC
  have hlk := look_c (w1.alloc (dM 9)) w1.heap.size (bS [108, 105, 102, 116]) (some (1, dV 1 false 138)) (heap_alloc_new w1 _) rfl
  have hbw := Lib.hid (balloc hb1.out (dM 9))
  simp only [Option.map_some, Option.getD_some, Option.isSome_some] at hlk
  unfold dV at hlk
  have hsf : (store ⟨w1.heap.size + 1, 2, none⟩ (.func (.func 138) #[] #[])).run Tryz.prog ((w1.alloc (dM 9)).alloc (.cells #[.int .i64 1, .bool false, .nilFunc] 138)) = .ok () ((w1.alloc (dM 9)).alloc (.cells #[.int .i64 1, .bool false, .func (.func 138) #[] #[]] 138)) := by
    rw [run_store Tryz.prog _ _ _ _ (by rfl)]
    have hsc := World.setCell_alloc_at (w := w1.alloc (dM 9)) #[.int .i64 1, .bool false, .nilFunc] 138 (w1.heap.size + 1) 2 (.func (.func 138) #[] #[]) (by simp)
    simp
    exact hsc
  go_wp2_with fail
  refine (deeds_c w1).mono ?_; rintro e w2 ⟨rfl, rfl⟩
  go_upto_region 5 with fail
  have hbd := balloc hbw.out (.cells #[.int .i64 1, .bool false, .func (.func 138) #[] #[]] 138)
  have dd : ∀ W : World, W.heap.size = w1.heap.size + 1 → (W.alloc (.cells #[.int .i64 1, .bool false, .func (.func 138) #[] #[]] 138)).cell? ⟨w1.heap.size + 1, 0, none⟩ = some (.int .i64 1) ∧ (W.alloc (.cells #[.int .i64 1, .bool false, .func (.func 138) #[] #[]] 138)).cell? ⟨w1.heap.size + 1, 1, none⟩ = some (.bool false) ∧ (W.alloc (.cells #[.int .i64 1, .bool false, .func (.func 138) #[] #[]] 138)).cell? ⟨w1.heap.size + 1, 2, none⟩ = some (.func (.func 138) #[] #[]) ∧ w1.heap.size + 1 < (W.alloc (.cells #[.int .i64 1, .bool false, .func (.func 138) #[] #[]] 138)).heap.size := fun W hW => by
    rw [← hW]; exact ⟨by simp, by simp, by simp, by simp⟩
  have hd := dd (w1.alloc (dM 9)) (by simp)
  clear dd hlk hsf
  generalize (w1.alloc (dM 9)).alloc (.cells #[.int .i64 1, .bool false, .func (.func 138) #[] #[]] 138) = wd at *
  have hst := LnM.start wd
  have hd' := Lib.hid (fun (w' : World) (hb : Below wd.heap.size wd w') => (⟨((bcell hb).1 _ _ hd.2.2.2).trans hd.1, ((bcell hb).1 _ _ hd.2.2.2).trans hd.2.1, ((bcell hb).1 _ _ hd.2.2.2).trans hd.2.2.1, Nat.lt_of_lt_of_le hd.2.2.2 hb.size⟩ : w'.cell? ⟨w1.heap.size + 1, 0, none⟩ = some (.int .i64 1) ∧ w'.cell? ⟨w1.heap.size + 1, 1, none⟩ = some (.bool false) ∧ w'.cell? ⟨w1.heap.size + 1, 2, none⟩ = some (.func (.func 138) #[] #[]) ∧ w1.heap.size + 1 < w'.heap.size))
  obtain ⟨d0, d1, d2, dl⟩ := hd'.out _ hst.b
  replace hbd := Lib.hid hbd
  clear hd hbw hb1
  go_upto_region 6 with fail
  generalize wd.alloc (.cells #[.slice none 0 0, .string ⟨#[]⟩] 143) = wl at *
  replace hst := Lib.hid hst
  go_wp2_with fail
  clear d0 d1 d2 dl
  go_loopw [5, 6, 31] (fun v5 v6 i wr => ∃ (j : Nat) (ns : List Nat) (r : List UInt8) (m : Bool) (v : Value), j ≤ 1 ∧ i = .int .i64 j ∧ v5 = .string (bS r) ∧ v6 = .bool m ∧ takeN j r0 m0 = some (ns, r, m) ∧ LnM wd wr j ns v) (fun _ _ i _ => 1 - (intOf i).toNat)
  case atStart => exact ⟨0, [], r0, m0, _, Nat.zero_le _, rfl, rfl, rfl, rfl, hst.out⟩
  case round =>
    clear hst
    obtain ⟨j, ns, r, m, v, hj, rfl, rfl, rfl, ht, hM⟩ := hrel
    replace hM := Lib.hid hM
    obtain ⟨t1, t2, t3⟩ := takeN_spec _ _ _ _ _ _ ht
    have hBr := Lib.hid (hbd.out.trans (hM.out.b.mono hbd.out.size))
    have Rr := Lib.hid (R'.out.below hBr.out)
    obtain ⟨u0, u1⟩ := Rr.out.U
    by_cases q1 : j < 1
    · have g1 : decide ((j : Int) < 1) = true := by rw [decide_eq_true_iff]; omega
      cases m
      · obtain ⟨rfl, rfl⟩ := h.out.none (takeN_none (takeN_more ht) _ (by omega))
        clear h hM hd'
        go_upto_region 9 with fail
        go_region
        all_goals
          go_wp2
          go_ret2
          exact ⟨rfl, (by repeat (first | exact hBr.out | refine Below.drew ?_))⟩
      · have hC2 := Lib.hid (cut_c r _ (by omega) Rr.out)
        have hlr := (cutW_len r).1
        clear u0 u1
        go_wp2_with fail
        refine hC2.out.mono ?_; rintro e w2 ⟨rfl, hb2⟩
        have R2 := Rr.out.below hb2
        have hM2 := Lib.hid (hM.out.below hb2)
        have hB2 := Lib.hid (below_seq hBr.out hb2)
        have hN2 := Lib.hid (number_c (cutW r).1 w2 (by omega) R2.T R2.S R2.R)
        have hgd := fun n => takeN_good (n := n) ht
        have hbad := takeN_bad ht
        replace hgd := Lib.hid hgd
        replace hbad := Lib.hid hbad
        have hlr2 := (cutW_len r).2
        generalize (cutW r).1 = wd2 at *
        generalize (cutW r).2.1 = r2 at *
        generalize (cutW r).2.2 = m2 at *
        replace R2 := Lib.hid R2
        clear hC2 hb2
        go_wp2_with fail
        refine hN2.out.mono ?_; rintro e w3 ⟨vn, rfl, hvn, hb3⟩
        have hM3 := Lib.hid (hM2.out.below hb3)
        have hB3 := Lib.hid (below_seq hB2.out hb3)
        obtain ⟨u0, u1⟩ := (R2.out.below hb3).U
        clear hN2 hb3
        cases hnf : numF wd2 with
        | none =>
          obtain ⟨rfl, rfl⟩ := h.out.none (takeN_none (hbad.out hnf) _ (by omega))
          rw [hnf] at hvn
          have e1 : (none : Option Nat).isSome = false := rfl
          clear h hM hM2 hM3 hd' hgd hbad hvn
          go_upto_region 14 with fail
          go_region
          all_goals
            go_wp2
            go_ret2
            exact ⟨rfl, (by repeat (first | exact hB3.out | refine Below.drew ?_))⟩
        | some n =>
          obtain rfl := hvn n hnf
          have ht2 := hgd.out n hnf
          have e1 : (some n : Option Nat).isSome = true := rfl
          obtain ⟨a3, c3, rfl⟩ := own_slB hM3.out.own
          have k0 := hM3.out.c0
          have k1 := hM3.out.f0
          have kl := hM3.out.lt
          have hrow := Lib.hid hM3.out.own
          have hnl : (nI ns).length = j := by rw [nI_len]; exact t1
          have hsz := hM3.out.b.size
          replace ht2 := Lib.hid ht2
          clear hgd hbad hM2 hM hnf u0 u1
          go_wp2_with (first | (at_builtin; refine wpl_append_int rfl _ _ _ rfl (by kernel_rfl) (wd.heap.size + 1) _ (nI ns) j rfl (hrow.out.alloc _) hnl (by omega) (by simp only [World.size_alloc]; omega) w3.heap.size (n : Int) rfl (by go_simp) ?_; intro v' w4 hown' hgr hbel hloc; have hP4 := Lib.hid (hM3.out.push (below_alloc _ _) hown' hgr ⟨_, _, _, (own_slB hown').choose_spec.choose_spec⟩); obtain ⟨av, cv, rfl⟩ := own_slB hown'; have hz4 := hgr.size; have nb : some wd.heap.size ≠ (Value.slice a3 j c3).ownBlock := (fun e => by have := (hrow.out.lt _ e.symm).1; omega); have y0 := (World.cell?_of_block (a := ⟨wd.heap.size, 0, none⟩) (hgr.block _ (by simp only [World.size_alloc]; omega) nb)).trans ((World.cell?_alloc_lt _ _ ⟨wd.heap.size, 0, none⟩ kl).trans k0); have y1 := (World.frozen?_of_block (a := ⟨wd.heap.size, 0, none⟩) (hgr.block _ (by simp only [World.size_alloc]; omega) nb)).trans ((World.frozen?_alloc_old _ _ ⟨wd.heap.size, 0, none⟩ (Nat.ne_of_lt kl)).trans k1); have yl : wd.heap.size < w4.heap.size := Nat.lt_of_lt_of_le (by simp only [World.size_alloc]; omega) hz4; clear hown' hgr hbel hloc k0 k1) | fail)
          go_roundw
          case rel => exact ⟨j + 1, _, _, _, _, by omega, by go_num, rfl, rfl, ht2.out, hP4.out⟩
          case measure => simp [intOf]; omega
    · have g1 : decide ((j : Int) < 1) = false := by rw [decide_eq_false_iff_not]; omega
      obtain rfl : j = 1 := by omega
      have hsome := h.out.some ht
      obtain ⟨d0, d1, d2, dl⟩ := hd'.out _ hM.out.b
      obtain ⟨a3, c3, rfl⟩ := own_slB hM.out.own
      by_cases q2 : m = false
      · subst q2
        rw [if_pos rfl] at hsome
        have k0 := hM.out.c0
        have k1 := hM.out.c1
        have k2 := hM.out.f1
        have kl := hM.out.lt
        have hB5 : Below w.heap.size w (wr.setCell ⟨wd.heap.size, 1, none⟩ (.string (bS r))) := below_set hBr.out hbd.out.size _
        have hD := Lib.hid (hsome _ _ hB5 (hM.out.lns t1 rfl))
        unfold DeedC lnV at hD
        replace hB5 := Lib.hid hB5
        clear hsome h hd' ht hM u0 u1
        go_wp2_with fail
        refine hD.out.mono ?_; rintro e w6 ⟨rfl, hb6⟩
        have hB6 := Lib.hid (below_seq hB5.out hb6)
        clear hb6
        go_wp2
        go_ret2
        exact ⟨rfl, hB6.out⟩
      · rw [if_neg q2] at hsome
        obtain ⟨rfl, rfl⟩ := hsome
        cases m
        · first
          | (exfalso; exact q2 rfl)
          | (clear h hd' ht hM
             go_upto_region 18 with fail
             go_region
             all_goals
               go_wp2
               go_ret2
               exact ⟨rfl, (by repeat (first | exact hBr.out | refine Below.drew ?_))⟩)
        · first
          | (exfalso; exact q2 rfl)
          | (clear h hd' ht hM
             go_upto_region 18 with fail
             go_region
             all_goals
               go_wp2
               go_ret2
               exact ⟨rfl, (by repeat (first | exact hBr.out | refine Below.drew ?_))⟩)
set_option maxHeartbeats 16000000 in
theorem read_order (s : List UInt8) (w : World) (R : RunAt w) (hl : s.length ≤ 3000) (hw : (cutW s).1 = [111, 114, 100, 101, 114]) (out : List UInt8) (c : Int) (hc : ErrR c) (h : LineR 1 false 139 (cutW s).2.1 (cutW s).2.2 w out c) :
    Calls Tryz.prog 60 #[.string (bS s)] w fun e w' => e = .returned (.tuple #[.string (bS out), errR c]) ∧ Below w.heap.size w w' := by
  have hC := Lib.hid (cut_c s w hl R)
  have hr0 := (cutW_len s).2
  rw [hw] at hC
  generalize (cutW s).2.1 = r0 at *
  generalize (cutW s).2.2 = m0 at *
  replace h := Lib.hid h
  have R' := Lib.hid R
  clear R hw
  go_enter Tryz.func60, Tryz.ntmps60
  go_wp2_with fail
  refine hC.out.mono ?_; rintro e w1 ⟨rfl, hb1⟩
  replace hb1 := Lib.hid hb1
  clear hC
  have hlk := look_c (w1.alloc (dM 9)) w1.heap.size (bS [111, 114, 100, 101, 114]) (some (2, dV 1 false 139)) (heap_alloc_new w1 _) rfl
  have hbw := Lib.hid (balloc hb1.out (dM 9))
  simp only [Option.map_some, Option.getD_some, Option.isSome_some] at hlk
  unfold dV at hlk
  have hsf : (store ⟨w1.heap.size + 1, 2, none⟩ (.func (.func 139) #[] #[])).run Tryz.prog ((w1.alloc (dM 9)).alloc (.cells #[.int .i64 1, .bool false, .nilFunc] 138)) = .ok () ((w1.alloc (dM 9)).alloc (.cells #[.int .i64 1, .bool false, .func (.func 139) #[] #[]] 138)) := by
    rw [run_store Tryz.prog _ _ _ _ (by rfl)]
    have hsc := World.setCell_alloc_at (w := w1.alloc (dM 9)) #[.int .i64 1, .bool false, .nilFunc] 138 (w1.heap.size + 1) 2 (.func (.func 139) #[] #[]) (by simp)
    simp
    exact hsc
  go_wp2_with fail
  refine (deeds_c w1).mono ?_; rintro e w2 ⟨rfl, rfl⟩
  go_upto_region 5 with fail
  have hbd := balloc hbw.out (.cells #[.int .i64 1, .bool false, .func (.func 139) #[] #[]] 138)
  have dd : ∀ W : World, W.heap.size = w1.heap.size + 1 → (W.alloc (.cells #[.int .i64 1, .bool false, .func (.func 139) #[] #[]] 138)).cell? ⟨w1.heap.size + 1, 0, none⟩ = some (.int .i64 1) ∧ (W.alloc (.cells #[.int .i64 1, .bool false, .func (.func 139) #[] #[]] 138)).cell? ⟨w1.heap.size + 1, 1, none⟩ = some (.bool false) ∧ (W.alloc (.cells #[.int .i64 1, .bool false, .func (.func 139) #[] #[]] 138)).cell? ⟨w1.heap.size + 1, 2, none⟩ = some (.func (.func 139) #[] #[]) ∧ w1.heap.size + 1 < (W.alloc (.cells #[.int .i64 1, .bool false, .func (.func 139) #[] #[]] 138)).heap.size := fun W hW => by
    rw [← hW]; exact ⟨by simp, by simp, by simp, by simp⟩
  have hd := dd (w1.alloc (dM 9)) (by simp)
  clear dd hlk hsf
  generalize (w1.alloc (dM 9)).alloc (.cells #[.int .i64 1, .bool false, .func (.func 139) #[] #[]] 138) = wd at *
  have hst := LnM.start wd
  have hd' := Lib.hid (fun (w' : World) (hb : Below wd.heap.size wd w') => (⟨((bcell hb).1 _ _ hd.2.2.2).trans hd.1, ((bcell hb).1 _ _ hd.2.2.2).trans hd.2.1, ((bcell hb).1 _ _ hd.2.2.2).trans hd.2.2.1, Nat.lt_of_lt_of_le hd.2.2.2 hb.size⟩ : w'.cell? ⟨w1.heap.size + 1, 0, none⟩ = some (.int .i64 1) ∧ w'.cell? ⟨w1.heap.size + 1, 1, none⟩ = some (.bool false) ∧ w'.cell? ⟨w1.heap.size + 1, 2, none⟩ = some (.func (.func 139) #[] #[]) ∧ w1.heap.size + 1 < w'.heap.size))
  obtain ⟨d0, d1, d2, dl⟩ := hd'.out _ hst.b
  replace hbd := Lib.hid hbd
  clear hd hbw hb1
  go_upto_region 6 with fail
  generalize wd.alloc (.cells #[.slice none 0 0, .string ⟨#[]⟩] 143) = wl at *
  replace hst := Lib.hid hst
  go_wp2_with fail
  clear d0 d1 d2 dl
  go_loopw [5, 6, 31] (fun v5 v6 i wr => ∃ (j : Nat) (ns : List Nat) (r : List UInt8) (m : Bool) (v : Value), j ≤ 1 ∧ i = .int .i64 j ∧ v5 = .string (bS r) ∧ v6 = .bool m ∧ takeN j r0 m0 = some (ns, r, m) ∧ LnM wd wr j ns v) (fun _ _ i _ => 1 - (intOf i).toNat)
  case atStart => exact ⟨0, [], r0, m0, _, Nat.zero_le _, rfl, rfl, rfl, rfl, hst.out⟩
  case round =>
    clear hst
    obtain ⟨j, ns, r, m, v, hj, rfl, rfl, rfl, ht, hM⟩ := hrel
    replace hM := Lib.hid hM
    obtain ⟨t1, t2, t3⟩ := takeN_spec _ _ _ _ _ _ ht
    have hBr := Lib.hid (hbd.out.trans (hM.out.b.mono hbd.out.size))
    have Rr := Lib.hid (R'.out.below hBr.out)
    obtain ⟨u0, u1⟩ := Rr.out.U
    by_cases q1 : j < 1
    · have g1 : decide ((j : Int) < 1) = true := by rw [decide_eq_true_iff]; omega
      cases m
      · obtain ⟨rfl, rfl⟩ := h.out.none (takeN_none (takeN_more ht) _ (by omega))
        clear h hM hd'
        go_upto_region 9 with fail
        go_region
        all_goals
          go_wp2
          go_ret2
          exact ⟨rfl, (by repeat (first | exact hBr.out | refine Below.drew ?_))⟩
      · have hC2 := Lib.hid (cut_c r _ (by omega) Rr.out)
        have hlr := (cutW_len r).1
        clear u0 u1
        go_wp2_with fail
        refine hC2.out.mono ?_; rintro e w2 ⟨rfl, hb2⟩
        have R2 := Rr.out.below hb2
        have hM2 := Lib.hid (hM.out.below hb2)
        have hB2 := Lib.hid (below_seq hBr.out hb2)
        have hN2 := Lib.hid (number_c (cutW r).1 w2 (by omega) R2.T R2.S R2.R)
        have hgd := fun n => takeN_good (n := n) ht
        have hbad := takeN_bad ht
        replace hgd := Lib.hid hgd
        replace hbad := Lib.hid hbad
        have hlr2 := (cutW_len r).2
        generalize (cutW r).1 = wd2 at *
        generalize (cutW r).2.1 = r2 at *
        generalize (cutW r).2.2 = m2 at *
        replace R2 := Lib.hid R2
        clear hC2 hb2
        go_wp2_with fail
        refine hN2.out.mono ?_; rintro e w3 ⟨vn, rfl, hvn, hb3⟩
        have hM3 := Lib.hid (hM2.out.below hb3)
        have hB3 := Lib.hid (below_seq hB2.out hb3)
        obtain ⟨u0, u1⟩ := (R2.out.below hb3).U
        clear hN2 hb3
        cases hnf : numF wd2 with
        | none =>
          obtain ⟨rfl, rfl⟩ := h.out.none (takeN_none (hbad.out hnf) _ (by omega))
          rw [hnf] at hvn
          have e1 : (none : Option Nat).isSome = false := rfl
          clear h hM hM2 hM3 hd' hgd hbad hvn
          go_upto_region 14 with fail
          go_region
          all_goals
            go_wp2
            go_ret2
            exact ⟨rfl, (by repeat (first | exact hB3.out | refine Below.drew ?_))⟩
        | some n =>
          obtain rfl := hvn n hnf
          have ht2 := hgd.out n hnf
          have e1 : (some n : Option Nat).isSome = true := rfl
          obtain ⟨a3, c3, rfl⟩ := own_slB hM3.out.own
          have k0 := hM3.out.c0
          have k1 := hM3.out.f0
          have kl := hM3.out.lt
          have hrow := Lib.hid hM3.out.own
          have hnl : (nI ns).length = j := by rw [nI_len]; exact t1
          have hsz := hM3.out.b.size
          replace ht2 := Lib.hid ht2
          clear hgd hbad hM2 hM hnf u0 u1
          go_wp2_with (first | (at_builtin; refine wpl_append_int rfl _ _ _ rfl (by kernel_rfl) (wd.heap.size + 1) _ (nI ns) j rfl (hrow.out.alloc _) hnl (by omega) (by simp only [World.size_alloc]; omega) w3.heap.size (n : Int) rfl (by go_simp) ?_; intro v' w4 hown' hgr hbel hloc; have hP4 := Lib.hid (hM3.out.push (below_alloc _ _) hown' hgr ⟨_, _, _, (own_slB hown').choose_spec.choose_spec⟩); obtain ⟨av, cv, rfl⟩ := own_slB hown'; have hz4 := hgr.size; have nb : some wd.heap.size ≠ (Value.slice a3 j c3).ownBlock := (fun e => by have := (hrow.out.lt _ e.symm).1; omega); have y0 := (World.cell?_of_block (a := ⟨wd.heap.size, 0, none⟩) (hgr.block _ (by simp only [World.size_alloc]; omega) nb)).trans ((World.cell?_alloc_lt _ _ ⟨wd.heap.size, 0, none⟩ kl).trans k0); have y1 := (World.frozen?_of_block (a := ⟨wd.heap.size, 0, none⟩) (hgr.block _ (by simp only [World.size_alloc]; omega) nb)).trans ((World.frozen?_alloc_old _ _ ⟨wd.heap.size, 0, none⟩ (Nat.ne_of_lt kl)).trans k1); have yl : wd.heap.size < w4.heap.size := Nat.lt_of_lt_of_le (by simp only [World.size_alloc]; omega) hz4; clear hown' hgr hbel hloc k0 k1) | fail)
          go_roundw
          case rel => exact ⟨j + 1, _, _, _, _, by omega, by go_num, rfl, rfl, ht2.out, hP4.out⟩
          case measure => simp [intOf]; omega
    · have g1 : decide ((j : Int) < 1) = false := by rw [decide_eq_false_iff_not]; omega
      obtain rfl : j = 1 := by omega
      have hsome := h.out.some ht
      obtain ⟨d0, d1, d2, dl⟩ := hd'.out _ hM.out.b
      obtain ⟨a3, c3, rfl⟩ := own_slB hM.out.own
      by_cases q2 : m = false
      · subst q2
        rw [if_pos rfl] at hsome
        have k0 := hM.out.c0
        have k1 := hM.out.c1
        have k2 := hM.out.f1
        have kl := hM.out.lt
        have hB5 : Below w.heap.size w (wr.setCell ⟨wd.heap.size, 1, none⟩ (.string (bS r))) := below_set hBr.out hbd.out.size _
        have hD := Lib.hid (hsome _ _ hB5 (hM.out.lns t1 rfl))
        unfold DeedC lnV at hD
        replace hB5 := Lib.hid hB5
        clear hsome h hd' ht hM u0 u1
        go_wp2_with fail
        refine hD.out.mono ?_; rintro e w6 ⟨rfl, hb6⟩
        have hB6 := Lib.hid (below_seq hB5.out hb6)
        clear hb6
        go_wp2
        go_ret2
        exact ⟨rfl, hB6.out⟩
      · rw [if_neg q2] at hsome
        obtain ⟨rfl, rfl⟩ := hsome
        cases m
        · first
          | (exfalso; exact q2 rfl)
          | (clear h hd' ht hM
             go_upto_region 18 with fail
             go_region
             all_goals
               go_wp2
               go_ret2
               exact ⟨rfl, (by repeat (first | exact hBr.out | refine Below.drew ?_))⟩)
        · first
          | (exfalso; exact q2 rfl)
          | (clear h hd' ht hM
             go_upto_region 18 with fail
             go_region
             all_goals
               go_wp2
               go_ret2
               exact ⟨rfl, (by repeat (first | exact hBr.out | refine Below.drew ?_))⟩)
set_option maxHeartbeats 16000000 in
theorem read_hash (s : List UInt8) (w : World) (R : RunAt w) (hl : s.length ≤ 3000) (hw : (cutW s).1 = [104, 97, 115, 104]) (out : List UInt8) (c : Int) (hc : ErrR c) (h : LineR 0 true 142 (cutW s).2.1 (cutW s).2.2 w out c) :
    Calls Tryz.prog 60 #[.string (bS s)] w fun e w' => e = .returned (.tuple #[.string (bS out), errR c]) ∧ Below w.heap.size w w' := by
  have hC := Lib.hid (cut_c s w hl R)
  have hr0 := (cutW_len s).2
  rw [hw] at hC
  generalize (cutW s).2.1 = r0 at *
  generalize (cutW s).2.2 = m0 at *
  replace h := Lib.hid h
  have R' := Lib.hid R
  clear R hw
  go_enter Tryz.func60, Tryz.ntmps60
  go_wp2_with fail
  refine hC.out.mono ?_; rintro e w1 ⟨rfl, hb1⟩
  replace hb1 := Lib.hid hb1
  clear hC
  have hlk := look_c (w1.alloc (dM 9)) w1.heap.size (bS [104, 97, 115, 104]) (some (3, dV 0 true 142)) (heap_alloc_new w1 _) rfl
  have hbw := Lib.hid (balloc hb1.out (dM 9))
  simp only [Option.map_some, Option.getD_some, Option.isSome_some] at hlk
  unfold dV at hlk
  have hsf : (store ⟨w1.heap.size + 1, 2, none⟩ (.func (.func 142) #[] #[])).run Tryz.prog ((w1.alloc (dM 9)).alloc (.cells #[.int .i64 0, .bool true, .nilFunc] 138)) = .ok () ((w1.alloc (dM 9)).alloc (.cells #[.int .i64 0, .bool true, .func (.func 142) #[] #[]] 138)) := by
    rw [run_store Tryz.prog _ _ _ _ (by rfl)]
    have hsc := World.setCell_alloc_at (w := w1.alloc (dM 9)) #[.int .i64 0, .bool true, .nilFunc] 138 (w1.heap.size + 1) 2 (.func (.func 142) #[] #[]) (by simp)
    simp
    exact hsc
  go_wp2_with fail
  refine (deeds_c w1).mono ?_; rintro e w2 ⟨rfl, rfl⟩
  go_upto_region 5 with fail
  have hbd := balloc hbw.out (.cells #[.int .i64 0, .bool true, .func (.func 142) #[] #[]] 138)
  have dd : ∀ W : World, W.heap.size = w1.heap.size + 1 → (W.alloc (.cells #[.int .i64 0, .bool true, .func (.func 142) #[] #[]] 138)).cell? ⟨w1.heap.size + 1, 0, none⟩ = some (.int .i64 0) ∧ (W.alloc (.cells #[.int .i64 0, .bool true, .func (.func 142) #[] #[]] 138)).cell? ⟨w1.heap.size + 1, 1, none⟩ = some (.bool true) ∧ (W.alloc (.cells #[.int .i64 0, .bool true, .func (.func 142) #[] #[]] 138)).cell? ⟨w1.heap.size + 1, 2, none⟩ = some (.func (.func 142) #[] #[]) ∧ w1.heap.size + 1 < (W.alloc (.cells #[.int .i64 0, .bool true, .func (.func 142) #[] #[]] 138)).heap.size := fun W hW => by
    rw [← hW]; exact ⟨by simp, by simp, by simp, by simp⟩
  have hd := dd (w1.alloc (dM 9)) (by simp)
  clear dd hlk hsf
  generalize (w1.alloc (dM 9)).alloc (.cells #[.int .i64 0, .bool true, .func (.func 142) #[] #[]] 138) = wd at *
  have hst := LnM.start wd
  have hd' := Lib.hid (fun (w' : World) (hb : Below wd.heap.size wd w') => (⟨((bcell hb).1 _ _ hd.2.2.2).trans hd.1, ((bcell hb).1 _ _ hd.2.2.2).trans hd.2.1, ((bcell hb).1 _ _ hd.2.2.2).trans hd.2.2.1, Nat.lt_of_lt_of_le hd.2.2.2 hb.size⟩ : w'.cell? ⟨w1.heap.size + 1, 0, none⟩ = some (.int .i64 0) ∧ w'.cell? ⟨w1.heap.size + 1, 1, none⟩ = some (.bool true) ∧ w'.cell? ⟨w1.heap.size + 1, 2, none⟩ = some (.func (.func 142) #[] #[]) ∧ w1.heap.size + 1 < w'.heap.size))
  obtain ⟨d0, d1, d2, dl⟩ := hd'.out _ hst.b
  replace hbd := Lib.hid hbd
  clear hd hbw hb1
  go_upto_region 6 with fail
  generalize wd.alloc (.cells #[.slice none 0 0, .string ⟨#[]⟩] 143) = wl at *
  replace hst := Lib.hid hst
  go_wp2_with fail
  clear d0 d1 d2 dl
  go_loopw [5, 6, 31] (fun v5 v6 i wr => ∃ (j : Nat) (ns : List Nat) (r : List UInt8) (m : Bool) (v : Value), j ≤ 0 ∧ i = .int .i64 j ∧ v5 = .string (bS r) ∧ v6 = .bool m ∧ takeN j r0 m0 = some (ns, r, m) ∧ LnM wd wr j ns v) (fun _ _ i _ => 0 - (intOf i).toNat)
  case atStart => exact ⟨0, [], r0, m0, _, Nat.zero_le _, rfl, rfl, rfl, rfl, hst.out⟩
  case round =>
    clear hst
    obtain ⟨j, ns, r, m, v, hj, rfl, rfl, rfl, ht, hM⟩ := hrel
    replace hM := Lib.hid hM
    obtain ⟨t1, t2, t3⟩ := takeN_spec _ _ _ _ _ _ ht
    have hBr := Lib.hid (hbd.out.trans (hM.out.b.mono hbd.out.size))
    have Rr := Lib.hid (R'.out.below hBr.out)
    obtain ⟨u0, u1⟩ := Rr.out.U
    by_cases q1 : j < 0
    · have g1 : decide ((j : Int) < 0) = true := by rw [decide_eq_true_iff]; omega
      exact absurd q1 (Nat.not_lt_zero _)
    · have g1 : decide ((j : Int) < 0) = false := by rw [decide_eq_false_iff_not]; omega
      obtain rfl : j = 0 := by omega
      have hsome := h.out.some ht
      obtain ⟨d0, d1, d2, dl⟩ := hd'.out _ hM.out.b
      obtain ⟨a3, c3, rfl⟩ := own_slB hM.out.own
      by_cases q2 : m = true
      · subst q2
        rw [if_pos rfl] at hsome
        have k0 := hM.out.c0
        have k1 := hM.out.c1
        have k2 := hM.out.f1
        have kl := hM.out.lt
        have hB5 : Below w.heap.size w (wr.setCell ⟨wd.heap.size, 1, none⟩ (.string (bS r))) := below_set hBr.out hbd.out.size _
        have hD := Lib.hid (hsome _ _ hB5 (hM.out.lns t1 rfl))
        unfold DeedC lnV at hD
        replace hB5 := Lib.hid hB5
        clear hsome h hd' ht hM u0 u1
        go_wp2_with fail
        refine hD.out.mono ?_; rintro e w6 ⟨rfl, hb6⟩
        have hB6 := Lib.hid (below_seq hB5.out hb6)
        clear hb6
        go_wp2
        go_ret2
        exact ⟨rfl, hB6.out⟩
      · rw [if_neg q2] at hsome
        obtain ⟨rfl, rfl⟩ := hsome
        cases m
        · first
          | (exfalso; exact q2 rfl)
          | (clear h hd' ht hM
             go_upto_region 18 with fail
             go_region
             all_goals
               go_wp2
               go_ret2
               exact ⟨rfl, (by repeat (first | exact hBr.out | refine Below.drew ?_))⟩)
        · first
          | (exfalso; exact q2 rfl)
          | (clear h hd' ht hM
             go_upto_region 18 with fail
             go_region
             all_goals
               go_wp2
               go_ret2
               exact ⟨rfl, (by repeat (first | exact hBr.out | refine Below.drew ?_))⟩)
set_option maxHeartbeats 16000000 in
theorem read_pair (s : List UInt8) (w : World) (R : RunAt w) (hl : s.length ≤ 3000) (hw : (cutW s).1 = [112, 97, 105, 114]) (out : List UInt8) (c : Int) (hc : ErrR c) (h : LineR 2 false 143 (cutW s).2.1 (cutW s).2.2 w out c) :
    Calls Tryz.prog 60 #[.string (bS s)] w fun e w' => e = .returned (.tuple #[.string (bS out), errR c]) ∧ Below w.heap.size w w' := by
  have hC := Lib.hid (cut_c s w hl R)
  have hr0 := (cutW_len s).2
  rw [hw] at hC
  generalize (cutW s).2.1 = r0 at *
  generalize (cutW s).2.2 = m0 at *
  replace h := Lib.hid h
  have R' := Lib.hid R
  clear R hw
  go_enter Tryz.func60, Tryz.ntmps60
  go_wp2_with fail
  refine hC.out.mono ?_; rintro e w1 ⟨rfl, hb1⟩
  replace hb1 := Lib.hid hb1
  clear hC
  have hlk := look_c (w1.alloc (dM 9)) w1.heap.size (bS [112, 97, 105, 114]) (some (4, dV 2 false 143)) (heap_alloc_new w1 _) rfl
  have hbw := Lib.hid (balloc hb1.out (dM 9))
  simp only [Option.map_some, Option.getD_some, Option.isSome_some] at hlk
  unfold dV at hlk
  have hsf : (store ⟨w1.heap.size + 1, 2, none⟩ (.func (.func 143) #[] #[])).run Tryz.prog ((w1.alloc (dM 9)).alloc (.cells #[.int .i64 2, .bool false, .nilFunc] 138)) = .ok () ((w1.alloc (dM 9)).alloc (.cells #[.int .i64 2, .bool false, .func (.func 143) #[] #[]] 138)) := by
    rw [run_store Tryz.prog _ _ _ _ (by rfl)]
    have hsc := World.setCell_alloc_at (w := w1.alloc (dM 9)) #[.int .i64 2, .bool false, .nilFunc] 138 (w1.heap.size + 1) 2 (.func (.func 143) #[] #[]) (by simp)
    simp
    exact hsc
  go_wp2_with fail
  refine (deeds_c w1).mono ?_; rintro e w2 ⟨rfl, rfl⟩
  go_upto_region 5 with fail
  have hbd := balloc hbw.out (.cells #[.int .i64 2, .bool false, .func (.func 143) #[] #[]] 138)
  have dd : ∀ W : World, W.heap.size = w1.heap.size + 1 → (W.alloc (.cells #[.int .i64 2, .bool false, .func (.func 143) #[] #[]] 138)).cell? ⟨w1.heap.size + 1, 0, none⟩ = some (.int .i64 2) ∧ (W.alloc (.cells #[.int .i64 2, .bool false, .func (.func 143) #[] #[]] 138)).cell? ⟨w1.heap.size + 1, 1, none⟩ = some (.bool false) ∧ (W.alloc (.cells #[.int .i64 2, .bool false, .func (.func 143) #[] #[]] 138)).cell? ⟨w1.heap.size + 1, 2, none⟩ = some (.func (.func 143) #[] #[]) ∧ w1.heap.size + 1 < (W.alloc (.cells #[.int .i64 2, .bool false, .func (.func 143) #[] #[]] 138)).heap.size := fun W hW => by
    rw [← hW]; exact ⟨by simp, by simp, by simp, by simp⟩
  have hd := dd (w1.alloc (dM 9)) (by simp)
  clear dd hlk hsf
  generalize (w1.alloc (dM 9)).alloc (.cells #[.int .i64 2, .bool false, .func (.func 143) #[] #[]] 138) = wd at *
  have hst := LnM.start wd
  have hd' := Lib.hid (fun (w' : World) (hb : Below wd.heap.size wd w') => (⟨((bcell hb).1 _ _ hd.2.2.2).trans hd.1, ((bcell hb).1 _ _ hd.2.2.2).trans hd.2.1, ((bcell hb).1 _ _ hd.2.2.2).trans hd.2.2.1, Nat.lt_of_lt_of_le hd.2.2.2 hb.size⟩ : w'.cell? ⟨w1.heap.size + 1, 0, none⟩ = some (.int .i64 2) ∧ w'.cell? ⟨w1.heap.size + 1, 1, none⟩ = some (.bool false) ∧ w'.cell? ⟨w1.heap.size + 1, 2, none⟩ = some (.func (.func 143) #[] #[]) ∧ w1.heap.size + 1 < w'.heap.size))
  obtain ⟨d0, d1, d2, dl⟩ := hd'.out _ hst.b
  replace hbd := Lib.hid hbd
  clear hd hbw hb1
  go_upto_region 6 with fail
  generalize wd.alloc (.cells #[.slice none 0 0, .string ⟨#[]⟩] 143) = wl at *
  replace hst := Lib.hid hst
  go_wp2_with fail
  clear d0 d1 d2 dl
  go_loopw [5, 6, 31] (fun v5 v6 i wr => ∃ (j : Nat) (ns : List Nat) (r : List UInt8) (m : Bool) (v : Value), j ≤ 2 ∧ i = .int .i64 j ∧ v5 = .string (bS r) ∧ v6 = .bool m ∧ takeN j r0 m0 = some (ns, r, m) ∧ LnM wd wr j ns v) (fun _ _ i _ => 2 - (intOf i).toNat)
  case atStart => exact ⟨0, [], r0, m0, _, Nat.zero_le _, rfl, rfl, rfl, rfl, hst.out⟩
  case round =>
    clear hst
    obtain ⟨j, ns, r, m, v, hj, rfl, rfl, rfl, ht, hM⟩ := hrel
    replace hM := Lib.hid hM
    obtain ⟨t1, t2, t3⟩ := takeN_spec _ _ _ _ _ _ ht
    have hBr := Lib.hid (hbd.out.trans (hM.out.b.mono hbd.out.size))
    have Rr := Lib.hid (R'.out.below hBr.out)
    obtain ⟨u0, u1⟩ := Rr.out.U
    by_cases q1 : j < 2
    · have g1 : decide ((j : Int) < 2) = true := by rw [decide_eq_true_iff]; omega
      cases m
      · obtain ⟨rfl, rfl⟩ := h.out.none (takeN_none (takeN_more ht) _ (by omega))
        clear h hM hd'
        go_upto_region 9 with fail
        go_region
        all_goals
          go_wp2
          go_ret2
          exact ⟨rfl, (by repeat (first | exact hBr.out | refine Below.drew ?_))⟩
      · have hC2 := Lib.hid (cut_c r _ (by omega) Rr.out)
        have hlr := (cutW_len r).1
        clear u0 u1
        go_wp2_with fail
        refine hC2.out.mono ?_; rintro e w2 ⟨rfl, hb2⟩
        have R2 := Rr.out.below hb2
        have hM2 := Lib.hid (hM.out.below hb2)
        have hB2 := Lib.hid (below_seq hBr.out hb2)
        have hN2 := Lib.hid (number_c (cutW r).1 w2 (by omega) R2.T R2.S R2.R)
        have hgd := fun n => takeN_good (n := n) ht
        have hbad := takeN_bad ht
        replace hgd := Lib.hid hgd
        replace hbad := Lib.hid hbad
        have hlr2 := (cutW_len r).2
        generalize (cutW r).1 = wd2 at *
        generalize (cutW r).2.1 = r2 at *
        generalize (cutW r).2.2 = m2 at *
        replace R2 := Lib.hid R2
        clear hC2 hb2
        go_wp2_with fail
        refine hN2.out.mono ?_; rintro e w3 ⟨vn, rfl, hvn, hb3⟩
        have hM3 := Lib.hid (hM2.out.below hb3)
        have hB3 := Lib.hid (below_seq hB2.out hb3)
        obtain ⟨u0, u1⟩ := (R2.out.below hb3).U
        clear hN2 hb3
        cases hnf : numF wd2 with
        | none =>
          obtain ⟨rfl, rfl⟩ := h.out.none (takeN_none (hbad.out hnf) _ (by omega))
          rw [hnf] at hvn
          have e1 : (none : Option Nat).isSome = false := rfl
          clear h hM hM2 hM3 hd' hgd hbad hvn
          go_upto_region 14 with fail
          go_region
          all_goals
            go_wp2
            go_ret2
            exact ⟨rfl, (by repeat (first | exact hB3.out | refine Below.drew ?_))⟩
        | some n =>
          obtain rfl := hvn n hnf
          have ht2 := hgd.out n hnf
          have e1 : (some n : Option Nat).isSome = true := rfl
          obtain ⟨a3, c3, rfl⟩ := own_slB hM3.out.own
          have k0 := hM3.out.c0
          have k1 := hM3.out.f0
          have kl := hM3.out.lt
          have hrow := Lib.hid hM3.out.own
          have hnl : (nI ns).length = j := by rw [nI_len]; exact t1
          have hsz := hM3.out.b.size
          replace ht2 := Lib.hid ht2
          clear hgd hbad hM2 hM hnf u0 u1
          go_wp2_with (first | (at_builtin; refine wpl_append_int rfl _ _ _ rfl (by kernel_rfl) (wd.heap.size + 1) _ (nI ns) j rfl (hrow.out.alloc _) hnl (by omega) (by simp only [World.size_alloc]; omega) w3.heap.size (n : Int) rfl (by go_simp) ?_; intro v' w4 hown' hgr hbel hloc; have hP4 := Lib.hid (hM3.out.push (below_alloc _ _) hown' hgr ⟨_, _, _, (own_slB hown').choose_spec.choose_spec⟩); obtain ⟨av, cv, rfl⟩ := own_slB hown'; have hz4 := hgr.size; have nb : some wd.heap.size ≠ (Value.slice a3 j c3).ownBlock := (fun e => by have := (hrow.out.lt _ e.symm).1; omega); have y0 := (World.cell?_of_block (a := ⟨wd.heap.size, 0, none⟩) (hgr.block _ (by simp only [World.size_alloc]; omega) nb)).trans ((World.cell?_alloc_lt _ _ ⟨wd.heap.size, 0, none⟩ kl).trans k0); have y1 := (World.frozen?_of_block (a := ⟨wd.heap.size, 0, none⟩) (hgr.block _ (by simp only [World.size_alloc]; omega) nb)).trans ((World.frozen?_alloc_old _ _ ⟨wd.heap.size, 0, none⟩ (Nat.ne_of_lt kl)).trans k1); have yl : wd.heap.size < w4.heap.size := Nat.lt_of_lt_of_le (by simp only [World.size_alloc]; omega) hz4; clear hown' hgr hbel hloc k0 k1) | fail)
          go_roundw
          case rel => exact ⟨j + 1, _, _, _, _, by omega, by go_num, rfl, rfl, ht2.out, hP4.out⟩
          case measure => simp [intOf]; omega
    · have g1 : decide ((j : Int) < 2) = false := by rw [decide_eq_false_iff_not]; omega
      obtain rfl : j = 2 := by omega
      have hsome := h.out.some ht
      obtain ⟨d0, d1, d2, dl⟩ := hd'.out _ hM.out.b
      obtain ⟨a3, c3, rfl⟩ := own_slB hM.out.own
      by_cases q2 : m = false
      · subst q2
        rw [if_pos rfl] at hsome
        have k0 := hM.out.c0
        have k1 := hM.out.c1
        have k2 := hM.out.f1
        have kl := hM.out.lt
        have hB5 : Below w.heap.size w (wr.setCell ⟨wd.heap.size, 1, none⟩ (.string (bS r))) := below_set hBr.out hbd.out.size _
        have hD := Lib.hid (hsome _ _ hB5 (hM.out.lns t1 rfl))
        unfold DeedC lnV at hD
        replace hB5 := Lib.hid hB5
        clear hsome h hd' ht hM u0 u1
        go_wp2_with fail
        refine hD.out.mono ?_; rintro e w6 ⟨rfl, hb6⟩
        have hB6 := Lib.hid (below_seq hB5.out hb6)
        clear hb6
        go_wp2
        go_ret2
        exact ⟨rfl, hB6.out⟩
      · rw [if_neg q2] at hsome
        obtain ⟨rfl, rfl⟩ := hsome
        cases m
        · first
          | (exfalso; exact q2 rfl)
          | (clear h hd' ht hM
             go_upto_region 18 with fail
             go_region
             all_goals
               go_wp2
               go_ret2
               exact ⟨rfl, (by repeat (first | exact hBr.out | refine Below.drew ?_))⟩)
        · first
          | (exfalso; exact q2 rfl)
          | (clear h hd' ht hM
             go_upto_region 18 with fail
             go_region
             all_goals
               go_wp2
               go_ret2
               exact ⟨rfl, (by repeat (first | exact hBr.out | refine Below.drew ?_))⟩)
set_option maxHeartbeats 16000000 in
theorem read_sign (s : List UInt8) (w : World) (R : RunAt w) (hl : s.length ≤ 3000) (hw : (cutW s).1 = [115, 105, 103, 110]) (out : List UInt8) (c : Int) (hc : ErrR c) (h : LineR 2 true 145 (cutW s).2.1 (cutW s).2.2 w out c) :
    Calls Tryz.prog 60 #[.string (bS s)] w fun e w' => e = .returned (.tuple #[.string (bS out), errR c]) ∧ Below w.heap.size w w' := by
  have hC := Lib.hid (cut_c s w hl R)
  have hr0 := (cutW_len s).2
  rw [hw] at hC
  generalize (cutW s).2.1 = r0 at *
  generalize (cutW s).2.2 = m0 at *
  replace h := Lib.hid h
  have R' := Lib.hid R
  clear R hw
  go_enter Tryz.func60, Tryz.ntmps60
  go_wp2_with fail
  refine hC.out.mono ?_; rintro e w1 ⟨rfl, hb1⟩
  replace hb1 := Lib.hid hb1
  clear hC
  have hlk := look_c (w1.alloc (dM 9)) w1.heap.size (bS [115, 105, 103, 110]) (some (5, dV 2 true 145)) (heap_alloc_new w1 _) rfl
  have hbw := Lib.hid (balloc hb1.out (dM 9))
  simp only [Option.map_some, Option.getD_some, Option.isSome_some] at hlk
  unfold dV at hlk
  have hsf : (store ⟨w1.heap.size + 1, 2, none⟩ (.func (.func 145) #[] #[])).run Tryz.prog ((w1.alloc (dM 9)).alloc (.cells #[.int .i64 2, .bool true, .nilFunc] 138)) = .ok () ((w1.alloc (dM 9)).alloc (.cells #[.int .i64 2, .bool true, .func (.func 145) #[] #[]] 138)) := by
    rw [run_store Tryz.prog _ _ _ _ (by rfl)]
    have hsc := World.setCell_alloc_at (w := w1.alloc (dM 9)) #[.int .i64 2, .bool true, .nilFunc] 138 (w1.heap.size + 1) 2 (.func (.func 145) #[] #[]) (by simp)
    simp
    exact hsc
  go_wp2_with fail
  refine (deeds_c w1).mono ?_; rintro e w2 ⟨rfl, rfl⟩
  go_upto_region 5 with fail
  have hbd := balloc hbw.out (.cells #[.int .i64 2, .bool true, .func (.func 145) #[] #[]] 138)
  have dd : ∀ W : World, W.heap.size = w1.heap.size + 1 → (W.alloc (.cells #[.int .i64 2, .bool true, .func (.func 145) #[] #[]] 138)).cell? ⟨w1.heap.size + 1, 0, none⟩ = some (.int .i64 2) ∧ (W.alloc (.cells #[.int .i64 2, .bool true, .func (.func 145) #[] #[]] 138)).cell? ⟨w1.heap.size + 1, 1, none⟩ = some (.bool true) ∧ (W.alloc (.cells #[.int .i64 2, .bool true, .func (.func 145) #[] #[]] 138)).cell? ⟨w1.heap.size + 1, 2, none⟩ = some (.func (.func 145) #[] #[]) ∧ w1.heap.size + 1 < (W.alloc (.cells #[.int .i64 2, .bool true, .func (.func 145) #[] #[]] 138)).heap.size := fun W hW => by
    rw [← hW]; exact ⟨by simp, by simp, by simp, by simp⟩
  have hd := dd (w1.alloc (dM 9)) (by simp)
  clear dd hlk hsf
  generalize (w1.alloc (dM 9)).alloc (.cells #[.int .i64 2, .bool true, .func (.func 145) #[] #[]] 138) = wd at *
  have hst := LnM.start wd
  have hd' := Lib.hid (fun (w' : World) (hb : Below wd.heap.size wd w') => (⟨((bcell hb).1 _ _ hd.2.2.2).trans hd.1, ((bcell hb).1 _ _ hd.2.2.2).trans hd.2.1, ((bcell hb).1 _ _ hd.2.2.2).trans hd.2.2.1, Nat.lt_of_lt_of_le hd.2.2.2 hb.size⟩ : w'.cell? ⟨w1.heap.size + 1, 0, none⟩ = some (.int .i64 2) ∧ w'.cell? ⟨w1.heap.size + 1, 1, none⟩ = some (.bool true) ∧ w'.cell? ⟨w1.heap.size + 1, 2, none⟩ = some (.func (.func 145) #[] #[]) ∧ w1.heap.size + 1 < w'.heap.size))
  obtain ⟨d0, d1, d2, dl⟩ := hd'.out _ hst.b
  replace hbd := Lib.hid hbd
  clear hd hbw hb1
  go_upto_region 6 with fail
  generalize wd.alloc (.cells #[.slice none 0 0, .string ⟨#[]⟩] 143) = wl at *
  replace hst := Lib.hid hst
  go_wp2_with fail
  clear d0 d1 d2 dl
  go_loopw [5, 6, 31] (fun v5 v6 i wr => ∃ (j : Nat) (ns : List Nat) (r : List UInt8) (m : Bool) (v : Value), j ≤ 2 ∧ i = .int .i64 j ∧ v5 = .string (bS r) ∧ v6 = .bool m ∧ takeN j r0 m0 = some (ns, r, m) ∧ LnM wd wr j ns v) (fun _ _ i _ => 2 - (intOf i).toNat)
  case atStart => exact ⟨0, [], r0, m0, _, Nat.zero_le _, rfl, rfl, rfl, rfl, hst.out⟩
  case round =>
    clear hst
    obtain ⟨j, ns, r, m, v, hj, rfl, rfl, rfl, ht, hM⟩ := hrel
    replace hM := Lib.hid hM
    obtain ⟨t1, t2, t3⟩ := takeN_spec _ _ _ _ _ _ ht
    have hBr := Lib.hid (hbd.out.trans (hM.out.b.mono hbd.out.size))
    have Rr := Lib.hid (R'.out.below hBr.out)
    obtain ⟨u0, u1⟩ := Rr.out.U
    by_cases q1 : j < 2
    · have g1 : decide ((j : Int) < 2) = true := by rw [decide_eq_true_iff]; omega
      cases m
      · obtain ⟨rfl, rfl⟩ := h.out.none (takeN_none (takeN_more ht) _ (by omega))
        clear h hM hd'
        go_upto_region 9 with fail
        go_region
        all_goals
          go_wp2
          go_ret2
          exact ⟨rfl, (by repeat (first | exact hBr.out | refine Below.drew ?_))⟩
      · have hC2 := Lib.hid (cut_c r _ (by omega) Rr.out)
        have hlr := (cutW_len r).1
        clear u0 u1
        go_wp2_with fail
        refine hC2.out.mono ?_; rintro e w2 ⟨rfl, hb2⟩
        have R2 := Rr.out.below hb2
        have hM2 := Lib.hid (hM.out.below hb2)
        have hB2 := Lib.hid (below_seq hBr.out hb2)
        have hN2 := Lib.hid (number_c (cutW r).1 w2 (by omega) R2.T R2.S R2.R)
        have hgd := fun n => takeN_good (n := n) ht
        have hbad := takeN_bad ht
        replace hgd := Lib.hid hgd
        replace hbad := Lib.hid hbad
        have hlr2 := (cutW_len r).2
        generalize (cutW r).1 = wd2 at *
        generalize (cutW r).2.1 = r2 at *
        generalize (cutW r).2.2 = m2 at *
        replace R2 := Lib.hid R2
        clear hC2 hb2
        go_wp2_with fail
        refine hN2.out.mono ?_; rintro e w3 ⟨vn, rfl, hvn, hb3⟩
        have hM3 := Lib.hid (hM2.out.below hb3)
        have hB3 := Lib.hid (below_seq hB2.out hb3)
        obtain ⟨u0, u1⟩ := (R2.out.below hb3).U
        clear hN2 hb3
        cases hnf : numF wd2 with
        | none =>
          obtain ⟨rfl, rfl⟩ := h.out.none (takeN_none (hbad.out hnf) _ (by omega))
          rw [hnf] at hvn
          have e1 : (none : Option Nat).isSome = false := rfl
          clear h hM hM2 hM3 hd' hgd hbad hvn
          go_upto_region 14 with fail
          go_region
          all_goals
            go_wp2
            go_ret2
            exact ⟨rfl, (by repeat (first | exact hB3.out | refine Below.drew ?_))⟩
        | some n =>
          obtain rfl := hvn n hnf
          have ht2 := hgd.out n hnf
          have e1 : (some n : Option Nat).isSome = true := rfl
          obtain ⟨a3, c3, rfl⟩ := own_slB hM3.out.own
          have k0 := hM3.out.c0
          have k1 := hM3.out.f0
          have kl := hM3.out.lt
          have hrow := Lib.hid hM3.out.own
          have hnl : (nI ns).length = j := by rw [nI_len]; exact t1
          have hsz := hM3.out.b.size
          replace ht2 := Lib.hid ht2
          clear hgd hbad hM2 hM hnf u0 u1
          go_wp2_with (first | (at_builtin; refine wpl_append_int rfl _ _ _ rfl (by kernel_rfl) (wd.heap.size + 1) _ (nI ns) j rfl (hrow.out.alloc _) hnl (by omega) (by simp only [World.size_alloc]; omega) w3.heap.size (n : Int) rfl (by go_simp) ?_; intro v' w4 hown' hgr hbel hloc; have hP4 := Lib.hid (hM3.out.push (below_alloc _ _) hown' hgr ⟨_, _, _, (own_slB hown').choose_spec.choose_spec⟩); obtain ⟨av, cv, rfl⟩ := own_slB hown'; have hz4 := hgr.size; have nb : some wd.heap.size ≠ (Value.slice a3 j c3).ownBlock := (fun e => by have := (hrow.out.lt _ e.symm).1; omega); have y0 := (World.cell?_of_block (a := ⟨wd.heap.size, 0, none⟩) (hgr.block _ (by simp only [World.size_alloc]; omega) nb)).trans ((World.cell?_alloc_lt _ _ ⟨wd.heap.size, 0, none⟩ kl).trans k0); have y1 := (World.frozen?_of_block (a := ⟨wd.heap.size, 0, none⟩) (hgr.block _ (by simp only [World.size_alloc]; omega) nb)).trans ((World.frozen?_alloc_old _ _ ⟨wd.heap.size, 0, none⟩ (Nat.ne_of_lt kl)).trans k1); have yl : wd.heap.size < w4.heap.size := Nat.lt_of_lt_of_le (by simp only [World.size_alloc]; omega) hz4; clear hown' hgr hbel hloc k0 k1) | fail)
          go_roundw
          case rel => exact ⟨j + 1, _, _, _, _, by omega, by go_num, rfl, rfl, ht2.out, hP4.out⟩
          case measure => simp [intOf]; omega
    · have g1 : decide ((j : Int) < 2) = false := by rw [decide_eq_false_iff_not]; omega
      obtain rfl : j = 2 := by omega
      have hsome := h.out.some ht
      obtain ⟨d0, d1, d2, dl⟩ := hd'.out _ hM.out.b
      obtain ⟨a3, c3, rfl⟩ := own_slB hM.out.own
      by_cases q2 : m = true
      · subst q2
        rw [if_pos rfl] at hsome
        have k0 := hM.out.c0
        have k1 := hM.out.c1
        have k2 := hM.out.f1
        have kl := hM.out.lt
        have hB5 : Below w.heap.size w (wr.setCell ⟨wd.heap.size, 1, none⟩ (.string (bS r))) := below_set hBr.out hbd.out.size _
        have hD := Lib.hid (hsome _ _ hB5 (hM.out.lns t1 rfl))
        unfold DeedC lnV at hD
        replace hB5 := Lib.hid hB5
        clear hsome h hd' ht hM u0 u1
        go_wp2_with fail
        refine hD.out.mono ?_; rintro e w6 ⟨rfl, hb6⟩
        have hB6 := Lib.hid (below_seq hB5.out hb6)
        clear hb6
        go_wp2
        go_ret2
        exact ⟨rfl, hB6.out⟩
      · rw [if_neg q2] at hsome
        obtain ⟨rfl, rfl⟩ := hsome
        cases m
        · first
          | (exfalso; exact q2 rfl)
          | (clear h hd' ht hM
             go_upto_region 18 with fail
             go_region
             all_goals
               go_wp2
               go_ret2
               exact ⟨rfl, (by repeat (first | exact hBr.out | refine Below.drew ?_))⟩)
        · first
          | (exfalso; exact q2 rfl)
          | (clear h hd' ht hM
             go_upto_region 18 with fail
             go_region
             all_goals
               go_wp2
               go_ret2
               exact ⟨rfl, (by repeat (first | exact hBr.out | refine Below.drew ?_))⟩)
set_option maxHeartbeats 16000000 in
theorem read_short (s : List UInt8) (w : World) (R : RunAt w) (hl : s.length ≤ 3000) (hw : (cutW s).1 = [115, 104, 111, 114, 116]) (out : List UInt8) (c : Int) (hc : ErrR c) (h : LineR 1 true 146 (cutW s).2.1 (cutW s).2.2 w out c) :
    Calls Tryz.prog 60 #[.string (bS s)] w fun e w' => e = .returned (.tuple #[.string (bS out), errR c]) ∧ Below w.heap.size w w' := by
  have hC := Lib.hid (cut_c s w hl R)
  have hr0 := (cutW_len s).2
  rw [hw] at hC
  generalize (cutW s).2.1 = r0 at *
  generalize (cutW s).2.2 = m0 at *
  replace h := Lib.hid h
  have R' := Lib.hid R
  clear R hw
  go_enter Tryz.func60, Tryz.ntmps60
  go_wp2_with fail
  refine hC.out.mono ?_; rintro e w1 ⟨rfl, hb1⟩
  replace hb1 := Lib.hid hb1
  clear hC
  have hlk := look_c (w1.alloc (dM 9)) w1.heap.size (bS [115, 104, 111, 114, 116]) (some (6, dV 1 true 146)) (heap_alloc_new w1 _) rfl
  have hbw := Lib.hid (balloc hb1.out (dM 9))
  simp only [Option.map_some, Option.getD_some, Option.isSome_some] at hlk
  unfold dV at hlk
  have hsf : (store ⟨w1.heap.size + 1, 2, none⟩ (.func (.func 146) #[] #[])).run Tryz.prog ((w1.alloc (dM 9)).alloc (.cells #[.int .i64 1, .bool true, .nilFunc] 138)) = .ok () ((w1.alloc (dM 9)).alloc (.cells #[.int .i64 1, .bool true, .func (.func 146) #[] #[]] 138)) := by
    rw [run_store Tryz.prog _ _ _ _ (by rfl)]
    have hsc := World.setCell_alloc_at (w := w1.alloc (dM 9)) #[.int .i64 1, .bool true, .nilFunc] 138 (w1.heap.size + 1) 2 (.func (.func 146) #[] #[]) (by simp)
    simp
    exact hsc
  go_wp2_with fail
  refine (deeds_c w1).mono ?_; rintro e w2 ⟨rfl, rfl⟩
  go_upto_region 5 with fail
  have hbd := balloc hbw.out (.cells #[.int .i64 1, .bool true, .func (.func 146) #[] #[]] 138)
  have dd : ∀ W : World, W.heap.size = w1.heap.size + 1 → (W.alloc (.cells #[.int .i64 1, .bool true, .func (.func 146) #[] #[]] 138)).cell? ⟨w1.heap.size + 1, 0, none⟩ = some (.int .i64 1) ∧ (W.alloc (.cells #[.int .i64 1, .bool true, .func (.func 146) #[] #[]] 138)).cell? ⟨w1.heap.size + 1, 1, none⟩ = some (.bool true) ∧ (W.alloc (.cells #[.int .i64 1, .bool true, .func (.func 146) #[] #[]] 138)).cell? ⟨w1.heap.size + 1, 2, none⟩ = some (.func (.func 146) #[] #[]) ∧ w1.heap.size + 1 < (W.alloc (.cells #[.int .i64 1, .bool true, .func (.func 146) #[] #[]] 138)).heap.size := fun W hW => by
    rw [← hW]; exact ⟨by simp, by simp, by simp, by simp⟩
  have hd := dd (w1.alloc (dM 9)) (by simp)
  clear dd hlk hsf
  generalize (w1.alloc (dM 9)).alloc (.cells #[.int .i64 1, .bool true, .func (.func 146) #[] #[]] 138) = wd at *
  have hst := LnM.start wd
  have hd' := Lib.hid (fun (w' : World) (hb : Below wd.heap.size wd w') => (⟨((bcell hb).1 _ _ hd.2.2.2).trans hd.1, ((bcell hb).1 _ _ hd.2.2.2).trans hd.2.1, ((bcell hb).1 _ _ hd.2.2.2).trans hd.2.2.1, Nat.lt_of_lt_of_le hd.2.2.2 hb.size⟩ : w'.cell? ⟨w1.heap.size + 1, 0, none⟩ = some (.int .i64 1) ∧ w'.cell? ⟨w1.heap.size + 1, 1, none⟩ = some (.bool true) ∧ w'.cell? ⟨w1.heap.size + 1, 2, none⟩ = some (.func (.func 146) #[] #[]) ∧ w1.heap.size + 1 < w'.heap.size))
  obtain ⟨d0, d1, d2, dl⟩ := hd'.out _ hst.b
  replace hbd := Lib.hid hbd
  clear hd hbw hb1
  go_upto_region 6 with fail
  generalize wd.alloc (.cells #[.slice none 0 0, .string ⟨#[]⟩] 143) = wl at *
  replace hst := Lib.hid hst
  go_wp2_with fail
  clear d0 d1 d2 dl
  go_loopw [5, 6, 31] (fun v5 v6 i wr => ∃ (j : Nat) (ns : List Nat) (r : List UInt8) (m : Bool) (v : Value), j ≤ 1 ∧ i = .int .i64 j ∧ v5 = .string (bS r) ∧ v6 = .bool m ∧ takeN j r0 m0 = some (ns, r, m) ∧ LnM wd wr j ns v) (fun _ _ i _ => 1 - (intOf i).toNat)
  case atStart => exact ⟨0, [], r0, m0, _, Nat.zero_le _, rfl, rfl, rfl, rfl, hst.out⟩
  case round =>
    clear hst
    obtain ⟨j, ns, r, m, v, hj, rfl, rfl, rfl, ht, hM⟩ := hrel
    replace hM := Lib.hid hM
    obtain ⟨t1, t2, t3⟩ := takeN_spec _ _ _ _ _ _ ht
    have hBr := Lib.hid (hbd.out.trans (hM.out.b.mono hbd.out.size))
    have Rr := Lib.hid (R'.out.below hBr.out)
    obtain ⟨u0, u1⟩ := Rr.out.U
    by_cases q1 : j < 1
    · have g1 : decide ((j : Int) < 1) = true := by rw [decide_eq_true_iff]; omega
      cases m
      · obtain ⟨rfl, rfl⟩ := h.out.none (takeN_none (takeN_more ht) _ (by omega))
        clear h hM hd'
        go_upto_region 9 with fail
        go_region
        all_goals
          go_wp2
          go_ret2
          exact ⟨rfl, (by repeat (first | exact hBr.out | refine Below.drew ?_))⟩
      · have hC2 := Lib.hid (cut_c r _ (by omega) Rr.out)
        have hlr := (cutW_len r).1
        clear u0 u1
        go_wp2_with fail
        refine hC2.out.mono ?_; rintro e w2 ⟨rfl, hb2⟩
        have R2 := Rr.out.below hb2
        have hM2 := Lib.hid (hM.out.below hb2)
        have hB2 := Lib.hid (below_seq hBr.out hb2)
        have hN2 := Lib.hid (number_c (cutW r).1 w2 (by omega) R2.T R2.S R2.R)
        have hgd := fun n => takeN_good (n := n) ht
        have hbad := takeN_bad ht
        replace hgd := Lib.hid hgd
        replace hbad := Lib.hid hbad
        have hlr2 := (cutW_len r).2
        generalize (cutW r).1 = wd2 at *
        generalize (cutW r).2.1 = r2 at *
        generalize (cutW r).2.2 = m2 at *
        replace R2 := Lib.hid R2
        clear hC2 hb2
        go_wp2_with fail
        refine hN2.out.mono ?_; rintro e w3 ⟨vn, rfl, hvn, hb3⟩
        have hM3 := Lib.hid (hM2.out.below hb3)
        have hB3 := Lib.hid (below_seq hB2.out hb3)
        obtain ⟨u0, u1⟩ := (R2.out.below hb3).U
        clear hN2 hb3
        cases hnf : numF wd2 with
        | none =>
          obtain ⟨rfl, rfl⟩ := h.out.none (takeN_none (hbad.out hnf) _ (by omega))
          rw [hnf] at hvn
          have e1 : (none : Option Nat).isSome = false := rfl
          clear h hM hM2 hM3 hd' hgd hbad hvn
          go_upto_region 14 with fail
          go_region
          all_goals
            go_wp2
            go_ret2
            exact ⟨rfl, (by repeat (first | exact hB3.out | refine Below.drew ?_))⟩
        | some n =>
          obtain rfl := hvn n hnf
          have ht2 := hgd.out n hnf
          have e1 : (some n : Option Nat).isSome = true := rfl
          obtain ⟨a3, c3, rfl⟩ := own_slB hM3.out.own
          have k0 := hM3.out.c0
          have k1 := hM3.out.f0
          have kl := hM3.out.lt
          have hrow := Lib.hid hM3.out.own
          have hnl : (nI ns).length = j := by rw [nI_len]; exact t1
          have hsz := hM3.out.b.size
          replace ht2 := Lib.hid ht2
          clear hgd hbad hM2 hM hnf u0 u1
          go_wp2_with (first | (at_builtin; refine wpl_append_int rfl _ _ _ rfl (by kernel_rfl) (wd.heap.size + 1) _ (nI ns) j rfl (hrow.out.alloc _) hnl (by omega) (by simp only [World.size_alloc]; omega) w3.heap.size (n : Int) rfl (by go_simp) ?_; intro v' w4 hown' hgr hbel hloc; have hP4 := Lib.hid (hM3.out.push (below_alloc _ _) hown' hgr ⟨_, _, _, (own_slB hown').choose_spec.choose_spec⟩); obtain ⟨av, cv, rfl⟩ := own_slB hown'; have hz4 := hgr.size; have nb : some wd.heap.size ≠ (Value.slice a3 j c3).ownBlock := (fun e => by have := (hrow.out.lt _ e.symm).1; omega); have y0 := (World.cell?_of_block (a := ⟨wd.heap.size, 0, none⟩) (hgr.block _ (by simp only [World.size_alloc]; omega) nb)).trans ((World.cell?_alloc_lt _ _ ⟨wd.heap.size, 0, none⟩ kl).trans k0); have y1 := (World.frozen?_of_block (a := ⟨wd.heap.size, 0, none⟩) (hgr.block _ (by simp only [World.size_alloc]; omega) nb)).trans ((World.frozen?_alloc_old _ _ ⟨wd.heap.size, 0, none⟩ (Nat.ne_of_lt kl)).trans k1); have yl : wd.heap.size < w4.heap.size := Nat.lt_of_lt_of_le (by simp only [World.size_alloc]; omega) hz4; clear hown' hgr hbel hloc k0 k1) | fail)
          go_roundw
          case rel => exact ⟨j + 1, _, _, _, _, by omega, by go_num, rfl, rfl, ht2.out, hP4.out⟩
          case measure => simp [intOf]; omega
    · have g1 : decide ((j : Int) < 1) = false := by rw [decide_eq_false_iff_not]; omega
      obtain rfl : j = 1 := by omega
      have hsome := h.out.some ht
      obtain ⟨d0, d1, d2, dl⟩ := hd'.out _ hM.out.b
      obtain ⟨a3, c3, rfl⟩ := own_slB hM.out.own
      by_cases q2 : m = true
      · subst q2
        rw [if_pos rfl] at hsome
        have k0 := hM.out.c0
        have k1 := hM.out.c1
        have k2 := hM.out.f1
        have kl := hM.out.lt
        have hB5 : Below w.heap.size w (wr.setCell ⟨wd.heap.size, 1, none⟩ (.string (bS r))) := below_set hBr.out hbd.out.size _
        have hD := Lib.hid (hsome _ _ hB5 (hM.out.lns t1 rfl))
        unfold DeedC lnV at hD
        replace hB5 := Lib.hid hB5
        clear hsome h hd' ht hM u0 u1
        go_wp2_with fail
        refine hD.out.mono ?_; rintro e w6 ⟨rfl, hb6⟩
        have hB6 := Lib.hid (below_seq hB5.out hb6)
        clear hb6
        go_wp2
        go_ret2
        exact ⟨rfl, hB6.out⟩
      · rw [if_neg q2] at hsome
        obtain ⟨rfl, rfl⟩ := hsome
        cases m
        · first
          | (exfalso; exact q2 rfl)
          | (clear h hd' ht hM
             go_upto_region 18 with fail
             go_region
             all_goals
               go_wp2
               go_ret2
               exact ⟨rfl, (by repeat (first | exact hBr.out | refine Below.drew ?_))⟩)
        · first
          | (exfalso; exact q2 rfl)
          | (clear h hd' ht hM
             go_upto_region 18 with fail
             go_region
             all_goals
               go_wp2
               go_ret2
               exact ⟨rfl, (by repeat (first | exact hBr.out | refine Below.drew ?_))⟩)
set_option maxHeartbeats 16000000 in
theorem read_hide (s : List UInt8) (w : World) (R : RunAt w) (hl : s.length ≤ 3000) (hw : (cutW s).1 = [104, 105, 100, 101]) (out : List UInt8) (c : Int) (hc : ErrR c) (h : LineR 2 false 148 (cutW s).2.1 (cutW s).2.2 w out c) :
    Calls Tryz.prog 60 #[.string (bS s)] w fun e w' => e = .returned (.tuple #[.string (bS out), errR c]) ∧ Below w.heap.size w w' := by
  have hC := Lib.hid (cut_c s w hl R)
  have hr0 := (cutW_len s).2
  rw [hw] at hC
  generalize (cutW s).2.1 = r0 at *
  generalize (cutW s).2.2 = m0 at *
  replace h := Lib.hid h
  have R' := Lib.hid R
  clear R hw
  go_enter Tryz.func60, Tryz.ntmps60
  go_wp2_with fail
  refine hC.out.mono ?_; rintro e w1 ⟨rfl, hb1⟩
  replace hb1 := Lib.hid hb1
  clear hC
  have hlk := look_c (w1.alloc (dM 9)) w1.heap.size (bS [104, 105, 100, 101]) (some (7, dV 2 false 148)) (heap_alloc_new w1 _) rfl
  have hbw := Lib.hid (balloc hb1.out (dM 9))
  simp only [Option.map_some, Option.getD_some, Option.isSome_some] at hlk
  unfold dV at hlk
  have hsf : (store ⟨w1.heap.size + 1, 2, none⟩ (.func (.func 148) #[] #[])).run Tryz.prog ((w1.alloc (dM 9)).alloc (.cells #[.int .i64 2, .bool false, .nilFunc] 138)) = .ok () ((w1.alloc (dM 9)).alloc (.cells #[.int .i64 2, .bool false, .func (.func 148) #[] #[]] 138)) := by
    rw [run_store Tryz.prog _ _ _ _ (by rfl)]
    have hsc := World.setCell_alloc_at (w := w1.alloc (dM 9)) #[.int .i64 2, .bool false, .nilFunc] 138 (w1.heap.size + 1) 2 (.func (.func 148) #[] #[]) (by simp)
    simp
    exact hsc
  go_wp2_with fail
  refine (deeds_c w1).mono ?_; rintro e w2 ⟨rfl, rfl⟩
  go_upto_region 5 with fail
  have hbd := balloc hbw.out (.cells #[.int .i64 2, .bool false, .func (.func 148) #[] #[]] 138)
  have dd : ∀ W : World, W.heap.size = w1.heap.size + 1 → (W.alloc (.cells #[.int .i64 2, .bool false, .func (.func 148) #[] #[]] 138)).cell? ⟨w1.heap.size + 1, 0, none⟩ = some (.int .i64 2) ∧ (W.alloc (.cells #[.int .i64 2, .bool false, .func (.func 148) #[] #[]] 138)).cell? ⟨w1.heap.size + 1, 1, none⟩ = some (.bool false) ∧ (W.alloc (.cells #[.int .i64 2, .bool false, .func (.func 148) #[] #[]] 138)).cell? ⟨w1.heap.size + 1, 2, none⟩ = some (.func (.func 148) #[] #[]) ∧ w1.heap.size + 1 < (W.alloc (.cells #[.int .i64 2, .bool false, .func (.func 148) #[] #[]] 138)).heap.size := fun W hW => by
    rw [← hW]; exact ⟨by simp, by simp, by simp, by simp⟩
  have hd := dd (w1.alloc (dM 9)) (by simp)
  clear dd hlk hsf
  generalize (w1.alloc (dM 9)).alloc (.cells #[.int .i64 2, .bool false, .func (.func 148) #[] #[]] 138) = wd at *
  have hst := LnM.start wd
  have hd' := Lib.hid (fun (w' : World) (hb : Below wd.heap.size wd w') => (⟨((bcell hb).1 _ _ hd.2.2.2).trans hd.1, ((bcell hb).1 _ _ hd.2.2.2).trans hd.2.1, ((bcell hb).1 _ _ hd.2.2.2).trans hd.2.2.1, Nat.lt_of_lt_of_le hd.2.2.2 hb.size⟩ : w'.cell? ⟨w1.heap.size + 1, 0, none⟩ = some (.int .i64 2) ∧ w'.cell? ⟨w1.heap.size + 1, 1, none⟩ = some (.bool false) ∧ w'.cell? ⟨w1.heap.size + 1, 2, none⟩ = some (.func (.func 148) #[] #[]) ∧ w1.heap.size + 1 < w'.heap.size))
  obtain ⟨d0, d1, d2, dl⟩ := hd'.out _ hst.b
  replace hbd := Lib.hid hbd
  clear hd hbw hb1
  go_upto_region 6 with fail
  generalize wd.alloc (.cells #[.slice none 0 0, .string ⟨#[]⟩] 143) = wl at *
  replace hst := Lib.hid hst
  go_wp2_with fail
  clear d0 d1 d2 dl
  go_loopw [5, 6, 31] (fun v5 v6 i wr => ∃ (j : Nat) (ns : List Nat) (r : List UInt8) (m : Bool) (v : Value), j ≤ 2 ∧ i = .int .i64 j ∧ v5 = .string (bS r) ∧ v6 = .bool m ∧ takeN j r0 m0 = some (ns, r, m) ∧ LnM wd wr j ns v) (fun _ _ i _ => 2 - (intOf i).toNat)
  case atStart => exact ⟨0, [], r0, m0, _, Nat.zero_le _, rfl, rfl, rfl, rfl, hst.out⟩
  case round =>
    clear hst
    obtain ⟨j, ns, r, m, v, hj, rfl, rfl, rfl, ht, hM⟩ := hrel
    replace hM := Lib.hid hM
    obtain ⟨t1, t2, t3⟩ := takeN_spec _ _ _ _ _ _ ht
    have hBr := Lib.hid (hbd.out.trans (hM.out.b.mono hbd.out.size))
    have Rr := Lib.hid (R'.out.below hBr.out)
    obtain ⟨u0, u1⟩ := Rr.out.U
    by_cases q1 : j < 2
    · have g1 : decide ((j : Int) < 2) = true := by rw [decide_eq_true_iff]; omega
      cases m
      · obtain ⟨rfl, rfl⟩ := h.out.none (takeN_none (takeN_more ht) _ (by omega))
        clear h hM hd'
        go_upto_region 9 with fail
        go_region
        all_goals
          go_wp2
          go_ret2
          exact ⟨rfl, (by repeat (first | exact hBr.out | refine Below.drew ?_))⟩
      · have hC2 := Lib.hid (cut_c r _ (by omega) Rr.out)
        have hlr := (cutW_len r).1
        clear u0 u1
        go_wp2_with fail
        refine hC2.out.mono ?_; rintro e w2 ⟨rfl, hb2⟩
        have R2 := Rr.out.below hb2
        have hM2 := Lib.hid (hM.out.below hb2)
        have hB2 := Lib.hid (below_seq hBr.out hb2)
        have hN2 := Lib.hid (number_c (cutW r).1 w2 (by omega) R2.T R2.S R2.R)
        have hgd := fun n => takeN_good (n := n) ht
        have hbad := takeN_bad ht
        replace hgd := Lib.hid hgd
        replace hbad := Lib.hid hbad
        have hlr2 := (cutW_len r).2
        generalize (cutW r).1 = wd2 at *
        generalize (cutW r).2.1 = r2 at *
        generalize (cutW r).2.2 = m2 at *
        replace R2 := Lib.hid R2
        clear hC2 hb2
        go_wp2_with fail
        refine hN2.out.mono ?_; rintro e w3 ⟨vn, rfl, hvn, hb3⟩
        have hM3 := Lib.hid (hM2.out.below hb3)
        have hB3 := Lib.hid (below_seq hB2.out hb3)
        obtain ⟨u0, u1⟩ := (R2.out.below hb3).U
        clear hN2 hb3
        cases hnf : numF wd2 with
        | none =>
          obtain ⟨rfl, rfl⟩ := h.out.none (takeN_none (hbad.out hnf) _ (by omega))
          rw [hnf] at hvn
          have e1 : (none : Option Nat).isSome = false := rfl
          clear h hM hM2 hM3 hd' hgd hbad hvn
          go_upto_region 14 with fail
          go_region
          all_goals
            go_wp2
            go_ret2
            exact ⟨rfl, (by repeat (first | exact hB3.out | refine Below.drew ?_))⟩
        | some n =>
          obtain rfl := hvn n hnf
          have ht2 := hgd.out n hnf
          have e1 : (some n : Option Nat).isSome = true := rfl
          obtain ⟨a3, c3, rfl⟩ := own_slB hM3.out.own
          have k0 := hM3.out.c0
          have k1 := hM3.out.f0
          have kl := hM3.out.lt
          have hrow := Lib.hid hM3.out.own
          have hnl : (nI ns).length = j := by rw [nI_len]; exact t1
          have hsz := hM3.out.b.size
          replace ht2 := Lib.hid ht2
          clear hgd hbad hM2 hM hnf u0 u1
          go_wp2_with (first | (at_builtin; refine wpl_append_int rfl _ _ _ rfl (by kernel_rfl) (wd.heap.size + 1) _ (nI ns) j rfl (hrow.out.alloc _) hnl (by omega) (by simp only [World.size_alloc]; omega) w3.heap.size (n : Int) rfl (by go_simp) ?_; intro v' w4 hown' hgr hbel hloc; have hP4 := Lib.hid (hM3.out.push (below_alloc _ _) hown' hgr ⟨_, _, _, (own_slB hown').choose_spec.choose_spec⟩); obtain ⟨av, cv, rfl⟩ := own_slB hown'; have hz4 := hgr.size; have nb : some wd.heap.size ≠ (Value.slice a3 j c3).ownBlock := (fun e => by have := (hrow.out.lt _ e.symm).1; omega); have y0 := (World.cell?_of_block (a := ⟨wd.heap.size, 0, none⟩) (hgr.block _ (by simp only [World.size_alloc]; omega) nb)).trans ((World.cell?_alloc_lt _ _ ⟨wd.heap.size, 0, none⟩ kl).trans k0); have y1 := (World.frozen?_of_block (a := ⟨wd.heap.size, 0, none⟩) (hgr.block _ (by simp only [World.size_alloc]; omega) nb)).trans ((World.frozen?_alloc_old _ _ ⟨wd.heap.size, 0, none⟩ (Nat.ne_of_lt kl)).trans k1); have yl : wd.heap.size < w4.heap.size := Nat.lt_of_lt_of_le (by simp only [World.size_alloc]; omega) hz4; clear hown' hgr hbel hloc k0 k1) | fail)
          go_roundw
          case rel => exact ⟨j + 1, _, _, _, _, by omega, by go_num, rfl, rfl, ht2.out, hP4.out⟩
          case measure => simp [intOf]; omega
    · have g1 : decide ((j : Int) < 2) = false := by rw [decide_eq_false_iff_not]; omega
      obtain rfl : j = 2 := by omega
      have hsome := h.out.some ht
      obtain ⟨d0, d1, d2, dl⟩ := hd'.out _ hM.out.b
      obtain ⟨a3, c3, rfl⟩ := own_slB hM.out.own
      by_cases q2 : m = false
      · subst q2
        rw [if_pos rfl] at hsome
        have k0 := hM.out.c0
        have k1 := hM.out.c1
        have k2 := hM.out.f1
        have kl := hM.out.lt
        have hB5 : Below w.heap.size w (wr.setCell ⟨wd.heap.size, 1, none⟩ (.string (bS r))) := below_set hBr.out hbd.out.size _
        have hD := Lib.hid (hsome _ _ hB5 (hM.out.lns t1 rfl))
        unfold DeedC lnV at hD
        replace hB5 := Lib.hid hB5
        clear hsome h hd' ht hM u0 u1
        go_wp2_with fail
        refine hD.out.mono ?_; rintro e w6 ⟨rfl, hb6⟩
        have hB6 := Lib.hid (below_seq hB5.out hb6)
        clear hb6
        go_wp2
        go_ret2
        exact ⟨rfl, hB6.out⟩
      · rw [if_neg q2] at hsome
        obtain ⟨rfl, rfl⟩ := hsome
        cases m
        · first
          | (exfalso; exact q2 rfl)
          | (clear h hd' ht hM
             go_upto_region 18 with fail
             go_region
             all_goals
               go_wp2
               go_ret2
               exact ⟨rfl, (by repeat (first | exact hBr.out | refine Below.drew ?_))⟩)
        · first
          | (exfalso; exact q2 rfl)
          | (clear h hd' ht hM
             go_upto_region 18 with fail
             go_region
             all_goals
               go_wp2
               go_ret2
               exact ⟨rfl, (by repeat (first | exact hBr.out | refine Below.drew ?_))⟩)
set_option maxHeartbeats 16000000 in
theorem read_shares (s : List UInt8) (w : World) (R : RunAt w) (hl : s.length ≤ 3000) (hw : (cutW s).1 = [115, 104, 97, 114, 101, 115]) (out : List UInt8) (c : Int) (hc : ErrR c) (h : LineR 3 false 149 (cutW s).2.1 (cutW s).2.2 w out c) :
    Calls Tryz.prog 60 #[.string (bS s)] w fun e w' => e = .returned (.tuple #[.string (bS out), errR c]) ∧ Below w.heap.size w w' := by
  have hC := Lib.hid (cut_c s w hl R)
  have hr0 := (cutW_len s).2
  rw [hw] at hC
  generalize (cutW s).2.1 = r0 at *
  generalize (cutW s).2.2 = m0 at *
  replace h := Lib.hid h
  have R' := Lib.hid R
  clear R hw
  go_enter Tryz.func60, Tryz.ntmps60
  go_wp2_with fail
  refine hC.out.mono ?_; rintro e w1 ⟨rfl, hb1⟩
  replace hb1 := Lib.hid hb1
  clear hC
  have hlk := look_c (w1.alloc (dM 9)) w1.heap.size (bS [115, 104, 97, 114, 101, 115]) (some (8, dV 3 false 149)) (heap_alloc_new w1 _) rfl
  have hbw := Lib.hid (balloc hb1.out (dM 9))
  simp only [Option.map_some, Option.getD_some, Option.isSome_some] at hlk
  unfold dV at hlk
  have hsf : (store ⟨w1.heap.size + 1, 2, none⟩ (.func (.func 149) #[] #[])).run Tryz.prog ((w1.alloc (dM 9)).alloc (.cells #[.int .i64 3, .bool false, .nilFunc] 138)) = .ok () ((w1.alloc (dM 9)).alloc (.cells #[.int .i64 3, .bool false, .func (.func 149) #[] #[]] 138)) := by
    rw [run_store Tryz.prog _ _ _ _ (by rfl)]
    have hsc := World.setCell_alloc_at (w := w1.alloc (dM 9)) #[.int .i64 3, .bool false, .nilFunc] 138 (w1.heap.size + 1) 2 (.func (.func 149) #[] #[]) (by simp)
    simp
    exact hsc
  go_wp2_with fail
  refine (deeds_c w1).mono ?_; rintro e w2 ⟨rfl, rfl⟩
  go_upto_region 5 with fail
  have hbd := balloc hbw.out (.cells #[.int .i64 3, .bool false, .func (.func 149) #[] #[]] 138)
  have dd : ∀ W : World, W.heap.size = w1.heap.size + 1 → (W.alloc (.cells #[.int .i64 3, .bool false, .func (.func 149) #[] #[]] 138)).cell? ⟨w1.heap.size + 1, 0, none⟩ = some (.int .i64 3) ∧ (W.alloc (.cells #[.int .i64 3, .bool false, .func (.func 149) #[] #[]] 138)).cell? ⟨w1.heap.size + 1, 1, none⟩ = some (.bool false) ∧ (W.alloc (.cells #[.int .i64 3, .bool false, .func (.func 149) #[] #[]] 138)).cell? ⟨w1.heap.size + 1, 2, none⟩ = some (.func (.func 149) #[] #[]) ∧ w1.heap.size + 1 < (W.alloc (.cells #[.int .i64 3, .bool false, .func (.func 149) #[] #[]] 138)).heap.size := fun W hW => by
    rw [← hW]; exact ⟨by simp, by simp, by simp, by simp⟩
  have hd := dd (w1.alloc (dM 9)) (by simp)
  clear dd hlk hsf
  generalize (w1.alloc (dM 9)).alloc (.cells #[.int .i64 3, .bool false, .func (.func 149) #[] #[]] 138) = wd at *
  have hst := LnM.start wd
  have hd' := Lib.hid (fun (w' : World) (hb : Below wd.heap.size wd w') => (⟨((bcell hb).1 _ _ hd.2.2.2).trans hd.1, ((bcell hb).1 _ _ hd.2.2.2).trans hd.2.1, ((bcell hb).1 _ _ hd.2.2.2).trans hd.2.2.1, Nat.lt_of_lt_of_le hd.2.2.2 hb.size⟩ : w'.cell? ⟨w1.heap.size + 1, 0, none⟩ = some (.int .i64 3) ∧ w'.cell? ⟨w1.heap.size + 1, 1, none⟩ = some (.bool false) ∧ w'.cell? ⟨w1.heap.size + 1, 2, none⟩ = some (.func (.func 149) #[] #[]) ∧ w1.heap.size + 1 < w'.heap.size))
  obtain ⟨d0, d1, d2, dl⟩ := hd'.out _ hst.b
  replace hbd := Lib.hid hbd
  clear hd hbw hb1
  go_upto_region 6 with fail
  generalize wd.alloc (.cells #[.slice none 0 0, .string ⟨#[]⟩] 143) = wl at *
  replace hst := Lib.hid hst
  go_wp2_with fail
  clear d0 d1 d2 dl
  go_loopw [5, 6, 31] (fun v5 v6 i wr => ∃ (j : Nat) (ns : List Nat) (r : List UInt8) (m : Bool) (v : Value), j ≤ 3 ∧ i = .int .i64 j ∧ v5 = .string (bS r) ∧ v6 = .bool m ∧ takeN j r0 m0 = some (ns, r, m) ∧ LnM wd wr j ns v) (fun _ _ i _ => 3 - (intOf i).toNat)
  case atStart => exact ⟨0, [], r0, m0, _, Nat.zero_le _, rfl, rfl, rfl, rfl, hst.out⟩
  case round =>
    clear hst
    obtain ⟨j, ns, r, m, v, hj, rfl, rfl, rfl, ht, hM⟩ := hrel
    replace hM := Lib.hid hM
    obtain ⟨t1, t2, t3⟩ := takeN_spec _ _ _ _ _ _ ht
    have hBr := Lib.hid (hbd.out.trans (hM.out.b.mono hbd.out.size))
    have Rr := Lib.hid (R'.out.below hBr.out)
    obtain ⟨u0, u1⟩ := Rr.out.U
    by_cases q1 : j < 3
    · have g1 : decide ((j : Int) < 3) = true := by rw [decide_eq_true_iff]; omega
      cases m
      · obtain ⟨rfl, rfl⟩ := h.out.none (takeN_none (takeN_more ht) _ (by omega))
        clear h hM hd'
        go_upto_region 9 with fail
        go_region
        all_goals
          go_wp2
          go_ret2
          exact ⟨rfl, (by repeat (first | exact hBr.out | refine Below.drew ?_))⟩
      · have hC2 := Lib.hid (cut_c r _ (by omega) Rr.out)
        have hlr := (cutW_len r).1
        clear u0 u1
        go_wp2_with fail
        refine hC2.out.mono ?_; rintro e w2 ⟨rfl, hb2⟩
        have R2 := Rr.out.below hb2
        have hM2 := Lib.hid (hM.out.below hb2)
        have hB2 := Lib.hid (below_seq hBr.out hb2)
        have hN2 := Lib.hid (number_c (cutW r).1 w2 (by omega) R2.T R2.S R2.R)
        have hgd := fun n => takeN_good (n := n) ht
        have hbad := takeN_bad ht
        replace hgd := Lib.hid hgd
        replace hbad := Lib.hid hbad
        have hlr2 := (cutW_len r).2
        generalize (cutW r).1 = wd2 at *
        generalize (cutW r).2.1 = r2 at *
        generalize (cutW r).2.2 = m2 at *
        replace R2 := Lib.hid R2
        clear hC2 hb2
        go_wp2_with fail
        refine hN2.out.mono ?_; rintro e w3 ⟨vn, rfl, hvn, hb3⟩
        have hM3 := Lib.hid (hM2.out.below hb3)
        have hB3 := Lib.hid (below_seq hB2.out hb3)
        obtain ⟨u0, u1⟩ := (R2.out.below hb3).U
        clear hN2 hb3
        cases hnf : numF wd2 with
        | none =>
          obtain ⟨rfl, rfl⟩ := h.out.none (takeN_none (hbad.out hnf) _ (by omega))
          rw [hnf] at hvn
          have e1 : (none : Option Nat).isSome = false := rfl
          clear h hM hM2 hM3 hd' hgd hbad hvn
          go_upto_region 14 with fail
          go_region
          all_goals
            go_wp2
            go_ret2
            exact ⟨rfl, (by repeat (first | exact hB3.out | refine Below.drew ?_))⟩
        | some n =>
          obtain rfl := hvn n hnf
          have ht2 := hgd.out n hnf
          have e1 : (some n : Option Nat).isSome = true := rfl
          obtain ⟨a3, c3, rfl⟩ := own_slB hM3.out.own
          have k0 := hM3.out.c0
          have k1 := hM3.out.f0
          have kl := hM3.out.lt
          have hrow := Lib.hid hM3.out.own
          have hnl : (nI ns).length = j := by rw [nI_len]; exact t1
          have hsz := hM3.out.b.size
          replace ht2 := Lib.hid ht2
          clear hgd hbad hM2 hM hnf u0 u1
          go_wp2_with (first | (at_builtin; refine wpl_append_int rfl _ _ _ rfl (by kernel_rfl) (wd.heap.size + 1) _ (nI ns) j rfl (hrow.out.alloc _) hnl (by omega) (by simp only [World.size_alloc]; omega) w3.heap.size (n : Int) rfl (by go_simp) ?_; intro v' w4 hown' hgr hbel hloc; have hP4 := Lib.hid (hM3.out.push (below_alloc _ _) hown' hgr ⟨_, _, _, (own_slB hown').choose_spec.choose_spec⟩); obtain ⟨av, cv, rfl⟩ := own_slB hown'; have hz4 := hgr.size; have nb : some wd.heap.size ≠ (Value.slice a3 j c3).ownBlock := (fun e => by have := (hrow.out.lt _ e.symm).1; omega); have y0 := (World.cell?_of_block (a := ⟨wd.heap.size, 0, none⟩) (hgr.block _ (by simp only [World.size_alloc]; omega) nb)).trans ((World.cell?_alloc_lt _ _ ⟨wd.heap.size, 0, none⟩ kl).trans k0); have y1 := (World.frozen?_of_block (a := ⟨wd.heap.size, 0, none⟩) (hgr.block _ (by simp only [World.size_alloc]; omega) nb)).trans ((World.frozen?_alloc_old _ _ ⟨wd.heap.size, 0, none⟩ (Nat.ne_of_lt kl)).trans k1); have yl : wd.heap.size < w4.heap.size := Nat.lt_of_lt_of_le (by simp only [World.size_alloc]; omega) hz4; clear hown' hgr hbel hloc k0 k1) | fail)
          go_roundw
          case rel => exact ⟨j + 1, _, _, _, _, by omega, by go_num, rfl, rfl, ht2.out, hP4.out⟩
          case measure => simp [intOf]; omega
    · have g1 : decide ((j : Int) < 3) = false := by rw [decide_eq_false_iff_not]; omega
      obtain rfl : j = 3 := by omega
      have hsome := h.out.some ht
      obtain ⟨d0, d1, d2, dl⟩ := hd'.out _ hM.out.b
      obtain ⟨a3, c3, rfl⟩ := own_slB hM.out.own
      by_cases q2 : m = false
      · subst q2
        rw [if_pos rfl] at hsome
        have k0 := hM.out.c0
        have k1 := hM.out.c1
        have k2 := hM.out.f1
        have kl := hM.out.lt
        have hB5 : Below w.heap.size w (wr.setCell ⟨wd.heap.size, 1, none⟩ (.string (bS r))) := below_set hBr.out hbd.out.size _
        have hD := Lib.hid (hsome _ _ hB5 (hM.out.lns t1 rfl))
        unfold DeedC lnV at hD
        replace hB5 := Lib.hid hB5
        clear hsome h hd' ht hM u0 u1
        go_wp2_with fail
        refine hD.out.mono ?_; rintro e w6 ⟨rfl, hb6⟩
        have hB6 := Lib.hid (below_seq hB5.out hb6)
        clear hb6
        go_wp2
        go_ret2
        exact ⟨rfl, hB6.out⟩
      · rw [if_neg q2] at hsome
        obtain ⟨rfl, rfl⟩ := hsome
        cases m
        · first
          | (exfalso; exact q2 rfl)
          | (clear h hd' ht hM
             go_upto_region 18 with fail
             go_region
             all_goals
               go_wp2
               go_ret2
               exact ⟨rfl, (by repeat (first | exact hBr.out | refine Below.drew ?_))⟩)
        · first
          | (exfalso; exact q2 rfl)
          | (clear h hd' ht hM
             go_upto_region 18 with fail
             go_region
             all_goals
               go_wp2
               go_ret2
               exact ⟨rfl, (by repeat (first | exact hBr.out | refine Below.drew ?_))⟩)
set_option maxHeartbeats 16000000 in
theorem read_no (s : List UInt8) (w : World) (R : RunAt w) (hl : s.length ≤ 3000) (hw : (cutW s).1 ∉ ([[98, 97, 115, 101], [108, 105, 102, 116], [111, 114, 100, 101, 114], [104, 97, 115, 104], [112, 97, 105, 114], [115, 105, 103, 110], [115, 104, 111, 114, 116], [104, 105, 100, 101], [115, 104, 97, 114, 101, 115]] : List (List UInt8))) :
    Calls Tryz.prog 60 #[.string (bS s)] w fun e w' => e = .returned (.tuple #[.string (bS []), errR (-1)]) ∧ Below w.heap.size w w' := by
  have hC := Lib.hid (cut_c s w hl R)
  have hfn : Instr.findNow .string (.string (bS (cutW s).1)) deedsL 0 = some none := by
    simp only [List.mem_cons, List.not_mem_nil, or_false, not_or] at hw
    obtain ⟨n1, n2, n3, n4, n5, n6, n7, n8, n9⟩ := hw
    have b1 := beq_bS _ _ n1
    have b2 := beq_bS _ _ n2
    have b3 := beq_bS _ _ n3
    have b4 := beq_bS _ _ n4
    have b5 := beq_bS _ _ n5
    have b6 := beq_bS _ _ n6
    have b7 := beq_bS _ _ n7
    have b8 := beq_bS _ _ n8
    have b9 := beq_bS _ _ n9
    unfold bS at b1 b2 b3 b4 b5 b6 b7 b8 b9 ⊢
    unfold deedsL
    simp only [Instr.findNow, Instr.sameNow, b1, b2, b3, b4, b5, b6, b7, b8, b9]
  generalize (cutW s).2.1 = r0 at *
  generalize (cutW s).2.2 = m0 at *
  generalize (cutW s).1 = wd at *
  have R' := Lib.hid R
  clear R hw
  go_enter Tryz.func60, Tryz.ntmps60
  go_wp2_with fail
  refine hC.out.mono ?_; rintro e w1 ⟨rfl, hb1⟩
  replace hb1 := Lib.hid hb1
  clear hC
  have hlk := look_c (w1.alloc (dM 9)) w1.heap.size (bS wd) none (heap_alloc_new w1 _) hfn
  have hbw := Lib.hid (balloc hb1.out (dM 9))
  simp only [Option.map_none, Option.getD_none, Option.isSome_none] at hlk
  unfold zeroD at hlk
  clear hfn
  have hsf : (store ⟨w1.heap.size + 1, 2, none⟩ .nilFunc).run Tryz.prog ((w1.alloc (dM 9)).alloc (.cells #[.int .i64 0, .bool false, .nilFunc] 138)) = .ok () ((w1.alloc (dM 9)).alloc (.cells #[.int .i64 0, .bool false, .nilFunc] 138)) := by
    rw [run_store Tryz.prog _ _ _ _ (by rfl)]
    have hsc := World.setCell_alloc_at (w := w1.alloc (dM 9)) #[.int .i64 0, .bool false, .nilFunc] 138 (w1.heap.size + 1) 2 .nilFunc (by simp)
    simp
    exact hsc
  obtain ⟨u0, u1⟩ := ((R'.out.below hbw.out).below (below_alloc _ (.cells #[.int .i64 0, .bool false, .nilFunc] 138))).U
  have hbz := Lib.hid (balloc hbw.out (.cells #[.int .i64 0, .bool false, .nilFunc] 138))
  go_wp2_with fail
  refine (deeds_c w1).mono ?_; rintro e w2 ⟨rfl, rfl⟩
  go_upto_region 4 with fail
  go_region
  all_goals
    go_wp2
    go_ret2
    exact ⟨rfl, (by repeat (first | exact hbz.out | refine Below.drew ?_))⟩
end Go.Proofs.YtjjmelhhalomaaaGreatDoor
namespace Go.Proofs.YtjjmelhhalomaaaGreatDoor
open Go.RowKit
set_option maxRecDepth 100000
set_option linter.unusedVariables false
set_option linter.unusedSimpArgs false
set_option maxHeartbeats 1000000 in
theorem pairOf_farl (a b : Sp) (w : World) (hO : OneAt w) (h : a.far = true) : Calls Tryz.prog 166 #[spV a, spV b] w fun e w' => e = .returned (.agg #[.int .i64 1, .int .i64 0]) ∧ Below w.heap.size w w' := by
  obtain ⟨x, y, f⟩ := a; obtain ⟨u, v, g⟩ := b
  subst h
  obtain ⟨q0, q1, ql⟩ := hO
  have q2 : 0 < w.heap.size := Nat.lt_of_le_of_lt (Nat.zero_le _) ql
  go_enter Tryz.func166, Tryz.ntmps166
  go_wp2
  refine bodyPost_ret (v := .agg #[.int .i64 1, .int .i64 0]) (by simp [results, Tryz.results166, go_sem]) rfl ⟨rfl, (by repeat (first | exact Below.refl _ _ | refine balloc ?_ _ | refine Below.drew ?_ | refine below_drewN ?_ _ | refine below_set ?_ (by first | omega | (dsimp only; omega)) _))⟩
set_option maxHeartbeats 1000000 in
theorem pairOf_farr (a b : Sp) (w : World) (hO : OneAt w) (h0 : a.far = false) (h : b.far = true) : Calls Tryz.prog 166 #[spV a, spV b] w fun e w' => e = .returned (.agg #[.int .i64 1, .int .i64 0]) ∧ Below w.heap.size w w' := by
  obtain ⟨x, y, f⟩ := a; obtain ⟨u, v, g⟩ := b
  subst h; subst h0
  obtain ⟨q0, q1, ql⟩ := hO
  have q2 : 0 < w.heap.size := Nat.lt_of_le_of_lt (Nat.zero_le _) ql
  go_enter Tryz.func166, Tryz.ntmps166
  go_wp2
  refine bodyPost_ret (v := .agg #[.int .i64 1, .int .i64 0]) (by simp [results, Tryz.results166, go_sem]) rfl ⟨rfl, (by repeat (first | exact Below.refl _ _ | refine balloc ?_ _ | refine Below.drew ?_ | refine below_drewN ?_ _ | refine below_set ?_ (by first | omega | (dsimp only; omega)) _))⟩
/-- What pair.Of keeps in memory. -/
structure PMem (w wr : World) (g h : Nat) (a b : Sp) (f : Z) (t : Sp) : Prop where
  bel : Below w.heap.size w wr
  sa : SpAt wr w.heap.size a
  sb : SpAt wr (w.heap.size + 1) b
  sr : TwAt wr (w.heap.size + 1 + 1) ⟨0, 0⟩
  sg : TwAt wr g f
  sh : SpAt wr h t
  hg : w.heap.size + 1 + 1 < g
  hh : w.heap.size + 1 + 1 < h
  ne : g ≠ h
theorem PMem.below {w wr w1 : World} {g h : Nat} {a b : Sp} {f : Z} {t : Sp} (m : PMem w wr g h a b f t) (hb : Below wr.heap.size wr w1) : PMem w w1 g h a b f t :=
  ⟨below_seq m.bel hb, m.sa.below hb, m.sb.below hb, m.sr.below hb, m.sg.below hb, m.sh.below hb, m.hg, m.hh, m.ne⟩
theorem PMem.setG {w wr : World} {g h : Nat} {a b : Sp} {f : Z} {t : Sp} (m : PMem w wr g h a b f t) (v : Z) : PMem w ((wr.setCell ⟨g, 0, none⟩ (.int .i64 (fz v.re))).setCell ⟨g, 1, none⟩ (.int .i64 (fz v.im))) g h a b v t := by
  obtain ⟨bel, sa, sb, sr, sg, sh, hg, hh, ne⟩ := m
  exact ⟨set2_below bel (by omega), (sa.other _ (by omega)).other _ (by omega), (sb.other _ (by omega)).other _ (by omega), (sr.other _ (by omega)).other _ (by omega), sg.set2 v, (sh.other _ ne).other _ ne, hg, hh, ne⟩
theorem PMem.setH {w wr : World} {g h : Nat} {a b : Sp} {f : Z} {t : Sp} (m : PMem w wr g h a b f t) (v : Sp) : PMem w (((wr.setCell ⟨h, 0, none⟩ (.int .i64 v.x)).setCell ⟨h, 1, none⟩ (.int .i64 v.y)).setCell ⟨h, 2, none⟩ (.bool v.far)) g h a b f v := by
  obtain ⟨bel, sa, sb, sr, sg, sh, hg, hh, ne⟩ := m
  exact ⟨set3_below bel (by omega), ((sa.other _ (by omega)).other _ (by omega)).other _ (by omega), ((sb.other _ (by omega)).other _ (by omega)).other _ (by omega), ((sr.other _ (by omega)).other _ (by omega)).other _ (by omega), ((sg.other _ ne.symm).other _ ne.symm).other _ ne.symm, sh.set3 v, hg, hh, ne⟩
theorem TwAt.one_of {w : World} {b : Nat} (h0 : w.cell? ⟨b, 0, none⟩ = some (.int .i64 1)) (h1 : w.cell? ⟨b, 1, none⟩ = some (.int .i64 0)) (f0 : w.frozen? ⟨b, 0, none⟩ = false) (f1 : w.frozen? ⟨b, 1, none⟩ = false) (hl : b < w.heap.size) : TwAt w b .one := ⟨h0, h1, f0, f1, hl⟩
theorem TwAt.zero_of {w : World} {b : Nat} (h0 : w.cell? ⟨b, 0, none⟩ = some (.int .i64 0)) (h1 : w.cell? ⟨b, 1, none⟩ = some (.int .i64 0)) (f0 : w.frozen? ⟨b, 0, none⟩ = false) (f1 : w.frozen? ⟨b, 1, none⟩ = false) (hl : b < w.heap.size) : TwAt w b ⟨0, 0⟩ := ⟨h0, h1, f0, f1, hl⟩
/-- The steps that are left. -/
def restN : Nat → List Bool
  | 0 => []
  | 1 => false :: true :: restN 0
  | 2 => false :: restN 1
  | 3 => false :: true :: restN 2
  | 4 => false :: restN 3
  | n+1 => false :: true :: restN n
def bitOf (n : Nat) : Bool := n != 4 && n != 2
theorem rest_yes {n : Nat} (h1 : 1 ≤ n) (h2 : n ≤ 9) (hb : bitOf n = true) : restN n = false :: true :: restN (n - 1) := by
  have hk : n = 1 ∨ n = 2 ∨ n = 3 ∨ n = 4 ∨ n = 5 ∨ n = 6 ∨ n = 7 ∨ n = 8 ∨ n = 9 := by omega
  rcases hk with rfl | rfl | rfl | rfl | rfl | rfl | rfl | rfl | rfl <;> first | rfl | cases hb
theorem rest_no {n : Nat} (hb : bitOf n = false) : restN n = false :: restN (n - 1) := by
  have hk : n = 4 ∨ n = 2 := by unfold bitOf at hb; simp at hb; omega
  rcases hk with rfl | rfl <;> rfl
theorem rest_all : restN 9 = goOps ++ [true] := rfl
theorem sum_o {a b : Sp} (ha : Ok a) (hb : Ok b) : Ok (sSum a b) := (sum_ok ha hb).1
set_option maxHeartbeats 4000000 in
theorem pairOf_c (a b : Sp) (w : World) (hF : FarAt w) (hO : OneAt w) (ha : Ok a) (hb : Ok b) (fa : a.far = false) (fb : b.far = false) : Calls Tryz.prog 166 #[spV a, spV b] w fun e w' => e = .returned (twR (zP goOps a b)) ∧ Below w.heap.size w w' := by
  have hF' := Lib.hid hF
  have hO' := Lib.hid hO
  clear hF
  obtain ⟨q0, q1, ql⟩ := hO
  have q2 : 0 < w.heap.size := Nat.lt_of_le_of_lt (Nat.zero_le _) ql
  have q3 : 6 < w.heap.size + 1 := by omega
  have q4 : 6 < w.heap.size + 1 + 1 := by omega
  have q5 : 6 < w.heap.size + 1 + 1 + 1 := by omega
  have q6 : 6 < w.heap.size + 1 + 1 + 1 + 1 := by omega
  have q7 : 6 < w.heap.size + 1 + 1 + 1 + 1 + 1 := by omega
  have q8 : 6 < w.heap.size + 1 + 1 + 1 + 1 + 1 + 1 := by omega
  go_enter Tryz.func166, Tryz.ntmps166
  go_upto_region 3 with fail
  go_cut [5, 6] (fun s5 s6 wx => ∃ g h : Nat, s5 = .pointer (some ⟨g, 0, none⟩) ∧ s6 = .pointer (some ⟨h, 0, none⟩) ∧ PMem w wx g h a b .one a)
  case first =>
    go_region
    all_goals
      go_wp2_with fail
      go_meet
      refine ⟨_, _, rfl, rfl, ?_, ?_, ?_, TwAt.zero_of (by go_simp) (by go_simp) (by go_simp) (by go_simp) (by simp), TwAt.one_of (by go_simp) (by go_simp) (by go_simp) (by go_simp) (by simp), ?_, by omega, by omega, by omega⟩
      · repeat (first | exact Below.refl _ _ | refine balloc ?_ _ | refine Below.drew ?_)
      · constructor <;> go_simp
      · constructor <;> go_simp
      · constructor <;> go_simp
  case rest =>
    obtain ⟨g, h, rfl, rfl, m⟩ := hcut
    clear q0 q1 ql q2 fa fb
    have m := Lib.hid m
    have hr0 : Hid ((restN 9).foldl (mstep a b) (.one, a) = mrun a b (goOps ++ [true])) := by show _ = _; rw [rest_all]; rfl
    go_wp2_with fail
    refine (len_c _).mono ?_; rintro e w0 ⟨rfl, hb0⟩
    have m0 := Lib.hid (m.out.below hb0)
    clear m hb0
    go_wp2
    go_loopw [7] (fun s7 wr => ∃ (n : Nat) (f : Z) (t : Sp), n ≤ 9 ∧ s7 = .int .i64 ((n : Int) - 1) ∧ PMem w wr g h a b f t ∧ Ok t ∧ (restN n).foldl (mstep a b) (f, t) = mrun a b (goOps ++ [true])) (fun s7 _ => (intOf s7 + 1).toNat)
    case atStart => exact ⟨9, .one, a, by omega, rfl, m0.out, ha, hr0.out⟩
    case round =>
      clear m0 hr0
      obtain ⟨n, f, t, hn, rfl, m, ht, hr⟩ := hrel
      have m := Lib.hid m
      have hr := Lib.hid hr
      by_cases h0 : n = 0
      · subst h0
        obtain ⟨bel, ⟨a0, a1, a2, fa0, fa1, fa2, al⟩, ⟨b0, b1, b2, fb0, fb1, fb2, bl⟩, ⟨r0, r1, fr0, fr1, rl⟩, ⟨g0, g1, fg0, fg1, gl⟩, ⟨h0, h1, h2, fh0, fh1, fh2, hl⟩, hg, hh, ne⟩ := m.out
        have hW : Hid (f.pow (16200 : Int).toNat = zP goOps a b) := by
          have e : (f, t) = mrun a b (goOps ++ [true]) := hr.out
          show _ = _; unfold zP zM; rw [← e]; rfl
        go_wp2_with fail
        refine (power_z f 16200 _ (by omega) (by omega)).mono ?_; rintro e w1 ⟨rfl, hb1⟩
        generalize hV : f.pow (16200 : Int).toNat = V at *
        have hV2 := Lib.hid hV
        clear hV
        have m1 := m.out.below hb1
        clear bel a0 a1 a2 fa0 fa1 fa2 al b0 b1 b2 fb0 fb1 fb2 bl r0 r1 fr0 fr1 rl g0 g1 fg0 fg1 gl h0 h1 h2 fh0 fh1 fh2 hl hg hh ne hb1
        obtain ⟨bel, ⟨a0, a1, a2, fa0, fa1, fa2, al⟩, ⟨b0, b1, b2, fb0, fb1, fb2, bl⟩, ⟨r0, r1, fr0, fr1, rl⟩, ⟨g0, g1, fg0, fg1, gl⟩, ⟨h0, h1, h2, fh0, fh1, fh2, hl⟩, hg, hh, ne⟩ := m1
        go_wp2
        have k := set2_cell (w := w1) (x := .int .i64 (fz V.re)) (y := .int .i64 (fz V.im)) r0 r1
        refine bodyPost_ret (v := twR V) (by simp [results, Tryz.results166, go_sem, k.1, k.2]) rfl ⟨by rw [hW.out], set2_below bel (by omega)⟩
      · have hn1 : 1 ≤ n := by omega
        clear h0
        have mm := m.out
        obtain ⟨bel, ⟨a0, a1, a2, fa0, fa1, fa2, al⟩, ⟨b0, b1, b2, fb0, fb1, fb2, bl⟩, ⟨r0, r1, fr0, fr1, rl⟩, ⟨g0, g1, fg0, fg1, gl⟩, ⟨h0, h1, h2, fh0, fh1, fh2, hl⟩, hg, hh, ne⟩ := mm
        go_wp2_with fail
        refine wp_region_grow_tail 8 Tryz.mixed (by kernel_rfl) ?_
        simp only [List.take_succ_cons, List.take_zero, List.drop_succ_cons, List.drop_zero]
        repeat (quiet_step ((first | (go_at_call 182; exact grow_of (mul_z _ _ _)) | (go_at_call 183; exact grow_of (line_c t t b _ (hO'.out.below (below_seq bel (Grew.h _))) ht hb)))))
        refine wpQuiet_nil ?_
        intro _ hw'
        obtain ⟨x1, rfl⟩ := hw'
        have m1 := m.out.below x1.h
        have n1 := Lib.hid m1
        clear m
        clear bel a0 a1 a2 fa0 fa1 fa2 al b0 b1 b2 fb0 fb1 fb2 bl r0 r1 fr0 fr1 rl g0 g1 fg0 fg1 gl h0 h1 h2 fh0 fh1 fh2 hl hg hh ne
        obtain ⟨bel, ⟨a0, a1, a2, fa0, fa1, fa2, al⟩, ⟨b0, b1, b2, fb0, fb1, fb2, bl⟩, ⟨r0, r1, fr0, fr1, rl⟩, ⟨g0, g1, fg0, fg1, gl⟩, ⟨h0, h1, h2, fh0, fh1, fh2, hl⟩, hg, hh, ne⟩ := m1
        go_wp2_with fail
        refine (sum_e t t (sSum t t) _ (hF'.out.below (n1.out.setG _).bel) ht ht rfl).mono ?_; rintro e w2 ⟨rfl, hb2⟩
        have m2 := (n1.out.setG ((f.mul f).mul (zLine t t b))).below hb2
        have n2 := Lib.hid m2
        clear n1 hb2
        clear bel a0 a1 a2 fa0 fa1 fa2 al b0 b1 b2 fb0 fb1 fb2 bl r0 r1 fr0 fr1 rl g0 g1 fg0 fg1 gl h0 h1 h2 fh0 fh1 fh2 hl hg hh ne
        obtain ⟨bel, ⟨a0, a1, a2, fa0, fa1, fa2, al⟩, ⟨b0, b1, b2, fb0, fb1, fb2, bl⟩, ⟨r0, r1, fr0, fr1, rl⟩, ⟨g0, g1, fg0, fg1, gl⟩, ⟨h0, h1, h2, fh0, fh1, fh2, hl⟩, hg, hh, ne⟩ := m2
        have n2s := Lib.hid (n2.out.setH (sSum t t))
        go_upto_region 9 with fail
        go_cut [37] from 19 to 46 (fun s37 wx => s37 = .bool (bitOf n) ∧ PMem w wx g h a b ((f.mul f).mul (zLine t t b)) (sSum t t))
        case first =>
          clear bel a0 a1 a2 fa0 fa1 fa2 al b0 b1 b2 fb0 fb1 fb2 bl r0 r1 fr0 fr1 rl g0 g1 fg0 fg1 gl h0 h1 h2 fh0 fh1 fh2 hl hg hh ne
          have hk : n = 1 ∨ n = 2 ∨ n = 3 ∨ n = 4 ∨ n = 5 ∨ n = 6 ∨ n = 7 ∨ n = 8 ∨ n = 9 := by omega
          rcases hk with rfl | rfl | rfl | rfl | rfl | rfl | rfl | rfl | rfl
          all_goals
            go_wp2_with fail
            go_meet
            exact ⟨rfl, n2s.out⟩
        case rest =>
          clear bel a0 a1 a2 fa0 fa1 fa2 al b0 b1 b2 fb0 fb1 fb2 bl r0 r1 fr0 fr1 rl g0 g1 fg0 fg1 gl h0 h1 h2 fh0 fh1 fh2 hl hg hh ne n2 n2s
          obtain ⟨rfl, m3⟩ := hcut
          cases hbit : bitOf n
          · have hr2 : Hid ((restN (n - 1)).foldl (mstep a b) ((f.mul f).mul (zLine t t b), sSum t t) = mrun a b (goOps ++ [true])) := by
              have := hr.out; rw [rest_no hbit] at this; exact this
            go_wp2
            go_roundw
            case rel => exact ⟨n - 1, _, _, by omega, congrArg (Value.int .i64) (by omega), m3, sum_o ht ht, hr2.out⟩
            case measure => simp [intOf]; omega
          · have hr2 : Hid ((restN (n - 1)).foldl (mstep a b) (((f.mul f).mul (zLine t t b)).mul (zLine (sSum t t) a b), sSum (sSum t t) a) = mrun a b (goOps ++ [true])) := by
              have := hr.out; rw [rest_yes hn1 hn hbit] at this; exact this
            have n2 := Lib.hid m3
            obtain ⟨bel, ⟨a0, a1, a2, fa0, fa1, fa2, al⟩, ⟨b0, b1, b2, fb0, fb1, fb2, bl⟩, ⟨r0, r1, fr0, fr1, rl⟩, ⟨g0, g1, fg0, fg1, gl⟩, ⟨h0, h1, h2, fh0, fh1, fh2, hl⟩, hg, hh, ne⟩ := m3
            go_wp2_with fail
            refine wp_region_grow_tail 6 Tryz.mixed (by kernel_rfl) ?_
            simp only [List.take_succ_cons, List.take_zero, List.drop_succ_cons, List.drop_zero]
            repeat (quiet_step ((first | (go_at_call 182; exact grow_of (mul_z _ _ _)) | (go_at_call 183; exact grow_of (line_c (sSum t t) a b _ (hO'.out.below (below_seq bel (Grew.h _))) (sum_o ht ht) hb)))))
            refine wpQuiet_nil ?_
            intro _ hw'
            obtain ⟨x3, rfl⟩ := hw'
            have m3 := n2.out.below x3.h
            have n3 := Lib.hid m3
            clear n2
            clear bel a0 a1 a2 fa0 fa1 fa2 al b0 b1 b2 fb0 fb1 fb2 bl r0 r1 fr0 fr1 rl g0 g1 fg0 fg1 gl h0 h1 h2 fh0 fh1 fh2 hl hg hh ne
            obtain ⟨bel, ⟨a0, a1, a2, fa0, fa1, fa2, al⟩, ⟨b0, b1, b2, fb0, fb1, fb2, bl⟩, ⟨r0, r1, fr0, fr1, rl⟩, ⟨g0, g1, fg0, fg1, gl⟩, ⟨h0, h1, h2, fh0, fh1, fh2, hl⟩, hg, hh, ne⟩ := m3
            go_wp2_with fail
            refine (sum_e (sSum t t) a (sSum (sSum t t) a) _ (hF'.out.below (n3.out.setG _).bel) (sum_o ht ht) ha rfl).mono ?_; rintro e w4 ⟨rfl, hb4⟩
            have m4 := (n3.out.setG (((f.mul f).mul (zLine t t b)).mul (zLine (sSum t t) a b))).below hb4
            have n4 := Lib.hid m4
            clear n3 hb4
            clear bel a0 a1 a2 fa0 fa1 fa2 al b0 b1 b2 fb0 fb1 fb2 bl r0 r1 fr0 fr1 rl g0 g1 fg0 fg1 gl h0 h1 h2 fh0 fh1 fh2 hl hg hh ne
            obtain ⟨bel, ⟨a0, a1, a2, fa0, fa1, fa2, al⟩, ⟨b0, b1, b2, fb0, fb1, fb2, bl⟩, ⟨r0, r1, fr0, fr1, rl⟩, ⟨g0, g1, fg0, fg1, gl⟩, ⟨h0, h1, h2, fh0, fh1, fh2, hl⟩, hg, hh, ne⟩ := m4
            go_wp2
            go_roundw
            case rel => exact ⟨n - 1, _, _, by omega, congrArg (Value.int .i64) (by omega), n4.out.setH _, sum_o (sum_o ht ht) ha, hr2.out⟩
            case measure => simp [intOf]; omega
end Go.Proofs.YtjjmelhhalomaaaGreatDoor
namespace Go.Proofs.YtjjmelhhalomaaaGreatDoor
open Go.RowKit
set_option maxRecDepth 100000
set_option linter.unusedVariables false
set_option linter.unusedSimpArgs false
set_option maxHeartbeats 1000000 in
theorem ready_ok (a b : Sp) (i j : Int) (w : World) (hF : FarAt w) (ha : Hid (a = sq i)) (hb : Hid (b = sq j)) (h1 : Hid ((sq (i * 1013)).far = true)) (h2 : Hid ((sq (j * 1013)).far = true)) : Calls Tryz.prog 165 #[spV a, spV b] w fun e w' => e = .returned .nilIface ∧ Below w.heap.size w w' := by
  go_enter Tryz.func165, Tryz.ntmps165
  go_wp2_with fail
  refine (all_ok [a, b] _ 0 2 _ (hF.below (by repeat (first | exact Below.refl _ _ | refine balloc ?_ _ | refine Below.drew ?_ | refine below_drewN ?_ _ | refine below_set ?_ (by first | omega | (dsimp only; omega)) _))) (by simp) (spots_two a b _ _ (by simp) (by go_simp) (by go_simp) (by go_simp) (by go_simp) (by go_simp) (by go_simp)) (ok_two (ok_of ha.out) (ok_of hb.out))).mono ?_; rintro e w1 ⟨rfl, hb⟩
  obtain ⟨hc1, hf1⟩ := bcell hb
  have z1 := hb.size
  try simp only [World.size_alloc, World.size_setCell, World.size_drew] at z1
  have s1_0 : w.heap.size < w1.heap.size := by omega
  have s1_1 : w.heap.size + 1 < w1.heap.size := by omega
  have s1_2 : w.heap.size + 1 + 1 < w1.heap.size := by omega
  have hB1 : Below w.heap.size w w1 := below_seq (by repeat (first | exact Below.refl _ _ | refine balloc ?_ _ | refine Below.drew ?_ | refine below_drewN ?_ _ | refine below_set ?_ (by first | omega | (dsimp only; omega)) _)) hb
  clear hb
  go_wp2_with fail
  refine (inside_e a i true _ (hF.below (by repeat (first | exact hB1 | exact Below.refl _ _ | refine balloc ?_ _ | refine Below.drew ?_ | refine below_drewN ?_ _ | refine below_set ?_ (by first | omega | (dsimp only; omega)) _))) ha h1).mono ?_; rintro e w2 ⟨rfl, hb⟩
  obtain ⟨hc2, hf2⟩ := bcell hb
  have z2 := hb.size
  try simp only [World.size_alloc, World.size_setCell, World.size_drew] at z2
  have s2_0 : w.heap.size < w2.heap.size := by omega
  have s2_1 : w.heap.size + 1 < w2.heap.size := by omega
  have s2_2 : w.heap.size + 1 + 1 < w2.heap.size := by omega
  have hB2 : Below w.heap.size w w2 := below_seq (by repeat (first | exact hB1 | exact Below.refl _ _ | refine balloc ?_ _ | refine Below.drew ?_ | refine below_drewN ?_ _ | refine below_set ?_ (by first | omega | (dsimp only; omega)) _)) hb
  clear hb
  go_wp2_with fail
  refine (inside_e b j true _ (hF.below (by repeat (first | exact hB2 | exact Below.refl _ _ | refine balloc ?_ _ | refine Below.drew ?_ | refine below_drewN ?_ _ | refine below_set ?_ (by first | omega | (dsimp only; omega)) _))) hb h2).mono ?_; rintro e w3 ⟨rfl, hb⟩
  obtain ⟨hc3, hf3⟩ := bcell hb
  have z3 := hb.size
  try simp only [World.size_alloc, World.size_setCell, World.size_drew] at z3
  have s3_0 : w.heap.size < w3.heap.size := by omega
  have s3_1 : w.heap.size + 1 < w3.heap.size := by omega
  have s3_2 : w.heap.size + 1 + 1 < w3.heap.size := by omega
  have hB3 : Below w.heap.size w w3 := below_seq (by repeat (first | exact hB2 | exact Below.refl _ _ | refine balloc ?_ _ | refine Below.drew ?_ | refine below_drewN ?_ _ | refine below_set ?_ (by first | omega | (dsimp only; omega)) _)) hb
  clear hb
  go_wp2
  go_ret
  exact ⟨rfl, (by repeat (first | exact hB3 | exact Below.refl _ _ | refine balloc ?_ _ | refine Below.drew ?_ | refine below_drewN ?_ _ | refine below_set ?_ (by first | omega | (dsimp only; omega)) _))⟩
set_option maxHeartbeats 1000000 in
theorem ready_in (a b : Sp) (i j : Int) (w : World) (hF : FarAt w) (ha : Hid (a = sq i)) (hb : Hid (b = sq j)) (h1 : Hid ((sq (i * 1013)).far = false)) : Calls Tryz.prog 165 #[spV a, spV b] w fun e w' => e = .returned (.iface 84 (.int .i64 3)) ∧ Below w.heap.size w w' := by
  go_enter Tryz.func165, Tryz.ntmps165
  go_wp2_with fail
  refine (all_ok [a, b] _ 0 2 _ (hF.below (by repeat (first | exact Below.refl _ _ | refine balloc ?_ _ | refine Below.drew ?_ | refine below_drewN ?_ _ | refine below_set ?_ (by first | omega | (dsimp only; omega)) _))) (by simp) (spots_two a b _ _ (by simp) (by go_simp) (by go_simp) (by go_simp) (by go_simp) (by go_simp) (by go_simp)) (ok_two (ok_of ha.out) (ok_of hb.out))).mono ?_; rintro e w1 ⟨rfl, hb⟩
  obtain ⟨hc1, hf1⟩ := bcell hb
  have z1 := hb.size
  try simp only [World.size_alloc, World.size_setCell, World.size_drew] at z1
  have s1_0 : w.heap.size < w1.heap.size := by omega
  have s1_1 : w.heap.size + 1 < w1.heap.size := by omega
  have s1_2 : w.heap.size + 1 + 1 < w1.heap.size := by omega
  have hB1 : Below w.heap.size w w1 := below_seq (by repeat (first | exact Below.refl _ _ | refine balloc ?_ _ | refine Below.drew ?_ | refine below_drewN ?_ _ | refine below_set ?_ (by first | omega | (dsimp only; omega)) _)) hb
  clear hb
  go_wp2_with fail
  refine (inside_e a i false _ (hF.below (by repeat (first | exact hB1 | exact Below.refl _ _ | refine balloc ?_ _ | refine Below.drew ?_ | refine below_drewN ?_ _ | refine below_set ?_ (by first | omega | (dsimp only; omega)) _))) ha h1).mono ?_; rintro e w2 ⟨rfl, hb⟩
  obtain ⟨hc2, hf2⟩ := bcell hb
  have z2 := hb.size
  try simp only [World.size_alloc, World.size_setCell, World.size_drew] at z2
  have s2_0 : w.heap.size < w2.heap.size := by omega
  have s2_1 : w.heap.size + 1 < w2.heap.size := by omega
  have s2_2 : w.heap.size + 1 + 1 < w2.heap.size := by omega
  have hB2 : Below w.heap.size w w2 := below_seq (by repeat (first | exact hB1 | exact Below.refl _ _ | refine balloc ?_ _ | refine Below.drew ?_ | refine below_drewN ?_ _ | refine below_set ?_ (by first | omega | (dsimp only; omega)) _)) hb
  clear hb
  go_wp2
  go_ret
  exact ⟨rfl, (by repeat (first | exact hB2 | exact Below.refl _ _ | refine balloc ?_ _ | refine Below.drew ?_ | refine below_drewN ?_ _ | refine below_set ?_ (by first | omega | (dsimp only; omega)) _))⟩
set_option maxHeartbeats 1000000 in
theorem ready_in2 (a b : Sp) (i j : Int) (w : World) (hF : FarAt w) (ha : Hid (a = sq i)) (hb : Hid (b = sq j)) (h1 : Hid ((sq (i * 1013)).far = true)) (h2 : Hid ((sq (j * 1013)).far = false)) : Calls Tryz.prog 165 #[spV a, spV b] w fun e w' => e = .returned (.iface 84 (.int .i64 3)) ∧ Below w.heap.size w w' := by
  go_enter Tryz.func165, Tryz.ntmps165
  go_wp2_with fail
  refine (all_ok [a, b] _ 0 2 _ (hF.below (by repeat (first | exact Below.refl _ _ | refine balloc ?_ _ | refine Below.drew ?_ | refine below_drewN ?_ _ | refine below_set ?_ (by first | omega | (dsimp only; omega)) _))) (by simp) (spots_two a b _ _ (by simp) (by go_simp) (by go_simp) (by go_simp) (by go_simp) (by go_simp) (by go_simp)) (ok_two (ok_of ha.out) (ok_of hb.out))).mono ?_; rintro e w1 ⟨rfl, hb⟩
  obtain ⟨hc1, hf1⟩ := bcell hb
  have z1 := hb.size
  try simp only [World.size_alloc, World.size_setCell, World.size_drew] at z1
  have s1_0 : w.heap.size < w1.heap.size := by omega
  have s1_1 : w.heap.size + 1 < w1.heap.size := by omega
  have s1_2 : w.heap.size + 1 + 1 < w1.heap.size := by omega
  have hB1 : Below w.heap.size w w1 := below_seq (by repeat (first | exact Below.refl _ _ | refine balloc ?_ _ | refine Below.drew ?_ | refine below_drewN ?_ _ | refine below_set ?_ (by first | omega | (dsimp only; omega)) _)) hb
  clear hb
  go_wp2_with fail
  refine (inside_e a i true _ (hF.below (by repeat (first | exact hB1 | exact Below.refl _ _ | refine balloc ?_ _ | refine Below.drew ?_ | refine below_drewN ?_ _ | refine below_set ?_ (by first | omega | (dsimp only; omega)) _))) ha h1).mono ?_; rintro e w2 ⟨rfl, hb⟩
  obtain ⟨hc2, hf2⟩ := bcell hb
  have z2 := hb.size
  try simp only [World.size_alloc, World.size_setCell, World.size_drew] at z2
  have s2_0 : w.heap.size < w2.heap.size := by omega
  have s2_1 : w.heap.size + 1 < w2.heap.size := by omega
  have s2_2 : w.heap.size + 1 + 1 < w2.heap.size := by omega
  have hB2 : Below w.heap.size w w2 := below_seq (by repeat (first | exact hB1 | exact Below.refl _ _ | refine balloc ?_ _ | refine Below.drew ?_ | refine below_drewN ?_ _ | refine below_set ?_ (by first | omega | (dsimp only; omega)) _)) hb
  clear hb
  go_wp2_with fail
  refine (inside_e b j false _ (hF.below (by repeat (first | exact hB2 | exact Below.refl _ _ | refine balloc ?_ _ | refine Below.drew ?_ | refine below_drewN ?_ _ | refine below_set ?_ (by first | omega | (dsimp only; omega)) _))) hb h2).mono ?_; rintro e w3 ⟨rfl, hb⟩
  obtain ⟨hc3, hf3⟩ := bcell hb
  have z3 := hb.size
  try simp only [World.size_alloc, World.size_setCell, World.size_drew] at z3
  have s3_0 : w.heap.size < w3.heap.size := by omega
  have s3_1 : w.heap.size + 1 < w3.heap.size := by omega
  have s3_2 : w.heap.size + 1 + 1 < w3.heap.size := by omega
  have hB3 : Below w.heap.size w w3 := below_seq (by repeat (first | exact hB2 | exact Below.refl _ _ | refine balloc ?_ _ | refine Below.drew ?_ | refine below_drewN ?_ _ | refine below_set ?_ (by first | omega | (dsimp only; omega)) _)) hb
  clear hb
  go_wp2
  go_ret
  exact ⟨rfl, (by repeat (first | exact hB3 | exact Below.refl _ _ | refine balloc ?_ _ | refine Below.drew ?_ | refine below_drewN ?_ _ | refine below_set ?_ (by first | omega | (dsimp only; omega)) _))⟩
set_option maxHeartbeats 1000000 in
theorem ready_bad (a b : Sp) (E : Int) (w : World) (hF : FarAt w) (k : Nat) (hk : k < 2) (h : ∀ i (h : i < [a, b].length), i < k → Ok [a, b][i]) (he : sCheck [a, b][k] = E) (h0 : E ≠ 0) : Calls Tryz.prog 165 #[spV a, spV b] w fun e w' => e = .returned (.iface 84 (.int .i64 E)) ∧ Below w.heap.size w w' := by
  have he := Lib.hid he
  have h := Lib.hid h
  go_enter Tryz.func165, Tryz.ntmps165
  go_wp2_with fail
  refine (all_bad [a, b] _ 0 2 _ (hF.below (by repeat (first | exact Below.refl _ _ | refine balloc ?_ _ | refine Below.drew ?_ | refine below_drewN ?_ _ | refine below_set ?_ (by first | omega | (dsimp only; omega)) _))) (by simp) (spots_two a b _ _ (by simp) (by go_simp) (by go_simp) (by go_simp) (by go_simp) (by go_simp) (by go_simp)) k hk h.out (by rw [he.out]; exact h0)).mono ?_; rintro e w1 ⟨rfl, hb⟩
  rw [he.out]
  obtain ⟨hc1, hf1⟩ := bcell hb
  have z1 := hb.size
  try simp only [World.size_alloc, World.size_setCell, World.size_drew] at z1
  have s1_0 : w.heap.size < w1.heap.size := by omega
  have s1_1 : w.heap.size + 1 < w1.heap.size := by omega
  have s1_2 : w.heap.size + 1 + 1 < w1.heap.size := by omega
  have hB1 : Below w.heap.size w w1 := below_seq (by repeat (first | exact Below.refl _ _ | refine balloc ?_ _ | refine Below.drew ?_ | refine below_drewN ?_ _ | refine below_set ?_ (by first | omega | (dsimp only; omega)) _)) hb
  clear hb
  go_wp2
  go_ret
  exact ⟨rfl, (by repeat (first | exact hB1 | exact Below.refl _ _ | refine balloc ?_ _ | refine Below.drew ?_ | refine below_drewN ?_ _ | refine below_set ?_ (by first | omega | (dsimp only; omega)) _))⟩
/-- Two that count. -/
def Cnt (a : Sp) (i : Int) : Prop := a = sq (4 * i) ∧ 0 ≤ i ∧ i < 1013
theorem cnt_of {u : Int} (h : (sq (u * 1013)).far = true) : ∃ i, Cnt (sq u) i := by
  have := sq_far.mp h
  exact ⟨(u / 4) % 1013, sq_eq_iff.mpr (by omega), by omega, by omega⟩
/-- The pair, as a power of zeta. -/
theorem zP_cnt {a b : Sp} {i j : Int} (ha : Cnt a i) (hb : Cnt b j) (fa : a.far = false) (fb : b.far = false) : zP goOps a b = zeta.pow (i * j).toNat := by
  obtain ⟨rfl, i0, i1⟩ := ha
  obtain ⟨rfl, j0, j1⟩ := hb
  have hi : i ≠ 0 := fun e => by rw [e] at fa; rw [sq_far.mpr (by decide)] at fa; cases fa
  have hj : j ≠ 0 := fun e => by rw [e] at fb; rw [sq_far.mpr (by decide)] at fb; cases fb
  have := zP_all goOps_good (by decide) chkP_go (i := i.toNat) (j := j.toNat) (by omega) (by omega) (by omega) (by omega)
  rw [show ((i.toNat : Nat) : Int) = i by omega, show ((j.toNat : Nat) : Int) = j by omega] at this
  rw [this]; congr 1
  have e : ((i.toNat * j.toNat : Nat) : Int) = i * j := by rw [Int.natCast_mul, show ((i.toNat : Nat) : Int) = i by omega, show ((j.toNat : Nat) : Int) = j by omega]
  omega
theorem pairOf_z (a b : Sp) (i j : Int) (w : World) (hF : FarAt w) (hO : OneAt w) (ha : Cnt a i) (hb : Cnt b j) : Calls Tryz.prog 166 #[spV a, spV b] w fun e w' => e = .returned (twR (zeta.pow (i * j).toNat)) ∧ Below w.heap.size w w' := by
  cases fa : a.far
  · cases fb : b.far
    · rw [← zP_cnt ha hb fa fb]
      exact pairOf_c a b w hF hO (ok_of ha.1) (ok_of hb.1) fa fb
    · have : j = 0 := by have := hb.1; rw [this] at fb; have := sq_far.mp fb; have := hb.2; omega
      rw [this, Int.mul_zero, show (0 : Int).toNat = 0 from rfl, Z.pow_zero, twR_one]
      exact pairOf_farr a b w hO fa fb
  · have : i = 0 := by have := ha.1; rw [this] at fa; have := sq_far.mp fa; have := ha.2; omega
    rw [this, Int.zero_mul, show (0 : Int).toNat = 0 from rfl, Z.pow_zero, twR_one]
    exact pairOf_farl a b w hO fa
set_option maxHeartbeats 1000000 in
theorem pair_y (a b : Sp) (i j : Int) (z : Z) (w : World) (hF : FarAt w) (hO : OneAt w) (ha : Cnt a i) (hb : Cnt b j) (hz : Hid (zeta.pow (i * j).toNat = z)) : Calls Tryz.prog 144 #[spV a, spV b] w fun e w' => e = .returned (.tuple #[twR z, .nilIface]) ∧ Below w.heap.size w w' := by
  have ha := Lib.hid ha
  have hb := Lib.hid hb
  go_enter Tryz.func144, Tryz.ntmps144
  go_wp2_with fail
  refine (ready_ok a b (4 * i) (4 * j) _ (hF.below (by repeat (first | exact Below.refl _ _ | refine balloc ?_ _ | refine Below.drew ?_ | refine below_drewN ?_ _ | refine below_set ?_ (by first | omega | (dsimp only; omega)) _))) ha.out.1 hb.out.1 (sq_far.mpr (by omega)) (sq_far.mpr (by omega))).mono ?_; rintro e w1 ⟨rfl, hb⟩
  obtain ⟨hc1, hf1⟩ := bcell hb
  have z1 := hb.size
  try simp only [World.size_alloc, World.size_setCell, World.size_drew] at z1
  have s1_0 : w.heap.size < w1.heap.size := by omega
  have s1_1 : w.heap.size + 1 < w1.heap.size := by omega
  have s1_2 : w.heap.size + 1 + 1 < w1.heap.size := by omega
  have hB1 : Below w.heap.size w w1 := below_seq (by repeat (first | exact Below.refl _ _ | refine balloc ?_ _ | refine Below.drew ?_ | refine below_drewN ?_ _ | refine below_set ?_ (by first | omega | (dsimp only; omega)) _)) hb
  clear hb
  go_wp2_with fail
  refine (pairOf_z a b i j _ (hF.below (by repeat (first | exact hB1 | exact Below.refl _ _ | refine balloc ?_ _ | refine Below.drew ?_ | refine below_drewN ?_ _ | refine below_set ?_ (by first | omega | (dsimp only; omega)) _))) (hO.below (by repeat (first | exact hB1 | exact Below.refl _ _ | refine balloc ?_ _ | refine Below.drew ?_ | refine below_drewN ?_ _ | refine below_set ?_ (by first | omega | (dsimp only; omega)) _))) ha.out hb.out).mono ?_; rintro e w2 ⟨rfl, hb⟩
  rw [hz.out]
  obtain ⟨hc2, hf2⟩ := bcell hb
  have z2 := hb.size
  try simp only [World.size_alloc, World.size_setCell, World.size_drew] at z2
  have s2_0 : w.heap.size < w2.heap.size := by omega
  have s2_1 : w.heap.size + 1 < w2.heap.size := by omega
  have s2_2 : w.heap.size + 1 + 1 < w2.heap.size := by omega
  have hB2 : Below w.heap.size w w2 := below_seq (by repeat (first | exact hB1 | exact Below.refl _ _ | refine balloc ?_ _ | refine Below.drew ?_ | refine below_drewN ?_ _ | refine below_set ?_ (by first | omega | (dsimp only; omega)) _)) hb
  clear hb
  have r0 : w2.cell? ⟨w.heap.size + 1 + 1, 0, none⟩ = some (.int .i64 0) := by go_simp
  have r1 : w2.cell? ⟨w.heap.size + 1 + 1, 1, none⟩ = some (.int .i64 0) := by go_simp
  go_wp2
  have k := set2_cell (w := w2) (x := .int .i64 (fz z.re)) (y := .int .i64 (fz z.im)) r0 r1
  refine bodyPost_ret (v := .tuple #[twR z, .nilIface]) (by simp [results, Tryz.results144, go_sem, k.1, k.2]) rfl ⟨rfl, set2_below (by repeat (first | exact hB2 | exact Below.refl _ _ | refine balloc ?_ _ | refine Below.drew ?_ | refine below_drewN ?_ _ | refine below_set ?_ (by first | omega | (dsimp only; omega)) _)) (by omega)⟩
set_option maxHeartbeats 1000000 in
theorem pair_n (a b : Sp) (E : Int) (w : World) (h : Hid (∀ w1 : World, Below w.heap.size w w1 → Calls Tryz.prog 165 #[spV a, spV b] w1 fun e w' => e = .returned (.iface 84 (.int .i64 E)) ∧ Below w1.heap.size w1 w')) : Calls Tryz.prog 144 #[spV a, spV b] w fun e w' => e = .returned (.tuple #[.agg #[.int .i64 0, .int .i64 0], .iface 84 (.int .i64 E)]) ∧ Below w.heap.size w w' := by
  go_enter Tryz.func144, Tryz.ntmps144
  go_wp2_with fail
  refine (h.out _ (by repeat (first | exact Below.refl _ _ | refine balloc ?_ _ | refine Below.drew ?_ | refine below_drewN ?_ _ | refine below_set ?_ (by first | omega | (dsimp only; omega)) _))).mono ?_; rintro e w1 ⟨rfl, hb⟩
  obtain ⟨hc1, hf1⟩ := bcell hb
  have z1 := hb.size
  try simp only [World.size_alloc, World.size_setCell, World.size_drew] at z1
  have s1_0 : w.heap.size < w1.heap.size := by omega
  have s1_1 : w.heap.size + 1 < w1.heap.size := by omega
  have s1_2 : w.heap.size + 1 + 1 < w1.heap.size := by omega
  have hB1 : Below w.heap.size w w1 := below_seq (by repeat (first | exact Below.refl _ _ | refine balloc ?_ _ | refine Below.drew ?_ | refine below_drewN ?_ _ | refine below_set ?_ (by first | omega | (dsimp only; omega)) _)) hb
  clear hb
  have r0 : w1.cell? ⟨w.heap.size + 1 + 1, 0, none⟩ = some (.int .i64 0) := by go_simp
  have r1 : w1.cell? ⟨w.heap.size + 1 + 1, 1, none⟩ = some (.int .i64 0) := by go_simp
  go_wp2
  have k := set2_cell (w := w1) (x := .int .i64 0) (y := .int .i64 0) r0 r1
  refine bodyPost_ret (v := .tuple #[.agg #[.int .i64 0, .int .i64 0], .iface 84 (.int .i64 E)]) (by simp [results, Tryz.results144, go_sem, k.1, k.2]) rfl ⟨rfl, set2_below (by repeat (first | exact hB1 | exact Below.refl _ _ | refine balloc ?_ _ | refine Below.drew ?_ | refine below_drewN ?_ _ | refine below_set ?_ (by first | omega | (dsimp only; omega)) _)) (by omega)⟩
end Go.Proofs.YtjjmelhhalomaaaGreatDoor
namespace Go.Proofs.YtjjmelhhalomaaaGreatDoor
open Go.RowKit
set_option maxRecDepth 100000
set_option linter.unusedVariables false
set_option linter.unusedSimpArgs false
theorem zeta_mod (n : Nat) : zeta.pow n = zeta.pow (n % 1013) := by
  have : n = 1013 * (n / 1013) + n % 1013 := by omega
  conv => lhs; rw [this]
  rw [Z.pow_add, Z.pow_mul, zeta_whole, Z.one_pow, Z.one_mul]
/-- The power of zeta, of any number. -/
def zp (n : Int) : Z := zeta.pow (n % 1013).toNat
theorem zp_nat {n : Int} (h : 0 ≤ n) : zeta.pow n.toNat = zp n := by
  unfold zp; rw [zeta_mod]; congr 1; omega
theorem zp_eq {n m : Int} (h : n % 1013 = m % 1013) : zp n = zp m := by unfold zp; rw [h]
theorem zp_mul (n m : Int) : (zp n).mul (zp m) = zp (n + m) := by
  unfold zp; rw [← Z.pow_add, zeta_mod]; congr 1; omega
theorem zp_pow (a n : Int) (h : 0 ≤ n) : (zp a).pow n.toNat = zp (a * n) := by
  have e : ((((a % 1013).toNat * n.toNat) % 1013 : Nat) : Int) = (a * n) % 1013 := by
    rw [Int.natCast_emod, Int.natCast_mul, show (((a % 1013).toNat : Nat) : Int) = a % 1013 by omega, show ((n.toNat : Nat) : Int) = n by omega]
    show (a % 1013 * n) % 1013 = (a * n) % 1013
    rw [Int.mul_emod, Int.emod_emod_of_dvd _ (Int.dvd_refl _), ← Int.mul_emod]
  unfold zp; rw [← Z.pow_mul, zeta_mod]; congr 1
  generalize (a * n) % 1013 = k at *
  omega
theorem zp_norm (n : Int) : (zp n).norm = 1 := by unfold zp; rw [Z.norm_pow, zeta_norm, fone_pow]
theorem zp_one : zp 1 = zeta := by unfold zp; exact Z.pow_one _
attribute [irreducible] zp
theorem pair_e (a b : Sp) (i j : Int) (z : Z) (w : World) (hF : FarAt w) (hO : OneAt w) (ha : Hid (Cnt a i)) (hb : Hid (Cnt b j)) (hz : Hid (zp (i * j) = z)) : Calls Tryz.prog 144 #[spV a, spV b] w fun e w' => e = .returned (.tuple #[twR z, .nilIface]) ∧ Below w.heap.size w w' :=
  pair_y a b i j z w hF hO ha.out hb.out (by show _ = _; rw [zp_nat (Int.mul_nonneg ha.out.2.1 hb.out.2.1)]; exact hz.out)
theorem pair_base (w : World) (hF : FarAt w) (hO : OneAt w) : Calls Tryz.prog 144 #[spV ⟨1189, 3667, false⟩, spV ⟨1189, 3667, false⟩] w fun e w' => e = .returned (.tuple #[.agg #[.int .i64 2824, .int .i64 4013], .nilIface]) ∧ Below w.heap.size w w' :=
  pair_e _ _ 1 1 zeta w hF hO ⟨sq_4.symm, by omega, by omega⟩ ⟨sq_4.symm, by omega, by omega⟩ zp_one
theorem mul_e (y z V : Z) (w : World) (h : Hid (y.mul z = V)) : Calls Tryz.prog 182 #[twR y, twR z] w fun e w' => e = .returned (twR V) ∧ Below w.heap.size w w' := by
  have := mul_z y z w; rw [h.out] at this; exact this
/-- A pair that is refused. -/
def PairNo (a b : Sp) (E : Int) : Prop := ∀ w : World, FarAt w → Calls Tryz.prog 144 #[spV a, spV b] w fun e w' => e = .returned (.tuple #[.agg #[.int .i64 0, .int .i64 0], .iface 84 (.int .i64 E)]) ∧ Below w.heap.size w w'
theorem pair_cases (a b : Sp) : (∃ i j, Cnt a i ∧ Cnt b j) ∨ ∃ E, PairNo a b E := by
  by_cases ca : sCheck a = 0
  case neg => exact .inr ⟨_, fun w hF => pair_n a b _ w (fun w1 hb => ready_bad a b _ w1 (hF.below hb) 0 (by omega) (fun i _ h => absurd h (by omega)) rfl ca)⟩
  have oa := (ok_iff _).mp ca
  by_cases cb : sCheck b = 0
  case neg => exact .inr ⟨_, fun w hF => pair_n a b _ w (fun w1 hb => ready_bad a b _ w1 (hF.below hb) 1 (by omega) (ok_first a b oa) rfl cb)⟩
  have ob := (ok_iff _).mp cb
  obtain ⟨u, -, -, eu⟩ := sq_all oa
  obtain ⟨v, -, -, ev⟩ := sq_all ob
  cases fu : (sq (u * 1013)).far
  · exact .inr ⟨3, fun w hF => pair_n a b _ w (fun w1 hb => ready_in a b u v w1 (hF.below hb) eu ev fu)⟩
  cases fv : (sq (v * 1013)).far
  · exact .inr ⟨3, fun w hF => pair_n a b _ w (fun w1 hb => ready_in2 a b u v w1 (hF.below hb) eu ev fu fv)⟩
  obtain ⟨i, hi⟩ := cnt_of fu
  obtain ⟨j, hj⟩ := cnt_of fv
  exact .inl ⟨i, j, eu ▸ hi, ev ▸ hj⟩
theorem cnt_ok {a : Sp} {i : Int} (h : Cnt a i) : Ok a := ok_of h.1
theorem cnt_mod (i : Int) : Cnt (sq (4 * i)) (i % 1013) := ⟨sq_eq_iff.mpr (by omega), by omega, by omega⟩
set_option maxHeartbeats 2000000 in
theorem one_core (X Y : Int) (R : Sp) (c S : Int) (w : World) (hF : FarAt w) (s0 : 0 ≤ S) (s1 : S < 1013) (hK : Hid (sq (4 * 3) = ⟨X, Y, false⟩)) (hR : Hid (sq (4 * 5) = R)) (hc : Hid (askN R ⟨X, Y, false⟩ (⟨#[97]⟩ : ByteArray).data.toList = c)) (hS : Hid ((5 + c * 3) % 1013 = S)) (hv : Hid ((sq (4 * S + -(4 * 5 + 4 * 3 * c))).far = true)) :
    Calls Tryz.prog 13 #[] w fun e w' => e = .returned (.bool true) ∧ Below w.heap.size w w' := by
  go_enter Tryz.func13, Tryz.ntmps13
  go_wp2_with fail
  refine (key_e 3 ⟨X, Y, false⟩ _ (hF.below (by repeat (first | exact Below.refl _ _ | refine balloc ?_ _ | refine Below.drew ?_ | refine below_drewN ?_ _ | refine below_set ?_ (by first | omega | (dsimp only; omega)) _))) (by omega) (by omega) hK).mono ?_; rintro e w1 ⟨rfl, hb⟩
  obtain ⟨hc1, hf1⟩ := bcell hb
  have z1 := hb.size
  try simp only [World.size_alloc, World.size_setCell, World.size_drew] at z1
  have hB1 : Below w.heap.size w w1 := below_seq (by repeat (first | exact Below.refl _ _ | refine balloc ?_ _ | refine Below.drew ?_ | refine below_drewN ?_ _ | refine below_set ?_ (by first | omega | (dsimp only; omega)) _)) hb
  clear hb
  go_wp2_with fail
  refine (sign_e 3 5 ⟨#[97]⟩ R ⟨X, Y, false⟩ c S _ (hF.below (by repeat (first | exact hB1 | exact Below.refl _ _ | refine balloc ?_ _ | refine Below.drew ?_ | refine below_drewN ?_ _ | refine below_set ?_ (by first | omega | (dsimp only; omega)) _))) (by omega) (by omega) (by omega) (by omega) (by show 1 ≤ _; omega) hR hK hc hS).mono ?_; rintro e w2 ⟨rfl, hb⟩
  obtain ⟨hc2, hf2⟩ := bcell hb
  have z2 := hb.size
  try simp only [World.size_alloc, World.size_setCell, World.size_drew] at z2
  have s2_0 : w1.heap.size < w2.heap.size := by omega
  have hB2 : Below w.heap.size w w2 := below_seq (by repeat (first | exact hB1 | exact Below.refl _ _ | refine balloc ?_ _ | refine Below.drew ?_ | refine below_drewN ?_ _ | refine below_set ?_ (by first | omega | (dsimp only; omega)) _)) hb
  clear hb
  go_wp2_with fail
  refine (verify_e ⟨X, Y, false⟩ R (4 * 3) (4 * 5) c S true ⟨#[97]⟩ _ (hF.below (by repeat (first | exact hB2 | exact Below.refl _ _ | refine balloc ?_ _ | refine Below.drew ?_ | refine below_drewN ?_ _ | refine below_set ?_ (by first | omega | (dsimp only; omega)) _))) (by show 1 ≤ _; omega) s0 s1 (show _ = _ from hK.out.symm) (show _ = _ from hR.out.symm) hc hv).mono ?_; rintro e w3 ⟨rfl, hb⟩
  obtain ⟨hc3, hf3⟩ := bcell hb
  have z3 := hb.size
  try simp only [World.size_alloc, World.size_setCell, World.size_drew] at z3
  have s3_0 : w1.heap.size < w3.heap.size := by omega
  have s3_1 : w2.heap.size < w3.heap.size := by omega
  have hB3 : Below w.heap.size w w3 := below_seq (by repeat (first | exact hB2 | exact Below.refl _ _ | refine balloc ?_ _ | refine Below.drew ?_ | refine below_drewN ?_ _ | refine below_set ?_ (by first | omega | (dsimp only; omega)) _)) hb
  clear hb
  go_wp2
  go_ret
  exact ⟨rfl, (by repeat (first | exact hB3 | exact Below.refl _ _ | refine balloc ?_ _ | refine Below.drew ?_ | refine below_drewN ?_ _ | refine below_set ?_ (by first | omega | (dsimp only; omega)) _))⟩
theorem one_c (w : World) (hF : FarAt w) : Calls Tryz.prog 13 #[] w fun e w' => e = .returned (.bool true) ∧ Below w.heap.size w w' := by
  have hK : sq (4 * 3) = ⟨(sq (4 * 3)).x, (sq (4 * 3)).y, false⟩ := Sp.ext' rfl rfl (sq_far_not (by decide))
  refine one_core _ _ _ _ _ w hF (Int.emod_nonneg _ (by decide)) (Int.emod_lt_of_pos _ (by decide)) hK rfl rfl rfl (sq_far.mpr ?_)
  omega
end Go.Proofs.YtjjmelhhalomaaaGreatDoor
namespace Go.Proofs.YtjjmelhhalomaaaGreatDoor
open Go.RowKit
set_option maxRecDepth 100000
set_option linter.unusedVariables false
set_option linter.unusedSimpArgs false
/-- A seal that lies in a block. -/
structure SeAt (w : World) (b : Nat) (s : Sp) (z : Int) : Prop where
  c0 : w.cell? ⟨b, 0, none⟩ = some (.int .i64 s.x)
  c1 : w.cell? ⟨b, 1, none⟩ = some (.int .i64 s.y)
  c2 : w.cell? ⟨b, 2, none⟩ = some (.bool s.far)
  c3 : w.cell? ⟨b, 3, none⟩ = some (.int .i64 z)
  f0 : w.frozen? ⟨b, 0, none⟩ = false
  f1 : w.frozen? ⟨b, 1, none⟩ = false
  f2 : w.frozen? ⟨b, 2, none⟩ = false
  f3 : w.frozen? ⟨b, 3, none⟩ = false
  lt : b < w.heap.size
theorem SeAt.below {w w' : World} {b : Nat} {s : Sp} {z : Int} (h : SeAt w b s z) (hb : Below w.heap.size w w') : SeAt w' b s z :=
  ⟨((bcell hb).1 _ _ h.lt).trans h.c0, ((bcell hb).1 _ _ h.lt).trans h.c1, ((bcell hb).1 _ _ h.lt).trans h.c2, ((bcell hb).1 _ _ h.lt).trans h.c3, ((bcell hb).2 _ _ h.lt).trans h.f0, ((bcell hb).2 _ _ h.lt).trans h.f1, ((bcell hb).2 _ _ h.lt).trans h.f2, ((bcell hb).2 _ _ h.lt).trans h.f3, Nat.lt_of_lt_of_le h.lt hb.size⟩
theorem SeAt.fresh (w : World) (x y : Int) (f : Bool) (z : Int) (t : TypeId) : SeAt (w.alloc (.cells #[.int .i64 x, .int .i64 y, .bool f, .int .i64 z] t)) w.heap.size ⟨x, y, f⟩ z := ⟨by simp, by simp, by simp, by simp, by simp, by simp, by simp, by simp, by simp⟩
theorem SeAt.drew {w : World} {b : Nat} {s : Sp} {z : Int} (h : SeAt w b s z) : SeAt w.drew b s z := ⟨h.c0, h.c1, h.c2, h.c3, h.f0, h.f1, h.f2, h.f3, h.lt⟩
theorem SeAt.alloc {w : World} {b : Nat} {s : Sp} {z : Int} (h : SeAt w b s z) (o : Obj) : SeAt (w.alloc o) b s z := h.below (below_alloc w o)
theorem SeAt.set4 {w : World} {b : Nat} {s : Sp} {z : Int} (h : SeAt w b s z) (v : Sp) (y : Int) : SeAt ((((w.setCell ⟨b, 0, none⟩ (.int .i64 v.x)).setCell ⟨b, 1, none⟩ (.int .i64 v.y)).setCell ⟨b, 2, none⟩ (.bool v.far)).setCell ⟨b, 3, none⟩ (.int .i64 y)) b v y := by
  obtain ⟨h0, h1, h2, h3, f0, f1, f2, f3, hl⟩ := h
  have k := set4_cell (x := .int .i64 v.x) (y := .int .i64 v.y) (z := .bool v.far) (p := .int .i64 y) h0 h1 h2 h3
  exact ⟨k.1, k.2.1, k.2.2.1, k.2.2.2, by simpa using f0, by simpa using f1, by simpa using f2, by simpa using f3, by simpa [World.setCell] using hl⟩
theorem SeAt.zero_of {w : World} {b : Nat} (h0 : w.cell? ⟨b, 0, none⟩ = some (.int .i64 0)) (h1 : w.cell? ⟨b, 1, none⟩ = some (.int .i64 0)) (h2 : w.cell? ⟨b, 2, none⟩ = some (.bool false)) (h3 : w.cell? ⟨b, 3, none⟩ = some (.int .i64 0)) (f0 : w.frozen? ⟨b, 0, none⟩ = false) (f1 : w.frozen? ⟨b, 1, none⟩ = false) (f2 : w.frozen? ⟨b, 2, none⟩ = false) (f3 : w.frozen? ⟨b, 3, none⟩ = false) (hl : b < w.heap.size) : SeAt w b ⟨0, 0, false⟩ 0 := ⟨h0, h1, h2, h3, f0, f1, f2, f3, hl⟩
theorem nocoin0 : NoCoin ⟨0, 0, false⟩ := by
  rcases coin_is ⟨0, 0, false⟩ with ⟨n, h⟩ | h
  · exfalso
    have h2 : sSum ⟨0, 0, false⟩ ⟨0, 0, false⟩ = ⟨0, 0, true⟩ := by rfl
    rw [h, qS_add] at h2
    have h3 : (qS (n + n)).far = true := by rw [h2]
    unfold qS at h3 h
    have h4 := sq_far.mp h3
    have h5 : (sq (4 * n)).far = true := sq_far.mpr (by omega)
    rw [← h] at h5
    exact Bool.noConfusion h5
  · exact h
/-- What is no spot makes no book. -/
theorem bnew_zero (v : Value) (w : World) (hF : FarAt w) (hv : SpSl w v [⟨0, 0, false⟩]) : Calls Tryz.prog 15 #[v] w fun e w' => e = .returned (.tuple #[.pointer none, .iface 84 (.int .i64 3)]) ∧ Below w.heap.size w w' := by
  obtain ⟨a, c, rfl, h⟩ := hv
  exact bnew_n 1 (.iface 84 (.int .i64 3)) a c w ⟨3, rfl⟩ (bcheck_core [⟨0, 0, false⟩] 0 _ a c w hF (by decide) h (Lib.hid fun k _ h => absurd h (Nat.not_lt_zero _)) (by decide) (Lib.hid fun _ => nocoin0) (Lib.hid fun _ => rfl) (Lib.hid fun h => absurd h (by decide)))
theorem bnew_one (n : Int) (A : Sp) (v : Value) (w : World) (hF : FarAt w) (hA : Hid (A = qS n)) (hv : SpSl w v [A]) : Calls Tryz.prog 15 #[v] w fun e w' => ∃ p, e = .returned (.tuple #[.pointer (some ⟨p, 0, none⟩), .nilIface]) ∧ BkAt w' w.heap.size p [n] [false] ∧ Below w.heap.size w w' := by
  rw [hA.out] at hv
  obtain ⟨a, c, rfl, h⟩ := hv
  exact bnew_y [n] a c w (by simp) hF h
theorem bcheck_one (y : Int) (TO : Sp) (b1 : Nat) (w : World) (hF : FarAt w) (hT : Hid (TO = qS y)) (h1 : SpotsAt w b1 0 [TO]) : Calls Tryz.prog 44 #[.slice (some ⟨b1, 0, none⟩) 1 1] w fun e w' => e = .returned .nilIface ∧ Below w.heap.size w w' :=
  bcheck_core [TO] 1 .nilIface _ 1 w hF (by simp) (fun _ => ⟨_, _, rfl, h1⟩) (Lib.hid fun k h _ => ⟨y, by obtain rfl : k = 0 := (by simp at h; omega); exact hT.out⟩) (by simp) (Lib.hid fun h => absurd h (by simp)) (Lib.hid fun h => absurd h (by simp)) (Lib.hid fun _ => rfl)
theorem bcheck_nil (w : World) (hF : FarAt w) : Calls Tryz.prog 44 #[.slice none 0 0] w fun e w' => e = .returned .nilIface ∧ Below w.heap.size w w' :=
  bcheck_core [] 0 .nilIface _ 0 w hF (by simp) (fun h => absurd h (by simp)) (Lib.hid fun k h _ => absurd h (Nat.not_lt_zero _)) (by simp) (Lib.hid fun h => absurd h (by simp)) (Lib.hid fun h => absurd h (by simp)) (Lib.hid fun _ => rfl)
theorem gErr_ok {G : List Bool} {n : Nat} (h : n < G.length) (hg : G.getD n true = false) : gErrB G [] (n : Int) = 0 := by
  unfold gErrB
  rw [if_neg (by omega), if_neg (by rw [Int.toNat_natCast, hg]; simp), if_neg (by simp)]
theorem gErr_gone {G : List Bool} {n : Nat} (h : n < G.length) (hg : G.getD n true = true) : gErrB G [] (n : Int) = 6 := by
  unfold gErrB
  rw [if_neg (by omega), if_pos (by rw [Int.toNat_natCast, hg])]
theorem bex_one (N : List Int) (G : List Bool) (B p n b0 b1 : Nat) (x y : Int) (TO X : Sp) (w : World) (hF : FarAt w) (hBk : BkAt w B p N G) (hNl : N.length ≤ 1000) (hl : n < G.length) (hg : Hid (G.getD n true = false)) (hx : Hid (N.getD n 0 = x)) (hT : Hid (TO = qS y)) (hX : Hid (qS (-x + y) = X)) (h0 : IntsAt w b0 0 [(n : Int)]) (h1 : SpotsAt w b1 0 [TO]) :
    Calls Tryz.prog 17 #[.pointer (some ⟨p, 0, none⟩), .slice (some ⟨b0, 0, none⟩) 1 1, .slice (some ⟨b1, 0, none⟩) 1 1] w fun e w' => e = .returned (.tuple #[spV X, .nilIface]) ∧ Below w.heap.size w w' := by
  refine bex_core N G B p [(n : Int)] [TO] _ _ 1 1 1 0 .nilIface _ w hF hBk (by omega) (by simp) (Nat.le_refl _) (by simp) (fun _ => ⟨_, _, rfl, h0⟩) (fun _ => ⟨_, _, rfl, h1⟩) (by simp) (Nat.le_refl _) (fun i h _ => ?_) (fun h => absurd h (Nat.lt_irrefl _)) (Lib.hid fun w1 hb => bcheck_one y TO b1 w1 (hF.below hb) hT (h1.below hb)) (Lib.hid fun h => absurd h (Nat.lt_irrefl _)) (Lib.hid fun _ => .inr ⟨rfl, [y], by rw [hT.out]; rfl, ?_⟩)
  · obtain rfl : i = 0 := by simp at h; omega
    exact gErr_ok hl hg.out
  · have : outN N [(n : Int)] + [y].sum = -x + y := by unfold outN; simp only [List.map_cons, List.map_nil, Int.toNat_natCast, hx.out, List.sum_cons, List.sum_nil]; omega
    rw [this, hX.out]
theorem bex_gone (N : List Int) (G : List Bool) (B p n b0 : Nat) (w : World) (hF : FarAt w) (hBk : BkAt w B p N G) (hNl : N.length ≤ 1000) (hl : n < G.length) (hg : Hid (G.getD n true = true)) (h0 : IntsAt w b0 0 [(n : Int)]) :
    Calls Tryz.prog 17 #[.pointer (some ⟨p, 0, none⟩), .slice (some ⟨b0, 0, none⟩) 1 1, .slice none 0 0] w fun e w' => e = .returned (.tuple #[spV ⟨0, 0, false⟩, .iface 84 (.int .i64 6)]) ∧ Below w.heap.size w w' :=
  bex_core N G B p [(n : Int)] [] _ _ 1 0 0 6 .nilIface _ w hF hBk (by omega) (by simp) (Nat.le_refl _) (by simp) (fun _ => ⟨_, _, rfl, h0⟩) (fun h => absurd h (by simp)) (by simp) (by simp) (fun i _ h => absurd h (Nat.not_lt_zero _)) (fun h => ⟨gErr_gone hl hg.out, by decide⟩) (Lib.hid fun w1 hb => bcheck_nil w1 (hF.below hb)) (Lib.hid fun _ => rfl) (Lib.hid fun h => absurd h (by simp))
theorem bdo_one (N : List Int) (G : List Bool) (B p n b0 b1 : Nat) (vc vg : Value) (x y : Int) (TO X RS : Sp) (s : Int) (w : World) (hF : FarAt w) (hBk : BkV w B p vc vg N G) (hB0 : B ≤ w.heap.size) (hNl : N.length ≤ 900) (hl : n < G.length) (hg : Hid (G.getD n true = false)) (hx : Hid (N.getD n 0 = x)) (hT : Hid (TO = qS y)) (hX : Hid (qS (-x + y) = X)) (h0 : IntsAt w b0 0 [(n : Int)]) (h1 : SpotsAt w b1 0 [TO]) (hn0 : ¬ inB p vc vg b0) (hn1 : ¬ inB p vc vg b1)
    (s0 : 0 ≤ s) (s1 : s < 1013) (oR : Ok RS) (hq : Hid (Sp.beq (sq (4 * hJ * s)) (sSum RS (sq (4 * (-x + y) * bAsk RS X))) = true)) :
    Calls Tryz.prog 20 #[.pointer (some ⟨p, 0, none⟩), dlV (.slice (some ⟨b0, 0, none⟩) 1 1) (.slice (some ⟨b1, 0, none⟩) 1 1) RS s] w fun e w' => e = .returned .nilIface ∧ Did w w' B p vc vg (N ++ [y]) (G.set n true ++ [false]) := by
  have := hBk.ln
  have h1' : SpotsAt w b1 0 ([y].map qS) := by rw [hT.out] at h1; exact h1
  have hb := bdo_y N [y] G B p vc vg [(n : Int)] [TO] (some ⟨b0, 0, none⟩) (some ⟨b1, 0, none⟩) 1 1 RS s X (-x + y) w hF hBk hB0 (by omega) (Lib.hid hX.out.symm) (by simp) (fun _ => ⟨_, _, rfl, h0, hn0⟩) (fun _ => ⟨_, _, rfl, h1', hn1⟩)
    (fun g hg => by rw [List.mem_singleton] at hg; omega) (Lib.hid fun w1 hb => bex_one N G B p n b0 b1 x y TO X w1 (hF.below hb) ⟨_, _, hBk.below hb⟩ (by omega) hl hg hx hT hX (h0.below hb) (h1.below hb)) (by simp; omega) s0 s1 oR hq
  exact hb
theorem blive_one (N : List Int) (G : List Bool) (B p m : Nat) (w : World) (hBk : BkAt w B p N G) (hN : N.length ≤ 1000) (hm : Hid (liveN G N.length = [(m : Int)])) :
    Calls Tryz.prog 56 #[.pointer (some ⟨p, 0, none⟩)] w fun e w' => ∃ b off cap, e = .returned (.slice (some ⟨b, off, none⟩) 1 cap) ∧ w'.cell? ⟨b, off, none⟩ = some (.int .i64 m) ∧ b < w'.heap.size ∧ Below w.heap.size w w' := by
  refine (blive_c N G B p w hBk (by omega)).mono ?_
  rintro e w' ⟨v, rfl, ho, hb⟩
  rw [hm.out] at ho
  obtain ⟨a, cap, rfl, h'⟩ := own_ints ho rfl
  obtain ⟨b, off, rfl, h''⟩ := h' (by simp)
  exact ⟨b, off, cap, rfl, h''.c 0 (by simp), h''.lt, hb⟩
end Go.Proofs.YtjjmelhhalomaaaGreatDoor
namespace Go.Proofs.YtjjmelhhalomaaaGreatDoor
open Go.RowKit
set_option maxRecDepth 100000
set_option linter.unusedVariables false
set_option linter.unusedSimpArgs false
attribute [local go_sem ↓] Go.wp_at_zero Go.wp_at_succ
set_option maxHeartbeats 16000000 in
theorem deed8 (n m : Nat) (b o c : Nat) (t : List UInt8) (w : World) (R : RunAt w) (hI : IntsAt w b o [(n : Int), (m : Int)]) (P : Sp) (k : Int) (hP : Sm P)
    (hL : ∀ w1 : World, FarAt w1 → Calls Tryz.prog 14 #[.int .i64 (n : Int), .int .i64 (m : Int)] w1 fun e w' => e = .returned (.tuple #[spV P, errR k]) ∧ Below w1.heap.size w1 w') :
    DeedC 148 (.slice (some ⟨b, o, none⟩) 2 c) t w (toldB P) k := by
  unfold DeedC lnV
  have l1 := hI.c 0 (by simp)
  have l3 := hI.c 1 (by simp)
  have l2 := hI.lt
  simp only [List.getElem_cons_zero, List.getElem_cons_succ, Nat.add_zero] at l1 l3
  replace hL := Lib.hid hL
  replace hP := Lib.hid hP
  generalize errR k = E at *
  have hb0 := below_alloc w (.cells #[.slice (some ⟨b, o, none⟩) 2 c, .string (bS t)] 143)
  have R0 := R.below hb0
  have k0 : (w.alloc (.cells #[.slice (some ⟨b, o, none⟩) 2 c, .string (bS t)] 143)).cell? ⟨w.heap.size, 0, none⟩ = some (.slice (some ⟨b, o, none⟩) 2 c) := by simp
  have k1 := ((bcell hb0).1 _ _ l2).trans l1
  have k3 := ((bcell hb0).1 _ _ l2).trans l3
  have k4 : w.heap.size < (w.alloc (.cells #[.slice (some ⟨b, o, none⟩) 2 c, .string (bS t)] 143)).heap.size := by simp
  have k5 := Nat.lt_of_lt_of_le l2 hb0.size
  clear hI R l1 l3
  replace R0 := Lib.hid R0
  replace hb0 := Lib.hid hb0
  replace l2 := Lib.hid l2
  go_enter Tryz.func148, Tryz.ntmps148
  go_upto_region 1 with fail
  generalize w.alloc (.cells #[.slice (some ⟨b, o, none⟩) 2 c, .string (bS t)] 143) = w0 at *
  have hS : Hid (∀ w', Below w0.heap.size w0 w' → w'.cell? ⟨w.heap.size, 0, none⟩ = some (.slice (some ⟨b, o, none⟩) 2 c) ∧ w.heap.size < w'.heap.size ∧ w'.cell? ⟨b, o, none⟩ = some (.int .i64 (n : Int)) ∧ w'.cell? ⟨b, o + 1, none⟩ = some (.int .i64 (m : Int)) ∧ b < w'.heap.size ∧ Below w0.heap.size w0 w') := Lib.hid fun w' h => ⟨((bcell h).1 _ _ k4).trans k0, Nat.lt_of_lt_of_le k4 h.size, ((bcell h).1 _ _ k5).trans k1, ((bcell h).1 _ _ k5).trans k3, Nat.lt_of_lt_of_le k5 h.size, h⟩
  clear k0 k1 k3 k4 k5
  go_region_held3 (fun w' => w'.cell? ⟨w.heap.size, 0, none⟩ = some (.slice (some ⟨b, o, none⟩) 2 c) ∧ w.heap.size < w'.heap.size ∧ w'.cell? ⟨b, o, none⟩ = some (.int .i64 (n : Int)) ∧ w'.cell? ⟨b, o + 1, none⟩ = some (.int .i64 (m : Int)) ∧ b < w'.heap.size ∧ Below w0.heap.size w0 w') (first | (refine hS.out _ ?_; repeat (with_reducible first | exact Below.refl _ _ | exact hwt.out | exact hwu.out | refine Below.drew ?_))) (first | (go_at_call 14; refine (hL.out _ (R0.out.below (by repeat (with_reducible first | exact Below.refl _ _ | refine Below.drew ?_))).F).mono ?_; rintro e wb ⟨rfl, hbb⟩; have hwt := Lib.hid (show Below w0.heap.size w0 wb from below_seq (by repeat (with_reducible first | exact Below.refl _ _ | refine Below.drew ?_)) hbb); clear hbb) | (go_at_call 137; refine (told_c P E _ hP.out (R0.out.below (by repeat (with_reducible first | exact hwt.out | refine Below.drew ?_))).T).mono ?_; rintro e wd ⟨rfl, hbd⟩; have hwu := Lib.hid (show Below w0.heap.size w0 wd from below_seq (by repeat (with_reducible first | exact hwt.out | refine Below.drew ?_)) hbd); clear hbd) | fail)
  all_goals
    have hfin : Below w.heap.size w wd := hb0.out.trans (hwu.out.mono hb0.out.size)
    go_wp2
    go_ret2
    exact ⟨rfl, hfin⟩
set_option maxHeartbeats 16000000 in
theorem deed7 (n : Nat) (b o c : Nat) (t : List UInt8) (w : World) (R : RunAt w) (hI : IntsAt w b o [(n : Int)]) (P : Sp) (k : Int) (hP : Sm P)
    (hL : ∀ w1 : World, FarAt w1 → Calls Tryz.prog 147 #[.int .i64 (n : Int), .string (bS t)] w1 fun e w' => e = .returned (.tuple #[spV P, errR k]) ∧ Below w1.heap.size w1 w') :
    DeedC 146 (.slice (some ⟨b, o, none⟩) 1 c) t w (toldB P) k := by
  unfold DeedC lnV
  have l1 := hI.c 0 (by simp)
  have l2 := hI.lt
  simp only [List.getElem_cons_zero, Nat.add_zero] at l1
  replace hL := Lib.hid hL
  replace hP := Lib.hid hP
  generalize errR k = E at *
  generalize bS t = T at *
  have hb0 := below_alloc w (.cells #[.slice (some ⟨b, o, none⟩) 1 c, .string T] 143)
  have R0 := R.below hb0
  have k0 : (w.alloc (.cells #[.slice (some ⟨b, o, none⟩) 1 c, .string T] 143)).cell? ⟨w.heap.size, 0, none⟩ = some (.slice (some ⟨b, o, none⟩) 1 c) := by simp
  have k3 : (w.alloc (.cells #[.slice (some ⟨b, o, none⟩) 1 c, .string T] 143)).cell? ⟨w.heap.size, 1, none⟩ = some (.string T) := by simp
  have k1 := ((bcell hb0).1 _ _ l2).trans l1
  have k4 : w.heap.size < (w.alloc (.cells #[.slice (some ⟨b, o, none⟩) 1 c, .string T] 143)).heap.size := by simp
  have k5 := Nat.lt_of_lt_of_le l2 hb0.size
  clear hI R l1
  replace R0 := Lib.hid R0
  replace hb0 := Lib.hid hb0
  replace l2 := Lib.hid l2
  go_enter Tryz.func146, Tryz.ntmps146
  go_upto_region 1 with fail
  generalize w.alloc (.cells #[.slice (some ⟨b, o, none⟩) 1 c, .string T] 143) = w0 at *
  have hS : Hid (∀ w', Below w0.heap.size w0 w' → w'.cell? ⟨w.heap.size, 0, none⟩ = some (.slice (some ⟨b, o, none⟩) 1 c) ∧ w'.cell? ⟨w.heap.size, 1, none⟩ = some (.string T) ∧ w.heap.size < w'.heap.size ∧ w'.cell? ⟨b, o, none⟩ = some (.int .i64 (n : Int)) ∧ b < w'.heap.size ∧ Below w0.heap.size w0 w') := Lib.hid fun w' h => ⟨((bcell h).1 _ _ k4).trans k0, ((bcell h).1 _ _ k4).trans k3, Nat.lt_of_lt_of_le k4 h.size, ((bcell h).1 _ _ k5).trans k1, Nat.lt_of_lt_of_le k5 h.size, h⟩
  clear k0 k1 k3 k4 k5
  go_region_held3 (fun w' => w'.cell? ⟨w.heap.size, 0, none⟩ = some (.slice (some ⟨b, o, none⟩) 1 c) ∧ w'.cell? ⟨w.heap.size, 1, none⟩ = some (.string T) ∧ w.heap.size < w'.heap.size ∧ w'.cell? ⟨b, o, none⟩ = some (.int .i64 (n : Int)) ∧ b < w'.heap.size ∧ Below w0.heap.size w0 w') (first | (refine hS.out _ ?_; repeat (with_reducible first | exact Below.refl _ _ | exact hwt.out | exact hwu.out | refine Below.drew ?_))) (first | (go_at_call 147; refine (hL.out _ (R0.out.below (by repeat (with_reducible first | exact Below.refl _ _ | refine Below.drew ?_))).F).mono ?_; rintro e wb ⟨rfl, hbb⟩; have hwt := Lib.hid (show Below w0.heap.size w0 wb from below_seq (by repeat (with_reducible first | exact Below.refl _ _ | refine Below.drew ?_)) hbb); clear hbb) | (go_at_call 137; refine (told_c P E _ hP.out (R0.out.below (by repeat (with_reducible first | exact hwt.out | refine Below.drew ?_))).T).mono ?_; rintro e wd ⟨rfl, hbd⟩; have hwu := Lib.hid (show Below w0.heap.size w0 wd from below_seq (by repeat (with_reducible first | exact hwt.out | refine Below.drew ?_)) hbd); clear hbd) | fail)
  all_goals
    have hfin : Below w.heap.size w wd := hb0.out.trans (hwu.out.mono hb0.out.size)
    go_wp2
    go_ret2
    exact ⟨rfl, hfin⟩
end Go.Proofs.YtjjmelhhalomaaaGreatDoor
namespace Go.Proofs.YtjjmelhhalomaaaGreatDoor
open Go.RowKit
set_option maxRecDepth 100000
set_option linter.unusedVariables false
set_option linter.unusedSimpArgs false
attribute [local go_sem ↓] Go.wp_at_zero Go.wp_at_succ
theorem fz_nat (a : F) : ∃ n : Nat, fz a = (n : Int) ∧ n < 4051 := ⟨a.val, rfl, a.isLt⟩
theorem twFresh (w : World) (z : Z) (t : TypeId) : TwAt (w.alloc (.cells #[.int .i64 (fz z.re), .int .i64 (fz z.im)] t)) w.heap.size z := ⟨by go_simp, by go_simp, by go_simp, by go_simp, by simp⟩
theorem twSet (w : World) (z : Z) (wb : World) (t : TypeId) (g : Nat) (h0 : wb.cell? ⟨g, 0, none⟩ = some (.int .i64 0)) (h1 : wb.cell? ⟨g, 1, none⟩ = some (.int .i64 0)) (f0 : wb.frozen? ⟨g, 0, none⟩ = false) (f1 : wb.frozen? ⟨g, 1, none⟩ = false) (hl : g < wb.heap.size) : TwAt ((wb.setCell ⟨g, 0, none⟩ (.int .i64 (fz z.re))).setCell ⟨g, 1, none⟩ (.int .i64 (fz z.im))) g z :=
  (TwAt.zero_of h0 h1 f0 f1 hl).set2 z
theorem twZ (w : World) : TwAt (w.alloc (.cells #[.int .i64 0, .int .i64 0] 116)) w.heap.size ⟨0, 0⟩ := TwAt.zero_of (by go_simp) (by go_simp) (by go_simp) (by go_simp) (by simp)
theorem TwAt.drew' {w : World} {b : Nat} {z : Z} (h : TwAt w b z) : TwAt w.drew b z := h.below ((Below.refl _ _).drew)
set_option maxHeartbeats 16000000 in
theorem deed5 (n m : Nat) (b o c : Nat) (t : List UInt8) (w : World) (R : RunAt w) (hI : IntsAt w b o [(n : Int), (m : Int)]) (hn : n < 10000) (hm : m < 10000) (z : Z) (hz : zp (((n % 1013 : Nat) : Int) * ((m % 1013 : Nat) : Int)) = z) :
    DeedC 143 (.slice (some ⟨b, o, none⟩) 2 c) t w (joinN [(fz z.re).toNat, (fz z.im).toNat]) 0 := by
  unfold DeedC lnV
  obtain ⟨P, hP⟩ : ∃ P, sq (4 * (n : Int)) = P := ⟨_, rfl⟩
  obtain ⟨Q, hQ⟩ : ∃ Q, sq (4 * (m : Int)) = Q := ⟨_, rfl⟩
  have cP : Hid (Cnt P ((n % 1013 : Nat) : Int)) := Lib.hid ⟨by rw [← hP]; exact sq_eq_iff.mpr (by omega), by omega, by omega⟩
  have cQ : Hid (Cnt Q ((m % 1013 : Nat) : Int)) := Lib.hid ⟨by rw [← hQ]; exact sq_eq_iff.mpr (by omega), by omega, by omega⟩
  have hB : Hid (∀ (x : Int) (w1 : World), FarAt w1 → Calls Tryz.prog 82 #[.int .i64 x] w1 fun e w' => e = .returned (spV (sq (4 * x))) ∧ Below w1.heap.size w1 w') := Lib.hid fun x w1 h => by_c x w1 h
  have hPr : Hid (∀ w1, FarAt w1 → OneAt w1 → Calls Tryz.prog 144 #[spV (sq (4 * (n : Int))), spV (sq (4 * (m : Int)))] w1 fun e w' => e = .returned (.tuple #[twR z, .nilIface]) ∧ Below w1.heap.size w1 w') := Lib.hid fun w1 h1 h2 => by
    rw [hP, hQ]
    exact pair_e P Q _ _ z w1 h1 h2 cP cQ (Lib.hid hz)
  obtain ⟨x, hx, x1⟩ := fz_nat z.re
  obtain ⟨y, hy, y1⟩ := fz_nat z.im
  have l1 := hI.c 0 (by simp)
  have l3 := hI.c 1 (by simp)
  have l2 := hI.lt
  simp only [List.getElem_cons_zero, List.getElem_cons_succ, Nat.add_zero] at l1 l3
  have e9 : joinN [(fz z.re).toNat, (fz z.im).toNat] = joinN [x, y] := by rw [hx, hy, Int.toNat_natCast, Int.toNat_natCast]
  rw [e9]
  have e0 : errR 0 = .nilIface := rfl
  rw [e0]
  have hb0 := below_alloc w (.cells #[.slice (some ⟨b, o, none⟩) 2 c, .string (bS t)] 143)
  have R0 := R.below hb0
  have k0 : (w.alloc (.cells #[.slice (some ⟨b, o, none⟩) 2 c, .string (bS t)] 143)).cell? ⟨w.heap.size, 0, none⟩ = some (.slice (some ⟨b, o, none⟩) 2 c) := by simp
  have k1 := ((bcell hb0).1 _ _ l2).trans l1
  have k3 := ((bcell hb0).1 _ _ l2).trans l3
  have k4 : w.heap.size < (w.alloc (.cells #[.slice (some ⟨b, o, none⟩) 2 c, .string (bS t)] 143)).heap.size := by simp
  have k5 := Nat.lt_of_lt_of_le l2 hb0.size
  clear hI R l1 l3 cP cQ hP hQ hz e9 e0
  replace R0 := Lib.hid R0
  replace hb0 := Lib.hid hb0
  replace l2 := Lib.hid l2
  go_enter Tryz.func143, Tryz.ntmps143
  go_upto_region 1 with fail
  generalize w.alloc (.cells #[.slice (some ⟨b, o, none⟩) 2 c, .string (bS t)] 143) = w0 at *
  have hS : Hid (∀ w', Below w0.heap.size w0 w' → w'.cell? ⟨w.heap.size, 0, none⟩ = some (.slice (some ⟨b, o, none⟩) 2 c) ∧ w.heap.size < w'.heap.size ∧ w'.cell? ⟨b, o, none⟩ = some (.int .i64 (n : Int)) ∧ w'.cell? ⟨b, o + 1, none⟩ = some (.int .i64 (m : Int)) ∧ b < w'.heap.size ∧ Below w0.heap.size w0 w') := Lib.hid fun w' h => ⟨((bcell h).1 _ _ k4).trans k0, Nat.lt_of_lt_of_le k4 h.size, ((bcell h).1 _ _ k5).trans k1, ((bcell h).1 _ _ k5).trans k3, Nat.lt_of_lt_of_le k5 h.size, h⟩
  clear k0 k1 k3 k4 k5
  go_cut [4, 5] from 6 to 19 (fun s4 s5 wx => ∃ g : Nat, s4 = .pointer (some ⟨g, 0, none⟩) ∧ s5 = .nilIface ∧ (wx.cell? ⟨g, 0, none⟩ = some (.int .i64 (x : Int)) ∧ wx.cell? ⟨g, 1, none⟩ = some (.int .i64 (y : Int)) ∧ g < wx.heap.size) ∧ Below w0.heap.size w0 wx)
  case first =>
    go_region_held3 (fun w' => w'.cell? ⟨w.heap.size, 0, none⟩ = some (.slice (some ⟨b, o, none⟩) 2 c) ∧ w.heap.size < w'.heap.size ∧ w'.cell? ⟨b, o, none⟩ = some (.int .i64 (n : Int)) ∧ w'.cell? ⟨b, o + 1, none⟩ = some (.int .i64 (m : Int)) ∧ b < w'.heap.size ∧ Below w0.heap.size w0 w') (first | (refine hS.out _ ?_; repeat (with_reducible first | exact Below.refl _ _ | exact hwt.out | refine balloc ?_ _ | refine Below.drew ?_ | refine below_set ?_ (by first | omega | (dsimp only; omega)) _))) (first | (go_at_call 82; refine (hB.out _ _ (R0.out.below (by repeat (with_reducible first | exact Below.refl _ _ | exact hwt.out | refine balloc ?_ _ | refine Below.drew ?_))).F).mono ?_; rintro e wb ⟨rfl, hbb⟩; have hwt := Lib.hid (show Below w0.heap.size w0 wb from below_seq (by repeat (with_reducible first | exact Below.refl _ _ | exact hwt.out | refine balloc ?_ _ | refine Below.drew ?_)) hbb); (first | (have kC2 := TwAt.below kC (below_seq (by repeat (with_reducible first | exact Below.refl _ _ | refine balloc ?_ _ | refine Below.drew ?_)) hbb); replace kC := kC2) | (have kC := TwAt.below (twZ _) hbb) | (have kC := TwAt.below (TwAt.drew' (twZ _)) hbb) | skip); (first | (obtain ⟨c0, c1, c2, c3, c4⟩ := id kC; try simp only [World.size_drew] at c0 c1 c2 c3 c4) | skip); have hza := hwt.out.size; clear hbb) | (go_at_call 144; refine (hPr.out _ (R0.out.below (by repeat (with_reducible first | exact hwt.out | refine balloc ?_ _ | refine Below.drew ?_))).F (R0.out.below (by repeat (with_reducible first | exact hwt.out | refine balloc ?_ _ | refine Below.drew ?_))).O).mono ?_; rintro e wd ⟨rfl, hbb⟩; have hwt := Lib.hid (show Below w0.heap.size w0 wd from below_seq (by repeat (with_reducible first | exact hwt.out | refine balloc ?_ _ | refine Below.drew ?_)) hbb); (first | (have kC2 := TwAt.below kC (below_seq (by repeat (with_reducible first | exact Below.refl _ _ | refine balloc ?_ _ | refine Below.drew ?_)) hbb); replace kC := kC2) | (have kC := TwAt.below (twZ _) hbb) | (have kC := TwAt.below (TwAt.drew' (twZ _)) hbb) | skip); (first | (obtain ⟨c0, c1, c2, c3, c4⟩ := id kC; try simp only [World.size_drew] at c0 c1 c2 c3 c4) | skip); have hza := hwt.out.size) | fail)
    all_goals
      go_wp2_with fail
      go_meet
      first
      | exact ⟨_, rfl, rfl, ⟨by simp, by simp, by simp⟩, balloc hwt.out _⟩
      | exact ⟨_, rfl, rfl, ⟨(set2_cell c0 c1).1, (set2_cell c0 c1).2, by simpa using c4⟩, below_set (below_set hwt.out (by omega) _) (by omega) _⟩
      | exact ⟨_, rfl, rfl, ⟨(set2_cell c0 c1).1, (set2_cell c0 c1).2, by simpa using c4⟩, below_set (below_set hwt.out (by dsimp only; omega) _) (by dsimp only; omega) _⟩
  case rest =>
  obtain ⟨g, rfl, rfl, ⟨g0, g1, gl⟩, hbx⟩ := hcut
  obtain ⟨wx, hwx⟩ : ∃ x : World, x = wc := ⟨_, rfl⟩
  rw [← hwx] at g0 g1 gl hbx ⊢
  clear hwx hS hB hPr
  have hW := Lib.hid (words_at [x, y] wx.heap.size 2 wx _ #[.int .i64 (x : Int), .int .i64 (y : Int)] 3 rfl rfl rfl (by show 2 ≤ 1000; decide) (fun m hm => by
    simp only [List.mem_cons, List.not_mem_nil, or_false] at hm
    rcases hm with rfl | rfl <;> omega) (R0.out.below hbx).T)
  have hB3 := Lib.hid (balloc hbx (.cells #[.int .i64 (x : Int), .int .i64 (y : Int)] 3))
  clear hbx hx hy
  go_wp2_with fail
  refine hW.out.mono ?_; rintro e w3 ⟨rfl, hb⟩
  have hfin : Below w.heap.size w w3 := hb0.out.trans ((below_seq hB3.out hb).mono hb0.out.size)
  clear hb
  go_wp2
  go_ret2
  exact ⟨rfl, hfin⟩
end Go.Proofs.YtjjmelhhalomaaaGreatDoor
namespace Go.Proofs.YtjjmelhhalomaaaGreatDoor
open Go.RowKit
set_option maxRecDepth 100000
set_option linter.unusedVariables false
set_option linter.unusedSimpArgs false
attribute [local go_sem ↓] Go.wp_at_zero Go.wp_at_succ
set_option maxHeartbeats 16000000 in
theorem deed6 (n m : Nat) (b o c : Nat) (t : List UInt8) (w : World) (R : RunAt w) (hI : IntsAt w b o [(n : Int), (m : Int)]) (P : Sp) (S : Nat) (k : Int) (hP : Sm P) (hS1 : S < 1000000)
    (hL : ∀ w1 : World, FarAt w1 → Calls Tryz.prog 40 #[.int .i64 (n : Int), .int .i64 (m : Int), .string (bS t)] w1 fun e w' => e = .returned (.tuple #[slV P (S : Int), errR k]) ∧ Below w1.heap.size w1 w') :
    DeedC 145 (.slice (some ⟨b, o, none⟩) 2 c) t w (joinN [P.x.toNat, P.y.toNat, S]) k := by
  unfold DeedC lnV
  obtain ⟨px, py, pf⟩ := P
  obtain ⟨x0, x1, y0, y1⟩ := hP
  obtain ⟨x, rfl⟩ : ∃ x : Nat, px = (x : Int) := ⟨px.toNat, by simp at x0; omega⟩
  obtain ⟨y, rfl⟩ : ∃ y : Nat, py = (y : Int) := ⟨py.toNat, by simp at y0; omega⟩
  have e9 : joinN [(⟨(x : Int), (y : Int), pf⟩ : Sp).x.toNat, (⟨(x : Int), (y : Int), pf⟩ : Sp).y.toNat, S] = joinN [x, y, S] := by
    show joinN [((x : Int)).toNat, ((y : Int)).toNat, S] = _
    rw [Int.toNat_natCast, Int.toNat_natCast]
  rw [e9]
  have hx1 : x < 1000000 := by simp at x1; omega
  have hy1 : y < 1000000 := by simp at y1; omega
  have l1 := hI.c 0 (by simp)
  have l3 := hI.c 1 (by simp)
  have l2 := hI.lt
  simp only [List.getElem_cons_zero, List.getElem_cons_succ, Nat.add_zero] at l1 l3
  replace hL := Lib.hid hL
  generalize errR k = E at *
  generalize bS t = T at *
  have hb0 := below_alloc w (.cells #[.slice (some ⟨b, o, none⟩) 2 c, .string T] 143)
  have R0 := R.below hb0
  have k0 : (w.alloc (.cells #[.slice (some ⟨b, o, none⟩) 2 c, .string T] 143)).cell? ⟨w.heap.size, 0, none⟩ = some (.slice (some ⟨b, o, none⟩) 2 c) := by simp
  have k2 : (w.alloc (.cells #[.slice (some ⟨b, o, none⟩) 2 c, .string T] 143)).cell? ⟨w.heap.size, 1, none⟩ = some (.string T) := by simp
  have k1 := ((bcell hb0).1 _ _ l2).trans l1
  have k3 := ((bcell hb0).1 _ _ l2).trans l3
  have k4 : w.heap.size < (w.alloc (.cells #[.slice (some ⟨b, o, none⟩) 2 c, .string T] 143)).heap.size := by simp
  have k5 := Nat.lt_of_lt_of_le l2 hb0.size
  clear hI R l1 l3 e9 x0 x1 y0 y1
  replace R0 := Lib.hid R0
  replace hb0 := Lib.hid hb0
  replace l2 := Lib.hid l2
  go_enter Tryz.func145, Tryz.ntmps145
  go_upto_region 1 with fail
  generalize w.alloc (.cells #[.slice (some ⟨b, o, none⟩) 2 c, .string T] 143) = w0 at *
  have hS : Hid (∀ w', Below w0.heap.size w0 w' → w'.cell? ⟨w.heap.size, 0, none⟩ = some (.slice (some ⟨b, o, none⟩) 2 c) ∧ w'.cell? ⟨w.heap.size, 1, none⟩ = some (.string T) ∧ w.heap.size < w'.heap.size ∧ w'.cell? ⟨b, o, none⟩ = some (.int .i64 (n : Int)) ∧ w'.cell? ⟨b, o + 1, none⟩ = some (.int .i64 (m : Int)) ∧ b < w'.heap.size ∧ Below w0.heap.size w0 w') := Lib.hid fun w' h => ⟨((bcell h).1 _ _ k4).trans k0, ((bcell h).1 _ _ k4).trans k2, Nat.lt_of_lt_of_le k4 h.size, ((bcell h).1 _ _ k5).trans k1, ((bcell h).1 _ _ k5).trans k3, Nat.lt_of_lt_of_le k5 h.size, h⟩
  clear k0 k1 k2 k3 k4 k5
  go_cut [4, 5] from 6 to 19 (fun s4 s5 wx => ∃ g : Nat, s4 = .pointer (some ⟨g, 0, none⟩) ∧ s5 = E ∧ SeAt wx g ⟨(x : Int), (y : Int), pf⟩ (S : Int) ∧ Below w0.heap.size w0 wx)
  case first =>
    go_region_held3 (fun w' => w'.cell? ⟨w.heap.size, 0, none⟩ = some (.slice (some ⟨b, o, none⟩) 2 c) ∧ w'.cell? ⟨w.heap.size, 1, none⟩ = some (.string T) ∧ w.heap.size < w'.heap.size ∧ w'.cell? ⟨b, o, none⟩ = some (.int .i64 (n : Int)) ∧ w'.cell? ⟨b, o + 1, none⟩ = some (.int .i64 (m : Int)) ∧ b < w'.heap.size ∧ Below w0.heap.size w0 w') (first | (refine hS.out _ ?_; repeat (with_reducible first | exact Below.refl _ _ | exact hwa | refine balloc ?_ _ | refine Below.drew ?_ | refine below_set ?_ (by first | omega | (dsimp only; omega)) _))) (first | (go_at_call 40; refine (hL.out _ (R0.out.below (by repeat (with_reducible first | exact Below.refl _ _ | refine balloc ?_ _ | refine Below.drew ?_))).F).mono ?_; rintro e wa ⟨rfl, ha2⟩; have hwa : Below w0.heap.size w0 wa := below_seq (by repeat (with_reducible first | exact Below.refl _ _ | refine balloc ?_ _ | refine Below.drew ?_)) ha2; have hza := hwa.size; (first | (refine hav_ (P := SeAt wa w0.heap.size ⟨0, 0, false⟩ 0) (SeAt.below (SeAt.fresh _ _ _ _ _ _) ha2) (fun kC => ?_); obtain ⟨c0, c1, c2, c3, c4, c5, c6, c7, c8⟩ := kC) | (refine hav_ (P := SeAt wa w0.heap.size ⟨0, 0, false⟩ 0) (SeAt.below (SeAt.drew (SeAt.fresh _ _ _ _ _ _)) ha2) (fun kC => ?_); obtain ⟨c0, c1, c2, c3, c4, c5, c6, c7, c8⟩ := kC) | skip)) | fail)
    all_goals
      go_wp2_with fail
      go_meet
      first
      | exact ⟨_, rfl, rfl, SeAt.fresh _ _ _ _ _ _, balloc hwa _⟩
      | exact ⟨_, rfl, rfl, (SeAt.zero_of (by assumption) (by assumption) (by assumption) (by assumption) (by assumption) (by assumption) (by assumption) (by assumption) (by assumption)).set4 ⟨(x : Int), (y : Int), pf⟩ (S : Int), set4_below hwa (by omega)⟩
  case rest =>
  obtain ⟨g, rfl, rfl, hg, hbx⟩ := hcut
  obtain ⟨wx, hwx⟩ : ∃ x : World, x = wc := ⟨_, rfl⟩
  rw [← hwx] at hg hbx ⊢
  obtain ⟨g0, g1, g2, g3, -, -, -, -, gl⟩ := hg
  clear hwx hS hL
  have hW := Lib.hid (words_at [x, y, S] wx.heap.size 3 wx _ #[.int .i64 (x : Int), .int .i64 (y : Int), .int .i64 (S : Int)] 3 rfl rfl rfl (by show 3 ≤ 1000; decide) (fun m hm => by
    simp only [List.mem_cons, List.not_mem_nil, or_false] at hm
    rcases hm with rfl | rfl | rfl <;> assumption) (R0.out.below hbx).T)
  have hB3 := Lib.hid (balloc hbx (.cells #[.int .i64 (x : Int), .int .i64 (y : Int), .int .i64 (S : Int)] 3))
  clear hbx
  go_wp2_with fail
  refine hW.out.mono ?_; rintro e w3 ⟨rfl, hb⟩
  have hfin : Below w.heap.size w w3 := hb0.out.trans ((below_seq hB3.out hb).mono hb0.out.size)
  clear hb
  go_wp2
  go_ret2
  exact ⟨rfl, hfin⟩
end Go.Proofs.YtjjmelhhalomaaaGreatDoor
namespace Go.Proofs.YtjjmelhhalomaaaGreatDoor
open Go.RowKit
set_option maxRecDepth 100000
set_option linter.unusedVariables false
set_option linter.unusedSimpArgs false
/-- Is it a rest modulo Q. -/
def okR (n : Int) : Bool := decide (0 ≤ n ∧ n < 1013)
theorem okR_y {n : Int} (h : okR n = true) : 0 ≤ n ∧ n < 1013 := of_decide_eq_true h
theorem okR_n {n : Int} (h : okR n = false) : ¬ (0 ≤ n ∧ n < 1013) := of_decide_eq_false h
theorem first_noR : ∀ (l : List Int), l.all okR = false → ∃ (i : Nat) (h : i < l.length), okR l[i] = false ∧ ∀ j (hj : j < l.length), j < i → okR l[j] = true
  | [], h => by simp at h
  | x :: l, h => by
    cases e : okR x with
    | false => exact ⟨0, by simp, e, fun j _ h => absurd h (Nat.not_lt_zero _)⟩
    | true =>
      rw [List.all_cons, e, Bool.true_and] at h
      obtain ⟨i, hi, h1, h2⟩ := first_noR l h
      refine ⟨i + 1, by simpa using hi, h1, fun j hj hlt => ?_⟩
      cases j with
      | zero => exact e
      | succ j => exact h2 j (by simpa using hj) (by omega)
theorem all_okR {l : List Int} (h : l.all okR = true) (i : Nat) (hi : i < l.length) : okR l[i] = true := List.all_eq_true.mp h _ (List.getElem_mem hi)
theorem clos_s_y (n : Int) (w : World) (h1 : 0 ≤ n) (h2 : n < 1013) : Calls Tryz.prog 168 #[.int .i64 n] w fun e w' => e = .returned (.bool false) ∧ w = w' := by
  go_enter Tryz.func168, Tryz.ntmps168
  go_wp2_with fail
  refine (rest_y n _ h1 h2).mono ?_; rintro e w' ⟨rfl, rfl⟩
  go_wp2
  go_ret
  exact ⟨rfl, rfl⟩
theorem clos_s_n (n : Int) (w : World) (h : ¬ (0 ≤ n ∧ n < 1013)) : Calls Tryz.prog 168 #[.int .i64 n] w fun e w' => e = .returned (.bool true) ∧ w = w' := by
  go_enter Tryz.func168, Tryz.ntmps168
  go_wp2_with fail
  refine (rest_n n _ h).mono ?_; rintro e w' ⟨rfl, rfl⟩
  go_wp2
  go_ret
  exact ⟨rfl, rfl⟩
set_option maxHeartbeats 2000000 in
theorem idxF_s (l : List Int) (a : Option Addr) (cap : Nat) (w : World) (hl : l.length ≤ 9223372036854775807) (h0 : 0 < l.length → ∃ b off, a = some ⟨b, off, none⟩ ∧ IntsAt w b off l) (R : Value)
    (hfirst : Hid (∀ i (h : i < l.length), (∀ j (hj : j < l.length), j < i → okR l[j] = true) → okR l[i] = false → R = .int .i64 i)) (hend : Hid ((∀ i (h : i < l.length), okR l[i] = true) → R = .int .i64 (-1))) :
    Calls Tryz.prog 185 #[.slice a l.length cap, .func (.func 168) #[] #[]] w fun e w' => e = .returned R ∧ w = w' := by
  have h0' := Lib.hid h0
  clear h0
  go_enter Tryz.func185, Tryz.ntmps185
  go_wp2
  go_loop [8] (fun i => ∃ n : Nat, n ≤ l.length ∧ i = .int .i64 n ∧ (∀ j (hj : j < l.length), j < n → okR l[j] = true)) (fun i => l.length - (intOf i).toNat)
  case atStart => exact ⟨0, Nat.zero_le _, rfl, fun _ _ h => absurd h (Nat.not_lt_zero _)⟩
  case round =>
    obtain ⟨n, hn, rfl, k1⟩ := hrel
    replace k1 := Lib.hid k1
    by_cases hlt : n < l.length
    · obtain ⟨b, off, rfl, l1⟩ := h0'.out (by omega)
      have m1 := l1.c n hlt
      clear l1
      cases e1 : okR l[n] with
      | false =>
        have hb := okR_n e1
        have hR := Lib.hid (hfirst.out n hlt k1.out e1)
        clear e1
        generalize l[n] = x at *
        go_wp2_with fail
        refine (clos_s_n x _ hb).mono ?_; rintro e w' ⟨rfl, rfl⟩
        go_wp2
        go_ret
        exact ⟨ret_eq hR.out.symm, rfl⟩
      | true =>
        obtain ⟨x1, x2⟩ := okR_y e1
        have j1 : ∀ j (hj : j < l.length), j < n + 1 → okR l[j] = true := by
          intro j hj h
          by_cases hjn : j < n
          · exact k1.out j hj hjn
          · obtain rfl : j = n := by omega
            exact e1
        replace j1 := Lib.hid j1
        clear e1
        generalize l[n] = x at *
        go_wp2_with fail
        refine (clos_s_y x _ x1 x2).mono ?_; rintro e w' ⟨rfl, rfl⟩
        go_wp2
        go_round
        case rel => exact ⟨n + 1, by omega, by go_num, j1.out⟩
        case measure => simp [intOf]; omega
    · have hR := Lib.hid (hend.out (fun i hi => k1.out i hi (by omega)))
      go_wp2
      go_ret
      exact ⟨ret_eq hR.out.symm, rfl⟩
theorem contF_s (l : List Int) (v : Value) (w : World) (hl : l.length ≤ 9223372036854775807) (h : IntSl w v l) :
    Calls Tryz.prog 167 #[v, .func (.func 168) #[] #[]] w fun e w' => e = .returned (.bool (!(l.all okR))) ∧ w = w' := by
  obtain ⟨a, cap, rfl, h0⟩ := h
  cases e : l.all okR with
  | true =>
    have hI := idxF_s l a cap w hl h0 (.int .i64 (-1)) (Lib.hid fun i hi _ hb => by rw [all_okR e i hi] at hb; cases hb) (Lib.hid fun _ => rfl)
    clear h0 e
    go_enter Tryz.func167, Tryz.ntmps167
    go_wp2_with fail
    refine (hI).mono ?_; rintro e w' ⟨rfl, rfl⟩
    go_wp2
    go_ret
    exact ⟨rfl, rfl⟩
  | false =>
    obtain ⟨i, hi, h1, h2⟩ := first_noR l e
    have hI := idxF_s l a cap w hl h0 (.int .i64 i) (Lib.hid fun j hj hlt hb => by
      have : i = j := by
        rcases Nat.lt_trichotomy i j with h | h | h
        · rw [hlt i hi h] at h1; cases h1
        · exact h
        · rw [h2 j hj h] at hb; cases hb
      rw [this]) (Lib.hid fun h => by rw [h i hi] at h1; cases h1)
    clear h0 e h1 h2
    go_enter Tryz.func167, Tryz.ntmps167
    go_wp2_with fail
    refine (hI).mono ?_; rintro e w' ⟨rfl, rfl⟩
    have hi0 : (0 : Int) ≤ (i : Int) := by omega
    go_wp2
    go_ret
    exact ⟨rfl, rfl⟩
end Go.Proofs.YtjjmelhhalomaaaGreatDoor
namespace Go.Proofs.YtjjmelhhalomaaaGreatDoor
open Go.RowKit Go.Shelf
set_option maxRecDepth 100000
set_option linter.unusedVariables false
set_option linter.unusedSimpArgs false
attribute [local go_sem] Oper.semAt_some
/-- A rest modulo Q. -/
abbrev Rest := { c : Int // 0 ≤ c ∧ c < 1013 }
def restAt (l : List Int) (j : Nat) : Rest := if h : 0 ≤ l.getD j 0 ∧ l.getD j 0 < 1013 then ⟨l.getD j 0, h⟩ else ⟨0, by decide, by decide⟩
theorem restAt_ok {l : List Int} (h : l.all okR = true) (j : Nat) (hj : j < l.length) : (restAt l j).1 = l[j] := by
  have he : l.getD j 0 = l[j] := by rw [List.getD_eq_getElem?_getD, List.getElem?_eq_getElem hj]; rfl
  have := okR_y (all_okR h j hj)
  unfold restAt
  rw [dif_pos (by rw [he]; exact this)]
  exact he
/-- What has come behind k rounds. -/
def upto {α : Type} (f : Nat → α) (k : Nat) : List α := (List.range k).map f
theorem upto_succ {α : Type} (f : Nat → α) (k : Nat) : upto f (k + 1) = upto f k ++ [f k] := by simp [upto, List.range_succ]
theorem upto_length {α : Type} (f : Nat → α) (k : Nat) : (upto f k).length = k := by simp [upto]
/-- From the last to the first: the place, and what stands there. -/
def back (l : List Int) (k : Nat) : Int × Rest := (((l.length - 1 - k : Nat) : Int), restAt l (l.length - 1 - k))
/-- What a round keeps: all below n₀, and the box of the slice. -/
def KB (n₀ Bs : Nat) (W W' : World) : Prop := Below n₀ W W' ∧ W'.heap[Bs]? = W.heap[Bs]?
theorem KB.refl {n₀ Bs : Nat} {W : World} : KB n₀ Bs W W := ⟨Below.refl _ _, rfl⟩
theorem KB.trans {n₀ Bs : Nat} {A B C : World} (h : KB n₀ Bs A B) (k : KB n₀ Bs B C) : KB n₀ Bs A C := ⟨h.1.trans k.1, k.2.trans h.2⟩
theorem KB.cell {n₀ Bs : Nat} {W W' : World} (h : KB n₀ Bs W W') (o : Nat) : W'.cell? ⟨Bs, o, none⟩ = W.cell? ⟨Bs, o, none⟩ := World.cell?_of_block (w := W) h.2
theorem KB.put {n₀ Bs : Nat} {w : World} (hn : n₀ ≤ w.heap.size) (hB : Bs < w.heap.size) (W : World) (l : Nat) (o o' : Obj) (hl : w.heap.size ≤ l) (h : W.heap[l]? = some o) (h1 : o.isCells = false) (h2 : o.isWalk = false) : KB n₀ Bs W (W.putObj l o') :=
  ⟨belowK_b hn W l o o' hl h h1 h2, World.putObj_heap_other (by omega)⟩
set_option maxHeartbeats 2000000 in
theorem back1_in (F : Fence) (n : Nat) (hf : F.fn 186) (hro : F.round = none) (hn : 1 ≤ n) (l Bs n₀ b off cap : Nat) (zs : List Int) (hz : zs.all okR = true) (hl : zs.length ≤ 12) (hb : b < n₀) (J Jx : List (Int × Rest) → World → Prop)
    (hY : ∀ pre x W, J pre W → pre.length < zs.length → YieldAt F (n - 1) Tryz.prog l #[.int .i64 x.1, .int .i64 x.2.1] W fun e W' =>
      (e = .returned (.bool true) ∧ J (pre ++ [x]) W' ∧ KB n₀ Bs W W') ∨ (e = .returned (.bool false) ∧ Jx (pre ++ [x]) W'))
    (W : World) (hBs : W.cell? ⟨Bs, 0, none⟩ = some (.slice (some ⟨b, off, none⟩) zs.length cap)) (hc : ∀ j (h : j < zs.length), W.cell? ⟨b, off + j, none⟩ = some (.int .i64 zs[j])) (h0 : J [] W) :
    CallsIn F n Tryz.prog 186 #[.func (.yield l) #[] #[], .pointer (some ⟨Bs, 0, none⟩)] W fun e W' => (∃ v, e = .returned v) ∧
      ((∃ ys, ys = upto (back zs) zs.length ∧ J ys W') ∨ (∃ pre, (∃ k, k ≤ zs.length ∧ pre = upto (back zs) k) ∧ Jx pre W')) := by
  refine callsIn_of_wp Tryz.func186 rfl hf ?_ hro
  simp only [Tryz.ntmps186, List.size_toArray, List.length_cons, List.length_nil, Nat.reduceAdd, Nat.reduceSub, Array.replicate_succ, Array.replicate_zero, List.push_toArray, List.append_toArray, List.nil_append, List.cons_append]
  gi_wp2
  gi_loopw [3] (fun i wr => ∃ k : Nat, k ≤ zs.length ∧ i = .int .i64 ((zs.length : Int) - 1 - k) ∧ J (upto (back zs) k) wr ∧ KB n₀ Bs W wr)
    (fun i _ => (intOf i + 1).toNat)
  case atStart => exact ⟨0, Nat.zero_le _, by simp, h0, KB.refl⟩
  case round =>
    obtain ⟨k, hk, rfl, hJs, hnx⟩ := hrel
    by_cases hlt : k < zs.length
    · obtain ⟨j, hj⟩ : ∃ j : Nat, zs.length - 1 - k = j := ⟨_, rfl⟩
      have hjl : j < zs.length := by omega
      have hcx := (hnx.1.cell (p := ⟨b, off + j, none⟩) hb).trans (hc j hjl)
      have hcs := (hnx.cell 0).trans hBs
      have hbk : back zs k = ((j : Int), restAt zs j) := by unfold back; rw [hj]
      have hv := restAt_ok hz j hjl
      obtain ⟨fn, tmps, assign, body, hy, hR⟩ := hY _ (back zs k) wr hJs (by rw [upto_length]; exact hlt)
      rw [hbk] at hy
      simp only [hv] at hy
      have hji : (zs.length : Int) - 1 - k = j := by omega
      rw [hji]
      have hu := upto_succ (back zs) k
      have hnext : (j : Int) - 1 = (zs.length : Int) - 1 - (k + 1 : Nat) := by omega
      replace hu := Lib.hid hu
      replace hnext := Lib.hid hnext
      replace hbk := Lib.hid hbk
      replace hv := Lib.hid hv
      replace hji := Lib.hid hji
      replace hj := Lib.hid hj
      replace hR := Lib.hid hR
      gi_wp2
      refine hR.out.mono ?_
      rintro e W3 (⟨rfl, hJ3, hk3⟩ | ⟨rfl, hJx3⟩)
      · gi_wp2
        go_roundw
        case rel => exact ⟨k + 1, by omega, by rw [← hnext.out], by rw [hu.out]; exact hJ3, hnx.trans hk3⟩
        case measure => simp [intOf] <;> omega
      · gi_wp2
        refine bodyPost_ret (results_none rfl _ _ _) rfl ?_
        exact ⟨⟨_, rfl⟩, .inr ⟨_, ⟨k + 1, by omega, hu.out.symm⟩, hJx3⟩⟩
    · obtain rfl : k = zs.length := by omega
      rw [show (zs.length : Int) - 1 - (zs.length : Nat) = -1 by omega]
      gi_wp2
      go_end0
      exact ⟨⟨_, rfl⟩, .inl ⟨_, rfl, hJs⟩⟩
theorem back_stops (F : Fence) (n : Nat) (hf : F.fn 186) (hro : F.round = none) (hn : 1 ≤ n) (Bs n₀ b off cap : Nat) (zs : List Int) (hz : zs.all okR = true) (hl : zs.length ≤ 12) (hb : b < n₀) (w : World) (hBs : Bs < w.heap.size)
    (hc : w.cell? ⟨Bs, 0, none⟩ = some (.slice (some ⟨b, off, none⟩) zs.length cap)) (hI : IntsAt w b off zs) :
    SeqStopsK F n Tryz.prog 186 #[.pointer (some ⟨Bs, 0, none⟩)] (fun x : Int × Rest => #[Value.int .i64 x.1, Value.int .i64 x.2.1]) (KB n₀ Bs) (fun ys => ys = upto (back zs) zs.length)
      (fun pre => ∃ k, k ≤ zs.length ∧ pre = upto (back zs) k) zs.length w := fun l J Jx W hW _ _ hY h0 => by
  have hc' := (hW.cell (p := ⟨Bs, 0, none⟩) hBs).trans hc
  have hI' := hI.below hW
  exact back1_in F n hf hro hn l Bs n₀ b off cap zs hz hl hb J Jx hY W hc' hI'.c h0
theorem backward_c (a : Option Addr) (len cap : Nat) (w : World) :
    Calls Tryz.prog 169 #[.slice a len cap] w fun e w' => e = .returned (.func (.func 186) #[] #[.pointer (some ⟨w.heap.size, 0, none⟩)]) ∧ w' = w.alloc (.cells #[.slice a len cap] 36) := by
  go_enter Tryz.func169, Tryz.ntmps169
  go_wp2
  go_ret
  exact ⟨rfl, rfl⟩
end Go.Proofs.YtjjmelhhalomaaaGreatDoor
namespace Go.Proofs.YtjjmelhhalomaaaGreatDoor
open Go.RowKit Go.Shelf
set_option maxRecDepth 100000
set_option linter.unusedVariables false
set_option linter.unusedSimpArgs false
attribute [local go_sem] Oper.semAt_some
/-- What a polynomial is at x, modulo Q. -/
def val (x : Int) (l : List Int) : Int := l.foldr (fun c y => (y * x + c) % 1013) 0
/-- The shares. -/
def splitL (l : List Int) (n : Nat) : List (Int × Int) := (List.range n).map fun k => (((k + 1 : Nat) : Int), val ((k + 1 : Nat) : Int) l)
theorem splitL_succ (l : List Int) (n : Nat) : splitL l (n + 1) = splitL l n ++ [(((n + 1 : Nat) : Int), val ((n + 1 : Nat) : Int) l)] := by simp [splitL, List.range_succ]
theorem splitL_len (l : List Int) (n : Nat) : (splitL l n).length = n := by simp [splitL]
/-- What has been reckoned of those that have come. -/
def hor (x : Int) (pre : List (Int × Rest)) : Int := pre.foldl (fun y p => (y * x + p.2.1) % 1013) 0
theorem hor_snoc (x : Int) (pre : List (Int × Rest)) (p : Int × Rest) : hor x (pre ++ [p]) = (hor x pre * x + p.2.1) % 1013 := by simp [hor]
theorem hor_bd (x : Int) (pre : List (Int × Rest)) : 0 ≤ hor x pre ∧ hor x pre < 1013 := by
  rcases List.eq_nil_or_concat pre with rfl | ⟨q, p, rfl⟩
  · exact ⟨Int.le_refl 0, by show (0 : Int) < 1013; decide⟩
  · rw [List.concat_eq_append, hor_snoc]; exact ⟨Int.emod_nonneg _ (by decide), Int.emod_lt_of_pos _ (by decide)⟩
theorem hor_back (x : Int) (l : List Int) (h : l.all okR = true) : ∀ k, k ≤ l.length → hor x (upto (back l) k) = val x (l.drop (l.length - k))
  | 0, _ => by simp [upto, hor, val]
  | k + 1, hk => by
    rw [upto_succ, hor_snoc, hor_back x l h k (by omega)]
    have e : l.drop (l.length - (k + 1)) = l[l.length - (k + 1)]'(by omega) :: l.drop (l.length - k) := by
      rw [List.drop_eq_getElem_cons (by omega)]; congr 2; omega
    rw [e]
    simp only [val, List.foldr_cons, back]
    rw [show l.length - 1 - k = l.length - (k + 1) by omega, restAt_ok h _ (by omega)]
theorem hor_all (x : Int) (l : List Int) (h : l.all okR = true) : hor x (upto (back l) l.length) = val x l := by
  rw [hor_back x l h l.length (Nat.le_refl _), Nat.sub_self, List.drop_zero]
/-- The cells of some shares. -/
def shCells : List (Int × Int) → List Value
  | [] => []
  | s :: l => .int .i64 s.1 :: .int .i64 s.2 :: shCells l
theorem shCells_len : ∀ l : List (Int × Int), (shCells l).length = l.length * 2
  | [] => rfl
  | s :: l => by simp only [shCells, List.length_cons, shCells_len l]; omega
theorem shCells_snoc : ∀ (l : List (Int × Int)) (s : Int × Int), shCells (l ++ [s]) = shCells l ++ [.int .i64 s.1, .int .i64 s.2]
  | [], _ => rfl
  | t :: l, s => by simp only [List.cons_append, shCells, shCells_snoc l s]
theorem shCells_get : ∀ (l : List (Int × Int)) (i : Nat) (h : i < l.length), (shCells l)[i * 2]? = some (.int .i64 l[i].1) ∧ (shCells l)[i * 2 + 1]? = some (.int .i64 l[i].2)
  | [], _, h => absurd h (Nat.not_lt_zero _)
  | s :: l, 0, _ => ⟨rfl, rfl⟩
  | s :: l, i + 1, h => by
    have := shCells_get l i (by simpa using h)
    rw [Nat.add_mul]
    exact this
/-- Shares that lie in a row. -/
structure ShsAt (w : World) (b off : Nat) (l : List (Int × Int)) : Prop where
  lt : b < w.heap.size
  cx : ∀ i (h : i < l.length), w.cell? ⟨b, off + i * 2, none⟩ = some (.int .i64 l[i].1)
  cy : ∀ i (h : i < l.length), w.cell? ⟨b, off + i * 2 + 1, none⟩ = some (.int .i64 l[i].2)
theorem ShsAt.below {w w' : World} {b off : Nat} {l : List (Int × Int)} (h : ShsAt w b off l) (hb : Below w.heap.size w w') : ShsAt w' b off l :=
  ⟨Nat.lt_of_lt_of_le h.lt hb.size, fun i hi => (hb.cell (p := ⟨b, off + i * 2, none⟩) h.lt).trans (h.cx i hi), fun i hi => (hb.cell (p := ⟨b, off + i * 2 + 1, none⟩) h.lt).trans (h.cy i hi)⟩
/-- A value that is a slice of these shares. -/
def ShSl (w : World) (v : Value) (l : List (Int × Int)) : Prop := ∃ a cap, v = .slice a l.length cap ∧ (0 < l.length → ∃ b off, a = some ⟨b, off, none⟩ ∧ ShsAt w b off l)
theorem ShSl.below {w w' : World} {v : Value} {l : List (Int × Int)} (h : ShSl w v l) (hb : Below w.heap.size w w') : ShSl w' v l := by
  obtain ⟨a, cap, rfl, h⟩ := h
  exact ⟨a, cap, rfl, fun h0 => by obtain ⟨b, off, e, hs⟩ := h h0; exact ⟨b, off, e, hs.below hb⟩⟩
theorem ShSl.put {w : World} {v : Value} {l : List (Int × Int)} {r : Nat} {o : Option (List Deferred)} {o' : Obj} (h : ShSl w v l) (hr : w.heap[r]? = some (.deferred o)) : ShSl (w.putObj r o') v l := by
  obtain ⟨a, cap, rfl, h⟩ := h
  refine ⟨a, cap, rfl, fun h0 => ?_⟩
  obtain ⟨b, off, rfl, hs⟩ := h h0
  have hk : ∀ {c v}, w.cell? c = some v → (w.putObj r o').cell? c = some v := fun hc => cell_kept hc (grownBy_putObj' w r o') (fun q e => by cases e; exact ⟨_, hr, rfl⟩)
  exact ⟨b, off, rfl, by simpa [World.putObj] using hs.lt, fun i hi => hk (hs.cx i hi), fun i hi => hk (hs.cy i hi)⟩
theorem own_shares {w : World} {B e : Nat} {v : Value} {l : List (Int × Int)} {n : Nat} (h : w.ownsRow B e 2 v n (shCells l)) (hn : n = l.length) : ShSl w v l := by
  subst hn
  obtain ⟨hl, h | ⟨g, cap, cur, rfl, hb, hg, hc, -, -, ht⟩⟩ := h
  · obtain ⟨rfl, h0⟩ := h
    exact ⟨none, 0, by rw [h0], fun hp => absurd h0 (by omega)⟩
  · refine ⟨_, _, rfl, fun _ => ⟨g, 0, rfl, (Array.getElem?_eq_some_iff.1 hg).1, fun i hi => ?_, fun i hi => ?_⟩⟩
    all_goals
      obtain ⟨k1, k2⟩ := shCells_get l i hi
      rw [cell_of_row w g _ cur e (0, 0) hg]
      simp only [Nat.zero_add]
      rw [← ht, List.getElem?_take, if_pos (by omega), Array.getElem?_toList] at k1 k2
      assumption
theorem info_share : (Tryz.prog.info? 182).map (fun i => (i.zero, i.size, i.bytes)) = some (some (.agg #[.int .i64 0, .int .i64 0]), 2, 16) := by kernel_rfl
theorem wpl_append_share {w : World} {ops : Array Oper} {rest : List Oper} {o : Oper} {a : Act} {Q : Exit → Act → World → Prop} (hgd : o.guard = none) (s x : Operand) (t : TypeId)
    (ho : o.op = .call { callee := .builtin .append, args := #[s, x], argTypes := #[t, t] }) (ht : Tryz.prog.underlying t = some (.slice 182)) (B : Nat) (v : Value) (l : List (Int × Int)) (n : Nat) (hs : a.eval s = v)
    (hown : w.ownsRow B 182 2 v n (shCells l)) (hn : l.length = n) (hl : n ≤ 1000000) (hB : B ≤ w.heap.size) (g : Nat) (c : Int × Int) (hx : a.eval x = .slice (some ⟨g, 0, none⟩) 1 1)
    (h0 : w.cell? ⟨g, 0, none⟩ = some (.int .i64 c.1)) (h1 : w.cell? ⟨g, 1, none⟩ = some (.int .i64 c.2))
    (h : ∀ v' w', w'.ownsRow B 182 2 v' (n + 1) (shCells (l ++ [c])) → w.grownBy w' v.ownBlock → (∀ a, Below B a w → Below B a w') → (v'.ownBlock = v.ownBlock ∨ v'.ownBlock = some w.heap.size) → wpList Tryz.prog ops Q rest (a.put o.dst v') w') :
    wpList Tryz.prog ops Q (o :: rest) a w := by
  obtain ⟨i0, hi, hz0, hz1, hz2⟩ := info_parts info_share
  refine wpList_append_own_at _ hgd s x _ ho B _ i0 _ 2 16 ht hi hz0 hz1 hz2 rfl (by decide) v n _ hs hown ⟨g, 0, none⟩ 1 1 [.int .i64 c.1, .int .i64 c.2] hx rfl ?_ ?_ (by unfold maxLen; omega) (by omega) hB ?_
  · intro j u hj
    have e : ∀ k, (⟨g, 0, none⟩ : Addr).add k = ⟨g, k, none⟩ := fun k => by rw [add_none, Nat.zero_add]
    rw [e]
    match j, hj with
    | 0, hj => cases hj; exact h0
    | 1, hj => cases hj; exact h1
  · intro u hu
    simp only [List.mem_cons, List.not_mem_nil, or_false] at hu
    rcases hu with rfl | rfl <;> rfl
  · intro v' w' h3 h4 _ h6
    rw [← shCells_snoc] at h3
    exact h v' w' h3 h4 (fun a hb => Below.grown hb h4 hB (fun k hk => (hown.lt k hk).1)) h6
/-- The marks that ranges over functions have left among the calls to come. -/
def mark (r : Nat) : Deferred := { target := .collected r, args := #[] }
theorem leaves_marks {F : Fence} {n : Nat} {P : Program} {fn : Func} {tmps : Array Value} {R : Ending → World → Prop} (v : Value) (J : World → Prop) (hres : ∀ w, (results fn tmps).run P w = .ok v w) (hR : ∀ w, J w → R (.returned v) w) :
    ∀ (rs : List Nat) (w : World), rs.Nodup → (∀ r ∈ rs, w.heap[r]? = some (.deferred (some []))) → (∀ r ∈ rs, ∀ w, w.heap[r]? = some (.deferred (some [])) → J w → J (w.putObj r (.deferred none))) → J w → LeavesInM F n P fn tmps R (rs.map mark) .returning w
  | [], w, _, _, _, h => ⟨v, hres w, hR w h⟩
  | r :: rs, w, hn, hh, hJ, h => by
    have h1 := hh r (List.mem_cons_self ..)
    refine ⟨by simp, .inl ⟨r, _, rfl, run_takeDeferred h1, ?_⟩⟩
    refine leaves_marks v J hres hR rs _ (List.nodup_cons.1 hn).2 (fun q hq => ?_) (fun q hq => hJ q (List.mem_cons_of_mem _ hq)) (hJ r (List.mem_cons_self ..) w h1 h)
    rw [World.putObj_heap_other (fun e => (List.nodup_cons.1 hn).1 (by rw [← e]; exact hq))]
    exact hh q (List.mem_cons_of_mem _ hq)
/-- What holds at the head of Split's loop. -/
def SpInv (w : World) (l : List Int) (b off cap n : Nat) (a' : Act) (wr : World) : Prop :=
  ∃ (k bX : Nat) (rs : List Nat) (u6 u8 u9 u10 u31 u32 u33 u34 u35 u36 u37 u38 u39 u40 u41 u42 u43 u44 u45 u46 u47 u48 u49 u50 u51 u52 : Value), (k ≤ n ∧ wr.cell? ⟨bX, 0, none⟩ = some (.int .i64 ((k : Int) + 1)) ∧ bX < wr.heap.size ∧ wr.ownsRow w.heap.size 182 2 u6 k (shCells (splitL l k)) ∧ u6.ownBlock ≠ some bX ∧ rs.Nodup ∧ (∀ r ∈ rs, w.heap.size ≤ r ∧ wr.heap[r]? = some (.deferred (some []))) ∧ Below w.heap.size w wr) ∧
    a' = ⟨#[Value.slice (some ⟨b, off, none⟩) l.length cap, Value.int .i64 (n : Int), undef, undef, Value.slice none 0 0, Value.nilIface, u6, Value.pointer (some ⟨bX, 0, none⟩), u8, u9, u10, Value.slice (some ⟨b, off, none⟩) l.length cap, Value.int .i64 (l.length : Int), Value.bool false, undef, Value.slice (some ⟨b, off, none⟩) l.length cap, Value.int .i64 (l.length : Int), Value.bool false, Value.bool false, Value.slice (some ⟨b, off, none⟩) l.length cap, Value.bool false, Value.bool false, Value.bool false, Value.int .i64 (n : Int), Value.bool false, Value.bool false, Value.bool false, Value.int .i64 (n : Int), Value.bool false, Value.bool false, undef, u31, u32, u33, u34, u35, u36, u37, u38, u39, u40, u41, u42, u43, u44, u45, u46, u47, u48, u49, u50, u51, u52, undef], rs.map mark⟩
def boxInt (w : World) (v : Value) : Int := match v with
  | .pointer (some p) => (match w.cell? p with | some x => intOf x | none => 0)
  | _ => 0
theorem boxInt_eq {w : World} {b : Nat} {x : Int} (h : w.cell? ⟨b, 0, none⟩ = some (.int .i64 x)) : boxInt w (.pointer (some ⟨b, 0, none⟩)) = x := by simp [boxInt, h, intOf]
def SpMu (n : Nat) (a' : Act) (wr : World) : Nat := ((n : Int) + 1 - boxInt wr (a'.tmps.getD 7 undef)).toNat
theorem own_mark {w : World} {B e size n r : Nat} {v : Value} {xs : List Value} {o : Option (List Deferred)} (h : w.ownsRow B e size v n xs) (hr : w.heap[r]? = some (.deferred o)) : some r ≠ v.ownBlock := fun hv => by
  rcases h.2 with ⟨rfl, -⟩ | ⟨g, cap, cur, rfl, -, hg, -⟩
  · cases hv
  · cases hv
    rw [hr] at hg
    cases hg
theorem marks_grown {W W1 w3 : World} {B e size n : Nat} {v : Value} {xs : List Value} (ha : Below W.heap.size W W1) (hg : W1.grownBy w3 v.ownBlock) (ow : W.ownsRow B e size v n xs) (D : Nat) (rs : List Nat) {m : Nat → Prop} {k : Nat → Prop} (hK : W.heap[D]? = some (.deferred (some []))) (hr : ∀ r ∈ rs, m r ∧ W.heap[r]? = some (.deferred (some [])) ∧ k r) :
    ∀ r ∈ D :: rs, r < w3.heap.size ∧ w3.heap[r]? = some (.deferred (some [])) := by
  intro r hm
  have h1 : W.heap[r]? = some (.deferred (some [])) := by
    rcases List.mem_cons.1 hm with rfl | h
    · exact hK
    · exact (hr r h).2.1
  have hl := (Array.getElem?_eq_some_iff.1 h1).1
  have h2 : W1.heap[r]? = some (.deferred (some [])) := (ha.block r hl).trans h1
  have h3 := (hg.block r (Array.getElem?_eq_some_iff.1 h2).1 (own_mark ow h1)).trans h2
  exact ⟨(Array.getElem?_eq_some_iff.1 h3).1, h3⟩
set_option maxHeartbeats 4000000 in
theorem split_ok (l : List Int) (v : Value) (n : Nat) (w : World) (hl1 : 1 ≤ l.length) (hl : l.length ≤ 12) (hz : l.all okR = true) (n1 : 1 ≤ n) (n2 : n ≤ 12) (h : IntSl w v l) :
    Calls Tryz.prog 150 #[v, .int .i64 n] w fun e w' => ∃ v', e = .returned (.tuple #[v', .nilIface]) ∧ ShSl w' v' (splitL l n) ∧ Below w.heap.size w w' := by
  have hC := contF_s l v w (by omega) h
  rw [hz, Bool.not_true] at hC
  obtain ⟨a, cap, rfl, h⟩ := h
  obtain ⟨b, off, rfl, hI⟩ := h (by omega)
  clear h
  have hd : decide ((12 : Int) < (l.length : Int)) = false := by rw [decide_eq_false_iff_not]; omega
  have hd2 : ((l.length : Int) == 0) = false := by rw [beq_eq_false_iff_ne]; omega
  have hd3 : decide ((12 : Int) < (n : Int)) = false := by rw [decide_eq_false_iff_not]; omega
  have hd4 : decide ((n : Int) < 1) = false := by rw [decide_eq_false_iff_not]; omega
  have h := Lib.hid hI
  clear hI
  replace hz := Lib.hid hz
  replace hC := Lib.hid hC
  refine (callsIn_wide (n := 5)).1 ?_
  refine callsIn_of_wp_marks Tryz.func150 rfl trivial ?_
  simp only [Tryz.ntmps150, List.size_toArray, List.length_cons, List.length_nil, Nat.reduceAdd, Nat.reduceSub, Array.replicate_succ, Array.replicate_zero, List.push_toArray, List.append_toArray, List.nil_append, List.cons_append]
  refine wpIn_wide.2 ?_
  generalize hQ : bodyPostM _ _ _ _ _ = Q
  replace hQ := Lib.hid hQ
  go_wp2_with fail
  refine hC.out.mono ?_; rintro e w' ⟨rfl, rfl⟩
  go_wp2
  refine wp_loop (SpInv w l b off cap n) (SpMu n) ?start ?round
  case start => exact ⟨0, w.heap.size, [], _, _, _, _, _, _, _, _, _, _, _, _, _, _, _, _, _, _, _, _, _, _, _, _, _, _, ⟨Nat.zero_le _, by simp, by simp, World.ownsRow_nil _ _ _ _, (fun e => by cases e), List.nodup_nil, fun r hr => absurd hr List.not_mem_nil, below_alloc _ _⟩, rfl⟩
  case round =>
    intro a' wr hinv
    obtain ⟨k, bX, rs, hinv⟩ := hinv
    obtain ⟨u6, hinv⟩ := hinv
    obtain ⟨u8, hinv⟩ := hinv
    obtain ⟨u9, hinv⟩ := hinv
    obtain ⟨u10, hinv⟩ := hinv
    obtain ⟨u31, hinv⟩ := hinv
    obtain ⟨u32, hinv⟩ := hinv
    obtain ⟨u33, hinv⟩ := hinv
    obtain ⟨u34, hinv⟩ := hinv
    obtain ⟨u35, hinv⟩ := hinv
    obtain ⟨u36, hinv⟩ := hinv
    obtain ⟨u37, hinv⟩ := hinv
    obtain ⟨u38, hinv⟩ := hinv
    obtain ⟨u39, hinv⟩ := hinv
    obtain ⟨u40, hinv⟩ := hinv
    obtain ⟨u41, hinv⟩ := hinv
    obtain ⟨u42, hinv⟩ := hinv
    obtain ⟨u43, hinv⟩ := hinv
    obtain ⟨u44, hinv⟩ := hinv
    obtain ⟨u45, hinv⟩ := hinv
    obtain ⟨u46, hinv⟩ := hinv
    obtain ⟨u47, hinv⟩ := hinv
    obtain ⟨u48, hinv⟩ := hinv
    obtain ⟨u49, hinv⟩ := hinv
    obtain ⟨u50, hinv⟩ := hinv
    obtain ⟨u51, hinv⟩ := hinv
    obtain ⟨u52, hinv⟩ := hinv
    obtain ⟨⟨hk, hX, hXl, hown, hnb, hnd, hrs, hb⟩, rfl⟩ := hinv
    replace hown := Lib.hid hown
    replace hrs := Lib.hid hrs
    replace hnd := Lib.hid hnd
    replace hnb := Lib.hid hnb
    replace hb := Lib.hid hb
    by_cases hlt : k < n
    · have hle : ((k + 1 : Nat) : Int) ≤ (n : Int) := by omega
      have hbl : b < wr.heap.size := Nat.lt_of_lt_of_le h.out.lt hb.out.size
      have hIw := Lib.hid (h.out.below hb.out)
      go_wp2_with fail
      refine (backward_c _ _ _ _).mono ?_; rintro e w' ⟨rfl, rfl⟩
      go_wp2
      have hSl : ((wr.alloc (.cells #[.int .i64 0] 3)).alloc (.cells #[.slice (some ⟨b, off, none⟩) l.length cap] 36)).cell? ⟨wr.heap.size + 1, 0, none⟩ = some (.slice (some ⟨b, off, none⟩) l.length cap) := by simp
      have hIs := hIw.out.below (balloc (below_alloc wr (.cells #[.int .i64 0] 3)) (.cells #[.slice (some ⟨b, off, none⟩) l.length cap] 36))
      have hB0 : Below wr.heap.size wr ((wr.alloc (.cells #[.int .i64 0] 3)).alloc (.cells #[.slice (some ⟨b, off, none⟩) l.length cap] 36)) := balloc (below_alloc wr _) _
      refine (wpIn_wide (n := 5)).1 ?_
      refine wpIn_rangeFunc_ownG (F := Fence.wide) rfl (by decide) (gf := 186) (lb := #[.pointer (some ⟨wr.heap.size + 1, 0, none⟩)]) rfl trivial (enters_of Tryz.func186 (by kernel_rfl) rfl)
        (back_stops Fence.wide 4 trivial rfl (by decide) (wr.heap.size + 1) wr.heap.size b off cap l hz.out hl hbl _ (by simp) hSl hIs) (fun h k => KB.trans h k) (KB.put (by simp; omega) (by simp)) (Below.refl _ _) (fun _ => rfl)
        (fun pre W => (W.cell? ⟨wr.heap.size, 0, none⟩ = some (.int .i64 (hor ((k : Int) + 1) pre)) ∧ W.frozen? ⟨wr.heap.size, 0, none⟩ = false) ∧ Below wr.heap.size wr W)
        (fun _ _ _ => False)
        (OwnFrom.and (Own.from (fun s A B row hs hg hr => ⟨cell_kept hs.1 hg hr, (frozen_kept hs.1 hg hr).trans hs.2⟩) _) (ownFrom_below (Nat.le_refl _) (by simp; omega)))
        (fun _ _ _ _ _ hs _ _ => hs)
        ⟨⟨by simp [hor], by simp⟩, hB0⟩
        (fun x => { tmps := #[Value.slice (some ⟨b, off, none⟩) l.length cap, Value.int .i64 (n : Int), undef, undef, Value.slice none 0 0, Value.nilIface, u6, Value.pointer (some ⟨bX, 0, none⟩), Value.pointer (some ⟨wr.heap.size, 0, none⟩), u9, Value.int .i64 x.2.1, Value.slice (some ⟨b, off, none⟩) l.length cap, Value.int .i64 (l.length : Int), Value.bool false, undef, Value.slice (some ⟨b, off, none⟩) l.length cap, Value.int .i64 (l.length : Int), Value.bool false, Value.bool false, Value.slice (some ⟨b, off, none⟩) l.length cap, Value.bool false, Value.bool false, Value.bool false, Value.int .i64 (n : Int), Value.bool false, Value.bool false, Value.bool false, Value.int .i64 (n : Int), Value.bool false, Value.bool false, undef, Value.int .i64 ((k : Int) + 1), Value.int .i64 (n : Int), Value.bool true, u34, u35, Value.slice (some ⟨b, off, none⟩) l.length cap, Value.func (.func 186) #[] #[Value.pointer (some ⟨wr.heap.size + 1, 0, none⟩)], Value.int .i64 x.1, Value.int .i64 x.2.1, u40, u41, u42, u43, u44, u45, u46, u47, u48, u49, u50, u51, u52, undef], defers := [] }) ?assign ?body ?done ?stop
      case assign =>
        intro l' x W K hK
        gi_wp2
        exact hK
      case body =>
        rintro l' pre x W ⟨⟨hc, hf⟩, hB⟩ _
        have hXW := (hB.cell (p := ⟨bX, 0, none⟩) hXl).trans hX
        obtain ⟨y0, y1⟩ := hor_bd ((k : Int) + 1) pre
        have hs := hor_snoc ((k : Int) + 1) pre x
        obtain ⟨x1, c, c0, c1⟩ := x
        simp only at hs
        generalize hor ((k : Int) + 1) pre = y at *
        have m1 : 0 ≤ y * ((k : Int) + 1) := Int.mul_nonneg y0 (by omega)
        have m2 : y * ((k : Int) + 1) ≤ 12144 := Int.le_trans (Int.mul_le_mul (show y ≤ 1012 by omega) (show (k : Int) + 1 ≤ 12 by omega) (by omega) (by decide)) (by decide)
        have e1 : IntKind.i64.wrap (y * ((k : Int) + 1)) = y * ((k : Int) + 1) := IntWalk.i64_in _ (by omega)
        have e2 : IntKind.i64.wrap (y * ((k : Int) + 1) + c) = y * ((k : Int) + 1) + c := IntWalk.i64_in _ (by omega)
        have e3 : (y * ((k : Int) + 1) + c).tmod 1013 = (y * ((k : Int) + 1) + c) % 1013 := Int.tmod_eq_emod_of_nonneg (by omega)
        replace hs := Lib.hid hs
        gi_wp2
        exact ⟨(KeepsOthers.setCell _ _ _).from _, ⟨(Below.refl wr.heap.size W).setCell (p := ⟨wr.heap.size, 0, none⟩) (Nat.le_refl _) _, heap_setCell_other W ⟨wr.heap.size, 0, none⟩ (wr.heap.size + 1) _ (by simp)⟩, ⟨by rw [hs.out]; exact World.cell?_setCell_same' _ _ _ (by rw [hc]; rfl), by rw [World.frozen?_setCell]; exact hf⟩, hB.setCell (p := ⟨wr.heap.size, 0, none⟩) (Nat.le_refl _) _⟩
      case stop =>
        rintro D c pre W _ _ h _
        exact h.elim
      case done =>
        rintro D ys W hD rfl ⟨⟨hc, hf⟩, hB⟩ hK
        rw [hor_all _ l hz.out] at hc
        have hXW := (hB.cell (p := ⟨bX, 0, none⟩) hXl).trans hX
        have hXWl : bX < W.heap.size := Nat.lt_of_lt_of_le hXl hB.size
        have ow := Lib.hid (own_below hown.out hB)
        have hBW := Lib.hid (below_seq hb.out hB)
        have hrW := Lib.hid (show ∀ r ∈ rs, w.heap.size ≤ r ∧ W.heap[r]? = some (.deferred (some [])) ∧ r < wr.heap.size from fun r hr => by
          obtain ⟨h1, h2⟩ := hrs.out r hr
          have h3 := (Array.getElem?_eq_some_iff.1 h2).1
          exact ⟨h1, (hB.block r h3).trans h2, h3⟩)
        have hDr : wr.heap.size ≤ D := by simp at hD; omega
        have zw := hb.out.size
        have zW := hB.size
        have hDW := (Array.getElem?_eq_some_iff.1 hK).1
        have hsp := Lib.hid (show splitL l (k + 1) = splitL l k ++ [((k : Int) + 1, val ((k : Int) + 1) l)] by rw [splitL_succ]; simp)
        replace hK := Lib.hid hK
        replace hX := Lib.hid hX
        generalize hV : val ((k : Int) + 1) l = V at *
        clear hB hown hrs hb hbl hIw hSl hIs hB0 hf hV
        dsimp only
        go_wp2_with (first | (at_builtin; refine wpl_append_share rfl _ _ _ rfl (by kernel_rfl) w.heap.size _ (splitL l k) k rfl (ow.out.alloc _) (splitL_len l k) (by omega) (by simp only [World.size_alloc]; omega) W.heap.size ((k : Int) + 1, V) rfl (by go_simp) (by go_simp) ?_; intro v' w3 hown' hgrow hbel hloc; have hX3 := hgrow.cell (a := ⟨bX, 0, none⟩) (v := .int .i64 ((k : Int) + 1)) (((bcell (below_alloc W _)).1 _ _ hXWl).trans hXW) (fun e => hnb.out e.symm); have zg := hgrow.size; simp only [World.size_alloc] at zg; have hr3 := Lib.hid (marks_grown (below_alloc W _) hgrow ow.out D rs hK.out hrW.out); replace hown' := Lib.hid hown'; replace hbel := Lib.hid (hbel w (balloc hBW.out _)); clear hgrow hloc hXW hc) | fail)
        go_wp2
        have hnew : (w3.alloc (.cells #[.int .i64 ((k : Int) + 1 + 1)] 3)).cell? ⟨w3.heap.size, 0, none⟩ = some (.int .i64 ((k : Int) + 1 + 1)) := by simp
        refine ⟨⟨k + 1, w3.heap.size, D :: rs, _, _, _, _, _, _, _, _, _, _, _, _, _, _, _, _, _, _, _, _, _, _, _, _, _, _, ⟨hlt, by rw [hnew]; simp, by simp, ?own, ?nb, List.nodup_cons.2 ⟨fun hm => by have := (hrW.out D hm).2.2; omega, hnd.out⟩, fun r hr => ?mk, balloc hbel.out _⟩, rfl⟩, ?mu⟩
        case own => rw [hsp.out]; exact hown'.out.alloc _
        case nb => exact fun e => by have := (hown'.out.lt _ e).2; omega
        case mk =>
          obtain ⟨q1, q2⟩ := hr3.out r hr
          refine ⟨by rcases List.mem_cons.1 hr with rfl | hm; exact (by omega); exact (hrW.out r hm).1, (Below.heap_alloc w3 _ r q1).trans q2⟩
        case mu =>
          show ((n : Int) + 1 - boxInt _ (.pointer (some ⟨w3.heap.size, 0, none⟩))).toNat < ((n : Int) + 1 - boxInt wr (.pointer (some ⟨bX, 0, none⟩))).toNat
          rw [boxInt_eq hnew, boxInt_eq hX.out]; omega
    · obtain rfl : k = n := by omega
      have hgt : (k : Int) < (k : Int) + 1 := by omega
      go_wp2
      rw [← hQ.out]
      refine leaves_marks (.tuple #[u6, .nilIface]) (fun w' => ShSl w' u6 (splitL l k) ∧ Below w.heap.size w w') (fun w' => by simp [results, Tryz.f150, go_sem]) (fun w' hJ => ⟨_, rfl, hJ.1, hJ.2⟩) rs wr hnd.out (fun r hr => (hrs.out r hr).2) (fun r hr w' hw hJ => ?_) ⟨own_shares hown.out (splitL_len l k).symm, hb.out⟩
      exact ⟨hJ.1.put hw, hJ.2.trans (belowK_b (w := w) (Nat.le_refl _) w' r _ _ (hrs.out r hr).1 hw rfl rfl)⟩
end Go.Proofs.YtjjmelhhalomaaaGreatDoor
namespace Go.Proofs.YtjjmelhhalomaaaGreatDoor
open Go.RowKit
set_option maxRecDepth 100000
set_option linter.unusedVariables false
set_option linter.unusedSimpArgs false
/-- What is wrong with a secret to be split; 0: nothing. -/
def splitF (l : List Int) (n : Int) : Int := if 12 < l.length then 4 else if l.length = 0 ∨ l.all okR = false ∨ n < 1 ∨ 12 < n then 1 else 0
theorem splitF_0 {l : List Int} {n : Int} (h : splitF l n = 0) : 1 ≤ l.length ∧ l.length ≤ 12 ∧ l.all okR = true ∧ 1 ≤ n ∧ n ≤ 12 := by
  unfold splitF at h
  split at h
  · exact absurd h (by decide)
  split at h
  · exact absurd h (by decide)
  · rename_i g1 g2
    rw [not_or, not_or, not_or] at g2
    exact ⟨by omega, by omega, by cases e : l.all okR with | true => rfl | false => exact absurd e g2.2.1, by omega, by omega⟩
set_option maxHeartbeats 2000000 in
theorem split_n (l : List Int) (v : Value) (n E : Int) (w : World) (hl : l.length ≤ 9223372036854775807) (h : IntSl w v l) (hE : Hid (splitF l n = E)) (h0 : E ≠ 0) :
    Calls Tryz.prog 150 #[v, .int .i64 n] w fun e w' => e = .returned (.tuple #[.slice none 0 0, .iface 84 (.int .i64 E)]) ∧ Below w.heap.size w w' := by
  have hC := contF_s l v w hl h
  have hE := hE.out
  unfold splitF at hE
  obtain ⟨a, cap, rfl, -⟩ := h
  split at hE
  · rename_i g
    subst hE
    have hd : decide ((12 : Int) < (l.length : Int)) = true := by rw [decide_eq_true_eq]; omega
    clear hC
    go_enter Tryz.func150, Tryz.ntmps150
    go_wp2
    go_ret2
    exact ⟨rfl, Below.refl _ _⟩
  split at hE
  · rename_i g1 g2
    subst hE
    have hd : decide ((12 : Int) < (l.length : Int)) = false := by rw [decide_eq_false_iff_not]; omega
    by_cases z0 : l.length = 0
    · have hd2 : ((l.length : Int) == 0) = true := by rw [beq_iff_eq]; omega
      clear hC g2 z0
      go_enter Tryz.func150, Tryz.ntmps150
      go_wp2
      go_ret2
      exact ⟨rfl, Below.refl _ _⟩
    have hd2 : ((l.length : Int) == 0) = false := by rw [beq_eq_false_iff_ne]; omega
    cases ha : l.all okR with
    | false =>
      rw [ha] at hC
      replace hC := Lib.hid hC
      clear g2 z0 ha
      go_enter Tryz.func150, Tryz.ntmps150
      go_wp2_with fail
      refine hC.out.mono ?_; rintro e w' ⟨rfl, rfl⟩
      rw [Bool.not_false]
      go_wp2
      go_ret2
      exact ⟨rfl, Below.refl _ _⟩
    | true =>
      rw [ha] at hC
      replace hC := Lib.hid hC
      by_cases n1 : n < 1
      · clear g2 z0 ha
        go_enter Tryz.func150, Tryz.ntmps150
        go_wp2_with fail
        refine hC.out.mono ?_; rintro e w' ⟨rfl, rfl⟩
        rw [Bool.not_true]
        go_wp2
        go_ret2
        exact ⟨rfl, Below.refl _ _⟩
      · have n2 : 12 < n := by
          rcases g2 with g | g | g | g
          · exact absurd g z0
          · rw [ha] at g; cases g
          · exact absurd g n1
          · exact g
        clear g2 z0 ha
        go_enter Tryz.func150, Tryz.ntmps150
        go_wp2_with fail
        refine hC.out.mono ?_; rintro e w' ⟨rfl, rfl⟩
        rw [Bool.not_true]
        go_wp2
        go_ret2
        exact ⟨rfl, Below.refl _ _⟩
  · exact absurd hE.symm h0
theorem splitL_get (l : List Int) (n i : Nat) (h : i < (splitL l n).length) : (splitL l n)[i] = (((i + 1 : Nat) : Int), val ((i + 1 : Nat) : Int) l) := by simp [splitL]
theorem val_bd (x : Int) (l : List Int) : 0 ≤ val x l ∧ val x l < 1013 := by
  cases l with
  | nil => exact ⟨Int.le_refl 0, by show (0 : Int) < 1013; decide⟩
  | cons c l => exact ⟨Int.emod_nonneg _ (by decide), Int.emod_lt_of_pos _ (by decide)⟩
end Go.Proofs.YtjjmelhhalomaaaGreatDoor
namespace Go.Proofs.YtjjmelhhalomaaaGreatDoor
open Go.RowKit
set_option maxRecDepth 100000
set_option linter.unusedVariables false
set_option linter.unusedSimpArgs false
attribute [local go_sem ↓] Go.wp_at_zero Go.wp_at_succ
set_option maxHeartbeats 16000000 in
theorem deed9 (n m q : Nat) (b o c : Nat) (t : List UInt8) (w : World) (R : RunAt w) (hI : IntsAt w b o [(n : Int), (m : Int), (q : Int)]) (hc3 : 3 ≤ c) (hc4 : c ≤ 9223372036854775807) (L : List (Int × Int)) (ys : List Nat) (k : Int) (hy : L.map (·.2) = ys.map fun n : Nat => (n : Int)) (hyl : L.length ≤ 12) (hyb : ∀ n ∈ ys, n < 1000000)
    (hL : ∀ w1 : World, IntsAt w1 b o [(n : Int), (m : Int)] → Calls Tryz.prog 150 #[.slice (some ⟨b, o, none⟩) 2 c, .int .i64 (q : Int)] w1 fun e w' => ∃ v', e = .returned (.tuple #[v', errR k]) ∧ ShSl w' v' L ∧ Below w1.heap.size w1 w') :
    DeedC 149 (.slice (some ⟨b, o, none⟩) 3 c) t w (joinN ys) k := by
  unfold DeedC lnV
  have l1 := hI.c 2 (by simp)
  have l2 := hI.lt
  have hI2 : IntsAt w b o [(n : Int), (m : Int)] := hI.take 2
  simp only [List.getElem_cons_zero, List.getElem_cons_succ] at l1
  have hyl2 : ys.length = L.length := by have := congrArg List.length hy; simp at this; omega
  generalize errR k = E at *
  generalize bS t = T at *
  have hb0 := below_alloc w (.cells #[.slice (some ⟨b, o, none⟩) 3 c, .string T] 143)
  have R0 := R.below hb0
  have k0 : (w.alloc (.cells #[.slice (some ⟨b, o, none⟩) 3 c, .string T] 143)).cell? ⟨w.heap.size, 0, none⟩ = some (.slice (some ⟨b, o, none⟩) 3 c) := by simp
  have k1 := ((bcell hb0).1 _ _ l2).trans l1
  have k3 := hI2.below hb0
  have k4 : w.heap.size < (w.alloc (.cells #[.slice (some ⟨b, o, none⟩) 3 c, .string T] 143)).heap.size := by simp
  have k5 := Nat.lt_of_lt_of_le l2 hb0.size
  clear hI R l1 hI2
  replace R0 := Lib.hid R0
  replace hb0 := Lib.hid hb0
  replace l2 := Lib.hid l2
  replace hL := Lib.hid hL
  replace hyb := Lib.hid hyb
  replace hy := Lib.hid hy
  have z2 : ¬ (c < 2) := by omega
  have z3 : (2 : Int) ≤ (c : Int) := by omega
  have z4 : 2 ≤ c := by omega
  go_enter Tryz.func149, Tryz.ntmps149
  go_upto_region 1 with fail
  generalize w.alloc (.cells #[.slice (some ⟨b, o, none⟩) 3 c, .string T] 143) = w0 at *
  have hS : Hid (∀ w', Below w0.heap.size w0 w' → w'.cell? ⟨w.heap.size, 0, none⟩ = some (.slice (some ⟨b, o, none⟩) 3 c) ∧ w.heap.size < w'.heap.size ∧ w'.cell? ⟨b, o + 2, none⟩ = some (.int .i64 (q : Int)) ∧ b < w'.heap.size ∧ Below w0.heap.size w0 w') := Lib.hid fun w' h => ⟨((bcell h).1 _ _ k4).trans k0, Nat.lt_of_lt_of_le k4 h.size, ((bcell h).1 _ _ k5).trans k1, Nat.lt_of_lt_of_le k5 h.size, h⟩
  replace k3 := Lib.hid k3
  clear k0 k1 k4 k5
  go_cut [4, 5] from 9 to 19 (fun s4 s5 wx => ∃ a c2, s4 = .slice a L.length c2 ∧ s5 = E ∧ ShSl wx (.slice a L.length c2) L ∧ Below w0.heap.size w0 wx)
  case first =>
    go_region_held3 (fun w' => w'.cell? ⟨w.heap.size, 0, none⟩ = some (.slice (some ⟨b, o, none⟩) 3 c) ∧ w.heap.size < w'.heap.size ∧ w'.cell? ⟨b, o + 2, none⟩ = some (.int .i64 (q : Int)) ∧ b < w'.heap.size ∧ Below w0.heap.size w0 w') (first | (refine hS.out _ ?_; repeat (with_reducible first | exact Below.refl _ _ | exact hwt.out | refine Below.drew ?_))) (first | (go_at_call 150; refine (hL.out _ (k3.out.below (by repeat (with_reducible first | exact Below.refl _ _ | refine Below.drew ?_)))).mono ?_; rintro e wb ⟨v', rfl, hsh, hbb⟩; have hwt := Lib.hid (show Below w0.heap.size w0 wb from below_seq (by repeat (with_reducible first | exact Below.refl _ _ | refine Below.drew ?_)) hbb); obtain ⟨a2, c2, rfl, hsh2⟩ := id hsh; replace hsh := Lib.hid hsh; clear hbb hsh2) | fail)
    all_goals
      go_wp2_with fail
      go_meet
      exact ⟨_, _, rfl, rfl, hsh.out, hwt.out⟩
  case rest =>
  obtain ⟨a, c2, rfl, rfl, hsh, hbx⟩ := hcut
  obtain ⟨wx, hwx⟩ : ∃ x : World, x = wc := ⟨_, rfl⟩
  rw [← hwx] at hsh hbx ⊢
  have hBx := Lib.hid hbx
  obtain ⟨a', c', e, hsl⟩ := hsh
  simp only [Value.slice.injEq, true_and] at e
  obtain ⟨rfl, rfl⟩ := e
  replace hsl := Lib.hid hsl
  clear hwx hS hL hbx
  go_wp2
  go_loopw [6, 22] (fun v6 i wr => ∃ j : Nat, j ≤ L.length ∧ i = .int .i64 j ∧ wr.ownsRow wx.heap.size 3 1 v6 j (((L.map (·.2)).take j).map (Value.int .i64)) ∧ Below wx.heap.size wx wr) (fun _ i _ => L.length - (intOf i).toNat)
  case atStart => exact ⟨0, Nat.zero_le _, rfl, World.ownsRow_nil _ _ _ _, Below.refl _ _⟩
  case round =>
    obtain ⟨j, hj, rfl, hown, hB⟩ := hrel
    obtain ⟨ao, co, rfl⟩ := own_slB hown
    replace hown := Lib.hid hown
    replace hB := Lib.hid hB
    by_cases hlt : j < L.length
    · obtain ⟨bb, off, rfl, hs⟩ := hsl.out (by omega)
      have hs2 := hs.below hB.out
      have m1 := hs2.cx j hlt
      have m2 := hs2.cy j hlt
      have ml := hs2.lt
      have hlm : j < (L.map (·.2)).length := by rw [List.length_map]; exact hlt
      have hsn : Hid ((L.map (·.2)).take (j + 1) = (L.map (·.2)).take j ++ [L[j].2]) := Lib.hid (by rw [take_snocI _ j hlm, List.getElem_map])
      have htl : Hid (((L.map (·.2)).take j).length = j) := Lib.hid (by rw [List.length_take]; omega)
      generalize L[j].1 = X at *
      generalize L[j].2 = Y at *
      generalize (L.map (·.2)).take j = S at *
      have hz := hB.out.size
      clear hs hs2
      go_wp2_with (first | (at_builtin; refine wpl_append_int rfl _ _ _ rfl (by kernel_rfl) wx.heap.size _ S j rfl ((hown.out.alloc _).alloc _) htl.out (by omega) (by simp only [World.size_alloc]; omega) (wr.heap.size + 1) Y rfl (by go_simp) ?_; intro v' w4 hown' hgr hbel hloc; obtain ⟨av, cv, rfl⟩ := own_slB hown'; replace hown' := Lib.hid hown'; have hB4 := Lib.hid (hbel wx (balloc (balloc hB.out _) _)); clear hbel hgr hloc) | fail)
      go_roundw
      case rel => exact ⟨j + 1, by omega, by go_num, by rw [hsn.out]; exact hown'.out, hB4.out⟩
      case measure => simp [intOf]; omega
    · obtain rfl : j = L.length := by omega
      have hIS : IntSl wr (.slice ao L.length co) (ys.map fun n : Nat => (n : Int)) := by
        have h1 := own_ints hown.out (by rw [List.length_take, List.length_map]; omega)
        rw [List.take_of_length_le (by rw [List.length_map]; exact Nat.le_refl _), hy.out] at h1
        exact h1
      have hBr := Lib.hid (below_seq hBx.out hB.out)
      have hW := Lib.hid (words_c ys _ wr (by omega) hyb.out hIS (R0.out.below hBr.out).T)
      clear hown hIS hsl
      go_wp2_with fail
      refine hW.out.mono ?_; rintro e w3 ⟨rfl, hb⟩
      have hfin : Below w.heap.size w w3 := hb0.out.trans ((below_seq hBr.out hb).mono hb0.out.size)
      clear hb
      go_wp2
      go_ret2
      exact ⟨rfl, hfin⟩
end Go.Proofs.YtjjmelhhalomaaaGreatDoor
namespace Go.Proofs.YtjjmelhhalomaaaGreatDoor
open Go.RowKit
set_option maxRecDepth 100000
set_option linter.unusedVariables false
set_option linter.unusedSimpArgs false
theorem hashSpot_e (t : ByteArray) (H : Sp) (w : World) (hF : FarAt w) (hs : t.size ≤ 140737488351232) (h : Hid (hSpot t.data.toList = H)) : Calls Tryz.prog 92 #[.string t] w fun e w' => e = .returned (spV H) ∧ Below w.heap.size w w' := by
  have := hashSpot_c t w hF hs; rw [h.out] at this; exact this
set_option maxHeartbeats 1000000 in
theorem short_y (x j : Int) (t : ByteArray) (H S : Sp) (w : World) (hF : FarAt w) (x1 : 1 ≤ x) (x2 : x < 1013) (hz : t.size ≤ 60) (hH : Hid (hSpot t.data.toList = H)) (hu : Hid (H = sq (4 * j))) (hS : Hid (sq (4 * j * x) = S)) : Calls Tryz.prog 147 #[.int .i64 x, .string t] w fun e w' => e = .returned (.tuple #[spV S, .nilIface]) ∧ Below w.heap.size w w' := by
  go_enter Tryz.func147, Tryz.ntmps147
  go_wp2_with fail
  refine (secret_y x _ x1 x2).mono ?_; rintro e w' ⟨rfl, rfl⟩
  go_wp2_with fail
  refine (text_y t _ hz).mono ?_; rintro e w' ⟨rfl, rfl⟩
  go_wp2_with fail
  refine (hashSpot_e t H _ (hF.below (by repeat (first | exact Below.refl _ _ | refine balloc ?_ _ | refine Below.drew ?_ | refine below_drewN ?_ _ | refine below_set ?_ (by first | omega | (dsimp only; omega)) _))) (by omega) hH).mono ?_; rintro e w1 ⟨rfl, hb⟩
  obtain ⟨hc1, hf1⟩ := bcell hb
  have z1 := hb.size
  try simp only [World.size_alloc, World.size_setCell, World.size_drew] at z1
  have s1_0 : w.heap.size < w1.heap.size := by omega
  have hB1 : Below w.heap.size w w1 := below_seq (by repeat (first | exact Below.refl _ _ | refine balloc ?_ _ | refine Below.drew ?_ | refine below_drewN ?_ _ | refine below_set ?_ (by first | omega | (dsimp only; omega)) _)) hb
  clear hb
  go_wp2_with fail
  refine (of_e H S (4 * j) x _ (hF.below (by repeat (first | exact hB1 | exact Below.refl _ _ | refine balloc ?_ _ | refine Below.drew ?_ | refine below_drewN ?_ _ | refine below_set ?_ (by first | omega | (dsimp only; omega)) _))) hu hS).mono ?_; rintro e w2 ⟨rfl, hb⟩
  obtain ⟨hc2, hf2⟩ := bcell hb
  have z2 := hb.size
  try simp only [World.size_alloc, World.size_setCell, World.size_drew] at z2
  have s2_0 : w.heap.size < w2.heap.size := by omega
  have hB2 : Below w.heap.size w w2 := below_seq (by repeat (first | exact hB1 | exact Below.refl _ _ | refine balloc ?_ _ | refine Below.drew ?_ | refine below_drewN ?_ _ | refine below_set ?_ (by first | omega | (dsimp only; omega)) _)) hb
  clear hb
  have r0 : w2.cell? ⟨w.heap.size, 0, none⟩ = some (.int .i64 0) := by go_simp
  have r1 : w2.cell? ⟨w.heap.size, 1, none⟩ = some (.int .i64 0) := by go_simp
  have r2 : w2.cell? ⟨w.heap.size, 2, none⟩ = some (.bool false) := by go_simp
  go_wp2
  have k := set3_cell (w := w2) (x := .int .i64 (S).x) (y := .int .i64 (S).y) (z := .bool (S).far) r0 r1 r2
  refine bodyPost_ret (v := .tuple #[spV (S), .nilIface]) (by simp [results, Tryz.results147, go_sem, k.1, k.2.1, k.2.2]) rfl ⟨rfl, set3_below (by repeat (first | exact hB2 | exact Below.refl _ _ | refine balloc ?_ _ | refine Below.drew ?_ | refine below_drewN ?_ _ | refine below_set ?_ (by first | omega | (dsimp only; omega)) _)) (by omega)⟩
set_option maxHeartbeats 1000000 in
theorem short_n1 (x : Int) (t : ByteArray) (w : World) (h : ¬ (1 ≤ x ∧ x < 1013)) : Calls Tryz.prog 147 #[.int .i64 x, .string t] w fun e w' => e = .returned (.tuple #[spV ⟨0, 0, false⟩, .iface 84 (.int .i64 1)]) ∧ Below w.heap.size w w' := by
  go_enter Tryz.func147, Tryz.ntmps147
  go_wp2_with fail
  refine (secret_n x _ h).mono ?_; rintro e w' ⟨rfl, rfl⟩
  go_wp2
  refine bodyPost_ret (v := .tuple #[spV ⟨0, 0, false⟩, .iface 84 (.int .i64 1)]) (by simp [results, Tryz.results147, go_sem]) rfl ⟨rfl, (by repeat (first | exact Below.refl _ _ | refine balloc ?_ _ | refine Below.drew ?_ | refine below_drewN ?_ _ | refine below_set ?_ (by first | omega | (dsimp only; omega)) _))⟩
set_option maxHeartbeats 1000000 in
theorem short_n2 (x : Int) (t : ByteArray) (w : World) (x1 : 1 ≤ x) (x2 : x < 1013) (h : 60 < t.size) (hz : t.size ≤ 140737488351232) : Calls Tryz.prog 147 #[.int .i64 x, .string t] w fun e w' => e = .returned (.tuple #[spV ⟨0, 0, false⟩, .iface 84 (.int .i64 4)]) ∧ Below w.heap.size w w' := by
  go_enter Tryz.func147, Tryz.ntmps147
  go_wp2_with fail
  refine (secret_y x _ x1 x2).mono ?_; rintro e w' ⟨rfl, rfl⟩
  go_wp2_with fail
  refine (text_n t _ h hz).mono ?_; rintro e w' ⟨rfl, rfl⟩
  go_wp2
  refine bodyPost_ret (v := .tuple #[spV ⟨0, 0, false⟩, .iface 84 (.int .i64 4)]) (by simp [results, Tryz.results147, go_sem]) rfl ⟨rfl, (by repeat (first | exact Below.refl _ _ | refine balloc ?_ _ | refine Below.drew ?_ | refine below_drewN ?_ _ | refine below_set ?_ (by first | omega | (dsimp only; omega)) _))⟩
/-- A short seal, whatever comes of it. -/
def ShortIs (x : Int) (t : ByteArray) (S : Sp) (E : Value) : Prop := ∀ w : World, FarAt w → Calls Tryz.prog 147 #[.int .i64 x, .string t] w fun e w' => e = .returned (.tuple #[spV S, E]) ∧ Below w.heap.size w w'
theorem short_n (x : Int) (t : ByteArray) (hz : t.size ≤ 140737488351232) (h : ¬ (1 ≤ x ∧ x < 1013 ∧ t.size ≤ 60)) : ∃ E : Int, ShortIs x t ⟨0, 0, false⟩ (.iface 84 (.int .i64 E)) := by
  by_cases hx : 1 ≤ x ∧ x < 1013
  · exact ⟨4, fun w _ => short_n2 x t w hx.1 hx.2 (by omega) hz⟩
  · exact ⟨1, fun w _ => short_n1 x t w hx⟩
theorem short_is (x : Int) (t : ByteArray) (hz : t.size ≤ 140737488351232) : (∃ S E, ShortIs x t S E) := by
  by_cases h : 1 ≤ x ∧ x < 1013 ∧ t.size ≤ 60
  · obtain ⟨j, j1, j2, e⟩ := hSpot_four t.data.toList
    exact ⟨_, _, fun w hF => short_y x j t _ _ w hF h.1 h.2.1 h.2.2 rfl e rfl⟩
  · obtain ⟨E, hE⟩ := short_n x t hz h
    exact ⟨_, _, hE⟩
end Go.Proofs.YtjjmelhhalomaaaGreatDoor
namespace Go.Proofs.YtjjmelhhalomaaaGreatDoor
open Go.RowKit
set_option maxRecDepth 100000
set_option linter.unusedVariables false
set_option linter.unusedSimpArgs false
noncomputable def jT (t : List UInt8) : Int := Classical.choose (hSpot_four t)
theorem jT_spec (t : List UInt8) : 1 ≤ jT t ∧ jT t < 1013 ∧ hSpot t = sq (4 * jT t) := Classical.choose_spec (hSpot_four t)
def badB : List UInt8 := [98, 97, 100]
def nAt (ns : List Nat) (i : Nat) : Nat := ns.getD i 0
/-- What each deed answers. -/
noncomputable def A1 (ns : List Nat) (t : List UInt8) : List UInt8 := toldB (sq (4 * (nAt ns 0 : Int)))
def A2 (ns : List Nat) (t : List UInt8) : List UInt8 := if inside (nAt ns 0 : Int) = false then nameB 1 else if isSq (height (nAt ns 0 : Int)) = false then nameB 5 else toldB (lifted (nAt ns 0 : Int))
noncomputable def A3 (ns : List Nat) (t : List UInt8) : List UInt8 := joinN [(ordOf (4 * (nAt ns 0 : Int))).toNat]
def A4 (ns : List Nat) (t : List UInt8) : List UInt8 := joinN [(hnum t).toNat]
noncomputable def A5 (ns : List Nat) (t : List UInt8) : List UInt8 := joinN [(fz (zp (((nAt ns 0 % 1013 : Nat) : Int) * ((nAt ns 1 % 1013 : Nat) : Int))).re).toNat, (fz (zp (((nAt ns 0 % 1013 : Nat) : Int) * ((nAt ns 1 % 1013 : Nat) : Int))).im).toNat]
noncomputable def rgS (n m : Nat) (t : List UInt8) : Int := ((m : Int) + askN (sq (4 * (m : Int))) (sq (4 * (n : Int))) t * (n : Int)) % 1013
noncomputable def A6 (ns : List Nat) (t : List UInt8) : List UInt8 :=
  if ¬ (1 ≤ nAt ns 0 ∧ nAt ns 0 < 1013 ∧ 1 ≤ nAt ns 1 ∧ nAt ns 1 < 1013) then nameB 1 else if 60 < t.length then nameB 4 else joinN [(sq (4 * (nAt ns 1 : Int))).x.toNat, (sq (4 * (nAt ns 1 : Int))).y.toNat, (rgS (nAt ns 0) (nAt ns 1) t).toNat]
noncomputable def A7 (ns : List Nat) (t : List UInt8) : List UInt8 :=
  if ¬ (1 ≤ nAt ns 0 ∧ nAt ns 0 < 1013) then nameB 1 else if 60 < t.length then nameB 4 else toldB (sq (4 * jT t * (nAt ns 0 : Int)))
noncomputable def A8 (ns : List Nat) (t : List UInt8) : List UInt8 := if nAt ns 0 < 1013 ∧ nAt ns 1 < 1013 then toldB (sq (4 * (nAt ns 0 : Int) + 4 * hJ * (nAt ns 1 : Int))) else nameB 1
def A9 (ns : List Nat) (t : List UInt8) : List UInt8 :=
  if nAt ns 0 < 1013 ∧ nAt ns 1 < 1013 ∧ 1 ≤ nAt ns 2 ∧ nAt ns 2 ≤ 12 then joinN ((List.range (nAt ns 2)).map fun k => (val ((k + 1 : Nat) : Int) [(nAt ns 0 : Int), (nAt ns 1 : Int)]).toNat) else nameB 1
/-- What a line's deed answers. -/
noncomputable def deedF (K : Nat) (B : Bool) (A : List Nat → List UInt8 → List UInt8) (r : List UInt8) (m : Bool) : List UInt8 := match takeN K r m with
  | none => badB
  | some (ns, r1, m1) => if m1 = B then A ns r1 else badB
/-- What a deed gives, of so many numbers and a text. -/
def DeedA (K f : Nat) (A : List Nat → List UInt8 → List UInt8) : Prop := ∀ (ns : List Nat) (t : List UInt8), ns.length = K → (∀ n ∈ ns, n < 10000) → t.length ≤ 3000 → ∃ out c, ErrR c ∧ ansR out c = A ns t ∧ ∀ v w1, RunAt w1 → LnS w1 v ns → DeedC f v t w1 out c
theorem lineR_of {K : Nat} {B : Bool} {f : Nat} {A : List Nat → List UInt8 → List UInt8} (hA : DeedA K f A) (r : List UInt8) (m : Bool) (w : World) (R : RunAt w) (hr : r.length ≤ 3000) : ∃ out c, ErrR c ∧ ansR out c = deedF K B A r m ∧ LineR K B f r m w out c := by
  unfold deedF LineR
  cases h : takeN K r m with
  | none => exact ⟨[], -1, .inr (.inl rfl), rfl, rfl, rfl⟩
  | some p =>
    obtain ⟨ns, r1, m1⟩ := p
    obtain ⟨a1, a2, a3⟩ := takeN_spec K r m ns r1 m1 h
    by_cases hB : m1 = B
    · obtain ⟨out, c, hc, ho, hD⟩ := hA ns r1 a1 a3 (by omega)
      refine ⟨out, c, hc, ?_, ?_⟩
      · show ansR out c = if m1 = B then A ns r1 else badB
        rw [if_pos hB]; exact ho
      · show if m1 = B then _ else _
        rw [if_pos hB]
        exact fun v w1 hb hl => hD v w1 (R.below hb) hl
    · refine ⟨[], -1, .inr (.inl rfl), ?_, ?_⟩
      · show _ = if m1 = B then A ns r1 else badB
        rw [if_neg hB]; rfl
      · show if m1 = B then _ else _
        rw [if_neg hB]; exact ⟨rfl, rfl⟩
theorem LnS.at {w : World} {v : Value} {ns : List Nat} (h : LnS w v ns) (hn : ns ≠ []) : ∃ b c, v = .slice (some ⟨b, 0, none⟩) ns.length c ∧ IntsAt w b 0 (ns.map fun n : Nat => (n : Int)) ∧ ns.length ≤ c ∧ c ≤ 9223372036854775807 := by
  rcases h with ⟨h, -⟩ | h
  · exact absurd h hn
  · exact h
theorem len1 {ns : List Nat} (h : ns.length = 1) : ∃ a, ns = [a] := by
  match ns, h with
  | [a], _ => exact ⟨a, rfl⟩
theorem len2 {ns : List Nat} (h : ns.length = 2) : ∃ a b, ns = [a, b] := by
  match ns, h with
  | [a, b], _ => exact ⟨a, b, rfl⟩
theorem len3 {ns : List Nat} (h : ns.length = 3) : ∃ a b c, ns = [a, b, c] := by
  match ns, h with
  | [a, b, c], _ => exact ⟨a, b, c, rfl⟩
theorem Sm.zero (b : Bool) : Sm ⟨0, 0, b⟩ := ⟨Int.le_refl _, (by show (0 : Int) < 1000000; decide), Int.le_refl _, (by show (0 : Int) < 1000000; decide)⟩
theorem dA1 : DeedA 1 136 A1 := fun ns t hn hb ht => by
  obtain ⟨a, rfl⟩ := len1 hn
  refine ⟨_, 0, .inl rfl, rfl, fun v w1 R hl => ?_⟩
  obtain ⟨b, c, rfl, hI, -, -⟩ := hl.at (by simp)
  exact deed1 a b 0 c t w1 (hb a (by simp)) R hI
theorem dA2 : DeedA 1 138 A2 := fun ns t hn hb ht => by
  obtain ⟨a, rfl⟩ := len1 hn
  have ha := hb a (by simp)
  have hA : A2 [a] t = if inside (a : Int) = false then nameB 1 else if isSq (height (a : Int)) = false then nameB 5 else toldB (lifted (a : Int)) := rfl
  rw [hA]
  cases h1 : inside (a : Int) with
  | false =>
    refine ⟨toldB ⟨0, 0, false⟩, 1, .inr (.inr (.inl rfl)), rfl, fun v w1 R hl => ?_⟩
    obtain ⟨b, c, rfl, hI, -, -⟩ := hl.at (by simp)
    exact deed2 a b 0 c t w1 ha R hI ⟨0, 0, false⟩ 1 (Sm.zero _) (fun w2 => lift_out a w2 h1)
  | true =>
    cases h2 : isSq (height (a : Int)) with
    | false =>
      refine ⟨toldB ⟨0, 0, false⟩, 5, .inr (.inr (.inr (.inr rfl))), rfl, fun v w1 R hl => ?_⟩
      obtain ⟨b, c, rfl, hI, -, -⟩ := hl.at (by simp)
      exact deed2 a b 0 c t w1 ha R hI ⟨0, 0, false⟩ 5 (Sm.zero _) (fun w2 => lift_no a w2 h1 h2)
    | true =>
      refine ⟨_, 0, .inl rfl, rfl, fun v w1 R hl => ?_⟩
      obtain ⟨b, c, rfl, hI, -, -⟩ := hl.at (by simp)
      exact deed2 a b 0 c t w1 ha R hI (lifted a) 0 (Sm.of_ok (lifted_ok h1 h2)) (fun w2 => lift_yes' a w2 h1 h2)
theorem dA3 : DeedA 1 139 A3 := fun ns t hn hb ht => by
  obtain ⟨a, rfl⟩ := len1 hn
  refine ⟨_, 0, .inl rfl, rfl, fun v w1 R hl => ?_⟩
  obtain ⟨b, c, rfl, hI, -, -⟩ := hl.at (by simp)
  exact deed3 a b 0 c t w1 (hb a (by simp)) R hI
theorem dA4 : DeedA 0 142 A4 := fun ns t hn hb ht => ⟨_, 0, .inl rfl, rfl, fun v w1 R hl => deed4 v t w1 ht R⟩
theorem dA5 : DeedA 2 143 A5 := fun ns t hn hb ht => by
  obtain ⟨a, a2, rfl⟩ := len2 hn
  refine ⟨_, 0, .inl rfl, rfl, fun v w1 R hl => ?_⟩
  obtain ⟨b, c, rfl, hI, -, -⟩ := hl.at (by simp)
  exact deed5 a a2 b 0 c t w1 R hI (hb a (by simp)) (hb a2 (by simp)) _ rfl
theorem dA6 : DeedA 2 145 A6 := fun ns t hn hb ht => by
  obtain ⟨a, a2, rfl⟩ := len2 hn
  have hA : A6 [a, a2] t = if ¬ (1 ≤ a ∧ a < 1013 ∧ 1 ≤ a2 ∧ a2 < 1013) then nameB 1 else if 60 < t.length then nameB 4 else joinN [(sq (4 * (a2 : Int))).x.toNat, (sq (4 * (a2 : Int))).y.toNat, (rgS a a2 t).toNat] := rfl
  rw [hA]
  by_cases h1 : 1 ≤ a ∧ a < 1013 ∧ 1 ≤ a2 ∧ a2 < 1013
  · rw [if_neg (fun h => h h1)]
    by_cases h2 : 60 < t.length
    · rw [if_pos h2]
      refine ⟨joinN [(⟨0, 0, false⟩ : Sp).x.toNat, (⟨0, 0, false⟩ : Sp).y.toNat, 0], 4, .inr (.inr (.inr (.inl rfl))), rfl, fun v w1 R hl => ?_⟩
      obtain ⟨b, c, rfl, hI, -, -⟩ := hl.at (by simp)
      exact deed6 a a2 b 0 c t w1 R hI ⟨0, 0, false⟩ 0 4 (Sm.zero _) (by decide) (fun w2 _ => sign_n3 a a2 (bS t) w2 (by omega) (by omega) (by omega) (by omega) (by rw [bS_size]; exact h2) (by rw [bS_size]; omega))
    · rw [if_neg h2]
      have hb1 : 0 ≤ rgS a a2 t ∧ rgS a a2 t < 1013 := ⟨Int.emod_nonneg _ (by decide), Int.emod_lt_of_pos _ (by decide)⟩
      refine ⟨_, 0, .inl rfl, rfl, fun v w1 R hl => ?_⟩
      obtain ⟨b, c, rfl, hI, -, -⟩ := hl.at (by simp)
      refine deed6 a a2 b 0 c t w1 R hI (sq (4 * (a2 : Int))) (rgS a a2 t).toNat 0 (Sm.of_ok (sq_ok _)) (by omega) (fun w2 hF => ?_)
      have hs : (((rgS a a2 t).toNat : Nat) : Int) = rgS a a2 t := by omega
      rw [hs]
      exact sign_e a a2 (bS t) _ _ _ _ w2 hF (by omega) (by omega) (by omega) (by omega) (by rw [bS_size]; omega) (Lib.hid rfl) (Lib.hid rfl) (Lib.hid rfl) (Lib.hid (by rw [bS_list]; rfl))
  · rw [if_pos h1]
    refine ⟨joinN [(⟨0, 0, false⟩ : Sp).x.toNat, (⟨0, 0, false⟩ : Sp).y.toNat, 0], 1, .inr (.inr (.inl rfl)), rfl, fun v w1 R hl => ?_⟩
    obtain ⟨b, c, rfl, hI, -, -⟩ := hl.at (by simp)
    refine deed6 a a2 b 0 c t w1 R hI ⟨0, 0, false⟩ 0 1 (Sm.zero _) (by decide) (fun w2 _ => ?_)
    by_cases hx : 1 ≤ (a : Int) ∧ (a : Int) < 1013
    · exact sign_n2 a a2 (bS t) w2 hx.1 hx.2 (by omega)
    · exact sign_n1 a a2 (bS t) w2 hx
theorem dA7 : DeedA 1 146 A7 := fun ns t hn hb ht => by
  obtain ⟨a, rfl⟩ := len1 hn
  have hA : A7 [a] t = if ¬ (1 ≤ a ∧ a < 1013) then nameB 1 else if 60 < t.length then nameB 4 else toldB (sq (4 * jT t * (a : Int))) := rfl
  rw [hA]
  by_cases h1 : 1 ≤ a ∧ a < 1013
  · rw [if_neg (fun h => h h1)]
    by_cases h2 : 60 < t.length
    · rw [if_pos h2]
      refine ⟨toldB ⟨0, 0, false⟩, 4, .inr (.inr (.inr (.inl rfl))), rfl, fun v w1 R hl => ?_⟩
      obtain ⟨b, c, rfl, hI, -, -⟩ := hl.at (by simp)
      exact deed7 a b 0 c t w1 R hI ⟨0, 0, false⟩ 4 (Sm.zero _) (fun w2 _ => short_n2 a (bS t) w2 (by omega) (by omega) (by rw [bS_size]; exact h2) (by rw [bS_size]; omega))
    · rw [if_neg h2]
      refine ⟨_, 0, .inl rfl, rfl, fun v w1 R hl => ?_⟩
      obtain ⟨b, c, rfl, hI, -, -⟩ := hl.at (by simp)
      exact deed7 a b 0 c t w1 R hI _ 0 (Sm.of_ok (sq_ok _)) (fun w2 hF => short_y a (jT t) (bS t) _ _ w2 hF (by omega) (by omega) (by rw [bS_size]; omega) (Lib.hid rfl) (Lib.hid (by rw [bS_list]; exact (jT_spec t).2.2)) (Lib.hid rfl))
  · rw [if_pos h1]
    refine ⟨toldB ⟨0, 0, false⟩, 1, .inr (.inr (.inl rfl)), rfl, fun v w1 R hl => ?_⟩
    obtain ⟨b, c, rfl, hI, -, -⟩ := hl.at (by simp)
    exact deed7 a b 0 c t w1 R hI ⟨0, 0, false⟩ 1 (Sm.zero _) (fun w2 _ => short_n1 a (bS t) w2 (by omega))
theorem dA8 : DeedA 2 148 A8 := fun ns t hn hb ht => by
  obtain ⟨a, a2, rfl⟩ := len2 hn
  have hA : A8 [a, a2] t = if a < 1013 ∧ a2 < 1013 then toldB (sq (4 * (a : Int) + 4 * hJ * (a2 : Int))) else nameB 1 := rfl
  rw [hA]
  by_cases h1 : a < 1013 ∧ a2 < 1013
  · rw [if_pos h1]
    refine ⟨_, 0, .inl rfl, rfl, fun v w1 R hl => ?_⟩
    obtain ⟨b, c, rfl, hI, -, -⟩ := hl.at (by simp)
    exact deed8 a a2 b 0 c t w1 R hI _ 0 (Sm.of_ok (sq_ok _)) (fun w2 hF => hide_y a a2 _ w2 hF (by omega) (by omega) (by omega) (by omega) (Lib.hid rfl))
  · rw [if_neg h1]
    refine ⟨toldB ⟨0, 0, false⟩, 1, .inr (.inr (.inl rfl)), rfl, fun v w1 R hl => ?_⟩
    obtain ⟨b, c, rfl, hI, -, -⟩ := hl.at (by simp)
    exact deed8 a a2 b 0 c t w1 R hI ⟨0, 0, false⟩ 1 (Sm.zero _) (fun w2 _ => hide_n a a2 w2 (by omega))
theorem dA9 : DeedA 3 149 A9 := fun ns t hn hb ht => by
  obtain ⟨a, a2, a3, rfl⟩ := len3 hn
  have hA : A9 [a, a2, a3] t = if a < 1013 ∧ a2 < 1013 ∧ 1 ≤ a3 ∧ a3 ≤ 12 then joinN ((List.range a3).map fun k => (val ((k + 1 : Nat) : Int) [(a : Int), (a2 : Int)]).toNat) else nameB 1 := rfl
  rw [hA]
  by_cases h1 : a < 1013 ∧ a2 < 1013 ∧ 1 ≤ a3 ∧ a3 ≤ 12
  · rw [if_pos h1]
    refine ⟨_, 0, .inl rfl, rfl, fun v w1 R hl => ?_⟩
    obtain ⟨b, c, rfl, hI, hc1, hc2⟩ := hl.at (by simp)
    refine deed9 a a2 a3 b 0 c t w1 R hI hc1 hc2 (splitL [(a : Int), (a2 : Int)] a3) _ 0 ?_ ?_ ?_ (fun w2 hI2 => ?_)
    · unfold splitL
      rw [List.map_map, List.map_map]
      refine List.map_congr_left fun k _ => ?_
      have := val_bd ((k + 1 : Nat) : Int) [(a : Int), (a2 : Int)]
      show val _ _ = (((val ((k + 1 : Nat) : Int) [(a : Int), (a2 : Int)]).toNat : Nat) : Int)
      omega
    · unfold splitL; rw [List.length_map, List.length_range]; exact h1.2.2.2
    · intro n hn
      obtain ⟨k, -, rfl⟩ := List.mem_map.1 hn
      have := val_bd ((k + 1 : Nat) : Int) [(a : Int), (a2 : Int)]
      omega
    · exact split_ok [(a : Int), (a2 : Int)] _ a3 w2 (by show 1 ≤ 2; decide) (by show 2 ≤ 12; decide) (by simp [okR]; omega) h1.2.2.1 h1.2.2.2 ⟨_, c, rfl, fun _ => ⟨b, 0, rfl, hI2⟩⟩
  · rw [if_neg h1]
    refine ⟨joinN [], 1, .inr (.inr (.inl rfl)), rfl, fun v w1 R hl => ?_⟩
    obtain ⟨b, c, rfl, hI, hc1, hc2⟩ := hl.at (by simp)
    refine deed9 a a2 a3 b 0 c t w1 R hI hc1 hc2 [] [] 1 rfl (by decide) (fun n hn => absurd hn List.not_mem_nil) (fun w2 hI2 => ?_)
    have hE : splitF [(a : Int), (a2 : Int)] (a3 : Int) = 1 := by
      unfold splitF
      rw [if_neg (by simp), if_pos]
      by_cases h2 : a < 1013 ∧ a2 < 1013
      · right; right; omega
      · right; left
        simp only [List.all_cons, List.all_nil, Bool.and_true, Bool.and_eq_false_iff, okR, decide_eq_false_iff_not]
        omega
    refine (split_n [(a : Int), (a2 : Int)] _ a3 1 w2 (by show 2 ≤ _; decide) ⟨_, c, rfl, fun _ => ⟨b, 0, rfl, hI2⟩⟩ (Lib.hid hE) (by decide)).mono ?_
    rintro e w' ⟨rfl, hb'⟩
    exact ⟨_, rfl, ⟨none, 0, rfl, fun h => absurd h (Nat.lt_irrefl 0)⟩, hb'⟩
end Go.Proofs.YtjjmelhhalomaaaGreatDoor
namespace Go.Proofs.YtjjmelhhalomaaaGreatDoor
open Go.RowKit Go.Shelf
set_option maxRecDepth 100000
set_option linter.unusedVariables false
set_option linter.unusedSimpArgs false
theorem info_byteB : (Tryz.prog.info? 5).map (fun i => (i.zero, i.size, i.bytes)) = some (some (.int .u8 0), 1, 1) := by kernel_rfl
theorem size_bld : (Tryz.prog.info? 64).map (·.size) = some 2 := by kernel_rfl
theorem lies_bld : liesAt Tryz.prog Tryz.prog.depth 64 (2 / Tryz.prog.cellsOf 64) 0 64 1 = true := by kernel_rfl
abbrev IsB (B b : Nat) (bs : List Value) (w : World) : Prop := Lib.IsBuilder 64 5 B b bs w
abbrev BAt (B b : Nat) (bs : List Value) (w : World) : Prop := Lib.BuilderAt 64 5 B b (.pointer (some ⟨b, 0, none⟩)) bs w
set_option maxHeartbeats 1000000 in
theorem bcopy_used (b : Nat) (w : World) (h0 : w.cell? ⟨b, 0, none⟩ = some (.pointer (some ⟨b, 0, none⟩))) :
    Calls Tryz.prog 59 #[.pointer (some ⟨b, 0, none⟩)] w fun e w' => e = .returned (.tuple #[]) ∧ w' = w := by
  obtain ⟨j, hj, _⟩ := Option.map_eq_some_iff.1 size_bld
  go_enter Tryz.func59, Tryz.ntmps59
  go_wp2
  rw [Lib.run_neq_ptr_same w _ Tryz.underlying61 hj]
  go_wp2
  go_end0
  exact ⟨rfl, rfl⟩
set_option maxHeartbeats 1000000 in
theorem bcopy_fresh (b : Nat) (w : World) (h0 : w.cell? ⟨b, 0, none⟩ = some (.pointer none)) (hsh : w.shape? b = some (64, 2)) (hfz : w.frozen? ⟨b, 0, none⟩ = false) :
    Calls Tryz.prog 59 #[.pointer (some ⟨b, 0, none⟩)] w fun e w' => e = .returned (.tuple #[]) ∧ w' = w.setCell ⟨b, 0, none⟩ (.pointer (some ⟨b, 0, none⟩)) := by
  obtain ⟨j, hj, hjs⟩ := Option.map_eq_some_iff.1 size_bld
  go_enter Tryz.func59, Tryz.ntmps59
  go_wp2
  rw [Lib.run_to_unsafe w ⟨b, 0, none⟩ Tryz.underlying61 Tryz.underlying133 hj (by rw [hjs]; decide) hsh (Nat.zero_lt_succ 1)]
  simp only [Result.andThen]
  rw [Oper.upon_value]
  go_wp2
  rw [run_callFunc_extern Tryz.func103 (by kernel_rfl) (by kernel_rfl) (by kernel_rfl) (e := Extern.AbiNoEscape.same) (by kernel_rfl)]
  rw [Lib.run_noEscape]
  simp only [Result.andThen]
  rw [Oper.upon_value]
  go_wp2
  rw [Lib.run_from_unsafe w ⟨b, 0, none⟩ Tryz.underlying133 Tryz.underlying61 hj hsh lies_bld]
  simp only [Result.andThen]
  rw [Oper.upon_value]
  go_wp2
  go_end0
  exact ⟨rfl, rfl⟩
theorem bcopy_c (B b : Nat) (bs : List Value) (w : World) (h : IsB B b bs w) :
    Calls Tryz.prog 59 #[.pointer (some ⟨b, 0, none⟩)] w fun e w' => e = .returned (.tuple #[]) ∧ BAt B b bs w' ∧ Below B w w' := by
  rcases h with h | h
  · refine (bcopy_fresh b w h.cell0 h.shape h.frozen0).mono ?_
    rintro e w' ⟨rfl, rfl⟩
    exact ⟨rfl, h.used _, (Below.refl B w).setCell (p := ⟨b, 0, none⟩) h.1 _⟩
  · refine (bcopy_used b w h.cell0).mono ?_
    rintro e w' ⟨rfl, rfl⟩
    exact ⟨rfl, h, Below.refl B _⟩
set_option maxHeartbeats 2000000 in
theorem bwrite_c (B b : Nat) (bs : List Value) (s : ByteArray) (w : World) (h : IsB B b bs w) (hlen : bs.length + s.size ≤ 140737488355328) (hBw : B ≤ w.heap.size) :
    Calls Tryz.prog 29 #[.pointer (some ⟨b, 0, none⟩), .string s] w fun e w' => e = .returned (.tuple #[.int .i64 s.size, .nilIface]) ∧ BAt B b (bs ++ Lib.strCells s) w' ∧ Below B w w' := by
  obtain ⟨i0, hi, hz0, hz1, hz2⟩ := info_parts info_byteB
  go_enter Tryz.func29, Tryz.ntmps29
  go_wp2_with fail
  refine (bcopy_c B b bs _ h).mono ?_
  rintro e w1 ⟨rfl, h1, hb1⟩
  obtain ⟨hB, v, hbk, hown, hne⟩ := h1
  have c0 : w1.cell? ⟨b, 0, none⟩ = some (.pointer (some ⟨b, 0, none⟩)) := by rw [Lib.cell_of_heap hbk]; rfl
  have c1 : w1.cell? ⟨b, 1, none⟩ = some v := by rw [Lib.cell_of_heap hbk]; rfl
  go_wp2_with (at_builtin; refine Lib.wpList_append_own_string _ rfl _ _ 62 9 rfl B 5 i0 Tryz.underlying62 Tryz.underlying9 hi hz0 hz1 hz2 _ _ _ rfl hown s rfl ?c3 ?c4 ?c5 ?_)
  case c3 => unfold maxLen; omega
  case c4 => omega
  case c5 => have := hb1.size; omega
  intro v' w2 hown' hgrow _
  have hlt : b < w1.heap.size := by
    rcases Nat.lt_or_ge b w1.heap.size with h' | h'
    · exact h'
    · simp [Array.getElem?_eq_none h'] at hbk
  have hb2 : w2.heap[b]? = some (.cells #[.pointer (some ⟨b, 0, none⟩), v] 64 (0, 0)) := by
    rw [hgrow.block b hlt (fun e => hne e.symm)]
    exact hbk
  have d0 : w2.cell? ⟨b, 0, none⟩ = some (.pointer (some ⟨b, 0, none⟩)) := by rw [Lib.cell_of_heap hb2]; rfl
  have d1 : w2.cell? ⟨b, 1, none⟩ = some v := by rw [Lib.cell_of_heap hb2]; rfl
  have d2 : w2.frozen? ⟨b, 1, none⟩ = false := Lib.frozen_of_heap hb2 1
  have hl' : (bs ++ Lib.strCells s).length = bs.length + s.size := by rw [List.length_append]; unfold Lib.strCells; rw [List.length_map, Array.length_toList]; rfl
  have hp : BAt B b (bs ++ Lib.strCells s) (w2.setCell ⟨b, 1, none⟩ v') := Lib.BuilderAt.put hB hb2 (by rw [hl']; exact hown') (by decide)
  have hbl : Below B w (w2.setCell ⟨b, 1, none⟩ v') := (hb1.trans (Below.grown (Below.refl B w1) hgrow (Nat.le_trans hBw hb1.size) (fun k hk => (hown.lt k hk).1))).setCell (p := ⟨b, 1, none⟩) hB _
  replace hp := Lib.hid hp
  replace hbl := Lib.hid hbl
  obtain ⟨ao, n', cap, rfl⟩ : ∃ ao n' cap, v' = .slice ao n' cap := by
    rcases hown'.2 with ⟨hv, _⟩ | ⟨g, cap, cur, hv, _⟩
    · exact ⟨_, _, _, hv⟩
    · exact ⟨_, _, _, hv⟩
  go_wp2
  go_ret2
  exact ⟨rfl, hp.out, hbl.out⟩
end Go.Proofs.YtjjmelhhalomaaaGreatDoor
namespace Go.Proofs.YtjjmelhhalomaaaGreatDoor
open Go.RowKit
set_option maxRecDepth 100000
set_option linter.unusedVariables false
set_option linter.unusedSimpArgs false
/-- A builder in block b whose bytes lie from B1 on. -/
def BdV (w : World) (B1 b : Nat) (v : Value) (bs : List Value) : Prop := ∃ p, w.heap[b]? = some (.cells #[p, v] 64 (0, 0)) ∧ (p = .pointer none ∨ p = .pointer (some ⟨b, 0, none⟩)) ∧ w.ownsRow B1 5 1 v bs.length bs
theorem BdV.lt {w : World} {B1 b : Nat} {v : Value} {bs : List Value} (h : BdV w B1 b v bs) : b < w.heap.size := by
  obtain ⟨p, hb, -⟩ := h
  exact (Array.getElem?_eq_some_iff.1 hb).1
theorem BdV.ne {w : World} {B1 b : Nat} {v : Value} {bs : List Value} (h : BdV w B1 b v bs) (hb : b < B1) : v.ownBlock ≠ some b := fun e => by
  obtain ⟨p, -, -, ho⟩ := h
  have := (ho.lt b e).1
  omega
theorem BdV.is {w : World} {B1 b B : Nat} {v : Value} {bs : List Value} (h : BdV w B1 b v bs) (hb : b < B1) (hB : B ≤ b) : IsB B b bs w := by
  have hne := h.ne hb
  obtain ⟨p, h1, h2, h3⟩ := h
  rcases h2 with rfl | rfl
  · exact .inl ⟨hB, v, h1, own_base h3 (by omega), hne⟩
  · exact .inr ⟨hB, v, h1, own_base h3 (by omega), hne⟩
theorem BdV.keep {w w' : World} {B1 b : Nat} {v : Value} {bs : List Value} (h : BdV w B1 b v bs) (hk : ∀ k, k = b ∨ v.ownBlock = some k → w'.heap[k]? = w.heap[k]?) : BdV w' B1 b v bs := by
  obtain ⟨p, h1, h2, h3⟩ := h
  exact ⟨p, (hk b (.inl rfl)).trans h1, h2, own_keep h3 (fun k e => hk k (.inr e))⟩
theorem BdV.blk {w : World} {B1 b : Nat} {v : Value} {bs : List Value} (h : BdV w B1 b v bs) (k : Nat) (hk : k = b ∨ v.ownBlock = some k) : k < w.heap.size := by
  have hl := h.lt
  obtain ⟨p, -, -, h3⟩ := h
  rcases hk with rfl | hk
  · exact hl
  · exact (h3.lt k hk).2
theorem BdV.below {w w' : World} {B1 b : Nat} {v : Value} {bs : List Value} (h : BdV w B1 b v bs) (hb : Below w.heap.size w w') : BdV w' B1 b v bs := h.keep fun k hk => hb.block k (h.blk k hk)
/-- Its blocks hold cells. -/
theorem BdV.cells {w : World} {B1 b : Nat} {v : Value} {bs : List Value} (h : BdV w B1 b v bs) (k : Nat) (hk : k = b ∨ v.ownBlock = some k) : ∃ o : Obj, w.heap[k]? = some o ∧ o.isCells = true := by
  obtain ⟨p, h1, -, h3⟩ := h
  rcases hk with rfl | hk
  · exact ⟨_, h1, rfl⟩
  · rcases h3.2 with ⟨rfl, -⟩ | ⟨g, cap, cur, rfl, -, hg, -⟩
    · cases hk
    · cases hk; exact ⟨_, hg, rfl⟩
set_option maxHeartbeats 2000000 in
theorem bwrite2 (B1 b : Nat) (v : Value) (bs : List Value) (s : ByteArray) (w : World) (h : BdV w B1 b v bs) (hb1 : b < B1) (hlen : bs.length + s.size ≤ 140737488355328) (hBw : B1 ≤ w.heap.size) :
    Calls Tryz.prog 29 #[.pointer (some ⟨b, 0, none⟩), .string s] w fun e w' => e = .returned (.tuple #[.int .i64 s.size, .nilIface]) ∧ ∃ v', BdV w' B1 b v' (bs ++ Lib.strCells s) ∧ But (fun k => k = b ∨ v.ownBlock = some k) w w' := by
  obtain ⟨i0, hi, hz0, hz1, hz2⟩ := info_parts info_byteB
  have hne := h.ne hb1
  have hl := h.lt
  obtain ⟨p, hbk, hp, hown⟩ := h
  have kC : Calls Tryz.prog 59 #[.pointer (some ⟨b, 0, none⟩)] w fun e w' => e = .returned (.tuple #[]) ∧ w'.heap[b]? = some (.cells #[.pointer (some ⟨b, 0, none⟩), v] 64 (0, 0)) ∧ But (fun k => k = b) w w' := by
    rcases hp with rfl | rfl
    · have hat : Lib.BuilderAt 64 5 b b (.pointer none) bs w := ⟨Nat.le_refl _, v, hbk, own_base hown (by omega), hne⟩
      refine (bcopy_fresh b w hat.cell0 hat.shape hat.frozen0).mono ?_
      rintro e w' ⟨rfl, rfl⟩
      refine ⟨rfl, ?_, But.setCell (S := fun k => k = b) (p := ⟨b, 0, none⟩) rfl _⟩
      simp [World.setCell, Array.getElem?_modify, hbk]
    · have hat : Lib.BuilderAt 64 5 b b (.pointer (some ⟨b, 0, none⟩)) bs w := ⟨Nat.le_refl _, v, hbk, own_base hown (by omega), hne⟩
      refine (bcopy_used b w hat.cell0).mono ?_
      rintro e w' ⟨rfl, rfl⟩
      exact ⟨rfl, hbk, But.refl _ _⟩
  clear hp
  go_enter Tryz.func29, Tryz.ntmps29
  go_wp2_with fail
  refine kC.mono ?_
  rintro e w1 ⟨rfl, hbk1, hbt1⟩
  have hown1 : w1.ownsRow B1 5 1 v bs.length bs := own_keep hown (fun k e => hbt1.block k (hown.lt k e).2 (fun h2 => hne (by rw [← h2]; exact e)))
  have c0 : w1.cell? ⟨b, 0, none⟩ = some (.pointer (some ⟨b, 0, none⟩)) := by rw [Lib.cell_of_heap hbk1]; rfl
  have c1 : w1.cell? ⟨b, 1, none⟩ = some v := by rw [Lib.cell_of_heap hbk1]; rfl
  have hz1w := hbt1.size
  go_wp2_with (at_builtin; refine Lib.wpList_append_own_string _ rfl _ _ 62 9 rfl B1 5 i0 Tryz.underlying62 Tryz.underlying9 hi hz0 hz1 hz2 _ _ _ rfl hown1 s rfl ?c3 ?c4 ?c5 ?_)
  case c3 => unfold maxLen; omega
  case c4 => omega
  case c5 => omega
  intro v' w2 hown' hgrow _
  have hlt : b < w1.heap.size := Nat.lt_of_lt_of_le hl hz1w
  have hb2 : w2.heap[b]? = some (.cells #[.pointer (some ⟨b, 0, none⟩), v] 64 (0, 0)) := by
    rw [hgrow.block b hlt (fun e => hne e.symm)]
    exact hbk1
  have d0 : w2.cell? ⟨b, 0, none⟩ = some (.pointer (some ⟨b, 0, none⟩)) := by rw [Lib.cell_of_heap hb2]; rfl
  have d1 : w2.cell? ⟨b, 1, none⟩ = some v := by rw [Lib.cell_of_heap hb2]; rfl
  have d2 : w2.frozen? ⟨b, 1, none⟩ = false := Lib.frozen_of_heap hb2 1
  have hl' : (bs ++ Lib.strCells s).length = bs.length + s.size := by rw [List.length_append]; unfold Lib.strCells; rw [List.length_map, Array.length_toList]; rfl
  have hp : BdV (w2.setCell ⟨b, 1, none⟩ v') B1 b v' (bs ++ Lib.strCells s) := by
    refine ⟨.pointer (some ⟨b, 0, none⟩), by simp [World.setCell, Array.getElem?_modify, hb2], .inr rfl, ?_⟩
    rw [hl']
    exact own_keep hown' (fun k e => heap_setCell_other w2 ⟨b, 1, none⟩ k v' (fun e2 => by have := (hown'.lt k e).1; simp at e2; omega))
  have hbt : But (fun k => k = b ∨ v.ownBlock = some k) w (w2.setCell ⟨b, 1, none⟩ v') :=
    ((hbt1.mono (fun k _ h => .inl h)).trans (But.of_grown hgrow (fun k hk => .inr hk))).trans (But.setCell (S := fun k => k = b ∨ v.ownBlock = some k) (p := ⟨b, 1, none⟩) (.inl rfl) _)
  replace hp := Lib.hid hp
  replace hbt := Lib.hid hbt
  obtain ⟨ao, n', cap, rfl⟩ : ∃ ao n' cap, v' = .slice ao n' cap := by
    rcases hown'.2 with ⟨hv, _⟩ | ⟨g, cap, cur, hv, _⟩
    · exact ⟨_, _, _, hv⟩
    · exact ⟨_, _, _, hv⟩
  go_wp2
  go_ret2
  exact ⟨rfl, _, hp.out, hbt.out⟩
/-- A line without its end. -/
def trimL (l : List UInt8) : List UInt8 := Lib.trimSuffix l [10]
theorem trimL_len (l : List UInt8) : (trimL l).length ≤ l.length := by
  unfold trimL Lib.trimSuffix
  split
  · rw [List.length_take]; omega
  · exact Nat.le_refl _
/-- The answer to a line. -/
noncomputable def lineF (s : List UInt8) : List UInt8 :=
  if (cutW s).1 = [98, 97, 115, 101] then deedF 1 false A1 (cutW s).2.1 (cutW s).2.2
  else if (cutW s).1 = [108, 105, 102, 116] then deedF 1 false A2 (cutW s).2.1 (cutW s).2.2
  else if (cutW s).1 = [111, 114, 100, 101, 114] then deedF 1 false A3 (cutW s).2.1 (cutW s).2.2
  else if (cutW s).1 = [104, 97, 115, 104] then deedF 0 true A4 (cutW s).2.1 (cutW s).2.2
  else if (cutW s).1 = [112, 97, 105, 114] then deedF 2 false A5 (cutW s).2.1 (cutW s).2.2
  else if (cutW s).1 = [115, 105, 103, 110] then deedF 2 true A6 (cutW s).2.1 (cutW s).2.2
  else if (cutW s).1 = [115, 104, 111, 114, 116] then deedF 1 true A7 (cutW s).2.1 (cutW s).2.2
  else if (cutW s).1 = [104, 105, 100, 101] then deedF 2 false A8 (cutW s).2.1 (cutW s).2.2
  else if (cutW s).1 = [115, 104, 97, 114, 101, 115] then deedF 3 false A9 (cutW s).2.1 (cutW s).2.2
  else badB
theorem lineA_c (s : List UInt8) (w : World) (R : RunAt w) (hl : s.length ≤ 3000) : Calls Tryz.prog 30 #[.string (bS s)] w fun e w' => e = .returned (.string (bS (lineF s))) ∧ Below w.heap.size w w' := by
  have hr := Nat.le_trans (cutW_len s).2 hl
  unfold lineF
  split
  · rename_i h
    obtain ⟨out, c, hc, ho, hL⟩ := lineR_of (B := false) dA1 _ (cutW s).2.2 w R hr
    rw [← ho]; exact answer_c s out c w hc R.E (read_base s w R hl h out c hc hL)
  split
  · rename_i h
    obtain ⟨out, c, hc, ho, hL⟩ := lineR_of (B := false) dA2 _ (cutW s).2.2 w R hr
    rw [← ho]; exact answer_c s out c w hc R.E (read_lift s w R hl h out c hc hL)
  split
  · rename_i h
    obtain ⟨out, c, hc, ho, hL⟩ := lineR_of (B := false) dA3 _ (cutW s).2.2 w R hr
    rw [← ho]; exact answer_c s out c w hc R.E (read_order s w R hl h out c hc hL)
  split
  · rename_i h
    obtain ⟨out, c, hc, ho, hL⟩ := lineR_of (B := true) dA4 _ (cutW s).2.2 w R hr
    rw [← ho]; exact answer_c s out c w hc R.E (read_hash s w R hl h out c hc hL)
  split
  · rename_i h
    obtain ⟨out, c, hc, ho, hL⟩ := lineR_of (B := false) dA5 _ (cutW s).2.2 w R hr
    rw [← ho]; exact answer_c s out c w hc R.E (read_pair s w R hl h out c hc hL)
  split
  · rename_i h
    obtain ⟨out, c, hc, ho, hL⟩ := lineR_of (B := true) dA6 _ (cutW s).2.2 w R hr
    rw [← ho]; exact answer_c s out c w hc R.E (read_sign s w R hl h out c hc hL)
  split
  · rename_i h
    obtain ⟨out, c, hc, ho, hL⟩ := lineR_of (B := true) dA7 _ (cutW s).2.2 w R hr
    rw [← ho]; exact answer_c s out c w hc R.E (read_short s w R hl h out c hc hL)
  split
  · rename_i h
    obtain ⟨out, c, hc, ho, hL⟩ := lineR_of (B := false) dA8 _ (cutW s).2.2 w R hr
    rw [← ho]; exact answer_c s out c w hc R.E (read_hide s w R hl h out c hc hL)
  split
  · rename_i h
    obtain ⟨out, c, hc, ho, hL⟩ := lineR_of (B := false) dA9 _ (cutW s).2.2 w R hr
    rw [← ho]; exact answer_c s out c w hc R.E (read_shares s w R hl h out c hc hL)
  · rename_i h1 h2 h3 h4 h5 h6 h7 h8 h9
    have := answer_c s [] (-1) w (.inr (.inl rfl)) R.E (read_no s w R hl (by simp only [List.mem_cons, List.not_mem_nil, or_false, not_or]; exact ⟨h1, h2, h3, h4, h5, h6, h7, h8, h9⟩))
    exact this
theorem toldB_len {s : Sp} (h : Sm s) : (toldB s).length ≤ 100 := by
  unfold toldB
  split
  · decide
  · have := joinN_len [s.x.toNat, s.y.toNat] (fun n hn => by
      have := h.x1; have := h.y1
      simp only [List.mem_cons, List.not_mem_nil, or_false] at hn
      rcases hn with rfl | rfl <;> omega)
    simp only [List.length_cons, List.length_nil] at this
    omega
theorem nameB_len (k : Int) : (nameB k).length ≤ 100 := by
  unfold nameB
  split
  · decide
  · split <;> decide
theorem joinN_len100 (l : List Nat) (hl : l.length ≤ 12) (h : ∀ n ∈ l, n < 1000000) : (joinN l).length ≤ 100 := by
  have := joinN_len l h; omega
theorem A1_len (ns : List Nat) (t : List UInt8) : (A1 ns t).length ≤ 100 := toldB_len (Sm.of_ok (sq_ok _))
theorem A2_len (ns : List Nat) (t : List UInt8) : (A2 ns t).length ≤ 100 := by
  unfold A2
  split
  · exact nameB_len _
  · split
    · exact nameB_len _
    · rename_i h1 h2
      exact toldB_len (Sm.of_ok (lifted_ok (by simpa using h1) (by simpa using h2)))
theorem A3_len (ns : List Nat) (t : List UInt8) : (A3 ns t).length ≤ 100 := joinN_len100 _ (by show 1 ≤ 12; decide) (fun n hn => by
  have := ordOf_bd (4 * (nAt ns 0 : Int))
  simp only [List.mem_cons, List.not_mem_nil, or_false] at hn
  omega)
theorem A4_len (ns : List Nat) (t : List UInt8) : (A4 ns t).length ≤ 100 := joinN_len100 _ (by show 1 ≤ 12; decide) (fun n hn => by
  have := hnum_bd t
  simp only [List.mem_cons, List.not_mem_nil, or_false] at hn
  omega)
theorem A5_len (ns : List Nat) (t : List UInt8) : (A5 ns t).length ≤ 100 := joinN_len100 _ (by show 2 ≤ 12; decide) (fun n hn => by
  simp only [List.mem_cons, List.not_mem_nil, or_false] at hn
  rcases hn with rfl | rfl
  · obtain ⟨x, hx, h⟩ := fz_nat (zp (((nAt ns 0 % 1013 : Nat) : Int) * ((nAt ns 1 % 1013 : Nat) : Int))).re
    rw [hx, Int.toNat_natCast]; omega
  · obtain ⟨x, hx, h⟩ := fz_nat (zp (((nAt ns 0 % 1013 : Nat) : Int) * ((nAt ns 1 % 1013 : Nat) : Int))).im
    rw [hx, Int.toNat_natCast]; omega)
theorem A6_len (ns : List Nat) (t : List UInt8) : (A6 ns t).length ≤ 100 := by
  unfold A6
  split
  · exact nameB_len _
  · split
    · exact nameB_len _
    · refine joinN_len100 _ (by show 3 ≤ 12; decide) (fun n hn => ?_)
      have h1 := Sm.of_ok (sq_ok (4 * (nAt ns 1 : Int)))
      have h2 : 0 ≤ rgS (nAt ns 0) (nAt ns 1) t ∧ rgS (nAt ns 0) (nAt ns 1) t < 1013 := ⟨Int.emod_nonneg _ (by decide), Int.emod_lt_of_pos _ (by decide)⟩
      have h3 := h1.x1
      have h4 := h1.y1
      simp only [List.mem_cons, List.not_mem_nil, or_false] at hn
      rcases hn with rfl | rfl | rfl <;> omega
theorem A7_len (ns : List Nat) (t : List UInt8) : (A7 ns t).length ≤ 100 := by
  unfold A7
  split
  · exact nameB_len _
  · split
    · exact nameB_len _
    · exact toldB_len (Sm.of_ok (sq_ok _))
theorem A8_len (ns : List Nat) (t : List UInt8) : (A8 ns t).length ≤ 100 := by
  unfold A8
  split
  · exact toldB_len (Sm.of_ok (sq_ok _))
  · exact nameB_len _
theorem A9_len (ns : List Nat) (t : List UInt8) : (A9 ns t).length ≤ 100 := by
  unfold A9
  split
  · rename_i h
    refine joinN_len100 _ (by rw [List.length_map, List.length_range]; exact h.2.2.2) (fun n hn => ?_)
    obtain ⟨k, -, rfl⟩ := List.mem_map.1 hn
    have := val_bd ((k + 1 : Nat) : Int) [(nAt ns 0 : Int), (nAt ns 1 : Int)]
    omega
  · exact nameB_len _
theorem deedF_len {K : Nat} {B : Bool} {A : List Nat → List UInt8 → List UInt8} (hA : ∀ ns t, (A ns t).length ≤ 100) (r : List UInt8) (m : Bool) : (deedF K B A r m).length ≤ 100 := by
  unfold deedF
  split
  · decide
  · split
    · exact hA _ _
    · decide
theorem lineF_len (s : List UInt8) : (lineF s).length ≤ 100 := by
  unfold lineF
  repeat' split
  · exact deedF_len A1_len _ _
  · exact deedF_len A2_len _ _
  · exact deedF_len A3_len _ _
  · exact deedF_len A4_len _ _
  · exact deedF_len A5_len _ _
  · exact deedF_len A6_len _ _
  · exact deedF_len A7_len _ _
  · exact deedF_len A8_len _ _
  · exact deedF_len A9_len _ _
  · decide
/-- The answers, line by line. -/
noncomputable def outsF (ls : List (List UInt8)) : List UInt8 := (ls.map fun l => lineF (trimL l) ++ [10]).flatten
theorem outsF_snoc (ls : List (List UInt8)) (l : List UInt8) : outsF (ls ++ [l]) = outsF ls ++ (lineF (trimL l) ++ [10]) := by unfold outsF; rw [List.map_append, List.flatten_append]; simp
theorem outsF_len : ∀ ls : List (List UInt8), (outsF ls).length ≤ 101 * ls.length
  | [] => Nat.zero_le _
  | l :: ls => by
    have h1 := outsF_len ls
    have h2 := lineF_len (trimL l)
    unfold outsF at h1 ⊢
    simp only [List.map_cons, List.flatten_cons, List.length_append, List.length_cons, List.length_nil] at h1 ⊢
    omega
end Go.Proofs.YtjjmelhhalomaaaGreatDoor
namespace Go.Proofs.YtjjmelhhalomaaaGreatDoor
open Go.RowKit
set_option maxRecDepth 100000
set_option linter.unusedVariables false
set_option linter.unusedSimpArgs false
attribute [local go_sem ↓] Go.wp_at_zero Go.wp_at_succ
theorem extract_bS2 (l : List UInt8) (i j : Nat) : (bS l).extract i j = bS ((l.drop i).take (j - i)) := by
  apply ByteArray.ext
  simp [bS]
theorem digit_one (n : Nat) (h : n < 10) : (⟨#[48, 49, 50, 51, 52, 53, 54, 55, 56, 57]⟩ : ByteArray).extract n (n + 1) = bS [UInt8.ofNat (48 + n)] := by
  have e : (⟨#[48, 49, 50, 51, 52, 53, 54, 55, 56, 57]⟩ : ByteArray) = bS [48, 49, 50, 51, 52, 53, 54, 55, 56, 57] := rfl
  rw [e, extract_bS2, show n + 1 - n = 1 by omega]
  have hn : n = 0 ∨ n = 1 ∨ n = 2 ∨ n = 3 ∨ n = 4 ∨ n = 5 ∨ n = 6 ∨ n = 7 ∨ n = 8 ∨ n = 9 := by omega
  rcases hn with rfl | rfl | rfl | rfl | rfl | rfl | rfl | rfl | rfl | rfl <;> rfl
theorem dec_small (n : Nat) (h : n < 10) : Lib.decDigits n = [UInt8.ofNat (48 + n)] := by rw [Lib.decDigits, dif_pos h]
theorem dec_big (n : Nat) (h : ¬ n < 10) : Lib.decDigits n = Lib.decDigits (n / 10) ++ [UInt8.ofNat (48 + n % 10)] := by rw [Lib.decDigits, dif_neg h]
set_option maxHeartbeats 4000000 in
theorem digits_k : ∀ (k n : Nat) (w : World), n < k → n < 1000000 → Calls Tryz.prog 12 #[.int .i64 (n : Int)] w fun e w' => e = .returned (.string (bS (Lib.decDigits n))) ∧ w' = w
  | 0, n, w, h, _ => absurd h (Nat.not_lt_zero _)
  | k + 1, n, w, h, hb => by
    obtain ⟨D, hD⟩ : ∃ D, Lib.decDigits n = D := ⟨_, rfl⟩
    rw [hD]
    by_cases h1 : n < 10
    · have e1 := digit_one n h1
      rw [dec_small n h1] at hD
      rw [hD] at e1
      clear hD
      have g0 : ((n : Int) + 1).toNat = n + 1 := by omega
      go_enter Tryz.func12, Tryz.ntmps12
      go_wp2
      go_ret
      exact ⟨rfl, rfl⟩
    · have ih := digits_k k (n / 10) w (by omega) (by omega)
      have h2 : ((n : Int)).tdiv 10 = ((n / 10 : Nat) : Int) := by rw [Int.tdiv_eq_ediv_of_nonneg (by omega)]; omega
      have h3 : ((n : Int)).tmod 10 = ((n % 10 : Nat) : Int) := by rw [Int.tmod_eq_emod_of_nonneg (by omega)]; omega
      have e1 := digit_one (n % 10) (by omega)
      rw [dec_big n h1] at hD
      obtain ⟨r, hr⟩ : ∃ r, n % 10 = r := ⟨_, rfl⟩
      have hr1 : r < 10 := by omega
      rw [hr] at h3 e1 hD
      obtain ⟨X, hX⟩ : ∃ X, Lib.decDigits (n / 10) = X := ⟨_, rfl⟩
      rw [hX] at ih hD
      have hj : bS X ++ bS [UInt8.ofNat (48 + r)] = bS D := by rw [bS_app, hD]
      rw [show (((n / 10 : Nat)) : Int) = (n : Int) / 10 by omega] at ih
      have hXl : X.length ≤ 20 := by rw [← hX, Lib.decDigits_length]; have := Lib.nDigits_le20 (n / 10) (by omega); omega
      generalize UInt8.ofNat (48 + r) = d at e1 hj hD
      have z1 := bS_size X
      have z2 := bS_size [d]
      simp only [List.length_cons, List.length_nil, Nat.zero_add] at z2
      obtain ⟨s1, hs1⟩ : ∃ s, bS X = s := ⟨_, rfl⟩
      obtain ⟨s2, hs2⟩ : ∃ s, bS [d] = s := ⟨_, rfl⟩
      rw [hs1] at ih hj z1
      rw [hs2] at hj z2 e1
      have hlim : ¬ (9223372036854775807 < s1.size + s2.size) := by omega
      replace ih := Lib.hid ih
      clear hD hX hr hs1 hs2
      go_enter Tryz.func12, Tryz.ntmps12
      go_wp2_with fail
      refine ih.out.mono ?_; rintro e w1 ⟨rfl, hw⟩
      obtain rfl := hw.symm
      go_wp2
      go_ret
      exact ⟨rfl, rfl⟩
theorem digits_c (n : Nat) (w : World) (h : n < 1000000) : Calls Tryz.prog 12 #[.int .i64 (n : Int)] w fun e w' => e = .returned (.string (bS (Lib.decDigits n))) ∧ w' = w := digits_k (n + 1) n w (Nat.lt_succ_self n) h
/-- The pieces of a text, cut at each byte c. -/
def cutGo (c : UInt8) (cur : List UInt8) : List UInt8 → List (List UInt8)
  | [] => [cur]
  | b :: l => if b = c then cur :: cutGo c [] l else cutGo c (cur ++ [b]) l
theorem cutGo_len (c : UInt8) : ∀ (l cur : List UInt8), (cutGo c cur l).length ≤ l.length + 1
  | [], cur => by simp [cutGo]
  | b :: l, cur => by
    unfold cutGo
    split
    · have := cutGo_len c l []; simp; omega
    · have := cutGo_len c l (cur ++ [b]); simp; omega
/-- Strings that lie in a row. -/
structure TxtAt (w : World) (b off : Nat) (l : List (List UInt8)) : Prop where
  lt : b < w.heap.size
  c : ∀ i (h : i < l.length), w.cell? ⟨b, off + i, none⟩ = some (.string (bS l[i]))
theorem TxtAt.below {w w' : World} {b off : Nat} {l : List (List UInt8)} (h : TxtAt w b off l) (hb : Below w.heap.size w w') : TxtAt w' b off l :=
  ⟨Nat.lt_of_lt_of_le h.lt hb.size, fun i hi => (hb.cell (p := ⟨b, off + i, none⟩) h.lt).trans (h.c i hi)⟩
def txC (l : List (List UInt8)) : List Value := l.map fun x => .string (bS x)
theorem info_txt : (Tryz.prog.info? 9).map (fun i => (i.zero, i.size, i.bytes)) = some (some (.string ⟨#[]⟩), 1, 16) := by kernel_rfl
theorem own_txt {w : World} {B e : Nat} {v : Value} {l : List (List UInt8)} {n : Nat} (h : w.ownsRow B e 1 v n (txC l)) (hn : n = l.length) (h0 : 0 < l.length) : ∃ b cap, v = .slice (some ⟨b, 0, none⟩) l.length cap ∧ TxtAt w b 0 l ∧ l.length ≤ cap ∧ cap ≤ 9223372036854775807 := by
  subst hn
  obtain ⟨hl, h | ⟨g, cap, cur, rfl, hb, hg, hc, h4, h5, ht⟩⟩ := h
  · obtain ⟨rfl, hz⟩ := h
    omega
  · refine ⟨g, cap, rfl, ⟨(Array.getElem?_eq_some_iff.1 hg).1, fun i hi => ?_⟩, by first | exact h4 | exact h5 | omega, by first | exact h4 | exact h5 | omega⟩
    have k1 : (txC l)[i]? = some (.string (bS l[i])) := by simp [txC, hi]
    rw [cell_of_row w g _ cur e (0, 0) hg]
    simp only [Nat.zero_add]
    rw [← ht, List.getElem?_take, if_pos (by omega), Array.getElem?_toList] at k1
    assumption
theorem wpl_append_txt {w : World} {ops : Array Oper} {rest : List Oper} {o : Oper} {a : Act} {Q : Exit → Act → World → Prop} (hgd : o.guard = none) (s x : Operand) (t : TypeId)
    (ho : o.op = .call { callee := .builtin .append, args := #[s, x], argTypes := #[t, t] }) (ht : Tryz.prog.underlying t = some (.slice 9)) (B : Nat) (v : Value) (l : List (List UInt8)) (n : Nat) (hs : a.eval s = v)
    (hown : w.ownsRow B 9 1 v n (txC l)) (hn : l.length = n) (hl : n ≤ 1000000) (hB : B ≤ w.heap.size) (g : Nat) (c : List UInt8) (hx : a.eval x = .slice (some ⟨g, 0, none⟩) 1 1)
    (h0 : w.cell? ⟨g, 0, none⟩ = some (.string (bS c)))
    (h : ∀ v' w', w'.ownsRow B 9 1 v' (n + 1) (txC (l ++ [c])) → w.grownBy w' v.ownBlock → (∀ a, Below B a w → Below B a w') → (v'.ownBlock = v.ownBlock ∨ v'.ownBlock = some w.heap.size) → wpList Tryz.prog ops Q rest (a.put o.dst v') w') :
    wpList Tryz.prog ops Q (o :: rest) a w := by
  obtain ⟨i0, hi, hz0, hz1, hz2⟩ := info_parts info_txt
  refine wpList_append_own_at _ hgd s x _ ho B _ i0 _ 1 16 ht hi hz0 hz1 hz2 rfl (by decide) v n _ hs hown ⟨g, 0, none⟩ 1 1 [.string (bS c)] hx rfl ?_ ?_ (by unfold maxLen; omega) (by omega) hB ?_
  · intro j u hj
    have e : ∀ k, (⟨g, 0, none⟩ : Addr).add k = ⟨g, k, none⟩ := fun k => by rw [add_none, Nat.zero_add]
    rw [e]
    match j, hj with
    | 0, hj => cases hj; exact h0
  · intro u hu
    simp only [List.mem_cons, List.not_mem_nil, or_false] at hu
    subst hu; rfl
  · intro v' w' h3 h4 _ h6
    rw [show txC l ++ [.string (bS c)] = txC (l ++ [c]) by simp [txC]] at h3
    exact h v' w' h3 h4 (fun a hb => Below.grown hb h4 hB (fun k hk => (hown.lt k hk).1)) h6
theorem u8_ten (x : UInt8) : (((x.toNat : Nat) : Int) == 10) = decide (x = 10) := by
  rw [Bool.eq_iff_iff]
  simp only [beq_iff_eq, decide_eq_true_eq]
  constructor
  · intro h
    exact UInt8.toNat_inj.1 (by have : x.toNat = 10 := by omega
                                rw [this]; rfl)
  · rintro rfl; rfl
set_option maxHeartbeats 16000000 in
theorem cut_ten (s : List UInt8) (w : World) (hs : s.length ≤ 400000) : Calls Tryz.prog 8 #[.string (bS s), .int .u8 10] w fun e w' => (∃ b cap, e = .returned (.slice (some ⟨b, 0, none⟩) (cutGo 10 [] s).length cap) ∧ TxtAt w' b 0 (cutGo 10 [] s) ∧ (cutGo 10 [] s).length ≤ cap ∧ cap ≤ 9223372036854775807) ∧ Below w.heap.size w w' := by
  have hz0 := bS_size s
  obtain ⟨S, hS⟩ : ∃ S, bS s = S := ⟨_, rfl⟩
  rw [hS] at hz0 ⊢
  have hcl := cutGo_len 10 s []
  obtain ⟨L, hL⟩ : ∃ L, cutGo 10 [] s = L := ⟨_, rfl⟩
  rw [hL] at hcl ⊢
  have hS' := Lib.hid hS
  have hL' := Lib.hid hL
  clear hS hL
  go_enter Tryz.func8, Tryz.ntmps8
  go_wp2_with fail
  go_loopw [5, 6, 7] (fun o f i wr => ∃ (i' f' : Nat) (P : List (List UInt8)), f' ≤ i' ∧ i' ≤ s.length ∧ P.length ≤ i' ∧ i = .int .i64 i' ∧ f = .int .i64 f' ∧ P ++ cutGo 10 ((s.drop f').take (i' - f')) (s.drop i') = L ∧ wr.ownsRow w.heap.size 9 1 o P.length (txC P) ∧ Below w.heap.size w wr) (fun _ _ i _ => s.length - (intOf i).toNat)
  case atStart => exact ⟨0, 0, [], Nat.le_refl _, Nat.zero_le _, Nat.zero_le _, rfl, rfl, by simpa using hL'.out, World.ownsRow_nil _ _ _ _, Below.refl _ _⟩
  case round =>
    obtain ⟨i, f, P, hfi, hi, hPi, rfl, rfl, hP, hown, hB⟩ := hrel
    obtain ⟨ao, co, rfl⟩ := own_slB hown
    replace hown := Lib.hid hown
    replace hB := Lib.hid hB
    replace hP := Lib.hid hP
    by_cases hlt : i < s.length
    · have hk1 : S[i]'(by omega) = s[i] := by
        have := hS'.out
        subst this
        show (bS s).data[i]'(by simpa [bS] using hlt) = s[i]
        simp [bS]
      have hex : S.extract f i = bS ((s.drop f).take (i - f)) := by rw [← hS'.out, extract_bS2]
      have hd : s.drop i = s[i] :: s.drop (i + 1) := List.drop_eq_getElem_cons hlt
      have hPL := hP.out
      rw [hd] at hPL
      unfold cutGo at hPL
      by_cases h10 : s[i] = 10
      · rw [if_pos h10] at hPL
        have g10 : (((S[i]'(by omega)).toNat : Int) == 10) = true := by rw [u8_ten, hk1, decide_eq_true_iff]; exact h10
        obtain ⟨x, hx⟩ : ∃ x, (s.drop f).take (i - f) = x := ⟨_, rfl⟩
        rw [hx] at hPL hex
        replace hPL := Lib.hid hPL
        clear hP hd hk1 h10
        go_wp2_with (first | (at_builtin; refine wpl_append_txt rfl _ _ _ rfl (by kernel_rfl) w.heap.size _ P P.length rfl (hown.out.alloc _) rfl (by omega) (by have := hB.out.size; simp only [World.size_alloc]; omega) wr.heap.size x rfl (by go_simp) ?_; intro v' w4 hown' _ hbel _; obtain ⟨av, cv, rfl⟩ := own_slB hown'; replace hown' := Lib.hid hown'; have hB4 := Lib.hid (hbel w (balloc hB.out _)); clear hbel) | fail)
        go_roundw
        case rel =>
          refine ⟨i + 1, i + 1, P ++ [x], Nat.le_refl _, by omega, by simp; omega, by go_num, by go_num, ?_, ?_, hB4.out⟩
          · rw [Nat.sub_self, List.take_zero, List.append_assoc]; exact hPL.out
          · rw [List.length_append]; exact hown'.out
        case measure => simp [intOf]; omega
      · rw [if_neg h10] at hPL
        have g10 : (((S[i]'(by omega)).toNat : Int) == 10) = false := by rw [u8_ten, hk1, decide_eq_false_iff_not]; exact h10
        replace hPL := Lib.hid hPL
        clear hP hd hex hk1
        replace h10 := Lib.hid h10
        go_wp2_with fail
        refine ⟨⟨i + 1, f, P, by omega, by omega, by omega, rfl, rfl, ?_, hown.out, hB.out⟩, by simp [intOf]; omega⟩
        rw [← hPL.out, List.append_cancel_left_eq]
        congr 1
        rw [show i + 1 - f = (i - f) + 1 by omega, List.take_succ_eq_append_getElem (by rw [List.length_drop]; omega), List.getElem_drop]
        congr 2
        simp only [show f + (i - f) = i by omega]
    · obtain rfl : i = s.length := by omega
      have hex : S.extract f s.length = bS (s.drop f) := by
        rw [← hS'.out, extract_bS2, List.take_of_length_le (by rw [List.length_drop]; omega)]
      have hPL := hP.out
      rw [List.take_of_length_le (by rw [List.length_drop]; omega), List.drop_length] at hPL
      unfold cutGo at hPL
      obtain ⟨x, hx⟩ : ∃ x, s.drop f = x := ⟨_, rfl⟩
      rw [hx] at hPL hex
      replace hPL := Lib.hid hPL
      clear hP hx
      go_wp2_with (first | (at_builtin; refine wpl_append_txt rfl _ _ _ rfl (by kernel_rfl) w.heap.size _ P P.length rfl (hown.out.alloc _) rfl (by omega) (by have := hB.out.size; simp only [World.size_alloc]; omega) wr.heap.size x rfl (by go_simp) ?_; intro v' w4 hown' _ hbel _; obtain ⟨av, cv, rfl⟩ := own_slB hown'; replace hown' := Lib.hid hown'; have hB4 := Lib.hid (hbel w (balloc hB.out _)); clear hbel) | fail)
      go_ret
      have hown2 := hown'.out
      rw [hPL.out] at hown2
      have hln : P.length + 1 = L.length := by rw [← hPL.out]; simp
      obtain ⟨b, cap, hv, h1, h2, h3⟩ := own_txt hown2 hln (by omega)
      refine ⟨⟨b, cap, congrArg Ending.returned hv, h1, h2, h3⟩, hB4.out⟩
end Go.Proofs.YtjjmelhhalomaaaGreatDoor
