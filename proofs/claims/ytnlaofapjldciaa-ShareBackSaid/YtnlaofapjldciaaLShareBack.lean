/- The law ShareBack, walked. -/
import Derived.Test.YtnlaofapjldciaaSm
import Derived.Laws.Entries
namespace Go.Proofs.Ytnlaofapjldciaa
open Go.RowKit
set_option maxRecDepth 100000
set_option linter.unusedVariables false
set_option linter.unusedSimpArgs false
theorem below_up {w4 w w' : World} (h : Below w4.heap.size w4 w) (hb : Below (w4.heap.size + 1) w w') : Below w4.heap.size w4 w' := h.trans (hb.mono (Nat.le_succ _))
/-- The places of those picked, and one more. -/
def moreX (l : List Int) (ps : List Nat) : List Int := (pickL l ps).map (fun s => s.1) ++ [1000]
theorem moreX_len (l : List Int) (ps : List Nat) : (moreX l ps).length = ps.length + 1 := by unfold moreX; simp [pickL_len]
theorem moreX_lo (l : List Int) (ps : List Nat) (i : Nat) (h : i < (moreX l ps).length) (h2 : i < ps.length) : (moreX l ps)[i] = ((ps[i] + 1 : Nat) : Int) := by
  simp only [moreX]
  rw [List.getElem_append_left (by rw [List.length_map, pickL_len]; exact h2), List.getElem_map, pickL_get]
theorem moreX_hi (l : List Int) (ps : List Nat) (i : Nat) (h : i < (moreX l ps).length) (h2 : ¬ i < ps.length) : (moreX l ps)[i] = 1000 := by
  simp only [moreX]
  rw [List.getElem_append_right (by rw [List.length_map, pickL_len]; omega), List.getElem_singleton]
theorem moreX_ok {l : List Int} {ps : List Nat} {n : Nat} (hn : n ≤ 12) (hp : ∀ p ∈ ps, p < n) (i : Nat) (h : i < (moreX l ps).length) : 1 ≤ (moreX l ps)[i] ∧ (moreX l ps)[i] < 1013 := by
  by_cases h2 : i < ps.length
  · rw [moreX_lo l ps i h h2]
    have := hp _ (List.getElem_mem h2)
    omega
  · rw [moreX_hi l ps i h h2]; omega
theorem moreX_ne {l : List Int} {ps : List Nat} {n : Nat} (hn : n ≤ 12) (hp : ∀ p ∈ ps, p < n) (hd : ps.Nodup) (i j : Nat) (hi : i < (moreX l ps).length) (hj : j < (moreX l ps).length) (hij : i < j) : (moreX l ps)[i] ≠ (moreX l ps)[j] := by
  have hlen := moreX_len l ps
  have h1 : i < ps.length := by omega
  rw [moreX_lo l ps i hi h1]
  have := hp _ (List.getElem_mem h1)
  by_cases h2 : j < ps.length
  · rw [moreX_lo l ps j hj h2]
    have := List.pairwise_iff_getElem.mp hd i j h1 h2 hij
    omega
  · rw [moreX_hi l ps j hj h2]; omega
theorem moreP_len (l : List Int) (ps : List Nat) (Y : Int) : (pickL l ps ++ [(1000, Y)]).length = ps.length + 1 := by simp [pickL_len]
theorem moreP_ok {l : List Int} {ps : List Nat} {n : Nat} (hn : n ≤ 12) (hp : ∀ p ∈ ps, p < n) {Y : Int} (y0 : 0 ≤ Y) (y1 : Y < 1013) (i : Nat) (h : i < (pickL l ps ++ [(1000, Y)]).length) :
    1 ≤ (pickL l ps ++ [(1000, Y)])[i].1 ∧ (pickL l ps ++ [(1000, Y)])[i].1 < 1013 ∧ 0 ≤ (pickL l ps ++ [(1000, Y)])[i].2 ∧ (pickL l ps ++ [(1000, Y)])[i].2 < 1013 := by
  by_cases h2 : i < (pickL l ps).length
  · rw [List.getElem_append_left h2]; exact pickL_ok hn hp i h2
  · rw [List.getElem_append_right (by omega), List.getElem_singleton]; simp only; omega
theorem moreP_ne {l : List Int} {ps : List Nat} {n : Nat} (hn : n ≤ 12) (hp : ∀ p ∈ ps, p < n) (hd : ps.Nodup) {Y : Int} (i j : Nat) (hi : i < (pickL l ps ++ [(1000, Y)]).length) (hj : j < (pickL l ps ++ [(1000, Y)]).length) (hij : i < j) :
    (pickL l ps ++ [(1000, Y)])[i].1 ≠ (pickL l ps ++ [(1000, Y)])[j].1 := by
  have e : ∀ i (h : i < (pickL l ps ++ [(1000, Y)]).length), (pickL l ps ++ [(1000, Y)])[i].1 = (moreX l ps)[i]'(by rw [moreX_len]; rw [moreP_len] at h; exact h) := by
    intro i h
    have h' : i < ps.length + 1 := by rw [moreP_len] at h; exact h
    by_cases h2 : i < (pickL l ps).length
    · rw [List.getElem_append_left h2, pickL_get, moreX_lo l ps i (by rw [moreX_len]; exact h') (by rw [pickL_len] at h2; exact h2)]
    · rw [List.getElem_append_right (by omega), List.getElem_singleton, moreX_hi l ps i (by rw [moreX_len]; exact h') (by rw [pickL_len] at h2; exact h2)]
  rw [e i hi, e j hj]
  exact moreX_ne hn hp hd i j _ _ hij
set_option maxHeartbeats 16000000 in
theorem bk_all (l pk : List Int) (v1 v2 : Value) (n other : Int) (w : World) (hpk : ∀ x ∈ pk, -9223372036854775808 ≤ x ∧ x ≤ 9223372036854775807) (h1 : IntSl w v1 l) (h2 : IntSl w v2 pk) (m1 : l.length ≤ 9223372036854775807) (m2 : pk.length ≤ 9223372036854775807) (o0 : -9223372036854775808 ≤ other) (o1 : other ≤ 9223372036854775807) :
    Calls Try.prog 4 #[v1, .int .i64 n, v2, .int .i64 other] w fun e w' => e = .returned (.bool true) ∧ Below w.heap.size w w' := by
  have hA := Lib.hid (split_is l v1 n m1)
  obtain ⟨a1, c1, rfl, i1⟩ := id h1
  obtain ⟨a2, c2, rfl, i2⟩ := h2
  replace h1 := Lib.hid h1
  replace i1 := Lib.hid i1
  replace i2 := Lib.hid i2
  replace hpk := Lib.hid hpk
  go_enter Try.func4, Try.ntmps4
  go_wp2_with fail
  refine (sb_split w).mono ?_; rintro e w1 ⟨b0, f0, k0, rfl, hs0, hy0, hl0, hb⟩
  obtain ⟨hc1, hf1⟩ := bcell hb
  have z1 := hb.size
  try simp only [World.size_alloc, World.size_setCell, World.size_drew] at z1
  have s1_0 : w.heap.size < w1.heap.size := by omega
  have hB1 : Below w.heap.size w w1 := below_seq (by repeat (first | exact Below.refl _ _ | refine balloc ?_ _ | refine Below.drew ?_ | refine below_drewN ?_ _ | refine below_set ?_ (by first | omega | (dsimp only; omega)) _)) hb
  clear hb
  go_wp2_with fail
  refine (sb_comb b0 f0 k0 _ hs0).mono ?_; rintro e w2 ⟨rfl, hb⟩
  obtain ⟨hc2, hf2⟩ := bcell hb
  have z2 := hb.size
  try simp only [World.size_alloc, World.size_setCell, World.size_drew] at z2
  have s2_0 : w.heap.size < w2.heap.size := by omega
  have hB2 : Below w.heap.size w w2 := below_seq (by repeat (first | exact hB1 | exact Below.refl _ _ | refine balloc ?_ _ | refine Below.drew ?_ | refine below_drewN ?_ _ | refine below_set ?_ (by first | omega | (dsimp only; omega)) _)) hb
  clear hb
  replace hy0 := (hc2 _ _ hl0).trans hy0
  replace hl0 : b0 < w2.heap.size := Nat.lt_of_lt_of_le hl0 z2
  clear hs0
  rcases hA.out with ⟨E, hE, hS⟩ | ⟨m, rfl, p1, p2, l1, l2, hok, hS⟩
  · replace hS := Lib.hid hS
    go_wp2_with fail
    refine (hS.out _ (h1.out.below (by repeat (first | exact hB2 | exact Below.refl _ _ | refine balloc ?_ _ | refine Below.drew ?_ | refine below_drewN ?_ _ | refine below_set ?_ (by first | omega | (dsimp only; omega)) _)))).mono ?_; rintro e w3 ⟨rfl, hb⟩
    obtain ⟨hc3, hf3⟩ := bcell hb
    have z3 := hb.size
    try simp only [World.size_alloc, World.size_setCell, World.size_drew] at z3
    have s3_0 : w.heap.size < w3.heap.size := by omega
    have hB3 : Below w.heap.size w w3 := below_seq (by repeat (first | exact hB2 | exact Below.refl _ _ | refine balloc ?_ _ | refine Below.drew ?_ | refine below_drewN ?_ _ | refine below_set ?_ (by first | omega | (dsimp only; omega)) _)) hb
    clear hb
    go_wp2
    go_ret
    exact ⟨rfl, (by repeat (first | exact hB3 | exact Below.refl _ _ | refine balloc ?_ _ | refine Below.drew ?_ | refine below_drewN ?_ _ | refine below_set ?_ (by first | omega | (dsimp only; omega)) _))⟩
  replace hS := Lib.hid hS
  go_wp2_with fail
  refine (hS.out _ (h1.out.below (by repeat (first | exact hB2 | exact Below.refl _ _ | refine balloc ?_ _ | refine Below.drew ?_ | refine below_drewN ?_ _ | refine below_set ?_ (by first | omega | (dsimp only; omega)) _)))).mono ?_; rintro e w3 ⟨vx, rfl, hx, hb⟩
  have hB3 := Lib.hid (below_seq (by repeat (first | exact hB2 | exact Below.refl _ _ | refine balloc ?_ _ | refine Below.drew ?_ | refine below_drewN ?_ _ | refine below_set ?_ (by first | omega | (dsimp only; omega)) _)) hb)
  have e1 := Lib.hid (fun w' (hb' : Below w3.heap.size w3 w') hp => by obtain ⟨b, off, e, hs⟩ := i1.out hp; exact (⟨b, off, e, (hs.below hB3.out).below hb'⟩ : ∃ b off, a1 = some ⟨b, off, none⟩ ∧ IntsAt w' b off l))
  have e2 := Lib.hid (fun w' (hb' : Below w3.heap.size w3 w') hp => by obtain ⟨b, off, e, hs⟩ := i2.out hp; exact (⟨b, off, e, (hs.below hB3.out).below hb'⟩ : ∃ b off, a2 = some ⟨b, off, none⟩ ∧ IntsAt w' b off pk))
  obtain ⟨ax, kx, rfl, hx4⟩ := hx
  rw [splitL_len] at hx4 ⊢
  obtain ⟨bx, ox, rfl, hx5⟩ := hx4 (by omega)
  replace hx5 := Lib.hid hx5
  clear hx4 hb hc2 hf2 hB2 hc1 hf1 hy0 hl0 hS h1 i1 i2 hA hB1
  have g1 : decide (l.length < 1) = false := by rw [decide_eq_false_iff_not]; omega
  have hga := Lib.hid (splitL_get l m)
  have hal := splitL_len l m
  replace hok := Lib.hid hok
  go_wp2
  have hI0 := Lib.hid (IsAt.fresh w3 13 #[.bool false, .bool false, .bool false, .bool false, .bool false, .bool false, .bool false, .bool false, .bool false, .bool false, .bool false, .bool false, .bool false] 36 rfl)
  have hB4 := Lib.hid (below_alloc w3 (.cells #[.bool false, .bool false, .bool false, .bool false, .bool false, .bool false, .bool false, .bool false, .bool false, .bool false, .bool false, .bool false, .bool false] 36))
  generalize w3.alloc (.cells #[.bool false, .bool false, .bool false, .bool false, .bool false, .bool false, .bool false, .bool false, .bool false, .bool false, .bool false, .bool false, .bool false] 36) = w4 at *
  go_loopw [15, 17] (fun o i wr => ∃ (k : Nat) (u : Value) (ps : List Nat), k ≤ pk.length ∧ i = .int .i64 k ∧ u = o ∧ ps.Nodup ∧ (∀ p ∈ ps, p < m) ∧ IsAt wr w3.heap.size 13 ps ∧ wr.ownsRow (w3.heap.size + 1) 31 2 u ps.length (shCells (pickL l ps)) ∧ Below w3.heap.size w3 wr) (fun _ i _ => pk.length - (intOf i).toNat)
  case atStart => exact ⟨0, _, [], Nat.zero_le _, rfl, rfl, List.nodup_nil, fun p hp => absurd hp List.not_mem_nil, hI0.out, World.ownsRow_nil _ _ _ _, hB4.out⟩
  case round =>
    clear hI0 hB4
    obtain ⟨k, u, ps, hk, rfl, rfl, hnd, hps, hI, hown, hb⟩ := hrel
    replace hown := Lib.hid hown
    replace hb := Lib.hid hb
    replace hnd := Lib.hid hnd
    replace hps := Lib.hid hps
    replace hI := Lib.hid hI
    by_cases hlt : k < pk.length
    · obtain ⟨b2, f2, rfl, l2'⟩ := e2.out wr hb.out (by omega)
      have k1 := l2'.c k hlt
      have k2 := l2'.lt
      have hbd := hpk.out pk[k] (List.getElem_mem hlt)
      clear l2'
      generalize pk[k] = p at *
      by_cases p0 : p < 0
      · go_wp2
        go_roundw
        case rel => exact ⟨k + 1, _, ps, by omega, by go_num, rfl, hnd.out, hps.out, hI.out, hown.out, hb.out⟩
        case measure => simp [intOf]; omega
      obtain ⟨q, rfl⟩ : ∃ q : Nat, p = (q : Int) := ⟨p.toNat, by omega⟩
      by_cases p3 : (m : Int) ≤ (q : Int)
      · go_wp2
        go_roundw
        case rel => exact ⟨k + 1, _, ps, by omega, by go_num, rfl, hnd.out, hps.out, hI.out, hown.out, hb.out⟩
        case measure => simp [intOf]; omega
      have hq : q < m := by omega
      have hq13 : q < 13 := by omega
      have j1 := hI.out.c q (by omega)
      have j2 := hI.out.f q (by omega)
      have j3 := hI.out.lt
      by_cases p4 : q ∈ ps
      · rw [decide_eq_true p4] at j1
        replace p4 := Lib.hid p4
        go_wp2
        go_roundw
        case rel => exact ⟨k + 1, _, ps, by omega, by go_num, rfl, hnd.out, hps.out, hI.out, hown.out, hb.out⟩
        case measure => simp [intOf]; omega
      · rw [decide_eq_false p4] at j1
        have hxr := hx5.out.below hb.out
        have x1 := hxr.cx q (by omega)
        have x2 := hxr.cy q (by omega)
        have x3 : bx < w3.heap.size := hx5.out.lt
        rw [hga.out q (by omega)] at x1 x2
        simp only at x1 x2
        have hsn := Lib.hid (pickL_snoc l ps q)
        have hne : ¬ w3.heap.size = bx := by omega
        have hne2 : ¬ bx = w3.heap.size := by omega
        have hb2 : b2 < w3.heap.size := by
          obtain ⟨b2', f2', e', l2'⟩ := e2.out w3 (Below.refl _ _) (by omega)
          cases e'
          exact l2'.lt
        have hlw := hb.out.size
        have htl := Lib.hid (pickL_len l ps)
        have hnd2 : Hid ((ps ++ [q]).Nodup) := Lib.hid (by rw [List.nodup_append]; exact ⟨hnd.out, by simp, fun a ha b hb' => by simp at hb'; subst hb'; exact fun e => p4 (e ▸ ha)⟩)
        have hps2 : Hid (∀ p ∈ ps ++ [q], p < m) := Lib.hid (fun p hp => by rcases List.mem_append.mp hp with h | h; exact hps.out p h; simp at h; subst h; exact hq)
        have hI2 := Lib.hid (hI.out.put q hq13)
        have ow1 := Lib.hid (ownsRow_setCell_below hown.out (a := ⟨w3.heap.size, q, none⟩) (Nat.lt_succ_self _) (.bool true))
        have hB5 := Lib.hid (below_set (p := ⟨w3.heap.size, q, none⟩) hb.out (Nat.le_refl _) (.bool true))
        have htn : Hid (ps.length ≤ m) := Lib.hid (nodup_lt m ps hnd.out hps.out)
        clear hown hb hI hxr hnd hps
        replace p4 := Lib.hid p4
        generalize hN : ((q + 1 : Nat) : Int) = N at *
        generalize hV : val N l = V at *
        clear hN hV
        go_wp2_with (first | (at_builtin; refine wpl_append_share rfl _ _ _ rfl (by kernel_rfl) (w3.heap.size + 1) _ (pickL l ps) ps.length rfl (ow1.out.alloc _) htl.out (by have := htn.out; omega) (by simp only [World.size_alloc, World.size_setCell]; omega) _ (N, V) rfl (by go_simp) (by go_simp) ?_; intro v' w5 hown' hgrow hbel hloc; replace hown' := Lib.hid hown'; replace hI2 := Lib.hid ((hI2.out.below (below_alloc _ _) hI2.out.lt).below (hbel _ (Below.refl _ _)) (Nat.lt_succ_self _)); replace hbel := Lib.hid (below_up (balloc hB5.out _) (hbel _ (Below.refl _ _))); clear hgrow hloc) | fail)
        go_wp2
        go_roundw
        case rel => exact ⟨k + 1, _, ps ++ [q], by omega, by go_num, rfl, hnd2.out, hps2.out, hI2.out, by rw [List.length_append, hsn.out]; exact hown'.out, hbel.out⟩
        case measure => simp [intOf]; omega
    · obtain rfl : k = pk.length := by omega
      obtain ⟨wA, rfl⟩ : ∃ x : World, x = wr := ⟨_, rfl⟩
      have hIl := hI.out.lt
      clear hI
      have htl := pickL_len l ps
      have htn := nodup_lt m ps hnd.out hps.out
      have hSh := Lib.hid (own_shares hown.out htl.symm)
      obtain ⟨au, cu, rfl⟩ := own_sl hown.out
      obtain ⟨b1, f1, rfl, l1'⟩ := e1.out wA hb.out (by omega)
      have t1 := l1'.c 0 (by omega)
      have t2 := l1'.lt
      rw [Nat.add_zero] at t1
      have hBr := Lib.hid (below_seq hB3.out hb.out)
      clear l1' e1 e2 hpk hx5 hga
      by_cases r1 : l.length ≤ ps.length
      · have hT := pickL_tells p2 hps.out hnd.out l1 hok.out r1
        have hcomb := combine_ok (pickL l ps) _ wA (by omega) (by omega) (pickL_ok p2 hps.out) (pickL_ne hnd.out) hSh.out
        rw [hT] at hcomb
        replace hcomb := Lib.hid hcomb
        clear hT hSh
        have hdd : decide (l.length ≤ ps.length) = true := decide_eq_true r1
        generalize l[0] = L0 at *
        go_wp2_with fail
        refine hcomb.out.mono ?_; rintro e w5 ⟨rfl, hb5⟩
        have t3 := ((bcell hb5).1 _ _ t2).trans t1
        have t4 := Nat.lt_of_lt_of_le t2 hb5.size
        clear t1 t2
        go_wp2
        go_ret
        exact ⟨rfl, below_seq hBr.out hb5⟩
      have hdd : decide (l.length ≤ ps.length) = false := decide_eq_false r1
      have hw1 : IntKind.i64.wrap ((l.length : Int) - 1) = (l.length : Int) - 1 := IntWalk.i64_in _ (by omega)
      by_cases r2 : ps.length + 1 ≠ l.length
      · have g5 : ((ps.length : Int) != (l.length : Int) - 1) = true := by rw [bne_iff_ne]; omega
        go_wp2
        go_ret
        exact ⟨rfl, hBr.out⟩
      have g5 : ((ps.length : Int) != (l.length : Int) - 1) = false := by rw [bne_eq_false_iff_eq]; omega
      by_cases r3 : other < 0
      · go_wp2
        go_ret
        exact ⟨rfl, hBr.out⟩
      by_cases r4 : 1013 ≤ other
      · go_wp2
        go_ret
        exact ⟨rfl, hBr.out⟩
      have r2' : ps.length + 1 = l.length := by omega
      obtain ⟨r3', r4'⟩ : 0 ≤ other ∧ other < 1013 := ⟨by omega, by omega⟩
      have hsu : Hid (0 < ps.length → ∃ b off, au = some ⟨b, off, none⟩ ∧ ShsAt wA b off (pickL l ps)) := Lib.hid (fun h0 => by
        obtain ⟨a', c', e, h'⟩ := hSh.out
        have e2 : au = a' := by injection e
        obtain ⟨b, off, e3, h3⟩ := h' (by omega)
        exact ⟨b, off, e2.trans e3, h3⟩)
      have hXl := moreX_len l ps
      have hwl := wgts_len (moreX l ps)
      rw [hXl] at hwl
      have hend : Hid ((moreX l ps).take ps.length ++ [1000] = moreX l ps) := Lib.hid (by
        have := take_snoc3 (moreX l ps) ps.length (by omega)
        rw [moreX_hi l ps ps.length (by omega) (by omega), show ps.length + 1 = (moreX l ps).length by omega, List.take_length] at this
        exact this.symm)
      have hW := Lib.hid (fun v w h hv => weights_ok (moreX l ps) v w (by omega) (by omega) (moreX_ok p2 hps.out) (moreX_ne p2 hps.out hnd.out) h hv)
      have hC := Lib.hid (fun Y y0 y1 v w h => combine_ok (pickL l ps ++ [(1000, Y)]) v w (by rw [moreP_len]; omega) (by rw [moreP_len]; omega) (moreP_ok p2 hps.out (Y := Y) y0 y1) (moreP_ne p2 hps.out hnd.out (Y := Y)) h)
      have hlast := wgts_get (moreX l ps) ps.length (by omega)
      have hpos := wpre_pos (moreX l ps) (moreX_ok p2 hps.out) (moreX_ne p2 hps.out hnd.out) ps.length (by omega)
      rw [← hlast] at hpos
      obtain ⟨W, hWd⟩ : ∃ W : Nat → Int, ∀ k (h : k < (wgts (moreX l ps)).length), W k = (wgts (moreX l ps))[k] := ⟨fun k => (wgts (moreX l ps)).getD k 0, fun k h => gD h⟩
      obtain ⟨X, hXd⟩ : ∃ X : Nat → Int, ∀ k (h : k < (pickL l ps).length), X k = (pickL l ps)[k].1 := ⟨fun k => ((pickL l ps).map (fun s => s.1)).getD k 0, fun k h => (gD (l := (pickL l ps).map (fun s => s.1)) (by rw [List.length_map]; exact h)).trans (List.getElem_map ..)⟩
      obtain ⟨V, hVd⟩ : ∃ V : Nat → Int, ∀ k (h : k < (pickL l ps).length), V k = (pickL l ps)[k].2 := ⟨fun k => ((pickL l ps).map (fun s => s.2)).getD k 0, fun k h => (gD (l := (pickL l ps).map (fun s => s.2)) (by rw [List.length_map]; exact h)).trans (List.getElem_map ..)⟩
      obtain ⟨us, husd⟩ : ∃ us : Nat → Int, usum (wgts (moreX l ps)) ((pickL l ps).map (fun s => s.2)) = us := ⟨_, rfl⟩
      rw [← hWd ps.length (by omega)] at hpos hlast
      have hWb := Lib.hid (fun k (h : k < ps.length + 1) => (show 0 ≤ W k ∧ W k < 1013 by rw [hWd k (by omega)]; exact wgts_bd (moreX l ps) k (by omega)))
      have hVb := Lib.hid (fun k (h : k < ps.length) => (show 0 ≤ V k ∧ V k < 1013 by rw [hVd k (by omega)]; have := pickL_ok (l := l) p2 hps.out k (by omega); exact ⟨this.2.2.1, this.2.2.2⟩))
      have hmk := Lib.hid (fun k (h : k < ps.length) => (show (moreX l ps).take (k + 1) = (moreX l ps).take k ++ [X k] by rw [take_snoc3 (moreX l ps) k (by omega), moreX_lo l ps k (by omega) h, hXd k (by omega), pickL_get]))
      have hpc := Lib.hid (fun (w : World) b off (hs : ShsAt w b off (pickL l ps)) k (h : k < ps.length) => (⟨by rw [hs.cx k (by omega), hXd k (by omega)], by rw [hs.cy k (by omega), hVd k (by omega)]⟩ : w.cell? ⟨b, off + k * 2, none⟩ = some (.int .i64 (X k)) ∧ w.cell? ⟨b, off + k * 2 + 1, none⟩ = some (.int .i64 (V k))))
      have hwc := Lib.hid (fun (w : World) b off (hs : IntsAt w b off (wgts (moreX l ps))) k (h : k < ps.length + 1) => (show w.cell? ⟨b, off + k, none⟩ = some (.int .i64 (W k)) by rw [hs.c k (by omega), hWd k (by omega)]))
      have hmore := Lib.hid (fun t (ht : t * W ps.length % 1013 = 1) Y (hy : ((other - us ps.length) % 1013 * t) % 1013 = Y) => by
        have := comb_more (pickL l ps) 1000 Y t (W ps.length) other (by rw [hlast, hXl, htl]; rfl) ht r3' r4' (by rw [htl]; rw [← husd] at hy; exact hy)
        exact this)
      have hus := Lib.hid (fun k (h : k < ps.length) => (show us (k + 1) = us k + W k * V k by
        rw [← husd, usum, gD (show k < (wgts (moreX l ps)).length by omega), gD (show k < ((pickL l ps).map (fun s => s.2)).length by rw [List.length_map]; omega), List.getElem_map, hWd k (by omega), hVd k (by omega)]))
      have hu0 : Hid (us 0 = 0) := Lib.hid (by rw [← husd]; rfl)
      have hsb := Lib.hid (fun k (h : k ≤ ps.length) => (show 0 ≤ us k ∧ us k ≤ k * 1024144 by
        rw [← husd]
        exact usum_bd (wgts (moreX l ps)) ((pickL l ps).map (fun s => s.2)) (wgts_bd (moreX l ps)) (fun i h => by rw [List.getElem_map]; have := pickL_ok (l := l) p2 hps.out i (by rw [List.length_map] at h; exact h); exact ⟨this.2.2.1, this.2.2.2⟩) k (by omega) (by rw [List.length_map]; omega)))
      have hsnc := Lib.hid (fun Y => (show pickL l ps ++ [((1000 : Int), (Y : Int))] = pickL l ps ++ [(1000, Y)] from rfl))
      replace hpos := Lib.hid hpos
      clear husd hWd hXd hVd hlast hSh hok
      have q12 : ps.length ≤ 11 := by omega
      replace hXl := Lib.hid hXl
      replace hwl := Lib.hid hwl
      replace r2' := Lib.hid r2'
      replace htl := Lib.hid htl
      replace r2 := Lib.hid r2
      replace htn := Lib.hid htn
      go_wp2
      go_loopw [20, 21] (fun o i wq => ∃ (k : Nat) (v : Value), k ≤ ps.length ∧ i = .int .i64 k ∧ v = o ∧ wq.ownsRow wA.heap.size 3 1 v k (((moreX l ps).take k).map (Value.int .i64)) ∧ Below wA.heap.size wA wq) (fun _ i _ => ps.length - (intOf i).toNat)
      case atStart => exact ⟨0, _, Nat.zero_le _, rfl, rfl, World.ownsRow_made wA #[] 0 (Nat.le_refl _) (Nat.zero_le _) rfl, below_alloc _ _⟩
      case round =>
        obtain ⟨k, v, hk, rfl, rfl, hov, hbq⟩ := hrel
        replace hov := Lib.hid hov
        replace hbq := Lib.hid hbq
        by_cases hlt : k < ps.length
        · obtain ⟨bu, ou, rfl, hsu1⟩ := hsu.out (by omega)
          have hsu2 := hsu1.below hbq.out
          obtain ⟨x1, -⟩ := hpc.out _ _ _ hsu2 k hlt
          have x2 := hsu2.lt
          have hlq := hbq.out.size
          have htk := Lib.hid (show ((moreX l ps).take k).length = k by rw [List.length_take, hXl.out]; omega)
          have hm1 := hmk.out k hlt
          generalize X k = N at *
          generalize hT : (moreX l ps).take k = T at *
          replace hm1 := Lib.hid hm1
          clear hsu1 hsu2 hT
          go_wp2_with (first | (at_builtin; refine wpl_append_int rfl _ _ _ rfl (by kernel_rfl) wA.heap.size _ T k rfl (hov.out.alloc _) htk.out (by omega) (by simp only [World.size_alloc]; omega) _ N rfl (by go_simp) ?_; intro v' w5 hown' hgrow hbel hloc; replace hown' := Lib.hid hown'; replace hbel := Lib.hid (hbel wA (balloc hbq.out _)); clear hgrow hloc) | fail)
          go_wp2
          go_roundw
          case rel => exact ⟨k + 1, _, by omega, by go_num, rfl, by rw [hm1.out]; exact hown'.out, hbel.out⟩
          case measure => simp [intOf]; omega
        · obtain rfl : k = ps.length := by omega
          have htk := Lib.hid (show ((moreX l ps).take ps.length).length = ps.length by rw [List.length_take, hXl.out]; omega)
          generalize hT : (moreX l ps).take ps.length = T at *
          clear hT hmk
          have hlq := hbq.out.size
          go_wp2_with (first | (at_builtin; refine wpl_append_int rfl _ _ _ rfl (by kernel_rfl) wA.heap.size _ T ps.length rfl (hov.out.alloc _) htk.out (by omega) (by simp only [World.size_alloc]; omega) _ 1000 rfl (by go_simp) ?_; intro v' w5 hov' hgrow hbel hloc; replace hov' := Lib.hid hov'; replace hbel := Lib.hid (hbel wA (balloc hbq.out _)); clear hgrow hloc) | fail)
          have hov2 := hov'.out
          rw [hend.out] at hov2
          obtain ⟨av, cv, rfl⟩ := own_sl hov2
          have hcap := Lib.hid (own_cap hov2)
          have hIv := Lib.hid (own_ints hov2 hXl.out.symm)
          clear hov hov' hov2 hbq hlq htk hend
          refine (hW.out _ w5 hIv.out hcap.out).mono ?_; rintro e w6 ⟨vw, rfl, hiw, hb6⟩
          obtain ⟨aw, cw, rfl, hiw⟩ := hiw
          rw [hwl.out] at hiw ⊢
          obtain ⟨bw, ow, rfl, hiw'⟩ := hiw (by omega)
          have hiw2 := Lib.hid hiw'
          have hB6 := Lib.hid (below_seq hbel.out hb6)
          clear hiw hiw' hb6 hbel hIv hcap hW
          go_wp2
          go_loopw [24, 25] (fun s i wq => ∃ k : Nat, k ≤ ps.length ∧ i = .int .i64 k ∧ s = .int .i64 (us k) ∧ Below w6.heap.size w6 wq) (fun _ i _ => ps.length - (intOf i).toNat)
          case atStart => exact ⟨0, Nat.zero_le _, rfl, by rw [hu0.out], Below.refl _ _⟩
          case round =>
            obtain ⟨k, hk, rfl, rfl, hbq2⟩ := hrel
            replace hbq2 := Lib.hid hbq2
            have hBw := Lib.hid (below_seq hB6.out hbq2.out)
            have hiw3 := hiw2.out.below hbq2.out
            have x4 := hiw3.lt
            obtain ⟨q0, q1⟩ := hsb.out k hk
            have x3 := hwc.out _ _ _ hiw3 k (by omega)
            obtain ⟨b1', b2'⟩ := hWb.out k (by omega)
            clear hiw3
            by_cases hlt2 : k < ps.length
            · obtain ⟨bu, ou, rfl, hsu1⟩ := hsu.out (by omega)
              have hsu2 := hsu1.below hBw.out
              obtain ⟨-, x1⟩ := hpc.out _ _ _ hsu2 k hlt2
              have x2 := hsu2.lt
              obtain ⟨b3', b4'⟩ := hVb.out k hlt2
              have hst := hus.out k hlt2
              obtain ⟨r0, r1'⟩ := mul_bq b1' b2' b3' b4'
              generalize W k = c at *
              generalize V k = y at *
              generalize us k = q at *
              have f1 : IntKind.i64.wrap (c * y) = c * y := IntWalk.i64_in _ (by omega)
              have f2 : IntKind.i64.wrap (q + c * y) = q + c * y := IntWalk.i64_in _ (by omega)
              replace hst := Lib.hid hst
              clear hsu1 hsu2
              go_wp2_with fail
              go_quiet (fail)
              go_wp2
              go_roundw
              case rel => exact ⟨k + 1, by omega, by go_num, by rw [hst.out], (by repeat (first | exact hbq2.out | refine balloc ?_ _ | refine below_drewN ?_ _ | refine Below.drew ?_))⟩
              case measure => simp [intOf]; omega
            · obtain rfl : k = ps.length := by omega
              have hp1 := hpos.out
              have hown2 := Lib.hid (own_below hown.out hBw.out)
              have hBt := Lib.hid (below_seq hBr.out hBw.out)
              have hsz := hBw.out.size
              have hsz3 := hB3.out.size
              have hL1 : IntKind.i64.wrap ((ps.length : Int) + 1 - 1) = (ps.length : Int) := by rw [show (ps.length : Int) + 1 - 1 = ps.length by omega]; exact IntWalk.i64_in _ (by omega)
              clear hown hBw hBr hB3 hbq2 hB6 hsu hpc hwc hWb hVb hus hsb hiw2 hpos
              generalize W ps.length = last at *
              generalize us ps.length = U at *
              have f1 : IntKind.i64.wrap (other - U) = other - U := IntWalk.i64_in _ (by omega)
              obtain ⟨A, hA2⟩ : ∃ A, (other - U) % 1013 = A := ⟨_, rfl⟩
              have hA0 : 0 ≤ A ∧ A < 1013 := by omega
              rw [hA2] at hmore
              replace hA2 := Lib.hid hA2
              go_wp2_with fail
              refine (refMod_e (other - U) 1013 A _ (by omega) (by omega) (by omega) (by omega) hA2).mono ?_; rintro e w' ⟨rfl, rfl⟩
              go_wp2_with fail
              refine (refTurnQ last _ hp1 b2').mono ?_; rintro e w' ⟨⟨t, rfl, t0, t3, ht⟩, rfl⟩
              obtain ⟨f3, f4⟩ := mul_bq hA0.1 hA0.2 t0 t3
              have f5 : IntKind.i64.wrap (A * t) = A * t := IntWalk.i64_in _ (by omega)
              obtain ⟨Y, hY⟩ : ∃ Y, (A * t) % 1013 = Y := ⟨_, rfl⟩
              have y0 : 0 ≤ Y := by omega
              have y1 : Y < 1013 := by omega
              have hfin := hmore.out t ht Y hY
              have hC1 := hC.out Y y0 y1
              rw [hfin] at hC1
              replace hC1 := Lib.hid hC1
              replace hY := Lib.hid hY
              clear hmore hC ht hfin hA2
              go_wp2_with fail
              refine (refMod_e (A * t) 1013 Y _ (by omega) (by omega) (by omega) (by omega) hY).mono ?_; rintro e w' ⟨rfl, rfl⟩
              go_wp2_with (first | (at_builtin; refine wpl_append_share rfl _ _ _ rfl (by kernel_rfl) (w3.heap.size + 1) _ (pickL l ps) ps.length rfl (hown2.out.alloc _) htl.out (by omega) (by simp only [World.size_alloc]; omega) _ (1000, Y) rfl (by go_simp) (by go_simp) ?_; intro v' w7 hown7 hgrow hbel hloc; replace hown7 := Lib.hid hown7; replace hbel := Lib.hid ((balloc hBt.out _).trans ((hbel _ (Below.refl _ _)).mono (by omega))); clear hgrow hloc) | fail)
              refine (hC1.out v' w7 (own_shares hown7.out (moreP_len l ps Y).symm)).mono ?_; rintro e w8 ⟨rfl, hb8⟩
              go_wp2
              go_ret
              exact ⟨rfl, below_seq hbel.out hb8⟩
theorem shareBack_law (v1 : Value) (n : Int) (hn : (Lit.int .i64 n).wf = true) (v2 : Value) (other : Int) (ho : (Lit.int .i64 other).wf = true) (w : World) (q1 : IntsV w v1) (q2 : IntsV w v2) :
    Calls Try.prog 4 #[v1, .int .i64 n, v2, .int .i64 other] w fun e w' => e = .returned (.bool true) ∧ Below w.heap.size w w' := by
  obtain ⟨a, h1, m1, -⟩ := q1.sl
  obtain ⟨b, h2, m2, hw⟩ := q2.sl
  exact bk_all a b v1 v2 n other w (fun x hx => wf64 (hw x hx)) h1 h2 m1 m2 (wf64 ho).1 (wf64 ho).2
end Go.Proofs.Ytnlaofapjldciaa
