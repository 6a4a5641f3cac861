/- Walks of slices.Clone and ring.Sign. -/
import Derived.Test.YtfnifdmnbccblaaDoorRi
import Derived.Test.YtfnifdmnbccblaaDoorGt
import Derived.Lib.SliceRun
import Derived.Laws.MakeOwn
import Derived.Laws.OwnMore
import Derived.Laws.Entries
import Derived.WalkKit
import Derived.Deep.AppendLies
import Derived.Test.YtfnifdmnbccblaaDoorSw
namespace Go.Proofs.YtfnifdmnbccblaaDoor
open Go.RowKit
set_option maxRecDepth 100000
set_option linter.unusedVariables false
set_option linter.unusedSimpArgs false
set_option maxHeartbeats 4000000 in
theorem clone_c (l : List Int) (b off cap : Nat) (w : World) (h1 : 1 ≤ l.length) (hl : l.length ≤ 1000000) (h : IntsAt w b off l) :
    Calls Tryd.prog 108 #[.slice (some ⟨b, off, none⟩) l.length cap] w fun e w' => ∃ v', e = .returned v' ∧ w'.ownsRow w.heap.size 3 1 v' l.length (l.map (Value.int .i64)) ∧ Below w.heap.size w w' := by
  obtain ⟨i0, hi, hz0, hz1, hz2⟩ := info_parts info_int
  have q22 : ∀ (w : World) (a : Option Addr) (n c n' c' : Nat), (binOp .eql 22 (.slice a n c) (.slice none n' c')).run Tryd.prog w = .ok (.bool a.isNone) w := fun w a n c n' c' => Lib.run_eql_slice_nil w _ _ a n c n' c' Tryd.underlying22
  have hA := Lib.hid h
  clear h
  go_enter Tryd.func108, Tryd.ntmps108
  go_wp2_with (at_builtin; refine wpList_append_own _ rfl _ _ 22 rfl w.heap.size 3 i0 (.int .i64 0) 1 8 (by kernel_rfl) hi hz0 hz1 hz2 rfl (by decide) _ _ _ rfl (World.ownsRow_made w #[] 0 (Nat.le_refl _) (Nat.zero_le _) rfl) ⟨b, off, none⟩ l.length cap (l.map (Value.int .i64)) rfl ?qc1 ?qc2 ?qc3 ?qc4 ?qc5 ?qc6 ?_)
  case qc1 => simp
  case qc2 =>
    intro j u hj
    have hjn : j < l.length := by
      have := (List.getElem?_eq_some_iff.1 hj).1
      simpa using this
    rw [add_none, ((bcell (below_alloc w _)).1 _ _ hA.out.lt), hA.out.c j hjn]
    simpa [hjn] using hj
  case qc3 => intro u hu; obtain ⟨x, _, rfl⟩ := List.mem_map.1 hu; rfl
  case qc4 => unfold maxLen; omega
  case qc5 => omega
  case qc6 => simp
  intro v' w1 hown hgrow hnil
  go_wp2
  go_ret
  refine ⟨v', rfl, by simpa using hown, ?_⟩
  exact (below_alloc w _).grown hgrow (by simp) (by intro k hk; simp [Value.ownBlock] at hk; omega)
/-- Numbers that lie in a block of one's own, place by place. -/
structure IntsF (w : World) (b n : Nat) (f : Nat → Int) : Prop where
  lt : b < w.heap.size
  c : ∀ j, j < n → w.cell? ⟨b, j, none⟩ = some (.int .i64 (f j))
  f : ∀ j, j < n → w.frozen? ⟨b, j, none⟩ = false
theorem IntsF.below {w w' : World} {b n B : Nat} {f : Nat → Int} (h : IntsF w b n f) (hb : Below B w w') (hB : b < B) : IntsF w' b n f :=
  ⟨Nat.lt_of_lt_of_le h.lt hb.size, fun j hj => (hb.cell (p := ⟨b, j, none⟩) hB).trans (h.c j hj), fun j hj => (hb.frozen (p := ⟨b, j, none⟩) hB).trans (h.f j hj)⟩
theorem IntsF.put {w : World} {b n : Nat} {f : Nat → Int} (h : IntsF w b n f) (p : Nat) (hp : p < n) (x : Int) : IntsF (w.setCell ⟨b, p, none⟩ (.int .i64 x)) b n (fun j => if j = p then x else f j) := by
  refine ⟨by simpa [World.setCell] using h.lt, fun j hj => ?_, fun j hj => by rw [World.frozen?_setCell]; exact h.f j hj⟩
  by_cases e : j = p
  · subst e
    rw [World.cell?_setCell_same _ _ _ (h.c j hj)]; simp
  · rw [World.cell?_setCell_other (h := fun k => e (by cases k; rfl)), h.c j hj]
    simp [e]
theorem IntsF.other {w : World} {b n b' o : Nat} {f : Nat → Int} (h : IntsF w b n f) (hne : b' ≠ b) (x : Value) : IntsF (w.setCell ⟨b', o, none⟩ x) b n f :=
  ⟨by simpa [World.setCell] using h.lt, fun j hj => (cell_else' x hne).trans (h.c j hj), fun j hj => by rw [World.frozen?_setCell]; exact h.f j hj⟩
where cell_else' {w : World} {b c o k : Nat} (x : Value) (h : c ≠ b) : (w.setCell ⟨c, o, none⟩ x).cell? ⟨b, k, none⟩ = w.cell? ⟨b, k, none⟩ := by rw [World.cell?_setCell_other (h := fun e => h (congrArg Addr.block e))]
theorem IntsF.made (w : World) (n : Nat) (t : TypeId) : IntsF (w.alloc (.cells (madeCells #[.int .i64 0] n) t)) w.heap.size n (fun _ => 0) := by
  refine ⟨by simp, fun j hj => ?_, fun j hj => by simp⟩
  rw [cell_of_row _ w.heap.size _ _ t (0, 0) (heap_alloc_new w _), ← Array.getElem?_toList, toList_madeCells_one]
  simp [hj]
theorem IntsF.of_row {w : World} {B g n cap : Nat} {l : List Int} (h : w.ownsRow B 3 1 (.slice (some ⟨g, 0, none⟩) n cap) n (l.map (Value.int .i64))) (hn : n = l.length) (h1 : 1 ≤ n) : IntsF w g n (fun j => l.getD j 0) := by
  subst hn
  refine ⟨(h.lt g rfl).2, fun j hj => ?_, fun j _ => h.frozenAt j⟩
  rw [h.cellAt j (by omega)]
  rw [List.getElem?_map, List.getElem?_eq_getElem hj, List.getD_eq_getElem?_getD, List.getElem?_eq_getElem hj]; rfl
/-- The challenges, one by one, from behind the place on. -/
def rD (L t : ByteArray) (us : List Int) (o : Nat → Int) (at' n : Nat) (k : Int) : Nat → Int
  | 0 => rAsk L t (sq (4 * k))
  | i + 1 => rNext L t (us.getD ((at' + (i + 1)) % n) 0) (rD L t us o at' n k i) (o ((at' + (i + 1)) % n))
theorem rD_bd {L t : ByteArray} {us : List Int} {o : Nat → Int} {at' n : Nat} {k : Int} : ∀ i, 0 ≤ rD L t us o at' n k i ∧ rD L t us o at' n k i < 1013
  | 0 => rAsk_bd _ _ _
  | i + 1 => rAsk_bd _ _ _
theorem turn_ne {a i k n : Nat} (h : k < i) (hi : i < n) : (a + i + 1) % n ≠ (a + k + 1) % n := fun e => by
  have h1 := Nat.sub_mod_eq_zero_of_mod_eq e
  rw [show a + i + 1 - (a + k + 1) = i - k by omega, Nat.mod_eq_of_lt (by omega)] at h1
  omega
theorem tmod_nat (a n : Nat) : (a : Int).tmod (n : Int) = ((a % n : Nat) : Int) := by
  rw [Int.tmod_eq_emod_of_nonneg (by omega)]; exact (Int.natCast_emod a n).symm
/-- What a ringed seal's block holds, all zero. -/
structure Z2 (w : World) (b : Nat) : Prop where
  c0 : w.cell? ⟨b, 0, none⟩ = some (.int .i64 0)
  c1 : w.cell? ⟨b, 1, none⟩ = some (.slice none 0 0)
  f0 : w.frozen? ⟨b, 0, none⟩ = false
  f1 : w.frozen? ⟨b, 1, none⟩ = false
  lt : b < w.heap.size
theorem Z2.below {w w' : World} {b B : Nat} (h : Z2 w b) (hb : Below B w w') (hB : b < B) : Z2 w' b :=
  ⟨(hb.cell (p := ⟨b, 0, none⟩) hB).trans h.c0, (hb.cell (p := ⟨b, 1, none⟩) hB).trans h.c1, (hb.frozen (p := ⟨b, 0, none⟩) hB).trans h.f0, (hb.frozen (p := ⟨b, 1, none⟩) hB).trans h.f1, Nat.lt_of_lt_of_le h.lt hb.size⟩
theorem Z2.fresh (w : World) (t : TypeId) : Z2 (w.alloc (.cells #[.int .i64 0, .slice none 0 0] t)) w.heap.size := ⟨by simp, by simp, by simp, by simp, by simp⟩
theorem set2b_cell {w : World} {b : Nat} {u v x y : Value} (h0 : w.cell? ⟨b, 0, none⟩ = some u) (h1 : w.cell? ⟨b, 1, none⟩ = some v) :
    ((w.setCell ⟨b, 0, none⟩ x).setCell ⟨b, 1, none⟩ y).cell? ⟨b, 0, none⟩ = some x ∧ ((w.setCell ⟨b, 0, none⟩ x).setCell ⟨b, 1, none⟩ y).cell? ⟨b, 1, none⟩ = some y := by
  have e1 : (w.setCell ⟨b, 0, none⟩ x).cell? ⟨b, 1, none⟩ = some v := by rw [World.cell?_setCell_other (h := fun k => by cases k)]; exact h1
  have e0 : (w.setCell ⟨b, 0, none⟩ x).cell? ⟨b, 0, none⟩ = some x := World.cell?_setCell_same _ _ _ h0
  exact ⟨by rw [World.cell?_setCell_other (h := fun k => by cases k)]; exact e0, World.cell?_setCell_same _ _ _ e1⟩
/-- What comes of a ringed seal that may be signed. -/
def RSg (L t : ByteArray) (us : List Int) (o : Nat → Int) (at' n : Nat) (k x : Int) (w : World) (e : Ending) (w' : World) : Prop :=
  ∃ (f : Nat → Int) (g cap : Nat), (∀ i, i < n → f ((at' + i + 1) % n) = rD L t us o at' n k i) ∧ e = .returned (.tuple #[.agg #[.int .i64 (f 0), .slice (some ⟨g, 0, none⟩) n cap], .nilIface]) ∧ IntsF w' g n (fun j => if j = at' then (k - f at' * x) % 1013 else o j) ∧ Below w.heap.size w w'
theorem mk_ints (n : Nat) (h : n ≤ 12) : ∀ w : World, (Instr.makeSlice 22 (.int .i64 (n : Int)) (.int .i64 (n : Int))).run Tryd.prog w = .ok (.slice (some ⟨w.heap.size, 0, none⟩) n n) (w.alloc (.cells (madeCells #[.int .i64 0] n) 3)) := by
  intro w
  obtain ⟨i0, hi, hz0, hz1, hz2⟩ := info_parts info_int
  have := run_makeSlice (P := Tryd.prog) w 22 3 i0 (.int .i64 0) Tryd.underlying22 hi hz0 .i64 .i64 n n (by omega) (Int.le_refl _) (by rw [hz1]; simp; omega) (by rw [hz2]; omega) (by omega)
  rw [hz1, Nat.mul_one] at this
  simpa [Value.cells] using this
set_option maxHeartbeats 16000000 in
theorem rsign_y (us : List Int) (l : List Sp) (ss : List Int) (vk vs : Value) (t : ByteArray) (at' n : Nat) (x k : Int) (L : ByteArray) (Kx Dk : Sp) (w : World) (hF : FarAt w) (h1 : at' < n) (h2 : n ≤ 12) (hn : l.length = n) (hl : Hid (l = us.map sq)) (hsl : ss.length = n) (hss : (ss.set at' 0).all okR = true) (ht : t.size ≤ 60)
    (x1 : 1 ≤ x) (x2 : x < 1013) (k1 : 1 ≤ k) (k2 : k < 1013) (hKx : Hid (sq (4 * x) = Kx)) (hat : Hid (∀ h : at' < l.length, l[at'] = Kx)) (hDk : Hid (sq (4 * k) = Dk))
    (hk : SpSl w vk l) (hv : IntSl w vs ss) (hL : Hid (lsB n l = L)) (o : Nat → Int) (ho' : Hid ((fun j => (ss.set at' 0).getD j 0) = o)) :
    Calls Tryd.prog 49 #[vk, .int .i64 at', .int .i64 x, .int .i64 k, vs, .string t] w fun e w' => RSg L t us o at' n k x w e w' := by
  have ho := ho'.out
  have hok : ∀ z ∈ l, Ok z := by rw [hl.out]; intro z hz; obtain ⟨u, -, rfl⟩ := List.mem_map.mp hz; exact sq_ok u
  have hul : us.length = n := by rw [← hn, hl.out, List.length_map]
  have hue : Hid (∀ i (h1 : i < l.length) (h2 : i < us.length), l[i] = sq us[i]) := Lib.hid (by
    intro i h1 h2
    have := hl.out
    subst this
    rw [List.getElem_map])
  have hR := Lib.hid (fun (w : World) hF hs => ready_e l vk t w hF (by omega) (by omega) hs hok ht)
  rw [hn] at hR
  rw [hL.out] at hR
  have hLz := lsB_size n l
  rw [hL.out] at hLz
  have hLs : L.size ≤ 100 := by omega
  have hol : (ss.set at' 0).length = n := by rw [List.length_set, hsl]
  have hCF := Lib.hid (fun (v : Value) (w : World) h => contF_r (ss.set at' 0) v w (by omega) h)
  rw [hss] at hCF
  obtain ⟨a1, c1, rfl, h3⟩ := hk
  obtain ⟨a2, c2, rfl, h4⟩ := hv
  obtain ⟨bk, ok, rfl, h5⟩ := h3 (by omega)
  obtain ⟨bs, os, rfl, h6⟩ := h4 (by omega)
  rw [hn] at hR
  rw [hn, hsl]
  clear h3 h4 hok hl hL hss hLz
  replace h5 := Lib.hid h5
  replace h6 := Lib.hid h6
  have hF' := Lib.hid hF
  have hs0 := Lib.hid (fun (w' : World) (hb : Below w.heap.size w w') => (⟨some ⟨bk, ok, none⟩, c1, by rw [hn], fun _ => ⟨bk, ok, rfl, h5.out.below hb⟩⟩ : SpSl w' (.slice (some ⟨bk, ok, none⟩) n c1) l))
  have g1 : ((n : Int) != (n : Int)) = false := by simp
  have g2 : decide ((at' : Int) < 0) = false := by rw [decide_eq_false_iff_not]; omega
  have g3 : decide ((n : Int) ≤ (at' : Int)) = false := by rw [decide_eq_false_iff_not]; omega
  have g4 : decide (n ≤ at') = false := by rw [decide_eq_false_iff_not]; omega
  go_enter Tryd.func49, Tryd.ntmps49
  go_wp2_with fail
  refine (hR.out (w.alloc (.cells #[.int .i64 0, .slice none 0 0] 76)) (hF.below (below_alloc _ _)) (hs0.out _ (below_alloc _ _))).mono ?_; rintro e w1 ⟨rfl, hb1⟩
  have hZ := Lib.hid ((Z2.fresh w 76).below hb1 (by simp))
  have hB1 := Lib.hid (below_seq (below_alloc w (.cells #[.int .i64 0, .slice none 0 0] 76)) hb1)
  have i5 := Lib.hid (h5.out.below hB1.out)
  have i6 := Lib.hid (h6.out.below hB1.out)
  have hF1 := Lib.hid (hF'.out.below hB1.out)
  clear hb1 hR h5 h6 hF
  go_wp2_with fail
  refine (secret_y x _ x1 x2).mono ?_; rintro e w' ⟨rfl, rfl⟩
  go_wp2_with fail
  refine (secret_y k _ k1 k2).mono ?_; rintro e w' ⟨rfl, rfl⟩
  have hCl := clone_c ss bs os c2 w1 (by omega) (by omega) i6.out
  rw [hsl] at hCl
  replace hCl := Lib.hid hCl
  go_wp2_with fail
  refine hCl.out.mono ?_; rintro e w2 ⟨vo, rfl, hown, hb2⟩
  obtain ⟨g, cap, rfl, hg1, hg2⟩ := hown.form (by omega)
  have hO := Lib.hid (IntsF.of_row hown hsl.symm (by omega))
  have hst := (hown.stored at' (.int .i64 0)).1
  rw [show (ss.map (Value.int .i64)).set at' (.int .i64 0) = (ss.set at' 0).map (Value.int .i64) by rw [List.map_set]] at hst
  have hO2 := Lib.hid (IntsF.of_row hst hol.symm (by omega))
  have hoi := Lib.hid (own_ints hst hol.symm)
  have hB2 := Lib.hid (below_set (p := ⟨g, at', none⟩) hb2 hg1 (.int .i64 0))
  have q1 := hO.out.c at' h1
  have q2 := hO.out.f at' h1
  clear hown hst hCl hO hb2
  rw [ho] at hO2
  have hgw : w.heap.size < g := Nat.lt_of_lt_of_le hZ.out.lt hg1
  have zw2 : w1.heap.size ≤ w2.heap.size := by omega
  go_wp2_with fail
  refine (hCF.out _ _ hoi.out).mono ?_; rintro e w' ⟨rfl, rfl⟩
  have hg3 : g < (w2.setCell ⟨g, at', none⟩ (.int .i64 0)).heap.size := hO2.out.lt
  generalize w2.setCell ⟨g, at', none⟩ (.int .i64 0) = w3 at *
  clear hoi hCF q1 q2 hg2 zw2 w2
  have hks := i5.out.below hB2.out
  have l1 := hks.cx at' (by omega)
  have l2 := hks.cy at' (by omega)
  have l3 := hks.cf at' (by omega)
  have l4 := hks.lt
  rw [hat.out (by omega)] at l1 l2 l3
  have hF3 := Lib.hid (hF1.out.below hB2.out)
  have hb0 : (0 : Int) ≤ (at' : Int) := by omega
  have hb1 : (at' : Int) < (n : Int) := by omega
  clear hks
  go_wp2_with fail
  refine wp_region_grow Tryd.mixed (by kernel_rfl) ?_
  repeat (quiet_step ((go_at_call 76; exact grow_of (by_e x Kx _ (hF3.out.below (Grew.h _)) hKx))))
  refine wpQuiet_nil ?_
  intro _ hw'
  obtain ⟨y, rfl⟩ := hw'
  have hB4 := Lib.hid (below_seq hB2.out y.h)
  have hO4 := Lib.hid (hO2.out.below y.h hg3)
  have hg4 : g < y.w.heap.size := hO4.out.lt
  clear l1 l2 l3 l4 hB2 hO2 hg3 hF3
  generalize hyw : y.w = w4 at *
  clear hyw y w3
  have hmk := mk_ints n h2
  obtain ⟨q1, hq1⟩ : ∃ q, (at' + 1) % n = q := ⟨_, rfl⟩
  have hq1n : q1 < n := by rw [← hq1]; exact Nat.mod_lt _ (by omega)
  have w1' : IntKind.i64.wrap ((at' : Int) + 1) = (at' : Int) + 1 := IntWalk.i64_in _ (by omega)
  have t1' : ((at' : Int) + 1).tmod (n : Int) = (q1 : Int) := by rw [← hq1]; exact tmod_nat (at' + 1) n
  have n0 : ((n : Int) == 0) = false := by rw [beq_eq_false_iff_ne]; omega
  have hnn : ¬ n = 0 := by omega
  have hnz : ¬ (n : Int) = 0 := by omega
  have hq1i0 : (0 : Int) ≤ (q1 : Int) := by omega
  have hq1i : (q1 : Int) < (n : Int) := by omega
  have oDk : Ok Dk := by rw [← hDk.out]; exact sq_ok _
  have hz1 := sBytes_size Dk
  have hbo := Lib.hid (fun (w : World) => bytesOf_c Dk w oDk)
  have hd0 : Hid (rAsk L t Dk = rD L t us o at' n k 0) := Lib.hid (by rw [rD, hDk.out])
  obtain ⟨d0, hd0e⟩ : ∃ d0, rAsk L t Dk = d0 := ⟨_, rfl⟩
  have hd0' : Hid (hnum (L ++ sBytes Dk ++ t).data.toList = d0) := Lib.hid hd0e
  rw [hd0e] at hd0
  generalize sBytes Dk = BD at *
  have m1 : ¬ (9223372036854775807 < L.size + BD.size) := by omega
  have m2 : ¬ (9223372036854775807 < L.size + BD.size + t.size) := by omega
  have m3 : Hid ((L ++ BD ++ t).size ≤ 9223372036854775807) := Lib.hid (by rw [ByteArray.size_append, ByteArray.size_append]; omega)
  replace hq1 := Lib.hid hq1
  clear oDk hd0e
  go_wp2_with fail
  have hC4 := Lib.hid (IntsF.made w4 n 3)
  have hB5 := Lib.hid (balloc hB4.out (.cells (madeCells #[.int .i64 0] n) 3))
  have hO5 := Lib.hid (hO4.out.below (below_alloc w4 (.cells (madeCells #[.int .i64 0] n) 3)) hg4)
  have hF5 := Lib.hid (hF1.out.below hB5.out)
  have hc5 := hC4.out.lt
  clear hB4 hO4
  generalize w4.alloc (.cells (madeCells #[.int .i64 0] n) 3) = w5 at *
  refine wp_region_grow_tail 14 Tryd.mixed (by kernel_rfl) ?_
  simp only [List.take_succ_cons, List.take_zero, List.drop_succ_cons, List.drop_zero]
  repeat (quiet_step (first | (go_at_call 76; exact grow_of (by_e k Dk _ (hF5.out.below (Grew.h _)) hDk)) | (go_at_call 111; exact grow_of (hbo.out _)) | (go_at_call 106; exact grow_of (hashNumber_n (L ++ BD ++ t) d0 _ m3.out hd0'))))
  refine wpQuiet_nil ?_
  intro _ hw'
  obtain ⟨y, rfl⟩ := hw'
  have hB6 := Lib.hid (below_seq hB5.out y.h)
  have hO6 := Lib.hid (hO5.out.below y.h (by omega))
  have hC6 := Lib.hid (hC4.out.below y.h hc5)
  have c6 := hC6.out.c q1 hq1n
  have f6 := hC6.out.f q1 hq1n
  have hc6 := hC6.out.lt
  clear hB5 hO5 hC4 hF5 hmk
  generalize hyw : y.w = w6 at *
  clear hyw y
  have hbc : w1.heap.size ≤ w4.heap.size := by omega
  have hB7 := Lib.hid (below_set (p := ⟨w4.heap.size, q1, none⟩) hB6.out hbc (.int .i64 d0))
  have hO7 := Lib.hid (hO6.out.other (b' := w4.heap.size) (o := q1) (by omega) (.int .i64 d0))
  have hC7 := Lib.hid (hC6.out.put q1 hq1n d0)
  clear hB6 hO6 hC6 m1 m2 hd0' hbo m3
  go_wp2
  clear c6 f6 hc6 hc5 w1' t1' hq1i0 hq1i
  generalize w6.setCell ⟨w4.heap.size, q1, none⟩ (.int .i64 d0) = w7 at *
  have hst0 : Hid (∀ j, j ≤ 0 → (if (at' + j + 1) % n = q1 then d0 else 0) = rD L t us o at' n k j) := Lib.hid (fun j hj => by
    obtain rfl : j = 0 := by omega
    rw [Nat.add_zero, if_pos hq1.out]; exact hd0.out)
  go_loopw [19] (fun v wr => ∃ (i : Nat) (f : Nat → Int), i + 1 ≤ n ∧ v = .int .i64 ((i : Int) + 1) ∧ (∀ j, j ≤ i → f ((at' + j + 1) % n) = rD L t us o at' n k j) ∧ IntsF wr w4.heap.size n f ∧ IntsF wr g n o ∧ Below w1.heap.size w1 wr) (fun v _ => n - (intOf v).toNat)
  case atStart => exact ⟨0, fun j => if j = q1 then d0 else 0, by omega, rfl, hst0.out, hC7.out, hO7.out, hB7.out⟩
  case round =>
    clear hC7 hO7 hB7
    obtain ⟨i, f, hi, rfl, hf, hC, hO, hB⟩ := hrel
    replace hf := Lib.hid hf
    replace hC := Lib.hid hC
    replace hO := Lib.hid hO
    replace hB := Lib.hid hB
    by_cases hlt : i + 1 < n
    · obtain ⟨q, hq⟩ : ∃ q, (at' + (i + 1)) % n = q := ⟨_, rfl⟩
      obtain ⟨r, hr⟩ : ∃ r, (at' + (i + 1) + 1) % n = r := ⟨_, rfl⟩
      have qn : q < n := by rw [← hq]; exact Nat.mod_lt _ (by omega)
      have rn : r < n := by rw [← hr]; exact Nat.mod_lt _ (by omega)
      have hqr : (q + 1) % n = r := by rw [← hq, ← hr, Nat.mod_add_mod]
      have w1' : IntKind.i64.wrap ((at' : Int) + ((i : Int) + 1)) = (at' : Int) + ((i : Int) + 1) := IntWalk.i64_in _ (by omega)
      have t1' : ((at' : Int) + ((i : Int) + 1)).tmod (n : Int) = (q : Int) := by rw [← hq]; exact tmod_nat (at' + (i + 1)) n
      have w2' : IntKind.i64.wrap ((q : Int) + 1) = (q : Int) + 1 := IntWalk.i64_in _ (by omega)
      have t2' : ((q : Int) + 1).tmod (n : Int) = (r : Int) := by rw [← hqr]; exact tmod_nat (q + 1) n
      have e1 : (0 : Int) ≤ (q : Int) := by omega
      have e2 : (q : Int) < (n : Int) := by omega
      have e3 : (0 : Int) ≤ (r : Int) := by omega
      have e4 : (r : Int) < (n : Int) := by omega
      have e5 : ((i : Int) + 1) < (n : Int) := by omega
      have hks := i5.out.below hB.out
      have l1 := hks.cx q (by omega)
      have l2 := hks.cy q (by omega)
      have l3 := hks.cf q (by omega)
      have l4 := hks.lt
      have hu := hue.out q (by omega) (by omega)
      have c1' := hC.out.c q qn
      have c2' := hC.out.lt
      have o1 := hO.out.c q qn
      have o2 := hO.out.lt
      have hfi : f q = rD L t us o at' n k i := by rw [← hq]; exact hf.out i (Nat.le_refl _)
      have hv : Hid (rNext L t us[q] (f q) (o q) = rD L t us o at' n k (i + 1)) := Lib.hid (by rw [rD, hq, getD_at (show q < us.length by omega), ← hfi])
      obtain ⟨v, hve⟩ : ∃ v, rD L t us o at' n k (i + 1) = v := ⟨_, rfl⟩
      rw [hve] at hv
      have hFr := Lib.hid (hF1.out.below hB.out)
      generalize (l[q]'(by omega)) = K at *
      generalize (us[q]'(by omega)) = u at *
      generalize f q = c at *
      generalize o q = s at *
      replace hu := Lib.hid hu
      replace hq := Lib.hid hq
      replace hr := Lib.hid hr
      replace hve := Lib.hid hve
      clear hks hfi hqr
      go_wp2_with fail
      refine wp_region_grow_tail 21 Tryd.mixed (by kernel_rfl) ?_
      simp only [List.take_succ_cons, List.take_zero, List.drop_succ_cons, List.drop_zero]
      repeat (quiet_step ((go_at_call 112; exact grow_of (next_e L t K u c s v _ (hFr.out.below (Grew.h _)) hLs ht hu hv))))
      refine wpQuiet_nil ?_
      intro _ hw'
      obtain ⟨y, rfl⟩ := hw'
      have hB8 := Lib.hid (below_seq hB.out y.h)
      have hO8 := Lib.hid (hO.out.below y.h o2)
      have hC8 := Lib.hid (hC.out.below y.h c2')
      clear l1 l2 l3 l4 c1' o1 hB hO hC hFr
      generalize hyw : y.w = w8 at *
      clear hyw y
      have c3 := hC8.out.c r rn
      have f3 := hC8.out.f r rn
      have c4 := hC8.out.lt
      go_wp2
      go_roundw
      case rel => exact ⟨i + 1, fun j => if j = r then v else f j, by omega, by go_num, fun j hj => (by
        show (if (at' + j + 1) % n = r then v else f ((at' + j + 1) % n)) = _
        by_cases e : j = i + 1
        · rw [e, if_pos hr.out, hve.out]
        · rw [if_neg (by rw [← hr.out]; exact (turn_ne (by omega) hlt).symm)]
          exact hf.out j (by omega)), hC8.out.put r rn v, hO8.out.other (by omega) _, below_set hB8.out hbc _⟩
      case measure => simp [intOf]; omega
    · have hin : i + 1 = n := by omega
      have hfa : f at' = rD L t us o at' n k i := by
        have := hf.out i (Nat.le_refl _)
        rw [show at' + i + 1 = at' + n by omega, Nat.add_mod_right, Nat.mod_eq_of_lt h1] at this
        exact this
      have hfb : 0 ≤ f at' ∧ f at' < 1013 := by rw [hfa]; exact rD_bd i
      have hfall : Hid (∀ j, j < n → f ((at' + j + 1) % n) = rD L t us o at' n k j) := Lib.hid (fun j hj => hf.out j (by omega))
      have e5 : ((i : Int) + 1) = (n : Int) := by omega
      have e6 : ¬ ((i : Int) + 1) < (n : Int) := by omega
      have c1' := hC.out.c at' h1
      have c0' := hC.out.c 0 (by omega)
      have c2' := hC.out.lt
      have o1 := hO.out.c at' h1
      have o3 := hO.out.f at' h1
      have o2 := hO.out.lt
      have hZr := hZ.out.below hB.out hZ.out.lt
      obtain ⟨p0, p1⟩ := mul_bq hfb.1 hfb.2 (show 0 ≤ x by omega) x2
      have hCs := Lib.hid hC.out
      generalize hd : f at' = d at *
      have v1 : IntKind.i64.wrap (d * x) = d * x := IntWalk.i64_in _ (by omega)
      have v2 : IntKind.i64.wrap (k - d * x) = k - d * x := IntWalk.i64_in _ (by omega)
      obtain ⟨m0, hm0⟩ : ∃ m, (k - d * x).tmod 1013 = m := ⟨_, rfl⟩
      have hm1 := tmod_s (k - d * x)
      have hm2 := tmod_se (k - d * x)
      rw [hm0] at hm1 hm2
      have v3 : IntKind.i64.wrap (m0 + 1013) = m0 + 1013 := IntWalk.i64_in _ (by omega)
      have v4 : (m0 + 1013).tmod 1013 = (k - d * x) % 1013 := by rw [Int.tmod_eq_emod_of_nonneg (by omega)]; omega
      obtain ⟨S, hS⟩ : ∃ S, (k - d * x) % 1013 = S := ⟨_, rfl⟩
      rw [hS] at v4
      have hgn : w4.heap.size ≠ g := by omega
      have hgn2 : g ≠ w4.heap.size := by omega
      have hgz : w.heap.size ≠ g := by omega
      have hgz2 : g ≠ w.heap.size := by omega
      have hOn := Lib.hid (hO.out.put at' h1 S)
      have hBn := Lib.hid (below_set (p := ⟨g, at', none⟩) hB.out hg1 (.int .i64 S))
      have hCn := Lib.hid (hCs.out.other (b' := g) (o := at') (by omega) (.int .i64 S))
      have c0n := hCn.out.c 0 (by omega)
      have hZn : Z2 (wr.setCell ⟨g, at', none⟩ (.int .i64 S)) w.heap.size := ⟨by rw [World.cell?_setCell_other (h := fun e => hgz2 (congrArg Addr.block e))]; exact hZr.c0, by rw [World.cell?_setCell_other (h := fun e => hgz2 (congrArg Addr.block e))]; exact hZr.c1, by rw [World.frozen?_setCell]; exact hZr.f0, by rw [World.frozen?_setCell]; exact hZr.f1, by simpa [World.setCell] using hZr.lt⟩
      replace hd := Lib.hid hd
      replace hm0' := Lib.hid hm0
      replace hS := Lib.hid hS
      obtain ⟨y0, y1, y2, y3, y4⟩ := hZr
      obtain ⟨z0, z1, z2, z3, z4⟩ := hZn
      clear hf hC hO hB hm1 hm2 hfa hfb hCs p0 p1
      go_wp2
      have kk := set2b_cell (w := wr.setCell ⟨g, at', none⟩ (.int .i64 S)) (x := .int .i64 (f 0)) (y := .slice (some ⟨g, 0, none⟩) n cap) z0 z1
      refine bodyPost_ret (v := .tuple #[.agg #[.int .i64 (f 0), .slice (some ⟨g, 0, none⟩) n cap], .nilIface]) (by simp [results, Tryd.results49, go_sem, kk.1, kk.2]) rfl ?_
      have h9 := (hOn.out.other (b' := w.heap.size) (o := 0) hgz (.int .i64 (f 0))).other (b' := w.heap.size) (o := 1) hgz (.slice (some ⟨g, 0, none⟩) n cap)
      unfold RSg
      refine ⟨f, g, cap, hfall.out, rfl, ?_, below_set (p := ⟨w.heap.size, 1, none⟩) (below_set (p := ⟨w.heap.size, 0, none⟩) (below_seq hB1.out hBn.out) (Nat.le_refl _) _) (Nat.le_refl _) _⟩
      rw [hd.out, hS.out]
      exact h9
end Go.Proofs.YtfnifdmnbccblaaDoor
