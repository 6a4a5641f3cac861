/- Refusals of ring.Sign. -/
import Derived.Test.YtfnifdmnbccblaaDoorRs
import Derived.Test.YtfnifdmnbccblaaDoorEq
namespace Go.Proofs.YtfnifdmnbccblaaDoor
open Go.RowKit
set_option maxRecDepth 100000
set_option linter.unusedVariables false
set_option linter.unusedSimpArgs false
theorem ready_full (n : Nat) (a : Option Addr) (cap : Nat) (t : ByteArray) (w : World) (h : 12 < n) (hm : n ≤ 9223372036854775807) :
    Calls Tryd.prog 105 #[.slice a n cap, .string t] w fun e w' => e = .returned (.tuple #[.string ⟨#[]⟩, .iface 118 (.int .i64 4)]) ∧ Below w.heap.size w w' := by
  have hL := Lib.hid (list_full n a cap w h hm)
  go_enter Tryd.func105, Tryd.ntmps105
  go_wp2_with fail
  refine (hL.out).mono ?_; rintro e w1 ⟨rfl, hb⟩
  obtain ⟨hc1, hf1⟩ := bcell hb
  have z1 := hb.size
  try simp only [World.size_alloc, World.size_setCell, World.size_drew] at z1
  have hB1 : Below w.heap.size w w1 := below_seq (by repeat (first | exact Below.refl _ _ | refine balloc ?_ _ | refine Below.drew ?_ | refine below_drewN ?_ _ | refine below_set ?_ (by first | omega | (dsimp only; omega)) _)) hb
  clear hb
  go_wp2
  go_ret2
  exact ⟨rfl, (by repeat (first | exact hB1 | exact Below.refl _ _ | refine balloc ?_ _ | refine Below.drew ?_ | refine below_drewN ?_ _ | refine below_set ?_ (by first | omega | (dsimp only; omega)) _))⟩
theorem ready_text (l : List Sp) (v : Value) (t : ByteArray) (w : World) (hF : FarAt w) (h1 : 1 ≤ l.length) (h2 : l.length ≤ 12) (hs : SpSl w v l) (hok : ∀ z ∈ l, Ok z) (ht : 60 < t.size) (hz : t.size ≤ 140737488351232) :
    Calls Tryd.prog 105 #[v, .string t] w fun e w' => e = .returned (.tuple #[.string ⟨#[]⟩, .iface 118 (.int .i64 4)]) ∧ Below w.heap.size w w' := by
  have hL := Lib.hid (list_sl l v w hF h2 hs hok)
  obtain ⟨a, cap, rfl, h0⟩ := hs
  clear h0 hok
  have hd : ((l.length : Int) == 0) = false := by rw [beq_eq_false_iff_ne]; omega
  generalize lsB l.length l = B at *
  go_enter Tryd.func105, Tryd.ntmps105
  go_wp2_with fail
  refine (hL.out).mono ?_; rintro e w1 ⟨rfl, hb⟩
  obtain ⟨hc1, hf1⟩ := bcell hb
  have z1 := hb.size
  try simp only [World.size_alloc, World.size_setCell, World.size_drew] at z1
  have hB1 : Below w.heap.size w w1 := below_seq (by repeat (first | exact Below.refl _ _ | refine balloc ?_ _ | refine Below.drew ?_ | refine below_drewN ?_ _ | refine below_set ?_ (by first | omega | (dsimp only; omega)) _)) hb
  clear hb
  go_wp2_with fail
  refine (text_n t _ ht hz).mono ?_; rintro e w' ⟨rfl, rfl⟩
  go_wp2
  go_ret2
  exact ⟨rfl, (by repeat (first | exact hB1 | exact Below.refl _ _ | refine balloc ?_ _ | refine Below.drew ?_ | refine below_drewN ?_ _ | refine below_set ?_ (by first | omega | (dsimp only; omega)) _))⟩
def RNo (w : World) (E : Int) (e : Ending) (w' : World) : Prop := e = .returned (.tuple #[.agg #[.int .i64 0, .slice none 0 0], .iface 118 (.int .i64 E)]) ∧ Below w.heap.size w w'
set_option maxHeartbeats 4000000 in
theorem rsign_nr (E : Int) (n : Nat) (a1 : Option Addr) (c1 : Nat) (vs : Value) (at' x k : Int) (t : ByteArray) (w : World) (hR : Hid (∀ w', Below w.heap.size w w' → Calls Tryd.prog 105 #[.slice a1 n c1, .string t] w' fun e w'' => e = .returned (.tuple #[.string ⟨#[]⟩, .iface 118 (.int .i64 E)]) ∧ Below w'.heap.size w' w'')) :
    Calls Tryd.prog 49 #[.slice a1 n c1, .int .i64 at', .int .i64 x, .int .i64 k, vs, .string t] w fun e w' => e = .returned (.tuple #[.agg #[.int .i64 0, .slice none 0 0], .iface 118 (.int .i64 E)]) ∧ Below w.heap.size w w' := by
  go_enter Tryd.func49, Tryd.ntmps49
  go_wp2_with fail
  refine (hR.out _ (below_alloc _ _)).mono ?_; rintro e w1 ⟨rfl, hb1⟩
  have hB1 := Lib.hid (below_seq (below_alloc w (.cells #[.int .i64 0, .slice none 0 0] 76)) hb1)
  obtain ⟨z0, z1, z2, z3, z4⟩ := (Z2.fresh w 76).below hb1 (by simp)
  clear hb1
  go_wp2
  have kk := set2b_cell (w := w1) (x := .int .i64 0) (y := .slice none 0 0) z0 z1
  refine bodyPost_ret (v := .tuple #[.agg #[.int .i64 0, .slice none 0 0], .iface 118 (.int .i64 E)]) (by simp [results, Tryd.results49, go_sem, kk.1, kk.2]) rfl ⟨rfl, below_set (p := ⟨w.heap.size, 1, none⟩) (below_set (p := ⟨w.heap.size, 0, none⟩) hB1.out (Nat.le_refl _) _) (Nat.le_refl _) _⟩
set_option maxHeartbeats 4000000 in
theorem rsign_nsh (n m : Nat) (a1 a2 : Option Addr) (c1 c2 : Nat) (L : ByteArray) (at' x k : Int) (t : ByteArray) (w : World) (hnm : m ≠ n) (hm : m ≤ 9223372036854775807) (hn : n ≤ 9223372036854775807) (hR : Hid (∀ w', Below w.heap.size w w' → Calls Tryd.prog 105 #[.slice a1 n c1, .string t] w' fun e w'' => e = .returned (.tuple #[.string L, .nilIface]) ∧ Below w'.heap.size w' w'')) :
    Calls Tryd.prog 49 #[.slice a1 n c1, .int .i64 at', .int .i64 x, .int .i64 k, .slice a2 m c2, .string t] w fun e w' => e = .returned (.tuple #[.agg #[.int .i64 0, .slice none 0 0], .iface 118 (.int .i64 3)]) ∧ Below w.heap.size w w' := by
  have g1 : ((m : Int) != (n : Int)) = true := by rw [bne_iff_ne]; omega
  go_enter Tryd.func49, Tryd.ntmps49
  go_wp2_with fail
  refine (hR.out _ (below_alloc _ _)).mono ?_; rintro e w1 ⟨rfl, hb1⟩
  have hB1 := Lib.hid (below_seq (below_alloc w (.cells #[.int .i64 0, .slice none 0 0] 76)) hb1)
  obtain ⟨z0, z1, z2, z3, z4⟩ := (Z2.fresh w 76).below hb1 (by simp)
  clear hb1
  go_wp2
  have kk := set2b_cell (w := w1) (x := .int .i64 0) (y := .slice none 0 0) z0 z1
  refine bodyPost_ret (v := .tuple #[.agg #[.int .i64 0, .slice none 0 0], .iface 118 (.int .i64 3)]) (by simp [results, Tryd.results49, go_sem, kk.1, kk.2]) rfl ⟨rfl, below_set (p := ⟨w.heap.size, 1, none⟩) (below_set (p := ⟨w.heap.size, 0, none⟩) hB1.out (Nat.le_refl _) _) (Nat.le_refl _) _⟩
set_option maxHeartbeats 4000000 in
theorem rsign_nk (n : Nat) (a1 a2 : Option Addr) (c1 c2 : Nat) (L : ByteArray) (at' : Nat) (x k : Int) (t : ByteArray) (w : World) (h1 : at' < n) (hn : n ≤ 12) (x1 : 1 ≤ x) (x2 : x < 1013) (hk : ¬ (1 ≤ k ∧ k < 1013)) (hR : Hid (∀ w', Below w.heap.size w w' → Calls Tryd.prog 105 #[.slice a1 n c1, .string t] w' fun e w'' => e = .returned (.tuple #[.string L, .nilIface]) ∧ Below w'.heap.size w' w'')) :
    Calls Tryd.prog 49 #[.slice a1 n c1, .int .i64 at', .int .i64 x, .int .i64 k, .slice a2 n c2, .string t] w fun e w' => e = .returned (.tuple #[.agg #[.int .i64 0, .slice none 0 0], .iface 118 (.int .i64 1)]) ∧ Below w.heap.size w w' := by
  have g1 : ((n : Int) != (n : Int)) = false := by simp
  have g2 : decide ((at' : Int) < 0) = false := by rw [decide_eq_false_iff_not]; omega
  have g3 : decide ((n : Int) ≤ (at' : Int)) = false := by rw [decide_eq_false_iff_not]; omega
  have g4 : decide (n ≤ at') = false := by rw [decide_eq_false_iff_not]; omega
  go_enter Tryd.func49, Tryd.ntmps49
  go_wp2_with fail
  refine (hR.out _ (below_alloc _ _)).mono ?_; rintro e w1 ⟨rfl, hb1⟩
  have hB1 := Lib.hid (below_seq (below_alloc w (.cells #[.int .i64 0, .slice none 0 0] 76)) hb1)
  obtain ⟨z0, z1, z2, z3, z4⟩ := (Z2.fresh w 76).below hb1 (by simp)
  clear hb1
  go_wp2_with fail
  refine (secret_y x _ x1 x2).mono ?_; rintro e w' ⟨rfl, rfl⟩
  go_wp2_with fail
  refine (secret_n k _ hk).mono ?_; rintro e w' ⟨rfl, rfl⟩
  go_wp2
  have kk := set2b_cell (w := w1) (x := .int .i64 0) (y := .slice none 0 0) z0 z1
  refine bodyPost_ret (v := .tuple #[.agg #[.int .i64 0, .slice none 0 0], .iface 118 (.int .i64 1)]) (by simp [results, Tryd.results49, go_sem, kk.1, kk.2]) rfl ⟨rfl, below_set (p := ⟨w.heap.size, 1, none⟩) (below_set (p := ⟨w.heap.size, 0, none⟩) hB1.out (Nat.le_refl _) _) (Nat.le_refl _) _⟩
set_option maxHeartbeats 16000000 in
theorem rsign_w (us : List Int) (l : List Sp) (ss : List Int) (vk vs : Value) (t : ByteArray) (at' n : Nat) (x k : Int) (L : ByteArray) (Kx Dk : Sp) (w : World) (hF : FarAt w) (h1 : at' < n) (h2 : n ≤ 12) (hn : l.length = n) (hl : Hid (l = us.map sq)) (hsl : ss.length = n) (hss : (ss.set at' 0).all okR = true) (ht : t.size ≤ 60)
    (x1 : 1 ≤ x) (x2 : x < 1013) (k1 : 1 ≤ k) (k2 : k < 1013) (hKx : Hid (sq (4 * x) = Kx)) (A : Sp) (hat : Hid (∀ h : at' < l.length, l[at'] = A)) (hne : Sp.beq Kx A = false) (hDk : Hid (sq (4 * k) = Dk))
    (hk : SpSl w vk l) (hv : IntSl w vs ss) (hL : Hid (lsB n l = L)) (o : Nat → Int) (ho' : Hid ((fun j => (ss.set at' 0).getD j 0) = o)) :
    Calls Tryd.prog 49 #[vk, .int .i64 at', .int .i64 x, .int .i64 k, vs, .string t] w fun e w' => e = .returned (.tuple #[.agg #[.int .i64 0, .slice none 0 0], .iface 118 (.int .i64 8)]) ∧ Below w.heap.size w w' := by
  have ho := ho'.out
  have hok : ∀ z ∈ l, Ok z := by rw [hl.out]; intro z hz; obtain ⟨u, -, rfl⟩ := List.mem_map.mp hz; exact sq_ok u
  have hul : us.length = n := by rw [← hn, hl.out, List.length_map]
  have hue : Hid (∀ i (h1 : i < l.length) (h2 : i < us.length), l[i] = sq us[i]) := Lib.hid (by
    intro i h1 h2
    have := hl.out
    subst this
    rw [List.getElem_map])
  have hR := Lib.hid (fun (w : World) hF hs => ready_e l vk t w hF (by omega) (by omega) hs hok ht)
  rw [hn] at hR
  rw [hL.out] at hR
  have hLz := lsB_size n l
  rw [hL.out] at hLz
  have hLs : L.size ≤ 100 := by omega
  have hol : (ss.set at' 0).length = n := by rw [List.length_set, hsl]
  have hCF := Lib.hid (fun (v : Value) (w : World) h => contF_r (ss.set at' 0) v w (by omega) h)
  rw [hss] at hCF
  obtain ⟨a1, c1, rfl, h3⟩ := hk
  obtain ⟨a2, c2, rfl, h4⟩ := hv
  obtain ⟨bk, ok, rfl, h5⟩ := h3 (by omega)
  obtain ⟨bs, os, rfl, h6⟩ := h4 (by omega)
  rw [hn] at hR
  rw [hn, hsl]
  clear h3 h4 hok hl hL hss hLz
  replace h5 := Lib.hid h5
  replace h6 := Lib.hid h6
  have hF' := Lib.hid hF
  have hs0 := Lib.hid (fun (w' : World) (hb : Below w.heap.size w w') => (⟨some ⟨bk, ok, none⟩, c1, by rw [hn], fun _ => ⟨bk, ok, rfl, h5.out.below hb⟩⟩ : SpSl w' (.slice (some ⟨bk, ok, none⟩) n c1) l))
  have g1 : ((n : Int) != (n : Int)) = false := by simp
  have g2 : decide ((at' : Int) < 0) = false := by rw [decide_eq_false_iff_not]; omega
  have g3 : decide ((n : Int) ≤ (at' : Int)) = false := by rw [decide_eq_false_iff_not]; omega
  have g4 : decide (n ≤ at') = false := by rw [decide_eq_false_iff_not]; omega
  go_enter Tryd.func49, Tryd.ntmps49
  go_wp2_with fail
  refine (hR.out (w.alloc (.cells #[.int .i64 0, .slice none 0 0] 76)) (hF.below (below_alloc _ _)) (hs0.out _ (below_alloc _ _))).mono ?_; rintro e w1 ⟨rfl, hb1⟩
  have hZ := Lib.hid ((Z2.fresh w 76).below hb1 (by simp))
  have hB1 := Lib.hid (below_seq (below_alloc w (.cells #[.int .i64 0, .slice none 0 0] 76)) hb1)
  have i5 := Lib.hid (h5.out.below hB1.out)
  have i6 := Lib.hid (h6.out.below hB1.out)
  have hF1 := Lib.hid (hF'.out.below hB1.out)
  clear hb1 hR h5 h6 hF
  go_wp2_with fail
  refine (secret_y x _ x1 x2).mono ?_; rintro e w' ⟨rfl, rfl⟩
  go_wp2_with fail
  refine (secret_y k _ k1 k2).mono ?_; rintro e w' ⟨rfl, rfl⟩
  have hCl := clone_c ss bs os c2 w1 (by omega) (by omega) i6.out
  rw [hsl] at hCl
  replace hCl := Lib.hid hCl
  go_wp2_with fail
  refine hCl.out.mono ?_; rintro e w2 ⟨vo, rfl, hown, hb2⟩
  obtain ⟨g, cap, rfl, hg1, hg2⟩ := hown.form (by omega)
  have hO := Lib.hid (IntsF.of_row hown hsl.symm (by omega))
  have hst := (hown.stored at' (.int .i64 0)).1
  rw [show (ss.map (Value.int .i64)).set at' (.int .i64 0) = (ss.set at' 0).map (Value.int .i64) by rw [List.map_set]] at hst
  have hO2 := Lib.hid (IntsF.of_row hst hol.symm (by omega))
  have hoi := Lib.hid (own_ints hst hol.symm)
  have hB2 := Lib.hid (below_set (p := ⟨g, at', none⟩) hb2 hg1 (.int .i64 0))
  have q1 := hO.out.c at' h1
  have q2 := hO.out.f at' h1
  clear hown hst hCl hO hb2
  rw [ho] at hO2
  have hgw : w.heap.size < g := Nat.lt_of_lt_of_le hZ.out.lt hg1
  have zw2 : w1.heap.size ≤ w2.heap.size := by omega
  go_wp2_with fail
  refine (hCF.out _ _ hoi.out).mono ?_; rintro e w' ⟨rfl, rfl⟩
  have hg3 : g < (w2.setCell ⟨g, at', none⟩ (.int .i64 0)).heap.size := hO2.out.lt
  generalize w2.setCell ⟨g, at', none⟩ (.int .i64 0) = w3 at *
  clear hoi hCF q1 q2 hg2 zw2 w2
  have hks := i5.out.below hB2.out
  have l1 := hks.cx at' (by omega)
  have l2 := hks.cy at' (by omega)
  have l3 := hks.cf at' (by omega)
  have l4 := hks.lt
  rw [hat.out (by omega)] at l1 l2 l3
  have hF3 := Lib.hid (hF1.out.below hB2.out)
  have hb0 : (0 : Int) ≤ (at' : Int) := by omega
  have hb1 : (at' : Int) < (n : Int) := by omega
  clear hks
  go_wp2_with fail
  refine wp_region_grow Tryd.mixed (by kernel_rfl) ?_
  repeat (quiet_step ((go_at_call 76; exact grow_of (by_e x Kx _ (hF3.out.below (Grew.h _)) hKx))))
  refine wpQuiet_nil ?_
  intro _ hw'
  obtain ⟨y, rfl⟩ := hw'
  have hB4 := Lib.hid (below_seq hB2.out y.h)
  obtain ⟨z0, z1, z2, z3, z4⟩ := hZ.out.below hB4.out hZ.out.lt
  clear l1 l2 l3 l4 hB2 hO2 hg3 hF3
  go_wp2
  have kk := set2b_cell (w := y.w) (x := .int .i64 0) (y := .slice none 0 0) z0 z1
  refine bodyPost_ret (v := .tuple #[.agg #[.int .i64 0, .slice none 0 0], .iface 118 (.int .i64 8)]) (by simp [results, Tryd.results49, go_sem, kk.1, kk.2]) rfl ⟨rfl, below_set (p := ⟨w.heap.size, 1, none⟩) (below_set (p := ⟨w.heap.size, 0, none⟩) (below_seq hB1.out hB4.out) (Nat.le_refl _) _) (Nat.le_refl _) _⟩
set_option maxHeartbeats 16000000 in
theorem rsign_ns (us : List Int) (l : List Sp) (ss : List Int) (vk vs : Value) (t : ByteArray) (at' n : Nat) (x k : Int) (L : ByteArray) (Kx Dk : Sp) (w : World) (hF : FarAt w) (h1 : at' < n) (h2 : n ≤ 12) (hn : l.length = n) (hl : Hid (l = us.map sq)) (hsl : ss.length = n) (hss : (ss.set at' 0).all okR = false) (ht : t.size ≤ 60)
    (x1 : 1 ≤ x) (x2 : x < 1013) (k1 : 1 ≤ k) (k2 : k < 1013) (hKx : Hid (sq (4 * x) = Kx)) (hat : Hid (∀ h : at' < l.length, l[at'] = Kx)) (hDk : Hid (sq (4 * k) = Dk))
    (hk : SpSl w vk l) (hv : IntSl w vs ss) (hL : Hid (lsB n l = L)) (o : Nat → Int) (ho' : Hid ((fun j => (ss.set at' 0).getD j 0) = o)) :
    Calls Tryd.prog 49 #[vk, .int .i64 at', .int .i64 x, .int .i64 k, vs, .string t] w fun e w' => e = .returned (.tuple #[.agg #[.int .i64 0, .slice none 0 0], .iface 118 (.int .i64 1)]) ∧ Below w.heap.size w w' := by
  have ho := ho'.out
  have hok : ∀ z ∈ l, Ok z := by rw [hl.out]; intro z hz; obtain ⟨u, -, rfl⟩ := List.mem_map.mp hz; exact sq_ok u
  have hul : us.length = n := by rw [← hn, hl.out, List.length_map]
  have hue : Hid (∀ i (h1 : i < l.length) (h2 : i < us.length), l[i] = sq us[i]) := Lib.hid (by
    intro i h1 h2
    have := hl.out
    subst this
    rw [List.getElem_map])
  have hR := Lib.hid (fun (w : World) hF hs => ready_e l vk t w hF (by omega) (by omega) hs hok ht)
  rw [hn] at hR
  rw [hL.out] at hR
  have hLz := lsB_size n l
  rw [hL.out] at hLz
  have hLs : L.size ≤ 100 := by omega
  have hol : (ss.set at' 0).length = n := by rw [List.length_set, hsl]
  have hCF := Lib.hid (fun (v : Value) (w : World) h => contF_r (ss.set at' 0) v w (by omega) h)
  rw [hss] at hCF
  obtain ⟨a1, c1, rfl, h3⟩ := hk
  obtain ⟨a2, c2, rfl, h4⟩ := hv
  obtain ⟨bk, ok, rfl, h5⟩ := h3 (by omega)
  obtain ⟨bs, os, rfl, h6⟩ := h4 (by omega)
  rw [hn] at hR
  rw [hn, hsl]
  clear h3 h4 hok hl hL hss hLz
  replace h5 := Lib.hid h5
  replace h6 := Lib.hid h6
  have hF' := Lib.hid hF
  have hs0 := Lib.hid (fun (w' : World) (hb : Below w.heap.size w w') => (⟨some ⟨bk, ok, none⟩, c1, by rw [hn], fun _ => ⟨bk, ok, rfl, h5.out.below hb⟩⟩ : SpSl w' (.slice (some ⟨bk, ok, none⟩) n c1) l))
  have g1 : ((n : Int) != (n : Int)) = false := by simp
  have g2 : decide ((at' : Int) < 0) = false := by rw [decide_eq_false_iff_not]; omega
  have g3 : decide ((n : Int) ≤ (at' : Int)) = false := by rw [decide_eq_false_iff_not]; omega
  have g4 : decide (n ≤ at') = false := by rw [decide_eq_false_iff_not]; omega
  go_enter Tryd.func49, Tryd.ntmps49
  go_wp2_with fail
  refine (hR.out (w.alloc (.cells #[.int .i64 0, .slice none 0 0] 76)) (hF.below (below_alloc _ _)) (hs0.out _ (below_alloc _ _))).mono ?_; rintro e w1 ⟨rfl, hb1⟩
  have hZ := Lib.hid ((Z2.fresh w 76).below hb1 (by simp))
  have hB1 := Lib.hid (below_seq (below_alloc w (.cells #[.int .i64 0, .slice none 0 0] 76)) hb1)
  have i5 := Lib.hid (h5.out.below hB1.out)
  have i6 := Lib.hid (h6.out.below hB1.out)
  have hF1 := Lib.hid (hF'.out.below hB1.out)
  clear hb1 hR h5 h6 hF
  go_wp2_with fail
  refine (secret_y x _ x1 x2).mono ?_; rintro e w' ⟨rfl, rfl⟩
  go_wp2_with fail
  refine (secret_y k _ k1 k2).mono ?_; rintro e w' ⟨rfl, rfl⟩
  have hCl := clone_c ss bs os c2 w1 (by omega) (by omega) i6.out
  rw [hsl] at hCl
  replace hCl := Lib.hid hCl
  go_wp2_with fail
  refine hCl.out.mono ?_; rintro e w2 ⟨vo, rfl, hown, hb2⟩
  obtain ⟨g, cap, rfl, hg1, hg2⟩ := hown.form (by omega)
  have hO := Lib.hid (IntsF.of_row hown hsl.symm (by omega))
  have hst := (hown.stored at' (.int .i64 0)).1
  rw [show (ss.map (Value.int .i64)).set at' (.int .i64 0) = (ss.set at' 0).map (Value.int .i64) by rw [List.map_set]] at hst
  have hO2 := Lib.hid (IntsF.of_row hst hol.symm (by omega))
  have hoi := Lib.hid (own_ints hst hol.symm)
  have hB2 := Lib.hid (below_set (p := ⟨g, at', none⟩) hb2 hg1 (.int .i64 0))
  have q1 := hO.out.c at' h1
  have q2 := hO.out.f at' h1
  clear hown hst hCl hO hb2
  rw [ho] at hO2
  have hgw : w.heap.size < g := Nat.lt_of_lt_of_le hZ.out.lt hg1
  have zw2 : w1.heap.size ≤ w2.heap.size := by omega
  go_wp2_with fail
  refine (hCF.out _ _ hoi.out).mono ?_; rintro e w' ⟨rfl, rfl⟩
  obtain ⟨z0, z1, z2, z3, z4⟩ := hZ.out.below hB2.out hZ.out.lt
  have hB4 := hB2
  generalize w2.setCell ⟨g, at', none⟩ (.int .i64 0) = w3 at *
  clear hoi hCF q1 q2 hg2 zw2 hO2
  go_wp2
  have kk := set2b_cell (w := w3) (x := .int .i64 0) (y := .slice none 0 0) z0 z1
  refine bodyPost_ret (v := .tuple #[.agg #[.int .i64 0, .slice none 0 0], .iface 118 (.int .i64 1)]) (by simp [results, Tryd.results49, go_sem, kk.1, kk.2]) rfl ⟨rfl, below_set (p := ⟨w.heap.size, 1, none⟩) (below_set (p := ⟨w.heap.size, 0, none⟩) (below_seq hB1.out hB4.out) (Nat.le_refl _) _) (Nat.le_refl _) _⟩
end Go.Proofs.YtfnifdmnbccblaaDoor
