/- Walks of layer group: Sign. -/
import Derived.Test.YtcphbigiooibcaaDoorGb
namespace Go.Proofs.YtcphbigiooibcaaDoor
open Go.RowKit
set_option maxRecDepth 100000
set_option linter.unusedVariables false
set_option linter.unusedSimpArgs false
/-- The error, as nothing or something. -/
theorem errV_0 : errV 0 = .nilIface := rfl
theorem groupF_0 {xs ks : List Int} {n : Nat} (h : groupF xs ks n = 0) : xs.length ≤ 12 ∧ ks.length = xs.length ∧ (∀ i (h : i < xs.length), 1 ≤ xs[i] ∧ xs[i] < 1013) ∧ (∀ i (h : i < ks.length), 1 ≤ ks[i] ∧ ks[i] < 1013) ∧ n ≤ 60 := by
  unfold groupF at h
  split at h
  · exact absurd h (by decide)
  split at h
  · exact absurd h (by decide)
  split at h
  · rename_i g1 g2 g3
    rw [Bool.and_eq_true] at g3
    split at h
    · exact absurd h (by decide)
    · exact ⟨by omega, by omega, fun i hi => okB_y (all_get g3.1 i hi), fun i hi => okB_y (all_get g3.2 i hi), by omega⟩
  · exact absurd h (by decide)
/-- A block of four cells, a seal's, all zero. -/
structure Z4 (w : World) (b : Nat) : Prop where
  c0 : w.cell? ⟨b, 0, none⟩ = some (.int .i64 0)
  c1 : w.cell? ⟨b, 1, none⟩ = some (.int .i64 0)
  c2 : w.cell? ⟨b, 2, none⟩ = some (.bool false)
  c3 : w.cell? ⟨b, 3, none⟩ = some (.int .i64 0)
  f0 : w.frozen? ⟨b, 0, none⟩ = false
  f1 : w.frozen? ⟨b, 1, none⟩ = false
  f2 : w.frozen? ⟨b, 2, none⟩ = false
  f3 : w.frozen? ⟨b, 3, none⟩ = false
  lt : b < w.heap.size
theorem Z4.below {w w' : World} {b : Nat} (h : Z4 w b) (hb : Below w.heap.size w w') : Z4 w' b := by
  obtain ⟨k, k'⟩ := bcell hb
  exact ⟨(k _ _ h.lt).trans h.c0, (k _ _ h.lt).trans h.c1, (k _ _ h.lt).trans h.c2, (k _ _ h.lt).trans h.c3, (k' _ _ h.lt).trans h.f0, (k' _ _ h.lt).trans h.f1, (k' _ _ h.lt).trans h.f2, (k' _ _ h.lt).trans h.f3, Nat.lt_of_lt_of_le h.lt hb.size⟩
theorem Z4.fresh (w : World) (t : TypeId) : Z4 (w.alloc (.cells #[.int .i64 0, .int .i64 0, .bool false, .int .i64 0] t)) w.heap.size := ⟨by simp, by simp, by simp, by simp, by simp, by simp, by simp, by simp, by simp⟩
theorem mul_1 {a b : Int} (h0 : 0 ≤ a) (h1 : a < 1013) (k0 : 0 ≤ b) (k1 : b < 1013) : 0 ≤ a * b ∧ a * b ≤ 1024144 :=
  ⟨Int.mul_nonneg h0 k0, Int.le_trans (Int.mul_le_mul (show a ≤ 1012 by omega) (show b ≤ 1012 by omega) k0 (by decide)) (by decide)⟩
set_option maxHeartbeats 4000000 in
theorem gsign_n (xs ks : List Int) (v1 v2 : Value) (t : ByteArray) (E : Int) (w : World) (h1 : IntSl w v1 xs) (h2 : IntSl w v2 ks) (m1 : xs.length ≤ 9223372036854775807) (m2 : ks.length ≤ 9223372036854775807) (hz : t.size ≤ 140737488351232) (hE : Hid (groupF xs ks t.size = E)) (h0 : E ≠ 0) :
    Calls Tryd.prog 15 #[v1, v2, .string t] w fun e w' => e = .returned (.tuple #[slV ⟨0, 0, false⟩ 0, .iface 113 (.int .i64 E)]) ∧ Below w.heap.size w w' := by
  have hK := Lib.hid (fun (w : World) h1 h2 => gcheck_e xs ks v1 v2 t E w h1 h2 m1 m2 hz hE)
  simp only [errV, if_neg h0] at hK
  replace h1 := Lib.hid h1
  replace h2 := Lib.hid h2
  clear hE m1 m2
  go_enter Tryd.func15, Tryd.ntmps15
  go_wp2_with fail
  refine (hK.out _ (h1.out.below (by repeat (first | exact Below.refl _ _ | refine balloc ?_ _ | refine Below.drew ?_ | refine below_drewN ?_ _ | refine below_set ?_ (by first | omega | (dsimp only; omega)) _))) (h2.out.below (by repeat (first | exact Below.refl _ _ | refine balloc ?_ _ | refine Below.drew ?_ | refine below_drewN ?_ _ | refine below_set ?_ (by first | omega | (dsimp only; omega)) _)))).mono ?_; rintro e w1 ⟨rfl, hb⟩
  obtain ⟨hc1, hf1⟩ := bcell hb
  have z1 := hb.size
  try simp only [World.size_alloc, World.size_setCell, World.size_drew] at z1
  have s1_0 : w.heap.size < w1.heap.size := by omega
  have hB1 : Below w.heap.size w w1 := below_seq (by repeat (first | exact Below.refl _ _ | refine balloc ?_ _ | refine Below.drew ?_ | refine below_drewN ?_ _ | refine below_set ?_ (by first | omega | (dsimp only; omega)) _)) hb
  clear hb
  have r0 : w1.cell? ⟨w.heap.size, 0, none⟩ = some (.int .i64 0) := by go_simp
  have r1 : w1.cell? ⟨w.heap.size, 1, none⟩ = some (.int .i64 0) := by go_simp
  have r2 : w1.cell? ⟨w.heap.size, 2, none⟩ = some (.bool false) := by go_simp
  have r3 : w1.cell? ⟨w.heap.size, 3, none⟩ = some (.int .i64 0) := by go_simp
  go_wp2
  have k := set4_cell (w := w1) (x := .int .i64 0) (y := .int .i64 0) (z := .bool false) (p := .int .i64 0) r0 r1 r2 r3
  refine bodyPost_ret (v := .tuple #[slV ⟨0, 0, false⟩ 0, .iface 113 (.int .i64 E)]) (by simp [results, Tryd.results15, go_sem, k.1, k.2.1, k.2.2.1, k.2.2.2]) rfl ⟨rfl, set4_below (by repeat (first | exact hB1 | exact Below.refl _ _ | refine balloc ?_ _ | refine Below.drew ?_ | refine below_drewN ?_ _ | refine below_set ?_ (by first | omega | (dsimp only; omega)) _)) (by omega)⟩
set_option maxHeartbeats 8000000 in
theorem gsign_e (xs ks : List Int) (v1 v2 : Value) (t : ByteArray) (l : List Sp) (J R : Sp) (c S : Int) (w : World) (hF : FarAt w) (h1 : IntSl w v1 xs) (h2 : IntSl w v2 ks) (hz : t.size ≤ 140737488351232) (hE : groupF xs ks t.size = 0)
    (hl : Hid (xs.map (fun x => sq (4 * x)) = l)) (hJ : Hid (sq (4 * dot xs (cfs l)) = J)) (hR : Hid (sq (4 * ks.sum) = R)) (hc : Hid (askN R J t.data.toList = c)) (hS : Hid ((ks.sum + c * dot xs (cfs l)) % 1013 = S)) :
    Calls Tryd.prog 15 #[v1, v2, .string t] w fun e w' => e = .returned (.tuple #[slV R S, .nilIface]) ∧ Below w.heap.size w w' := by
  obtain ⟨m1, m2, hx, hk, hz6⟩ := groupF_0 hE
  have hK := Lib.hid (fun (w : World) h1 h2 => gcheck_e xs ks v1 v2 t 0 w h1 h2 (by omega) (by omega) hz hE)
  have hll : l.length = xs.length := by rw [← hl.out, List.length_map]
  have hlu : l = (xs.map (4 * ·)).map sq := by rw [← hl.out, List.map_map]; rfl
  have hok : ∀ z ∈ l, Ok z := by rw [hlu]; intro z hz; obtain ⟨u, -, rfl⟩ := List.mem_map.mp hz; exact sq_ok u
  have hle : Hid (∀ i (h1 : i < xs.length) (h2 : i < l.length), sq (4 * xs[i]) = l[i]) := Lib.hid (by
    intro i h1 h2
    have := hl.out
    subst this
    rw [List.getElem_map])
  have hC := Lib.hid (fun (w : World) v hF hs => coefs_c l v w hF (by omega) hs hok)
  have hJc := Lib.hid (fun (w : World) v hF hs => joint_c (xs.map (4 * ·)) l v J w hF (by omega) hs hlu (by rw [dot_four]; exact hJ.out))
  have oJ : Ok J := by rw [← hJ.out]; exact sq_ok _
  have oR : Ok R := by rw [← hR.out]; exact sq_ok _
  have hcl := cfs_len l
  have hcb := Lib.hid (cfs_bd l)
  have hsb := Lib.hid (sum_bd ks hk)
  have hc0 := hnum_bd ((sBytes R).data.toList ++ ((sBytes J).data.toList ++ t.data.toList))
  rw [show hnum ((sBytes R).data.toList ++ ((sBytes J).data.toList ++ t.data.toList)) = c from hc.out] at hc0
  generalize cfs l = cs at *
  obtain ⟨a1, c1, rfl, h1⟩ := h1
  obtain ⟨a2, c2, rfl, h2⟩ := h2
  replace h1 := Lib.hid h1
  replace h2 := Lib.hid h2
  replace hx := Lib.hid hx
  replace hk := Lib.hid hk
  replace m2 := Lib.hid m2
  clear hE hok hlu hl hz
  obtain ⟨s0, s1⟩ := hsb.out ks.length (Nat.le_refl _)
  rw [List.take_length] at s0 s1
  rw [m2.out] at s1
  obtain ⟨K, hKe⟩ : ∃ K, ks.sum = K := ⟨_, rfl⟩
  rw [hKe] at s0 s1 hR hS
  replace hKe := Lib.hid hKe
  have hF' := Lib.hid hF
  go_enter Tryd.func15, Tryd.ntmps15
  go_wp2_with fail
  refine (hK.out _ ⟨a1, c1, rfl, fun hp => by obtain ⟨b, off, e, hs⟩ := h1.out hp; exact ⟨b, off, e, hs.below (below_alloc _ _)⟩⟩ ⟨a2, c2, rfl, fun hp => by obtain ⟨b, off, e, hs⟩ := h2.out hp; exact ⟨b, off, e, hs.below (below_alloc _ _)⟩⟩).mono ?_; rintro e w1 ⟨rfl, hb⟩
  rw [errV_0]
  have hq1 := Lib.hid ((Z4.fresh w 25).below hb)
  have hB1 := Lib.hid (below_seq (below_alloc w _) hb)
  have hF1 := Lib.hid (hF.below hB1.out)
  have i1 : Hid (0 < xs.length → ∃ b off, a1 = some ⟨b, off, none⟩ ∧ IntsAt w1 b off xs) := Lib.hid (fun hp => by obtain ⟨b, off, e, hs⟩ := h1.out hp; exact ⟨b, off, e, hs.below hB1.out⟩)
  have i2 : Hid (0 < ks.length → ∃ b off, a2 = some ⟨b, off, none⟩ ∧ IntsAt w1 b off ks) := Lib.hid (fun hp => by obtain ⟨b, off, e, hs⟩ := h2.out hp; exact ⟨b, off, e, hs.below hB1.out⟩)
  clear h1 h2 hF hK hb
  go_wp2
  go_loopw [9, 10, 30] (fun o s i wr => ∃ (n : Nat) (u : Value), n ≤ xs.length ∧ i = .int .i64 n ∧ s = .int .i64 ((ks.take n).sum) ∧ u = o ∧ wr.ownsRow w1.heap.size 23 3 u n (spCells (l.take n)) ∧ Below w1.heap.size w1 wr) (fun _ _ i _ => xs.length - (intOf i).toNat)
  case atStart => exact ⟨0, _, Nat.zero_le _, rfl, rfl, rfl, World.ownsRow_nil _ _ _ _, Below.refl _ _⟩
  case round =>
    obtain ⟨n, u, hn, rfl, rfl, rfl, hown, hb⟩ := hrel
    replace hown := Lib.hid hown
    replace hb := Lib.hid hb
    by_cases hlt : n < xs.length
    · obtain ⟨b1, o1, rfl, l1⟩ := i1.out (by omega)
      obtain ⟨b2, o2, rfl, l2⟩ := i2.out (by rw [m2.out]; omega)
      have hlt2 : n < ks.length := by rw [m2.out]; exact hlt
      have m3 := (l1.below hb.out).c n hlt
      have hlw := hb.out.size
      have hcell := Lib.hid (fun w' (hb' : Below w1.heap.size w1 w') => (l2.below hb').c n hlt2)
      have hsn := Lib.hid (sum_snoc ks n hlt2)
      have hln := Lib.hid (take_snoc l n (by omega))
      have hA := Lib.hid (hle.out n hlt (by omega))
      obtain ⟨y1, y2⟩ := hk.out n hlt2
      obtain ⟨g1, g2⟩ := hsb.out n (by omega)
      have htl : Hid ((l.take n).length = n) := Lib.hid (by rw [List.length_take]; omega)
      clear l1 l2
      generalize xs[n] = x at *
      generalize ks[n] = k at *
      generalize l[n] = A at *
      generalize (ks.take n).sum = s at *
      have hFr := Lib.hid (hF1.out.below hb.out)
      go_wp2_with fail
      refine (by_e x A _ hFr.out hA).mono ?_; rintro e w2 ⟨rfl, hb2⟩
      have ow2 := Lib.hid (own_below hown.out hb2)
      have hB2 := Lib.hid (below_seq hb.out hb2)
      have hs2 := hb2.size
      clear hown hb2 m3
      go_wp2_with (first | (at_builtin; refine wpl_append_spot rfl _ _ _ rfl (by kernel_rfl) w1.heap.size _ (l.take n) n rfl (ow2.out.alloc _) htl.out (by omega) (by simp only [World.size_alloc]; omega) w2.heap.size A rfl (by go_simp) (by go_simp) (by go_simp) ?_; intro v' w3 hown' hgrow hbel hloc; replace hown' := Lib.hid hown'; replace hbel := Lib.hid (hbel w1 (balloc hB2.out _)); have hc3 := hcell.out w3 hbel.out; clear hgrow hloc ow2 hB2) | fail)
      go_wp2
      go_roundw
      case rel => exact ⟨n + 1, _, by omega, by go_num, by rw [hsn.out], rfl, by rw [hln.out]; exact hown'.out, hbel.out⟩
      case measure => simp [intOf]; omega
    · obtain rfl : n = xs.length := by omega
      have hSp : Hid (SpSl wr u l) := Lib.hid (own_spots (by have := hown.out; rw [List.take_of_length_le (by omega)] at this; exact this) hll.symm)
      have hse : (ks.take xs.length).sum = K := by rw [← m2.out, List.take_length]; exact hKe.out
      rw [hse]
      have hqr := Lib.hid (hq1.out.below hb.out)
      have hFr := Lib.hid (hF1.out.below hb.out)
      have hBr := Lib.hid (below_seq hB1.out hb.out)
      have ir : Hid (0 < xs.length → ∃ b off, a1 = some ⟨b, off, none⟩ ∧ IntsAt wr b off xs) := Lib.hid (fun hp => by obtain ⟨b, off, e, hs⟩ := i1.out hp; exact ⟨b, off, e, hs.below hb.out⟩)
      clear hown hb hse i1 i2 hq1 hF1 hB1 hsb hk m2 hle hKe
      go_wp2_with fail
      refine (hC.out wr u hFr.out hSp.out).mono ?_; rintro e w2 ⟨cv, rfl, hi, hb2⟩
      have hSp2 := Lib.hid (hSp.out.below hb2)
      have hq2 := Lib.hid (hqr.out.below hb2)
      have hF2 := Lib.hid (hFr.out.below hb2)
      have hB2 := Lib.hid (below_seq hBr.out hb2)
      have i2 : Hid (0 < xs.length → ∃ b off, a1 = some ⟨b, off, none⟩ ∧ IntsAt w2 b off xs) := Lib.hid (fun hp => by obtain ⟨b, off, e, hs⟩ := ir.out hp; exact ⟨b, off, e, hs.below hb2⟩)
      obtain ⟨a3, c3, rfl, i3⟩ := hi
      replace i3 := Lib.hid i3
      clear hSp hqr hFr hBr ir hb2 hC
      go_wp2_with fail
      refine (hJc.out w2 u hF2.out hSp2.out).mono ?_; rintro e w3 ⟨rfl, hb3⟩
      have hb3 := Lib.hid hb3
      have hj := Lib.hid (SpAt.fresh w3 J.x J.y J.far 23)
      have hb3a := Lib.hid (balloc hb3.out (.cells #[.int .i64 J.x, .int .i64 J.y, .bool J.far] 23))
      clear hJc hSp2
      go_wp2_with fail
      refine (by_e K R _ (hF2.out.below hb3a.out) hR).mono ?_; rintro e w4 ⟨rfl, hb4⟩
      have hj4 := hj.out.below hb4
      have hb4 := Lib.hid (below_seq hb3a.out hb4)
      obtain ⟨j0, j1, j2, -, -, -, jl⟩ := hj4
      have hr := Lib.hid (SpAt.fresh w4 R.x R.y R.far 23)
      have hb4a := Lib.hid (balloc hb4.out (.cells #[.int .i64 R.x, .int .i64 R.y, .bool R.far] 23))
      clear hj hb3 hb3a
      go_wp2_with fail
      refine (ask_e R J t c _ oR oJ hz6 hc).mono ?_; rintro e w5 ⟨rfl, hb5⟩
      have hr5 := Lib.hid (hr.out.below hb5)
      have hb5 := Lib.hid (below_seq hb4a.out hb5)
      have hq5 := Lib.hid (hq2.out.below hb5.out)
      have hB5 := Lib.hid (below_seq hB2.out hb5.out)
      have i5 : Hid (0 < xs.length → ∃ b off, a1 = some ⟨b, off, none⟩ ∧ IntsAt w5 b off xs) := Lib.hid (fun hp => by obtain ⟨b, off, e, hs⟩ := i2.out hp; exact ⟨b, off, e, hs.below hb5.out⟩)
      have i6 : Hid (0 < cs.length → ∃ b off, a3 = some ⟨b, off, none⟩ ∧ IntsAt w5 b off cs) := Lib.hid (fun hp => by obtain ⟨b, off, e, hs⟩ := i3.out hp; exact ⟨b, off, e, hs.below hb5.out⟩)
      clear hr hb4 hb4a hb5 hq2 hB2 i2 i3 hF2 j0 j1 j2 jl oR oJ
      go_wp2
      go_loopw [10, 73] (fun s i wr => ∃ (n : Nat) (m : Int), n ≤ xs.length ∧ i = .int .i64 n ∧ s = .int .i64 m ∧ 0 ≤ m ∧ m ≤ 12144 ∧ m % 1013 = (K + c * dot (xs.take n) cs) % 1013 ∧ wr = w5) (fun _ i _ => xs.length - (intOf i).toNat)
      case atStart => exact ⟨0, K, Nat.zero_le _, rfl, rfl, s0, by omega, by rw [List.take_zero, dot_nil, Int.mul_zero, Int.add_zero], rfl⟩
      case round =>
        obtain ⟨n, m, hn, rfl, rfl, m0, m4, hm, hwr⟩ := hrel
        subst hwr
        replace hm := Lib.hid hm
        by_cases hlt : n < xs.length
        · obtain ⟨b1, o1, rfl, l1⟩ := i5.out (by omega)
          obtain ⟨b3, o3, rfl, l3⟩ := i6.out (by omega)
          have k1 := l1.c n hlt
          have k3 := l3.c n (by omega)
          obtain ⟨x1, x2⟩ := hx.out n hlt
          obtain ⟨d1, d2⟩ := hcb.out n (by omega)
          have hd := Lib.hid (dot_snoc xs cs n hlt (by omega))
          clear l1 l3
          generalize xs[n] = x at *
          generalize cs[n] = d at *
          obtain ⟨g1, g2⟩ := mul_1 hc0.1 hc0.2 d1 d2
          have g3 : 0 ≤ c * d % 1013 ∧ c * d % 1013 < 1013 := by omega
          obtain ⟨g4, g5⟩ := mul_1 g3.1 g3.2 (show 0 ≤ x by omega) x2
          have e1 : IntKind.i64.wrap (c * d) = c * d := IntWalk.i64_in _ (by omega)
          have e2 : (c * d).tmod 1013 = c * d % 1013 := Int.tmod_eq_emod_of_nonneg g1
          have e3 : IntKind.i64.wrap (c * d % 1013 * x) = c * d % 1013 * x := IntWalk.i64_in _ (by omega)
          have e4 : IntKind.i64.wrap (m + c * d % 1013 * x) = m + c * d % 1013 * x := IntWalk.i64_in _ (by omega)
          have e5 : (m + c * d % 1013 * x).tmod 1013 = (m + c * d % 1013 * x) % 1013 := Int.tmod_eq_emod_of_nonneg (by omega)
          have hm2 := Lib.hid (turn_go (x := x) (c := d) hm.out)
          go_wp2
          go_roundw
          case rel => exact ⟨n + 1, _, by omega, by go_num, rfl, by omega, by omega, by rw [Int.emod_emod_of_dvd _ (Int.dvd_refl _), hm2.out, hd.out], by first | rfl | trivial⟩
          case measure => simp [intOf]; omega
        · obtain rfl : n = xs.length := by omega
          have hms : m.tmod 1013 = S := by rw [Int.tmod_eq_emod_of_nonneg m0, hm.out, List.take_length]; exact hS.out
          obtain ⟨r0, r1, r2, r3, f0, f1, f2, f3, fl⟩ := hq5.out
          obtain ⟨k0, k1, k2, -, -, -, kl⟩ := hr5.out
          clear hm hx hcb
          go_wp2
          have k := set4_cell (w := wr) (x := .int .i64 R.x) (y := .int .i64 R.y) (z := .bool R.far) (p := .int .i64 S) r0 r1 r2 r3
          refine bodyPost_ret (v := .tuple #[slV R S, .nilIface]) (by simp [results, Tryd.results15, go_sem, k.1, k.2.1, k.2.2.1, k.2.2.2]) rfl ⟨rfl, set4_below hB5.out (Nat.le_refl _)⟩
end Go.Proofs.YtcphbigiooibcaaDoor
