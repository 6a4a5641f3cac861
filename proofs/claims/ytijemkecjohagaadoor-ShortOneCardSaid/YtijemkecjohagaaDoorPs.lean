/- Walks of layer pair: two and two, and the product of many. -/
import Derived.Test.YtijemkecjohagaaDoorPz
import Derived.Test.YtijemkecjohagaaDoorFs
import Derived.Deep.DeepCutAuto
import Derived.Deep.RegionWith
namespace Go.Proofs.YtijemkecjohagaaDoor
open Go.RowKit
set_option maxRecDepth 100000
set_option linter.unusedVariables false
set_option linter.unusedSimpArgs false
theorem of_z (a b : Sp) (i j : Int) (z : Z) (w : World) (hF : FarAt w) (hO : OneAt w) (ha : Hid (Cnt a i)) (hb : Hid (Cnt b j)) (hz : Hid (zp (i * j) = z)) : Calls Tryd.prog 102 #[spV a, spV b] w fun e w' => e = .returned (twR z) ∧ Below w.heap.size w w' := by
  have := pairOf_z a b i j w hF hO ha.out hb.out
  rw [zp_nat (Int.mul_nonneg ha.out.2.1 hb.out.2.1), hz.out] at this; exact this
set_option maxHeartbeats 2000000 in
theorem same_y (a b c d : Sp) (i j k l : Int) (z : Z) (w : World) (hF : FarAt w) (hO : OneAt w) (ha : Hid (Cnt a i)) (hb : Hid (Cnt b j)) (hc : Hid (Cnt c k)) (hd : Hid (Cnt d l)) (h1 : Hid (zp (i * j) = z)) (h2 : Hid (zp (k * l) = z)) : Calls Tryd.prog 26 #[spV a, spV b, spV c, spV d] w fun e w' => e = .returned (.tuple #[.bool true, .nilIface]) ∧ Below w.heap.size w w' := by
  go_enter Tryd.func26, Tryd.ntmps26
  go_wp2_with fail
  refine (ready_ok a b (4 * i) (4 * j) _ (hF.below (by repeat (first | exact Below.refl _ _ | refine balloc ?_ _ | refine Below.drew ?_ | refine below_drewN ?_ _ | refine below_set ?_ (by first | omega | (dsimp only; omega)) _))) ha.out.1 hb.out.1 (sq_far.mpr (by omega)) (sq_far.mpr (by omega))).mono ?_; rintro e w1 ⟨rfl, hb⟩
  obtain ⟨hc1, hf1⟩ := bcell hb
  have z1 := hb.size
  try simp only [World.size_alloc, World.size_setCell, World.size_drew] at z1
  have s1_0 : w.heap.size < w1.heap.size := by omega
  have s1_1 : w.heap.size + 1 < w1.heap.size := by omega
  have s1_2 : w.heap.size + 1 + 1 < w1.heap.size := by omega
  have s1_3 : w.heap.size + 1 + 1 + 1 < w1.heap.size := by omega
  have hB1 : Below w.heap.size w w1 := below_seq (by repeat (first | exact Below.refl _ _ | refine balloc ?_ _ | refine Below.drew ?_ | refine below_drewN ?_ _ | refine below_set ?_ (by first | omega | (dsimp only; omega)) _)) hb
  clear hb
  go_wp2_with fail
  refine (ready_ok c d (4 * k) (4 * l) _ (hF.below (by repeat (first | exact hB1 | exact Below.refl _ _ | refine balloc ?_ _ | refine Below.drew ?_ | refine below_drewN ?_ _ | refine below_set ?_ (by first | omega | (dsimp only; omega)) _))) hc.out.1 hd.out.1 (sq_far.mpr (by omega)) (sq_far.mpr (by omega))).mono ?_; rintro e w2 ⟨rfl, hb⟩
  obtain ⟨hc2, hf2⟩ := bcell hb
  have z2 := hb.size
  try simp only [World.size_alloc, World.size_setCell, World.size_drew] at z2
  have s2_0 : w.heap.size < w2.heap.size := by omega
  have s2_1 : w.heap.size + 1 < w2.heap.size := by omega
  have s2_2 : w.heap.size + 1 + 1 < w2.heap.size := by omega
  have s2_3 : w.heap.size + 1 + 1 + 1 < w2.heap.size := by omega
  have hB2 : Below w.heap.size w w2 := below_seq (by repeat (first | exact hB1 | exact Below.refl _ _ | refine balloc ?_ _ | refine Below.drew ?_ | refine below_drewN ?_ _ | refine below_set ?_ (by first | omega | (dsimp only; omega)) _)) hb
  clear hb
  go_wp2_with fail
  refine wp_region_grow Tryd.mixed (by kernel_rfl) ?_
  repeat (quiet_step ((first | (go_at_call_of 102 a.x; exact grow_of (of_z a b i j z _ (hF.below (below_seq (by repeat (first | exact hB2 | exact Below.refl _ _ | refine balloc ?_ _ | refine Below.drew ?_ | refine below_drewN ?_ _ | refine below_set ?_ (by first | omega | (dsimp only; omega)) _)) (Grew.h _))) (hO.below (below_seq (by repeat (first | exact hB2 | exact Below.refl _ _ | refine balloc ?_ _ | refine Below.drew ?_ | refine below_drewN ?_ _ | refine below_set ?_ (by first | omega | (dsimp only; omega)) _)) (Grew.h _))) ha hb h1)) | (go_at_call 102; exact grow_of (of_z c d k l z _ (hF.below (below_seq (by repeat (first | exact hB2 | exact Below.refl _ _ | refine balloc ?_ _ | refine Below.drew ?_ | refine below_drewN ?_ _ | refine below_set ?_ (by first | omega | (dsimp only; omega)) _)) (Grew.h _))) (hO.below (below_seq (by repeat (first | exact hB2 | exact Below.refl _ _ | refine balloc ?_ _ | refine Below.drew ?_ | refine below_drewN ?_ _ | refine below_set ?_ (by first | omega | (dsimp only; omega)) _)) (Grew.h _))) hc hd h2)))))
  refine wpQuiet_nil ?_
  intro _ hw'
  obtain ⟨x3, rfl⟩ := hw'
  have z3 := x3.h.size
  try simp only [World.size_alloc, World.size_setCell, World.size_drew] at z3
  have s3_0 : w.heap.size < x3.w.heap.size := by omega
  have s3_1 : w.heap.size + 1 < x3.w.heap.size := by omega
  have s3_2 : w.heap.size + 1 + 1 < x3.w.heap.size := by omega
  have s3_3 : w.heap.size + 1 + 1 + 1 < x3.w.heap.size := by omega
  have hB3 : Below w.heap.size w x3.w := below_seq (by repeat (first | exact hB2 | exact Below.refl _ _ | refine balloc ?_ _ | refine Below.drew ?_ | refine below_drewN ?_ _ | refine below_set ?_ (by first | omega | (dsimp only; omega)) _)) x3.h
  go_wp2
  go_ret2
  exact ⟨rfl, (by repeat (first | exact hB3 | exact Below.refl _ _ | refine balloc ?_ _ | refine Below.drew ?_ | refine below_drewN ?_ _ | refine below_set ?_ (by first | omega | (dsimp only; omega)) _))⟩
theorem TwAt.fresh (w : World) (z : Z) (t : TypeId) : TwAt (w.alloc (.cells #[.int .i64 (fz z.re), .int .i64 (fz z.im)] t)) w.heap.size z := ⟨by go_simp, by go_simp, by go_simp, by go_simp, by simp⟩
def prodN (e : Nat → Int) : Nat → Int
  | 0 => 0
  | k+1 => prodN e k + e k
theorem prod_next (f g : Nat → Int) (k : Nat) : (zp (prodN (fun k => f k * g k) k)).mul (zp (f k * g k)) = zp (prodN (fun k => f k * g k) (k + 1)) := zp_mul _ _
theorem zp_zero : zp 0 = .one := by rw [← zp_nat (by omega)]; exact Z.pow_zero _
set_option maxHeartbeats 4000000 in
theorem product_y (L M : List Sp) (f g : Nat → Int) (b1 o1 c1 b2 o2 c2 : Nat) (w : World) (hF : FarAt w) (hO : OneAt w) (hl : L.length ≤ 12) (hm : M.length = L.length) (hL : SpotsAt w b1 o1 L) (hM : SpotsAt w b2 o2 M)
    (h : Hid (∀ k (h1 : k < L.length) (h2 : k < M.length), Cnt L[k] (f k) ∧ Cnt M[k] (g k))) :
    Calls Tryd.prog 30 #[.slice (some ⟨b1, o1, none⟩) L.length c1, .slice (some ⟨b2, o2, none⟩) M.length c2] w fun e w' => e = .returned (.tuple #[twR (zp (prodN (fun k => f k * g k) L.length)), .nilIface]) ∧ Below w.heap.size w w' := by
  have hF' := Lib.hid hF
  have hO' := Lib.hid hO
  have hL' := Lib.hid hL
  have hM' := Lib.hid hM
  have hm' := Lib.hid hm
  have hd : decide ((12 : Int) < (L.length : Int)) = false := by rw [decide_eq_false_iff_not]; omega
  have hz0 := Lib.hid zp_zero
  obtain ⟨q0, q1, ql⟩ := hO
  have q2 : 0 < w.heap.size := Nat.lt_of_le_of_lt (Nat.zero_le _) ql
  clear hF hL hM
  rw [hm]
  clear hm
  go_enter Tryd.func30, Tryd.ntmps30
  go_wp2
  have t0 : TwAt ((w.alloc (.cells #[.int .i64 0, .int .i64 0] 34)).alloc (.cells #[.int .i64 1, .int .i64 0] 34)) w.heap.size ⟨0, 0⟩ := TwAt.zero_of (by go_simp) (by go_simp) (by go_simp) (by go_simp) (by simp; omega)
  have t1 : TwAt ((w.alloc (.cells #[.int .i64 0, .int .i64 0] 34)).alloc (.cells #[.int .i64 1, .int .i64 0] 34)) (w.heap.size + 1) .one := TwAt.one_of (by go_simp) (by go_simp) (by go_simp) (by go_simp) (by simp)
  have tb := balloc (below_alloc w (.cells #[.int .i64 0, .int .i64 0] 34)) (.cells #[.int .i64 1, .int .i64 0] 34)
  have t0 := Lib.hid t0
  have t1 := Lib.hid t1
  have tb := Lib.hid tb
  clear q0 q1 ql q2 hd
  generalize (w.alloc (.cells #[.int .i64 0, .int .i64 0] 34)).alloc (.cells #[.int .i64 1, .int .i64 0] 34) = w0 at *
  go_loopw [33] (fun i wr => ∃ n : Nat, n ≤ L.length ∧ i = .int .i64 n ∧ TwAt wr w.heap.size ⟨0, 0⟩ ∧ TwAt wr (w.heap.size + 1) (zp (prodN (fun k => f k * g k) n)) ∧ Below w.heap.size w wr) (fun i _ => L.length - (intOf i).toNat)
  case atStart => exact ⟨0, Nat.zero_le _, rfl, t0.out, (by show TwAt w0 _ (zp 0); rw [hz0.out]; exact t1.out), tb.out⟩
  case round =>
    clear t0 t1 tb
    obtain ⟨n, hn, rfl, hr, ho, hB⟩ := hrel
    replace hr := Lib.hid hr
    replace ho := Lib.hid ho
    by_cases hlt : n < L.length
    · have hlt2 : n < M.length := by rw [hm'.out]; exact hlt
      have hc := Lib.hid (h.out n hlt hlt2)
      have hsL := hL'.out.below hB
      have hsM := hM'.out.below hB
      have l1 := hsL.cx n hlt
      have l2 := hsL.cy n hlt
      have l3 := hsL.cf n hlt
      have m1 := hsM.cx n hlt2
      have m2 := hsM.cy n hlt2
      have m3 := hsM.cf n hlt2
      have ml := hsM.lt
      clear hsL hsM
      generalize hA : L[n] = A at *
      generalize hC : M[n] = C at *
      clear hA hC
      have hB1 := Lib.hid hB
      go_upto_region 9 with fail
      go_cut [9, 10] from 38 to 54 (fun s9 s10 wx => ∃ k : Nat, s9 = .pointer (some ⟨k, 0, none⟩) ∧ s10 = .nilIface ∧ TwAt wx k (zp (f n * g n)) ∧ TwAt wx w.heap.size ⟨0, 0⟩ ∧ TwAt wx (w.heap.size + 1) (zp (prodN (fun k => f k * g k) n)) ∧ Below w.heap.size w wx ∧ w.heap.size + 1 < k)
      case first =>
        have hrl := hr.out.lt
        have hol := ho.out.lt
        go_region_with (first | (go_at_call 29; refine (pair_e A C (f n) (g n) _ _ (hF'.out.below (by repeat (first | exact hB1.out | refine balloc ?_ _ | refine Below.drew ?_))) (hO'.out.below (by repeat (first | exact hB1.out | refine balloc ?_ _ | refine Below.drew ?_))) hc.out.1 hc.out.2 rfl).mono ?_; rintro e w1 ⟨rfl, hb⟩; obtain ⟨hcc, hff⟩ := bcell hb))
        all_goals
          go_wp2_with fail
          go_meet
          have hbA : Below wr.heap.size wr w1 := below_seq (by repeat (first | exact Below.refl _ _ | refine balloc ?_ _ | refine Below.drew ?_)) hb
          have hB2 := below_seq hB1.out hbA
          have hr1 := hr.out.below hbA
          have ho1 := ho.out.below hbA
          have hsz := hbA.size
          first
          | exact ⟨_, rfl, rfl, TwAt.fresh _ _ _, hr1.below (below_alloc _ _), ho1.below (below_alloc _ _), balloc hB2 _, by omega⟩
          | exact ⟨_, rfl, rfl, ((TwAt.zero_of (by go_simp) (by go_simp) (by go_simp) (by go_simp) (by simp)).below hb).set2 _, (hr1.other _ (by omega)).other _ (by omega), (ho1.other _ (by omega)).other _ (by omega), set2_below hB2 (by omega), by omega⟩
      case rest =>
        clear hr ho hB1 hB l1 l2 l3 m1 m2 m3 ml
        obtain ⟨k, rfl, rfl, hk, hr, ho, hB, hlk⟩ := hcut
        have hkl := hk.lt
        have hol := ho.lt
        replace hr := Lib.hid hr
        replace hk := Lib.hid hk
        replace ho := Lib.hid ho
        obtain ⟨k0, k1, kf0, kf1, -⟩ := hk.out
        obtain ⟨o0, o1, of0, of1, -⟩ := ho.out
        have hm := Lib.hid (prod_next f g n)
        generalize hP : zp (f n * g n) = P at *
        generalize hQ : zp (prodN (fun k => f k * g k) n) = Q at *
        clear hP hQ
        go_wp2_with fail
        refine (mul_e Q P _ _ hm).mono ?_; rintro e w2 ⟨rfl, hb⟩
        have hr2 := hr.out.below hb
        have ho2 := ho.out.below hb
        have hB2 := below_seq hB hb
        have hz2 := hb.size
        have ho2' := Lib.hid ho2
        obtain ⟨p0, p1, pf0, pf1, pl⟩ := ho2
        clear hb o0 o1 of0 of1 k0 k1 kf0 kf1 hk ho
        generalize hV : zp (prodN (fun k => f k * g k) (n + 1)) = V at *
        replace hV := Lib.hid hV
        go_wp2
        go_roundw
        case rel => exact ⟨n + 1, by omega, by go_num, (hr2.other _ (by omega)).other _ (by omega), by rw [hV.out]; exact ho2'.out.set2 _, set2_below hB2 (by omega)⟩
        case measure => simp [intOf]; omega
    · have hn2 : n = L.length := by omega
      have ho2 := ho.out
      rw [hn2] at ho2
      obtain ⟨r0, r1, rf0, rf1, rl⟩ := hr.out
      obtain ⟨p0, p1, pf0, pf1, pl⟩ := ho2
      generalize hV : zp (prodN (fun k => f k * g k) L.length) = V at *
      go_wp2
      have k := set2_cell (w := wr) (x := .int .i64 (fz V.re)) (y := .int .i64 (fz V.im)) r0 r1
      refine bodyPost_ret (v := .tuple #[twR V, .nilIface]) (by simp [results, Tryd.results30, go_sem, k.1, k.2]) rfl ⟨rfl, set2_below hB (by omega)⟩
theorem product_e (L M : List Sp) (f g : Nat → Int) (b1 o1 c1 b2 o2 c2 : Nat) (T : Z) (w : World) (hF : FarAt w) (hO : OneAt w) (hl : L.length ≤ 12) (hm : M.length = L.length) (hL : SpotsAt w b1 o1 L) (hM : SpotsAt w b2 o2 M)
    (h : Hid (∀ k (h1 : k < L.length) (h2 : k < M.length), Cnt L[k] (f k) ∧ Cnt M[k] (g k))) (hT : Hid (zp (prodN (fun k => f k * g k) L.length) = T)) :
    Calls Tryd.prog 30 #[.slice (some ⟨b1, o1, none⟩) L.length c1, .slice (some ⟨b2, o2, none⟩) M.length c2] w fun e w' => e = .returned (.tuple #[twR T, .nilIface]) ∧ Below w.heap.size w w' := by
  have := product_y L M f g b1 o1 c1 b2 o2 c2 w hF hO hl hm hL hM h; rw [hT.out] at this; exact this
end Go.Proofs.YtijemkecjohagaaDoor
