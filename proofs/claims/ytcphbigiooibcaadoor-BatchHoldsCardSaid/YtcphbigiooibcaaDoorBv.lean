/- Walks of layer batch: ready, Verify, Wrong, of seals that may be. -/
import Derived.Test.YtcphbigiooibcaaDoorGb
import Derived.Test.YtcphbigiooibcaaDoorSv
namespace Go.Proofs.YtcphbigiooibcaaDoor
open Go.RowKit
set_option maxRecDepth 100000
set_option linter.unusedVariables false
set_option linter.unusedSimpArgs false
/-- Strings that lie in a row. -/
structure StrsAt (w : World) (b off : Nat) (l : List ByteArray) : Prop where
  lt : b < w.heap.size
  c : ∀ i (h : i < l.length), w.cell? ⟨b, off + i, none⟩ = some (.string l[i])
theorem StrsAt.below {w w' : World} {b off : Nat} {l : List ByteArray} (h : StrsAt w b off l) (hb : Below w.heap.size w w') : StrsAt w' b off l :=
  ⟨Nat.lt_of_lt_of_le h.lt hb.size, fun i hi => (hb.cell (p := ⟨b, off + i, none⟩) h.lt).trans (h.c i hi)⟩
/-- A value that is a slice of these strings. -/
def StrSl (w : World) (v : Value) (l : List ByteArray) : Prop := ∃ a cap, v = .slice a l.length cap ∧ (0 < l.length → ∃ b off, a = some ⟨b, off, none⟩ ∧ StrsAt w b off l)
theorem StrSl.below {w w' : World} {v : Value} {l : List ByteArray} (h : StrSl w v l) (hb : Below w.heap.size w w') : StrSl w' v l := by
  obtain ⟨a, cap, rfl, h⟩ := h
  exact ⟨a, cap, rfl, fun h0 => by obtain ⟨b, off, e, hs⟩ := h h0; exact ⟨b, off, e, hs.below hb⟩⟩
/-- Seals that lie in a row. -/
structure SlsAt (w : World) (b off : Nat) (l : List (Sp × Int)) : Prop where
  lt : b < w.heap.size
  cx : ∀ i (h : i < l.length), w.cell? ⟨b, off + i * 4, none⟩ = some (.int .i64 l[i].1.x)
  cy : ∀ i (h : i < l.length), w.cell? ⟨b, off + i * 4 + 1, none⟩ = some (.int .i64 l[i].1.y)
  cf : ∀ i (h : i < l.length), w.cell? ⟨b, off + i * 4 + 2, none⟩ = some (.bool l[i].1.far)
  cs : ∀ i (h : i < l.length), w.cell? ⟨b, off + i * 4 + 3, none⟩ = some (.int .i64 l[i].2)
theorem SlsAt.below {w w' : World} {b off : Nat} {l : List (Sp × Int)} (h : SlsAt w b off l) (hb : Below w.heap.size w w') : SlsAt w' b off l :=
  ⟨Nat.lt_of_lt_of_le h.lt hb.size, fun i hi => (hb.cell (p := ⟨b, off + i * 4, none⟩) h.lt).trans (h.cx i hi), fun i hi => (hb.cell (p := ⟨b, off + i * 4 + 1, none⟩) h.lt).trans (h.cy i hi), fun i hi => (hb.cell (p := ⟨b, off + i * 4 + 2, none⟩) h.lt).trans (h.cf i hi), fun i hi => (hb.cell (p := ⟨b, off + i * 4 + 3, none⟩) h.lt).trans (h.cs i hi)⟩
/-- A value that is a slice of these seals. -/
def SlSl (w : World) (v : Value) (l : List (Sp × Int)) : Prop := ∃ a cap, v = .slice a l.length cap ∧ (0 < l.length → ∃ b off, a = some ⟨b, off, none⟩ ∧ SlsAt w b off l)
theorem SlSl.below {w w' : World} {v : Value} {l : List (Sp × Int)} (h : SlSl w v l) (hb : Below w.heap.size w w') : SlSl w' v l := by
  obtain ⟨a, cap, rfl, h⟩ := h
  exact ⟨a, cap, rfl, fun h0 => by obtain ⟨b, off, e, hs⟩ := h h0; exact ⟨b, off, e, hs.below hb⟩⟩
/-- A seal to be looked at, and what is left of it (so many times the base's fourth). -/
structure It where
  key : Sp
  t : ByteArray
  R : Sp
  S : Int
  e : Int
def It.ok (x : It) : Prop := ∃ a r, x.key = sq a ∧ x.R = sq r ∧ x.e = 4 * x.S + -(r + a * askN x.R x.key x.t.data.toList) ∧ x.t.size ≤ 60 ∧ 0 ≤ x.S ∧ x.S < 1013
theorem off_e (key R Z : Sp) (t : ByteArray) (S e : Int) (w : World) (hF : FarAt w) (h : Hid (It.ok ⟨key, t, R, S, e⟩)) (hZ : Hid (sq e = Z)) :
    Calls Tryd.prog 79 #[spV key, .string t, slV R S] w fun e w' => e = .returned (spV Z) ∧ Below w.heap.size w w' := by
  obtain ⟨a, r, ha, hr, he, hz, s0, s1⟩ := h.out
  simp only at ha hr he hz s0 s1
  have oR : Ok R := ok_of hr
  have oK : Ok key := ok_of ha
  refine sealOff_ok key R _ _ (sq (r + a * askN R key t.data.toList)) _ Z a _ S t w hF oK oR hz rfl ha rfl rfl ?_ rfl ?_ (sq_ok _) (sq_ok _) (sq_ok _) (turned_ok (sq_ok _)).1
  · show _ = _; rw [hr, sq_add]
  · show _ = _; rw [sq_neg, sq_add, ← hZ.out, he]
theorem chk_e (key R : Sp) (t : ByteArray) (S e : Int) (w : World) (hF : FarAt w) (h : Hid (It.ok ⟨key, t, R, S, e⟩)) :
    Calls Tryd.prog 78 #[spV key, .string t, slV R S] w fun e w' => e = .returned .nilIface ∧ Below w.heap.size w w' := by
  obtain ⟨a, r, ha, hr, he, hz, s0, s1⟩ := h.out
  exact sealCheck_ok key R S t w hF (ok_of ha) (ok_of hr) hz s0 s1
theorem vfy_e (key R : Sp) (t : ByteArray) (S e : Int) (b : Bool) (w : World) (hF : FarAt w) (h : Hid (It.ok ⟨key, t, R, S, e⟩)) (hb : Hid ((sq e).far = b)) :
    Calls Tryd.prog 20 #[spV key, .string t, slV R S] w fun e w' => e = .returned (.tuple #[.bool b, .nilIface]) ∧ Below w.heap.size w w' := by
  obtain ⟨a, r, ha, hr, he, hz, s0, s1⟩ := h.out
  simp only at ha hr he hz s0 s1
  exact verify_e key R a r _ S b t w hF hz s0 s1 ha hr rfl (by rw [← he]; exact hb)
set_option maxHeartbeats 1000000 in
theorem bready_e (n : Nat) (a1 a2 a3 : Option Addr) (c1 c2 c3 : Nat) (w : World) (h : n ≤ 12) :
    Calls Tryd.prog 80 #[.slice a1 n c1, .slice a2 n c2, .slice a3 n c3] w fun e w' => e = .returned .nilIface ∧ Below w.heap.size w w' := by
  have hd : decide ((12 : Int) < (n : Int)) = false := by rw [decide_eq_false_iff_not]; omega
  go_enter Tryd.func80, Tryd.ntmps80
  go_wp2
  go_ret
  exact ⟨rfl, Below.refl _ _⟩
set_option maxHeartbeats 8000000 in
theorem bverify_e (L : List It) (ws : List Int) (v1 v2 v3 v4 : Value) (B : Bool) (w : World) (hF : FarAt w) (hl : L.length ≤ 12) (hw : ws.length = L.length) (hok : ∀ i (h : i < L.length), It.ok L[i]) (hwo : ∀ i (h : i < ws.length), 1 ≤ ws[i] ∧ ws[i] < 1013)
    (h1 : SpSl w v1 (L.map (·.key))) (h2 : StrSl w v2 (L.map (·.t))) (h3 : SlSl w v3 (L.map fun x => (x.R, x.S))) (h4 : IntSl w v4 ws) (hB : Hid ((sq (dot (L.map (·.e)) ws)).far = B)) :
    Calls Tryd.prog 21 #[v1, v2, v3, v4] w fun e w' => e = .returned (.tuple #[.bool B, .nilIface]) ∧ Below w.heap.size w w' := by
  obtain ⟨a1, c1, rfl, h1⟩ := h1
  obtain ⟨a2, c2, rfl, h2⟩ := h2
  obtain ⟨a3, c3, rfl, h3⟩ := h3
  obtain ⟨a4, c4, rfl, h4⟩ := h4
  rw [hw]
  simp only [List.length_map] at h1 h2 h3 ⊢
  have hE := Lib.hid (fun n (h : n < L.length) => dot_snoc (L.map (·.e)) ws n (by simpa using h) (by omega))
  replace hok := Lib.hid hok
  replace hwo := Lib.hid hwo
  replace hw := Lib.hid hw
  replace h1 := Lib.hid h1
  replace h2 := Lib.hid h2
  replace h3 := Lib.hid h3
  replace h4 := Lib.hid h4
  replace hF := Lib.hid hF
  go_enter Tryd.func21, Tryd.ntmps21
  go_wp2_with fail
  refine (bready_e L.length a1 a2 a3 c1 c2 c3 w hl).mono ?_; rintro e w1 ⟨rfl, hb1⟩
  have hB1 := Lib.hid hb1
  have hF1 := Lib.hid (hF.out.below hb1)
  have i1 := Lib.hid (fun hp => by obtain ⟨b, off, e, hs⟩ := h1.out hp; exact (⟨b, off, e, hs.below hb1⟩ : ∃ b off, a1 = some ⟨b, off, none⟩ ∧ SpotsAt w1 b off (L.map (·.key))))
  have i2 := Lib.hid (fun hp => by obtain ⟨b, off, e, hs⟩ := h2.out hp; exact (⟨b, off, e, hs.below hb1⟩ : ∃ b off, a2 = some ⟨b, off, none⟩ ∧ StrsAt w1 b off (L.map (·.t))))
  have i3 := Lib.hid (fun hp => by obtain ⟨b, off, e, hs⟩ := h3.out hp; exact (⟨b, off, e, hs.below hb1⟩ : ∃ b off, a3 = some ⟨b, off, none⟩ ∧ SlsAt w1 b off (L.map fun x => (x.R, x.S))))
  have i4 := Lib.hid (fun hp => by obtain ⟨b, off, e, hs⟩ := h4.out hp; exact (⟨b, off, e, hs.below hb1⟩ : ∃ b off, a4 = some ⟨b, off, none⟩ ∧ IntsAt w1 b off ws))
  clear h1 h2 h3 h4 hF hb1
  obtain ⟨q0, q1, q2, ql⟩ := hF1.out
  go_wp2
  clear q0 q1 q2 ql
  have hO := Lib.hid (SpAt.fresh w1 0 0 true 23)
  have hB2 := Lib.hid (below_alloc w1 (.cells #[.int .i64 0, .int .i64 0, .bool true] 23))
  generalize w1.alloc (.cells #[.int .i64 0, .int .i64 0, .bool true] 23) = w2 at *
  go_loopw [31] (fun i wr => ∃ n : Nat, n ≤ L.length ∧ i = .int .i64 n ∧ SpAt wr w1.heap.size (sq (dot ((L.map (·.e)).take n) ws)) ∧ Below w1.heap.size w1 wr) (fun i _ => L.length - (intOf i).toNat)
  case atStart => exact ⟨0, Nat.zero_le _, rfl, by rw [List.take_zero, dot_nil, sq_zero]; exact hO.out, hB2.out⟩
  case round =>
    clear hO hB2
    obtain ⟨n, hn, rfl, hP, hb⟩ := hrel
    replace hP := Lib.hid hP
    replace hb := Lib.hid hb
    by_cases hlt : n < L.length
    · obtain ⟨b1, o1, rfl, l1⟩ := i1.out (by simpa using (by omega : 0 < L.length))
      obtain ⟨b2, o2, rfl, l2⟩ := i2.out (by simpa using (by omega : 0 < L.length))
      obtain ⟨b3, o3, rfl, l3⟩ := i3.out (by simpa using (by omega : 0 < L.length))
      obtain ⟨b4, o4, rfl, l4⟩ := i4.out (by omega)
      have hd := hE.out n hlt
      have hok1 := hok.out n hlt
      obtain ⟨y1, y2⟩ := hwo.out n (by rw [hw.out]; exact hlt)
      have l1 := Lib.hid l1
      have l2 := Lib.hid l2
      have l3 := Lib.hid l3
      have l4 := Lib.hid l4
      have hA : Hid (∀ w', Below w1.heap.size w1 w' → w'.cell? ⟨b1, o1 + n * 3, none⟩ = some (.int .i64 L[n].key.x) ∧ w'.cell? ⟨b1, o1 + n * 3 + 1, none⟩ = some (.int .i64 L[n].key.y) ∧ w'.cell? ⟨b1, o1 + n * 3 + 2, none⟩ = some (.bool L[n].key.far) ∧
          w'.cell? ⟨b2, o2 + n, none⟩ = some (.string L[n].t) ∧ w'.cell? ⟨b3, o3 + n * 4, none⟩ = some (.int .i64 L[n].R.x) ∧ w'.cell? ⟨b3, o3 + n * 4 + 1, none⟩ = some (.int .i64 L[n].R.y) ∧ w'.cell? ⟨b3, o3 + n * 4 + 2, none⟩ = some (.bool L[n].R.far) ∧ w'.cell? ⟨b3, o3 + n * 4 + 3, none⟩ = some (.int .i64 L[n].S) ∧
          w'.cell? ⟨b4, o4 + n, none⟩ = some (.int .i64 (ws[n]'(by rw [hw.out]; exact hlt))) ∧ b1 < w'.heap.size ∧ b2 < w'.heap.size ∧ b3 < w'.heap.size ∧ b4 < w'.heap.size) := Lib.hid (fun w' hb => by
        have k1 := l1.out.below hb
        have k2 := l2.out.below hb
        have k3 := l3.out.below hb
        have k4 := l4.out.below hb
        have e1 := k1.cx n (by simpa using hlt)
        have e2 := k1.cy n (by simpa using hlt)
        have e3 := k1.cf n (by simpa using hlt)
        have e4 := k2.c n (by simpa using hlt)
        have e5 := k3.cx n (by simpa using hlt)
        have e6 := k3.cy n (by simpa using hlt)
        have e7 := k3.cf n (by simpa using hlt)
        have e8 := k3.cs n (by simpa using hlt)
        have e9 := k4.c n (by rw [hw.out]; exact hlt)
        simp only [List.getElem_map] at e1 e2 e3 e4 e5 e6 e7 e8 e9
        exact ⟨e1, e2, e3, e4, e5, e6, e7, e8, e9, k1.lt, k2.lt, k3.lt, k4.lt⟩)
      rw [List.getElem_map] at hd
      clear l1 l2 l3 l4
      generalize L[n] = I at *
      obtain ⟨A, t, R, S, f⟩ := I
      simp only at hA hd y1 y2
      generalize ws[n] = c at *
      replace hok1 := Lib.hid hok1
      obtain ⟨Z, hZ⟩ : ∃ Z, sq f = Z := ⟨_, rfl⟩
      obtain ⟨C, hC⟩ : ∃ C, sq (f * c) = C := ⟨_, rfl⟩
      obtain ⟨D, hD⟩ : ∃ D, sSum (sq (dot ((L.map (·.e)).take n) ws)) C = D := ⟨_, rfl⟩
      have oP := sq_ok (dot ((L.map (·.e)).take n) ws)
      have hDe : Hid (sq (dot ((L.map (·.e)).take (n + 1)) ws) = D) := Lib.hid (by rw [hd, ← sq_add, hC]; exact hD)
      clear hd
      generalize sq (dot ((L.map (·.e)).take n) ws) = P at *
      have oC : Ok C := by rw [← hC]; exact sq_ok _
      replace hZ := Lib.hid hZ
      replace hC := Lib.hid hC
      replace hD := Lib.hid hD
      have hZ' := Lib.hid hZ.out.symm
      obtain ⟨e1, e2, e3, e4, e5, e6, e7, e8, e9, g1, g2, g3, g4⟩ := hA.out wr hb.out
      have hFr := Lib.hid (hF1.out.below hb.out)
      go_wp2_with fail
      refine wp_region_grow Tryd.mixed (by kernel_rfl) ?_
      repeat (quiet_step ((go_at_call 78; exact grow_of (chk_e A R t S f _ (hFr.out.below (below_seq (below_alloc _ _) (Grew.h _))) hok1))))
      refine wpQuiet_nil ?_
      intro _ hw'
      obtain ⟨x, rfl⟩ := hw'
      clear e1 e2 e3 e4 e5 e6 e7 e8 e9 g1 g2 g3 g4
      have hx := Lib.hid (below_seq (below_alloc _ _) x.h)
      have hk := (SpAt.fresh wr A.x A.y A.far 23).below x.h
      have hby := Lib.hid (below_seq hb.out hx.out)
      have hPy := Lib.hid (hP.out.below hx.out)
      have hFy := Lib.hid (hFr.out.below hx.out)
      have zy := hx.out.size
      obtain ⟨e1, e2, e3, e4, e5, e6, e7, e8, e9, g1, g2, g3, g4⟩ := hA.out _ hby.out
      obtain ⟨k0, k1, k2, -, -, -, kl⟩ := hk
      clear hA hFr hP hx hb
      generalize hyw : x.w = y at *
      clear hyw x
      go_wp2_with fail
      refine (secret_y c _ y1 y2).mono ?_; rintro e w' ⟨rfl, rfl⟩
      obtain ⟨p0, p1, p2, p3, p4, p5, pl⟩ := hPy.out
      go_wp2_with fail
      refine wp_region_grow_tail 17 Tryd.mixed (by kernel_rfl) ?_
      simp only [List.take_succ_cons, List.take_zero, List.drop_succ_cons, List.drop_zero]
      repeat (quiet_step (first | (go_at_call 79; exact grow_of (off_e A R Z t S f _ (hFy.out.below (Grew.h _)) hok1 hZ)) | (go_at_call 76; exact grow_of (of_e Z C f c _ (hFy.out.below (Grew.h _)) hZ' hC)) | (go_at_call 75; exact grow_of (sum_e P C D _ (hFy.out.below (Grew.h _)) oP oC hD))))
      refine wpQuiet_nil ?_
      intro _ hw'
      obtain ⟨x, rfl⟩ := hw'
      have hx := Lib.hid x.h
      have hP2 := hPy.out.below hx.out
      clear p0 p1 p2 p3 p4 p5 pl e1 e2 e3 e4 e5 e6 e7 e8 e9
      obtain ⟨p0, p1, p2, p3, p4, p5, p6⟩ := hP2
      go_wp2
      go_roundw
      case rel => exact ⟨n + 1, by omega, by go_num, by rw [hDe.out]; exact (hPy.out.below hx.out).set3 D, set3_below (below_seq hby.out hx.out) (Nat.le_refl _)⟩
      case measure => simp [intOf]; omega
    · obtain rfl : n = L.length := by omega
      have hPJ : (L.map (·.e)).take L.length = L.map (·.e) := List.take_of_length_le (by simp)
      rw [hPJ] at hP
      obtain ⟨J, hJ⟩ : ∃ J, sq (dot (L.map (·.e)) ws) = J := ⟨_, rfl⟩
      rw [hJ] at hP hB
      obtain ⟨p0, p1, p2, -, -, -, -⟩ := hP.out
      rw [hB.out] at p2
      clear hPJ hJ
      have hBr := Lib.hid (below_seq hB1.out hb.out)
      go_wp2
      go_ret2
      exact ⟨rfl, hBr.out⟩
end Go.Proofs.YtcphbigiooibcaaDoor
