/- The statement of QuorumSeals: for every input the law returns true, and the arguments read as they did. (its listed variable reads as laid; the card ties it) -/
import Derived.Test.YtnlaofapjldciaaDoorSm
import Derived.Test.YtnlaofapjldciaaDoorQj
import Derived.Test.YtnlaofapjldciaaDoorAp
import Derived.Test.YtnlaofapjldciaaDoorKe
import Derived.Test.YtnlaofapjldciaaDoorGt
import Derived.Laws.Entries
import Derived.Test.YtnlaofapjldciaaDoorFr
import Derived.Test.YtnlaofapjldciaaDoorFs
import Derived.SizedLaws
import Derived.Test.YtnlaofapjldciaaDoorTie
import Derived.Test.YtnlaofapjldciaaDoorCards
import Derived.Test.YtnlaofapjldciaaDoorFar
import Derived.Test.YtnlaofapjldciaaDoorJf
import Derived.SevenTiedAt
namespace Go.Proofs.YtnlaofapjldciaaDoor
open Go.RowKit
set_option linter.unusedVariables false
theorem dot_usum (d : Int) (Z : List (Int × Int)) (ws : List Int) (hw : ws.length = Z.length) : ∀ n, n ≤ Z.length → dot ((Z.map (fun s => d * s.2)).take n) ws = d * usum ws (Z.map (fun s => s.2)) n
  | 0, _ => by rw [List.take_zero, dot_nil, usum, Int.mul_zero]
  | n + 1, h => by
    rw [dot_snoc _ ws n (by rw [List.length_map]; omega) (by omega), dot_usum d Z ws hw n (by omega), usum, gD (show n < ws.length by omega), gD (show n < (Z.map (fun s => s.2)).length by rw [List.length_map]; omega), List.getElem_map, List.getElem_map, Int.mul_add]
    congr 1
    rw [Int.mul_assoc, Int.mul_comm Z[n].2]
theorem pick_sq {l : List Int} {ps : List Nat} {n : Nat} (d c : Int) (hd : d = 4 * c) (hn : n ≤ 12) (hp : ∀ p ∈ ps, p < n) (hnd : ps.Nodup) (hl1 : 1 ≤ l.length) (hok : l.all okR = true) (hlen : l.length ≤ ps.length) :
    sq (dot ((pickL l ps).map (fun s => d * s.2)) (wgts ((pickL l ps).map (fun s => s.1)))) = sq (d * l[0]) := by
  have ht := pickL_tells hn hp hnd hl1 hok hlen
  have hw : (wgts ((pickL l ps).map (fun s => s.1))).length = (pickL l ps).length := by rw [wgts_len, List.length_map]
  have h1 := dot_usum d (pickL l ps) (wgts ((pickL l ps).map (fun s => s.1))) hw (pickL l ps).length (Nat.le_refl _)
  rw [List.take_of_length_le (by rw [List.length_map]; exact Nat.le_refl _)] at h1
  rw [h1]
  have h2 : usum (wgts ((pickL l ps).map (fun s => s.1))) ((pickL l ps).map (fun s => s.2)) (pickL l ps).length % (1013 : Int) = l[0] := by rw [← usum_csum]; exact ht
  generalize usum (wgts ((pickL l ps).map (fun s => s.1))) ((pickL l ps).map (fun s => s.2)) (pickL l ps).length = U at *
  subst hd
  refine sq_eq_iff.mpr ?_
  generalize l[0] = a at *
  have e : U = 1013 * (U / 1013) + a := by omega
  generalize U / 1013 = q at *
  subst e
  have e2 : 4 * c * (1013 * q + a) = 4052 * (c * q) + 4 * c * a := by grind
  rw [e2]
  generalize c * q = r
  generalize 4 * c * a = t
  omega
/-- The parts at the places picked. -/
def pickP (d : Int) (l : List Int) (ps : List Nat) : List Sp := ((pickL l ps).map (fun s => d * s.2)).map sq
theorem pickP_snoc (d : Int) (l : List Int) (ps : List Nat) (p : Nat) : pickP d l (ps ++ [p]) = pickP d l ps ++ [sq (d * val ((p + 1 : Nat) : Int) l)] := by simp [pickP, pickL]
theorem pickP_len (d : Int) (l : List Int) (ps : List Nat) : (pickP d l ps).length = ps.length := by simp [pickP, pickL]
def pickX (l : List Int) (ps : List Nat) : List Int := (pickL l ps).map (fun s => s.1)
theorem pickX_snoc (l : List Int) (ps : List Nat) (p : Nat) : pickX l (ps ++ [p]) = pickX l ps ++ [((p + 1 : Nat) : Int)] := by simp [pickX, pickL]
theorem pickX_len (l : List Int) (ps : List Nat) : (pickX l ps).length = ps.length := by simp [pickX, pickL]
/-- Parts of enough of them, joined. -/
theorem pjoin (d c : Int) (hd : d = 4 * c) {l : List Int} {ps : List Nat} {n : Nat} (hn : n ≤ 12) (hp : ∀ p ∈ ps, p < n) (hnd : ps.Nodup) (hl1 : 1 ≤ l.length) (hok : l.all okR = true) (hlen : l.length ≤ ps.length) (R : Sp) (hR : Hid (sq (d * l[0]) = R)) (v1 v2 : Value) (w : World) (hF : FarAt w) (h1 : IntSl w v1 (pickX l ps)) (hv : CapOk v1) (h2 : SpSl w v2 (pickP d l ps)) :
    Calls Tryd.prog 32 #[v1, v2] w fun e w' => e = .returned (.tuple #[spV R, .nilIface]) ∧ Below w.heap.size w w' := by
  have hpn := nodup_lt n ps hnd hp
  have hXl := pickX_len l ps
  have hps : ∀ i (h : i < (pickX l ps).length), i < (pickL l ps).length := fun i h => by rw [pickL_len]; omega
  refine qjoin_y (pickX l ps) ((pickL l ps).map (fun s => d * s.2)) (pickP d l ps) v1 v2 R w hF (by omega) (by omega) (by rw [List.length_map, pickL_len, hXl]) (fun i h => ?_) (fun i j hi hj hij => ?_) h1 hv h2 (Lib.hid rfl) (Lib.hid ?_)
  · simp only [pickX, List.getElem_map]
    have := pickL_ok (l := l) hn hp i (hps i h)
    exact ⟨this.1, this.2.1⟩
  · simp only [pickX, List.getElem_map]
    exact pickL_ne hnd i j (hps i hi) (hps j hj) hij
  · rw [← hR.out]; exact pick_sq d c hd hn hp hnd hl1 hok hlen
end Go.Proofs.YtnlaofapjldciaaDoor
namespace Go.Proofs.YtnlaofapjldciaaDoor
open Go.RowKit
set_option maxRecDepth 100000
set_option linter.unusedVariables false
set_option linter.unusedSimpArgs false
theorem below_up {w4 w w' : World} (h : Below w4.heap.size w4 w) (hb : Below (w4.heap.size + 1) w w') : Below w4.heap.size w4 w' := h.trans (hb.mono (Nat.le_succ _))
set_option maxHeartbeats 16000000 in
theorem qs_all (l pk : List Int) (v1 v2 : Value) (n : Int) (t : ByteArray) (ja j : Int) (Ha H : Sp) (w : World) (hF : FarAt w) (hpk : ∀ x ∈ pk, -9223372036854775808 ≤ x ∧ x ≤ 9223372036854775807) (h1 : IntSl w v1 l) (h2 : IntSl w v2 pk) (m1 : l.length ≤ 9223372036854775807) (m2 : pk.length ≤ 9223372036854775807) (hz : t.size ≤ 140737488351232)
    (hHa : Hid (hSpot (⟨#[97]⟩ : ByteArray).data.toList = Ha)) (hja : Hid (Ha = sq (4 * ja))) (hja2 : Hid (sq (4 * ja * 1) = Ha)) (hH : Hid (hSpot t.data.toList = H)) (hj : Hid (H = sq (4 * j))) :
    Calls Tryd.prog 5 #[v1, .int .i64 n, v2, .string t] w fun e w' => e = .returned (.bool true) ∧ Below w.heap.size w w' := by
  have hA := Lib.hid (split_is l v1 n m1)
  obtain ⟨a1, c1, rfl, i1⟩ := id h1
  obtain ⟨a2, c2, rfl, i2⟩ := h2
  have hF' := Lib.hid hF
  replace h1 := Lib.hid h1
  replace i1 := Lib.hid i1
  replace i2 := Lib.hid i2
  replace hpk := Lib.hid hpk
  go_enter Tryd.func5, Tryd.ntmps5
  go_wp2_with fail
  refine (part_y 1 1 ja ⟨#[97]⟩ Ha Ha _ (hF.below (by repeat (first | exact Below.refl _ _ | refine balloc ?_ _ | refine Below.drew ?_ | refine below_drewN ?_ _ | refine below_set ?_ (by first | omega | (dsimp only; omega)) _))) (by omega) (by omega) (by omega) (by omega) (by decide) hHa hja hja2).mono ?_; rintro e w1 ⟨rfl, hb⟩
  obtain ⟨hc1, hf1⟩ := bcell hb
  have z1 := hb.size
  try simp only [World.size_alloc, World.size_setCell, World.size_drew] at z1
  have hB1 : Below w.heap.size w w1 := below_seq (by repeat (first | exact Below.refl _ _ | refine balloc ?_ _ | refine Below.drew ?_ | refine below_drewN ?_ _ | refine below_set ?_ (by first | omega | (dsimp only; omega)) _)) hb
  clear hb
  go_wp2_with fail
  refine wp_region_grow Tryd.mixed (by kernel_rfl) ?_
  repeat (go_big_quiet_step ((first | (go_at_call 30; exact grow_of (hashSpot_e ⟨#[97]⟩ Ha _ (hF.below (below_seq (by repeat (first | exact hB1 | exact Below.refl _ _ | refine balloc ?_ _ | refine Below.drew ?_ | refine below_drewN ?_ _ | refine below_set ?_ (by first | omega | (dsimp only; omega)) _)) (Grew.h _))) (by decide) hHa)))))
  refine wpQuiet_nil ?_
  intro _ hw'
  obtain ⟨x2, rfl⟩ := hw'
  have z2 := x2.h.size
  try simp only [World.size_alloc, World.size_setCell, World.size_drew] at z2
  have s2_0 : w1.heap.size < x2.w.heap.size := by omega
  have hB2 : Below w.heap.size w x2.w := below_seq (by repeat (first | exact hB1 | exact Below.refl _ _ | refine balloc ?_ _ | refine Below.drew ?_ | refine below_drewN ?_ _ | refine below_set ?_ (by first | omega | (dsimp only; omega)) _)) x2.h
  rcases hA.out with ⟨E, hE, hS⟩ | ⟨m, rfl, p1, p2, l1, l2, hok, hS⟩
  · replace hS := Lib.hid hS
    go_wp2_with fail
    refine (hS.out _ (h1.out.below (by repeat (first | exact hB2 | exact Below.refl _ _ | refine balloc ?_ _ | refine Below.drew ?_ | refine below_drewN ?_ _ | refine below_set ?_ (by first | omega | (dsimp only; omega)) _)))).mono ?_; rintro e w3 ⟨rfl, hb⟩
    obtain ⟨hc3, hf3⟩ := bcell hb
    have z3 := hb.size
    try simp only [World.size_alloc, World.size_setCell, World.size_drew] at z3
    have s3_0 : w1.heap.size < w3.heap.size := by omega
    have hB3 : Below w.heap.size w w3 := below_seq (by repeat (first | exact hB2 | exact Below.refl _ _ | refine balloc ?_ _ | refine Below.drew ?_ | refine below_drewN ?_ _ | refine below_set ?_ (by first | omega | (dsimp only; omega)) _)) hb
    clear hb
    go_wp2
    go_ret
    exact ⟨rfl, (by repeat (first | exact hB3 | exact Below.refl _ _ | refine balloc ?_ _ | refine Below.drew ?_ | refine below_drewN ?_ _ | refine below_set ?_ (by first | omega | (dsimp only; omega)) _))⟩
  replace hS := Lib.hid hS
  go_wp2_with fail
  refine (hS.out _ (h1.out.below (by repeat (first | exact hB2 | exact Below.refl _ _ | refine balloc ?_ _ | refine Below.drew ?_ | refine below_drewN ?_ _ | refine below_set ?_ (by first | omega | (dsimp only; omega)) _)))).mono ?_; rintro e w3 ⟨vx, rfl, hx, hb⟩
  have hB3 := Lib.hid (below_seq (by repeat (first | exact hB2 | exact Below.refl _ _ | refine balloc ?_ _ | refine Below.drew ?_ | refine below_drewN ?_ _ | refine below_set ?_ (by first | omega | (dsimp only; omega)) _)) hb)
  by_cases ht : 60 < t.size
  · obtain ⟨ax, kx, rfl, hx4⟩ := hx
    clear hx4
    go_wp2
    go_ret
    exact ⟨rfl, hB3.out⟩
  have ht2 : t.size ≤ 60 := by omega
  have hpub := Lib.hid (public_c (splitL l m) vx w3 (hF.below hB3.out) (by rw [splitL_len]; exact p2) hx (fun i h => by rw [splitL_get]; rw [splitL_len] at h; have := val_bd ((i + 1 : Nat) : Int) l; simp only; omega))
  obtain ⟨ax, kx, rfl, hx4⟩ := hx
  rw [splitL_len] at hx4 hpub ⊢
  obtain ⟨bx, ox, rfl, hx5⟩ := hx4 (by omega)
  replace hx5 := Lib.hid hx5
  clear hx4 hb hS hA
  have hI1 := Lib.hid (fun w' (hb' : Below w3.heap.size w3 w') hp => by obtain ⟨b, off, e, hs⟩ := i1.out hp; exact (⟨b, off, e, (hs.below hB3.out).below hb'⟩ : ∃ b off, a1 = some ⟨b, off, none⟩ ∧ IntsAt w' b off l))
  have hI2 := Lib.hid (fun w' (hb' : Below w3.heap.size w3 w') hp => by obtain ⟨b, off, e, hs⟩ := i2.out hp; exact (⟨b, off, e, (hs.below hB3.out).below hb'⟩ : ∃ b off, a2 = some ⟨b, off, none⟩ ∧ IntsAt w' b off pk))
  clear hc1 hf1 hB1 hB2 h1 i1 i2
  have gl : decide (l.length < 1) = false := by rw [decide_eq_false_iff_not]; omega
  go_wp2_with fail
  refine hpub.out.mono ?_; rintro e w4 ⟨vp, rfl, hp, hb4⟩
  obtain ⟨ap, kp, rfl, hp4⟩ := hp
  rw [List.length_map, splitL_len] at hp4 ⊢
  obtain ⟨bp, op, rfl, hp5⟩ := hp4 (by omega)
  replace hp5 := Lib.hid hp5
  have hB4 := Lib.hid (below_seq hB3.out hb4)
  have hx6 := Lib.hid (hx5.out.below hb4)
  have e1 := Lib.hid (fun w' (hb' : Below w4.heap.size w4 w') hp => hI1.out w' (below_seq hb4 hb') hp)
  have e2 := Lib.hid (fun w' (hb' : Below w4.heap.size w4 w') hp => hI2.out w' (below_seq hb4 hb') hp)
  have hF4 := Lib.hid (hF'.out.below hB4.out)
  clear hp4 hb4 hx5 hI1 hI2 hpub hB3 hF
  have hga := Lib.hid (fun q (h : q < m) => splitL_get l m q (by rw [splitL_len]; exact h))
  have hgb := Lib.hid (fun q (h : q < m) (h' : q < ((splitL l m).map (fun s => sq (4 * s.2))).length) => (show ((splitL l m).map (fun s => sq (4 * s.2)))[q] = sq (4 * val ((q + 1 : Nat) : Int) l) by rw [List.getElem_map, splitL_get]))
  have hal := Lib.hid (splitL_len l m)
  replace hok := Lib.hid hok
  go_wp2
  have hI0 := Lib.hid (IsAt.fresh w4 13 #[.bool false, .bool false, .bool false, .bool false, .bool false, .bool false, .bool false, .bool false, .bool false, .bool false, .bool false, .bool false, .bool false] 58 rfl)
  have hB5 := Lib.hid (below_alloc w4 (.cells #[.bool false, .bool false, .bool false, .bool false, .bool false, .bool false, .bool false, .bool false, .bool false, .bool false, .bool false, .bool false, .bool false] 58))
  generalize w4.alloc (.cells #[.bool false, .bool false, .bool false, .bool false, .bool false, .bool false, .bool false, .bool false, .bool false, .bool false, .bool false, .bool false, .bool false] 58) = w5 at *
  go_loopw [14, 15, 16, 18] (fun o1 o2 o3 i wr => ∃ (k : Nat) (u1 u2 u3 : Value) (ps : List Nat), k ≤ pk.length ∧ i = .int .i64 k ∧ u1 = o1 ∧ u2 = o2 ∧ u3 = o3 ∧ ps.Nodup ∧ (∀ p ∈ ps, p < m) ∧ IsAt wr w4.heap.size 13 ps ∧ wr.ownsRow (w4.heap.size + 1) 3 1 u1 ps.length ((pickX l ps).map (Value.int .i64)) ∧ wr.ownsRow (w4.heap.size + 1) 24 3 u2 ps.length (spCells (pickP (4 * j) l ps)) ∧ wr.ownsRow (w4.heap.size + 1) 24 3 u3 ps.length (spCells (pickP 4 l ps)) ∧ Ap u1 u2 ∧ Ap u1 u3 ∧ Ap u2 u3 ∧ Below w4.heap.size w4 wr) (fun _ _ _ i _ => pk.length - (intOf i).toNat)
  case atStart => exact ⟨0, _, _, _, [], Nat.zero_le _, rfl, rfl, rfl, rfl, List.nodup_nil, fun p hp => absurd hp List.not_mem_nil, hI0.out, World.ownsRow_nil _ _ _ _, World.ownsRow_nil _ _ _ _, World.ownsRow_nil _ _ _ _, Ap.nil _, Ap.nil _, Ap.nil _, hB5.out⟩
  case round =>
    clear hI0 hB5
    obtain ⟨k, u1, u2, u3, ps, hk, rfl, rfl, rfl, rfl, hnd, hps, hI, r1, r2, r3, a12, a13, a23, hb⟩ := hrel
    replace r1 := Lib.hid r1
    replace r2 := Lib.hid r2
    replace r3 := Lib.hid r3
    replace a12 := Lib.hid a12
    replace a13 := Lib.hid a13
    replace a23 := Lib.hid a23
    replace hb := Lib.hid hb
    replace hnd := Lib.hid hnd
    replace hps := Lib.hid hps
    replace hI := Lib.hid hI
    by_cases hlt : k < pk.length
    · obtain ⟨b2, f2, rfl, l2'⟩ := e2.out w4 (Below.refl _ _) (by omega)
      have k1 := l2'.c k hlt
      have k2 := l2'.lt
      have hbd := hpk.out pk[k] (List.getElem_mem hlt)
      clear l2'
      generalize pk[k] = p at *
      have k1r := ((bcell hb.out).1 _ _ k2).trans k1
      have k2r := Nat.lt_of_lt_of_le k2 hb.out.size
      replace k1 := Lib.hid k1
      by_cases p0 : p < 0
      · go_wp2
        go_roundw
        case rel => exact ⟨k + 1, _, _, _, ps, by omega, by go_num, rfl, rfl, rfl, hnd.out, hps.out, hI.out, r1.out, r2.out, r3.out, a12.out, a13.out, a23.out, hb.out⟩
        case measure => simp [intOf]; omega
      obtain ⟨q, rfl⟩ : ∃ q : Nat, p = (q : Int) := ⟨p.toNat, by omega⟩
      by_cases p3 : (m : Int) ≤ (q : Int)
      · go_wp2
        go_roundw
        case rel => exact ⟨k + 1, _, _, _, ps, by omega, by go_num, rfl, rfl, rfl, hnd.out, hps.out, hI.out, r1.out, r2.out, r3.out, a12.out, a13.out, a23.out, hb.out⟩
        case measure => simp [intOf]; omega
      have hq : q < m := by omega
      have hq13 : q < 13 := by omega
      have j1 := hI.out.c q (by omega)
      have j2 := hI.out.f q (by omega)
      have j3 := hI.out.lt
      by_cases p4 : q ∈ ps
      · rw [decide_eq_true p4] at j1
        replace p4 := Lib.hid p4
        go_wp2
        go_roundw
        case rel => exact ⟨k + 1, _, _, _, ps, by omega, by go_num, rfl, rfl, rfl, hnd.out, hps.out, hI.out, r1.out, r2.out, r3.out, a12.out, a13.out, a23.out, hb.out⟩
        case measure => simp [intOf]; omega
      · rw [decide_eq_false p4] at j1
        have hx7 := hx6.out
        have x1 := hx7.cx q (by rw [hal.out]; exact hq)
        have x2 := hx7.cy q (by rw [hal.out]; exact hq)
        have x3 : bx < w4.heap.size := hx7.lt
        rw [hga.out q hq] at x1 x2
        simp only at x1 x2
        have hp6 := hp5.out
        have hpl : q < ((splitL l m).map (fun s => sq (4 * s.2))).length := by rw [List.length_map, hal.out]; exact hq
        have y1 := hp6.cx q hpl
        have y2 := hp6.cy q hpl
        have y3 := hp6.cf q hpl
        have y4 : bp < w4.heap.size := hp6.lt
        rw [hgb.out q hq hpl] at y1 y2 y3
        have hsx := Lib.hid (pickX_snoc l ps q)
        have hsp := Lib.hid (pickP_snoc (4 * j) l ps q)
        have hsk := Lib.hid (pickP_snoc 4 l ps q)
        have tx := Lib.hid (pickX_len l ps)
        have tp := Lib.hid (pickP_len (4 * j) l ps)
        have tk := Lib.hid (pickP_len 4 l ps)
        obtain ⟨v0, v1⟩ := val_bd ((q + 1 : Nat) : Int) l
        have hN : (1 : Int) ≤ ((q + 1 : Nat) : Int) ∧ ((q + 1 : Nat) : Int) < 1013 := by omega
        have hne : ¬ w4.heap.size = bx := by omega
        have hne2 : ¬ bx = w4.heap.size := by omega
        have hne3 : ¬ w4.heap.size = b2 := by omega
        have hne4 : ¬ b2 = w4.heap.size := by omega
        have hlw := hb.out.size
        have hnd2 : Hid ((ps ++ [q]).Nodup) := Lib.hid (by rw [List.nodup_append]; exact ⟨hnd.out, by simp, fun a ha b hb' => by simp at hb'; subst hb'; exact fun e => p4 (e ▸ ha)⟩)
        have hps2 : Hid (∀ p ∈ ps ++ [q], p < m) := Lib.hid (fun p hp => by rcases List.mem_append.mp hp with h | h; exact hps.out p h; simp at h; subst h; exact hq)
        have htn : Hid (ps.length ≤ m) := Lib.hid (nodup_lt m ps hnd.out hps.out)
        have htn2 : ps.length ≤ 12 := Nat.le_trans htn.out p2
        have hI2 := Lib.hid (hI.out.put q hq13)
        replace r1 := Lib.hid (ownsRow_setCell_below r1.out (a := ⟨w4.heap.size, q, none⟩) (Nat.lt_succ_self _) (.bool true))
        replace r2 := Lib.hid (ownsRow_setCell_below r2.out (a := ⟨w4.heap.size, q, none⟩) (Nat.lt_succ_self _) (.bool true))
        replace r3 := Lib.hid (ownsRow_setCell_below r3.out (a := ⟨w4.heap.size, q, none⟩) (Nat.lt_succ_self _) (.bool true))
        have hBs := Lib.hid (below_set (p := ⟨w4.heap.size, q, none⟩) hb.out (Nat.le_refl _) (.bool true))
        generalize hNe : ((q + 1 : Nat) : Int) = N at *
        generalize hVe : val N l = V at *
        obtain ⟨S, hS⟩ : ∃ S, sq (4 * j * V) = S := ⟨_, rfl⟩
        obtain ⟨G, hG⟩ : ∃ G, sq (4 * V) = G := ⟨_, rfl⟩
        rw [hG] at y1 y2 y3 hsk
        rw [hS] at hsp
        have hP := Lib.hid (fun w' (hb' : Below w4.heap.size w4 w') => (⟨((bcell hb').1 _ _ k2).trans k1.out, ((bcell hb').1 _ _ x3).trans x1, ((bcell hb').1 _ _ x3).trans x2, ((bcell hb').1 _ _ y4).trans y1, ((bcell hb').1 _ _ y4).trans y2, ((bcell hb').1 _ _ y4).trans y3, Nat.lt_of_lt_of_le k2 hb'.size, Nat.lt_of_lt_of_le x3 hb'.size, Nat.lt_of_lt_of_le y4 hb'.size⟩ :
          w'.cell? ⟨b2, f2 + k, none⟩ = some (.int .i64 q) ∧ w'.cell? ⟨bx, ox + q * 2, none⟩ = some (.int .i64 N) ∧ w'.cell? ⟨bx, ox + q * 2 + 1, none⟩ = some (.int .i64 V) ∧ w'.cell? ⟨bp, op + q * 3, none⟩ = some (.int .i64 G.x) ∧ w'.cell? ⟨bp, op + q * 3 + 1, none⟩ = some (.int .i64 G.y) ∧ w'.cell? ⟨bp, op + q * 3 + 2, none⟩ = some (.bool G.far) ∧ b2 < w'.heap.size ∧ bx < w'.heap.size ∧ bp < w'.heap.size))
        have x1r := ((bcell hb.out).1 _ _ x3).trans x1
        have x2r := ((bcell hb.out).1 _ _ x3).trans x2
        replace hS := Lib.hid hS
        replace hG := Lib.hid hG
        replace p4 := Lib.hid p4
        clear hx7 hp6 x1 x2 y1 y2 y3 hNe hVe hI hnd hps hpl
        go_wp2_with fail
        refine (part_y N V j t H S _ (hF4.out.below hBs.out) hN.1 hN.2 v0 v1 ht2 hH hj hS).mono ?_; rintro e w6 ⟨rfl, hb6⟩
        have hBa := Lib.hid (below_seq hBs.out hb6)
        have hIa := Lib.hid (hI2.out.below hb6 hI2.out.lt)
        replace r1 := Lib.hid (own_below r1.out hb6)
        replace r2 := Lib.hid (own_below r2.out hb6)
        replace r3 := Lib.hid (own_below r3.out hb6)
        have hz6 := hIa.out.lt
        have hup := Lib.hid (show some w6.heap.size ≠ u1.ownBlock from fun e => by have := (r1.out.lt _ e.symm).2; omega)
        have hsa := Lib.hid ((SpAt.fresh w6 S.x S.y S.far 24).alloc (.cells #[.int .i64 N] 3))
        clear hb6 hBs hI2 j1 j2 j3 k1r k2r x1r x2r hb hlw
        obtain ⟨k1', x1', x2', g1', g2', g3', k2', x3', g4'⟩ := hP.out _ hBa.out
        go_wp2_with (first
          | (at_builtin; refine wpl_append_int rfl _ _ _ rfl (by kernel_rfl) (w4.heap.size + 1) _ (pickX l ps) ps.length rfl ((r1.out.alloc _).alloc _) tx.out (by omega) (by simp only [World.size_alloc]; omega) _ N rfl (by go_simp) ?_; intro u1' w7 r1' hgrow hbel hloc; have s0 := hgrow.cell hsa.out.c0 hup.out; have s1 := hgrow.cell hsa.out.c1 hup.out; have s2 := hgrow.cell hsa.out.c2 hup.out; obtain ⟨r2', a12'⟩ := row_pair ((r2.out.alloc _).alloc _) a12.out hgrow hloc; obtain ⟨r3', a13'⟩ := row_pair ((r3.out.alloc _).alloc _) a13.out hgrow hloc; have hIb := Lib.hid ((((hIa.out.below (below_alloc _ _) hIa.out.lt).below (below_alloc _ _) (by simp only [World.size_alloc]; omega))).below (hbel _ (Below.refl _ _)) (Nat.lt_succ_self _)); have hBb := Lib.hid (below_up (balloc (balloc hBa.out _) _) (hbel _ (Below.refl _ _))); have zg := hgrow.size; simp only [World.size_alloc] at zg; replace r1' := Lib.hid r1'; replace r2' := Lib.hid r2'; replace r3' := Lib.hid r3'; replace a12' := Lib.hid a12'; replace a13' := Lib.hid a13'; clear hgrow hloc hbel r1 r2 r3 a12 a13 hIa hBa k1' x1' x2' g1' g2' g3' k2' x3' g4'; obtain ⟨k1', x1', x2', g1', g2', g3', k2', x3', g4'⟩ := hP.out _ hBb.out)
          | (at_builtin; refine wpl_append_spot rfl _ _ _ rfl (by kernel_rfl) (w4.heap.size + 1) _ (pickP (4 * j) l ps) ps.length rfl (r2'.out.alloc _) tp.out (by omega) (by simp only [World.size_alloc]; omega) _ S rfl (by go_simp) (by go_simp) (by go_simp) ?_; intro u2' w8 r2'' hgrow hbel hloc; obtain ⟨r1'', a21'⟩ := row_pair (r1'.out.alloc _) a12'.out.symm hgrow hloc; obtain ⟨r3'', a23'⟩ := row_pair (r3'.out.alloc _) a23.out hgrow hloc; have hIc := Lib.hid ((hIb.out.below (below_alloc _ _) hIb.out.lt).below (hbel _ (Below.refl _ _)) (Nat.lt_succ_self _)); have hBc := Lib.hid (below_up (balloc hBb.out _) (hbel _ (Below.refl _ _))); have zh := hgrow.size; simp only [World.size_alloc] at zh; replace r1'' := Lib.hid r1''; replace r2'' := Lib.hid r2''; replace r3'' := Lib.hid r3''; replace a21' := Lib.hid a21'; replace a23' := Lib.hid a23'; clear hgrow hloc hbel r1' r2' r3' a12' a23 hIb hBb k1' x1' x2' g1' g2' g3' k2' x3' g4' s0 s1 s2; obtain ⟨k1', x1', x2', g1', g2', g3', k2', x3', g4'⟩ := hP.out _ hBc.out)
          | (at_builtin; refine wpl_append_spot rfl _ _ _ rfl (by kernel_rfl) (w4.heap.size + 1) _ (pickP 4 l ps) ps.length rfl (r3''.out.alloc _) tk.out (by omega) (by simp only [World.size_alloc]; omega) _ G rfl (by go_simp) (by go_simp) (by go_simp) ?_; intro u3' w9 r3n hgrow hbel hloc; obtain ⟨r1n, a31⟩ := row_pair (r1''.out.alloc _) a13'.out.symm hgrow hloc; obtain ⟨r2n, a32⟩ := row_pair (r2''.out.alloc _) a23'.out.symm hgrow hloc; have hId := Lib.hid ((hIc.out.below (below_alloc _ _) hIc.out.lt).below (hbel _ (Below.refl _ _)) (Nat.lt_succ_self _)); have hBd := Lib.hid (below_up (balloc hBc.out _) (hbel _ (Below.refl _ _))); replace r1n := Lib.hid r1n; replace r2n := Lib.hid r2n; replace r3n := Lib.hid r3n; replace a31 := Lib.hid a31; replace a32 := Lib.hid a32; clear hgrow hloc hbel r1'' r2'' r3'' a13' a23' hIc hBc k1' x1' x2' g1' g2' g3' k2' x3' g4')
          | fail)
        go_wp2
        go_roundw
        case rel => exact ⟨k + 1, _, _, _, ps ++ [q], by omega, by go_num, rfl, rfl, rfl, hnd2.out, hps2.out, hId.out, by rw [List.length_append, hsx.out]; exact r1n.out, by rw [List.length_append, hsp.out]; exact r2n.out, by rw [List.length_append, hsk.out]; exact r3n.out, a21'.out.symm, a31.out.symm, a32.out.symm, hBd.out⟩
        case measure => simp [intOf]; omega
    · obtain rfl : k = pk.length := by omega
      clear hI hpk hx6 hp5 hga hgb hal
      obtain ⟨wA, rfl⟩ : ∃ x : World, x = wr := ⟨_, rfl⟩
      have htn := nodup_lt m ps hnd.out hps.out
      obtain ⟨b1, f1, rfl, l1'⟩ := e1.out wA hb.out (by omega)
      have t1 := l1'.c 0 (by omega)
      have t2 := l1'.lt
      rw [Nat.add_zero] at t1
      have hc0 := okR_y (all_okR hok.out 0 l1)
      have hBr := Lib.hid (below_seq hB4.out hb.out)
      have hFb := Lib.hid (hF'.out.below hBr.out)
      have hIv := Lib.hid (own_ints r1.out (pickX_len l ps).symm)
      have hcap := Lib.hid (own_cap r1.out)
      have hS2 := Lib.hid (own_spots r2.out (pickP_len (4 * j) l ps).symm)
      have hS3 := Lib.hid (own_spots r3.out (pickP_len 4 l ps).symm)
      obtain ⟨au, cu, rfl⟩ := own_sl r1.out
      clear l1' e1 e2 r1 r2 r3 a12 a13 a23 hB4 hF4 hb
      by_cases q1 : ps.length < l.length
      · go_wp2
        go_ret
        exact ⟨rfl, hBr.out⟩
      obtain ⟨S0, hS0⟩ : ∃ S0, sq (4 * j * l[0]) = S0 := ⟨_, rfl⟩
      obtain ⟨K0, hK0⟩ : ∃ K0, sq (4 * l[0]) = K0 := ⟨_, rfl⟩
      have hJ1 := Lib.hid (fun (w : World) hF h1 h2 => pjoin (4 * j) j rfl p2 hps.out hnd.out l1 hok.out (by omega) S0 hS0 (.slice au ps.length cu) u2 w hF h1 hcap.out h2)
      have hJ2 := Lib.hid (fun (w : World) hF h1 h2 => pjoin 4 1 rfl p2 hps.out hnd.out l1 hok.out (by omega) K0 hK0 (.slice au ps.length cu) u3 w hF h1 hcap.out h2)
      have q2 : decide (ps.length < l.length) = false := decide_eq_false q1
      replace hok := Lib.hid hok
      replace hS0 := Lib.hid hS0
      replace hK0 := Lib.hid hK0
      generalize l[0] = x0 at *
      by_cases z : x0 = 0
      · subst z
        clear hJ1 hJ2
        go_wp2
        go_ret
        exact ⟨rfl, hBr.out⟩
      have z1 : 1 ≤ x0 := by omega
      have z2 : x0 < 1013 := hc0.2
      clear hnd hps hcap
      go_wp2_with fail
      refine (hJ1.out _ hFb.out hIv.out hS2.out).mono ?_; rintro e w6 ⟨rfl, hb6⟩
      have hq6 := Lib.hid (SpAt.fresh w6 S0.x S0.y S0.far 24)
      have hB6 := Lib.hid (balloc hb6 (.cells #[.int .i64 S0.x, .int .i64 S0.y, .bool S0.far] 24))
      clear hb6 hJ1 hS2
      go_wp2_with fail
      refine (hJ2.out _ (hFb.out.below hB6.out) (hIv.out.below hB6.out) (hS3.out.below hB6.out)).mono ?_; rintro e w7 ⟨rfl, hb7⟩
      have hq7 := Lib.hid ((hq6.out.below hb7).alloc (.cells #[.int .i64 K0.x, .int .i64 K0.y, .bool K0.far] 24))
      have hk7 := Lib.hid (SpAt.fresh w7 K0.x K0.y K0.far 24)
      have hB7 := Lib.hid (balloc (below_seq hB6.out hb7) (.cells #[.int .i64 K0.x, .int .i64 K0.y, .bool K0.far] 24))
      have t7 := ((bcell (below_seq hB6.out hb7)).1 _ _ t2).trans t1
      have t7l := Nat.lt_of_lt_of_le t2 (below_seq hB6.out hb7).size
      clear hb7 hJ2 hq6 hIv hS3
      go_wp2_with fail
      refine (short_y x0 j t H S0 _ (hFb.out.below hB7.out) z1 z2 ht2 hH hj hS0).mono ?_; rintro e w8 ⟨rfl, hb8⟩
      have hq8 := Lib.hid ((hq7.out.below hb8).alloc (.cells #[.int .i64 S0.x, .int .i64 S0.y, .bool S0.far] 24))
      have hk8 := Lib.hid ((hk7.out.below hb8).alloc (.cells #[.int .i64 S0.x, .int .i64 S0.y, .bool S0.far] 24))
      have hr8 := Lib.hid (SpAt.fresh w8 S0.x S0.y S0.far 24)
      have hB8 := Lib.hid (balloc (below_seq hB7.out hb8) (.cells #[.int .i64 S0.x, .int .i64 S0.y, .bool S0.far] 24))
      have t8 := ((bcell (below_seq hB7.out hb8)).1 _ _ t2).trans t1
      have t8l := Nat.lt_of_lt_of_le t2 (below_seq hB7.out hb8).size
      clear hb8 hq7 hk7 t7 t7l
      go_wp2_with fail
      refine (key_e x0 K0 _ (hFb.out.below hB8.out) z1 z2 hK0).mono ?_; rintro e w9 ⟨rfl, hb9⟩
      obtain ⟨s0, s1, s2, -, -, -, s3⟩ := hq8.out.below hb9
      obtain ⟨k0, k1, k2, -, -, -, k3⟩ := hk8.out.below hb9
      obtain ⟨j0, j1, j2, -, -, -, j3⟩ := hr8.out.below hb9
      have hB9 := Lib.hid (below_seq hB8.out hb9)
      clear hb9 hq8 hk8 hr8 t8 t8l t1
      go_wp2
      go_ret
      exact ⟨rfl, below_seq hBr.out (by repeat (first | exact hB9.out | refine balloc ?_ _ | refine Below.drew ?_))⟩
theorem quorumSeals_law (v1 : Value) (n : Int) (hn : (Lit.int .i64 n).wf = true) (v2 : Value) (t : ByteArray) (hz : t.size ≤ 140737488351232) (w : World) (q1 : IntsV w v1) (q2 : IntsV w v2) (hF : FarAt w) :
    Calls Tryd.prog 5 #[v1, .int .i64 n, v2, .string t] w fun e w' => e = .returned (.bool true) ∧ Below w.heap.size w w' := by
  obtain ⟨a, h1, m1, -⟩ := q1.sl
  obtain ⟨b, h2, m2, hw⟩ := q2.sl
  obtain ⟨ja, -, -, ea⟩ := hSpot_four (⟨#[97]⟩ : ByteArray).data.toList
  obtain ⟨j, -, -, e⟩ := hSpot_four t.data.toList
  exact qs_all a b v1 v2 n t ja j _ _ w hF (fun x hx => ⟨(by have := hw x hx; simp [Lit.wf] at this; exact this.1), (by have := hw x hx; simp [Lit.wf] at this; exact this.2)⟩) h1 h2 m1 m2 hz rfl ea (by rw [Int.mul_one]; exact ea.symm) rfl e
end Go.Proofs.YtnlaofapjldciaaDoor
namespace Go.Proofs.YtnlaofapjldciaaDoor.quorumSeals
open Go.ChangeShapes Go.WideShapes Go.ChangeAt Go.RowKit
set_option linter.unusedVariables false
theorem typesOk : ([22, 3, 22, 9].all fun t => Tryd.prog.readableRec t && decide (t < Tryd.prog.types.size)) = true := by kernel_rfl
set_option maxRecDepth 100000 in
theorem lifted (os : Os) (started : os.Started) (H : Type) (enc : TypeId × Value → H) :
    ReturnsInHanded {} Tryd.checked os 5 .any (fun w args => (Rows.quorumSealsSpec.pre enc Tryd.prog Tryd.f5 [] false w args ∧ laidMetH Tryd.prog farLaid w) ∧ sizedMet enc Tryd.prog Tryd.f5 (OpenSpec.ofChange Rows.quorumSealsSpec) false w args)
      (Rows.quorumSealsSpec.post enc Tryd.prog Tryd.f5 false true false false) := by
  refine returnsInHanded_of_change_and (C := Tryd.checked) (X := fun w _ => laidMetH Tryd.prog farLaid w) (fun _ _ _ hh h => h.of_heap hh) Tryd.ownK started (by kernel_rfl) Tryd.func5
    (ChangeSpec.witness_shaped (enc := enc) (C := Tryd.checked) (os := os) (X := fun w _ => laidMetH Tryd.prog farLaid w) false (World.doorLaid Tryd.prog 400 os) #[.slice none 0 0, .int .i64 0, .slice none 0 0, .string ⟨#[]⟩] 8 rfl (World.shaped_of_RefB (by kernel_rfl) (by kernel_rfl)) (by kernel_rfl) (by kernel_rfl) (by kernel_rfl) (farLaid_met os _)) ?_
  intro W base args ds gs before hval0 hW hcnd hsz0 hL hholds
  have hval : ∀ (j : Nat) t v, Tryd.f5.params[j]? = some t → args[j]? = some v → Value.okWide Tryd.prog W .any base t v := hval0
  have hW' := hW
  obtain ⟨p, q, hA0, hV, rfl, hfz, hnd⟩ := hW
  have hA : DataW.TrodAll enc Tryd.prog W 0 (fun _ => true) true Tryd.f5.params.toList args.toList ds p := hA0
  obtain ⟨rfl, rfl⟩ := trodVars_none hV
  simp only [List.append_nil] at hW'
  have hlt : ∀ x ∈ p, x.block < W.heap.size := fun x hx => hW'.lt x hx
  have hsz : (DataW.weightsEach Tryd.prog (Tryd.f5.params.toList ++ Rows.quorumSealsSpec.plain.varTypes Tryd.prog) (ds ++ [])).all (· ≤ reachBytes) = true := hsz0
  rw [Tryd.params5] at hA hval hsz
  have hK := hA
  obtain ⟨v0, vs0, d0, ds0, p0, q0, hargs, rfl, rfl, h0, r0⟩ := trodAll_cons hA
  obtain ⟨v1, vs1, d1, ds1, p1, q1, rfl, rfl, rfl, h1, r1⟩ := trodAll_cons r0
  obtain ⟨v2, vs2, d2, ds2, p2, q2, rfl, rfl, rfl, h2, r2⟩ := trodAll_cons r1
  obtain ⟨v3, vs3, d3, ds3, p3, q3, rfl, rfl, rfl, h3, r3⟩ := trodAll_cons r2
  obtain ⟨rfl, rfl, rfl⟩ := trodAll_nil r3
  obtain rfl : args = #[v0, v1, v2, v3] := by cases args; simp_all
  have o0 := open_intl Tryd.underlying22 Tryd.underlying3 (by kernel_rfl) (hval 0 22 v0 rfl rfl) h0
  obtain ⟨a1, rfl, rfl, rfl, w1⟩ := open_int Tryd.underlying3 (hval 1 3 v1 rfl rfl) h1
  have o2 := open_intl Tryd.underlying22 Tryd.underlying3 (by kernel_rfl) (hval 2 22 v2 rfl rfl) h2
  obtain ⟨a3, rfl, rfl, rfl, w3⟩ := ChangeMaps.open_string Tryd.underlying9 (hval 3 9 v3 rfl rfl) h3
  have z3 : a3.size ≤ 140737488351232 := by have := sized_string hsz (j := 3) (t := 9) rfl rfl; simpa [reachBytes] using this
  clear hA0 hval0
  refine (quorumSeals_law v0 a1 w1 v2 a3 z3 W o0 o2 (farLaid_at hL)).mono fun e W' ⟨he, hg⟩ => ?_
  subst he
  exact ⟨_, rfl, post_of_below (pa := _) (pv := []) hW' (fun _ _ _ => (trodAll_cons_mk (shut_bool Tryd.underlying4 _) trodAll_mk0)) (fun sp hsp => trodAll_stays Tryd.laidOutK hg typesOk hK (fun x hx => ⟨hlt x hx, hsp x (by first | exact hx | (simp at hx) | simpa using hx)⟩)) (fun _ _ => rfl) (by simp) hg (ok_one (by kernel_rfl) rfl (okWide_bool_mk Tryd.underlying4 _))⟩

theorem over : Rows.quorumSealsRow.holds Tryd.pinned (OpenSpec.ofChange Rows.quorumSealsSpec) :=
  OpenClaim.holds_of_wide 5 Tryd.f5 rfl rfl rfl rfl rfl rfl rfl ⟨rfl, rfl, rfl, rfl, rfl⟩ rfl rfl rfl rfl rfl (by kernel_rfl) Tryd.func5 (by show joinedFacts Tryd.prog _ _ _ _ = true; unfold joinedFacts; rw [mayEnterK, liftsFinalK, makeK]; kernel_rfl)
    (of_decide_eq_true (by kernel_rfl)) (by unfold Func.isWrapper; first | (rw [if_pos (by decide +kernel)]; kernel_rfl) | (rw [if_neg (by decide +kernel)]; exact ⟨rfl, rfl⟩))
    (fun os started H enc _ => lifted os started H enc)
theorem card : Rows.QuorumSealsCardSaid :=
  Claim7.holds_tied_plain_at .later [] [.data] true (true, "646e30bca04c75b39ccd751b5f2602370b95678b23583ff78d3ed570f8160344") true
    over (fun _ h => by cases h) (by kernel_rfl) (fun _ h => by cases h) quorumSeals_row_tie rfl ⟨rfl, rfl⟩ mainIsK rfl
    (fun f fn hf hfn => by
      obtain rfl : f = 5 := Option.some.inj ((show Tryd.prog.funcNamed "pairstone/stonelaw2.QuorumSeals" = some 5 by kernel_rfl).symm.trans hf) |>.symm
      obtain rfl : fn = Tryd.f5 := (Option.some.inj (Tryd.func5.symm.trans hfn)).symm
      exact ⟨by kernel_rfl, fun j t ht => by
        rw [Tryd.params5] at ht
        have hm : t ∈ ([22, 3, 22, 9] : List TypeId) := by simpa using Array.mem_of_getElem? ht
        have hall : (([22, 3, 22, 9] : List TypeId).all fun u => !Tryd.prog.wantsStandIn u) = true := by kernel_rfl
        exact (show Tryd.prog.wantsStandIn t = false by simpa using List.all_eq_true.1 hall t hm)⟩)
    (by kernel_rfl)
#print axioms card
end Go.Proofs.YtnlaofapjldciaaDoor.quorumSeals
