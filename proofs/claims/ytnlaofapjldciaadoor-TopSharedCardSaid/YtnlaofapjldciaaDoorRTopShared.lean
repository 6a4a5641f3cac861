/- The statement of TopShared: for every input the law returns true, and the arguments read as they did. (its listed variable reads as laid; the card ties it) -/
import Derived.Test.YtnlaofapjldciaaDoorFar
import Derived.Test.YtnlaofapjldciaaDoorMTopShared
import Derived.Test.YtnlaofapjldciaaDoorKe
import Derived.Laws.Entries
import Derived.Test.YtnlaofapjldciaaDoorFr
import Derived.Test.YtnlaofapjldciaaDoorFs
import Derived.SizedLaws
import Derived.Test.YtnlaofapjldciaaDoorTie
import Derived.Test.YtnlaofapjldciaaDoorCards
import Derived.Test.YtnlaofapjldciaaDoorJf
import Derived.SevenTiedAt
namespace Go.Proofs.YtnlaofapjldciaaDoor
open Go.ChangeShapes Go.WideShapes Go.ChangeAt Go.WideMaps Go.WideElems Go.RowKit
set_option maxRecDepth 100000
theorem trod_struct2 {H : Type} {enc : TypeId × Value → H} {P : Program} {w : World} {base : Nat} {spare : Nat → Bool} {held : Bool} {t : TypeId} {f0 f1 : Field} {fuel : Nat} {cs : List Value} {x : DataW H × List MemPlace} (ht : P.underlying t = some (.struct #[f0, f1])) (h : DataW.trod enc P w base spare held fuel t cs = some x) :
    ∃ y0 y1 n, x = (.agg [y0.1, y1.1], y0.2 ++ y1.2) ∧ cs.length = P.cellsOf t ∧ DataW.trod enc P w base spare held n f0.type ((cs.drop f0.offset).take (P.cellsOf f0.type)) = some y0 ∧
      DataW.trod enc P w base spare held n f1.type ((cs.drop f1.offset).take (P.cellsOf f1.type)) = some y1 := by
  obtain ⟨xs, n, _, rfl, hl, hlen, hf⟩ := DataW.trod_struct ht h
  match xs, hlen with
  | [y0, y1], _ => exact ⟨y0, y1, n, by simp, hl, by simpa using hf 0 f0 rfl, by simpa using hf 1 f1 rfl⟩
abbrev oneLaid : List (String × DataW Unit) := [("pairstone/curve.Far", Rows.laid_pairstone_curve_Far), ("pairstone/pair.one", Rows.laid_pairstone_pair_one)]
theorem gOne : Tryd.prog.globalNamed "pairstone/pair.one" = some 1 := by kernel_rfl
theorem tOne : (Tryd.prog.globals[1]?).map (·.type) = some 102 := by kernel_rfl
theorem oneLaid_met (os : Os) (args : Array Value) : laidMetH Tryd.prog oneLaid ((World.doorLaid Tryd.prog 400 os).forCall (fun _ _ => 0) ⟨#[], args, []⟩).memory :=
  laidMetH_of_parts3 (fuel := 8) (laidMet_of_run' 8 (by kernel_rfl) (by kernel_rfl)) (by kernel_rfl) (by kernel_rfl)
theorem oneLaid_at {W : World} (h : laidMetH Tryd.prog oneLaid W) : FarAt W ∧ OneAt W := by
  rw [MakeChecks.laidMetH_plain _ _ _ (by kernel_rfl)] at h
  obtain ⟨ps, ⟨g0, t0, cs0, f0, p0, q0, hg0, ht0, hv0, hd0, ⟨g1, t1, cs1, f1, p1, q1, hg1, ht1, hv1, hd1, _, _⟩, _⟩, _, _⟩ := h
  refine ⟨?_, ?_⟩
  · obtain rfl := Option.some.inj (gFar.symm.trans hg0)
    obtain rfl := Option.some.inj (tFar.symm.trans ht0)
    obtain ⟨y0, y1, y2, n, hx, hlen, h0, h1, h2⟩ := Deep.trod_struct3 Tryd.underlying24 hd0
    simp only [Rows.laid_pairstone_curve_Far, Prod.mk.injEq, DataW.agg.injEq, List.cons.injEq, and_true] at hx
    obtain ⟨⟨e0, e1, e2⟩, _⟩ := hx
    obtain ⟨a, c0, rfl, _⟩ := DataW.trod_int Tryd.underlying3 h0
    obtain ⟨b, c1, rfl, _⟩ := DataW.trod_int Tryd.underlying3 h1
    obtain ⟨f, c2, rfl⟩ := DataW.trod_bool Tryd.underlying4 h2
    have k3 : Tryd.prog.cellsOf 24 = 3 := by kernel_rfl
    have ki : Tryd.prog.cellsOf 3 = 1 := by kernel_rfl
    have kb : Tryd.prog.cellsOf 4 = 1 := by kernel_rfl
    obtain ⟨l⟩ := cs0
    have h3 : l.length = 3 := by simpa using hlen.trans k3
    match l, h3 with
    | [x, y, z], _ =>
      simp [ki, kb] at c0 c1 c2
      subst c0 c1 c2
      have v0 := World.var?_cell hg0 hv0 0
      have v1 := World.var?_cell hg0 hv0 1
      have v2 := World.var?_cell hg0 hv0 2
      simp at e0 e1 e2 v0 v1 v2
      subst e0 e1 e2
      exact ⟨v0, v1, v2, lt_of_cell v0⟩
  · obtain rfl := Option.some.inj (gOne.symm.trans hg1)
    obtain rfl := Option.some.inj (tOne.symm.trans ht1)
    obtain ⟨y0, y1, n, hx, hlen, h0, h1⟩ := trod_struct2 Tryd.underlying102 hd1
    simp only [Rows.laid_pairstone_pair_one, Prod.mk.injEq, DataW.agg.injEq, List.cons.injEq, and_true] at hx
    obtain ⟨⟨e0, e1⟩, _⟩ := hx
    obtain ⟨a, c0, rfl, _⟩ := DataW.trod_int Tryd.underlying3 h0
    obtain ⟨b, c1, rfl, _⟩ := DataW.trod_int Tryd.underlying3 h1
    have k2 : Tryd.prog.cellsOf 102 = 2 := by kernel_rfl
    have ki : Tryd.prog.cellsOf 3 = 1 := by kernel_rfl
    obtain ⟨l⟩ := cs1
    have h3 : l.length = 2 := by simpa using hlen.trans k2
    match l, h3 with
    | [x, y], _ =>
      simp [ki] at c0 c1
      subst c0 c1
      have v0 := World.var?_cell hg1 hv1 0
      have v1 := World.var?_cell hg1 hv1 1
      simp at e0 e1 v0 v1
      subst e0 e1
      exact ⟨v0, v1, lt_of_cell v0⟩
end Go.Proofs.YtnlaofapjldciaaDoor
namespace Go.Proofs.YtnlaofapjldciaaDoor
open Go.RowKit
set_option linter.unusedVariables false
theorem dot_usum (d : Int) (Z : List (Int × Int)) (ws : List Int) (hw : ws.length = Z.length) : ∀ n, n ≤ Z.length → dot ((Z.map (fun s => d * s.2)).take n) ws = d * usum ws (Z.map (fun s => s.2)) n
  | 0, _ => by rw [List.take_zero, dot_nil, usum, Int.mul_zero]
  | n + 1, h => by
    rw [dot_snoc _ ws n (by rw [List.length_map]; omega) (by omega), dot_usum d Z ws hw n (by omega), usum, gD (show n < ws.length by omega), gD (show n < (Z.map (fun s => s.2)).length by rw [List.length_map]; omega), List.getElem_map, List.getElem_map, Int.mul_add]
    congr 1
    rw [Int.mul_assoc, Int.mul_comm Z[n].2]
theorem pick_sq {l : List Int} {ps : List Nat} {n : Nat} (d c : Int) (hd : d = 4 * c) (hn : n ≤ 12) (hp : ∀ p ∈ ps, p < n) (hnd : ps.Nodup) (hl1 : 1 ≤ l.length) (hok : l.all okR = true) (hlen : l.length ≤ ps.length) :
    sq (dot ((pickL l ps).map (fun s => d * s.2)) (wgts ((pickL l ps).map (fun s => s.1)))) = sq (d * l[0]) := by
  have ht := pickL_tells hn hp hnd hl1 hok hlen
  have hw : (wgts ((pickL l ps).map (fun s => s.1))).length = (pickL l ps).length := by rw [wgts_len, List.length_map]
  have h1 := dot_usum d (pickL l ps) (wgts ((pickL l ps).map (fun s => s.1))) hw (pickL l ps).length (Nat.le_refl _)
  rw [List.take_of_length_le (by rw [List.length_map]; exact Nat.le_refl _)] at h1
  rw [h1]
  have h2 : usum (wgts ((pickL l ps).map (fun s => s.1))) ((pickL l ps).map (fun s => s.2)) (pickL l ps).length % (1013 : Int) = l[0] := by rw [← usum_csum]; exact ht
  generalize usum (wgts ((pickL l ps).map (fun s => s.1))) ((pickL l ps).map (fun s => s.2)) (pickL l ps).length = U at *
  subst hd
  refine sq_eq_iff.mpr ?_
  generalize l[0] = a at *
  have e : U = 1013 * (U / 1013) + a := by omega
  generalize U / 1013 = q at *
  subst e
  have e2 : 4 * c * (1013 * q + a) = 4052 * (c * q) + 4 * c * a := by grind
  rw [e2]
  generalize c * q = r
  generalize 4 * c * a = t
  omega
/-- The parts at the places picked. -/
def pickP (d : Int) (l : List Int) (ps : List Nat) : List Sp := ((pickL l ps).map (fun s => d * s.2)).map sq
theorem pickP_snoc (d : Int) (l : List Int) (ps : List Nat) (p : Nat) : pickP d l (ps ++ [p]) = pickP d l ps ++ [sq (d * val ((p + 1 : Nat) : Int) l)] := by simp [pickP, pickL]
theorem pickP_len (d : Int) (l : List Int) (ps : List Nat) : (pickP d l ps).length = ps.length := by simp [pickP, pickL]
def pickX (l : List Int) (ps : List Nat) : List Int := (pickL l ps).map (fun s => s.1)
theorem pickX_snoc (l : List Int) (ps : List Nat) (p : Nat) : pickX l (ps ++ [p]) = pickX l ps ++ [((p + 1 : Nat) : Int)] := by simp [pickX, pickL]
theorem pickX_len (l : List Int) (ps : List Nat) : (pickX l ps).length = ps.length := by simp [pickX, pickL]
/-- Parts of enough of them, joined. -/
theorem pjoin (d c : Int) (hd : d = 4 * c) {l : List Int} {ps : List Nat} {n : Nat} (hn : n ≤ 12) (hp : ∀ p ∈ ps, p < n) (hnd : ps.Nodup) (hl1 : 1 ≤ l.length) (hok : l.all okR = true) (hlen : l.length ≤ ps.length) (R : Sp) (hR : Hid (sq (d * l[0]) = R)) (v1 v2 : Value) (w : World) (hF : FarAt w) (h1 : IntSl w v1 (pickX l ps)) (hv : CapOk v1) (h2 : SpSl w v2 (pickP d l ps)) :
    Calls Tryd.prog 32 #[v1, v2] w fun e w' => e = .returned (.tuple #[spV R, .nilIface]) ∧ Below w.heap.size w w' := by
  have hpn := nodup_lt n ps hnd hp
  have hXl := pickX_len l ps
  have hps : ∀ i (h : i < (pickX l ps).length), i < (pickL l ps).length := fun i h => by rw [pickL_len]; omega
  refine qjoin_y (pickX l ps) ((pickL l ps).map (fun s => d * s.2)) (pickP d l ps) v1 v2 R w hF (by omega) (by omega) (by rw [List.length_map, pickL_len, hXl]) (fun i h => ?_) (fun i j hi hj hij => ?_) h1 hv h2 (Lib.hid rfl) (Lib.hid ?_)
  · simp only [pickX, List.getElem_map]
    have := pickL_ok (l := l) hn hp i (hps i h)
    exact ⟨this.1, this.2.1⟩
  · simp only [pickX, List.getElem_map]
    exact pickL_ne hnd i j (hps i hi) (hps j hj) hij
  · rw [← hR.out]; exact pick_sq d c hd hn hp hnd hl1 hok hlen
end Go.Proofs.YtnlaofapjldciaaDoor
namespace Go.Proofs.YtnlaofapjldciaaDoor
open Go.RowKit
set_option maxRecDepth 100000
set_option linter.unusedVariables false
set_option linter.unusedSimpArgs false
theorem below_up {w4 w w' : World} (h : Below w4.heap.size w4 w) (hb : Below (w4.heap.size + 1) w w') : Below w4.heap.size w4 w' := h.trans (hb.mono (Nat.le_succ _))
theorem unpack_back (S : Sp) (w : World) (hF : FarAt w) (h : Ok S) : Calls Tryd.prog 81 #[.string (sBytes S)] w fun e w' => e = .returned (.tuple #[spV S, .nilIface]) ∧ Below w.heap.size w w' := by
  have := unpack_c (sBytes S) w hF (by have := sBytes_size S; omega)
  rw [unpack_sBytes h] at this
  exact this
set_option maxHeartbeats 16000000 in
theorem ts_all (l pk : List Int) (v1 v2 : Value) (n : Int) (t : ByteArray) (j : Int) (H : Sp) (w : World) (hF : FarAt w) (hO : OneAt w) (hpk : ∀ x ∈ pk, -9223372036854775808 ≤ x ∧ x ≤ 9223372036854775807) (h1 : IntSl w v1 l) (h2 : IntSl w v2 pk) (m1 : l.length ≤ 9223372036854775807) (m2 : pk.length ≤ 9223372036854775807) (hz : t.size ≤ 140737488351232)
    (hH : Hid (hSpot t.data.toList = H)) (hj : Hid (H = sq (4 * j))) (cH : Hid (Cnt H j)) :
    Calls Tryd.prog 15 #[v1, .int .i64 n, v2, .string t] w fun e w' => e = .returned (.bool true) ∧ Below w.heap.size w w' := by
  have hA := Lib.hid (split_is l v1 n m1)
  obtain ⟨a1, c1, rfl, i1⟩ := id h1
  obtain ⟨a2, c2, rfl, i2⟩ := h2
  have hF' := Lib.hid hF
  have hO' := Lib.hid hO
  replace h1 := Lib.hid h1
  replace i1 := Lib.hid i1
  replace i2 := Lib.hid i2
  replace hpk := Lib.hid hpk
  clear hO
  go_enter Tryd.func15, Tryd.ntmps15
  go_wp2_with fail
  refine (one_c _ (hF.below (by repeat (first | exact Below.refl _ _ | refine balloc ?_ _ | refine Below.drew ?_ | refine below_drewN ?_ _ | refine below_set ?_ (by first | omega | (dsimp only; omega)) _)))).mono ?_; rintro e w1 ⟨rfl, hb⟩
  obtain ⟨hc1, hf1⟩ := bcell hb
  have z1 := hb.size
  try simp only [World.size_alloc, World.size_setCell, World.size_drew] at z1
  have hB1 : Below w.heap.size w w1 := below_seq (by repeat (first | exact Below.refl _ _ | refine balloc ?_ _ | refine Below.drew ?_ | refine below_drewN ?_ _ | refine below_set ?_ (by first | omega | (dsimp only; omega)) _)) hb
  clear hb
  rcases hA.out with ⟨E, hE, hS⟩ | ⟨m, rfl, p1, p2, l1, l2, hok, hS⟩
  · replace hS := Lib.hid hS
    go_wp2_with fail
    refine (hS.out _ (h1.out.below (by repeat (first | exact hB1 | exact Below.refl _ _ | refine balloc ?_ _ | refine Below.drew ?_ | refine below_drewN ?_ _ | refine below_set ?_ (by first | omega | (dsimp only; omega)) _)))).mono ?_; rintro e w2 ⟨rfl, hb⟩
    obtain ⟨hc2, hf2⟩ := bcell hb
    have z2 := hb.size
    try simp only [World.size_alloc, World.size_setCell, World.size_drew] at z2
    have hB2 : Below w.heap.size w w2 := below_seq (by repeat (first | exact hB1 | exact Below.refl _ _ | refine balloc ?_ _ | refine Below.drew ?_ | refine below_drewN ?_ _ | refine below_set ?_ (by first | omega | (dsimp only; omega)) _)) hb
    clear hb
    go_wp2
    go_ret
    exact ⟨rfl, (by repeat (first | exact hB2 | exact Below.refl _ _ | refine balloc ?_ _ | refine Below.drew ?_ | refine below_drewN ?_ _ | refine below_set ?_ (by first | omega | (dsimp only; omega)) _))⟩
  replace hS := Lib.hid hS
  go_wp2_with fail
  refine (hS.out _ (h1.out.below (by repeat (first | exact hB1 | exact Below.refl _ _ | refine balloc ?_ _ | refine Below.drew ?_ | refine below_drewN ?_ _ | refine below_set ?_ (by first | omega | (dsimp only; omega)) _)))).mono ?_; rintro e w3 ⟨vx, rfl, hx, hb⟩
  have hB3 := Lib.hid (below_seq (by repeat (first | exact hB1 | exact Below.refl _ _ | refine balloc ?_ _ | refine Below.drew ?_ | refine below_drewN ?_ _ | refine below_set ?_ (by first | omega | (dsimp only; omega)) _)) hb)
  by_cases ht : 60 < t.size
  · obtain ⟨ax, kx, rfl, hx4⟩ := hx
    clear hx4
    go_wp2
    go_ret
    exact ⟨rfl, hB3.out⟩
  have ht2 : t.size ≤ 60 := by omega
  obtain ⟨ax, kx, rfl, hx4⟩ := hx
  rw [splitL_len] at hx4 ⊢
  obtain ⟨bx, ox, rfl, hx5⟩ := hx4 (by omega)
  replace hx5 := Lib.hid hx5
  clear hx4 hb hS hA
  have hI1 := Lib.hid (fun w' (hb' : Below w3.heap.size w3 w') hp => by obtain ⟨b, off, e, hs⟩ := i1.out hp; exact (⟨b, off, e, (hs.below hB3.out).below hb'⟩ : ∃ b off, a1 = some ⟨b, off, none⟩ ∧ IntsAt w' b off l))
  have hI2 := Lib.hid (fun w' (hb' : Below w3.heap.size w3 w') hp => by obtain ⟨b, off, e, hs⟩ := i2.out hp; exact (⟨b, off, e, (hs.below hB3.out).below hb'⟩ : ∃ b off, a2 = some ⟨b, off, none⟩ ∧ IntsAt w' b off pk))
  clear hc1 hf1 hB1 h1 i1 i2
  have gl : decide (l.length < 1) = false := by rw [decide_eq_false_iff_not]; omega
  obtain ⟨w4, rfl⟩ : ∃ x : World, x = w3 := ⟨_, rfl⟩
  have hB4 := hB3
  have hx6 := hx5
  have e1 := hI1
  have e2 := hI2
  have hF4 := Lib.hid (hF'.out.below hB4.out)
  have g12 : decide ((12 : Int) < (m : Int)) = false := by rw [decide_eq_false_iff_not]; omega
  have g12' : decide (12 < m) = false := by rw [decide_eq_false_iff_not]; omega
  clear hx5 hI1 hI2 hB3 hF
  have hga := Lib.hid (fun q (h : q < m) => splitL_get l m q (by rw [splitL_len]; exact h))
  have hal := Lib.hid (splitL_len l m)
  replace hok := Lib.hid hok
  go_wp2
  have hI0 := Lib.hid (IsAt.fresh w4 12 #[.bool false, .bool false, .bool false, .bool false, .bool false, .bool false, .bool false, .bool false, .bool false, .bool false, .bool false, .bool false] 121 rfl)
  have hB5 := Lib.hid (below_alloc w4 (.cells #[.bool false, .bool false, .bool false, .bool false, .bool false, .bool false, .bool false, .bool false, .bool false, .bool false, .bool false, .bool false] 121))
  generalize w4.alloc (.cells #[.bool false, .bool false, .bool false, .bool false, .bool false, .bool false, .bool false, .bool false, .bool false, .bool false, .bool false, .bool false] 121) = w5 at *
  go_loopw [12, 13, 15] (fun o1 o2 i wr => ∃ (k : Nat) (u1 u2 : Value) (ps : List Nat), k ≤ pk.length ∧ i = .int .i64 k ∧ u1 = o1 ∧ u2 = o2 ∧ ps.Nodup ∧ (∀ p ∈ ps, p < m) ∧ IsAt wr w4.heap.size 12 ps ∧ wr.ownsRow (w4.heap.size + 1) 3 1 u1 ps.length ((pickX l ps).map (Value.int .i64)) ∧ wr.ownsRow (w4.heap.size + 1) 24 3 u2 ps.length (spCells (pickP (4 * j) l ps)) ∧ Ap u1 u2 ∧ Below w4.heap.size w4 wr) (fun _ _ i _ => pk.length - (intOf i).toNat)
  case atStart => exact ⟨0, _, _, [], Nat.zero_le _, rfl, rfl, rfl, List.nodup_nil, fun p hp => absurd hp List.not_mem_nil, hI0.out, World.ownsRow_nil _ _ _ _, World.ownsRow_nil _ _ _ _, Ap.nil _, hB5.out⟩
  case round =>
    clear hI0 hB5
    obtain ⟨k, u1, u2, ps, hk, rfl, rfl, rfl, hnd, hps, hI, r1, r2, a12, hb⟩ := hrel
    replace r1 := Lib.hid r1
    replace r2 := Lib.hid r2
    replace a12 := Lib.hid a12
    replace hb := Lib.hid hb
    replace hnd := Lib.hid hnd
    replace hps := Lib.hid hps
    replace hI := Lib.hid hI
    by_cases hlt : k < pk.length
    · obtain ⟨b2, f2, rfl, l2'⟩ := e2.out w4 (Below.refl _ _) (by omega)
      have k1 := l2'.c k hlt
      have k2 := l2'.lt
      have hbd := hpk.out pk[k] (List.getElem_mem hlt)
      clear l2'
      generalize pk[k] = p at *
      have k1r := ((bcell hb.out).1 _ _ k2).trans k1
      have k2r := Nat.lt_of_lt_of_le k2 hb.out.size
      replace k1 := Lib.hid k1
      by_cases p0 : p < 0
      · go_wp2
        go_roundw
        case rel => exact ⟨k + 1, _, _, ps, by omega, by go_num, rfl, rfl, hnd.out, hps.out, hI.out, r1.out, r2.out, a12.out, hb.out⟩
        case measure => simp [intOf]; omega
      obtain ⟨q, rfl⟩ : ∃ q : Nat, p = (q : Int) := ⟨p.toNat, by omega⟩
      by_cases p3 : (m : Int) ≤ (q : Int)
      · go_wp2
        go_roundw
        case rel => exact ⟨k + 1, _, _, ps, by omega, by go_num, rfl, rfl, hnd.out, hps.out, hI.out, r1.out, r2.out, a12.out, hb.out⟩
        case measure => simp [intOf]; omega
      have hq : q < m := by omega
      have hq13 : q < 12 := by omega
      have p3' : (q : Int) < (m : Int) := by omega
      have j1 := hI.out.c q (by omega)
      have j2 := hI.out.f q (by omega)
      have j3 := hI.out.lt
      by_cases p4 : q ∈ ps
      · rw [decide_eq_true p4] at j1
        replace p4 := Lib.hid p4
        go_wp2
        go_roundw
        case rel => exact ⟨k + 1, _, _, ps, by omega, by go_num, rfl, rfl, hnd.out, hps.out, hI.out, r1.out, r2.out, a12.out, hb.out⟩
        case measure => simp [intOf]; omega
      · rw [decide_eq_false p4] at j1
        have hx7 := hx6.out
        have x1 := hx7.cx q (by rw [hal.out]; exact hq)
        have x2 := hx7.cy q (by rw [hal.out]; exact hq)
        have x3 : bx < w4.heap.size := hx7.lt
        rw [hga.out q hq] at x1 x2
        simp only at x1 x2
        have hsx := Lib.hid (pickX_snoc l ps q)
        have hsp := Lib.hid (pickP_snoc (4 * j) l ps q)
        have tx := Lib.hid (pickX_len l ps)
        have tp := Lib.hid (pickP_len (4 * j) l ps)
        obtain ⟨v0, v1⟩ := val_bd ((q + 1 : Nat) : Int) l
        have hN : (1 : Int) ≤ ((q + 1 : Nat) : Int) ∧ ((q + 1 : Nat) : Int) < 1013 := by omega
        have hne : ¬ w4.heap.size = bx := by omega
        have hne2 : ¬ bx = w4.heap.size := by omega
        have hne3 : ¬ w4.heap.size = b2 := by omega
        have hne4 : ¬ b2 = w4.heap.size := by omega
        have hlw := hb.out.size
        have hnd2 : Hid ((ps ++ [q]).Nodup) := Lib.hid (by rw [List.nodup_append]; exact ⟨hnd.out, by simp, fun a ha b hb' => by simp at hb'; subst hb'; exact fun e => p4 (e ▸ ha)⟩)
        have hps2 : Hid (∀ p ∈ ps ++ [q], p < m) := Lib.hid (fun p hp => by rcases List.mem_append.mp hp with h | h; exact hps.out p h; simp at h; subst h; exact hq)
        have htn : Hid (ps.length ≤ m) := Lib.hid (nodup_lt m ps hnd.out hps.out)
        have htn2 : ps.length ≤ 12 := Nat.le_trans htn.out p2
        have hI2 := Lib.hid (hI.out.put q hq13)
        replace r1 := Lib.hid (ownsRow_setCell_below r1.out (a := ⟨w4.heap.size, q, none⟩) (Nat.lt_succ_self _) (.bool true))
        replace r2 := Lib.hid (ownsRow_setCell_below r2.out (a := ⟨w4.heap.size, q, none⟩) (Nat.lt_succ_self _) (.bool true))
        have hBs := Lib.hid (below_set (p := ⟨w4.heap.size, q, none⟩) hb.out (Nat.le_refl _) (.bool true))
        generalize hNe : ((q + 1 : Nat) : Int) = N at *
        generalize hVe : val N l = V at *
        obtain ⟨S, hS⟩ : ∃ S, sq (4 * j * V) = S := ⟨_, rfl⟩
        rw [hS] at hsp
        have oS : Ok S := by rw [← hS]; exact sq_ok _
        have hP := Lib.hid (fun w' (hb' : Below w4.heap.size w4 w') => (⟨((bcell hb').1 _ _ k2).trans k1.out, ((bcell hb').1 _ _ x3).trans x1, ((bcell hb').1 _ _ x3).trans x2, Nat.lt_of_lt_of_le k2 hb'.size, Nat.lt_of_lt_of_le x3 hb'.size⟩ :
          w'.cell? ⟨b2, f2 + k, none⟩ = some (.int .i64 q) ∧ w'.cell? ⟨bx, ox + q * 2, none⟩ = some (.int .i64 N) ∧ w'.cell? ⟨bx, ox + q * 2 + 1, none⟩ = some (.int .i64 V) ∧ b2 < w'.heap.size ∧ bx < w'.heap.size))
        have x1r := ((bcell hb.out).1 _ _ x3).trans x1
        have x2r := ((bcell hb.out).1 _ _ x3).trans x2
        replace hS := Lib.hid hS
        replace p4 := Lib.hid p4
        clear hx7 x1 x2 hNe hVe hI hnd hps
        go_wp2_with fail
        refine (part_y N V j t H S _ (hF4.out.below hBs.out) hN.1 hN.2 v0 v1 ht2 hH hj hS).mono ?_; rintro e w6 ⟨rfl, hb6⟩
        have hB6a := Lib.hid (balloc (below_seq hBs.out hb6) (.cells #[.int .i64 S.x, .int .i64 S.y, .bool S.far] 24))
        have hI6 := Lib.hid ((hI2.out.below hb6 hI2.out.lt).below (below_alloc w6 (.cells #[.int .i64 S.x, .int .i64 S.y, .bool S.far] 24)) (hI2.out.below hb6 hI2.out.lt).lt)
        replace r1 := Lib.hid ((own_below r1.out hb6).alloc (.cells #[.int .i64 S.x, .int .i64 S.y, .bool S.far] 24))
        replace r2 := Lib.hid ((own_below r2.out hb6).alloc (.cells #[.int .i64 S.x, .int .i64 S.y, .bool S.far] 24))
        clear hb6 hBs hI2 j1 j2 j3 k1r k2r x1r x2r hb hlw
        go_wp2_with fail
        refine (pack_ok S _ (hF4.out.below hB6a.out) oS).mono ?_; rintro e w7 ⟨rfl, hb7⟩
        have hB7 := Lib.hid (below_seq hB6a.out hb7)
        have hI7 := Lib.hid (hI6.out.below hb7 hI6.out.lt)
        replace r1 := Lib.hid (own_below r1.out hb7)
        replace r2 := Lib.hid (own_below r2.out hb7)
        clear hb7 hB6a hI6
        go_wp2_with fail
        refine (unpack_back S _ (hF4.out.below hB7.out) oS).mono ?_; rintro e w8 ⟨rfl, hb8⟩
        have hBa := Lib.hid (below_seq hB7.out hb8)
        have hIa := Lib.hid (hI7.out.below hb8 hI7.out.lt)
        replace r1 := Lib.hid (own_below r1.out hb8)
        replace r2 := Lib.hid (own_below r2.out hb8)
        clear hb8 hB7 hI7
        have hz6 := hIa.out.lt
        have hup := Lib.hid (show some w8.heap.size ≠ u1.ownBlock from fun e => by have := (r1.out.lt _ e.symm).2; omega)
        have hsa := Lib.hid ((SpAt.fresh w8 S.x S.y S.far 24).alloc (.cells #[.int .i64 N] 3))
        obtain ⟨k1', x1', x2', k2', x3'⟩ := hP.out _ hBa.out
        go_wp2_with (first
          | (at_builtin; refine wpl_append_int rfl _ _ _ rfl (by kernel_rfl) (w4.heap.size + 1) _ (pickX l ps) ps.length rfl ((r1.out.alloc _).alloc _) tx.out (by omega) (by simp only [World.size_alloc]; omega) _ N rfl (by go_simp) ?_; intro u1' w9 r1' hgrow hbel hloc; have s0 := hgrow.cell hsa.out.c0 hup.out; have s1 := hgrow.cell hsa.out.c1 hup.out; have s2 := hgrow.cell hsa.out.c2 hup.out; obtain ⟨r2', a12'⟩ := row_pair ((r2.out.alloc _).alloc _) a12.out hgrow hloc; have hIb := Lib.hid ((((hIa.out.below (below_alloc _ _) hIa.out.lt).below (below_alloc _ _) (by simp only [World.size_alloc]; omega))).below (hbel _ (Below.refl _ _)) (Nat.lt_succ_self _)); have hBb := Lib.hid (below_up (balloc (balloc hBa.out _) _) (hbel _ (Below.refl _ _))); have zg := hgrow.size; simp only [World.size_alloc] at zg; replace r1' := Lib.hid r1'; replace r2' := Lib.hid r2'; replace a12' := Lib.hid a12'; clear hgrow hloc hbel r1 r2 a12 hIa hBa k1' x1' x2' k2' x3'; obtain ⟨k1', x1', x2', k2', x3'⟩ := hP.out _ hBb.out)
          | (at_builtin; refine wpl_append_spot rfl _ _ _ rfl (by kernel_rfl) (w4.heap.size + 1) _ (pickP (4 * j) l ps) ps.length rfl (r2'.out.alloc _) tp.out (by omega) (by simp only [World.size_alloc]; omega) _ S rfl (by go_simp) (by go_simp) (by go_simp) ?_; intro u2' w10 r2n hgrow hbel hloc; obtain ⟨r1n, a21'⟩ := row_pair (r1'.out.alloc _) a12'.out.symm hgrow hloc; have hId := Lib.hid ((hIb.out.below (below_alloc _ _) hIb.out.lt).below (hbel _ (Below.refl _ _)) (Nat.lt_succ_self _)); have hBd := Lib.hid (below_up (balloc hBb.out _) (hbel _ (Below.refl _ _))); replace r1n := Lib.hid r1n; replace r2n := Lib.hid r2n; replace a21' := Lib.hid a21'; clear hgrow hloc hbel r1' r2' a12' hIb hBb k1' x1' x2' k2' x3' s0 s1 s2)
          | fail)
        go_wp2
        go_roundw
        case rel => exact ⟨k + 1, _, _, ps ++ [q], by omega, by go_num, rfl, rfl, hnd2.out, hps2.out, hId.out, by rw [List.length_append, hsx.out]; exact r1n.out, by rw [List.length_append, hsp.out]; exact r2n.out, a21'.out.symm, hBd.out⟩
        case measure => simp [intOf]; omega
    · obtain rfl : k = pk.length := by omega
      clear hI hpk hx6 hga hal
      obtain ⟨wA, rfl⟩ : ∃ x : World, x = wr := ⟨_, rfl⟩
      have htn := nodup_lt m ps hnd.out hps.out
      obtain ⟨b1, f1, rfl, l1'⟩ := e1.out wA hb.out (by omega)
      have t1 := l1'.c 0 (by omega)
      have t2 := l1'.lt
      rw [Nat.add_zero] at t1
      have hc0 := okR_y (all_okR hok.out 0 l1)
      have hBr := Lib.hid (below_seq hB4.out hb.out)
      have hFb := Lib.hid (hF'.out.below hBr.out)
      have hOb := Lib.hid (hO'.out.below hBr.out)
      have hIv := Lib.hid (own_ints r1.out (pickX_len l ps).symm)
      have hcap := Lib.hid (own_cap r1.out)
      have hS2 := Lib.hid (own_spots r2.out (pickP_len (4 * j) l ps).symm)
      obtain ⟨au, cu, rfl⟩ := own_sl r1.out
      clear l1' e1 e2 r1 r2 a12 hB4 hF4 hb
      by_cases q1 : ps.length < l.length
      · go_wp2
        go_ret
        exact ⟨rfl, hBr.out⟩
      obtain ⟨S0, hS0⟩ : ∃ S0, sq (4 * j * l[0]) = S0 := ⟨_, rfl⟩
      obtain ⟨K0, hK0⟩ : ∃ K0, sq (4 * l[0]) = K0 := ⟨_, rfl⟩
      have hJ1 := Lib.hid (fun (w : World) hF h1 h2 => pjoin (4 * j) j rfl p2 hps.out hnd.out l1 hok.out (by omega) S0 hS0 (.slice au ps.length cu) u2 w hF h1 hcap.out h2)
      have q2 : decide (ps.length < l.length) = false := decide_eq_false q1
      replace hok := Lib.hid hok
      replace hS0 := Lib.hid hS0
      replace hK0 := Lib.hid hK0
      generalize l[0] = x0 at *
      by_cases z : x0 = 0
      · subst z
        clear hJ1
        go_wp2
        go_ret
        exact ⟨rfl, hBr.out⟩
      have z1 : 1 ≤ x0 := by omega
      have z2 : x0 < 1013 := hc0.2
      clear hnd hps hcap
      go_wp2_with fail
      refine (hJ1.out _ hFb.out hIv.out hS2.out).mono ?_; rintro e w6 ⟨rfl, hb6⟩
      have hq6 := Lib.hid (SpAt.fresh w6 S0.x S0.y S0.far 24)
      have hB6 := Lib.hid (balloc hb6 (.cells #[.int .i64 S0.x, .int .i64 S0.y, .bool S0.far] 24))
      have t6 := ((bcell hb6).1 _ _ t2).trans t1
      have t6l := Nat.lt_of_lt_of_le t2 hb6.size
      clear hb6 hJ1 hS2 hIv t1 t2
      go_wp2_with fail
      refine (key_e x0 K0 _ (hFb.out.below hB6.out) z1 z2 hK0).mono ?_; rintro e w7 ⟨rfl, hb7⟩
      have hq7 := (hq6.out.below hb7).alloc (.cells #[.int .i64 K0.x, .int .i64 K0.y, .bool K0.far] 24)
      have hB7 := Lib.hid (balloc (below_seq hB6.out hb7) (.cells #[.int .i64 K0.x, .int .i64 K0.y, .bool K0.far] 24))
      obtain ⟨s0, s1, s2, -, -, -, s3⟩ := hq6.out.below hb7
      clear hb7 hq7 hq6 t6 t6l
      go_wp2_with fail
      refine (shortVerify_y K0 S0 H j ((j * x0) % 1013) x0 (zp (j * x0)) t _ (hFb.out.below hB7.out) (hOb.out.below hB7.out) ht2 hH cH (Lib.hid ⟨by rw [← hS0.out, Int.mul_assoc]; generalize j * x0 = p; exact sq_eq_iff.mpr (by omega), by omega, by omega⟩) (Lib.hid ⟨hK0.out.symm, by omega, z2⟩) (Lib.hid ⟨sq_4.symm, by omega, by omega⟩) (Lib.hid (zp_eq (by rw [Int.mul_one, Int.emod_emod_of_dvd _ (Int.dvd_refl _)]))) (Lib.hid rfl)).mono ?_; rintro e w8 ⟨rfl, hb8⟩
      have hB8 := Lib.hid (below_seq hB7.out hb8)
      clear hb8 s0 s1 s2 s3
      go_wp2
      go_ret
      exact ⟨rfl, below_seq hBr.out hB8.out⟩
theorem topShared_law (v1 : Value) (n : Int) (hn : (Lit.int .i64 n).wf = true) (v2 : Value) (t : ByteArray) (hz : t.size ≤ 140737488351232) (w : World) (q1 : IntsV w v1) (q2 : IntsV w v2) (hL : FarAt w ∧ OneAt w) :
    Calls Tryd.prog 15 #[v1, .int .i64 n, v2, .string t] w fun e w' => e = .returned (.bool true) ∧ Below w.heap.size w w' := by
  obtain ⟨a, h1, m1, -⟩ := q1.sl
  obtain ⟨b, h2, m2, hw⟩ := q2.sl
  obtain ⟨j, j1, j2, e⟩ := hSpot_four t.data.toList
  exact ts_all a b v1 v2 n t j _ w hL.1 hL.2 (fun x hx => ⟨(by have := hw x hx; simp [Lit.wf] at this; exact this.1), (by have := hw x hx; simp [Lit.wf] at this; exact this.2)⟩) h1 h2 m1 m2 hz rfl e ⟨e, by omega, by omega⟩
end Go.Proofs.YtnlaofapjldciaaDoor
namespace Go.Proofs.YtnlaofapjldciaaDoor.topShared
open Go.ChangeShapes Go.WideShapes Go.ChangeAt Go.RowKit
set_option linter.unusedVariables false
theorem typesOk : ([22, 3, 22, 9].all fun t => Tryd.prog.readableRec t && decide (t < Tryd.prog.types.size)) = true := by kernel_rfl
set_option maxRecDepth 100000 in
theorem lifted (os : Os) (started : os.Started) (H : Type) (enc : TypeId × Value → H) :
    ReturnsInHanded {} Tryd.checked os 15 .any (fun w args => (Rows.topSharedSpec.pre enc Tryd.prog Tryd.f15 [] false w args ∧ laidMetH Tryd.prog oneLaid w) ∧ sizedMet enc Tryd.prog Tryd.f15 (OpenSpec.ofChange Rows.topSharedSpec) false w args)
      (Rows.topSharedSpec.post enc Tryd.prog Tryd.f15 false true false false) := by
  refine returnsInHanded_of_change_and (C := Tryd.checked) (X := fun w _ => laidMetH Tryd.prog oneLaid w) (fun _ _ _ hh h => h.of_heap hh) Tryd.ownK started (by kernel_rfl) Tryd.func15
    (ChangeSpec.witness_shaped (enc := enc) (C := Tryd.checked) (os := os) (X := fun w _ => laidMetH Tryd.prog oneLaid w) false (World.doorLaid Tryd.prog 400 os) #[.slice none 0 0, .int .i64 0, .slice none 0 0, .string ⟨#[]⟩] 8 rfl (World.shaped_of_RefB (by kernel_rfl) (by kernel_rfl)) (by kernel_rfl) (by kernel_rfl) (by kernel_rfl) (oneLaid_met os _)) ?_
  intro W base args ds gs before hval0 hW hcnd hsz0 hL hholds
  have hval : ∀ (j : Nat) t v, Tryd.f15.params[j]? = some t → args[j]? = some v → Value.okWide Tryd.prog W .any base t v := hval0
  have hW' := hW
  obtain ⟨p, q, hA0, hV, rfl, hfz, hnd⟩ := hW
  have hA : DataW.TrodAll enc Tryd.prog W 0 (fun _ => true) true Tryd.f15.params.toList args.toList ds p := hA0
  obtain ⟨rfl, rfl⟩ := trodVars_none hV
  simp only [List.append_nil] at hW'
  have hlt : ∀ x ∈ p, x.block < W.heap.size := fun x hx => hW'.lt x hx
  have hsz : (DataW.weightsEach Tryd.prog (Tryd.f15.params.toList ++ Rows.topSharedSpec.plain.varTypes Tryd.prog) (ds ++ [])).all (· ≤ reachBytes) = true := hsz0
  rw [Tryd.params15] at hA hval hsz
  have hK := hA
  obtain ⟨v0, vs0, d0, ds0, p0, q0, hargs, rfl, rfl, h0, r0⟩ := trodAll_cons hA
  obtain ⟨v1, vs1, d1, ds1, p1, q1, rfl, rfl, rfl, h1, r1⟩ := trodAll_cons r0
  obtain ⟨v2, vs2, d2, ds2, p2, q2, rfl, rfl, rfl, h2, r2⟩ := trodAll_cons r1
  obtain ⟨v3, vs3, d3, ds3, p3, q3, rfl, rfl, rfl, h3, r3⟩ := trodAll_cons r2
  obtain ⟨rfl, rfl, rfl⟩ := trodAll_nil r3
  obtain rfl : args = #[v0, v1, v2, v3] := by cases args; simp_all
  have o0 := open_intl Tryd.underlying22 Tryd.underlying3 (by kernel_rfl) (hval 0 22 v0 rfl rfl) h0
  obtain ⟨a1, rfl, rfl, rfl, w1⟩ := open_int Tryd.underlying3 (hval 1 3 v1 rfl rfl) h1
  have o2 := open_intl Tryd.underlying22 Tryd.underlying3 (by kernel_rfl) (hval 2 22 v2 rfl rfl) h2
  obtain ⟨a3, rfl, rfl, rfl, w3⟩ := ChangeMaps.open_string Tryd.underlying9 (hval 3 9 v3 rfl rfl) h3
  have z3 : a3.size ≤ 140737488351232 := by have := sized_string hsz (j := 3) (t := 9) rfl rfl; simpa [reachBytes] using this
  clear hA0 hval0
  refine (topShared_law v0 a1 w1 v2 a3 z3 W o0 o2 (oneLaid_at hL)).mono fun e W' ⟨he, hg⟩ => ?_
  subst he
  exact ⟨_, rfl, post_of_below (pa := _) (pv := []) hW' (fun _ _ _ => (trodAll_cons_mk (shut_bool Tryd.underlying4 _) trodAll_mk0)) (fun sp hsp => trodAll_stays Tryd.laidOutK hg typesOk hK (fun x hx => ⟨hlt x hx, hsp x (by first | exact hx | (simp at hx) | simpa using hx)⟩)) (fun _ _ => rfl) (by simp) hg (ok_one (by kernel_rfl) rfl (okWide_bool_mk Tryd.underlying4 _))⟩

theorem over : Rows.topSharedRow.holds Tryd.pinned (OpenSpec.ofChange Rows.topSharedSpec) :=
  OpenClaim.holds_of_wide 15 Tryd.f15 rfl rfl rfl rfl rfl rfl rfl ⟨rfl, rfl, rfl, rfl, rfl⟩ rfl rfl rfl rfl rfl (by kernel_rfl) Tryd.func15 (by show joinedFacts Tryd.prog _ _ _ _ = true; unfold joinedFacts; rw [mayEnterK, liftsFinalK, makeK]; kernel_rfl)
    (of_decide_eq_true (by kernel_rfl)) (by unfold Func.isWrapper; first | (rw [if_pos (by decide +kernel)]; kernel_rfl) | (rw [if_neg (by decide +kernel)]; exact ⟨rfl, rfl⟩))
    (fun os started H enc _ => lifted os started H enc)
theorem card : Rows.TopSharedCardSaid :=
  Claim7.holds_tied_plain_at .later [] [.data, .data] true (true, "646e30bca04c75b39ccd751b5f2602370b95678b23583ff78d3ed570f8160344") true
    over (fun _ h => by cases h) (by kernel_rfl) (fun _ h => by cases h) topShared_row_tie rfl ⟨rfl, rfl⟩ mainIsK rfl
    (fun f fn hf hfn => by
      obtain rfl : f = 15 := Option.some.inj ((show Tryd.prog.funcNamed "pairstone/stonetop.TopShared" = some 15 by kernel_rfl).symm.trans hf) |>.symm
      obtain rfl : fn = Tryd.f15 := (Option.some.inj (Tryd.func15.symm.trans hfn)).symm
      exact ⟨by kernel_rfl, fun j t ht => by
        rw [Tryd.params15] at ht
        have hm : t ∈ ([22, 3, 22, 9] : List TypeId) := by simpa using Array.mem_of_getElem? ht
        have hall : (([22, 3, 22, 9] : List TypeId).all fun u => !Tryd.prog.wantsStandIn u) = true := by kernel_rfl
        exact (show Tryd.prog.wantsStandIn t = false by simpa using List.all_eq_true.1 hall t hm)⟩)
    (by kernel_rfl)
#print axioms card
end Go.Proofs.YtnlaofapjldciaaDoor.topShared
