/- The law GroupSeals, walked. -/
import Derived.Laws.Entries
import Derived.Test.YtcphbigiooibcaaDoorGc
import Derived.Test.YtcphbigiooibcaaDoorSv
namespace Go.Proofs.YtcphbigiooibcaaDoor
open Go.RowKit
set_option maxRecDepth 100000
set_option linter.unusedVariables false
set_option linter.unusedSimpArgs false
/-- A seal that lies there. -/
structure SlAt (w : World) (b : Nat) (R : Sp) (S : Int) : Prop where
  c0 : w.cell? ⟨b, 0, none⟩ = some (.int .i64 R.x)
  c1 : w.cell? ⟨b, 1, none⟩ = some (.int .i64 R.y)
  c2 : w.cell? ⟨b, 2, none⟩ = some (.bool R.far)
  c3 : w.cell? ⟨b, 3, none⟩ = some (.int .i64 S)
  f0 : w.frozen? ⟨b, 0, none⟩ = false
  f1 : w.frozen? ⟨b, 1, none⟩ = false
  f2 : w.frozen? ⟨b, 2, none⟩ = false
  f3 : w.frozen? ⟨b, 3, none⟩ = false
  lt : b < w.heap.size
theorem SlAt.below {w w' : World} {b : Nat} {R : Sp} {S : Int} (h : SlAt w b R S) (hb : Below w.heap.size w w') : SlAt w' b R S := by
  obtain ⟨k, k'⟩ := bcell hb
  exact ⟨(k _ _ h.lt).trans h.c0, (k _ _ h.lt).trans h.c1, (k _ _ h.lt).trans h.c2, (k _ _ h.lt).trans h.c3, (k' _ _ h.lt).trans h.f0, (k' _ _ h.lt).trans h.f1, (k' _ _ h.lt).trans h.f2, (k' _ _ h.lt).trans h.f3, Nat.lt_of_lt_of_le h.lt hb.size⟩
theorem SlAt.fresh (w : World) (R : Sp) (S : Int) (t : TypeId) : SlAt (w.alloc (.cells #[.int .i64 R.x, .int .i64 R.y, .bool R.far, .int .i64 S] t)) w.heap.size R S := ⟨by simp, by simp, by simp, by simp, by simp, by simp, by simp, by simp, by simp⟩
theorem joint_far : Hid (sq (dot [] (cfs [])) = (⟨0, 0, true⟩ : Sp)) := Lib.hid (by rw [dot_nil]; exact sq_zero)
set_option maxHeartbeats 4000000 in
theorem gs_n (xs ks : List Int) (v1 v2 : Value) (t : ByteArray) (more E : Int) (w : World) (hF : FarAt w) (h1 : IntSl w v1 xs) (h2 : IntSl w v2 ks) (m1 : xs.length ≤ 9223372036854775807) (m2 : ks.length ≤ 9223372036854775807) (hz : t.size ≤ 140737488351232) (hE : Hid (groupF xs ks t.size = E)) (h0 : E ≠ 0) :
    Calls Tryd.prog 4 #[v1, v2, .string t, .int .i64 more] w fun e w' => e = .returned (.bool true) ∧ Below w.heap.size w w' := by
  have h1 := Lib.hid h1
  have h2 := Lib.hid h2
  have m1 := Lib.hid m1
  have m2 := Lib.hid m2
  go_enter Tryd.func4, Tryd.ntmps4
  go_wp2_with fail
  refine (joint_c [] [] (.slice none 0 0) ⟨0, 0, true⟩ _ (hF.below (by repeat (first | exact Below.refl _ _ | refine balloc ?_ _ | refine Below.drew ?_ | refine below_drewN ?_ _ | refine below_set ?_ (by first | omega | (dsimp only; omega)) _))) (by decide) ⟨none, 0, rfl, fun h => absurd h (by decide)⟩ (Lib.hid rfl) joint_far).mono ?_; rintro e w1 ⟨rfl, hb⟩
  obtain ⟨hc1, hf1⟩ := bcell hb
  have z1 := hb.size
  try simp only [World.size_alloc, World.size_setCell, World.size_drew] at z1
  have hB1 : Below w.heap.size w w1 := below_seq (by repeat (first | exact Below.refl _ _ | refine balloc ?_ _ | refine Below.drew ?_ | refine below_drewN ?_ _ | refine below_set ?_ (by first | omega | (dsimp only; omega)) _)) hb
  clear hb
  go_wp2_with fail
  refine (gsign_n xs ks v1 v2 t E _ (h1.out.below (by repeat (first | exact hB1 | exact Below.refl _ _ | refine balloc ?_ _ | refine Below.drew ?_ | refine below_drewN ?_ _ | refine below_set ?_ (by first | omega | (dsimp only; omega)) _))) (h2.out.below (by repeat (first | exact hB1 | exact Below.refl _ _ | refine balloc ?_ _ | refine Below.drew ?_ | refine below_drewN ?_ _ | refine below_set ?_ (by first | omega | (dsimp only; omega)) _))) m1.out m2.out hz hE h0).mono ?_; rintro e w2 ⟨rfl, hb⟩
  obtain ⟨hc2, hf2⟩ := bcell hb
  have z2 := hb.size
  try simp only [World.size_alloc, World.size_setCell, World.size_drew] at z2
  have s2_0 : w1.heap.size < w2.heap.size := by omega
  have hB2 : Below w.heap.size w w2 := below_seq (by repeat (first | exact hB1 | exact Below.refl _ _ | refine balloc ?_ _ | refine Below.drew ?_ | refine below_drewN ?_ _ | refine below_set ?_ (by first | omega | (dsimp only; omega)) _)) hb
  clear hb
  go_wp2
  go_ret
  exact ⟨rfl, (by repeat (first | exact hB2 | exact Below.refl _ _ | refine balloc ?_ _ | refine Below.drew ?_ | refine below_drewN ?_ _ | refine below_set ?_ (by first | omega | (dsimp only; omega)) _))⟩
set_option maxHeartbeats 8000000 in
theorem gs_y (xs ks : List Int) (v1 v2 : Value) (t : ByteArray) (more : Int) (l : List Sp) (J R : Sp) (X K c S S2 : Int) (w : World) (hF : FarAt w) (h1 : IntSl w v1 xs) (h2 : IntSl w v2 ks) (hz : t.size ≤ 140737488351232) (hE : groupF xs ks t.size = 0)
    (hl : Hid (xs.map (fun x => sq (4 * x)) = l)) (hX : Hid (dot xs (cfs l) = X)) (hJ : Hid (sq (4 * X) = J)) (hK : Hid (ks.sum = K)) (hR : Hid (sq (4 * K) = R)) (hc : Hid (askN R J t.data.toList = c)) (hS : Hid ((K + c * X) % 1013 = S))
    (n0 : -9223372036854775808 ≤ more) (n1 : more ≤ 9223372036854775807) (hv : Hid ((sq (4 * S + -(4 * K + 4 * X * c))).far = true)) (hv2 : Hid (1 ≤ more ∧ more < 1013 → (S + more) % 1013 = S2 ∧ (sq (4 * S2 + -(4 * K + 4 * X * c))).far = false)) :
    Calls Tryd.prog 4 #[v1, v2, .string t, .int .i64 more] w fun e w' => e = .returned (.bool true) ∧ Below w.heap.size w w' := by
  obtain ⟨m1, m2, hx, -, hz6⟩ := groupF_0 hE
  have hS0 := Lib.hid (show 0 ≤ S ∧ S < 1013 by have := hS.out; omega)
  have hll : l.length = xs.length := by rw [← hl.out, List.length_map]
  have hlu : l = (xs.map (4 * ·)).map sq := by rw [← hl.out, List.map_map]; rfl
  have hle : Hid (∀ i (h1 : i < xs.length) (h2 : i < l.length), sq (4 * xs[i]) = l[i]) := Lib.hid (by
    intro i h1 h2
    have := hl.out
    subst this
    rw [List.getElem_map])
  have hSg := Lib.hid (fun (w : World) hF h1 h2 => gsign_e xs ks v1 v2 t l J R c S w hF h1 h2 hz hE hl (Lib.hid (by rw [hX.out]; exact hJ.out)) (Lib.hid (by rw [hK.out]; exact hR.out)) hc (Lib.hid (by rw [hX.out, hK.out]; exact hS.out)))
  have hJc := Lib.hid (fun (w : World) v hF hs => joint_c (xs.map (4 * ·)) l v J w hF (by omega) hs (Lib.hid hlu) (Lib.hid (by rw [dot_four, hX.out]; exact hJ.out)))
  replace hx := Lib.hid hx
  obtain ⟨a1, c1, rfl, h1⟩ := h1
  have h1 := Lib.hid h1
  have h2 := Lib.hid h2
  have hF' := Lib.hid hF
  clear hE hlu hl hX hK hS hz m2
  go_enter Tryd.func4, Tryd.ntmps4
  go_wp2_with fail
  refine (joint_c [] [] (.slice none 0 0) ⟨0, 0, true⟩ _ (hF.below (by repeat (first | exact Below.refl _ _ | refine balloc ?_ _ | refine Below.drew ?_ | refine below_drewN ?_ _ | refine below_set ?_ (by first | omega | (dsimp only; omega)) _))) (by decide) ⟨none, 0, rfl, fun h => absurd h (by decide)⟩ (Lib.hid rfl) joint_far).mono ?_; rintro e w1 ⟨rfl, hb⟩
  obtain ⟨hc1, hf1⟩ := bcell hb
  have z1 := hb.size
  try simp only [World.size_alloc, World.size_setCell, World.size_drew] at z1
  have hB1 : Below w.heap.size w w1 := below_seq (by repeat (first | exact Below.refl _ _ | refine balloc ?_ _ | refine Below.drew ?_ | refine below_drewN ?_ _ | refine below_set ?_ (by first | omega | (dsimp only; omega)) _)) hb
  clear hb
  have hB1' := Lib.hid (balloc hB1 (.cells #[.int .i64 0, .int .i64 0, .bool true] 23))
  go_wp2_with fail
  refine (hSg.out _ (hF.below (by repeat (first | exact hB1 | exact Below.refl _ _ | refine balloc ?_ _ | refine Below.drew ?_ | refine below_drewN ?_ _ | refine below_set ?_ (by first | omega | (dsimp only; omega)) _))) ⟨a1, c1, rfl, fun hp => by obtain ⟨b, off, e, hs⟩ := h1.out hp; exact ⟨b, off, e, hs.below hB1'.out⟩⟩ (h2.out.below hB1'.out)).mono ?_; rintro e w2 ⟨rfl, hb⟩
  obtain ⟨hc2, hf2⟩ := bcell hb
  have z2 := hb.size
  try simp only [World.size_alloc, World.size_setCell, World.size_drew] at z2
  have s2_0 : w1.heap.size < w2.heap.size := by omega
  have hB2 : Below w.heap.size w w2 := below_seq (by repeat (first | exact hB1 | exact Below.refl _ _ | refine balloc ?_ _ | refine Below.drew ?_ | refine below_drewN ?_ _ | refine below_set ?_ (by first | omega | (dsimp only; omega)) _)) hb
  clear hb
  have hs3 := Lib.hid (SlAt.fresh w2 R S 25)
  have hB3 := Lib.hid (balloc hB2 (.cells #[.int .i64 R.x, .int .i64 R.y, .bool R.far, .int .i64 S] 25))
  clear hB2 hB1 hc1 hf1 hc2 hf2 hSg hB1' z2
  go_wp2
  generalize w2.alloc (.cells #[.int .i64 R.x, .int .i64 R.y, .bool R.far, .int .i64 S] 25) = w3 at *
  have i1 : Hid (0 < xs.length → ∃ b off, a1 = some ⟨b, off, none⟩ ∧ IntsAt w3 b off xs) := Lib.hid (fun hp => by obtain ⟨b, off, e, hs⟩ := h1.out hp; exact ⟨b, off, e, hs.below hB3.out⟩)
  have hF3 := Lib.hid (hF'.out.below hB3.out)
  clear h1 h2 hF
  go_loopw [13, 14] (fun o i wr => ∃ (n : Nat) (u : Value), n ≤ xs.length ∧ i = .int .i64 n ∧ u = o ∧ wr.ownsRow w3.heap.size 23 3 u n (spCells (l.take n)) ∧ Below w3.heap.size w3 wr) (fun _ i _ => xs.length - (intOf i).toNat)
  case atStart => exact ⟨0, _, Nat.zero_le _, rfl, rfl, World.ownsRow_nil _ _ _ _, Below.refl _ _⟩
  case round =>
    obtain ⟨n, u, hn, rfl, rfl, hown, hb⟩ := hrel
    replace hown := Lib.hid hown
    replace hb := Lib.hid hb
    by_cases hlt : n < xs.length
    · obtain ⟨b1, o1, rfl, l1⟩ := i1.out (by omega)
      have m3 := (l1.below hb.out).c n hlt
      have hlw := hb.out.size
      have hln := Lib.hid (take_snoc l n (by omega))
      have hA := Lib.hid (hle.out n hlt (by omega))
      obtain ⟨x1, x2⟩ := hx.out n hlt
      have htl : Hid ((l.take n).length = n) := Lib.hid (by rw [List.length_take]; omega)
      clear l1
      generalize xs[n] = x at *
      generalize l[n] = A at *
      have hFr := Lib.hid (hF3.out.below hb.out)
      go_wp2_with fail
      refine (key_e x A _ hFr.out x1 x2 hA).mono ?_; rintro e w4 ⟨rfl, hb2⟩
      have ow2 := Lib.hid (own_below hown.out hb2)
      have hB4 := Lib.hid (below_seq hb.out hb2)
      have hs4 := hb2.size
      clear hown hb2 m3
      go_wp2_with (first | (at_builtin; refine wpl_append_spot rfl _ _ _ rfl (by kernel_rfl) w3.heap.size _ (l.take n) n rfl ((ow2.out.alloc _).alloc _) htl.out (by omega) (by simp only [World.size_alloc]; omega) (w4.heap.size + 1) A rfl (by go_simp) (by go_simp) (by go_simp) ?_; intro v' w5 hown' hgrow hbel hloc; replace hown' := Lib.hid hown'; replace hbel := Lib.hid (hbel w3 (balloc (balloc hB4.out _) _)); clear hgrow hloc ow2 hB4) | fail)
      go_wp2
      go_roundw
      case rel => exact ⟨n + 1, _, by omega, by go_num, rfl, by rw [hln.out]; exact hown'.out, hbel.out⟩
      case measure => simp [intOf]; omega
    · obtain rfl : n = xs.length := by omega
      have hSp : Hid (SpSl wr u l) := Lib.hid (own_spots (by have := hown.out; rw [List.take_of_length_le (by omega)] at this; exact this) hll.symm)
      have hsr := Lib.hid (hs3.out.below hb.out)
      have hFr := Lib.hid (hF3.out.below hb.out)
      have hBr := Lib.hid (below_seq hB3.out hb.out)
      clear hown hb i1 hs3 hF3 hB3 hle
      go_wp2_with fail
      refine (hJc.out wr u hFr.out hSp.out).mono ?_; rintro e w4 ⟨rfl, hb4⟩
      have hB4 := Lib.hid (below_seq hBr.out hb4)
      have hs4 := hsr.out.below hb4
      have hs4' := Lib.hid hs4
      obtain ⟨r0, r1, r2, r3, f0, f1, f2, f3, fl⟩ := hs4
      obtain ⟨s0, s1⟩ := hS0.out
      clear hSp hsr hFr hBr hb4 hJc
      go_wp2_with fail
      refine (verify_e J R (4 * X) (4 * K) c S true t _ (hF'.out.below (balloc hB4.out _)) hz6 s0 s1 (Lib.hid hJ.out.symm) (Lib.hid hR.out.symm) hc hv).mono ?_; rintro e w5 ⟨rfl, hb5⟩
      have hs5 := hs4'.out.below (below_seq (below_alloc _ _) hb5)
      clear r0 r1 r2 r3 f0 f1 f2 f3 fl hs4'
      obtain ⟨r0, r1, r2, r3, f0, f1, f2, f3, fl⟩ := hs5
      have hj5 := (SpAt.fresh w4 J.x J.y J.far 23).below hb5
      obtain ⟨j0, j1, j2, -, -, -, jl⟩ := hj5
      have hB5 := Lib.hid (below_seq (balloc hB4.out _) hb5)
      have z5 := hb5.size
      simp only [World.size_alloc] at z5
      clear hb5
      by_cases hm : 1 ≤ more ∧ more < 1013
      · obtain ⟨g1, g2⟩ := hm
        obtain ⟨e2, hv3⟩ := hv2.out ⟨g1, g2⟩
        have hv3 := Lib.hid hv3
        have e1 : IntKind.i64.wrap (S + more) = S + more := IntWalk.i64_in _ (by omega)
        have e3 : (S + more).tmod 1013 = S2 := by rw [Int.tmod_eq_emod_of_nonneg (by omega)]; exact e2
        have t0 : 0 ≤ S2 := by omega
        have t1 : S2 < 1013 := by omega
        clear e2
        go_wp2_with fail
        refine (verify_e J R (4 * X) (4 * K) c S2 false t _ (hF'.out.below (by repeat (first | exact hB5.out | exact hb6 | refine balloc ?_ _ | refine below_set ?_ (by first | omega | (dsimp only; omega)) _))) hz6 t0 t1 (Lib.hid hJ.out.symm) (Lib.hid hR.out.symm) hc hv3).mono ?_; rintro e w6 ⟨rfl, hb6⟩
        go_wp2
        go_ret
        exact ⟨rfl, below_seq (by repeat (first | exact hB5.out | exact hb6 | refine balloc ?_ _ | refine below_set ?_ (by first | omega | (dsimp only; omega)) _)) hb6⟩
      · by_cases hm1 : 1 ≤ more
        · have hm2 : 1013 ≤ more := by omega
          go_wp2
          go_ret
          exact ⟨rfl, hB5.out⟩
        · have hm2 : more < 1 := by omega
          go_wp2
          go_ret
          exact ⟨rfl, hB5.out⟩
theorem groupSeals_core (xs ks : List Int) (v1 v2 : Value) (t : ByteArray) (more : Int) (hm : (Lit.int .i64 more).wf = true) (w : World) (hF : FarAt w) (h1 : IntSl w v1 xs) (h2 : IntSl w v2 ks) (m1 : xs.length ≤ 9223372036854775807) (m2 : ks.length ≤ 9223372036854775807) (hz : t.size ≤ 140737488351232) :
    Calls Tryd.prog 4 #[v1, v2, .string t, .int .i64 more] w fun e w' => e = .returned (.bool true) ∧ Below w.heap.size w w' := by
  by_cases hE : groupF xs ks t.size = 0
  · have hb := hm
    simp [Lit.wf] at hb
    refine gs_y xs ks v1 v2 t more _ _ _ _ _ _ _ _ w hF h1 h2 hz hE rfl rfl rfl rfl rfl rfl rfl hb.1 hb.2 ?_ (Lib.hid fun hm => ⟨rfl, ?_⟩)
    · generalize dot xs (cfs (xs.map fun x => sq (4 * x))) = X
      generalize askN _ _ _ = c
      generalize ks.sum = K
      rw [show 4 * X * c = 4 * (c * X) by rw [Int.mul_assoc, Int.mul_comm X c]]
      generalize c * X = p
      exact Lib.hid (sq_far.mpr (by omega))
    · revert hm
      generalize dot xs (cfs (xs.map fun x => sq (4 * x))) = X
      generalize askN _ _ _ = c
      generalize ks.sum = K
      rw [show 4 * X * c = 4 * (c * X) by rw [Int.mul_assoc, Int.mul_comm X c]]
      generalize c * X = p
      intro hm
      exact sq_far_not (by omega)
  · exact gs_n xs ks v1 v2 t more _ w hF h1 h2 m1 m2 hz rfl hE
theorem groupSeals_law (v1 v2 : Value) (t : ByteArray) (hz : t.size ≤ 140737488351232) (more : Int) (hm : (Lit.int .i64 more).wf = true) (w : World) (o1 : IntsV w v1) (o2 : IntsV w v2) (hF : FarAt w) :
    Calls Tryd.prog 4 #[v1, v2, .string t, .int .i64 more] w fun e w' => e = .returned (.bool true) ∧ Below w.heap.size w w' := by
  obtain ⟨xs, h1, m1, -⟩ := o1.sl
  obtain ⟨ks, h2, m2, -⟩ := o2.sl
  exact groupSeals_core xs ks v1 v2 t more hm w hF h1 h2 m1 m2 hz
end Go.Proofs.YtcphbigiooibcaaDoor
