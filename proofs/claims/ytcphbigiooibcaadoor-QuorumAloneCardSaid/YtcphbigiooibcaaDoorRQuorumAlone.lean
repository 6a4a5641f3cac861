/- The statement of QuorumAlone: for every input the law returns true, and the arguments read as they did. (its listed variable reads as laid; the card ties it) -/
import Derived.Test.YtcphbigiooibcaaDoorQu
import Derived.Test.YtcphbigiooibcaaDoorFr
import Derived.SizedLaws
import Derived.Test.YtcphbigiooibcaaDoorTie
import Derived.Test.YtcphbigiooibcaaDoorCards
import Derived.Test.YtcphbigiooibcaaDoorFar
import Derived.Test.YtcphbigiooibcaaDoorJf
import Derived.SevenTiedAt
namespace Go.Proofs.YtcphbigiooibcaaDoor
open Go.RowKit
set_option maxRecDepth 100000
set_option linter.unusedVariables false
set_option linter.unusedSimpArgs false
theorem pub_one (w : World) (hF : FarAt w) : Calls Tryd.prog 52 #[.slice (some ⟨w.heap.size, 0, none⟩) 1 1] (w.alloc (.cells #[.int .i64 1, .int .i64 0] 89)) fun e w' => ∃ b off cap, e = .returned (.tuple #[.slice (some ⟨b, off, none⟩) 1 cap, .nilIface]) ∧ w'.cell? ⟨b, off + 2, none⟩ = some (.bool true) ∧ b < w'.heap.size ∧ Below (w.alloc (.cells #[.int .i64 1, .int .i64 0] 89)).heap.size (w.alloc (.cells #[.int .i64 1, .int .i64 0] 89)) w' := by
  have i1 := ShSl.made w [(1, 0)] w.heap.size 1 1 #[.int .i64 1, .int .i64 0] 89 rfl rfl rfl
  refine (public_c [(1, 0)] _ _ (hF.below (below_alloc _ _)) (by decide) i1 (fun i hi => ?_)).mono ?_
  · have : i = 0 := by simpa using hi
    subst this
    exact ⟨show (1 : Int) ≤ 1 by decide, show (1 : Int) < 1013 by decide, show (0 : Int) ≤ 0 by decide, show (0 : Int) < 1013 by decide⟩
  · rintro e w' ⟨v', rfl, ⟨a, cap, rfl, hs⟩, hb⟩
    obtain ⟨b, off, rfl, hs'⟩ := hs (by simp)
    have := hs'.cf 0 (by simp)
    refine ⟨b, off, cap, rfl, ?_, hs'.lt, hb⟩
    rw [Nat.zero_mul, Nat.add_zero] at this
    rw [this]
    simp only [List.map_cons, List.getElem_cons_zero, Int.mul_zero, sq_zero]
    rfl
set_option maxHeartbeats 4000000 in
theorem qa_n (x n at' E : Int) (t : ByteArray) (S : Sp) (ev : Value) (w : World) (hF : FarAt w) (hE : Hid (splitF [x] n = E)) (h0 : E ≠ 0) (hS : Hid (ShortIs x t S ev)) :
    Calls Tryd.prog 11 #[.int .i64 x, .int .i64 n, .int .i64 at', .string t] w fun e w' => e = .returned (.bool true) ∧ Below w.heap.size w w' := by
  have hF' := Lib.hid hF
  go_enter Tryd.func11, Tryd.ntmps11
  go_wp2_with fail
  refine (pub_one w hF).mono ?_; rintro e w1 ⟨b, off, cap, rfl, pc, pl, hb⟩
  obtain ⟨hc1, hf1⟩ := bcell hb
  have z1 := hb.size
  try simp only [World.size_alloc, World.size_setCell, World.size_drew] at z1
  have s1_0 : w.heap.size < w1.heap.size := by omega
  have hB1 : Below w.heap.size w w1 := below_seq (by repeat (first | exact Below.refl _ _ | refine balloc ?_ _ | refine Below.drew ?_ | refine below_drewN ?_ _ | refine below_set ?_ (by first | omega | (dsimp only; omega)) _)) hb
  clear hb
  have i1 := IntSl.made w1 [x] w1.heap.size 1 1 #[.int .i64 x] 3 rfl rfl rfl
  have hsp := Lib.hid (split_n [x] _ n E _ (by simp) i1 hE h0)
  clear i1
  go_wp2_with fail
  refine (hsp.out).mono ?_; rintro e w2 ⟨rfl, hb⟩
  obtain ⟨hc2, hf2⟩ := bcell hb
  have z2 := hb.size
  try simp only [World.size_alloc, World.size_setCell, World.size_drew] at z2
  have s2_0 : w.heap.size < w2.heap.size := by omega
  have s2_1 : w1.heap.size < w2.heap.size := by omega
  have hB2 : Below w.heap.size w w2 := below_seq (by repeat (first | exact hB1 | exact Below.refl _ _ | refine balloc ?_ _ | refine Below.drew ?_ | refine below_drewN ?_ _ | refine below_set ?_ (by first | omega | (dsimp only; omega)) _)) hb
  clear hb
  go_wp2_with fail
  refine (hS.out _ (hF.below (by repeat (first | exact hB2 | exact Below.refl _ _ | refine balloc ?_ _ | refine Below.drew ?_ | refine below_drewN ?_ _ | refine below_set ?_ (by first | omega | (dsimp only; omega)) _)))).mono ?_; rintro e w3 ⟨rfl, hb⟩
  obtain ⟨hc3, hf3⟩ := bcell hb
  have z3 := hb.size
  try simp only [World.size_alloc, World.size_setCell, World.size_drew] at z3
  have s3_0 : w.heap.size < w3.heap.size := by omega
  have s3_1 : w1.heap.size < w3.heap.size := by omega
  have hB3 : Below w.heap.size w w3 := below_seq (by repeat (first | exact hB2 | exact Below.refl _ _ | refine balloc ?_ _ | refine Below.drew ?_ | refine below_drewN ?_ _ | refine below_set ?_ (by first | omega | (dsimp only; omega)) _)) hb
  clear hb
  go_wp2
  go_ret
  exact ⟨rfl, (by repeat (first | exact hB3 | exact Below.refl _ _ | refine balloc ?_ _ | refine Below.drew ?_ | refine below_drewN ?_ _ | refine below_set ?_ (by first | omega | (dsimp only; omega)) _))⟩
theorem qa_ok1 {x : Int} (h : [x].all okR = true) : x % 1013 = x := by
  have := okR_y (all_okR h 0 (by simp))
  simp only [List.getElem_cons_zero] at this
  omega
theorem val_one (y x : Int) (h : x % 1013 = x) : val y [x] = x := by simp [val, h]
set_option maxHeartbeats 4000000 in
theorem qa_s (x at' E : Int) (n : Nat) (t : ByteArray) (w : World) (hF : FarAt w) (hz : [x].all okR = true) (n1 : 1 ≤ n) (n2 : n ≤ 12) (hS : Hid (ShortIs x t ⟨0, 0, false⟩ (.iface 113 (.int .i64 E)))) :
    Calls Tryd.prog 11 #[.int .i64 x, .int .i64 n, .int .i64 at', .string t] w fun e w' => e = .returned (.bool true) ∧ Below w.heap.size w w' := by
  go_enter Tryd.func11, Tryd.ntmps11
  go_wp2_with fail
  refine (pub_one w hF).mono ?_; rintro e w1 ⟨b, off, cap, rfl, pc, pl, hb⟩
  obtain ⟨hc1, hf1⟩ := bcell hb
  have z1 := hb.size
  try simp only [World.size_alloc, World.size_setCell, World.size_drew] at z1
  have s1_0 : w.heap.size < w1.heap.size := by omega
  have hB1 : Below w.heap.size w w1 := below_seq (by repeat (first | exact Below.refl _ _ | refine balloc ?_ _ | refine Below.drew ?_ | refine below_drewN ?_ _ | refine below_set ?_ (by first | omega | (dsimp only; omega)) _)) hb
  clear hb
  have i1 := IntSl.made w1 [x] w1.heap.size 1 1 #[.int .i64 x] 3 rfl rfl rfl
  have hsp := Lib.hid (split_ok [x] _ n _ (by simp) (by simp) hz n1 n2 i1)
  clear i1 hz
  go_wp2_with fail
  refine (hsp.out).mono ?_; rintro e w2 ⟨v', rfl, hsl, hb⟩
  obtain ⟨hc2, hf2⟩ := bcell hb
  have z2 := hb.size
  try simp only [World.size_alloc, World.size_setCell, World.size_drew] at z2
  have s2_0 : w.heap.size < w2.heap.size := by omega
  have s2_1 : w1.heap.size < w2.heap.size := by omega
  have hB2 : Below w.heap.size w w2 := below_seq (by repeat (first | exact hB1 | exact Below.refl _ _ | refine balloc ?_ _ | refine Below.drew ?_ | refine below_drewN ?_ _ | refine below_set ?_ (by first | omega | (dsimp only; omega)) _)) hb
  clear hb
  clear hsl
  go_wp2_with fail
  refine (hS.out _ (hF.below (by repeat (first | exact hB2 | exact Below.refl _ _ | refine balloc ?_ _ | refine Below.drew ?_ | refine below_drewN ?_ _ | refine below_set ?_ (by first | omega | (dsimp only; omega)) _)))).mono ?_; rintro e w3 ⟨rfl, hb⟩
  obtain ⟨hc3, hf3⟩ := bcell hb
  have z3 := hb.size
  try simp only [World.size_alloc, World.size_setCell, World.size_drew] at z3
  have s3_0 : w.heap.size < w3.heap.size := by omega
  have s3_1 : w1.heap.size < w3.heap.size := by omega
  have hB3 : Below w.heap.size w w3 := below_seq (by repeat (first | exact hB2 | exact Below.refl _ _ | refine balloc ?_ _ | refine Below.drew ?_ | refine below_drewN ?_ _ | refine below_set ?_ (by first | omega | (dsimp only; omega)) _)) hb
  clear hb
  go_wp2
  go_ret
  exact ⟨rfl, (by repeat (first | exact hB3 | exact Below.refl _ _ | refine balloc ?_ _ | refine Below.drew ?_ | refine below_drewN ?_ _ | refine below_set ?_ (by first | omega | (dsimp only; omega)) _))⟩
set_option maxHeartbeats 4000000 in
theorem qa_y (x j : Int) (at' : Int) (n : Nat) (t : ByteArray) (H S : Sp) (w : World) (hF : FarAt w) (hz : [x].all okR = true) (x1 : 1 ≤ x) (x2 : x < 1013) (n1 : 1 ≤ n) (n2 : n ≤ 12) (ht : t.size ≤ 60) (hH : Hid (hSpot t.data.toList = H)) (hu : Hid (H = sq (4 * j))) (hS : Hid (sq (4 * j * x) = S)) :
    Calls Tryd.prog 11 #[.int .i64 x, .int .i64 n, .int .i64 at', .string t] w fun e w' => e = .returned (.bool true) ∧ Below w.heap.size w w' := by
  have hv := Lib.hid (fun y => val_one y x (qa_ok1 hz))
  go_enter Tryd.func11, Tryd.ntmps11
  go_wp2_with fail
  refine (pub_one w hF).mono ?_; rintro e w1 ⟨b, off, cap, rfl, pc, pl, hb⟩
  obtain ⟨hc1, hf1⟩ := bcell hb
  have z1 := hb.size
  try simp only [World.size_alloc, World.size_setCell, World.size_drew] at z1
  have s1_0 : w.heap.size < w1.heap.size := by omega
  have hB1 : Below w.heap.size w w1 := below_seq (by repeat (first | exact Below.refl _ _ | refine balloc ?_ _ | refine Below.drew ?_ | refine below_drewN ?_ _ | refine below_set ?_ (by first | omega | (dsimp only; omega)) _)) hb
  clear hb
  have i1 := IntSl.made w1 [x] w1.heap.size 1 1 #[.int .i64 x] 3 rfl rfl rfl
  have hsp := Lib.hid (split_ok [x] _ n _ (by simp) (by simp) hz n1 n2 i1)
  clear i1 hz
  go_wp2_with fail
  refine (hsp.out).mono ?_; rintro e w2 ⟨v', rfl, hsl, hb⟩
  obtain ⟨hc2, hf2⟩ := bcell hb
  have z2 := hb.size
  try simp only [World.size_alloc, World.size_setCell, World.size_drew] at z2
  have s2_0 : w.heap.size < w2.heap.size := by omega
  have s2_1 : w1.heap.size < w2.heap.size := by omega
  have hB2 : Below w.heap.size w w2 := below_seq (by repeat (first | exact hB1 | exact Below.refl _ _ | refine balloc ?_ _ | refine Below.drew ?_ | refine below_drewN ?_ _ | refine below_set ?_ (by first | omega | (dsimp only; omega)) _)) hb
  clear hb
  obtain ⟨a2, cap2, rfl, hsl⟩ := hsl
  rw [splitL_len]
  go_wp2_with fail
  refine (short_y x j t H S _ (hF.below (by repeat (first | exact hB2 | exact Below.refl _ _ | refine balloc ?_ _ | refine Below.drew ?_ | refine below_drewN ?_ _ | refine below_set ?_ (by first | omega | (dsimp only; omega)) _))) x1 x2 ht hH hu hS).mono ?_; rintro e w3 ⟨rfl, hb⟩
  obtain ⟨hc3, hf3⟩ := bcell hb
  have z3 := hb.size
  try simp only [World.size_alloc, World.size_setCell, World.size_drew] at z3
  have s3_0 : w.heap.size < w3.heap.size := by omega
  have s3_1 : w1.heap.size < w3.heap.size := by omega
  have hB3 : Below w.heap.size w w3 := below_seq (by repeat (first | exact hB2 | exact Below.refl _ _ | refine balloc ?_ _ | refine Below.drew ?_ | refine below_drewN ?_ _ | refine below_set ?_ (by first | omega | (dsimp only; omega)) _)) hb
  clear hb
  by_cases p0 : at' < 0
  · go_wp2
    go_ret
    exact ⟨rfl, (by repeat (first | exact hB3 | exact Below.refl _ _ | refine balloc ?_ _ | refine Below.drew ?_ | refine below_drewN ?_ _ | refine below_set ?_ (by first | omega | (dsimp only; omega)) _))⟩
  obtain ⟨m, rfl⟩ : ∃ m : Nat, at' = (m : Int) := ⟨at'.toNat, by omega⟩
  by_cases p1 : (n : Int) ≤ (m : Int)
  · go_wp2
    go_ret
    exact ⟨rfl, (by repeat (first | exact hB3 | exact Below.refl _ _ | refine balloc ?_ _ | refine Below.drew ?_ | refine below_drewN ?_ _ | refine below_set ?_ (by first | omega | (dsimp only; omega)) _))⟩
  have hm : m < (splitL [x] n).length := by rw [splitL_len]; omega
  obtain ⟨b2, off2, rfl, hs2⟩ := hsl (by rw [splitL_len]; omega)
  have d1 := hs2.cx m hm
  have d2 := hs2.cy m hm
  have dl := hs2.lt
  replace d1 := (hc3 _ _ dl).trans d1
  replace d2 := (hc3 _ _ dl).trans d2
  replace dl : b2 < w3.heap.size := by omega
  rw [splitL_get] at d1 d2
  simp only [hv.out] at d1 d2
  have hm1 : (1 : Int) ≤ ((m + 1 : Nat) : Int) := by omega
  have hm2 : ((m + 1 : Nat) : Int) < 1013 := by omega
  clear hs2 hsl
  generalize hq : ((m + 1 : Nat) : Int) = q at *
  replace hq := Lib.hid hq
  go_wp2_with fail
  refine (part_y q x j t H S _ (hF.below (by repeat (first | exact hB3 | exact Below.refl _ _ | refine balloc ?_ _ | refine Below.drew ?_ | refine below_drewN ?_ _ | refine below_set ?_ (by first | omega | (dsimp only; omega)) _))) hm1 hm2 (by omega) x2 ht hH hu hS).mono ?_; rintro e w4 ⟨rfl, hb⟩
  obtain ⟨hc4, hf4⟩ := bcell hb
  have z4 := hb.size
  try simp only [World.size_alloc, World.size_setCell, World.size_drew] at z4
  have s4_0 : w.heap.size < w4.heap.size := by omega
  have s4_1 : w1.heap.size < w4.heap.size := by omega
  have s4_2 : w3.heap.size < w4.heap.size := by omega
  have hB4 : Below w.heap.size w w4 := below_seq (by repeat (first | exact hB3 | exact Below.refl _ _ | refine balloc ?_ _ | refine Below.drew ?_ | refine below_drewN ?_ _ | refine below_set ?_ (by first | omega | (dsimp only; omega)) _)) hb
  clear hb
  go_wp2
  go_ret
  exact ⟨rfl, (by repeat (first | exact hB4 | exact Below.refl _ _ | refine balloc ?_ _ | refine Below.drew ?_ | refine below_drewN ?_ _ | refine below_set ?_ (by first | omega | (dsimp only; omega)) _))⟩
theorem quorumAlone_law (x : Int) (hx : (Lit.int .i64 x).wf = true) (n : Int) (hn : (Lit.int .i64 n).wf = true) (at' : Int) (ha : (Lit.int .i64 at').wf = true) (t : ByteArray) (hz : t.size ≤ 140737488351232) (w : World) (hF : FarAt w) :
    Calls Tryd.prog 11 #[.int .i64 x, .int .i64 n, .int .i64 at', .string t] w fun e w' => e = .returned (.bool true) ∧ Below w.heap.size w w' := by
  by_cases hE : splitF [x] n = 0
  · obtain ⟨-, -, hok, n1, n2⟩ := splitF_0 hE
    obtain ⟨m, rfl⟩ : ∃ m : Nat, n = (m : Int) := ⟨n.toNat, by omega⟩
    by_cases h : 1 ≤ x ∧ x < 1013 ∧ t.size ≤ 60
    · obtain ⟨j, j1, j2, e⟩ := hSpot_four t.data.toList
      exact qa_y x j at' m t _ _ w hF hok h.1 h.2.1 (by omega) (by omega) h.2.2 rfl e rfl
    · obtain ⟨E, hS⟩ := short_n x t hz h
      exact qa_s x at' E m t w hF hok (by omega) (by omega) hS
  · obtain ⟨S, ev, hS⟩ := short_is x t hz
    exact qa_n x n at' _ t S ev w hF rfl hE hS
end Go.Proofs.YtcphbigiooibcaaDoor
namespace Go.Proofs.YtcphbigiooibcaaDoor.quorumAlone
open Go.ChangeShapes Go.WideShapes Go.ChangeAt Go.RowKit
set_option linter.unusedVariables false
theorem typesOk : ([3, 3, 3, 9].all fun t => Tryd.prog.readableRec t && decide (t < Tryd.prog.types.size)) = true := by kernel_rfl
set_option maxRecDepth 100000 in
theorem lifted (os : Os) (started : os.Started) (H : Type) (enc : TypeId × Value → H) :
    ReturnsInHanded {} Tryd.checked os 11 .any (fun w args => (Rows.quorumAloneSpec.pre enc Tryd.prog Tryd.f11 [] false w args ∧ laidMetH Tryd.prog farLaid w) ∧ sizedMet enc Tryd.prog Tryd.f11 (OpenSpec.ofChange Rows.quorumAloneSpec) false w args)
      (Rows.quorumAloneSpec.post enc Tryd.prog Tryd.f11 false true false false) := by
  refine returnsInHanded_of_change_and (C := Tryd.checked) (X := fun w _ => laidMetH Tryd.prog farLaid w) (fun _ _ _ hh h => h.of_heap hh) Tryd.ownK started (by kernel_rfl) Tryd.func11
    (ChangeSpec.witness_shaped (enc := enc) (C := Tryd.checked) (os := os) (X := fun w _ => laidMetH Tryd.prog farLaid w) false (World.doorLaid Tryd.prog 400 os) #[.int .i64 0, .int .i64 0, .int .i64 0, .string ⟨#[]⟩] 8 rfl (World.shaped_of_RefB (by kernel_rfl) (by kernel_rfl)) (by kernel_rfl) (by kernel_rfl) (by kernel_rfl) (farLaid_met os _)) ?_
  intro W base args ds gs before hval0 hW hcnd hsz0 hL hholds
  have hval : ∀ (j : Nat) t v, Tryd.f11.params[j]? = some t → args[j]? = some v → Value.okWide Tryd.prog W .any base t v := hval0
  have hW' := hW
  obtain ⟨p, q, hA0, hV, rfl, hfz, hnd⟩ := hW
  have hA : DataW.TrodAll enc Tryd.prog W 0 (fun _ => true) true Tryd.f11.params.toList args.toList ds p := hA0
  obtain ⟨rfl, rfl⟩ := trodVars_none hV
  simp only [List.append_nil] at hW'
  have hlt : ∀ x ∈ p, x.block < W.heap.size := fun x hx => hW'.lt x hx
  have hsz : (DataW.weightsEach Tryd.prog (Tryd.f11.params.toList ++ Rows.quorumAloneSpec.plain.varTypes Tryd.prog) (ds ++ [])).all (· ≤ reachBytes) = true := hsz0
  rw [Tryd.params11] at hA hval hsz
  have hK := hA
  obtain ⟨v0, vs0, d0, ds0, p0, q0, hargs, rfl, rfl, h0, r0⟩ := trodAll_cons hA
  obtain ⟨v1, vs1, d1, ds1, p1, q1, rfl, rfl, rfl, h1, r1⟩ := trodAll_cons r0
  obtain ⟨v2, vs2, d2, ds2, p2, q2, rfl, rfl, rfl, h2, r2⟩ := trodAll_cons r1
  obtain ⟨v3, vs3, d3, ds3, p3, q3, rfl, rfl, rfl, h3, r3⟩ := trodAll_cons r2
  obtain ⟨rfl, rfl, rfl⟩ := trodAll_nil r3
  obtain rfl : args = #[v0, v1, v2, v3] := by cases args; simp_all
  obtain ⟨a0, rfl, rfl, rfl, w0⟩ := open_int Tryd.underlying3 (hval 0 3 v0 rfl rfl) h0
  obtain ⟨a1, rfl, rfl, rfl, w1⟩ := open_int Tryd.underlying3 (hval 1 3 v1 rfl rfl) h1
  obtain ⟨a2, rfl, rfl, rfl, w2⟩ := open_int Tryd.underlying3 (hval 2 3 v2 rfl rfl) h2
  obtain ⟨a3, rfl, rfl, rfl, w3⟩ := ChangeMaps.open_string Tryd.underlying9 (hval 3 9 v3 rfl rfl) h3
  have z3 : a3.size ≤ 140737488351232 := by have := sized_string hsz (j := 3) (t := 9) rfl rfl; simpa [reachBytes] using this
  clear hA0 hval0
  refine (quorumAlone_law a0 w0 a1 w1 a2 w2 a3 z3 W (farLaid_at hL)).mono fun e W' ⟨he, hg⟩ => ?_
  subst he
  exact ⟨_, rfl, post_of_below (pa := _) (pv := []) hW' (fun _ _ _ => (trodAll_cons_mk (shut_bool Tryd.underlying4 _) trodAll_mk0)) (fun sp hsp => trodAll_stays Tryd.laidOutK hg typesOk hK (fun x hx => ⟨hlt x hx, hsp x (by first | exact hx | (simp at hx) | simpa using hx)⟩)) (fun _ _ => rfl) (by simp) hg (ok_one (by kernel_rfl) rfl (okWide_bool_mk Tryd.underlying4 _))⟩

theorem over : Rows.quorumAloneRow.holds Tryd.pinned (OpenSpec.ofChange Rows.quorumAloneSpec) :=
  OpenClaim.holds_of_wide 11 Tryd.f11 rfl rfl rfl rfl rfl rfl rfl ⟨rfl, rfl, rfl, rfl, rfl⟩ rfl rfl rfl rfl rfl (by kernel_rfl) Tryd.func11 (by show joinedFacts Tryd.prog _ _ _ _ = true; unfold joinedFacts; rw [mayEnterK, liftsFinalK, makeK]; kernel_rfl)
    (of_decide_eq_true (by kernel_rfl)) (by unfold Func.isWrapper; first | (rw [if_pos (by decide +kernel)]; kernel_rfl) | (rw [if_neg (by decide +kernel)]; exact ⟨rfl, rfl⟩))
    (fun os started H enc _ => lifted os started H enc)
theorem card : Rows.QuorumAloneCardSaid :=
  Claim7.holds_tied_plain_at .later [] [.data] true (true, "60558bf5146220f1391580bf7513f01283a721c5be6bc01e648492e84d139369") true
    over (fun _ h => by cases h) (by kernel_rfl) (fun _ h => by cases h) quorumAlone_row_tie rfl ⟨rfl, rfl⟩ mainIsK rfl
    (fun f fn hf hfn => by
      obtain rfl : f = 11 := Option.some.inj ((show Tryd.prog.funcNamed "pairstone/stonelaw4.QuorumAlone" = some 11 by kernel_rfl).symm.trans hf) |>.symm
      obtain rfl : fn = Tryd.f11 := (Option.some.inj (Tryd.func11.symm.trans hfn)).symm
      exact ⟨by kernel_rfl, fun j t ht => by
        rw [Tryd.params11] at ht
        have hm : t ∈ ([3, 3, 3, 9] : List TypeId) := by simpa using Array.mem_of_getElem? ht
        have hall : (([3, 3, 3, 9] : List TypeId).all fun u => !Tryd.prog.wantsStandIn u) = true := by kernel_rfl
        exact (show Tryd.prog.wantsStandIn t = false by simpa using List.all_eq_true.1 hall t hm)⟩)
    (by kernel_rfl)
#print axioms card
end Go.Proofs.YtcphbigiooibcaaDoor.quorumAlone
