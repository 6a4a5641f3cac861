/- The statement of SealTells: for every input the law returns true, and the arguments read as they did. (its listed variable reads as laid; the card ties it) -/
import Derived.Test.YtopcdihgkojjlaaDoorFr
import Derived.Test.YtopcdihgkojjlaaDoorMSealTells
import Derived.SizedLaws
import Derived.Test.YtopcdihgkojjlaaDoorTie
import Derived.Test.YtopcdihgkojjlaaDoorCards
import Derived.Test.YtopcdihgkojjlaaDoorFe
import Derived.Test.YtopcdihgkojjlaaDoorJf
import Derived.SevenTiedAt
namespace Go.Proofs.YtopcdihgkojjlaaDoor
open Go.RowKit Go.WideShapes Go.ChangeShapes
section
variable {H : Type} {enc : TypeId × Value → H} {P : Program} {w : World} {base : Nat} {spare : Nat → Bool} {held : Bool}
open Go.Joins Go.Deep
theorem open_seal {r : Reach} {b0 : Nat} {t : TypeId} {f0 f1 s0 s1 s2 : Field} {v : Value} {d : DataW H} {p : List MemPlace} (hs : P.underlying t = some (.struct #[f0, f1])) (hC : P.cellsOf t = 4) (ho0 : f0.offset = 0) (ho1 : f1.offset = 3) (hC0 : P.cellsOf f0.type = 3) (hC1 : P.cellsOf f1.type = 1)
    (hs0 : P.underlying f0.type = some (.struct #[s0, s1, s2])) (hone : oneCellFields P #[s0, s1, s2] = true) (i0 : P.underlying s0.type = some (.int .i64)) (i1 : P.underlying s1.type = some (.int .i64)) (i2 : P.underlying s2.type = some .bool) (i3 : P.underlying f1.type = some (.int .i64))
    (hv : Value.okWide P w r b0 t v) (h : DataW.Trod enc P w base spare held t v d p) :
    ∃ (a b : Int) (f : Bool) (c : Int), v = .agg #[.int .i64 a, .int .i64 b, .bool f, .int .i64 c] ∧ (Lit.int .i64 a).wf = true ∧ (Lit.int .i64 b).wf = true ∧ (Lit.int .i64 c).wf = true := by
  obtain ⟨cs, rfl, hsz⟩ := okWide_struct hs hv
  obtain ⟨c0, c1, c2, c3, rfl⟩ := array4 (hsz.trans hC)
  obtain ⟨fuel, hf⟩ := h
  obtain ⟨y0, y1, n, hx, _, g0, g1⟩ := trod_struct2 hs hf
  rw [ho0, hC0] at g0
  rw [ho1, hC1] at g1
  obtain ⟨z0, z1, z2, m, hx', _, k0, k1, k2⟩ := trod_struct3 hs0 (cs := [c0, c1, c2]) (by simpa [Value.cells] using g0)
  obtain ⟨o0, q0⟩ := hone_of hone 0 s0 rfl
  obtain ⟨o1, q1⟩ := hone_of hone 1 s1 rfl
  obtain ⟨o2, q2⟩ := hone_of hone 2 s2 rfl
  have k0' : DataW.trod enc P w base spare held m s0.type [c0] = some z0 := by simpa [o0, q0] using k0
  have k1' : DataW.trod enc P w base spare held m s1.type [c1] = some z1 := by simpa [o1, q1] using k1
  have k2' : DataW.trod enc P w base spare held m s2.type [c2] = some z2 := by simpa [o2, q2] using k2
  have k3' : DataW.trod enc P w base spare held n f1.type [c3] = some y1 := by simpa [Value.cells] using g1
  obtain ⟨a, e0, -, wa⟩ := DataW.trod_int i0 k0'
  obtain ⟨b, e1, -, wb⟩ := DataW.trod_int i1 k1'
  obtain ⟨f, e2, -⟩ := DataW.trod_bool i2 k2'
  obtain ⟨c, e3, -, wc⟩ := DataW.trod_int i3 k3'
  simp at e0 e1 e2 e3
  subst e0 e1 e2 e3
  exact ⟨a, b, f, c, rfl, wa, wb, wc⟩
end
end Go.Proofs.YtopcdihgkojjlaaDoor
namespace Go.Proofs.YtopcdihgkojjlaaDoor
open Go.RowKit
set_option maxRecDepth 100000
set_option linter.unusedVariables false
set_option linter.unusedSimpArgs false
theorem sealTells_law (x : Int) (hx : (Lit.int .i64 x).wf = true) (k : Int) (hk : (Lit.int .i64 k).wf = true) (t : ByteArray) (hz : t.size ≤ 140737488351232) (r key R : Sp) (S : Int) (w : World) (hL : FarAt w ∧ ErrAt w) :
    Calls Tryd.prog 8 #[.int .i64 x, .int .i64 k, .string t, spV r, spV key, slV R S] w fun e w' => e = .returned (.bool true) ∧ Below w.heap.size w w' := by
  obtain ⟨V1, E1, p1, p2⟩ : ∃ (V1 : Sp) (E1 : Int), ((secB x = true ∧ 1 ≤ x ∧ x < 1013 ∧ sq (4 * x) = V1 ∧ E1 = 0) ∨ (secB x = false ∧ V1 = ⟨0, 0, false⟩ ∧ E1 = 1)) ∧ (∀ w : World, FarAt w → Calls Tryd.prog 41 #[.int .i64 x] w fun e w' => e = .returned (.tuple #[spV V1, errV E1]) ∧ Below w.heap.size w w') := by
    by_cases h : 1 ≤ x ∧ x < 1013
    · exact ⟨_, _, .inl ⟨decide_eq_true h, h.1, h.2, rfl, rfl⟩, fun w hF => key_y x w hF h.1 h.2⟩
    · exact ⟨_, _, .inr ⟨decide_eq_false h, rfl, rfl⟩, fun w _ => key_n x w h⟩
  obtain ⟨T4, E2, E3, N, q1, q2, q3, q4, q5⟩ : ∃ (T4 E2 E3 N : Int), ((60 < t.size ∧ T4 = 4) ∨ (t.size ≤ 60 ∧ T4 = 0)) ∧ ((T4 = 0 ∧ sCheck r = E2) ∨ ((T4 == 0) = false ∧ E2 = T4)) ∧ ((E2 = 0 ∧ sCheck key = E3) ∨ ((E2 == 0) = false ∧ E3 = E2)) ∧
      ((E3 = 0 ∧ Ok r ∧ Ok key ∧ t.size ≤ 60 ∧ askN r key t.data.toList = N) ∨ ((E3 == 0) = false ∧ N = 0)) ∧ (∀ w : World, FarAt w → Calls Tryd.prog 54 #[spV r, spV key, .string t] w fun e w' => e = .returned (.tuple #[.int .i64 N, errV E3]) ∧ Below w.heap.size w w') := by
    by_cases h : 60 < t.size
    · exact ⟨4, 4, 4, 0, .inl ⟨h, rfl⟩, .inr ⟨rfl, rfl⟩, .inr ⟨rfl, rfl⟩, .inr ⟨rfl, rfl⟩, fun w _ => sealAsk_n4 r key t w h hz⟩
    · by_cases h1 : sCheck r = 0
      · by_cases h2 : sCheck key = 0
        · exact ⟨0, 0, 0, _, .inr ⟨by omega, rfl⟩, .inl ⟨rfl, h1⟩, .inl ⟨rfl, h2⟩, .inl ⟨rfl, (ok_iff _).mp h1, (ok_iff _).mp h2, by omega, rfl⟩, fun w hF => sealAsk_e r key t _ w hF ((ok_iff _).mp h1) ((ok_iff _).mp h2) (by omega) rfl⟩
        · exact ⟨0, 0, _, 0, .inr ⟨by omega, rfl⟩, .inl ⟨rfl, h1⟩, .inl ⟨rfl, rfl⟩, .inr ⟨by simpa using h2, rfl⟩, fun w hF => by rw [errV, if_neg h2]; exact sealAsk_nk r key _ t w hF (by omega) ((ok_iff _).mp h1) rfl h2⟩
      · exact ⟨0, _, _, 0, .inr ⟨by omega, rfl⟩, .inl ⟨rfl, rfl⟩, .inr ⟨by simpa using h1, rfl⟩, .inr ⟨by simpa using h1, rfl⟩, fun w hF => by rw [errV, if_neg h1]; exact sealAsk_nr r key _ t w hF (by omega) rfl h1⟩
  obtain ⟨Z, Y, E4, u1, u2⟩ : ∃ (Z : Sp) (Y E4 : Int), (((!(secB x && secB k)) = false ∧ t.size ≤ 60 ∧ E4 = 0 ∧ (∀ w : World, Calls Tryd.prog 55 #[.int .i64 x, .int .i64 k, .string t] w fun e w' => e = .returned (slV Z Y) ∧ Below w.heap.size w w')) ∨ ((!(secB x && secB k)) = false ∧ 60 < t.size ∧ E4 = 4 ∧ Z = ⟨0, 0, false⟩ ∧ Y = 0) ∨ ((!(secB x && secB k)) = true ∧ E4 = 1 ∧ Z = ⟨0, 0, false⟩ ∧ Y = 0)) ∧
      (∀ w : World, FarAt w → Calls Tryd.prog 56 #[.int .i64 x, .int .i64 k, .string t] w fun e w' => e = .returned (.tuple #[slV Z Y, errV E4]) ∧ Below w.heap.size w w') := by
    by_cases h1 : 1 ≤ x ∧ x < 1013
    · have b1 : secB x = true := decide_eq_true h1
      by_cases h2 : 1 ≤ k ∧ k < 1013
      · have b2 : secB k = true := decide_eq_true h2
        by_cases h3 : 60 < t.size
        · exact ⟨_, _, 4, .inr (.inl ⟨by rw [b1, b2]; rfl, h3, rfl, rfl, rfl⟩), fun w _ => sign_n3 x k t w h1.1 h1.2 h2.1 h2.2 h3 hz⟩
        · have bd := askN_bd (sq (4 * k)) (sq (4 * x)) t.data.toList
          have m := mul_q bd.1 bd.2 h1.1 h1.2
          exact ⟨_, _, 0, .inl ⟨by rw [b1, b2]; rfl, by omega, rfl, fun w => rSign_e x k t _ _ _ _ w h1.1 h1.2 h2.1 h2.2 (by omega) rfl rfl (sq_ok _) (sq_ok _) rfl m.1 m.2 rfl⟩, fun w hF => sign_e x k t _ _ _ _ w hF h1.1 h1.2 h2.1 h2.2 (by omega) rfl rfl rfl rfl⟩
      · have b2 : secB k = false := decide_eq_false h2
        exact ⟨_, _, 1, .inr (.inr ⟨by rw [b1, b2]; rfl, rfl, rfl, rfl⟩), fun w _ => sign_n2 x k t w h1.1 h1.2 h2⟩
    · have b1 : secB x = false := decide_eq_false h1
      exact ⟨_, _, 1, .inr (.inr ⟨by rw [b1]; rfl, rfl, rfl, rfl⟩), fun w _ => sign_n1 x k t w h1⟩
  obtain ⟨RT, v1, v2⟩ : ∃ RT : Bool, ((sealF key R S t.size = 0 ∧ (∀ w : World, Calls Tryd.prog 58 #[spV key, .string t, slV R S, spV ⟨0, 0, true⟩] w fun e w' => e = .returned (.bool RT) ∧ Below w.heap.size w w')) ∨ ((sealF key R S t.size == 0) = false ∧ RT = false)) ∧
      (∀ w : World, FarAt w → Calls Tryd.prog 59 #[spV key, .string t, slV R S] w fun e w' => e = .returned (.tuple #[.bool RT, errV (sealF key R S t.size)]) ∧ Below w.heap.size w w') := by
    by_cases h : sealF key R S t.size = 0
    · obtain ⟨z0, ok, oR, s0, s1⟩ := sealF_zero h
      obtain ⟨a, -, -, ea⟩ := sq_all ok
      obtain ⟨b, -, -, eb⟩ := sq_all oR
      refine ⟨_, .inl ⟨h, fun w => rRight_e key R ⟨0, 0, true⟩ a b 0 _ S _ t w z0 s0 s1 ea eb sq_zero.symm rfl rfl⟩, fun w hF => ?_⟩
      rw [h, Int.add_zero]
      exact verify_e key R a b _ S _ t w hF z0 s0 s1 ea eb rfl rfl
    · exact ⟨false, .inr ⟨by simpa using h, rfl⟩, fun w hF => by rw [errV, if_neg h]; exact sealVerify_t key R S _ t w hF hz rfl h⟩
  exact sl_all x k t r key R S w hL.1 hL.2 hz _ _ _ rfl rfl rfl V1 E1 p1 p2 T4 E2 E3 N q1 q2 q3 q4 q5 Z Y E4 u1 u2 _ RT (fun w => rSeal_e key R S _ t w hz rfl) v1 v2
end Go.Proofs.YtopcdihgkojjlaaDoor
namespace Go.Proofs.YtopcdihgkojjlaaDoor.sealTells
open Go.ChangeShapes Go.WideShapes Go.ChangeAt Go.RowKit
set_option linter.unusedVariables false
theorem typesOk : ([3, 3, 9, 37, 37, 64].all fun t => Tryd.prog.readableRec t && decide (t < Tryd.prog.types.size)) = true := by kernel_rfl
set_option maxRecDepth 100000 in
theorem lifted (os : Os) (started : os.Started) (H : Type) (enc : TypeId × Value → H) :
    ReturnsInHanded {} Tryd.checked os 8 .any (fun w args => (Rows.sealTellsSpec.pre enc Tryd.prog Tryd.f8 [] false w args ∧ laidMetH Tryd.prog farErrLaid w) ∧ sizedMet enc Tryd.prog Tryd.f8 (OpenSpec.ofChange Rows.sealTellsSpec) false w args)
      (Rows.sealTellsSpec.post enc Tryd.prog Tryd.f8 false true false false) := by
  refine returnsInHanded_of_change_and (C := Tryd.checked) (X := fun w _ => laidMetH Tryd.prog farErrLaid w) (fun _ _ _ hh h => h.of_heap hh) Tryd.ownK started (by kernel_rfl) Tryd.func8
    (ChangeSpec.witness_shaped (enc := enc) (C := Tryd.checked) (os := os) (X := fun w _ => laidMetH Tryd.prog farErrLaid w) false (World.doorLaid Tryd.prog 400 os) #[.int .i64 0, .int .i64 0, .string ⟨#[]⟩, .agg #[.int .i64 0, .int .i64 0, .bool false], .agg #[.int .i64 0, .int .i64 0, .bool false], .agg #[.int .i64 0, .int .i64 0, .bool false, .int .i64 0]] 8 rfl (World.shaped_of_RefB (by kernel_rfl) (by kernel_rfl)) (by kernel_rfl) (by kernel_rfl) (by kernel_rfl) (farErrLaid_met os _)) ?_
  intro W base args ds gs before hval0 hW hcnd hsz0 hL hholds
  have hval : ∀ (j : Nat) t v, Tryd.f8.params[j]? = some t → args[j]? = some v → Value.okWide Tryd.prog W .any base t v := hval0
  have hW' := hW
  obtain ⟨p, q, hA0, hV, rfl, hfz, hnd⟩ := hW
  have hA : DataW.TrodAll enc Tryd.prog W 0 (fun _ => true) true Tryd.f8.params.toList args.toList ds p := hA0
  obtain ⟨rfl, rfl⟩ := trodVars_none hV
  simp only [List.append_nil] at hW'
  have hlt : ∀ x ∈ p, x.block < W.heap.size := fun x hx => hW'.lt x hx
  have hsz : (DataW.weightsEach Tryd.prog (Tryd.f8.params.toList ++ Rows.sealTellsSpec.plain.varTypes Tryd.prog) (ds ++ [])).all (· ≤ reachBytes) = true := hsz0
  rw [Tryd.params8] at hA hval hsz
  have hK := hA
  obtain ⟨v0, vs0, d0, ds0, p0, q0, hargs, rfl, rfl, h0, r0⟩ := trodAll_cons hA
  obtain ⟨v1, vs1, d1, ds1, p1, q1, rfl, rfl, rfl, h1, r1⟩ := trodAll_cons r0
  obtain ⟨v2, vs2, d2, ds2, p2, q2, rfl, rfl, rfl, h2, r2⟩ := trodAll_cons r1
  obtain ⟨v3, vs3, d3, ds3, p3, q3, rfl, rfl, rfl, h3, r3⟩ := trodAll_cons r2
  obtain ⟨v4, vs4, d4, ds4, p4, q4, rfl, rfl, rfl, h4, r4⟩ := trodAll_cons r3
  obtain ⟨v5, vs5, d5, ds5, p5, q5, rfl, rfl, rfl, h5, r5⟩ := trodAll_cons r4
  obtain ⟨rfl, rfl, rfl⟩ := trodAll_nil r5
  obtain rfl : args = #[v0, v1, v2, v3, v4, v5] := by cases args; simp_all
  obtain ⟨a0, rfl, rfl, rfl, w0⟩ := open_int Tryd.underlying3 (hval 0 3 v0 rfl rfl) h0
  obtain ⟨a1, rfl, rfl, rfl, w1⟩ := open_int Tryd.underlying3 (hval 1 3 v1 rfl rfl) h1
  obtain ⟨a2, rfl, rfl, rfl, w2⟩ := ChangeMaps.open_string Tryd.underlying9 (hval 2 9 v2 rfl rfl) h2
  obtain ⟨a3, b3, f3, rfl, w3, u3⟩ := open_spot Tryd.underlying37 (by kernel_rfl) (by kernel_rfl) Tryd.underlying3 Tryd.underlying3 Tryd.underlying4 (hval 3 37 v3 rfl rfl) h3
  obtain ⟨a4, b4, f4, rfl, w4, u4⟩ := open_spot Tryd.underlying37 (by kernel_rfl) (by kernel_rfl) Tryd.underlying3 Tryd.underlying3 Tryd.underlying4 (hval 4 37 v4 rfl rfl) h4
  obtain ⟨a5, b5, f5, c5, rfl, w5, u5, y5⟩ := open_seal Tryd.underlying64 (by kernel_rfl) rfl rfl (by kernel_rfl) (by kernel_rfl) Tryd.underlying37 (by kernel_rfl) Tryd.underlying3 Tryd.underlying3 Tryd.underlying4 Tryd.underlying3 (hval 5 64 v5 rfl rfl) h5
  have z2 : a2.size ≤ 140737488351232 := by have := sized_string hsz (j := 2) (t := 9) rfl rfl; simpa [reachBytes] using this
  clear hA0 hval0
  refine (sealTells_law a0 w0 a1 w1 a2 z2 ⟨a3, b3, f3⟩ ⟨a4, b4, f4⟩ ⟨a5, b5, f5⟩ c5 W (farErrLaid_at hL)).mono fun e W' ⟨he, hg⟩ => ?_
  subst he
  exact ⟨_, rfl, post_of_below (pa := _) (pv := []) hW' (fun _ _ _ => (trodAll_cons_mk (shut_bool Tryd.underlying4 _) trodAll_mk0)) (fun sp hsp => trodAll_stays Tryd.laidOutK hg typesOk hK (fun x hx => ⟨hlt x hx, hsp x (by first | exact hx | (simp at hx) | simpa using hx)⟩)) (fun _ _ => rfl) (by simp) hg (ok_one (by kernel_rfl) rfl (okWide_bool_mk Tryd.underlying4 _))⟩

theorem over : Rows.sealTellsRow.holds Tryd.pinned (OpenSpec.ofChange Rows.sealTellsSpec) :=
  OpenClaim.holds_of_wide 8 Tryd.f8 rfl rfl rfl rfl rfl rfl rfl ⟨rfl, rfl, rfl, rfl, rfl⟩ rfl rfl rfl rfl rfl (by kernel_rfl) Tryd.func8 (by show joinedFacts Tryd.prog _ _ _ _ = true; unfold joinedFacts; rw [mayEnterK, liftsFinalK, makeK]; kernel_rfl)
    (of_decide_eq_true (by kernel_rfl)) (by unfold Func.isWrapper; first | (rw [if_pos (by decide +kernel)]; kernel_rfl) | (rw [if_neg (by decide +kernel)]; exact ⟨rfl, rfl⟩))
    (fun os started H enc _ => lifted os started H enc)
theorem card : Rows.SealTellsCardSaid :=
  Claim7.holds_tied_plain_at .later [] [.data, .handle] true (true, "32fe744af748dcde28962f5faf97cf85692eb597fee56aa250b8ae3699a448c7") true
    over (fun _ h => by cases h) (by kernel_rfl) (fun _ h => by cases h) sealTells_row_tie rfl ⟨rfl, rfl⟩ mainIsK rfl
    (fun f fn hf hfn => by
      obtain rfl : f = 8 := Option.some.inj ((show Tryd.prog.funcNamed "pairstone/stonelaw2.SealTells" = some 8 by kernel_rfl).symm.trans hf) |>.symm
      obtain rfl : fn = Tryd.f8 := (Option.some.inj (Tryd.func8.symm.trans hfn)).symm
      exact ⟨by kernel_rfl, fun j t ht => by
        rw [Tryd.params8] at ht
        have hm : t ∈ ([3, 3, 9, 37, 37, 64] : List TypeId) := by simpa using Array.mem_of_getElem? ht
        have hall : (([3, 3, 9, 37, 37, 64] : List TypeId).all fun u => !Tryd.prog.wantsStandIn u) = true := by kernel_rfl
        exact (show Tryd.prog.wantsStandIn t = false by simpa using List.all_eq_true.1 hall t hm)⟩)
    (by kernel_rfl)
#print axioms card
end Go.Proofs.YtopcdihgkojjlaaDoor.sealTells
