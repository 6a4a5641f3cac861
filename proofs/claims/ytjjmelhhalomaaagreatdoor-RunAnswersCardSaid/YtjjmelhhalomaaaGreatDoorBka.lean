/- Books of coins: coins looked at, numbers searched, coins copied. -/
import Derived.Test.YtjjmelhhalomaaaGreatDoorOw
import Derived.Test.YtjjmelhhalomaaaGreatDoorKe
import Derived.Test.YtjjmelhhalomaaaGreatDoorRo
import Derived.Laws.MakeOwn
import Derived.Laws.OwnMore
import Derived.Laws.Entries
import Derived.BigQuiet
import Derived.Deep.DeepCutAuto
import Derived.Deep.CutBlock
import Derived.Deep.RegionWith
namespace Go.Proofs.YtjjmelhhalomaaaGreatDoor
open Go.RowKit
set_option maxRecDepth 100000
set_option linter.unusedVariables false
set_option linter.unusedSimpArgs false
/-- The coin of this number. -/
def qS (n : Int) : Sp := sq (4 * n)
theorem qS_ok (n : Int) : Ok (qS n) := sq_ok _
/-- A spot that is no coin: not a spot, or outside. -/
def NoCoin (s : Sp) : Prop := (∃ E, sCheck s = E ∧ E ≠ 0) ∨ (∃ u, s = sq u ∧ (sq (u * 1013)).far = false)
theorem sq_nf {a : Int} (h : a % 4052 ≠ 0) : (sq a).far = false := by
  cases hf : (sq a).far
  · rfl
  · exact absurd (sq_far.mp hf) h
theorem coin_is (s : Sp) : (∃ n, s = qS n) ∨ NoCoin s := by
  by_cases h : sCheck s = 0
  · obtain ⟨k, k0, k1, rfl⟩ := sq_all ((ok_iff s).mp h)
    by_cases h4 : k % 4 = 0
    · exact .inl ⟨k / 4, by unfold qS; exact sq_eq_iff.mpr (by omega)⟩
    · exact .inr (.inr ⟨k, rfl, sq_nf (by omega)⟩)
  · exact .inr (.inl ⟨_, rfl, h⟩)
set_option maxHeartbeats 1000000 in
theorem index_c (l : List Int) (x : Int) (a : Option Addr) (c : Nat) (w : World) (hl : l.length ≤ 9223372036854775807) (hL : 0 < l.length → ∃ b o, a = some ⟨b, o, none⟩ ∧ IntsAt w b o l) (k : Nat) (hk : k ≤ l.length)
    (hlo : ∀ i (h : i < l.length), i < k → l[i] ≠ x) (hx : ∀ h : k < l.length, l[k] = x) (E : Int) (hE0 : k < l.length → E = k) (hE1 : k = l.length → E = -1) :
    Calls Tryz.prog 88 #[.slice a l.length c, .int .i64 x] w fun e w' => e = .returned (.int .i64 E) ∧ w = w' := by
  go_enter Tryz.func88, Tryz.ntmps88
  go_wp2
  go_loopw [8] (fun i wr => ∃ n : Nat, n ≤ l.length ∧ n ≤ k ∧ i = .int .i64 n ∧ w = wr) (fun i _ => l.length - (intOf i).toNat)
  case atStart => exact ⟨0, Nat.zero_le _, Nat.zero_le _, rfl, by first | trivial | rfl⟩
  case round =>
    obtain ⟨n, hn, hnk, rfl, rfl⟩ := hrel
    by_cases hlt : n < l.length
    · obtain ⟨b, o, rfl, hs⟩ := hL (by omega)
      have l1 := hs.c n hlt
      have l2 := hs.lt
      by_cases hk2 : n < k
      · have e : (x == l[n]) = false := by rw [beq_eq_false_iff_ne]; exact fun h => hlo n hlt hk2 h.symm
        generalize l[n] = y at *
        go_wp2
        go_roundw
        case rel => exact ⟨n + 1, by omega, by omega, by go_num, by first | trivial | rfl⟩
        case measure => simp [intOf]; omega
      · obtain rfl : n = k := by omega
        rw [hx hlt] at l1
        have e : (x == x) = true := by simp
        go_wp2
        go_ret
        exact ⟨by rw [hE0 hlt]; rfl, rfl⟩
    · go_wp2
      go_ret
      exact ⟨by rw [hE1 (by omega)]; rfl, rfl⟩
theorem contains_c (l : List Int) (x : Int) (a : Option Addr) (c : Nat) (w : World) (B : Bool) (hB : B = true ↔ x ∈ l) (hl : l.length ≤ 9223372036854775807) (hL : 0 < l.length → ∃ b o, a = some ⟨b, o, none⟩ ∧ IntsAt w b o l) :
    Calls Tryz.prog 46 #[.slice a l.length c, .int .i64 x] w fun e w' => e = .returned (.bool B) ∧ w = w' := by
  have hI : ∃ E : Int, decide (0 ≤ E) = B ∧ Calls Tryz.prog 88 #[.slice a l.length c, .int .i64 x] w fun e w' => e = .returned (.int .i64 E) ∧ w = w' := by
    by_cases h : x ∈ l
    · obtain ⟨i, hi, h1⟩ := List.getElem_of_mem h
      have hx : ∃ k : Nat, k < l.length ∧ (∀ h : k < l.length, l[k] = x) ∧ ∀ i (h : i < l.length), i < k → l[i] ≠ x := by
        induction i using Nat.strongRecOn with
        | ind i ih =>
          by_cases h2 : ∃ j, j < i ∧ ∃ hj : j < l.length, l[j] = x
          · obtain ⟨j, hj, hjl, hjx⟩ := h2
            exact ih j hj hjl hjx
          · exact ⟨i, hi, fun _ => h1, fun j hj hji e => h2 ⟨j, hji, hj, e⟩⟩
      obtain ⟨k, k1, k2, k3⟩ := hx
      exact ⟨k, by rw [hB.mpr h]; simp, index_c l x a c w hl hL k (by omega) k3 k2 k (fun _ => rfl) (fun h => absurd h (by omega))⟩
    · refine ⟨-1, ?_, index_c l x a c w hl hL l.length (Nat.le_refl _) (fun i hi _ e => h (e ▸ List.getElem_mem hi)) (fun h => absurd h (Nat.lt_irrefl _)) (-1) (fun h => absurd h (Nat.lt_irrefl _)) (fun _ => rfl)⟩
      cases hb : B
      · rfl
      · exact absurd (hB.mp hb) h
  obtain ⟨E, hE, hc⟩ := hI
  go_enter Tryz.func46, Tryz.ntmps46
  go_wp2_with fail
  refine hc.mono ?_; rintro e w' ⟨rfl, rfl⟩
  go_wp2
  go_ret
  exact ⟨rfl, rfl⟩
set_option maxHeartbeats 4000000 in
theorem bcheck_core (L : List Sp) (kk : Nat) (E : Value) (a1 : Option Addr) (c : Nat) (w : World) (hF : FarAt w) (hl : L.length ≤ 12) (hL : 0 < L.length → ∃ b o, a1 = some ⟨b, o, none⟩ ∧ SpotsAt w b o L) (h : Hid (∀ k (h1 : k < L.length), k < kk → ∃ n, L[k] = qS n)) (hkk : kk ≤ L.length) (hbad : Hid (∀ h : kk < L.length, NoCoin L[kk]))
    (hR0 : Hid (kk < L.length → E = .iface 84 (.int .i64 3))) (hR1 : Hid (kk = L.length → E = .nilIface)) :
    Calls Tryz.prog 44 #[.slice a1 L.length c] w fun e w' => e = .returned E ∧ Below w.heap.size w w' := by
  have hF' := Lib.hid hF
  have hL' := Lib.hid hL
  have hd : decide ((12 : Int) < (L.length : Int)) = false := by rw [decide_eq_false_iff_not]; omega
  clear hL hF
  go_enter Tryz.func44, Tryz.ntmps44
  go_wp2
  go_loopw [11] (fun i wr => ∃ n : Nat, n ≤ L.length ∧ n ≤ kk ∧ i = .int .i64 n ∧ Below w.heap.size w wr) (fun i _ => L.length - (intOf i).toNat)
  case atStart => exact ⟨0, Nat.zero_le _, Nat.zero_le _, rfl, Below.refl _ _⟩
  case round =>
    obtain ⟨n, hn, hnk, rfl, hB⟩ := hrel
    replace hB := Lib.hid hB
    by_cases hlt : n < L.length
    · obtain ⟨b, o, rfl, hs0⟩ := hL'.out (by omega)
      have hsL := hs0.below hB.out
      have l1 := hsL.cx n hlt
      have l2 := hsL.cy n hlt
      have l3 := hsL.cf n hlt
      have l4 := hsL.lt
      have hgd := Lib.hid (h.out n hlt)
      have hbd := Lib.hid (fun e : n = kk => hbad.out (by omega))
      have hR0' := Lib.hid (fun e : n = kk => hR0.out (by omega))
      have hbn : n = kk → NoCoin L[n] := fun e => by subst e; exact hbad.out hlt
      replace hbn := Lib.hid hbn
      clear hsL hs0 h hbad hR0 hR1 hbd
      generalize L[n] = A at *
      have hFr := Lib.hid (hF'.out.below hB.out)
      by_cases hlk : n < kk
      · obtain ⟨m, rfl⟩ := hgd.out hlk
        have cC := Lib.hid (fun (w1 : World) hF1 => check_ok (qS m) w1 hF1 (qS_ok m))
        have cI := Lib.hid (fun (w1 : World) hF1 => inside_e (qS m) (4 * m) true w1 hF1 (Lib.hid rfl) (Lib.hid (sq_far.mpr (by omega))))
        generalize qS m = A at *
        go_wp2_with fail
        refine (cC.out _ (hFr.out.below (below_alloc _ _))).mono ?_; rintro e w1 ⟨rfl, hb1⟩
        obtain ⟨a0, a1, a2, -, -, -, al⟩ := (SpAt.fresh wr A.x A.y A.far 28).below hb1
        have hB1 := Lib.hid (below_seq (balloc hB.out _) hb1)
        have hF1 := Lib.hid (hF'.out.below hB1.out)
        clear l1 l2 l3 l4 cC hb1
        go_wp2_with fail
        refine (cI.out _ hF1.out).mono ?_; rintro e w2 ⟨rfl, hb2⟩
        have hB2 := below_seq hB1.out hb2
        clear a0 a1 a2 al
        go_wp2
        go_roundw
        case rel => exact ⟨n + 1, by omega, by omega, by go_num, hB2⟩
        case measure => simp [intOf]; omega
      · have hnk' : n = kk := by omega
        have hR := hR0'.out hnk'
        have hNo := hbn.out hnk'
        clear hnk' hbn hgd hR0' hlk
        rcases hNo with ⟨E1, e1, e2⟩ | ⟨u, rfl, e2⟩
        · have cC := Lib.hid (fun (w1 : World) hF1 => check_bad A w1 hF1 (by rw [e1]; exact e2))
          rw [e1] at cC
          go_wp2_with fail
          refine (cC.out _ (hFr.out.below (below_alloc _ _))).mono ?_; rintro e w1 ⟨rfl, hb1⟩
          obtain ⟨a0, a1, a2, -, -, -, al⟩ := (SpAt.fresh wr A.x A.y A.far 28).below hb1
          have hB2 := below_seq (balloc hB.out _) hb1
          clear l1 l2 l3 l4 cC
          go_wp2
          go_ret
          exact ⟨by rw [hR]; rfl, hB2⟩
        · have cC := Lib.hid (fun (w1 : World) hF1 => check_ok (sq u) w1 hF1 (sq_ok u))
          have cI := Lib.hid (fun (w1 : World) hF1 => inside_e (sq u) u false w1 hF1 (Lib.hid rfl) (Lib.hid e2))
          generalize sq u = A at *
          go_wp2_with fail
          refine (cC.out _ (hFr.out.below (below_alloc _ _))).mono ?_; rintro e w1 ⟨rfl, hb1⟩
          obtain ⟨a0, a1, a2, -, -, -, al⟩ := (SpAt.fresh wr A.x A.y A.far 28).below hb1
          have hB1 := Lib.hid (below_seq (balloc hB.out _) hb1)
          have hF1 := Lib.hid (hF'.out.below hB1.out)
          clear l1 l2 l3 l4 cC hb1
          go_wp2_with fail
          refine (cI.out _ hF1.out).mono ?_; rintro e w2 ⟨rfl, hb2⟩
          have hB2 := below_seq hB1.out hb2
          clear a0 a1 a2 al
          go_wp2
          go_ret
          exact ⟨by rw [hR]; rfl, hB2⟩
    · have hR := hR1.out (by omega)
      go_wp2
      go_ret
      exact ⟨by rw [hR]; rfl, hB.out⟩
theorem bcheck_full (n : Nat) (a1 : Option Addr) (c : Nat) (w : World) (h : 12 < n) (hn : n ≤ 9223372036854775807) :
    Calls Tryz.prog 44 #[.slice a1 n c] w fun e w' => e = .returned (.iface 84 (.int .i64 4)) ∧ Below w.heap.size w w' := by
  go_enter Tryz.func44, Tryz.ntmps44
  go_wp2
  go_ret
  exact ⟨rfl, Below.refl _ _⟩
theorem spCells_one : ∀ l : List Sp, ∀ u ∈ spCells l, u.oneCell' = true
  | [], u, h => by cases h
  | s :: l, u, h => by
    simp only [spCells, List.mem_cons] at h
    rcases h with rfl | rfl | rfl | h
    · rfl
    · rfl
    · rfl
    · exact spCells_one l u h
theorem SpotsAt.cells {w : World} {b o : Nat} {l : List Sp} (h : SpotsAt w b o l) (j : Nat) (u : Value) (hu : (spCells l)[j]? = some u) : w.cell? ⟨b, o + j, none⟩ = some u := by
  have hj : j < l.length * 3 := by rw [← spCells_len]; exact (List.getElem?_eq_some_iff.1 hu).1
  have hi : j / 3 < l.length := by omega
  obtain ⟨k1, k2, k3⟩ := spCells_get l (j / 3) hi
  have c1 := h.cx (j / 3) hi
  have c2 := h.cy (j / 3) hi
  have c3 := h.cf (j / 3) hi
  rcases (show j = j / 3 * 3 ∨ j = j / 3 * 3 + 1 ∨ j = j / 3 * 3 + 2 by omega) with e | e | e
  · rw [e, k1] at hu; cases hu; rw [show o + j = o + j / 3 * 3 by omega]; exact c1
  · rw [e, k2] at hu; cases hu; rw [show o + j = o + j / 3 * 3 + 1 by omega]; exact c2
  · rw [e, k3] at hu; cases hu; rw [show o + j = o + j / 3 * 3 + 2 by omega]; exact c3
set_option maxHeartbeats 4000000 in
theorem cloneS_c (l : List Sp) (a : Option Addr) (cap : Nat) (w : World) (hl : l.length ≤ 1000000) (h : 0 < l.length → ∃ b o, a = some ⟨b, o, none⟩ ∧ SpotsAt w b o l) :
    Calls Tryz.prog 45 #[.slice a l.length cap] w fun e w' => ∃ v', e = .returned v' ∧ w'.ownsRow w.heap.size 28 3 v' l.length (spCells l) ∧ Below w.heap.size w w' := by
  obtain ⟨i0, hi, hz0, hz1, hz2⟩ := info_parts info_spot
  have q22 : ∀ (w : World) (a : Option Addr) (n c n' c' : Nat), (binOp .eql 38 (.slice a n c) (.slice none n' c')).run Tryz.prog w = .ok (.bool a.isNone) w := fun w a n c n' c' => Lib.run_eql_slice_nil w _ _ a n c n' c' Tryz.underlying38
  cases a with
  | none =>
    have h0 : l.length = 0 := by
      by_cases h0 : 0 < l.length
      · obtain ⟨b, o, e, -⟩ := h h0; cases e
      · omega
    obtain rfl := List.length_eq_zero_iff.mp h0
    clear h
    go_enter Tryz.func45, Tryz.ntmps45
    go_wp2
    go_ret
    exact ⟨_, rfl, World.ownsRow_nil _ _ _ _, Below.refl _ _⟩
  | some ad =>
    have hA : ∀ j u, (spCells l)[j]? = some u → w.cell? (ad.add j) = some u := fun j u hu => by
      have hj := (List.getElem?_eq_some_iff.1 hu).1
      rw [spCells_len] at hj
      obtain ⟨b, o, e, hs⟩ := h (by omega)
      cases e
      rw [add_none]
      exact hs.cells j u hu
    have hlt : 0 < l.length → ad.block < w.heap.size := fun h0 => by obtain ⟨b, o, e, hs⟩ := h h0; cases e; exact hs.lt
    clear h
    replace hA := Lib.hid hA
    replace hlt := Lib.hid hlt
    go_enter Tryz.func45, Tryz.ntmps45
    go_wp2_with (at_builtin; refine wpList_append_own _ rfl _ _ 38 rfl w.heap.size 28 i0 (.agg #[.int .i64 0, .int .i64 0, .bool false]) 3 24 (by kernel_rfl) hi hz0 hz1 hz2 rfl (by decide) _ _ _ rfl (World.ownsRow_made w #[] 0 (Nat.le_refl _) (Nat.zero_le _) rfl) ad l.length cap (spCells l) rfl ?qc1 ?qc2 ?qc3 ?qc4 ?qc5 ?qc6 ?_)
    case qc1 => exact spCells_len l
    case qc2 =>
      intro j u hj
      have hjn := (List.getElem?_eq_some_iff.1 hj).1
      rw [spCells_len] at hjn
      have := hlt.out (by omega)
      rw [← hA.out j u hj]
      exact (below_alloc w _).cell (p := ad.add j) (by unfold Addr.add; split <;> exact this)
    case qc3 => exact spCells_one l
    case qc4 => unfold maxLen; omega
    case qc5 => omega
    case qc6 => simp
    intro v' w1 hown hgrow hnil
    go_wp2
    go_ret
    refine ⟨v', rfl, by simpa using hown, ?_⟩
    exact (below_alloc w _).grown hgrow (by simp) (by intro k hk; simp [Value.ownBlock] at hk; omega)
end Go.Proofs.YtjjmelhhalomaaaGreatDoor
