/- Texts of this claim, in one. -/
import Derived.Test.YtebomakihdjllaaDoorSe
import Derived.Test.YtebomakihdjllaaDoorOw
import Derived.Test.YtebomakihdjllaaDoorSf
import Derived.Deep.DeepCutAuto
import Derived.Test.YtebomakihdjllaaDoorKe
import Derived.Test.YtebomakihdjllaaDoorRo
import Derived.Laws.MakeOwn
import Derived.Laws.OwnMore
import Derived.Laws.Entries
import Derived.BigQuiet
import Derived.Deep.CutBlock
import Derived.Deep.RegionWith
import Derived.Maps.AppendAt
import Derived.Deep.AppendSrc
import Derived.Test.YtebomakihdjllaaDoorHd
import Derived.Test.YtebomakihdjllaaDoorEt
import Derived.Deep.AppendLies
import Derived.Deep.RegionLaw
import Derived.Test.YtebomakihdjllaaDoorQm
namespace Go.Proofs.YtebomakihdjllaaDoor
/-- Of two lists the sum of the products. -/
def dot : List Int → List Int → Int
  | u :: us, c :: cs => u * c + dot us cs
  | _, _ => 0
theorem dot_nil (cs : List Int) : dot [] cs = 0 := by cases cs <;> rfl
theorem dot_snoc : ∀ (us cs : List Int) (n : Nat) (h1 : n < us.length) (h2 : n < cs.length), dot (us.take (n + 1)) cs = dot (us.take n) cs + us[n] * cs[n]
  | [], _, _, h, _ => absurd h (Nat.not_lt_zero _)
  | _ :: _, [], _, _, h => absurd h (Nat.not_lt_zero _)
  | u :: us, c :: cs, 0, _, _ => by simp [dot, dot_nil]
  | u :: us, c :: cs, n + 1, h1, h2 => by
    have := dot_snoc us cs n (by simpa using h1) (by simpa using h2)
    simp only [List.take_succ_cons, dot, List.getElem_cons_succ] at this ⊢
    omega
theorem dot_four : ∀ us cs : List Int, dot (us.map (4 * ·)) cs = 4 * dot us cs
  | [], cs => by simp [dot_nil]
  | _ :: _, [] => by simp [dot]
  | u :: us, c :: cs => by simp only [List.map_cons, dot, dot_four us cs, Int.mul_add, Int.mul_assoc]
/-- The number of each key. -/
def cfs (l : List Sp) : List Int := l.map fun k => hnum (lsB l.length l ++ sBytes k).data.toList
theorem cfs_len (l : List Sp) : (cfs l).length = l.length := by simp [cfs]
theorem cfs_bd (l : List Sp) (i : Nat) (h : i < (cfs l).length) : 0 ≤ (cfs l)[i] ∧ (cfs l)[i] < 1013 := by simp only [cfs, List.getElem_map]; exact hnum_bd _
theorem cfs_get (l : List Sp) (i : Nat) (h : i < l.length) : (cfs l)[i]'(by rw [cfs_len]; exact h) = hnum (lsB l.length l ++ sBytes l[i]).data.toList := by simp only [cfs, List.getElem_map]
/-- Is it a number to sign with. -/
def okB (n : Int) : Bool := decide (1 ≤ n ∧ n < 1013)
/-- What is wrong with those that sign; 0: nothing. -/
def groupF (xs ks : List Int) (n : Nat) : Int := if 12 < xs.length then 4 else if xs.length ≠ ks.length then 3 else if xs.all okB && ks.all okB then (if 60 < n then 4 else 0) else 1
theorem all_at {l : List Int} (h : ∀ i (h : i < l.length), okB l[i] = true) : l.all okB = true := by
  rw [List.all_eq_true]
  intro x hx
  obtain ⟨i, hi, rfl⟩ := List.mem_iff_getElem.mp hx
  exact h i hi
theorem not_all {l : List Int} {i : Nat} (h : i < l.length) (hb : okB l[i] = false) : l.all okB = false := by
  rw [List.all_eq_false]
  exact ⟨l[i], List.getElem_mem h, by rw [hb]; decide⟩
theorem all_get {l : List Int} (h : l.all okB = true) (i : Nat) (hi : i < l.length) : okB l[i] = true := List.all_eq_true.mp h _ (List.getElem_mem hi)
theorem sum_snoc : ∀ (l : List Int) (n : Nat) (h : n < l.length), (l.take (n + 1)).sum = (l.take n).sum + l[n]
  | [], _, h => absurd h (Nat.not_lt_zero _)
  | a :: l, 0, _ => by simp
  | a :: l, n + 1, h => by
    have := sum_snoc l n (by simpa using h)
    simp only [List.take_succ_cons, List.sum_cons, List.getElem_cons_succ] at this ⊢
    omega
theorem sum_bd (l : List Int) (h : ∀ i (h : i < l.length), 1 ≤ l[i] ∧ l[i] < 1013) : ∀ n, n ≤ l.length → 0 ≤ (l.take n).sum ∧ (l.take n).sum ≤ 1012 * n
  | 0, _ => by simp
  | n + 1, hn => by
    have := sum_bd l h n (by omega)
    have := h n (by omega)
    rw [sum_snoc l n (by omega)]
    omega
theorem turn_step (s a c x : Int) : (s + a * c % 1013 * x) % 1013 = (s + a * (x * c)) % 1013 := by
  rw [Int.add_emod, Int.mul_emod (a * c % 1013) x, Int.emod_emod, ← Int.mul_emod, ← Int.add_emod, Int.mul_assoc, Int.mul_comm c x]
/-- One round more of the sum. -/
theorem turn_go {s K a D x c : Int} (h : s % 1013 = (K + a * D) % 1013) : (s + a * c % 1013 * x) % 1013 = (K + a * (D + x * c)) % 1013 := by
  rw [turn_step, Int.mul_add]
  omega
end Go.Proofs.YtebomakihdjllaaDoor
namespace Go.Proofs.YtebomakihdjllaaDoor
open Go.RowKit
set_option maxRecDepth 100000
set_option linter.unusedVariables false
set_option linter.unusedSimpArgs false
theorem okB_y {n : Int} (h : okB n = true) : 1 ≤ n ∧ n < 1013 := of_decide_eq_true h
theorem okB_n {n : Int} (h : okB n = false) : ¬ (1 ≤ n ∧ n < 1013) := of_decide_eq_false h
theorem list_sl (l : List Sp) (v : Value) (w : World) (hF : FarAt w) (hl : l.length ≤ 12) (hs : SpSl w v l) (hok : ∀ z ∈ l, Ok z) :
    Calls Tryd.prog 46 #[v] w fun e w' => e = .returned (.tuple #[.string (lsB l.length l), .nilIface]) ∧ Below w.heap.size w w' := by
  obtain ⟨a, cap, rfl, hs⟩ := hs
  cases l with
  | nil => exact list_zero a cap w
  | cons s l =>
    obtain ⟨b, off, rfl, hs'⟩ := hs (Nat.succ_pos _)
    exact list_ok (s :: l) b off cap w hF hl hs' (fun i h => hok _ (List.getElem_mem h))
theorem hashNumber_n (s : ByteArray) (n : Int) (w : World) (hs : s.size ≤ 9223372036854775807) (h : Hid (hnum s.data.toList = n)) : Calls Tryd.prog 47 #[.string s] w fun e w' => e = .returned (.int .i64 n) ∧ Below w.heap.size w w' := by
  rw [← h.out]; exact hashNumber_c s w hs
end Go.Proofs.YtebomakihdjllaaDoor
namespace Go.Proofs.YtebomakihdjllaaDoor
open Go.RowKit
set_option maxRecDepth 100000
set_option linter.unusedVariables false
set_option linter.unusedSimpArgs false
/-- The coin of this number. -/
def qS (n : Int) : Sp := sq (4 * n)
theorem qS_ok (n : Int) : Ok (qS n) := sq_ok _
/-- A spot that is no coin: not a spot, or outside. -/
def NoCoin (s : Sp) : Prop := (∃ E, sCheck s = E ∧ E ≠ 0) ∨ (∃ u, s = sq u ∧ (sq (u * 1013)).far = false)
theorem sq_nf {a : Int} (h : a % 4052 ≠ 0) : (sq a).far = false := by
  cases hf : (sq a).far
  · rfl
  · exact absurd (sq_far.mp hf) h
theorem coin_is (s : Sp) : (∃ n, s = qS n) ∨ NoCoin s := by
  by_cases h : sCheck s = 0
  · obtain ⟨k, k0, k1, rfl⟩ := sq_all ((ok_iff s).mp h)
    by_cases h4 : k % 4 = 0
    · exact .inl ⟨k / 4, by unfold qS; exact sq_eq_iff.mpr (by omega)⟩
    · exact .inr (.inr ⟨k, rfl, sq_nf (by omega)⟩)
  · exact .inr (.inl ⟨_, rfl, h⟩)
set_option maxHeartbeats 1000000 in
theorem index_c (l : List Int) (x : Int) (a : Option Addr) (c : Nat) (w : World) (hl : l.length ≤ 9223372036854775807) (hL : 0 < l.length → ∃ b o, a = some ⟨b, o, none⟩ ∧ IntsAt w b o l) (k : Nat) (hk : k ≤ l.length)
    (hlo : ∀ i (h : i < l.length), i < k → l[i] ≠ x) (hx : ∀ h : k < l.length, l[k] = x) (E : Int) (hE0 : k < l.length → E = k) (hE1 : k = l.length → E = -1) :
    Calls Tryd.prog 57 #[.slice a l.length c, .int .i64 x] w fun e w' => e = .returned (.int .i64 E) ∧ w = w' := by
  go_enter Tryd.func57, Tryd.ntmps57
  go_wp2
  go_loopw [8] (fun i wr => ∃ n : Nat, n ≤ l.length ∧ n ≤ k ∧ i = .int .i64 n ∧ w = wr) (fun i _ => l.length - (intOf i).toNat)
  case atStart => exact ⟨0, Nat.zero_le _, Nat.zero_le _, rfl, by first | trivial | rfl⟩
  case round =>
    obtain ⟨n, hn, hnk, rfl, rfl⟩ := hrel
    by_cases hlt : n < l.length
    · obtain ⟨b, o, rfl, hs⟩ := hL (by omega)
      have l1 := hs.c n hlt
      have l2 := hs.lt
      by_cases hk2 : n < k
      · have e : (x == l[n]) = false := by rw [beq_eq_false_iff_ne]; exact fun h => hlo n hlt hk2 h.symm
        generalize l[n] = y at *
        go_wp2
        go_roundw
        case rel => exact ⟨n + 1, by omega, by omega, by go_num, by first | trivial | rfl⟩
        case measure => simp [intOf]; omega
      · obtain rfl : n = k := by omega
        rw [hx hlt] at l1
        have e : (x == x) = true := by simp
        go_wp2
        go_ret
        exact ⟨by rw [hE0 hlt]; rfl, rfl⟩
    · go_wp2
      go_ret
      exact ⟨by rw [hE1 (by omega)]; rfl, rfl⟩
theorem contains_c (l : List Int) (x : Int) (a : Option Addr) (c : Nat) (w : World) (B : Bool) (hB : B = true ↔ x ∈ l) (hl : l.length ≤ 9223372036854775807) (hL : 0 < l.length → ∃ b o, a = some ⟨b, o, none⟩ ∧ IntsAt w b o l) :
    Calls Tryd.prog 37 #[.slice a l.length c, .int .i64 x] w fun e w' => e = .returned (.bool B) ∧ w = w' := by
  have hI : ∃ E : Int, decide (0 ≤ E) = B ∧ Calls Tryd.prog 57 #[.slice a l.length c, .int .i64 x] w fun e w' => e = .returned (.int .i64 E) ∧ w = w' := by
    by_cases h : x ∈ l
    · obtain ⟨i, hi, h1⟩ := List.getElem_of_mem h
      have hx : ∃ k : Nat, k < l.length ∧ (∀ h : k < l.length, l[k] = x) ∧ ∀ i (h : i < l.length), i < k → l[i] ≠ x := by
        induction i using Nat.strongRecOn with
        | ind i ih =>
          by_cases h2 : ∃ j, j < i ∧ ∃ hj : j < l.length, l[j] = x
          · obtain ⟨j, hj, hjl, hjx⟩ := h2
            exact ih j hj hjl hjx
          · exact ⟨i, hi, fun _ => h1, fun j hj hji e => h2 ⟨j, hji, hj, e⟩⟩
      obtain ⟨k, k1, k2, k3⟩ := hx
      exact ⟨k, by rw [hB.mpr h]; simp, index_c l x a c w hl hL k (by omega) k3 k2 k (fun _ => rfl) (fun h => absurd h (by omega))⟩
    · refine ⟨-1, ?_, index_c l x a c w hl hL l.length (Nat.le_refl _) (fun i hi _ e => h (e ▸ List.getElem_mem hi)) (fun h => absurd h (Nat.lt_irrefl _)) (-1) (fun h => absurd h (Nat.lt_irrefl _)) (fun _ => rfl)⟩
      cases hb : B
      · rfl
      · exact absurd (hB.mp hb) h
  obtain ⟨E, hE, hc⟩ := hI
  go_enter Tryd.func37, Tryd.ntmps37
  go_wp2_with fail
  refine hc.mono ?_; rintro e w' ⟨rfl, rfl⟩
  go_wp2
  go_ret
  exact ⟨rfl, rfl⟩
set_option maxHeartbeats 4000000 in
theorem bcheck_core (L : List Sp) (kk : Nat) (E : Value) (a1 : Option Addr) (c : Nat) (w : World) (hF : FarAt w) (hl : L.length ≤ 12) (hL : 0 < L.length → ∃ b o, a1 = some ⟨b, o, none⟩ ∧ SpotsAt w b o L) (h : Hid (∀ k (h1 : k < L.length), k < kk → ∃ n, L[k] = qS n)) (hkk : kk ≤ L.length) (hbad : Hid (∀ h : kk < L.length, NoCoin L[kk]))
    (hR0 : Hid (kk < L.length → E = .iface 69 (.int .i64 3))) (hR1 : Hid (kk = L.length → E = .nilIface)) :
    Calls Tryd.prog 34 #[.slice a1 L.length c] w fun e w' => e = .returned E ∧ Below w.heap.size w w' := by
  have hF' := Lib.hid hF
  have hL' := Lib.hid hL
  have hd : decide ((12 : Int) < (L.length : Int)) = false := by rw [decide_eq_false_iff_not]; omega
  clear hL hF
  go_enter Tryd.func34, Tryd.ntmps34
  go_wp2
  go_loopw [11] (fun i wr => ∃ n : Nat, n ≤ L.length ∧ n ≤ kk ∧ i = .int .i64 n ∧ Below w.heap.size w wr) (fun i _ => L.length - (intOf i).toNat)
  case atStart => exact ⟨0, Nat.zero_le _, Nat.zero_le _, rfl, Below.refl _ _⟩
  case round =>
    obtain ⟨n, hn, hnk, rfl, hB⟩ := hrel
    replace hB := Lib.hid hB
    by_cases hlt : n < L.length
    · obtain ⟨b, o, rfl, hs0⟩ := hL'.out (by omega)
      have hsL := hs0.below hB.out
      have l1 := hsL.cx n hlt
      have l2 := hsL.cy n hlt
      have l3 := hsL.cf n hlt
      have l4 := hsL.lt
      have hgd := Lib.hid (h.out n hlt)
      have hbd := Lib.hid (fun e : n = kk => hbad.out (by omega))
      have hR0' := Lib.hid (fun e : n = kk => hR0.out (by omega))
      have hbn : n = kk → NoCoin L[n] := fun e => by subst e; exact hbad.out hlt
      replace hbn := Lib.hid hbn
      clear hsL hs0 h hbad hR0 hR1 hbd
      generalize L[n] = A at *
      have hFr := Lib.hid (hF'.out.below hB.out)
      by_cases hlk : n < kk
      · obtain ⟨m, rfl⟩ := hgd.out hlk
        have cC := Lib.hid (fun (w1 : World) hF1 => check_ok (qS m) w1 hF1 (qS_ok m))
        have cI := Lib.hid (fun (w1 : World) hF1 => inside_e (qS m) (4 * m) true w1 hF1 (Lib.hid rfl) (Lib.hid (sq_far.mpr (by omega))))
        generalize qS m = A at *
        go_wp2_with fail
        refine (cC.out _ (hFr.out.below (below_alloc _ _))).mono ?_; rintro e w1 ⟨rfl, hb1⟩
        obtain ⟨a0, a1, a2, -, -, -, al⟩ := (SpAt.fresh wr A.x A.y A.far 23).below hb1
        have hB1 := Lib.hid (below_seq (balloc hB.out _) hb1)
        have hF1 := Lib.hid (hF'.out.below hB1.out)
        clear l1 l2 l3 l4 cC hb1
        go_wp2_with fail
        refine (cI.out _ hF1.out).mono ?_; rintro e w2 ⟨rfl, hb2⟩
        have hB2 := below_seq hB1.out hb2
        clear a0 a1 a2 al
        go_wp2
        go_roundw
        case rel => exact ⟨n + 1, by omega, by omega, by go_num, hB2⟩
        case measure => simp [intOf]; omega
      · have hnk' : n = kk := by omega
        have hR := hR0'.out hnk'
        have hNo := hbn.out hnk'
        clear hnk' hbn hgd hR0' hlk
        rcases hNo with ⟨E1, e1, e2⟩ | ⟨u, rfl, e2⟩
        · have cC := Lib.hid (fun (w1 : World) hF1 => check_bad A w1 hF1 (by rw [e1]; exact e2))
          rw [e1] at cC
          go_wp2_with fail
          refine (cC.out _ (hFr.out.below (below_alloc _ _))).mono ?_; rintro e w1 ⟨rfl, hb1⟩
          obtain ⟨a0, a1, a2, -, -, -, al⟩ := (SpAt.fresh wr A.x A.y A.far 23).below hb1
          have hB2 := below_seq (balloc hB.out _) hb1
          clear l1 l2 l3 l4 cC
          go_wp2
          go_ret
          exact ⟨by rw [hR]; rfl, hB2⟩
        · have cC := Lib.hid (fun (w1 : World) hF1 => check_ok (sq u) w1 hF1 (sq_ok u))
          have cI := Lib.hid (fun (w1 : World) hF1 => inside_e (sq u) u false w1 hF1 (Lib.hid rfl) (Lib.hid e2))
          generalize sq u = A at *
          go_wp2_with fail
          refine (cC.out _ (hFr.out.below (below_alloc _ _))).mono ?_; rintro e w1 ⟨rfl, hb1⟩
          obtain ⟨a0, a1, a2, -, -, -, al⟩ := (SpAt.fresh wr A.x A.y A.far 23).below hb1
          have hB1 := Lib.hid (below_seq (balloc hB.out _) hb1)
          have hF1 := Lib.hid (hF'.out.below hB1.out)
          clear l1 l2 l3 l4 cC hb1
          go_wp2_with fail
          refine (cI.out _ hF1.out).mono ?_; rintro e w2 ⟨rfl, hb2⟩
          have hB2 := below_seq hB1.out hb2
          clear a0 a1 a2 al
          go_wp2
          go_ret
          exact ⟨by rw [hR]; rfl, hB2⟩
    · have hR := hR1.out (by omega)
      go_wp2
      go_ret
      exact ⟨by rw [hR]; rfl, hB.out⟩
theorem bcheck_full (n : Nat) (a1 : Option Addr) (c : Nat) (w : World) (h : 12 < n) (hn : n ≤ 9223372036854775807) :
    Calls Tryd.prog 34 #[.slice a1 n c] w fun e w' => e = .returned (.iface 69 (.int .i64 4)) ∧ Below w.heap.size w w' := by
  go_enter Tryd.func34, Tryd.ntmps34
  go_wp2
  go_ret
  exact ⟨rfl, Below.refl _ _⟩
theorem spCells_one : ∀ l : List Sp, ∀ u ∈ spCells l, u.oneCell' = true
  | [], u, h => by cases h
  | s :: l, u, h => by
    simp only [spCells, List.mem_cons] at h
    rcases h with rfl | rfl | rfl | h
    · rfl
    · rfl
    · rfl
    · exact spCells_one l u h
theorem SpotsAt.cells {w : World} {b o : Nat} {l : List Sp} (h : SpotsAt w b o l) (j : Nat) (u : Value) (hu : (spCells l)[j]? = some u) : w.cell? ⟨b, o + j, none⟩ = some u := by
  have hj : j < l.length * 3 := by rw [← spCells_len]; exact (List.getElem?_eq_some_iff.1 hu).1
  have hi : j / 3 < l.length := by omega
  obtain ⟨k1, k2, k3⟩ := spCells_get l (j / 3) hi
  have c1 := h.cx (j / 3) hi
  have c2 := h.cy (j / 3) hi
  have c3 := h.cf (j / 3) hi
  rcases (show j = j / 3 * 3 ∨ j = j / 3 * 3 + 1 ∨ j = j / 3 * 3 + 2 by omega) with e | e | e
  · rw [e, k1] at hu; cases hu; rw [show o + j = o + j / 3 * 3 by omega]; exact c1
  · rw [e, k2] at hu; cases hu; rw [show o + j = o + j / 3 * 3 + 1 by omega]; exact c2
  · rw [e, k3] at hu; cases hu; rw [show o + j = o + j / 3 * 3 + 2 by omega]; exact c3
set_option maxHeartbeats 4000000 in
theorem cloneS_c (l : List Sp) (a : Option Addr) (cap : Nat) (w : World) (hl : l.length ≤ 1000000) (h : 0 < l.length → ∃ b o, a = some ⟨b, o, none⟩ ∧ SpotsAt w b o l) :
    Calls Tryd.prog 35 #[.slice a l.length cap] w fun e w' => ∃ v', e = .returned v' ∧ w'.ownsRow w.heap.size 23 3 v' l.length (spCells l) ∧ Below w.heap.size w w' := by
  obtain ⟨i0, hi, hz0, hz1, hz2⟩ := info_parts info_spot
  have q22 : ∀ (w : World) (a : Option Addr) (n c n' c' : Nat), (binOp .eql 31 (.slice a n c) (.slice none n' c')).run Tryd.prog w = .ok (.bool a.isNone) w := fun w a n c n' c' => Lib.run_eql_slice_nil w _ _ a n c n' c' Tryd.underlying31
  cases a with
  | none =>
    have h0 : l.length = 0 := by
      by_cases h0 : 0 < l.length
      · obtain ⟨b, o, e, -⟩ := h h0; cases e
      · omega
    obtain rfl := List.length_eq_zero_iff.mp h0
    clear h
    go_enter Tryd.func35, Tryd.ntmps35
    go_wp2
    go_ret
    exact ⟨_, rfl, World.ownsRow_nil _ _ _ _, Below.refl _ _⟩
  | some ad =>
    have hA : ∀ j u, (spCells l)[j]? = some u → w.cell? (ad.add j) = some u := fun j u hu => by
      have hj := (List.getElem?_eq_some_iff.1 hu).1
      rw [spCells_len] at hj
      obtain ⟨b, o, e, hs⟩ := h (by omega)
      cases e
      rw [add_none]
      exact hs.cells j u hu
    have hlt : 0 < l.length → ad.block < w.heap.size := fun h0 => by obtain ⟨b, o, e, hs⟩ := h h0; cases e; exact hs.lt
    clear h
    replace hA := Lib.hid hA
    replace hlt := Lib.hid hlt
    go_enter Tryd.func35, Tryd.ntmps35
    go_wp2_with (at_builtin; refine wpList_append_own _ rfl _ _ 31 rfl w.heap.size 23 i0 (.agg #[.int .i64 0, .int .i64 0, .bool false]) 3 24 (by kernel_rfl) hi hz0 hz1 hz2 rfl (by decide) _ _ _ rfl (World.ownsRow_made w #[] 0 (Nat.le_refl _) (Nat.zero_le _) rfl) ad l.length cap (spCells l) rfl ?qc1 ?qc2 ?qc3 ?qc4 ?qc5 ?qc6 ?_)
    case qc1 => exact spCells_len l
    case qc2 =>
      intro j u hj
      have hjn := (List.getElem?_eq_some_iff.1 hj).1
      rw [spCells_len] at hjn
      have := hlt.out (by omega)
      rw [← hA.out j u hj]
      exact (below_alloc w _).cell (p := ad.add j) (by unfold Addr.add; split <;> exact this)
    case qc3 => exact spCells_one l
    case qc4 => unfold maxLen; omega
    case qc5 => omega
    case qc6 => simp
    intro v' w1 hown hgrow hnil
    go_wp2
    go_ret
    refine ⟨v', rfl, by simpa using hown, ?_⟩
    exact (below_alloc w _).grown hgrow (by simp) (by intro k hk; simp [Value.ownBlock] at hk; omega)
end Go.Proofs.YtebomakihdjllaaDoor
namespace Go.Proofs.YtebomakihdjllaaDoor
open Go.RowKit
set_option maxRecDepth 100000
set_option linter.unusedVariables false
set_option linter.unusedSimpArgs false
/-- What an append leaves. -/
def AppRun (w : World) (t tx : TypeId) (B e size : Nat) (v x : Value) (n : Nat) (ys : List Value) : Prop :=
  ∀ ty : TypeId, ∃ v' w', (Builtin.append_ #[t, tx] ty #[v, x]).run Tryd.prog w = .ok v' w' ∧ w'.ownsRow B e size v' n ys ∧ w.grownBy w' v.ownBlock ∧ (v'.ownBlock = v.ownBlock ∨ v'.ownBlock = some w.heap.size)
theorem AppRun.spots {w : World} {B : Nat} {v : Value} {l m : List Sp} {n : Nat} {a : Option Addr} {c : Nat} (hown : w.ownsRow B 23 3 v n (spCells l)) (hm : 0 < m.length → ∃ b o, a = some ⟨b, o, none⟩ ∧ SpotsAt w b o m) (hB : B ≤ w.heap.size) (hn : n ≤ 1000000) (hml : m.length ≤ 1000000) :
    AppRun w 31 31 B 23 3 v (.slice a m.length c) (n + m.length) (spCells l ++ spCells m) := by
  intro ty
  obtain ⟨i0, hi, hz0, hz1, hz2⟩ := info_parts info_spot
  cases a with
  | none =>
    have h0 : m.length = 0 := by
      by_cases h0 : 0 < m.length
      · obtain ⟨b, o, e, -⟩ := hm h0; cases e
      · omega
    obtain rfl := List.length_eq_zero_iff.mp h0
    refine ⟨v, w, ?_, by simpa [spCells] using hown, ⟨rfl, rfl, rfl, Nat.le_refl _, fun _ _ _ => rfl⟩, .inl rfl⟩
    have ht := Tryd.underlying31
    rcases hown.2 with ⟨rfl, rfl⟩ | ⟨g, cap, cur, rfl, _, _, hnc, _⟩
    · simp [Builtin.append_, run_underlying ht, sizeOf, typeInfo, hi, Builtin.lenOf, Builtin.firstCells]
    · simp [Builtin.append_, run_underlying ht, sizeOf, typeInfo, hi, Builtin.lenOf, Builtin.firstCells, hnc, storeCells]
  | some ad =>
    obtain ⟨v', w', h1, h2, h3, h4, h5⟩ := run_append_own_at w B 31 ty 23 i0 (.agg #[.int .i64 0, .int .i64 0, .bool false]) 3 24 Tryd.underlying31 hi hz0 hz1 hz2 rfl (by decide) v n (spCells l) hown ad m.length c (spCells m) (spCells_len m) (fun j u hj => by
      have hjn := (List.getElem?_eq_some_iff.1 hj).1
      rw [spCells_len] at hjn
      obtain ⟨b, o, e, hs⟩ := hm (by omega)
      cases e
      rw [add_none]
      exact hs.cells j u hj) (spCells_one m) (by unfold maxLen; omega) (by omega) hB
    exact ⟨v', w', h1, h2, h3, h5⟩
theorem spCells_app : ∀ l m : List Sp, spCells l ++ spCells m = spCells (l ++ m)
  | [], _ => rfl
  | s :: l, m => by simp only [List.cons_append, spCells, spCells_app l m]
theorem info_bool : (Tryd.prog.info? 4).map (fun i => (i.zero, i.size, i.bytes)) = some (some (.bool false), 1, 1) := by kernel_rfl
theorem zeroCells_one (z : Value) (n : Nat) : (Builtin.zeroCells #[z] n) = Array.replicate n z := by
  apply Array.ext
  · simp [Builtin.zeroCells]
  · intro i h1 h2
    simp [Builtin.zeroCells, Nat.mod_one]
section
variable (w : World)
theorem run_zeros_grow (base : Option Addr) (n cap m : Nat) (olds : List Value) (ty : TypeId) (hold : (Builtin.firstCells 1 n (.slice base n cap)).run Tryd.prog w.drew = .ok olds.toArray w.drew) (hg : cap < n + m) (hm : 0 < m) (h1 : n ≤ 1000000) (h2 : m ≤ 1000000) :
    (Builtin.append_ #[62, 3] ty #[.slice base n cap, .int .i64 (m : Int)]).run Tryd.prog w =
      .ok (.slice (some ⟨w.heap.size, 0, none⟩) (n + m) (grownCap w (n + m) cap 4)) (w.drew.alloc (.cells ((olds ++ List.replicate m (Value.bool false)).toArray ++ Builtin.zeroCells #[.bool false] (grownCap w (n + m) cap 4 - (n + m))) 4)) := by
  obtain ⟨i0, hi, hz0, hz1, hz2⟩ := info_parts info_bool
  have ht := Tryd.underlying62
  have hti := Tryd.underlying3
  have hwrap : IntKind.i64.wrap (m : Int) = m := by rw [IntKind.wrap_i64]; omega
  have hneg : ¬ ((m : Int) < 0) := by omega
  have hbig : ¬ ((281474976710656 : Int) < (m : Int)) := by omega
  have hn : ¬ (n + m ≤ cap) := by omega
  have h63' : ¬ (9223372036854775807 < ((n : Int) + (m : Int))) := by omega
  have hfit : Builtin.nextslicecap (n + m) cap * 1 ≤ 281474976710656 := growslice_fits (by omega) (by omega)
  have h48' : ¬ (281474976710656 < Builtin.nextslicecap (n + m) cap) := by omega
  have hz : (Builtin.zeroCells #[Value.bool false] m) = (List.replicate m (Value.bool false)).toArray := by rw [zeroCells_one]; simp
  have hm0 : ¬ (m = 0) := by omega
  simp [Builtin.append_, run_underlying ht, run_underlying hti, sizeOf, typeInfo, zeroValue, hi, hz0, hz1, hz2, asInt, hwrap, hneg, hbig, hn, h63', h48', Question.forced, hold, newRow, grownCap, hm0, hz, Value.cells, asIntOf]
  try (congr 2; apply Array.ext'; simp [List.append_assoc])
theorem run_zeros_room (g n cap m : Nat) (cur : Array Value) (ty : TypeId) (hg : w.heap[g]? = some (.cells cur 4 (0, 0))) (hroom : n + m ≤ cap) (hfit : n + m ≤ cur.size) (h1 : n ≤ 1000000) (h2 : m ≤ 1000000) :
    (Builtin.append_ #[62, 3] ty #[.slice (some ⟨g, 0, none⟩) n cap, .int .i64 (m : Int)]).run Tryd.prog w =
      .ok (.slice (some ⟨g, 0, none⟩) (n + m) cap) (w.setRow g (cur.toList.take n ++ List.replicate m (Value.bool false) ++ cur.toList.drop (n + m)).toArray) := by
  obtain ⟨i0, hi, hz0, hz1, hz2⟩ := info_parts info_bool
  have ht := Tryd.underlying62
  have hti := Tryd.underlying3
  have hwrap : IntKind.i64.wrap (m : Int) = m := by rw [IntKind.wrap_i64]; omega
  have hneg : ¬ ((m : Int) < 0) := by omega
  have hbig : ¬ ((281474976710656 : Int) < (m : Int)) := by omega
  have hz : (Builtin.zeroCells #[Value.bool false] m) = (List.replicate m (Value.bool false)).toArray := by rw [zeroCells_one]; simp
  have hst := run_storeCells_at Tryd.prog g n 4 (List.replicate m (Value.bool false)) 0 cur w hg (by simpa using hfit) (fun u hu => by rw [List.eq_of_mem_replicate hu]; rfl)
  simp only [Nat.add_zero, List.length_replicate] at hst
  by_cases hm0 : m = 0
  · subst hm0
    have hw0 : IntKind.i64.wrap 0 = 0 := by rw [IntKind.wrap_i64]; omega
    simp only [List.replicate_zero, Nat.add_zero] at hst
    have hroom0 : n ≤ cap := hroom
    simp [Builtin.append_, run_underlying ht, run_underlying hti, sizeOf, typeInfo, zeroValue, hi, hz0, hz1, hz2, asInt, hw0, hroom0, Value.cells, asIntOf, Addr.add_lit, hst]
  · simp [Builtin.append_, run_underlying ht, run_underlying hti, sizeOf, typeInfo, zeroValue, hi, hz0, hz1, hz2, asInt, hwrap, hneg, hbig, hroom, hm0, hz, Value.cells, asIntOf, Addr.add_lit, hst]
end
/-- That many zeros, as an append of made ones. -/
theorem AppRun.zeros {w : World} {B : Nat} {v : Value} {G : List Bool} {n : Nat} (m : Nat) (hown : w.ownsRow B 4 1 v n (G.map .bool)) (hB : B ≤ w.heap.size) (hn : n ≤ 1000000) (hml : m ≤ 1000000) :
    AppRun w 62 3 B 4 1 v (.int .i64 (m : Int)) (n + m) ((G ++ List.replicate m false).map .bool) := by
  intro ty
  obtain ⟨i0, hi, hz0, hz1, hz2⟩ := info_parts info_bool
  have ht := Tryd.underlying62
  have hti := Tryd.underlying3
  have hwrap : IntKind.i64.wrap (m : Int) = m := by rw [IntKind.wrap_i64]; omega
  have hneg : ¬ ((m : Int) < 0) := by omega
  have hbig : ¬ ((281474976710656 : Int) < (m : Int) * (1 : Int)) := by omega
  have hz : (Builtin.zeroCells #[Value.bool false] m) = (List.replicate m (Value.bool false)).toArray := by rw [zeroCells_one]; simp
  have hmap : (G ++ List.replicate m false).map Value.bool = G.map Value.bool ++ List.replicate m (Value.bool false) := by rw [List.map_append, List.map_replicate]
  rw [hmap]
  have hlen : (G.map Value.bool ++ List.replicate m (Value.bool false)).length = n + m := by have := hown.1; simp at this; simp; omega
  have hGn : (G.map Value.bool).length = n := by have := hown.1; simpa using this
  have grown : ∀ (old : Nat) (row : Option Nat), (w.drew.alloc (.cells ((G.map Value.bool ++ List.replicate m (Value.bool false)).toArray ++ Builtin.zeroCells #[Value.bool false] (grownCap w (n + m) old 4 - (n + m))) 4)).ownsRow B 4 1 (.slice (some ⟨w.heap.size, 0, none⟩) (n + m) (grownCap w (n + m) old 4)) (n + m) (G.map Value.bool ++ List.replicate m (Value.bool false)) ∧
      w.grownBy (w.drew.alloc (.cells ((G.map Value.bool ++ List.replicate m (Value.bool false)).toArray ++ Builtin.zeroCells #[Value.bool false] (grownCap w (n + m) old 4 - (n + m))) 4)) row := by
    intro old row
    have hge := grownCap_ge w (n + m) old 4
    have hcm : grownCap w (n + m) old 4 ≤ maxLen := grownCap_le_maxLen w (n + m) old 4 (by unfold maxLen; omega)
    refine ⟨⟨by omega, .inr ⟨w.heap.size, _, _, rfl, hB, heap_alloc_new w.drew _, hge, hcm, ?_, ?_⟩⟩, ⟨rfl, rfl, rfl, by simp, fun k hk _ => (World.grownBy_alloc w.drew _ none).block k hk (by simp)⟩⟩
    · rw [zeroCells_one, Array.size_append, List.size_toArray, Array.size_replicate, hlen]; omega
    · rw [Array.toList_append, Nat.mul_one, ← hlen]; exact List.take_left
  rcases hown.2 with ⟨rfl, rfl⟩ | ⟨g, cap, cur, rfl, hbg, hg, hnc, hcm, hcs, htake⟩
  · have hG : G = [] := List.eq_nil_of_length_eq_zero (by simpa using hGn)
    subst hG
    by_cases hm : m = 0
    · subst hm
      have hw0 : IntKind.i64.wrap 0 = 0 := by rw [IntKind.wrap_i64]; omega
      refine ⟨.slice none 0 0, w, ?_, World.ownsRow_nil w B _ 1, ⟨rfl, rfl, rfl, Nat.le_refl _, fun _ _ _ => rfl⟩, .inl rfl⟩
      simp [Builtin.append_, run_underlying ht, run_underlying hti, sizeOf, typeInfo, zeroValue, hi, hz0, hz1, hz2, asInt, asIntOf, hw0]
    · have hr := run_zeros_grow w none 0 0 m [] ty (by simp [Builtin.firstCells]) (by omega) (by omega) (by omega) hml
      have hgr := grown 0 (Value.ownBlock (.slice none 0 0))
      exact ⟨_, _, hr, hgr.1, hgr.2, .inr rfl⟩
  · by_cases hroom : n + m ≤ cap
    · have hr := run_zeros_room w g n cap m cur ty hg hroom (by omega) (by omega) hml
      refine ⟨_, _, hr, ⟨by omega, .inr ⟨g, cap, _, rfl, hbg, setRow_heap w g cur _ _ _ hg, hroom, hcm, ?_, ?_⟩⟩, ⟨rfl, rfl, rfl, by simp, fun k _ hk => setRow_other w g k _ (fun e => hk (by simp [Value.ownBlock, e]))⟩, .inl rfl⟩
      · simp only [List.size_toArray, List.length_append, List.length_take, List.length_drop, Array.length_toList, List.length_replicate]
        omega
      · rw [Nat.mul_one] at htake ⊢
        rw [htake, ← hlen]
        exact List.take_left
    · have holds := hown.cells (g := g) rfl
      have hr := run_zeros_grow w (some ⟨g, 0, none⟩) n cap m (G.map Value.bool) ty (run_firstCells_some w.drew 1 n ⟨g, 0, none⟩ n cap (G.map Value.bool) (by omega) (by simpa using holds)) (by omega) (by omega) (by omega) hml
      have hgr := grown cap (Value.ownBlock (.slice (some ⟨g, 0, none⟩) n cap))
      exact ⟨_, _, hr, hgr.1, hgr.2, .inr rfl⟩
section
variable {ops : Array Oper} {o : Oper} {a : Act} {w : World} {K : Act → World → Prop} {Q : Exit → Act → World → Prop} {E : Prop} {rest : List Oper}
/-- An append, at a walk's step. -/
theorem wpl_app {t tx : TypeId} {B e size n : Nat} {v x : Value} {ys : List Value} (hgd : o.guard = none) (s y : Operand) (ho : o.op = .call { callee := .builtin .append, args := #[s, y], argTypes := #[t, tx] }) (hr : AppRun w t tx B e size v x n ys) (hs : a.eval s = v) (hx : a.eval y = x)
    (h : ∀ v' w', w'.ownsRow B e size v' n ys → w.grownBy w' v.ownBlock → (v'.ownBlock = v.ownBlock ∨ v'.ownBlock = some w.heap.size) → wpList Tryd.prog ops Q rest (a.put o.dst v') w') :
    wpList Tryd.prog ops Q (o :: rest) a w := by
  refine wpList_plain hgd fun K hK => ?_
  obtain ⟨v', w', h1, h2, h3, h4⟩ := hr o.type
  unfold Oper.wp execOp
  simp only [ho, resolve, invoke, builtin, Sem.run_bind, Sem.run_pure, Result.andThen_ok, List.map_toArray, List.map_cons, List.map_nil, hs, hx, h1]
  exact hK _ _ (h v' w' h2 h3 h4)
/-- An append, at a step of a region that draws its order. -/
theorem step_app {t tx : TypeId} {B e size n : Nat} {v x : Value} {ys : List Value} (hgd : o.guard = none) (s y : Operand) (ho : o.op = .call { callee := .builtin .append, args := #[s, y], argTypes := #[t, tx] }) (hr : AppRun w t tx B e size v x n ys) (hs : a.eval s = v) (hx : a.eval y = x)
    (h : ∀ v' w', w'.ownsRow B e size v' n ys → w.grownBy w' v.ownBlock → (v'.ownBlock = v.ownBlock ∨ v'.ownBlock = some w.heap.size) → K (a.put o.dst v') w') :
    if Region.wanted o (yielded ops a.tmps) = true then Oper.wp Tryd.prog o a w K Q else E := by
  have hw : Region.wanted o (yielded ops a.tmps) = true := by simp [Region.wanted, hgd]
  rw [if_pos hw]
  obtain ⟨v', w', h1, h2, h3, h4⟩ := hr o.type
  unfold Oper.wp execOp
  simp only [ho, resolve, invoke, builtin, Sem.run_bind, Sem.run_pure, Result.andThen_ok, List.map_toArray, List.map_cons, List.map_nil, hs, hx, h1]
  exact h v' w' h2 h3 h4
end
end Go.Proofs.YtebomakihdjllaaDoor
namespace Go.Proofs.YtebomakihdjllaaDoor
open Go.RowKit
set_option linter.unusedVariables false
/-- Two slices that own no block together. -/
def Ap (u v : Value) : Prop := ∀ g, u.ownBlock = some g → v.ownBlock ≠ some g
theorem Ap.symm {u v : Value} (h : Ap u v) : Ap v u := fun g hv hu => h g hu hv
theorem Ap.nil (v : Value) : Ap (.slice none 0 0) v := fun g h => by cases h
/-- What is appended to one leaves the other one. -/
theorem row_pair {w w' : World} {B e size n : Nat} {u u' v : Value} {ys : List Value} (hv : w.ownsRow B e size v n ys) (ha : Ap u v) (hg : w.grownBy w' u.ownBlock) (hl : u'.ownBlock = u.ownBlock ∨ u'.ownBlock = some w.heap.size) : w'.ownsRow B e size v n ys ∧ Ap u' v := by
  refine ⟨hv.kept hg ?_, fun g h1 h2 => ?_⟩
  · cases hvb : v.ownBlock with
    | none => exact .inl rfl
    | some k => exact .inr (fun e => ha k e.symm hvb)
  · rcases hl with e | e
    · exact ha g (e.symm.trans h1) h2
    · rw [e] at h1
      have := (hv.lt g h2).2
      cases h1
      exact Nat.lt_irrefl _ this
end Go.Proofs.YtebomakihdjllaaDoor
namespace Go.Proofs.YtebomakihdjllaaDoor
open Go.RowKit
set_option maxRecDepth 100000
set_option linter.unusedVariables false
set_option linter.unusedSimpArgs false
/-- Truths that lie from a place on. -/
structure BolsAt (w : World) (b off : Nat) (l : List Bool) : Prop where
  lt : b < w.heap.size
  c : ∀ i (h : i < l.length), w.cell? ⟨b, off + i, none⟩ = some (.bool l[i])
theorem BolsAt.below {w w' : World} {b off : Nat} {l : List Bool} (h : BolsAt w b off l) (hb : Below w.heap.size w w') : BolsAt w' b off l :=
  ⟨Nat.lt_of_lt_of_le h.lt hb.size, fun i hi => (hb.cell (p := ⟨b, off + i, none⟩) h.lt).trans (h.c i hi)⟩
def BolSl (w : World) (v : Value) (l : List Bool) : Prop := ∃ a cap, v = .slice a l.length cap ∧ (0 < l.length → ∃ b off, a = some ⟨b, off, none⟩ ∧ BolsAt w b off l)
theorem BolSl.below {w w' : World} {v : Value} {l : List Bool} (h : BolSl w v l) (hb : Below w.heap.size w w') : BolSl w' v l := by
  obtain ⟨a, cap, rfl, h⟩ := h
  exact ⟨a, cap, rfl, fun h0 => by obtain ⟨b, off, e, hs⟩ := h h0; exact ⟨b, off, e, hs.below hb⟩⟩
theorem own_bols {w : World} {B e : Nat} {v : Value} {l : List Bool} {n : Nat} (h : w.ownsRow B e 1 v n (l.map Value.bool)) (hn : n = l.length) : BolSl w v l := by
  subst hn
  obtain ⟨hl, h | ⟨g, cap, cur, rfl, hb, hg, hc, -, -, ht⟩⟩ := h
  · obtain ⟨rfl, h0⟩ := h
    exact ⟨none, 0, by rw [h0], fun hp => absurd h0 (by omega)⟩
  · refine ⟨_, _, rfl, fun _ => ⟨g, 0, rfl, (Array.getElem?_eq_some_iff.1 hg).1, fun i hi => ?_⟩⟩
    have k1 : (l.map Value.bool)[i]? = some (.bool l[i]) := by simp [hi]
    rw [cell_of_row w g _ cur e (0, 0) hg]
    simp only [Nat.zero_add]
    rw [← ht, List.getElem?_take, if_pos (by omega), Array.getElem?_toList] at k1
    assumption
/-- A book that lies in a block: its coins (by number) and which of them are gone. -/
structure BkV (w : World) (B p : Nat) (vc vg : Value) (N : List Int) (G : List Bool) : Prop where
  c0 : w.cell? ⟨p, 0, none⟩ = some vc
  c1 : w.cell? ⟨p, 1, none⟩ = some vg
  f0 : w.frozen? ⟨p, 0, none⟩ = false
  f1 : w.frozen? ⟨p, 1, none⟩ = false
  lt : p < w.heap.size
  bp : B ≤ p
  rc : w.ownsRow B 23 3 vc N.length (spCells (N.map qS))
  rg : w.ownsRow B 4 1 vg N.length (G.map Value.bool)
  ln : G.length = N.length
  ap : Ap vc vg
  nc : vc.ownBlock ≠ some p
  ng : vg.ownBlock ≠ some p
def BkAt (w : World) (B p : Nat) (N : List Int) (G : List Bool) : Prop := ∃ vc vg, BkV w B p vc vg N G
theorem own_slB {w : World} {B e size n : Nat} {v : Value} {xs : List Value} (h : w.ownsRow B e size v n xs) : ∃ a cap, v = .slice a n cap := by
  rcases h.2 with ⟨rfl, h0⟩ | ⟨g, cap, cur, rfl, -⟩
  · exact ⟨none, 0, by rw [h0]⟩
  · exact ⟨_, _, rfl⟩
theorem own_base {w : World} {B B' e size n : Nat} {v : Value} {xs : List Value} (h : w.ownsRow B' e size v n xs) (hB : B ≤ B') : w.ownsRow B e size v n xs := by
  refine ⟨h.1, ?_⟩
  rcases h.2 with hn | ⟨g, cap, cur, rfl, hg, rest⟩
  · exact .inl hn
  · exact .inr ⟨g, cap, cur, rfl, Nat.le_trans hB hg, rest⟩
theorem own_keep {w w' : World} {B e size n : Nat} {v : Value} {xs : List Value} (h : w.ownsRow B e size v n xs) (hk : ∀ k, v.ownBlock = some k → w'.heap[k]? = w.heap[k]?) : w'.ownsRow B e size v n xs := by
  refine ⟨h.1, ?_⟩
  rcases h.2 with hn | ⟨g, cap, cur, rfl, hg, hgg, rest⟩
  · exact .inl hn
  · exact .inr ⟨g, cap, cur, rfl, hg, by rw [hk g rfl]; exact hgg, rest⟩
/-- It stays, where its blocks stay. -/
theorem BkV.keep {w w' : World} {B p : Nat} {vc vg : Value} {N : List Int} {G : List Bool} (h : BkV w B p vc vg N G) (hs : w.heap.size ≤ w'.heap.size) (hk : ∀ k, k = p ∨ vc.ownBlock = some k ∨ vg.ownBlock = some k → w'.heap[k]? = w.heap[k]?) : BkV w' B p vc vg N G :=
  ⟨(World.cell?_of_block (hk p (.inl rfl))).trans h.c0, (World.cell?_of_block (hk p (.inl rfl))).trans h.c1, (World.frozen?_of_block (hk p (.inl rfl))).trans h.f0, (World.frozen?_of_block (hk p (.inl rfl))).trans h.f1, Nat.lt_of_lt_of_le h.lt hs, h.bp,
    own_keep h.rc (fun k e => hk k (.inr (.inl e))), own_keep h.rg (fun k e => hk k (.inr (.inr e))), h.ln, h.ap, h.nc, h.ng⟩
theorem BkV.blk {w : World} {B p : Nat} {vc vg : Value} {N : List Int} {G : List Bool} (h : BkV w B p vc vg N G) (k : Nat) (hk : k = p ∨ vc.ownBlock = some k ∨ vg.ownBlock = some k) : B ≤ k ∧ k < w.heap.size := by
  rcases hk with rfl | hk | hk
  · exact ⟨h.bp, h.lt⟩
  · exact h.rc.lt k hk
  · exact h.rg.lt k hk
theorem BkV.below {w w' : World} {B p : Nat} {vc vg : Value} {N : List Int} {G : List Bool} (h : BkV w B p vc vg N G) (hb : Below w.heap.size w w') : BkV w' B p vc vg N G :=
  h.keep hb.size fun k hk => hb.block k (h.blk k hk).2
theorem BkAt.below {w w' : World} {B p : Nat} {N : List Int} {G : List Bool} (h : BkAt w B p N G) (hb : Below w.heap.size w w') : BkAt w' B p N G := by
  obtain ⟨vc, vg, h⟩ := h; exact ⟨vc, vg, h.below hb⟩
theorem BkV.sp {w : World} {B p : Nat} {vc vg : Value} {N : List Int} {G : List Bool} (h : BkV w B p vc vg N G) : SpSl w vc (N.map qS) := own_spots h.rc (by rw [List.length_map])
theorem BkV.bo {w : World} {B p : Nat} {vc vg : Value} {N : List Int} {G : List Bool} (h : BkV w B p vc vg N G) : BolSl w vg G := own_bols h.rg h.ln.symm
theorem BkV.box {w : World} {B : Nat} {vc vg : Value} {N : List Int} {G : List Bool} (t : TypeId) (rc : w.ownsRow B 23 3 vc N.length (spCells (N.map qS))) (rg : w.ownsRow B 4 1 vg N.length (G.map Value.bool)) (ln : G.length = N.length) (ap : Ap vc vg) (hB : B ≤ w.heap.size) (p : Nat) (hp : p = w.heap.size) :
    BkV (w.alloc (.cells #[vc, vg] t)) B p vc vg N G := by
  subst hp
  exact ⟨by go_simp, by go_simp, by go_simp, by go_simp, by simp, hB, rc.alloc _, rg.alloc _, ln, ap, fun e => Nat.lt_irrefl _ (rc.lt _ e).2, fun e => Nat.lt_irrefl _ (rg.lt _ e).2⟩
theorem mk_bols (n : Nat) (h : n ≤ 1000000) : ∀ w : World, (Instr.makeSlice 62 (.int .i64 (n : Int)) (.int .i64 (n : Int))).run Tryd.prog w = .ok (.slice (some ⟨w.heap.size, 0, none⟩) n n) (w.alloc (.cells (madeCells #[.bool false] n) 4)) := by
  intro w
  obtain ⟨i0, hi, hz0, hz1, hz2⟩ := info_parts info_bool
  have := run_makeSlice (P := Tryd.prog) w 62 4 i0 (.bool false) Tryd.underlying62 hi hz0 .i64 .i64 n n (by omega) (Int.le_refl _) (by rw [hz1]; simp; omega) (by rw [hz2]; omega) (by omega)
  rw [hz1, Nat.mul_one] at this
  simpa [Value.cells] using this
theorem own_made (w : World) (B n : Nat) (hB : B ≤ w.heap.size) (hn : n ≤ 1000000) : (w.alloc (.cells (madeCells #[.bool false] n) 4)).ownsRow B 4 1 (.slice (some ⟨w.heap.size, 0, none⟩) n n) n ((List.replicate n false).map Value.bool) := by
  have := World.ownsRow_lit (base := B) (e := 4) (size := 1) w (madeCells #[.bool false] n) n hB (by unfold maxLen; omega) (by rw [size_madeCells, Nat.mul_one])
  rw [toList_madeCells_one] at this
  rw [List.map_replicate]; exact this
set_option maxHeartbeats 4000000 in
theorem bnew_y (N : List Int) (a : Option Addr) (c : Nat) (w : World) (hn : N.length ≤ 12) (hF : FarAt w) (hL : 0 < (N.map qS).length → ∃ b o, a = some ⟨b, o, none⟩ ∧ SpotsAt w b o (N.map qS)) :
    Calls Tryd.prog 7 #[.slice a N.length c] w fun e w' => ∃ p, e = .returned (.tuple #[.pointer (some ⟨p, 0, none⟩), .nilIface]) ∧ BkAt w' w.heap.size p N (List.replicate N.length false) ∧ Below w.heap.size w w' := by
  have hl : (N.map qS).length = N.length := List.length_map _
  have hck := bcheck_core (N.map qS) (N.map qS).length .nilIface a c w hF (by omega) hL (Lib.hid fun k h1 _ => ⟨_, List.getElem_map _⟩) (Nat.le_refl _) (Lib.hid fun h => absurd h (Nat.lt_irrefl _)) (Lib.hid fun h => absurd h (Nat.lt_irrefl _)) (Lib.hid fun _ => rfl)
  have hcl := fun (w1 : World) (hb : Below w.heap.size w w1) => cloneS_c (N.map qS) a c w1 (by omega) (fun h => by obtain ⟨b, o, e, hs⟩ := hL h; exact ⟨b, o, e, hs.below hb⟩)
  rw [hl] at hck
  simp only [hl] at hcl
  replace hck := Lib.hid hck
  replace hcl := Lib.hid hcl
  have hmk := mk_bols N.length (by omega)
  clear hL hF
  go_enter Tryd.func7, Tryd.ntmps7
  go_wp2_with fail
  refine hck.out.mono ?_; rintro e w1 ⟨rfl, hb1⟩
  replace hb1 := Lib.hid hb1
  clear hck
  go_upto_region 4 with fail
  go_region_with (first | (go_at_call 35; refine (hcl.out _ (by repeat (first | exact hb1.out | refine balloc ?_ _ | refine Below.drew ?_))).mono ?_; rintro e wb ⟨vo, rfl, hown, hbb⟩; obtain ⟨av, cv, rfl⟩ := own_slB hown; replace hown := Lib.hid hown; replace hbb := Lib.hid hbb))
  · have hsz : w.heap.size ≤ w1.heap.size := hb1.out.size
    have hbz : w1.heap.size ≤ wb.heap.size := hbb.out.size
    have hbB : Below w.heap.size w wb := below_seq hb1.out.drew hbb.out
    go_wp2
    go_ret2
    refine ⟨_, rfl, ⟨_, _, BkV.box _ ((own_base hown.out hsz).alloc _) (own_made wb w.heap.size N.length (by omega) (by omega)) (by simp) (fun g h1 h2 => ?_) (by simp; omega) _ (by simp)⟩, balloc (balloc hbB _) _⟩
    have h3 := (hown.out.lt g h1).2
    simp [Value.ownBlock] at h2
    omega
  · have hsz : w.heap.size ≤ w1.heap.size := hb1.out.size
    have hbz := hbb.out.size
    have hbB : Below w.heap.size w wb := below_seq (balloc hb1.out.drew _) hbb.out
    have hmd := own_made w1.drew w.heap.size N.length hsz (by omega)
    have hmd2 := own_below hmd hbb.out
    simp at hbz
    go_wp2
    go_ret2
    refine ⟨_, rfl, ⟨_, _, BkV.box _ (own_base hown.out (by simp; omega)) hmd2 (by simp) (fun g h1 h2 => ?_) (by omega) _ rfl⟩, balloc hbB _⟩
    have h3 := (hown.out.lt g h1).1
    simp [Value.ownBlock] at h2 h3
    omega
/-- A book is not made of coins that are refused. -/
theorem bnew_n (n : Nat) (E : Value) (a : Option Addr) (c : Nat) (w : World) (hE : ∃ k : Int, E = .iface 69 (.int .i64 k)) (hck : Calls Tryd.prog 34 #[.slice a n c] w fun e w' => e = .returned E ∧ Below w.heap.size w w') :
    Calls Tryd.prog 7 #[.slice a n c] w fun e w' => e = .returned (.tuple #[.pointer none, E]) ∧ Below w.heap.size w w' := by
  obtain ⟨k, rfl⟩ := hE
  replace hck := Lib.hid hck
  go_enter Tryd.func7, Tryd.ntmps7
  go_wp2_with fail
  refine hck.out.mono ?_; rintro e w1 ⟨rfl, hb1⟩
  clear hck
  go_wp2
  go_ret2
  exact ⟨rfl, hb1⟩
end Go.Proofs.YtebomakihdjllaaDoor
namespace Go.Proofs.YtebomakihdjllaaDoor
open Go.RowKit
set_option maxRecDepth 100000
set_option linter.unusedVariables false
set_option linter.unusedSimpArgs false
/-- The fault of a coin that is to go, behind those that went before. -/
def gErrB (G : List Bool) (pre : List Int) (g : Int) : Int := if g < 0 ∨ (G.length : Int) ≤ g then 1 else if G.getD g.toNat true = true then 6 else if g ∈ pre then 7 else 0
/-- What goes: its number, turned. -/
def outN (N gl : List Int) : Int := -(gl.map fun g => N.getD g.toNat 0).sum
theorem outN_snoc (N gl : List Int) (g : Int) : outN N (gl ++ [g]) = outN N gl + -(N.getD g.toNat 0) := by
  unfold outN; rw [List.map_append, List.sum_append]; simp; omega
theorem outN_nil (N : List Int) : outN N [] = 0 := rfl
theorem qS_add (a b : Int) : sSum (qS a) (qS b) = qS (a + b) := by unfold qS; rw [sq_add]; congr 1; omega
theorem qS_neg (a : Int) : sTurned (qS a) = qS (-a) := by unfold qS; rw [sq_neg]; congr 1; omega
theorem qS_zero : qS 0 = ⟨0, 0, true⟩ := sq_zero
theorem take_snocI (l : List Int) (k : Nat) (h : k < l.length) : l.take (k + 1) = l.take k ++ [l[k]] := by
  rw [List.take_add_one, List.getElem?_eq_getElem h]; rfl
theorem sumB_snoc (l : List Int) (k : Nat) (h : k < l.length) : (l.take (k + 1)).sum = (l.take k).sum + l[k] := by
  rw [take_snocI l k h, List.sum_append]; simp
theorem IntsAt.take {w : World} {b o : Nat} {l : List Int} (h : IntsAt w b o l) (n : Nat) : IntsAt w b o (l.take n) :=
  ⟨h.lt, fun i hi => by rw [List.getElem_take]; exact h.c i (by rw [List.length_take] at hi; omega)⟩
set_option maxHeartbeats 16000000 in
theorem bex_core (N : List Int) (G : List Bool) (B p : Nat) (gl : List Int) (C : List Sp) (a0 a1 : Option Addr) (c0 c1 : Nat) (kk : Nat) (E : Int) (V R : Value) (w : World) (hF : FarAt w) (hBk : BkAt w B p N G) (hNl : N.length ≤ 1000000) (hgl : gl.length ≤ 9223372036854775807) (hc0 : gl.length ≤ c0) (hc0' : c0 ≤ 9223372036854775807)
    (h0 : 0 < gl.length → ∃ b o, a0 = some ⟨b, o, none⟩ ∧ IntsAt w b o gl) (h1 : 0 < C.length → ∃ b o, a1 = some ⟨b, o, none⟩ ∧ SpotsAt w b o C) (hCl : C.length ≤ 9223372036854775807)
    (hkk : kk ≤ gl.length) (hgood : ∀ i (h : i < gl.length), i < kk → gErrB G (gl.take i) gl[i] = 0) (hbad : ∀ h : kk < gl.length, gErrB G (gl.take kk) gl[kk] = E ∧ E ≠ 0)
    (hck : Hid (∀ w1 : World, Below w.heap.size w w1 → Calls Tryd.prog 34 #[.slice a1 C.length c1] w1 fun e w' => e = .returned V ∧ Below w1.heap.size w1 w'))
    (hR0 : Hid (kk < gl.length → R = .tuple #[spV ⟨0, 0, false⟩, .iface 69 (.int .i64 E)]))
    (hR1 : Hid (kk = gl.length → (∃ k, V = .iface 69 (.int .i64 k) ∧ R = .tuple #[spV ⟨0, 0, false⟩, V]) ∨ (V = .nilIface ∧ ∃ M : List Int, C = M.map qS ∧ R = .tuple #[spV (qS (outN N gl + M.sum)), .nilIface]))) :
    Calls Tryd.prog 9 #[.pointer (some ⟨p, 0, none⟩), .slice a0 gl.length c0, .slice a1 C.length c1] w fun e w' => e = .returned R ∧ Below w.heap.size w w' := by
  obtain ⟨vc, vg, hBk⟩ := hBk
  obtain ⟨ac, cc, rfl⟩ := own_slB hBk.rc
  obtain ⟨ag, cg, rfl⟩ := own_slB hBk.rg
  have hNs : 0 < N.length → ∃ b o, ac = some ⟨b, o, none⟩ ∧ SpotsAt w b o (N.map qS) := fun h => by
    obtain ⟨a, c, e, hs⟩ := hBk.sp
    simp only [Value.slice.injEq] at e
    obtain ⟨rfl, -, -⟩ := e
    exact hs (by rw [List.length_map]; exact h)
  have hGs : 0 < N.length → ∃ b o, ag = some ⟨b, o, none⟩ ∧ BolsAt w b o G := fun h => by
    obtain ⟨a, c, e, hs⟩ := hBk.bo
    simp only [Value.slice.injEq] at e
    obtain ⟨rfl, -, -⟩ := e
    exact hs (by rw [hBk.ln]; exact h)
  have hGl := hBk.ln
  have p0 := hBk.c0
  have p1 := hBk.c1
  have hp := hBk.lt
  have hcp := Lib.hid (fun (w' : World) (hb : Below w.heap.size w w') => (⟨((bcell hb).1 _ 0 hp).trans p0, ((bcell hb).1 _ 1 hp).trans p1, Nat.lt_of_lt_of_le hp hb.size⟩ : w'.cell? ⟨p, 0, none⟩ = some (.slice ac N.length cc) ∧ w'.cell? ⟨p, 1, none⟩ = some (.slice ag N.length cg) ∧ p < w'.heap.size))
  clear hBk p0 p1
  replace h0 := Lib.hid h0
  replace h1 := Lib.hid h1
  replace hNs := Lib.hid hNs
  replace hGs := Lib.hid hGs
  replace hgood := Lib.hid hgood
  replace hbad := Lib.hid hbad
  have hF' := Lib.hid hF
  obtain ⟨q0, q1, q2, ql⟩ := hF
  go_enter Tryd.func9, Tryd.ntmps9
  go_wp2
  have t0 : SpAt ((w.alloc (.cells #[.int .i64 0, .int .i64 0, .bool false] 23)).alloc (.cells #[.int .i64 0, .int .i64 0, .bool true] 23)) w.heap.size ⟨0, 0, false⟩ := (SpAt.fresh _ _ _ _ _).alloc _
  have t1 : SpAt ((w.alloc (.cells #[.int .i64 0, .int .i64 0, .bool false] 23)).alloc (.cells #[.int .i64 0, .int .i64 0, .bool true] 23)) (w.heap.size + 1) ⟨0, 0, true⟩ := SpAt.fresh1 _ _ _ _ _ _
  have tb := balloc (below_alloc w (.cells #[.int .i64 0, .int .i64 0, .bool false] 23)) (.cells #[.int .i64 0, .int .i64 0, .bool true] 23)
  replace t0 := Lib.hid t0
  replace t1 := Lib.hid t1
  replace tb := Lib.hid tb
  clear q0 q1 q2 ql
  generalize (w.alloc (.cells #[.int .i64 0, .int .i64 0, .bool false] 23)).alloc (.cells #[.int .i64 0, .int .i64 0, .bool true] 23) = w0 at *
  go_loopw [17] (fun i wr => ∃ n : Nat, n ≤ gl.length ∧ n ≤ kk ∧ i = .int .i64 n ∧ SpAt wr w.heap.size ⟨0, 0, false⟩ ∧ SpAt wr (w.heap.size + 1) (qS (outN N (gl.take n))) ∧ Below w.heap.size w wr) (fun i _ => gl.length - (intOf i).toNat)
  case atStart => exact ⟨0, Nat.zero_le _, Nat.zero_le _, rfl, t0.out, (by show SpAt w0 _ (qS 0); rw [qS_zero]; exact t1.out), tb.out⟩
  case round =>
    clear t0 t1 tb
    obtain ⟨n, hn, hnk, rfl, hr, ho, hB⟩ := hrel
    have hol := ho.lt
    have hrl := hr.lt
    replace hr := Lib.hid hr
    replace ho := Lib.hid ho
    replace hB := Lib.hid hB
    by_cases hlt : n < gl.length
    · obtain ⟨b0, o0, rfl, hs0⟩ := h0.out (by omega)
      have hsI := hs0.below hB.out
      have l1 := hsI.c n hlt
      have l2 := hsI.lt
      obtain ⟨r0, r1, r2⟩ := hcp.out _ hB.out
      have hgd := Lib.hid (hgood.out n hlt)
      have hbn : n = kk → gErrB G (gl.take n) gl[n] = E ∧ E ≠ 0 := fun e => by subst e; exact hbad.out hlt
      replace hbn := Lib.hid hbn
      have hRn := Lib.hid (fun e : n = kk => hR0.out (by omega))
      have hsn := Lib.hid (take_snocI gl n hlt)
      have hst := Lib.hid (hsI.take n)
      have htl : (gl.take n).length = n := by rw [List.length_take]; omega
      clear hsI hs0 hgood hbad hR0 hR1 h1 hck
      generalize gl[n] = g at *
      generalize gl.take n = pre at *
      by_cases hrg : g < 0 ∨ (N.length : Int) ≤ g
      · have hE : gErrB G pre g = 1 := if_pos (by rw [hGl]; exact hrg)
        have hnk2 : n = kk := by
          by_cases e : n = kk
          · exact e
          · have := hgd.out (by omega); omega
        obtain ⟨e1, -⟩ := hbn.out hnk2
        have hR := hRn.out hnk2
        obtain rfl : E = 1 := by omega
        clear hgd hbn hRn hnk2 hE e1 hNs hGs hsn hst
        obtain ⟨k0, k1, k2, kf0, kf1, kf2, kl⟩ := hr.out
        rcases hrg with hrg | hrg
        · have d1 : decide (g < 0) = true := decide_eq_true hrg
          go_wp2
          have k := set3_cell (w := wr) (x := .int .i64 0) (y := .int .i64 0) (z := .bool false) k0 k1 k2
          refine bodyPost_ret (v := .tuple #[spV ⟨0, 0, false⟩, .iface 69 (.int .i64 1)]) (by simp [results, Tryd.results9, go_sem, k.1, k.2.1, k.2.2]) rfl ⟨by first | rfl | rw [hR], set3_below hB.out (Nat.le_refl _)⟩
        · have d1 : decide (g < 0) = false := decide_eq_false (by omega)
          have d2 : decide ((N.length : Int) ≤ g) = true := decide_eq_true hrg
          go_wp2
          have k := set3_cell (w := wr) (x := .int .i64 0) (y := .int .i64 0) (z := .bool false) k0 k1 k2
          refine bodyPost_ret (v := .tuple #[spV ⟨0, 0, false⟩, .iface 69 (.int .i64 1)]) (by simp [results, Tryd.results9, go_sem, k.1, k.2.1, k.2.2]) rfl ⟨by first | rfl | rw [hR], set3_below hB.out (Nat.le_refl _)⟩
      · obtain ⟨j, rfl⟩ : ∃ j : Nat, g = (j : Int) := ⟨g.toNat, by omega⟩
        have hj : j < N.length := by omega
        have d1 : decide ((j : Int) < 0) = false := decide_eq_false (by omega)
        have d2 : decide ((N.length : Int) ≤ (j : Int)) = false := decide_eq_false (by omega)
        have hjG : j < G.length := by rw [hGl]; exact hj
        obtain ⟨bg, og, rfl, hsG⟩ := hGs.out (by omega)
        have g1 := (hsG.below hB.out).c j hjG
        have g2 := (hsG.below hB.out).lt
        have hgE : gErrB G pre (j : Int) = if G[j] = true then 6 else if (j : Int) ∈ pre then 7 else 0 := by
          unfold gErrB
          rw [if_neg (by rw [hGl]; exact hrg), Int.toNat_natCast, List.getD_eq_getElem?_getD, List.getElem?_eq_getElem hjG]; rfl
        rw [hgE] at hgd hbn
        clear hgE hsG hGs hrg
        generalize G[j] = gj at *
        cases gj
        · have hCn := contains_c pre (j : Int) (some ⟨b0, o0, none⟩) c0 wr (decide ((j : Int) ∈ pre)) decide_eq_true_iff (by omega) (fun _ => ⟨b0, o0, rfl, hst.out⟩)
          rw [htl] at hCn
          replace hCn := Lib.hid hCn
          have d3 : (n : Int) ≤ (c0 : Int) := by omega
          by_cases hmem : (j : Int) ∈ pre
          · have hnk2 : n = kk := by
              by_cases e : n = kk
              · exact e
              · have := hgd.out (by omega); rw [if_neg (by simp), if_pos hmem] at this; omega
            obtain ⟨e1, -⟩ := hbn.out hnk2
            have hR := hRn.out hnk2
            obtain rfl : E = 7 := by rw [if_neg (by simp), if_pos hmem] at e1; exact e1.symm
            rw [decide_eq_true hmem] at hCn
            clear hgd hbn hRn hnk2 e1 hNs hsn hst hmem
            obtain ⟨k0, k1, k2, kf0, kf1, kf2, kl⟩ := hr.out
            go_wp2_with fail
            refine hCn.out.mono ?_; rintro e w' ⟨rfl, rfl⟩
            clear hCn
            go_wp2
            have k := set3_cell (w := wr) (x := .int .i64 0) (y := .int .i64 0) (z := .bool false) k0 k1 k2
            refine bodyPost_ret (v := .tuple #[spV ⟨0, 0, false⟩, .iface 69 (.int .i64 7)]) (by simp [results, Tryd.results9, go_sem, k.1, k.2.1, k.2.2]) rfl ⟨by first | rfl | rw [hR], set3_below hB.out (Nat.le_refl _)⟩
          · have hnk2 : n < kk := by
              by_cases e : n = kk
              · obtain ⟨e1, e2⟩ := hbn.out e
                rw [if_neg (by simp), if_neg hmem] at e1
                exact absurd e1.symm e2
              · omega
            rw [decide_eq_false hmem] at hCn
            have hsn1 : Hid (qS (outN N (gl.take (n + 1))) = sSum (qS (outN N pre)) (qS (-N[j]))) := by
              show _ = _
              rw [hsn.out, outN_snoc, qS_add, Int.toNat_natCast, List.getD_eq_getElem?_getD, List.getElem?_eq_getElem hj]; rfl
            obtain ⟨bc, oc, rfl, hsN⟩ := hNs.out (by omega)
            have hjm : j < (N.map qS).length := by rw [List.length_map]; exact hj
            have m1 := (hsN.below hB.out).cx j hjm
            have m2 := (hsN.below hB.out).cy j hjm
            have m3 := (hsN.below hB.out).cf j hjm
            have m4 := (hsN.below hB.out).lt
            rw [List.getElem_map] at m1 m2 m3
            have hT := Lib.hid (qS_neg N[j])
            clear hgd hbn hRn hNs hsn hst hmem hsN
            have oK := qS_ok N[j]
            have oT := qS_ok (-N[j])
            have oS := qS_ok (outN N pre)
            generalize qS N[j] = K at *
            generalize qS (-N[j]) = T at *
            generalize qS (outN N pre) = S at *
            generalize hD : qS (outN N (gl.take (n + 1))) = D at *
            replace hD := Lib.hid hD
            have hD2 : Hid (sSum S T = D) := Lib.hid hsn1.out.symm
            clear hsn1
            obtain ⟨o0', o1', o2', of0, of1, of2, ol⟩ := ho.out
            have hFr := Lib.hid (hF'.out.below hB.out)
            go_wp2_with fail
            refine hCn.out.mono ?_; rintro e w' ⟨rfl, rfl⟩
            clear hCn
            go_upto_region 11 with fail
            refine wp_region_grow_tail 10 Tryd.mixed (by kernel_rfl) ?_
            simp only [List.take_succ_cons, List.take_zero, List.drop_succ_cons, List.drop_zero]
            repeat (quiet_step (first | (go_at_call 39; exact grow_of (turned_e K T _ oK hT)) | (go_at_call 38; exact grow_of (sum_e S T D _ (hFr.out.below (Grew.h _)) oS oT hD2))))
            refine wpQuiet_nil ?_
            intro _ hw'
            obtain ⟨x, rfl⟩ := hw'
            have hr2 := hr.out.below x.h
            have ho2 := ho.out.below x.h
            have ho2' := Lib.hid ho2
            have hB2 := Lib.hid (below_seq hB.out x.h)
            clear l1 l2 r0 r1 r2 g1 g2 m1 m2 m3 m4 o0' o1' o2' of0 of1 of2 ol
            obtain ⟨o0', o1', o2', of0, of1, of2, ol⟩ := ho2
            go_wp2
            go_roundw
            case rel => exact ⟨n + 1, by omega, by omega, by go_num, hr2.set3o (by omega) _ _ _, by rw [hD.out]; exact ho2'.out.set3 _, set3_below hB2.out (by omega)⟩
            case measure => simp [intOf]; omega
        · have hnk2 : n = kk := by
            by_cases e : n = kk
            · exact e
            · have := hgd.out (by omega); simp at this
          obtain ⟨e1, -⟩ := hbn.out hnk2
          have hR := hRn.out hnk2
          obtain rfl : E = 6 := by rw [if_pos rfl] at e1; exact e1.symm
          clear hgd hbn hRn hnk2 e1 hNs hsn hst
          obtain ⟨k0, k1, k2, kf0, kf1, kf2, kl⟩ := hr.out
          go_wp2
          have k := set3_cell (w := wr) (x := .int .i64 0) (y := .int .i64 0) (z := .bool false) k0 k1 k2
          refine bodyPost_ret (v := .tuple #[spV ⟨0, 0, false⟩, .iface 69 (.int .i64 6)]) (by simp [results, Tryd.results9, go_sem, k.1, k.2.1, k.2.2]) rfl ⟨by first | rfl | rw [hR], set3_below hB.out (Nat.le_refl _)⟩
    · obtain rfl : n = gl.length := by omega
      have hR := hR1.out (by omega)
      rw [List.take_of_length_le (Nat.le_refl _)] at ho
      clear hR0 hR1 hgood hbad hNs hGs
      replace hR := Lib.hid hR
      have hc1 := Lib.hid (hck.out _ hB.out)
      clear hck
      go_wp2_with fail
      refine hc1.out.mono ?_; rintro e w1 ⟨rfl, hb1⟩
      have hB1 := Lib.hid (below_seq hB.out hb1)
      have hr1 := Lib.hid (hr.out.below hb1)
      have ho1 := Lib.hid (ho.out.below hb1)
      clear hc1 hB hr ho hb1 hcp
      rcases hR.out with ⟨k, rfl, rfl⟩ | ⟨rfl, M, rfl, rfl⟩
      · obtain ⟨k0, k1, k2, kf0, kf1, kf2, kl⟩ := hr1.out
        go_wp2
        have kk' := set3_cell (w := w1) (x := .int .i64 0) (y := .int .i64 0) (z := .bool false) k0 k1 k2
        refine bodyPost_ret (v := .tuple #[spV ⟨0, 0, false⟩, .iface 69 (.int .i64 k)]) (by simp [results, Tryd.results9, go_sem, kk'.1, kk'.2.1, kk'.2.2]) rfl ⟨rfl, set3_below hB1.out (Nat.le_refl _)⟩
      · clear hR
        rw [List.length_map] at h1 hCl
        simp only [List.length_map]
        go_wp2
        go_loopw [73] (fun i wr => ∃ n : Nat, n ≤ M.length ∧ i = .int .i64 n ∧ SpAt wr w.heap.size ⟨0, 0, false⟩ ∧ SpAt wr (w.heap.size + 1) (qS (outN N gl + (M.take n).sum)) ∧ Below w.heap.size w wr) (fun i _ => M.length - (intOf i).toNat)
        case atStart => exact ⟨0, Nat.zero_le _, rfl, hr1.out, (by rw [List.take_zero, List.sum_nil, Int.add_zero]; exact ho1.out), hB1.out⟩
        case round =>
          clear hr1 ho1 hB1
          obtain ⟨n, hn, rfl, hr, ho, hB⟩ := hrel
          have hol := ho.lt
          have hrl := hr.lt
          replace hr := Lib.hid hr
          replace ho := Lib.hid ho
          replace hB := Lib.hid hB
          by_cases hlt : n < M.length
          · obtain ⟨b1, o1, rfl, hs0⟩ := h1.out (by omega)
            have hsL := hs0.below hB.out
            have hjm : n < (M.map qS).length := by rw [List.length_map]; exact hlt
            have l1 := hsL.cx n hjm
            have l2 := hsL.cy n hjm
            have l3 := hsL.cf n hjm
            have l4 := hsL.lt
            rw [List.getElem_map] at l1 l2 l3
            have hsn1 : Hid (qS (outN N gl + (M.take (n + 1)).sum) = sSum (qS (outN N gl + (M.take n).sum)) (qS M[n])) := by
              show _ = _
              rw [qS_add, sumB_snoc M n hlt, Int.add_assoc]
            have oA := qS_ok M[n]
            have oS := qS_ok (outN N gl + (M.take n).sum)
            clear hsL hs0
            generalize qS M[n] = A at *
            generalize qS (outN N gl + (M.take n).sum) = S at *
            generalize hD : qS (outN N gl + (M.take (n + 1)).sum) = D at *
            replace hD := Lib.hid hD
            have hD2 : Hid (sSum S A = D) := Lib.hid hsn1.out.symm
            clear hsn1
            obtain ⟨o0', o1', o2', of0, of1, of2, ol⟩ := ho.out
            go_wp2_with fail
            refine (sum_e S A D _ (hF'.out.below (balloc hB.out _)) oS oA hD2).mono ?_; rintro e w2 ⟨rfl, hb2⟩
            have hr2 := (hr.out.alloc _).below hb2
            have ho2 := (ho.out.alloc _).below hb2
            have ho2' := Lib.hid ho2
            have hB2 := Lib.hid (below_seq (balloc hB.out _) hb2)
            clear l1 l2 l3 l4 o0' o1' o2' of0 of1 of2 ol hb2
            obtain ⟨o0', o1', o2', of0, of1, of2, ol⟩ := ho2
            go_wp2
            go_roundw
            case rel => exact ⟨n + 1, by omega, by go_num, hr2.set3o (by omega) _ _ _, by rw [hD.out]; exact ho2'.out.set3 _, set3_below hB2.out (by omega)⟩
            case measure => simp [intOf]; omega
          · have hne2 : n = M.length := by omega
            rw [hne2, List.take_of_length_le (Nat.le_refl _)] at ho
            obtain ⟨k0, k1, k2, kf0, kf1, kf2, kl⟩ := hr.out
            obtain ⟨o0', o1', o2', of0, of1, of2, ol⟩ := ho.out
            generalize hDe : qS (outN N gl + M.sum) = D at *
            replace hDe := Lib.hid hDe
            go_wp2
            have kk' := set3_cell (w := wr) (x := .int .i64 D.x) (y := .int .i64 D.y) (z := .bool D.far) k0 k1 k2
            refine bodyPost_ret (v := .tuple #[spV D, .nilIface]) (by simp [results, Tryd.results9, go_sem, kk'.1, kk'.2.1, kk'.2.2]) rfl ⟨by rw [hDe.out], set3_below hB.out (Nat.le_refl _)⟩
end Go.Proofs.YtebomakihdjllaaDoor
namespace Go.Proofs.YtebomakihdjllaaDoor
open Go.RowKit
set_option maxRecDepth 100000
set_option linter.unusedVariables false
set_option linter.unusedSimpArgs false
/-- The challenge's number. -/
noncomputable def bAsk (a b : Sp) : Int := hnum (lsB 2 [a, b]).data.toList
theorem bAsk_bd (a b : Sp) : 0 ≤ bAsk a b ∧ bAsk a b < 1013 := hnum_bd _
set_option maxHeartbeats 4000000 in
theorem bask_core (a b : Sp) (S : ByteArray) (R : Value) (w : World) (hz : S.size ≤ 100) (V : Value)
    (kL : Hid (∀ w1 v, Below w.heap.size w w1 → SpSl w1 v [a, b] → Calls Tryd.prog 46 #[v] w1 fun e w' => e = .returned (.tuple #[.string S, V]) ∧ Below w1.heap.size w1 w'))
    (hR : (∃ k, V = .iface 69 (.int .i64 k) ∧ R = .tuple #[.int .i64 0, V]) ∨ (V = .nilIface ∧ R = .tuple #[.int .i64 (hnum S.data.toList), .nilIface])) :
    Calls Tryd.prog 18 #[spV a, spV b] w fun e w' => e = .returned R ∧ Below w.heap.size w w' := by
  go_enter Tryd.func18, Tryd.ntmps18
  go_wp2_with fail
  have hm := SpSl.made ((w.alloc (.cells #[.int .i64 a.x, .int .i64 a.y, .bool a.far] 23)).alloc (.cells #[.int .i64 b.x, .int .i64 b.y, .bool b.far] 23)) [a, b] (w.heap.size + 1 + 1) 2 2 #[.int .i64 a.x, .int .i64 a.y, .bool a.far, .int .i64 b.x, .int .i64 b.y, .bool b.far] 23 (by simp) rfl rfl
  have hb := balloc (balloc (below_alloc w (.cells #[.int .i64 a.x, .int .i64 a.y, .bool a.far] 23)) (.cells #[.int .i64 b.x, .int .i64 b.y, .bool b.far] 23)) (.cells #[.int .i64 a.x, .int .i64 a.y, .bool a.far, .int .i64 b.x, .int .i64 b.y, .bool b.far] 23)
  refine (kL.out _ _ hb hm).mono ?_; rintro e w1 ⟨rfl, hb1⟩
  have hB1 := below_seq hb hb1
  clear hb hm hb1 kL
  rcases hR with ⟨k, rfl, rfl⟩ | ⟨rfl, rfl⟩
  · go_wp2
    go_ret2
    exact ⟨rfl, hB1⟩
  · go_wp2_with fail
    refine (hashNumber_c S _ (by omega)).mono ?_; rintro e w2 ⟨rfl, hb2⟩
    go_wp2
    go_ret2
    exact ⟨rfl, below_seq hB1 hb2⟩
theorem two_oks {a b : Sp} (oa : Ok a) (ob : Ok b) : ∀ z ∈ [a, b], Ok z := fun z h => by
  simp only [List.mem_cons, List.not_mem_nil, or_false] at h
  rcases h with rfl | rfl
  · exact oa
  · exact ob
theorem bask_y (a b : Sp) (c : Int) (w : World) (hF : FarAt w) (oa : Ok a) (ob : Ok b) (hc : Hid (bAsk a b = c)) : Calls Tryd.prog 18 #[spV a, spV b] w fun e w' => e = .returned (.tuple #[.int .i64 c, .nilIface]) ∧ Below w.heap.size w w' := by
  rw [← hc.out]
  exact bask_core a b (lsB 2 [a, b]) _ w (Nat.le_trans (lsB_size 2 [a, b]) (by simp)) .nilIface (Lib.hid fun w1 v hb hv => list_sl [a, b] v w1 (hF.below hb) (by simp) hv (two_oks oa ob)) (.inr ⟨rfl, rfl⟩)
theorem bask_n1 (a b : Sp) (E : Int) (w : World) (hF : FarAt w) (ha : Hid (sCheck a = E)) (h0 : E ≠ 0) : Calls Tryd.prog 18 #[spV a, spV b] w fun e w' => e = .returned (.tuple #[.int .i64 0, .iface 69 (.int .i64 E)]) ∧ Below w.heap.size w w' := by
  refine bask_core a b ⟨#[]⟩ _ w (by decide) (.iface 69 (.int .i64 E)) (Lib.hid fun w1 v hb hv => ?_) (.inl ⟨E, rfl, rfl⟩)
  obtain ⟨av, cv, rfl, h⟩ := hv
  obtain ⟨bb, o, rfl, hs⟩ := h (by simp)
  exact list_v [a, b] bb o cv w1 (hF.below hb) (by simp) hs 0 (by simp) E (Lib.hid fun i _ h => absurd h (Nat.not_lt_zero _)) ha h0
theorem bask_n2 (a b : Sp) (E : Int) (w : World) (hF : FarAt w) (oa : Ok a) (ha : Hid (sCheck b = E)) (h0 : E ≠ 0) : Calls Tryd.prog 18 #[spV a, spV b] w fun e w' => e = .returned (.tuple #[.int .i64 0, .iface 69 (.int .i64 E)]) ∧ Below w.heap.size w w' := by
  refine bask_core a b ⟨#[]⟩ _ w (by decide) (.iface 69 (.int .i64 E)) (Lib.hid fun w1 v hb hv => ?_) (.inl ⟨E, rfl, rfl⟩)
  obtain ⟨av, cv, rfl, h⟩ := hv
  obtain ⟨bb, o, rfl, hs⟩ := h (by simp)
  exact list_v [a, b] bb o cv w1 (hF.below hb) (by simp) hs 1 (by simp) E (Lib.hid fun i _ h => (by obtain rfl : i = 0 := (by omega); exact oa)) ha h0
set_option maxHeartbeats 4000000 in
theorem bclose_y (r k : Int) (e P : Sp) (c S : Int) (w : World) (hF : FarAt w) (r0 : 0 ≤ r) (r1 : r < 1013) (k0 : 1 ≤ k) (k1 : k < 1013) (oe : Ok e) (hP : Hid (sq (4 * hJ * k) = P)) (hc : Hid (bAsk P e = c)) (hS : (k + c * r) % 1013 = S) :
    Calls Tryd.prog 10 #[.int .i64 r, .int .i64 k, spV e] w fun e w' => e = .returned (.tuple #[slV P S, .nilIface]) ∧ Below w.heap.size w w' := by
  have oP : Ok P := by rw [← hP.out]; exact sq_ok _
  have hcb := bAsk_bd P e
  rw [hc.out] at hcb
  have hm0 : 0 ≤ c * r := Int.mul_nonneg hcb.1 r0
  have hm1 : c * r ≤ 1012 * 1012 := Int.mul_le_mul (by omega) (by omega) r0 (by omega)
  have e1 : IntKind.i64.wrap (c * r) = c * r := by rw [IntKind.wrap_i64]; omega
  have e2 : IntKind.i64.wrap (k + c * r) = k + c * r := by rw [IntKind.wrap_i64]; omega
  have e3 : (k + c * r).tmod 1013 = S := by rw [Int.tmod_eq_emod_of_nonneg (by omega)]; exact hS
  clear hm0 hm1 hS
  go_enter Tryd.func10, Tryd.ntmps10
  go_wp2_with fail
  refine (rest_y r _ r0 r1).mono ?_; rintro e' w' ⟨rfl, rfl⟩
  go_wp2_with fail
  refine (secret_y k _ k0 k1).mono ?_; rintro e' w' ⟨rfl, rfl⟩
  go_wp2_with fail
  refine (second_c _ (hF.below (by repeat (first | exact Below.refl _ _ | refine balloc ?_ _ | refine Below.drew ?_ | refine below_drewN ?_ _ | refine below_set ?_ (by first | omega | (dsimp only; omega)) _)))).mono ?_; rintro e w1 ⟨rfl, hb⟩
  obtain ⟨hc1, hf1⟩ := bcell hb
  have z1 := hb.size
  try simp only [World.size_alloc, World.size_setCell, World.size_drew] at z1
  have s1_0 : w.heap.size < w1.heap.size := by omega
  have s1_1 : w.heap.size + 1 < w1.heap.size := by omega
  have hB1 : Below w.heap.size w w1 := below_seq (by repeat (first | exact Below.refl _ _ | refine balloc ?_ _ | refine Below.drew ?_ | refine below_drewN ?_ _ | refine below_set ?_ (by first | omega | (dsimp only; omega)) _)) hb
  clear hb
  have m1_0_0 : w1.cell? ⟨w.heap.size, 0, none⟩ = some (.int .i64 e.x) := by go_simp
  have m1_0_1 : w1.cell? ⟨w.heap.size, 1, none⟩ = some (.int .i64 e.y) := by go_simp
  have m1_0_2 : w1.cell? ⟨w.heap.size, 2, none⟩ = some (.bool e.far) := by go_simp
  go_wp2_with fail
  refine (of_e (sq (4 * hJ)) P (4 * hJ) k _ (hF.below (by repeat (first | exact hB1 | exact Below.refl _ _ | refine balloc ?_ _ | refine Below.drew ?_ | refine below_drewN ?_ _ | refine below_set ?_ (by first | omega | (dsimp only; omega)) _))) (Lib.hid rfl) hP).mono ?_; rintro e w2 ⟨rfl, hb⟩
  obtain ⟨hc2, hf2⟩ := bcell hb
  have z2 := hb.size
  try simp only [World.size_alloc, World.size_setCell, World.size_drew] at z2
  have s2_0 : w.heap.size < w2.heap.size := by omega
  have s2_1 : w.heap.size + 1 < w2.heap.size := by omega
  have hB2 : Below w.heap.size w w2 := below_seq (by repeat (first | exact hB1 | exact Below.refl _ _ | refine balloc ?_ _ | refine Below.drew ?_ | refine below_drewN ?_ _ | refine below_set ?_ (by first | omega | (dsimp only; omega)) _)) hb
  clear hb
  have m2_0_0 : w2.cell? ⟨w.heap.size, 0, none⟩ = some (.int .i64 e.x) := by go_simp
  have m2_0_1 : w2.cell? ⟨w.heap.size, 1, none⟩ = some (.int .i64 e.y) := by go_simp
  have m2_0_2 : w2.cell? ⟨w.heap.size, 2, none⟩ = some (.bool e.far) := by go_simp
  clear m1_0_0 m1_0_1 m1_0_2
  go_wp2_with fail
  refine (bask_y P e c _ (hF.below (by repeat (first | exact hB2 | exact Below.refl _ _ | refine balloc ?_ _ | refine Below.drew ?_ | refine below_drewN ?_ _ | refine below_set ?_ (by first | omega | (dsimp only; omega)) _))) oP oe hc).mono ?_; rintro e w3 ⟨rfl, hb⟩
  obtain ⟨hc3, hf3⟩ := bcell hb
  have z3 := hb.size
  try simp only [World.size_alloc, World.size_setCell, World.size_drew] at z3
  have s3_0 : w.heap.size < w3.heap.size := by omega
  have s3_1 : w.heap.size + 1 < w3.heap.size := by omega
  have s3_2 : w2.heap.size < w3.heap.size := by omega
  have hB3 : Below w.heap.size w w3 := below_seq (by repeat (first | exact hB2 | exact Below.refl _ _ | refine balloc ?_ _ | refine Below.drew ?_ | refine below_drewN ?_ _ | refine below_set ?_ (by first | omega | (dsimp only; omega)) _)) hb
  clear hb
  have m3_0_0 : w3.cell? ⟨w.heap.size, 0, none⟩ = some (.int .i64 e.x) := by go_simp
  have m3_0_1 : w3.cell? ⟨w.heap.size, 1, none⟩ = some (.int .i64 e.y) := by go_simp
  have m3_0_2 : w3.cell? ⟨w.heap.size, 2, none⟩ = some (.bool e.far) := by go_simp
  clear m2_0_0 m2_0_1 m2_0_2
  have r0 : w3.cell? ⟨w.heap.size + 1, 0, none⟩ = some (.int .i64 0) := by go_simp
  have r1 : w3.cell? ⟨w.heap.size + 1, 1, none⟩ = some (.int .i64 0) := by go_simp
  have r2 : w3.cell? ⟨w.heap.size + 1, 2, none⟩ = some (.bool false) := by go_simp
  have r3 : w3.cell? ⟨w.heap.size + 1, 3, none⟩ = some (.int .i64 0) := by go_simp
  go_wp2
  have k := set4_cell (w := w3) (x := .int .i64 P.x) (y := .int .i64 P.y) (z := .bool P.far) (p := .int .i64 S) r0 r1 r2 r3
  refine bodyPost_ret (v := .tuple #[slV P S, .nilIface]) (by simp [results, Tryd.results10, go_sem, k.1, k.2.1, k.2.2.1, k.2.2.2]) rfl ⟨rfl, set4_below (by repeat (first | exact hB3 | exact Below.refl _ _ | refine balloc ?_ _ | refine Below.drew ?_ | refine below_drewN ?_ _ | refine below_set ?_ (by first | omega | (dsimp only; omega)) _)) (by omega)⟩
set_option maxHeartbeats 1000000 in
theorem bclose_n1 (r k : Int) (e : Sp) (w : World) (h : ¬ (0 ≤ r ∧ r < 1013)) :
    Calls Tryd.prog 10 #[.int .i64 r, .int .i64 k, spV e] w fun e w' => e = .returned (.tuple #[slV ⟨0, 0, false⟩ 0, .iface 69 (.int .i64 1)]) ∧ Below w.heap.size w w' := by
  go_enter Tryd.func10, Tryd.ntmps10
  go_wp2_with fail
  refine (rest_n r _ h).mono ?_; rintro e' w' ⟨rfl, rfl⟩
  go_wp2
  refine bodyPost_ret (v := .tuple #[slV ⟨0, 0, false⟩ 0, .iface 69 (.int .i64 1)]) (by simp [results, Tryd.results10, go_sem]) rfl ⟨rfl, (by repeat (first | exact Below.refl _ _ | refine balloc ?_ _ | refine Below.drew ?_ | refine below_drewN ?_ _ | refine below_set ?_ (by first | omega | (dsimp only; omega)) _))⟩
set_option maxHeartbeats 1000000 in
theorem bclose_n2 (r k : Int) (e : Sp) (w : World) (r0 : 0 ≤ r) (r1 : r < 1013) (h : ¬ (1 ≤ k ∧ k < 1013)) :
    Calls Tryd.prog 10 #[.int .i64 r, .int .i64 k, spV e] w fun e w' => e = .returned (.tuple #[slV ⟨0, 0, false⟩ 0, .iface 69 (.int .i64 1)]) ∧ Below w.heap.size w w' := by
  go_enter Tryd.func10, Tryd.ntmps10
  go_wp2_with fail
  refine (rest_y r _ r0 r1).mono ?_; rintro e' w' ⟨rfl, rfl⟩
  go_wp2_with fail
  refine (secret_n k _ h).mono ?_; rintro e' w' ⟨rfl, rfl⟩
  go_wp2
  refine bodyPost_ret (v := .tuple #[slV ⟨0, 0, false⟩ 0, .iface 69 (.int .i64 1)]) (by simp [results, Tryd.results10, go_sem]) rfl ⟨rfl, (by repeat (first | exact Below.refl _ _ | refine balloc ?_ _ | refine Below.drew ?_ | refine below_drewN ?_ _ | refine below_set ?_ (by first | omega | (dsimp only; omega)) _))⟩
theorem bclose_n (r k : Int) (e : Sp) (w : World) (h : ¬ (0 ≤ r ∧ r < 1013 ∧ 1 ≤ k ∧ k < 1013)) :
    Calls Tryd.prog 10 #[.int .i64 r, .int .i64 k, spV e] w fun e w' => e = .returned (.tuple #[slV ⟨0, 0, false⟩ 0, .iface 69 (.int .i64 1)]) ∧ Below w.heap.size w w' := by
  by_cases hr : 0 ≤ r ∧ r < 1013
  · exact bclose_n2 r k e w hr.1 hr.2 (fun hk => h ⟨hr.1, hr.2, hk.1, hk.2⟩)
  · exact bclose_n1 r k e w hr
set_option maxHeartbeats 4000000 in
theorem bclose_v (r k : Int) (e P : Sp) (E : Int) (w : World) (hF : FarAt w) (r0 : 0 ≤ r) (r1 : r < 1013) (k0 : 1 ≤ k) (k1 : k < 1013) (he : Hid (sCheck e = E)) (hE : E ≠ 0) (hP : Hid (sq (4 * hJ * k) = P)) :
    Calls Tryd.prog 10 #[.int .i64 r, .int .i64 k, spV e] w fun e w' => e = .returned (.tuple #[slV ⟨0, 0, false⟩ 0, .iface 69 (.int .i64 E)]) ∧ Below w.heap.size w w' := by
  have oP : Ok P := by rw [← hP.out]; exact sq_ok _
  go_enter Tryd.func10, Tryd.ntmps10
  go_wp2_with fail
  refine (rest_y r _ r0 r1).mono ?_; rintro e' w' ⟨rfl, rfl⟩
  go_wp2_with fail
  refine (secret_y k _ k0 k1).mono ?_; rintro e' w' ⟨rfl, rfl⟩
  go_wp2_with fail
  refine (second_c _ (hF.below (by repeat (first | exact Below.refl _ _ | refine balloc ?_ _ | refine Below.drew ?_ | refine below_drewN ?_ _ | refine below_set ?_ (by first | omega | (dsimp only; omega)) _)))).mono ?_; rintro e w1 ⟨rfl, hb⟩
  obtain ⟨hc1, hf1⟩ := bcell hb
  have z1 := hb.size
  try simp only [World.size_alloc, World.size_setCell, World.size_drew] at z1
  have s1_0 : w.heap.size < w1.heap.size := by omega
  have s1_1 : w.heap.size + 1 < w1.heap.size := by omega
  have hB1 : Below w.heap.size w w1 := below_seq (by repeat (first | exact Below.refl _ _ | refine balloc ?_ _ | refine Below.drew ?_ | refine below_drewN ?_ _ | refine below_set ?_ (by first | omega | (dsimp only; omega)) _)) hb
  clear hb
  have m1_0_0 : w1.cell? ⟨w.heap.size, 0, none⟩ = some (.int .i64 e.x) := by go_simp
  have m1_0_1 : w1.cell? ⟨w.heap.size, 1, none⟩ = some (.int .i64 e.y) := by go_simp
  have m1_0_2 : w1.cell? ⟨w.heap.size, 2, none⟩ = some (.bool e.far) := by go_simp
  go_wp2_with fail
  refine (of_e (sq (4 * hJ)) P (4 * hJ) k _ (hF.below (by repeat (first | exact hB1 | exact Below.refl _ _ | refine balloc ?_ _ | refine Below.drew ?_ | refine below_drewN ?_ _ | refine below_set ?_ (by first | omega | (dsimp only; omega)) _))) (Lib.hid rfl) hP).mono ?_; rintro e w2 ⟨rfl, hb⟩
  obtain ⟨hc2, hf2⟩ := bcell hb
  have z2 := hb.size
  try simp only [World.size_alloc, World.size_setCell, World.size_drew] at z2
  have s2_0 : w.heap.size < w2.heap.size := by omega
  have s2_1 : w.heap.size + 1 < w2.heap.size := by omega
  have hB2 : Below w.heap.size w w2 := below_seq (by repeat (first | exact hB1 | exact Below.refl _ _ | refine balloc ?_ _ | refine Below.drew ?_ | refine below_drewN ?_ _ | refine below_set ?_ (by first | omega | (dsimp only; omega)) _)) hb
  clear hb
  have m2_0_0 : w2.cell? ⟨w.heap.size, 0, none⟩ = some (.int .i64 e.x) := by go_simp
  have m2_0_1 : w2.cell? ⟨w.heap.size, 1, none⟩ = some (.int .i64 e.y) := by go_simp
  have m2_0_2 : w2.cell? ⟨w.heap.size, 2, none⟩ = some (.bool e.far) := by go_simp
  clear m1_0_0 m1_0_1 m1_0_2
  go_wp2_with fail
  refine (bask_n2 P e E _ (hF.below (by repeat (first | exact hB2 | exact Below.refl _ _ | refine balloc ?_ _ | refine Below.drew ?_ | refine below_drewN ?_ _ | refine below_set ?_ (by first | omega | (dsimp only; omega)) _))) oP he hE).mono ?_; rintro e w3 ⟨rfl, hb⟩
  obtain ⟨hc3, hf3⟩ := bcell hb
  have z3 := hb.size
  try simp only [World.size_alloc, World.size_setCell, World.size_drew] at z3
  have s3_0 : w.heap.size < w3.heap.size := by omega
  have s3_1 : w.heap.size + 1 < w3.heap.size := by omega
  have s3_2 : w2.heap.size < w3.heap.size := by omega
  have hB3 : Below w.heap.size w w3 := below_seq (by repeat (first | exact hB2 | exact Below.refl _ _ | refine balloc ?_ _ | refine Below.drew ?_ | refine below_drewN ?_ _ | refine below_set ?_ (by first | omega | (dsimp only; omega)) _)) hb
  clear hb
  have m3_0_0 : w3.cell? ⟨w.heap.size, 0, none⟩ = some (.int .i64 e.x) := by go_simp
  have m3_0_1 : w3.cell? ⟨w.heap.size, 1, none⟩ = some (.int .i64 e.y) := by go_simp
  have m3_0_2 : w3.cell? ⟨w.heap.size, 2, none⟩ = some (.bool e.far) := by go_simp
  clear m2_0_0 m2_0_1 m2_0_2
  have r0 : w3.cell? ⟨w.heap.size + 1, 0, none⟩ = some (.int .i64 0) := by go_simp
  have r1 : w3.cell? ⟨w.heap.size + 1, 1, none⟩ = some (.int .i64 0) := by go_simp
  have r2 : w3.cell? ⟨w.heap.size + 1, 2, none⟩ = some (.bool false) := by go_simp
  have r3 : w3.cell? ⟨w.heap.size + 1, 3, none⟩ = some (.int .i64 0) := by go_simp
  go_wp2
  have k := set4_cell (w := w3) (x := .int .i64 0) (y := .int .i64 0) (z := .bool false) (p := .int .i64 0) r0 r1 r2 r3
  refine bodyPost_ret (v := .tuple #[slV ⟨0, 0, false⟩ 0, .iface 69 (.int .i64 E)]) (by simp [results, Tryd.results10, go_sem, k.1, k.2.1, k.2.2.1, k.2.2.2]) rfl ⟨rfl, set4_below (by repeat (first | exact hB3 | exact Below.refl _ _ | refine balloc ?_ _ | refine Below.drew ?_ | refine below_drewN ?_ _ | refine below_set ?_ (by first | omega | (dsimp only; omega)) _)) (by omega)⟩
end Go.Proofs.YtebomakihdjllaaDoor
namespace Go.Proofs.YtebomakihdjllaaDoor
open Go.RowKit
set_option maxRecDepth 100000
set_option linter.unusedVariables false
set_option linter.unusedSimpArgs false
/-- A deal. -/
abbrev dlV (g n : Value) (r : Sp) (s : Int) : Value := .agg #[g, n, .int .i64 r.x, .int .i64 r.y, .bool r.far, .int .i64 s]
set_option maxHeartbeats 16000000 in
/-- Why a deal is refused. -/
theorem bdo_n (N : List Int) (G : List Bool) (B p : Nat) (a0 a1 : Option Addr) (n m c0 c1 : Nat) (RS : Sp) (s : Int) (X : Sp) (x E : Int) (RX : Value) (w : World) (hF : FarAt w) (hBk : BkAt w B p N G) (hNl : N.length ≤ 1000000) (hm : m ≤ 1000000) (hX : Hid (X = sq (4 * x)))
    (hEx : Hid (∀ w1 : World, Below w.heap.size w w1 → Calls Tryd.prog 9 #[.pointer (some ⟨p, 0, none⟩), .slice a0 n c0, .slice a1 m c1] w1 fun e w' => e = .returned RX ∧ Below w1.heap.size w1 w'))
    (hR : Hid (RX = .tuple #[spV ⟨0, 0, false⟩, .iface 69 (.int .i64 E)] ∨ (RX = .tuple #[spV X, .nilIface] ∧ ((1000 < N.length + m ∧ E = 4) ∨ (N.length + m ≤ 1000 ∧ ((¬ (0 ≤ s ∧ s < 1013) ∧ E = 1) ∨ ((0 ≤ s ∧ s < 1013) ∧ ((sCheck RS = E ∧ E ≠ 0) ∨ (Ok RS ∧ E = 8 ∧ Sp.beq (sq (4 * hJ * s)) (sSum RS (sq (4 * x * bAsk RS X))) = false))))))))) :
    Calls Tryd.prog 12 #[.pointer (some ⟨p, 0, none⟩), dlV (.slice a0 n c0) (.slice a1 m c1) RS s] w fun e w' => e = .returned (.iface 69 (.int .i64 E)) ∧ Below w.heap.size w w' := by
  obtain ⟨vc, vg, hBk⟩ := hBk
  obtain ⟨ac, cc, rfl⟩ := own_slB hBk.rc
  have p0 := hBk.c0
  have hp := hBk.lt
  have hcp := Lib.hid (fun (w' : World) (hb : Below w.heap.size w w') => (⟨((bcell hb).1 _ 0 hp).trans p0, Nat.lt_of_lt_of_le hp hb.size⟩ : w'.cell? ⟨p, 0, none⟩ = some (.slice ac N.length cc) ∧ p < w'.heap.size))
  have hF' := Lib.hid hF
  clear hBk p0 hF
  go_enter Tryd.func12, Tryd.ntmps12
  go_wp2_with fail
  have hb0 := Lib.hid (below_alloc w (.cells #[.slice a0 n c0, .slice a1 m c1, .int .i64 RS.x, .int .i64 RS.y, .bool RS.far, .int .i64 s] 42))
  refine (hEx.out _ hb0.out).mono ?_; rintro e w1 ⟨rfl, hb1⟩
  have hB1 := Lib.hid (below_seq hb0.out hb1)
  obtain ⟨hcc, -⟩ := bcell hb1
  have e0 : w1.cell? ⟨w.heap.size, 0, none⟩ = some (.slice a0 n c0) := by rw [hcc _ _ (by simp)]; go_simp
  have e1 : w1.cell? ⟨w.heap.size, 1, none⟩ = some (.slice a1 m c1) := by rw [hcc _ _ (by simp)]; go_simp
  have e2 : w1.cell? ⟨w.heap.size, 2, none⟩ = some (.int .i64 RS.x) := by rw [hcc _ _ (by simp)]; go_simp
  have e3 : w1.cell? ⟨w.heap.size, 3, none⟩ = some (.int .i64 RS.y) := by rw [hcc _ _ (by simp)]; go_simp
  have e4 : w1.cell? ⟨w.heap.size, 4, none⟩ = some (.bool RS.far) := by rw [hcc _ _ (by simp)]; go_simp
  have e5 : w1.cell? ⟨w.heap.size, 5, none⟩ = some (.int .i64 s) := by rw [hcc _ _ (by simp)]; go_simp
  have el : w.heap.size < w1.heap.size := by have := hb1.size; simp at this; omega
  have hd := Lib.hid (fun (w' : World) (hb : Below w1.heap.size w1 w') => (⟨((bcell hb).1 _ 0 el).trans e0, ((bcell hb).1 _ 1 el).trans e1, ((bcell hb).1 _ 2 el).trans e2, ((bcell hb).1 _ 3 el).trans e3, ((bcell hb).1 _ 4 el).trans e4, ((bcell hb).1 _ 5 el).trans e5, Nat.lt_of_lt_of_le el hb.size⟩ : w'.cell? ⟨w.heap.size, 0, none⟩ = some (.slice a0 n c0) ∧ w'.cell? ⟨w.heap.size, 1, none⟩ = some (.slice a1 m c1) ∧ w'.cell? ⟨w.heap.size, 2, none⟩ = some (.int .i64 RS.x) ∧ w'.cell? ⟨w.heap.size, 3, none⟩ = some (.int .i64 RS.y) ∧ w'.cell? ⟨w.heap.size, 4, none⟩ = some (.bool RS.far) ∧ w'.cell? ⟨w.heap.size, 5, none⟩ = some (.int .i64 s) ∧ w.heap.size < w'.heap.size))
  obtain ⟨r0, r1⟩ := hcp.out _ hB1.out
  clear hcc hb1 hb0 hEx
  rcases hR.out with rfl | ⟨rfl, h⟩
  · go_wp2
    go_ret
    exact ⟨rfl, balloc hB1.out _⟩
  have hB2 := Lib.hid (balloc hB1.out (.cells #[.int .i64 X.x, .int .i64 X.y, .bool X.far] 23))
  have hX2 := Lib.hid (SpAt.fresh w1 X.x X.y X.far 23)
  have hbX := Lib.hid (below_alloc w1 (.cells #[.int .i64 X.x, .int .i64 X.y, .bool X.far] 23))
  clear hR
  rcases h with ⟨h1, rfl⟩ | ⟨h1, h⟩
  · have d1 : decide ((1000 : Int) < (N.length : Int) + (m : Int)) = true := decide_eq_true (by omega)
    go_upto_region 4 with fail
    generalize w1.alloc (.cells #[.int .i64 X.x, .int .i64 X.y, .bool X.far] 23) = w2 at *
    clear r0 r1
    obtain ⟨r0, r1⟩ := hcp.out _ hB2.out
    clear e0 e1 e2 e3 e4 e5 el
    obtain ⟨e0, e1, e2, e3, e4, e5, el⟩ := hd.out _ hbX.out
    go_quiet (fail)
    go_wp2
    go_ret
    exact ⟨rfl, below_drewN hB2.out _⟩
  · have d1 : decide ((1000 : Int) < (N.length : Int) + (m : Int)) = false := decide_eq_false (by omega)
    go_upto_region 4 with fail
    generalize w1.alloc (.cells #[.int .i64 X.x, .int .i64 X.y, .bool X.far] 23) = w2 at *
    clear r0 r1
    obtain ⟨r0, r1⟩ := hcp.out _ hB2.out
    clear e0 e1 e2 e3 e4 e5 el
    obtain ⟨e0, e1, e2, e3, e4, e5, el⟩ := hd.out _ hbX.out
    go_quiet (fail)
    have hbq := below_drewN (Below.refl w2.heap.size w2) nq
    have hB3 := Lib.hid (below_seq hB2.out hbq)
    have hX3 := Lib.hid (hX2.out.below hbq)
    have hbX3 := Lib.hid (below_seq hbX.out hbq)
    generalize w2.drewN nq = w3 at *
    clear r0 r1 e0 e1 e2 e3 e4 e5 el hbq hB2 hX2 hbX hcp
    obtain ⟨e0, e1, e2, e3, e4, e5, el⟩ := hd.out _ hbX3.out
    rcases h with ⟨h2, rfl⟩ | ⟨⟨s0, s1⟩, h⟩
    · go_wp2_with fail
      refine (rest_n s _ h2).mono ?_; rintro e w' ⟨rfl, rfl⟩
      go_wp2
      go_ret
      exact ⟨rfl, hB3.out⟩
    · replace h := Lib.hid h
      go_wp2_with fail
      refine (rest_y s _ s0 s1).mono ?_; rintro e w' ⟨rfl, rfl⟩
      go_wp2_with fail
      rcases h.out with ⟨hc, hE⟩ | ⟨oR, rfl, hq⟩
      · have := check_bad RS w3 (hF'.out.below hB3.out) (by rw [hc]; exact hE)
        rw [hc] at this
        refine this.mono ?_; rintro e w4 ⟨rfl, hb4⟩
        go_wp2
        go_ret
        exact ⟨rfl, below_seq hB3.out hb4⟩
      · clear h
        replace hq := Lib.hid hq
        refine (check_ok RS _ (hF'.out.below hB3.out) oR).mono ?_; rintro e w4 ⟨rfl, hb4⟩
        have hB4 := Lib.hid (below_seq hB3.out hb4)
        have hX4 := Lib.hid (hX3.out.below hb4)
        have hbX4 := Lib.hid (below_seq hbX3.out hb4)
        clear e0 e1 e2 e3 e4 e5 el hb4 hB3 hX3 hbX3
        obtain ⟨e0, e1, e2, e3, e4, e5, el⟩ := hd.out _ hbX4.out
        obtain ⟨x0, x1, x2, -, -, -, xl⟩ := hX4.out
        have oX : Ok X := by rw [hX.out]; exact sq_ok _
        obtain ⟨c, hc⟩ : ∃ c, bAsk RS X = c := ⟨_, rfl⟩
        rw [hc] at hq
        replace hc := Lib.hid hc
        go_wp2_with fail
        refine (bask_y RS X c _ (hF'.out.below hB4.out) oR oX hc).mono ?_; rintro e w5 ⟨rfl, hb5⟩
        have hB5 := Lib.hid (below_seq hB4.out hb5)
        have hX5 := Lib.hid (hX4.out.below hb5)
        have hbX5 := Lib.hid (below_seq hbX4.out hb5)
        clear e0 e1 e2 e3 e4 e5 el x0 x1 x2 xl hb5 hB4 hX4 hbX4
        obtain ⟨e0, e1, e2, e3, e4, e5, el⟩ := hd.out _ hbX5.out
        obtain ⟨x0, x1, x2, -, -, -, xl⟩ := hX5.out
        obtain ⟨P, hP⟩ : ∃ P, sq (4 * hJ * s) = P := ⟨_, rfl⟩
        obtain ⟨T, hT⟩ : ∃ T, sq (4 * x * c) = T := ⟨_, rfl⟩
        obtain ⟨D, hD⟩ : ∃ D, sSum RS T = D := ⟨_, rfl⟩
        have oT : Ok T := by rw [← hT]; exact sq_ok _
        rw [hP, hT, hD] at hq
        have hq := hq.out
        replace hP := Lib.hid hP
        replace hT := Lib.hid hT
        replace hD := Lib.hid hD
        have hF5 := Lib.hid (hF'.out.below hB5.out)
        have hX' := hX
        have cS := Lib.hid (fun (w1 : World) hF1 => second_c w1 hF1)
        obtain ⟨Z, hZ⟩ : ∃ Z, Z = sq (4 * hJ) := ⟨_, rfl⟩
        rw [← hZ] at cS
        replace hZ := Lib.hid hZ
        clear hX hd
        go_upto_region 14 with fail
        refine wp_region_grow Tryd.mixed (by kernel_rfl) ?_
        iterate 8 (quiet_step (first | (go_at_call 42; exact grow_of (cS.out _ (hF5.out.below (Grew.h _)))) | (go_at_call 41; exact grow_of (of_e Z P (4 * hJ) s _ (hF5.out.below (Grew.h _)) hZ hP))))
        repeat (quiet_step (first | (go_at_call 41; exact grow_of (of_e X T (4 * x) c _ (hF5.out.below (Grew.h _)) hX' hT)) | (go_at_call 38; exact grow_of (sum_e RS T D _ (hF5.out.below (Grew.h _)) oR oT hD))))
        refine wpQuiet_nil ?_
        intro _ hw'
        obtain ⟨y, rfl⟩ := hw'
        have hB6 := below_seq hB5.out y.h
        clear e0 e1 e2 e3 e4 e5 el x0 x1 x2 xl
        go_wp2
        go_ret
        exact ⟨rfl, hB6⟩
end Go.Proofs.YtebomakihdjllaaDoor
namespace Go.Proofs.YtebomakihdjllaaDoor
open Go.RowKit
set_option maxRecDepth 100000
set_option linter.unusedVariables false
set_option linter.unusedSimpArgs false
/-- The blocks of a book. -/
def inB (p : Nat) (vc vg : Value) (k : Nat) : Prop := k = p ∨ vc.ownBlock = some k ∨ vg.ownBlock = some k
/-- All blocks but some stay. -/
structure But (S : Nat → Prop) (w w' : World) : Prop where
  os : w'.os = w.os
  tape : w'.tape = w.tape
  output : w'.output = w.output
  size : w.heap.size ≤ w'.heap.size
  block : ∀ k, k < w.heap.size → ¬ S k → w'.heap[k]? = w.heap[k]?
theorem But.refl (S : Nat → Prop) (w : World) : But S w w := ⟨rfl, rfl, rfl, Nat.le_refl _, fun _ _ _ => rfl⟩
theorem But.trans {S : Nat → Prop} {a b c : World} (h : But S a b) (k : But S b c) : But S a c :=
  ⟨k.os.trans h.os, k.tape.trans h.tape, k.output.trans h.output, Nat.le_trans h.size k.size, fun i hi hs => (k.block i (Nat.lt_of_lt_of_le hi h.size) hs).trans (h.block i hi hs)⟩
/-- Blocks that were not there may be let out. -/
theorem But.mono {S T : Nat → Prop} {a b : World} (h : But S a b) (hs : ∀ k, k < a.heap.size → S k → T k) : But T a b :=
  ⟨h.os, h.tape, h.output, h.size, fun k hk ht => h.block k hk fun s => ht (hs k hk s)⟩
theorem But.of_below {S : Nat → Prop} {a b : World} (h : Below a.heap.size a b) : But S a b := ⟨h.os, h.tape, h.output, h.size, fun k hk _ => h.block k hk⟩
theorem But.of_grown {S : Nat → Prop} {a b : World} {r : Option Nat} (h : a.grownBy b r) (hr : ∀ k, r = some k → S k) : But S a b :=
  ⟨h.os, h.tape, h.output, h.size, fun k hk hs => h.block k hk fun e => hs (hr k e.symm)⟩
theorem But.below {S : Nat → Prop} {a b : World} {B : Nat} (h : But S a b) (hB : B ≤ a.heap.size) (hs : ∀ k, S k → B ≤ k) : Below B a b :=
  ⟨h.os, h.tape, h.output, h.size, fun k hk => h.block k (Nat.lt_of_lt_of_le hk hB) fun s => Nat.lt_irrefl _ (Nat.lt_of_lt_of_le hk (hs k s))⟩
theorem But.cell {S : Nat → Prop} {a b : World} (h : But S a b) {k : Nat} (hk : k < a.heap.size) (hs : ¬ S k) (o : Nat) : b.cell? ⟨k, o, none⟩ = a.cell? ⟨k, o, none⟩ := World.cell?_of_block (h.block k hk hs)
theorem But.setCell {S : Nat → Prop} {a : World} {p : Addr} (hp : S p.block) (u : Value) : But S a (a.setCell p u) :=
  ⟨rfl, rfl, rfl, by simp, fun k _ hk => heap_setCell_other a p k u (fun e => hk (e ▸ hp))⟩
/-- Another book stays. -/
theorem BkV.but {w w' : World} {B p : Nat} {vc vg : Value} {N : List Int} {G : List Bool} {S : Nat → Prop} (h : BkV w B p vc vg N G) (hb : But S w w') (hs : ∀ k, inB p vc vg k → ¬ S k) : BkV w' B p vc vg N G :=
  h.keep hb.size fun k hk => hb.block k (h.blk k hk).2 (hs k hk)
/-- A coin goes. -/
theorem BkV.setg {w : World} {B p : Nat} {vc : Value} {g c : Nat} {N : List Int} {G : List Bool} (h : BkV w B p vc (.slice (some ⟨g, 0, none⟩) N.length c) N G) (j : Nat) : BkV (w.setCell ⟨g, j, none⟩ (.bool true)) B p vc (.slice (some ⟨g, 0, none⟩) N.length c) N (G.set j true) := by
  obtain ⟨s1, s2⟩ := h.rg.stored j (.bool true)
  have hne : (⟨p, 0, none⟩ : Addr).block ≠ g := fun e => h.ng (by simp [Value.ownBlock]; exact e.symm)
  have hb : (w.setCell ⟨g, j, none⟩ (.bool true)).heap[p]? = w.heap[p]? := s2.block p h.lt (fun e => hne (Option.some.inj e))
  refine ⟨(World.cell?_of_block hb).trans h.c0, (World.cell?_of_block hb).trans h.c1, (World.frozen?_of_block hb).trans h.f0, (World.frozen?_of_block hb).trans h.f1, Nat.lt_of_lt_of_le h.lt s2.size, h.bp, ?_, ?_, by rw [List.length_set]; exact h.ln, h.ap, h.nc, h.ng⟩
  · refine own_keep h.rc fun k hk => s2.block k (h.rc.lt k hk).2 fun e => h.ap k hk (by simp [Value.ownBlock]; exact (Option.some.inj e).symm)
  · rw [List.map_set]; exact s1
/-- Which are gone behind a deal. -/
def goneL (G : List Bool) (l : List Int) : List Bool := l.foldl (fun G g => G.set g.toNat true) G
theorem goneL_snoc (G : List Bool) (l : List Int) (g : Int) : goneL G (l ++ [g]) = (goneL G l).set g.toNat true := by unfold goneL; rw [List.foldl_append]; rfl
theorem goneL_len (G : List Bool) (l : List Int) : (goneL G l).length = G.length := by
  induction l generalizing G with
  | nil => rfl
  | cons a l ih => show (goneL (G.set a.toNat true) l).length = _; rw [ih, List.length_set]
/-- What a deal that is done leaves: the book with its new coins; its blocks are its own elder ones or new; all others stay. -/
def Did (w w' : World) (B p : Nat) (vc vg : Value) (N' : List Int) (G' : List Bool) : Prop :=
  ∃ vc' vg', BkV w' B p vc' vg' N' G' ∧ (∀ k, inB p vc' vg' k → inB p vc vg k ∨ w.heap.size ≤ k) ∧ But (inB p vc vg) w w'
/-- The coins' row grown and stored. -/
theorem BkV.grow {w w1 : World} {B p : Nat} {vc vg v' : Value} {N M : List Int} {G : List Bool} (h : BkV w B p vc vg N G) (hB : B ≤ w.heap.size) (hr : w1.ownsRow B 23 3 v' (N.length + M.length) (spCells (N.map qS) ++ spCells (M.map qS))) (hg : w.grownBy w1 vc.ownBlock) (hl : v'.ownBlock = vc.ownBlock ∨ v'.ownBlock = some w.heap.size) :
    w1.cell? ⟨p, 0, none⟩ = some vc ∧ w1.cell? ⟨p, 1, none⟩ = some vg ∧ w1.frozen? ⟨p, 0, none⟩ = false ∧ w1.frozen? ⟨p, 1, none⟩ = false ∧ p < w1.heap.size ∧ w1.ownsRow B 4 1 vg N.length (G.map Value.bool) ∧ Ap v' vg ∧ v'.ownBlock ≠ some p := by
  have hb : w1.heap[p]? = w.heap[p]? := hg.block p h.lt (fun e => h.nc e.symm)
  obtain ⟨r1, r2⟩ := row_pair h.rg h.ap hg hl
  refine ⟨(World.cell?_of_block hb).trans h.c0, (World.cell?_of_block hb).trans h.c1, (World.frozen?_of_block hb).trans h.f0, (World.frozen?_of_block hb).trans h.f1, Nat.lt_of_lt_of_le h.lt hg.size, r1, r2, ?_⟩
  rcases hl with e | e
  · rw [e]; exact h.nc
  · rw [e]; intro e2; have := h.lt; cases e2; omega
/-- A field of the book stored: its rows stay. -/
theorem half {w : World} {B p n1 n2 : Nat} {vg V V0 : Value} {xs ys : List Value} (z0 : w.cell? ⟨p, 0, none⟩ = some V0) (z1 : w.cell? ⟨p, 1, none⟩ = some vg) (z2 : w.frozen? ⟨p, 0, none⟩ = false) (z3 : w.frozen? ⟨p, 1, none⟩ = false) (z4 : p < w.heap.size) (rg : w.ownsRow B 4 1 vg n2 ys) (rc : w.ownsRow B 23 3 V n1 xs) (hc : V.ownBlock ≠ some p) (hg : vg.ownBlock ≠ some p) :
    (w.setCell ⟨p, 0, none⟩ V).cell? ⟨p, 0, none⟩ = some V ∧ (w.setCell ⟨p, 0, none⟩ V).cell? ⟨p, 1, none⟩ = some vg ∧ (w.setCell ⟨p, 0, none⟩ V).frozen? ⟨p, 0, none⟩ = false ∧ (w.setCell ⟨p, 0, none⟩ V).frozen? ⟨p, 1, none⟩ = false ∧ (w.setCell ⟨p, 0, none⟩ V).ownsRow B 4 1 vg n2 ys ∧ (w.setCell ⟨p, 0, none⟩ V).ownsRow B 23 3 V n1 xs := by
  refine ⟨World.cell?_setCell_same _ _ _ z0, by rw [World.cell?_setCell_other (h := by simp)]; exact z1, by simpa using z2, by simpa using z3, own_keep rg fun k hk => ?_, own_keep rc fun k hk => ?_⟩
  · exact heap_setCell_other w ⟨p, 0, none⟩ k V (fun e => hg (by rw [hk]; exact congrArg some e))
  · exact heap_setCell_other w ⟨p, 0, none⟩ k V (fun e => hc (by rw [hk]; exact congrArg some e))
theorem full {w : World} {B p : Nat} {vc V V0 : Value} {N : List Int} {G : List Bool} (z0 : w.cell? ⟨p, 0, none⟩ = some vc) (z1 : w.cell? ⟨p, 1, none⟩ = some V0) (z2 : w.frozen? ⟨p, 0, none⟩ = false) (z3 : w.frozen? ⟨p, 1, none⟩ = false) (z4 : p < w.heap.size) (hB : B ≤ p) (rg : w.ownsRow B 4 1 V N.length (G.map Value.bool)) (rc : w.ownsRow B 23 3 vc N.length (spCells (N.map qS))) (ln : G.length = N.length) (ap : Ap vc V) (hc : vc.ownBlock ≠ some p) (hg : V.ownBlock ≠ some p) :
    BkV (w.setCell ⟨p, 1, none⟩ V) B p vc V N G := by
  refine ⟨by rw [World.cell?_setCell_other (h := by simp)]; exact z0, World.cell?_setCell_same _ _ _ z1, by simpa using z2, by simpa using z3, by simpa using z4, hB, own_keep rc fun k hk => ?_, own_keep rg fun k hk => ?_, ln, ap, hc, hg⟩
  · exact heap_setCell_other w ⟨p, 1, none⟩ k V (fun e => hc (by rw [hk]; exact congrArg some e))
  · exact heap_setCell_other w ⟨p, 1, none⟩ k V (fun e => hg (by rw [hk]; exact congrArg some e))
end Go.Proofs.YtebomakihdjllaaDoor
namespace Go.Proofs.YtebomakihdjllaaDoor
open Go.RowKit
set_option maxRecDepth 100000
set_option linter.unusedVariables false
set_option linter.unusedSimpArgs false
theorem SpotsAt.but {S : Nat → Prop} {w w' : World} {b o : Nat} {l : List Sp} (h : SpotsAt w b o l) (hb : But S w w') (hs : ¬ S b) : SpotsAt w' b o l :=
  ⟨Nat.lt_of_lt_of_le h.lt hb.size, fun i hi => (hb.cell h.lt hs _).trans (h.cx i hi), fun i hi => (hb.cell h.lt hs _).trans (h.cy i hi), fun i hi => (hb.cell h.lt hs _).trans (h.cf i hi)⟩
set_option maxHeartbeats 16000000 in
theorem bdo_y (N M : List Int) (G : List Bool) (B p : Nat) (vc vg : Value) (gl : List Int) (C : List Sp) (a0 a1 : Option Addr) (c0 c1 : Nat) (RS : Sp) (s : Int) (X : Sp) (x : Int) (w : World) (hF : FarAt w) (hBk : BkV w B p vc vg N G) (hB0 : B ≤ w.heap.size) (hNl : N.length ≤ 1000) (hX : Hid (X = sq (4 * x))) (hgl : gl.length ≤ 9223372036854775807)
    (h0 : 0 < gl.length → ∃ b o, a0 = some ⟨b, o, none⟩ ∧ IntsAt w b o gl ∧ ¬ inB p vc vg b) (h1 : 0 < (M.map qS).length → ∃ b o, a1 = some ⟨b, o, none⟩ ∧ SpotsAt w b o (M.map qS) ∧ ¬ inB p vc vg b) (hin : ∀ g ∈ gl, 0 ≤ g ∧ g < N.length)
    (hEx : Hid (∀ w1 : World, Below w.heap.size w w1 → Calls Tryd.prog 9 #[.pointer (some ⟨p, 0, none⟩), .slice a0 gl.length c0, .slice a1 M.length c1] w1 fun e w' => e = .returned (.tuple #[spV X, .nilIface]) ∧ Below w1.heap.size w1 w'))
    (hm : N.length + M.length ≤ 1000) (s0 : 0 ≤ s) (s1 : s < 1013) (oR : Ok RS) (hq : Hid (Sp.beq (sq (4 * hJ * s)) (sSum RS (sq (4 * x * bAsk RS X))) = true)) :
    Calls Tryd.prog 12 #[.pointer (some ⟨p, 0, none⟩), dlV (.slice a0 gl.length c0) (.slice a1 M.length c1) RS s] w fun e w' => e = .returned .nilIface ∧ Did w w' B p vc vg (N ++ M) (goneL G gl ++ List.replicate M.length false) := by
  obtain ⟨n, hn⟩ : ∃ n, gl.length = n := ⟨_, rfl⟩
  obtain ⟨m, hm'⟩ : ∃ m, M.length = m := ⟨_, rfl⟩
  rw [hn, hm'] at hEx ⊢
  rw [hm'] at hm
  replace hn := Lib.hid hn
  replace hm' := Lib.hid hm'
  obtain ⟨ac, cc, rfl⟩ := own_slB hBk.rc
  obtain ⟨ag, cg, rfl⟩ := own_slB hBk.rg
  have p0 := hBk.c0
  have hp := hBk.lt
  have hcp := Lib.hid (fun (w' : World) (hb : Below w.heap.size w w') => (⟨((bcell hb).1 _ 0 hp).trans p0, Nat.lt_of_lt_of_le hp hb.size⟩ : w'.cell? ⟨p, 0, none⟩ = some (.slice ac N.length cc) ∧ p < w'.heap.size))
  have hF' := Lib.hid hF
  replace hBk := Lib.hid hBk
  clear p0 hF
  go_enter Tryd.func12, Tryd.ntmps12
  go_wp2_with fail
  have hb0 := Lib.hid (below_alloc w (.cells #[.slice a0 n c0, .slice a1 m c1, .int .i64 RS.x, .int .i64 RS.y, .bool RS.far, .int .i64 s] 42))
  refine (hEx.out _ hb0.out).mono ?_; rintro e w1 ⟨rfl, hb1⟩
  have hB1 := Lib.hid (below_seq hb0.out hb1)
  obtain ⟨hcc, -⟩ := bcell hb1
  have e0 : w1.cell? ⟨w.heap.size, 0, none⟩ = some (.slice a0 n c0) := by rw [hcc _ _ (by simp)]; go_simp
  have e1 : w1.cell? ⟨w.heap.size, 1, none⟩ = some (.slice a1 m c1) := by rw [hcc _ _ (by simp)]; go_simp
  have e2 : w1.cell? ⟨w.heap.size, 2, none⟩ = some (.int .i64 RS.x) := by rw [hcc _ _ (by simp)]; go_simp
  have e3 : w1.cell? ⟨w.heap.size, 3, none⟩ = some (.int .i64 RS.y) := by rw [hcc _ _ (by simp)]; go_simp
  have e4 : w1.cell? ⟨w.heap.size, 4, none⟩ = some (.bool RS.far) := by rw [hcc _ _ (by simp)]; go_simp
  have e5 : w1.cell? ⟨w.heap.size, 5, none⟩ = some (.int .i64 s) := by rw [hcc _ _ (by simp)]; go_simp
  have el : w.heap.size < w1.heap.size := by have := hb1.size; simp at this; omega
  have hd := Lib.hid (fun (w' : World) (hb : Below w1.heap.size w1 w') => (⟨((bcell hb).1 _ 0 el).trans e0, ((bcell hb).1 _ 1 el).trans e1, ((bcell hb).1 _ 2 el).trans e2, ((bcell hb).1 _ 3 el).trans e3, ((bcell hb).1 _ 4 el).trans e4, ((bcell hb).1 _ 5 el).trans e5, Nat.lt_of_lt_of_le el hb.size⟩ : w'.cell? ⟨w.heap.size, 0, none⟩ = some (.slice a0 n c0) ∧ w'.cell? ⟨w.heap.size, 1, none⟩ = some (.slice a1 m c1) ∧ w'.cell? ⟨w.heap.size, 2, none⟩ = some (.int .i64 RS.x) ∧ w'.cell? ⟨w.heap.size, 3, none⟩ = some (.int .i64 RS.y) ∧ w'.cell? ⟨w.heap.size, 4, none⟩ = some (.bool RS.far) ∧ w'.cell? ⟨w.heap.size, 5, none⟩ = some (.int .i64 s) ∧ w.heap.size < w'.heap.size))
  obtain ⟨r0, r1⟩ := hcp.out _ hB1.out
  clear hcc hb1 hb0 hEx
  have hB2 := Lib.hid (balloc hB1.out (.cells #[.int .i64 X.x, .int .i64 X.y, .bool X.far] 23))
  have hX2 := Lib.hid (SpAt.fresh w1 X.x X.y X.far 23)
  have hbX := Lib.hid (below_alloc w1 (.cells #[.int .i64 X.x, .int .i64 X.y, .bool X.far] 23))
  have d1 : decide ((1000 : Int) < (N.length : Int) + (m : Int)) = false := decide_eq_false (by omega)
  go_upto_region 4 with fail
  generalize w1.alloc (.cells #[.int .i64 X.x, .int .i64 X.y, .bool X.far] 23) = w2 at *
  clear r0 r1
  obtain ⟨r0, r1⟩ := hcp.out _ hB2.out
  clear e0 e1 e2 e3 e4 e5 el
  obtain ⟨e0, e1, e2, e3, e4, e5, el⟩ := hd.out _ hbX.out
  go_quiet (fail)
  have hbq := below_drewN (Below.refl w2.heap.size w2) nq
  have hB3 := Lib.hid (below_seq hB2.out hbq)
  have hX3 := Lib.hid (hX2.out.below hbq)
  have hbX3 := Lib.hid (below_seq hbX.out hbq)
  generalize w2.drewN nq = w3 at *
  clear r0 r1 e0 e1 e2 e3 e4 e5 el hbq hB2 hX2 hbX
  obtain ⟨e0, e1, e2, e3, e4, e5, el⟩ := hd.out _ hbX3.out
  go_wp2_with fail
  refine (rest_y s _ s0 s1).mono ?_; rintro e w' ⟨rfl, rfl⟩
  go_wp2_with fail
  refine (check_ok RS _ (hF'.out.below hB3.out) oR).mono ?_; rintro e w4 ⟨rfl, hb4⟩
  have hB4 := Lib.hid (below_seq hB3.out hb4)
  have hX4 := Lib.hid (hX3.out.below hb4)
  have hbX4 := Lib.hid (below_seq hbX3.out hb4)
  clear e0 e1 e2 e3 e4 e5 el hb4 hB3 hX3 hbX3
  obtain ⟨e0, e1, e2, e3, e4, e5, el⟩ := hd.out _ hbX4.out
  obtain ⟨x0, x1, x2, -, -, -, xl⟩ := hX4.out
  have oX : Ok X := by rw [hX.out]; exact sq_ok _
  obtain ⟨c, hc⟩ : ∃ c, bAsk RS X = c := ⟨_, rfl⟩
  rw [hc] at hq
  replace hc := Lib.hid hc
  go_wp2_with fail
  refine (bask_y RS X c _ (hF'.out.below hB4.out) oR oX hc).mono ?_; rintro e w5 ⟨rfl, hb5⟩
  have hB5 := Lib.hid (below_seq hB4.out hb5)
  have hX5 := Lib.hid (hX4.out.below hb5)
  have hbX5 := Lib.hid (below_seq hbX4.out hb5)
  clear e0 e1 e2 e3 e4 e5 el x0 x1 x2 xl hb5 hB4 hX4 hbX4
  obtain ⟨e0, e1, e2, e3, e4, e5, el⟩ := hd.out _ hbX5.out
  obtain ⟨x0, x1, x2, -, -, -, xl⟩ := hX5.out
  obtain ⟨P, hP⟩ : ∃ P, sq (4 * hJ * s) = P := ⟨_, rfl⟩
  obtain ⟨T, hT⟩ : ∃ T, sq (4 * x * c) = T := ⟨_, rfl⟩
  obtain ⟨D, hD⟩ : ∃ D, sSum RS T = D := ⟨_, rfl⟩
  have oT : Ok T := by rw [← hT]; exact sq_ok _
  rw [hP, hT, hD] at hq
  have hq := hq.out
  replace hP := Lib.hid hP
  replace hT := Lib.hid hT
  replace hD := Lib.hid hD
  have hF5 := Lib.hid (hF'.out.below hB5.out)
  have hX' := hX
  have cS := Lib.hid (fun (w1 : World) hF1 => second_c w1 hF1)
  obtain ⟨Z, hZ⟩ : ∃ Z, Z = sq (4 * hJ) := ⟨_, rfl⟩
  rw [← hZ] at cS
  replace hZ := Lib.hid hZ
  clear hX
  go_upto_region 14 with fail
  refine wp_region_grow Tryd.mixed (by kernel_rfl) ?_
  iterate 8 (quiet_step (first | (go_at_call 42; exact grow_of (cS.out _ (hF5.out.below (Grew.h _)))) | (go_at_call 41; exact grow_of (of_e Z P (4 * hJ) s _ (hF5.out.below (Grew.h _)) hZ hP))))
  repeat (quiet_step (first | (go_at_call 41; exact grow_of (of_e X T (4 * x) c _ (hF5.out.below (Grew.h _)) hX' hT)) | (go_at_call 38; exact grow_of (sum_e RS T D _ (hF5.out.below (Grew.h _)) oR oT hD))))
  refine wpQuiet_nil ?_
  intro _ hw'
  obtain ⟨y, rfl⟩ := hw'
  have hB6 := below_seq hB5.out y.h
  clear e0 e1 e2 e3 e4 e5 el x0 x1 x2 xl
  have hbX6 := Lib.hid (below_seq hbX5.out y.h)
  replace hB6 := Lib.hid hB6
  generalize y.w = w6 at *
  clear hB5 hX5 hbX5 hF5
  have bk6 := Lib.hid (hBk.out.below hB6.out)
  replace h0 := Lib.hid h0
  replace h1 := Lib.hid h1
  replace hin := Lib.hid hin
  have hdn : ¬ inB p (.slice ac N.length cc) (.slice ag N.length cg) w.heap.size := fun h => Nat.lt_irrefl _ (hBk.out.blk _ h).2
  obtain ⟨e0, e1, e2, e3, e4, e5, el⟩ := hd.out _ hbX6.out
  go_wp2
  clear e2 e3 e4 e5
  go_loopw [77] (fun i wr => ∃ k : Nat, k ≤ n ∧ i = .int .i64 k ∧ BkV wr B p (.slice ac N.length cc) (.slice ag N.length cg) N (goneL G (gl.take k)) ∧ But (inB p (.slice ac N.length cc) (.slice ag N.length cg)) w6 wr) (fun i _ => n - (intOf i).toNat)
  case atStart => exact ⟨0, Nat.zero_le _, rfl, bk6.out, But.refl _ _⟩
  case round =>
    obtain ⟨k, hk, rfl, bk, hbt⟩ := hrel
    replace bk := Lib.hid bk
    replace hbt := Lib.hid hbt
    by_cases hlt : k < n
    · have hkl : k < gl.length := by rw [hn.out]; exact hlt
      obtain ⟨b0, o0, rfl, hI, hnb⟩ := h0.out (by omega)
      have hI6 := hI.below hB6.out
      have l1 := (hbt.out.cell hI6.lt hnb (o0 + k)).trans (hI6.c k hkl)
      have l2 := Nat.lt_of_lt_of_le hI6.lt hbt.out.size
      obtain ⟨g0, g1⟩ := hin.out _ (List.getElem_mem hkl)
      have hsn := Lib.hid (goneL_snoc G (gl.take k) gl[k])
      rw [← take_snocI gl k hkl] at hsn
      clear hI hI6
      generalize gl[k] = g at *
      obtain ⟨j, rfl⟩ : ∃ j : Nat, g = (j : Int) := ⟨g.toNat, by omega⟩
      have hj : j < N.length := by omega
      have hrg := bk.out.rg
      have hag : ∃ gb, ag = some ⟨gb, 0, none⟩ := by
        rcases hrg.2 with ⟨h2, h3⟩ | ⟨gb, cap, cur, h2, -⟩
        · omega
        · simp only [Value.slice.injEq] at h2; exact ⟨gb, h2.1⟩
      obtain ⟨gb, rfl⟩ := hag
      have m1 := hrg.cellAt j (by omega)
      have m2 := hrg.frozenAt j
      have m3 : gb < wr.heap.size := (hrg.lt gb rfl).2
      have hjl : j < ((goneL G (gl.take k)).map Value.bool).length := by rw [List.length_map, goneL_len]; have := hBk.out.ln; omega
      rw [List.getElem?_eq_getElem hjl] at m1
      have p1 := bk.out.c1
      have p2 := bk.out.lt
      clear hrg
      generalize ((goneL G (gl.take k)).map Value.bool)[j] = ov at *
      have hbn := Lib.hid (bk.out.setg (g := gb) (c := cg) j)
      go_wp2
      go_roundw
      case rel => exact ⟨k + 1, by omega, by go_num, by rw [hsn.out, Int.toNat_natCast]; exact hbn.out, hbt.out.trans (But.setCell (p := ⟨gb, j, none⟩) (.inr (.inr rfl)) _)⟩
      case measure => simp [intOf]; omega
    · obtain rfl : k = n := by omega
      rw [List.take_of_length_le (by have := hn.out; omega)] at bk
      have hw6 : B ≤ w6.heap.size := Nat.le_trans hB0 hB6.out.size
      have q1 := (hbt.out.cell el hdn 1).trans e1
      have q2 := Nat.lt_of_lt_of_le el hbt.out.size
      have hsp : Hid (∀ w', But (inB p (.slice ac N.length cc) (.slice ag N.length cg)) w6 w' → 0 < (M.map qS).length → ∃ b o, a1 = some ⟨b, o, none⟩ ∧ SpotsAt w' b o (M.map qS)) := Lib.hid fun w' hb h => by
        obtain ⟨b, o, e, hs, hnb⟩ := h1.out h
        exact ⟨b, o, e, (hs.below hB6.out).but hb hnb⟩
      have p0 := bk.out.c0
      have pl := bk.out.lt
      have he1 := Lib.hid e1
      have hel := Lib.hid el
      clear e0 e1 el
      have bkD := Lib.hid (bk.out.below (Below.refl wr.heap.size wr).drew)
      have hA := Lib.hid (AppRun.spots (a := a1) (c := c1) bkD.out.rc (hsp.out _ (hbt.out.trans (But.of_below (Below.refl wr.heap.size wr).drew))) (Nat.le_trans hw6 hbt.out.size) (by omega) (by rw [List.length_map]; have := hm'.out; omega))
      rw [List.length_map, hm'.out] at hA
      go_wp2_with fail
      go_region_law (refine step_app (by rfl) _ _ (by rfl) hA.out (by rfl) (by rfl) ?_; intro v' w8 hrow hgr hloc; obtain ⟨z0, z1, z2, z3, z4, z5, z6, z7⟩ := bkD.out.grow (M := M) (Nat.le_trans hw6 hbt.out.size) (by rw [hm'.out]; exact hrow) hgr hloc; obtain ⟨av, cv, rfl⟩ := own_slB hrow; replace hrow := Lib.hid hrow; replace hgr := Lib.hid hgr; replace hloc := Lib.hid hloc; replace z5 := Lib.hid z5; replace z6 := Lib.hid z6; replace z7 := Lib.hid z7)
      all_goals
        have hng : (Value.slice ag N.length cg).ownBlock ≠ some p := hBk.out.ng
        obtain ⟨y0, y1, y2, y3, y5, y6⟩ := half z0 z1 z2 z3 z4 z5.out hrow.out z7.out hng
        have hbw := Lib.hid (hbt.out.trans ((But.of_below (Below.refl wr.heap.size wr).drew).trans ((But.of_grown hgr.out (fun k hk => .inr (.inl hk))).trans (But.setCell (p := ⟨p, 0, none⟩) (.inl rfl) (.slice av (N.length + m) cv)))))
        have hz8 := hgr.out.size
        generalize w8.setCell ⟨p, 0, none⟩ (.slice av (N.length + m) cv) = w9 at *
        clear z0 z1 z2 z3 z4 z5 q1 q2 p0
        have pl9 : p < w9.heap.size := Nat.lt_of_lt_of_le (Nat.lt_of_lt_of_le hBk.out.lt hB6.out.size) hbw.out.size
        have q1 := (hbw.out.cell hel.out hdn 1).trans he1.out
        have q2 := Nat.lt_of_lt_of_le hel.out hbw.out.size
        have hA2 := Lib.hid (AppRun.zeros (w := w9.drew) m y5.drew (Nat.le_trans hw6 hbw.out.size) (by omega) (by omega))
        replace y5 := Lib.hid y5
        replace y6 := Lib.hid y6
        go_wp2_with fail
        go_region_law (refine step_app (by rfl) _ _ (by rfl) hA2.out (by rfl) (by rfl) ?_; intro v2 w10 hrow2 hgr2 hloc2; have hb10 : w10.heap[p]? = w9.drew.heap[p]? := hgr2.block p pl9 (fun e => hng e.symm); have k0 : w10.cell? ⟨p, 0, none⟩ = some (.slice av (N.length + m) cv) := (World.cell?_of_block hb10).trans y0; have k1 : w10.cell? ⟨p, 1, none⟩ = some (.slice ag N.length cg) := (World.cell?_of_block hb10).trans y1; have k2 : w10.frozen? ⟨p, 0, none⟩ = false := (World.frozen?_of_block hb10).trans y2; have k3 : w10.frozen? ⟨p, 1, none⟩ = false := (World.frozen?_of_block hb10).trans y3; have k4 : p < w10.heap.size := Nat.lt_of_lt_of_le pl9 hgr2.size; obtain ⟨av2, cv2, rfl⟩ := own_slB hrow2; replace hrow2 := Lib.hid hrow2; replace hgr2 := Lib.hid hgr2; replace hloc2 := Lib.hid hloc2)
        all_goals
          obtain ⟨i1, i2⟩ := row_pair y6.out.drew z6.out.symm hgr2.out hloc2.out
          have hzz := hgr2.out.size
          have hz9 := hbw.out.size
          have hzw := hB6.out.size
          have hng2 : (Value.slice av2 (N.length + m) cv2).ownBlock ≠ some p := by
            rcases hloc2.out with e | e
            · rw [e]; exact hng
            · rw [e]; intro e2; have : w9.drew.heap.size = p := Option.some.inj e2; have h5 : w9.drew.heap.size = w9.heap.size := rfl; omega
          have hML : (N ++ M).length = N.length + m := by rw [List.length_append, hm'.out]
          have hfin := full k0 k1 k2 k3 k4 hBk.out.bp (N := N ++ M) (G := goneL G gl ++ List.replicate m false) (by rw [hML]; exact hrow2.out) (by rw [hML, List.map_append, ← spCells_app]; exact i1) (by rw [List.length_append, goneL_len, List.length_replicate, hML, hBk.out.ln]) i2.symm z7.out hng2
          have hbu := (hbw.out.trans ((But.of_below (Below.refl w9.heap.size w9).drew).trans ((But.of_grown hgr2.out (fun k hk => .inr (.inr hk))).trans (But.setCell (p := ⟨p, 1, none⟩) (.inl rfl) (.slice av2 (N.length + m) cv2)))))
          go_wp2
          go_ret
          refine ⟨rfl, _, _, hfin, fun k' hk' => ?_, (But.of_below hB6.out).trans hbu⟩
          have hwr := hbt.out.size
          have hwd : wr.drew.heap.size = wr.heap.size := rfl
          have hwd9 : w9.drew.heap.size = w9.heap.size := rfl
          rcases hk' with hk' | hk' | hk'
          · exact .inl (.inl hk')
          · rcases hloc.out with e | e
            · rw [e] at hk'; exact .inl (.inr (.inl hk'))
            · rw [e] at hk'; have := Option.some.inj hk'; exact .inr (by omega)
          · rcases hloc2.out with e | e
            · rw [e] at hk'; exact .inl (.inr (.inr hk'))
            · rw [e] at hk'; have := Option.some.inj hk'; exact .inr (by omega)
end Go.Proofs.YtebomakihdjllaaDoor
namespace Go.Proofs.YtebomakihdjllaaDoor
open Go.RowKit
set_option maxRecDepth 100000
set_option linter.unusedVariables false
set_option linter.unusedSimpArgs false
set_option maxHeartbeats 4000000 in
theorem bcoins_c (N : List Int) (G : List Bool) (B p : Nat) (w : World) (hBk : BkAt w B p N G) (hN : N.length ≤ 1000000) :
    Calls Tryd.prog 15 #[.pointer (some ⟨p, 0, none⟩)] w fun e w' => ∃ v', e = .returned v' ∧ w'.ownsRow w.heap.size 23 3 v' N.length (spCells (N.map qS)) ∧ Below w.heap.size w w' := by
  obtain ⟨vc, vg, hBk⟩ := hBk
  obtain ⟨a, c, e, hs⟩ := hBk.sp
  have hl : (N.map qS).length = N.length := List.length_map _
  have hcl := cloneS_c (N.map qS) a c w (by omega) hs
  rw [hl] at hcl e
  subst e
  have p0 := hBk.c0
  have pl := hBk.lt
  replace hcl := Lib.hid hcl
  clear hs hBk
  go_enter Tryd.func15, Tryd.ntmps15
  go_wp2_with fail
  refine hcl.out.mono ?_; rintro e w1 ⟨v', rfl, h1, h2⟩
  go_wp2
  go_ret
  exact ⟨v', rfl, h1, h2⟩
/-- The sum of the first k that are not gone. -/
def totN (N : List Int) (G : List Bool) : Nat → Int
  | 0 => 0
  | k + 1 => totN N G k + (if G.getD k true = true then 0 else N.getD k 0)
set_option maxHeartbeats 8000000 in
theorem btotal_c (N : List Int) (G : List Bool) (B p : Nat) (w : World) (hF : FarAt w) (hBk : BkAt w B p N G) (hN : N.length ≤ 1000000) :
    Calls Tryd.prog 14 #[.pointer (some ⟨p, 0, none⟩)] w fun e w' => e = .returned (spV (qS (totN N G N.length))) ∧ Below w.heap.size w w' := by
  obtain ⟨vc, vg, hBk⟩ := hBk
  obtain ⟨ac, cc, rfl⟩ := own_slB hBk.rc
  obtain ⟨ag, cg, rfl⟩ := own_slB hBk.rg
  have hNs : 0 < N.length → ∃ b o, ac = some ⟨b, o, none⟩ ∧ SpotsAt w b o (N.map qS) := fun h => by
    obtain ⟨a, c, e, hs⟩ := hBk.sp
    simp only [Value.slice.injEq] at e
    obtain ⟨rfl, -, -⟩ := e
    exact hs (by rw [List.length_map]; exact h)
  have hGs : 0 < N.length → ∃ b o, ag = some ⟨b, o, none⟩ ∧ BolsAt w b o G := fun h => by
    obtain ⟨a, c, e, hs⟩ := hBk.bo
    simp only [Value.slice.injEq] at e
    obtain ⟨rfl, -, -⟩ := e
    exact hs (by rw [hBk.ln]; exact h)
  have hGl := hBk.ln
  have p0 := hBk.c0
  have p1 := hBk.c1
  have hp := hBk.lt
  have hcp := Lib.hid (fun (w' : World) (hb : Below w.heap.size w w') => (⟨((bcell hb).1 _ 0 hp).trans p0, ((bcell hb).1 _ 1 hp).trans p1, Nat.lt_of_lt_of_le hp hb.size⟩ : w'.cell? ⟨p, 0, none⟩ = some (.slice ac N.length cc) ∧ w'.cell? ⟨p, 1, none⟩ = some (.slice ag N.length cg) ∧ p < w'.heap.size))
  clear hBk
  replace hNs := Lib.hid hNs
  replace hGs := Lib.hid hGs
  have hF' := Lib.hid hF
  obtain ⟨q0, q1, q2, ql⟩ := hF
  go_enter Tryd.func14, Tryd.ntmps14
  go_wp2
  have t0 : SpAt ((w.alloc (.cells #[.int .i64 0, .int .i64 0, .bool false] 23)).alloc (.cells #[.int .i64 0, .int .i64 0, .bool true] 23)) w.heap.size ⟨0, 0, false⟩ := (SpAt.fresh _ _ _ _ _).alloc _
  have t1 : SpAt ((w.alloc (.cells #[.int .i64 0, .int .i64 0, .bool false] 23)).alloc (.cells #[.int .i64 0, .int .i64 0, .bool true] 23)) (w.heap.size + 1) ⟨0, 0, true⟩ := SpAt.fresh1 _ _ _ _ _ _
  have tb := balloc (below_alloc w (.cells #[.int .i64 0, .int .i64 0, .bool false] 23)) (.cells #[.int .i64 0, .int .i64 0, .bool true] 23)
  replace t0 := Lib.hid t0
  replace t1 := Lib.hid t1
  replace tb := Lib.hid tb
  clear q0 q1 q2 ql
  generalize (w.alloc (.cells #[.int .i64 0, .int .i64 0, .bool false] 23)).alloc (.cells #[.int .i64 0, .int .i64 0, .bool true] 23) = w0 at *
  clear p0 p1
  go_loopw [12] (fun i wr => ∃ n : Nat, n ≤ N.length ∧ i = .int .i64 n ∧ SpAt wr w.heap.size ⟨0, 0, false⟩ ∧ SpAt wr (w.heap.size + 1) (qS (totN N G n)) ∧ Below w.heap.size w wr) (fun i _ => N.length - (intOf i).toNat)
  case atStart => exact ⟨0, Nat.zero_le _, rfl, t0.out, (by show SpAt w0 _ (qS 0); rw [qS_zero]; exact t1.out), tb.out⟩
  case round =>
    clear t0 t1 tb
    obtain ⟨n, hn, rfl, hr, ho, hB⟩ := hrel
    have hol := ho.lt
    have hrl := hr.lt
    replace hr := Lib.hid hr
    replace ho := Lib.hid ho
    replace hB := Lib.hid hB
    by_cases hlt : n < N.length
    · obtain ⟨bc, oc, rfl, hsN⟩ := hNs.out (by omega)
      obtain ⟨bg, og, rfl, hsG⟩ := hGs.out (by omega)
      have hjm : n < (N.map qS).length := by rw [List.length_map]; exact hlt
      have hjG : n < G.length := by omega
      have l1 := (hsN.below hB.out).cx n hjm
      have l2 := (hsN.below hB.out).cy n hjm
      have l3 := (hsN.below hB.out).cf n hjm
      have l4 := (hsN.below hB.out).lt
      rw [List.getElem_map] at l1 l2 l3
      have m1 := (hsG.below hB.out).c n hjG
      have m2 := (hsG.below hB.out).lt
      obtain ⟨r0, r1, r2⟩ := hcp.out _ hB.out
      have hst : totN N G (n + 1) = totN N G n + (if G[n] = true then 0 else N[n]) := by
        show totN N G n + _ = _
        rw [List.getD_eq_getElem?_getD, List.getElem?_eq_getElem hjG, List.getD_eq_getElem?_getD, List.getElem?_eq_getElem hlt]; rfl
      have oA := qS_ok N[n]
      have oS := qS_ok (totN N G n)
      have hsum : Hid (sSum (qS (totN N G n)) (qS N[n]) = qS (totN N G n + N[n])) := Lib.hid (qS_add _ _)
      replace hst := Lib.hid hst
      clear hsN hsG hNs hGs
      generalize N[n] = a at *
      generalize G[n] = gn at *
      generalize qS a = A at *
      obtain ⟨o0', o1', o2', of0, of1, of2, ol⟩ := ho.out
      cases gn
      · obtain ⟨D, hD⟩ : ∃ D, qS (totN N G n + a) = D := ⟨_, rfl⟩
        rw [hD] at hsum
        replace hD := Lib.hid hD
        generalize qS (totN N G n) = S at *
        go_wp2_with fail
        refine (sum_e S A D _ (hF'.out.below (balloc hB.out _)) oS oA hsum).mono ?_; rintro e w2 ⟨rfl, hb2⟩
        have hr2 := (hr.out.alloc _).below hb2
        have ho2 := (ho.out.alloc _).below hb2
        have ho2' := Lib.hid ho2
        have hB2 := Lib.hid (below_seq (balloc hB.out _) hb2)
        clear l1 l2 l3 l4 m1 m2 r0 r1 r2 o0' o1' o2' of0 of1 of2 ol hb2
        obtain ⟨o0', o1', o2', of0, of1, of2, ol⟩ := ho2
        go_wp2
        go_roundw
        case rel => exact ⟨n + 1, by omega, by go_num, hr2.set3o (by omega) _ _ _, by rw [hst.out, if_neg (by simp), hD.out]; exact ho2'.out.set3 _, set3_below hB2.out (by omega)⟩
        case measure => simp [intOf]; omega
      · go_wp2
        go_roundw
        case rel => exact ⟨n + 1, by omega, by go_num, hr.out.alloc _, by rw [hst.out, if_pos rfl, Int.add_zero]; exact ho.out.alloc _, balloc hB.out _⟩
        case measure => simp [intOf]; omega
    · obtain rfl : n = N.length := by omega
      obtain ⟨k0, k1, k2, kf0, kf1, kf2, kl⟩ := hr.out
      obtain ⟨o0', o1', o2', of0, of1, of2, ol⟩ := ho.out
      generalize hDe : qS (totN N G N.length) = D at *
      replace hDe := Lib.hid hDe
      go_wp2
      have kk' := set3_cell (w := wr) (x := .int .i64 D.x) (y := .int .i64 D.y) (z := .bool D.far) k0 k1 k2
      refine bodyPost_ret (v := spV D) (by simp [results, Tryd.results14, go_sem, kk'.1, kk'.2.1, kk'.2.2]) rfl ⟨by rw [hDe.out], set3_below hB.out (Nat.le_refl _)⟩
/-- The places of the first k that are not gone. -/
def liveN (G : List Bool) : Nat → List Int
  | 0 => []
  | k + 1 => liveN G k ++ (if G.getD k true = true then [] else [(k : Int)])
theorem liveN_len (G : List Bool) : ∀ k, (liveN G k).length ≤ k
  | 0 => Nat.le_refl _
  | k + 1 => by have := liveN_len G k; unfold liveN; rw [List.length_append]; split <;> simp <;> omega
set_option maxHeartbeats 8000000 in
theorem blive_c (N : List Int) (G : List Bool) (B p : Nat) (w : World) (hBk : BkAt w B p N G) (hN : N.length ≤ 1000000) :
    Calls Tryd.prog 13 #[.pointer (some ⟨p, 0, none⟩)] w fun e w' => ∃ v', e = .returned v' ∧ w'.ownsRow w.heap.size 3 1 v' (liveN G N.length).length ((liveN G N.length).map (Value.int .i64)) ∧ Below w.heap.size w w' := by
  obtain ⟨vc, vg, hBk⟩ := hBk
  obtain ⟨ag, cg, rfl⟩ := own_slB hBk.rg
  have hGs : 0 < N.length → ∃ b o, ag = some ⟨b, o, none⟩ ∧ BolsAt w b o G := fun h => by
    obtain ⟨a, c, e, hs⟩ := hBk.bo
    simp only [Value.slice.injEq] at e
    obtain ⟨rfl, -, -⟩ := e
    exact hs (by rw [hBk.ln]; exact h)
  have hGl := hBk.ln
  have p1 := hBk.c1
  have hp := hBk.lt
  clear hBk
  replace hGs := Lib.hid hGs
  go_enter Tryd.func13, Tryd.ntmps13
  go_wp2
  clear p1
  go_loopw [3, 11] (fun v i wr => ∃ n : Nat, n ≤ N.length ∧ i = .int .i64 n ∧ wr.ownsRow w.heap.size 3 1 v (liveN G n).length ((liveN G n).map (Value.int .i64)) ∧ Below w.heap.size w wr) (fun _ i _ => N.length - (intOf i).toNat)
  case atStart => exact ⟨0, Nat.zero_le _, rfl, World.ownsRow_nil _ _ _ _, Below.refl _ _⟩
  case round =>
    obtain ⟨n, hn, rfl, hown, hB⟩ := hrel
    replace hown := Lib.hid hown
    replace hB := Lib.hid hB
    by_cases hlt : n < N.length
    · obtain ⟨bg, og, rfl, hsG⟩ := hGs.out (by omega)
      have hjG : n < G.length := by omega
      have m1 := (hsG.below hB.out).c n hjG
      have m2 := (hsG.below hB.out).lt
      have hz := hB.out.size
      have hll := liveN_len G n
      have hst : Hid (liveN G (n + 1) = liveN G n ++ (if G[n] = true then [] else [(n : Int)])) := by
        show _ = _
        show liveN G n ++ _ = _
        rw [List.getD_eq_getElem?_getD, List.getElem?_eq_getElem hjG]; rfl
      clear hsG hGs
      generalize G[n] = gn at *
      cases gn
      · rw [if_neg (by simp)] at hst
        go_wp2_with (first | (at_builtin; refine wpl_append_int rfl _ _ _ rfl (by kernel_rfl) w.heap.size _ (liveN G n) (liveN G n).length rfl (hown.out.alloc _) rfl (by omega) (by simp only [World.size_alloc]; omega) wr.heap.size (n : Int) rfl (by go_simp) ?_; intro v1 w7 hown' hgrow hbel hloc; replace hown' := Lib.hid hown'; replace hbel := Lib.hid (hbel w (balloc hB.out _)); clear hgrow hloc) | fail)
        go_wp2
        go_roundw
        case rel => exact ⟨n + 1, by omega, by go_num, by rw [hst.out, List.length_append]; exact hown'.out, hbel.out⟩
        case measure => simp [intOf]; omega
      · rw [if_pos rfl, List.append_nil] at hst
        go_wp2
        go_roundw
        case rel => exact ⟨n + 1, by omega, by go_num, by rw [hst.out]; exact hown.out, hB.out⟩
        case measure => simp [intOf]; omega
    · obtain rfl : n = N.length := by omega
      go_wp2
      go_ret
      exact ⟨_, rfl, hown.out, hB.out⟩
end Go.Proofs.YtebomakihdjllaaDoor
namespace Go.Proofs.YtebomakihdjllaaDoor
open Go.RowKit
set_option maxRecDepth 100000
set_option linter.unusedVariables false
set_option linter.unusedSimpArgs false
theorem mod_off (a b t : Int) (h : a - b = 4052 * t) : a % 4052 = b % 4052 := by omega
theorem close_nums (h k c r q1 q2 m b : Int) (e1 : k + c * b = 1013 * q1 + m) (e2 : r = 1013 * q2 + b) : 4 * h * m - (4 * h * k + 4 * (h * r) * c) = 4052 * (-(h * q1) - h * q2 * c) := by
  have e3 : m = k + c * b - 1013 * q1 := by omega
  subst e3
  subst e2
  grind
theorem close_ok (k c r x : Int) (hx : (x - hJ * r) % 1013 = 0) : Sp.beq (sq (4 * hJ * ((k + c * (r % 1013)) % 1013))) (sSum (sq (4 * hJ * k)) (sq (4 * x * c))) = true := by
  have h1 : sq (4 * x * c) = sq (4 * (hJ * r) * c) := by
    refine sq_eq_iff.mpr ?_
    obtain ⟨t, ht⟩ : ∃ t, x - hJ * r = 1013 * t := ⟨(x - hJ * r) / 1013, by omega⟩
    refine mod_off _ _ (t * c) ?_
    have : x = hJ * r + 1013 * t := by omega
    rw [this]
    grind
  rw [h1, sq_add]
  have h2 : sq (4 * hJ * ((k + c * (r % 1013)) % 1013)) = sq (4 * hJ * k + 4 * (hJ * r) * c) := by
    refine sq_eq_iff.mpr (mod_off _ _ _ (close_nums hJ k c r ((k + c * (r % 1013)) / 1013) (r / 1013) _ (r % 1013) ?_ ?_))
    · omega
    · omega
  rw [h2]
  exact Sp.beq_refl _
end Go.Proofs.YtebomakihdjllaaDoor
namespace Go.Proofs.YtebomakihdjllaaDoor
open Go.RowKit
set_option maxRecDepth 100000
set_option linter.unusedVariables false
set_option linter.unusedSimpArgs false
theorem getD_set_ne (G : List Bool) (a b : Nat) (h : a ≠ b) : (G.set a true).getD b true = G.getD b true := by
  rw [List.getD_eq_getElem?_getD, List.getD_eq_getElem?_getD, List.getElem?_set_ne h]
theorem getD_set_eq (G : List Bool) (a : Nat) : (G.set a true).getD a true = true := by
  rw [List.getD_eq_getElem?_getD]
  by_cases h : a < G.length
  · rw [List.getElem?_set_self h]; rfl
  · rw [List.getElem?_eq_none (by rw [List.length_set]; omega)]; rfl
theorem totN_set (N : List Int) (G : List Bool) (g : Nat) (hg : G.getD g true = false) : ∀ k, totN N (G.set g true) k = totN N G k - (if g < k then N.getD g 0 else 0)
  | 0 => by simp [totN]
  | k + 1 => by
    unfold totN
    rw [totN_set N G g hg k]
    by_cases e : g = k
    · subst e
      rw [getD_set_eq, hg, if_neg (Nat.lt_irrefl _), if_pos (Nat.lt_succ_self _)]
      simp
    · rw [getD_set_ne G g k e]
      by_cases h : g < k
      · rw [if_pos h, if_pos (show g < k + 1 by omega)]; omega
      · rw [if_neg h, if_neg (show ¬ g < k + 1 by omega)]; omega
theorem liveN_set (G : List Bool) (g : Nat) (hg : G.getD g true = false) : ∀ k, (liveN (G.set g true) k).length + (if g < k then 1 else 0) = (liveN G k).length
  | 0 => by simp [liveN]
  | k + 1 => by
    have ih := liveN_set G g hg k
    unfold liveN
    rw [List.length_append, List.length_append]
    by_cases e : g = k
    · subst e
      rw [getD_set_eq, hg, if_pos (Nat.lt_succ_self _)]
      rw [if_neg (Nat.lt_irrefl _)] at ih
      simp; omega
    · rw [getD_set_ne G g k e]
      by_cases h : g < k
      · rw [if_pos h] at ih; rw [if_pos (show g < k + 1 by omega)]; omega
      · rw [if_neg h] at ih; rw [if_neg (show ¬ g < k + 1 by omega)]; omega
/-- Numbers as they go. -/
def nI (ps : List Nat) : List Int := ps.map fun (p : Nat) => (p : Int)
theorem nI_len (ps : List Nat) : (nI ps).length = ps.length := List.length_map _
theorem goneL_cons (G : List Bool) (p : Nat) (ps : List Nat) : goneL G (nI (p :: ps)) = goneL (G.set p true) (nI ps) := rfl
theorem outN_cons (N : List Int) (p : Nat) (ps : List Nat) : outN N (nI (p :: ps)) = -(N.getD p 0) + outN N (nI ps) := by
  unfold outN nI; simp only [List.map_cons, List.sum_cons, Int.toNat_natCast]; omega
theorem goneL_getD (G : List Bool) : ∀ (ps : List Nat) (q : Nat), (goneL G (nI ps)).getD q true = if q ∈ ps then true else G.getD q true := by
  intro ps
  induction ps generalizing G with
  | nil => intro q; simp [goneL, nI]
  | cons p ps ih =>
    intro q
    rw [goneL_cons, ih]
    by_cases h : q ∈ ps
    · rw [if_pos h, if_pos (List.mem_cons_of_mem _ h)]
    · rw [if_neg h]
      by_cases e : q = p
      · subst e; rw [getD_set_eq, if_pos List.mem_cons_self]
      · rw [getD_set_ne G p q (fun x => e x.symm), if_neg (by simp [e, h])]
theorem totN_gone (N : List Int) (k : Nat) : ∀ (ps : List Nat) (G : List Bool), ps.Nodup → (∀ p ∈ ps, p < k ∧ G.getD p true = false) → totN N (goneL G (nI ps)) k = totN N G k + outN N (nI ps)
  | [], G, _, _ => by simp [goneL, nI, outN]
  | p :: ps, G, hn, h => by
    obtain ⟨h1, h2⟩ := List.nodup_cons.mp hn
    obtain ⟨hp, hg⟩ := h p List.mem_cons_self
    rw [goneL_cons, outN_cons, totN_gone N k ps _ h2 (fun q hq => ⟨(h q (List.mem_cons_of_mem _ hq)).1, by rw [getD_set_ne G p q (fun e => h1 (e ▸ hq))]; exact (h q (List.mem_cons_of_mem _ hq)).2⟩), totN_set N G p hg k, if_pos hp]
    omega
theorem liveN_gone (k : Nat) : ∀ (ps : List Nat) (G : List Bool), ps.Nodup → (∀ p ∈ ps, p < k ∧ G.getD p true = false) → (liveN (goneL G (nI ps)) k).length + ps.length = (liveN G k).length
  | [], G, _, _ => by simp [goneL, nI]
  | p :: ps, G, hn, h => by
    obtain ⟨h1, h2⟩ := List.nodup_cons.mp hn
    obtain ⟨hp, hg⟩ := h p List.mem_cons_self
    have := liveN_gone k ps (G.set p true) h2 (fun q hq => ⟨(h q (List.mem_cons_of_mem _ hq)).1, by rw [getD_set_ne G p q (fun e => h1 (e ▸ hq))]; exact (h q (List.mem_cons_of_mem _ hq)).2⟩)
    have h3 := liveN_set G p hg k
    rw [if_pos hp] at h3
    rw [goneL_cons, List.length_cons]
    omega
theorem getD_app_lo {α : Type} (l m : List α) (d : α) (k : Nat) (h : k < l.length) : (l ++ m).getD k d = l.getD k d := by
  rw [List.getD_eq_getElem?_getD, List.getD_eq_getElem?_getD, List.getElem?_append_left h]
theorem getD_app_hi {α : Type} (l m : List α) (d : α) (k : Nat) : (l ++ m).getD (l.length + k) d = m.getD k d := by
  rw [List.getD_eq_getElem?_getD, List.getD_eq_getElem?_getD, List.getElem?_append_right (by omega), Nat.add_sub_cancel_left]
theorem totN_lo (N M : List Int) (G H : List Bool) (hG : G.length = N.length) : ∀ k, k ≤ N.length → totN (N ++ M) (G ++ H) k = totN N G k
  | 0, _ => rfl
  | k + 1, h => by
    unfold totN
    rw [totN_lo N M G H hG k (by omega), getD_app_lo N M 0 k (by omega), getD_app_lo G H true k (by omega)]
theorem totN_hi (N M : List Int) (G : List Bool) (hG : G.length = N.length) : ∀ j, j ≤ M.length → totN (N ++ M) (G ++ List.replicate M.length false) (N.length + j) = totN N G N.length + (M.take j).sum
  | 0, _ => by simp [totN_lo N M G _ hG]
  | j + 1, h => by
    show totN _ _ (N.length + j) + (if (G ++ List.replicate M.length false).getD (N.length + j) true = true then 0 else (N ++ M).getD (N.length + j) 0) = _
    rw [totN_hi N M G hG j (by omega), getD_app_hi N M 0 j]
    have e : (G ++ List.replicate M.length false).getD (N.length + j) true = false := by
      rw [← hG, getD_app_hi, List.getD_eq_getElem?_getD, List.getElem?_replicate_of_lt (by omega)]; rfl
    rw [e, if_neg (by simp), sumB_snoc M j (by omega), List.getD_eq_getElem?_getD, List.getElem?_eq_getElem (by omega)]
    simp only [Option.getD_some]
    omega
theorem liveN_lo (G H : List Bool) : ∀ k, k ≤ G.length → liveN (G ++ H) k = liveN G k
  | 0, _ => rfl
  | k + 1, h => by unfold liveN; rw [liveN_lo G H k (by omega), getD_app_lo G H true k (by omega)]
theorem liveN_hi (G : List Bool) (m : Nat) : ∀ j, j ≤ m → (liveN (G ++ List.replicate m false) (G.length + j)).length = (liveN G G.length).length + j
  | 0, _ => by simp [liveN_lo]
  | j + 1, h => by
    have e : (G ++ List.replicate m false).getD (G.length + j) true = false := by
      rw [getD_app_hi, List.getD_eq_getElem?_getD, List.getElem?_replicate_of_lt (by omega)]; rfl
    show (liveN _ (G.length + j) ++ (if (G ++ List.replicate m false).getD (G.length + j) true = true then [] else [((G.length + j : Nat) : Int)])).length = _
    rw [List.length_append, liveN_hi G m j (by omega), e, if_neg (by simp)]
    simp; omega
/-- Behind a deal: the sum of what is live, and how many are. -/
theorem deal_tot (N M : List Int) (G : List Bool) (ps : List Nat) (hG : G.length = N.length) (hn : ps.Nodup) (h : ∀ p ∈ ps, p < N.length ∧ G.getD p true = false) :
    totN (N ++ M) (goneL G (nI ps) ++ List.replicate M.length false) (N ++ M).length = totN N G N.length + (outN N (nI ps) + M.sum) ∧ (liveN (goneL G (nI ps) ++ List.replicate M.length false) (N ++ M).length).length + ps.length = (liveN G N.length).length + M.length := by
  have hl : (goneL G (nI ps)).length = N.length := by rw [goneL_len, hG]
  rw [List.length_append]
  constructor
  · rw [totN_hi N M _ hl M.length (Nat.le_refl _), totN_gone N N.length ps G hn h, List.take_length]; omega
  · have := liveN_hi (goneL G (nI ps)) M.length M.length (Nat.le_refl _)
    rw [hl] at this
    rw [this, ← liveN_gone N.length ps G hn h]; omega
theorem getD_fresh (n p : Nat) (h : p < n) : (List.replicate n false).getD p true = false := by
  rw [List.getD_eq_getElem?_getD, List.getElem?_replicate_of_lt h]; rfl
theorem liveN_fresh (n : Nat) : ∀ k, k ≤ n → (liveN (List.replicate n false) k).length = k
  | 0, _ => rfl
  | k + 1, h => by
    show (liveN _ k ++ (if (List.replicate n false).getD k true = true then [] else [(k : Int)])).length = _
    rw [List.length_append, liveN_fresh n k (by omega), getD_fresh n k (by omega), if_neg (by simp)]; rfl
/-- When what is sealed by what is left between closes. -/
theorem close_is (k c r v : Int) (c0 : 0 ≤ c) (c1 : c < 1013) : Sp.beq (sq (4 * hJ * ((k + c * (r % 1013)) % 1013))) (sSum (sq (4 * hJ * k)) (sq (4 * (v + hJ * r) * c))) = decide (v % 1013 = 0 ∨ c = 0) := by
  rw [sq_add]
  have h2 : sq (4 * hJ * ((k + c * (r % 1013)) % 1013)) = sq (4 * hJ * k + 4 * (hJ * r) * c) := by
    refine sq_eq_iff.mpr (mod_off _ _ _ (close_nums hJ k c r ((k + c * (r % 1013)) / 1013) (r / 1013) _ (r % 1013) ?_ ?_))
    · omega
    · omega
  rw [h2]
  have e : 4 * hJ * k + 4 * (v + hJ * r) * c - (4 * hJ * k + 4 * (hJ * r) * c) = 4 * (c * v) := by grind
  have key : (sq (4 * hJ * k + 4 * (hJ * r) * c) = sq (4 * hJ * k + 4 * (v + hJ * r) * c)) ↔ (v % 1013 = 0 ∨ c = 0) := by
    rw [sq_eq_iff]
    constructor
    · intro h
      by_cases hc : c = 0
      · exact .inr hc
      · have h3 : (c * v) % 1013 = 0 := by omega
        have h4 := q_inj (h := c) (n := v) (m := 0) (by omega) c1 (by rw [Int.mul_zero]; exact h3)
        exact .inl h4
    · intro h
      have h3 : (c * v) % 1013 = 0 := by
        rcases h with h | h
        · rw [Int.mul_emod, h]; simp
        · rw [h]; simp
      omega
  by_cases h : v % 1013 = 0 ∨ c = 0
  · rw [decide_eq_true h]; exact Sp.beq_iff.mpr (key.mpr h)
  · rw [decide_eq_false h]; exact Sp.beq_ne fun e => h (key.mp e)
end Go.Proofs.YtebomakihdjllaaDoor
