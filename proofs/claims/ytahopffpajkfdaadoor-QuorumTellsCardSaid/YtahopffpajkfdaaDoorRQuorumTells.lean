/- The statement of QuorumTells: for every input the law returns true, and the arguments read as they did. (its listed variable reads as laid; the card ties it) -/
import Derived.Test.YtahopffpajkfdaaDoorMQuorumTells
import Derived.Test.YtahopffpajkfdaaDoorWb
import Derived.Test.YtahopffpajkfdaaDoorWv
import Derived.LaidEql
import Derived.Stop.Asserts
import Derived.RowKitTokens
import Derived.Laws.Entries
import Derived.Deep.DeepCutAuto
import Derived.Deep.CutBlock
import Derived.Test.YtahopffpajkfdaaDoorRows
import Derived.ProofKit
import Derived.LaidMore
import Derived.OpenShut
import Derived.MakeChecks
import Derived.Deep.Strs
import Derived.LaidHandle
import Derived.Test.YtahopffpajkfdaaDoorFr
import Derived.Test.YtahopffpajkfdaaDoorFs
import Derived.SizedLaws
import Derived.Test.YtahopffpajkfdaaDoorTie
import Derived.Test.YtahopffpajkfdaaDoorCards
import Derived.SevenTiedAt
namespace Go.Proofs.YtahopffpajkfdaaDoor
open Go.RowKit
set_option maxRecDepth 100000
set_option linter.unusedVariables false
set_option linter.unusedSimpArgs false
theorem refTurn_q (n : Int) (w : World) (h1 : 1 ≤ n) (h2 : n < 1013) : Calls Tryd.prog 73 #[.int .i64 n, .int .i64 1013] w fun e w' => (∃ v : Int, e = .returned (.int .i64 v) ∧ 0 ≤ v ∧ v < 1013 ∧ v * n % 1013 = 1) ∧ w = w' :=
  refTurn_c n 1013 w ⟨20, turn_q h1 h2⟩ (by omega) (by omega) (by omega) (by omega)
/-- Places that are right and unlike, below k. -/
def PlOk (xs : List Int) (k : Nat) : Prop := (∀ i (h : i < xs.length), i < k → 1 ≤ xs[i] ∧ xs[i] < 1013) ∧ (∀ i j (hi : i < xs.length) (hj : j < xs.length), i < j → j < k → xs[i] ≠ xs[j])
/-- The fault at place k. -/
def PlBad (xs : List Int) (k : Nat) (R : Int) : Prop := ∃ h : k < xs.length, (¬ (1 ≤ xs[k] ∧ xs[k] < 1013) ∧ R = 1) ∨ ((1 ≤ xs[k] ∧ xs[k] < 1013) ∧ (∃ (m : Nat) (hm : m < xs.length), m < k ∧ xs[m] = xs[k]) ∧ R = 7)
theorem pl_upto (xs : List Int) : ∀ n, n ≤ xs.length → PlOk xs n ∨ ∃ k R, k < n ∧ PlOk xs k ∧ PlBad xs k R
  | 0, _ => .inl ⟨fun i _ h => absurd h (Nat.not_lt_zero _), fun i j _ _ _ h => absurd h (Nat.not_lt_zero _)⟩
  | n + 1, hn => by
    rcases pl_upto xs n (by omega) with h | ⟨k, R, h1, h2, h3⟩
    · have hlt : n < xs.length := by omega
      by_cases hx : 1 ≤ xs[n] ∧ xs[n] < 1013
      · by_cases hm : ∃ (m : Nat) (hm : m < xs.length), m < n ∧ xs[m] = xs[n]
        · exact .inr ⟨n, 7, by omega, h, hlt, .inr ⟨hx, hm, rfl⟩⟩
        · refine .inl ⟨fun i hi hik => ?_, fun i j hi hj hij hjk => ?_⟩
          · by_cases e : i = n
            · subst e; exact hx
            · exact h.1 i hi (by omega)
          · by_cases e : j = n
            · subst e; exact fun e2 => hm ⟨i, hi, hij, e2⟩
            · exact h.2 i j hi hj hij (by omega)
      · exact .inr ⟨n, 1, by omega, h, hlt, .inl ⟨hx, rfl⟩⟩
    · exact .inr ⟨k, R, by omega, h2, h3⟩
/-- What is wrong with some places: four ways. -/
theorem pl_cases (xs : List Int) : 12 < xs.length ∨ xs.length = 0 ∨ (1 ≤ xs.length ∧ xs.length ≤ 12 ∧ PlOk xs xs.length) ∨ (1 ≤ xs.length ∧ xs.length ≤ 12 ∧ ∃ k R, k < xs.length ∧ PlOk xs k ∧ PlBad xs k R) := by
  by_cases h1 : 12 < xs.length
  · exact .inl h1
  · by_cases h2 : xs.length = 0
    · exact .inr (.inl h2)
    · rcases pl_upto xs xs.length (Nat.le_refl _) with h | h
      · exact .inr (.inr (.inl ⟨by omega, by omega, h⟩))
      · exact .inr (.inr (.inr ⟨by omega, by omega, h⟩))
theorem PlOk.s {xs : List Int} (h : PlOk xs xs.length) : ∀ i (h : i < xs.length), 1 ≤ xs[i] ∧ xs[i] < 1013 := fun i hi => h.1 i hi hi
theorem PlOk.d {xs : List Int} (h : PlOk xs xs.length) : ∀ i j (hi : i < xs.length) (hj : j < xs.length), i < j → xs[i] ≠ xs[j] := fun i j hi hj hij => h.2 i j hi hj hij hj
theorem rplaces_full (a : Option Addr) (l cap : Nat) (w : World) (hl : 12 < l) (hm : l ≤ 9223372036854775807) :
    Calls Tryd.prog 16 #[.slice a l cap] w fun e w' => e = .returned (.int .i64 4) ∧ Below w.heap.size w w' := by
  have hd : decide ((12 : Int) < (l : Int)) = true := by rw [decide_eq_true_iff]; omega
  go_enter Tryd.func16, Tryd.ntmps16
  go_wp2
  go_ret
  exact ⟨rfl, (by repeat (first | exact Below.refl _ _ | refine balloc ?_ _ | refine Below.drew ?_ | refine below_drewN ?_ _ | refine below_set ?_ (by first | omega | (dsimp only; omega)) _))⟩
theorem rplaces_none (a : Option Addr) (cap : Nat) (w : World) :
    Calls Tryd.prog 16 #[.slice a 0 cap] w fun e w' => e = .returned (.int .i64 5) ∧ Below w.heap.size w w' := by
  go_enter Tryd.func16, Tryd.ntmps16
  go_wp2
  go_ret
  exact ⟨rfl, (by repeat (first | exact Below.refl _ _ | refine balloc ?_ _ | refine Below.drew ?_ | refine below_drewN ?_ _ | refine below_set ?_ (by first | omega | (dsimp only; omega)) _))⟩
theorem weights_full (a : Option Addr) (l cap : Nat) (w : World) (hl : 12 < l) (hm : l ≤ 9223372036854775807) :
    Calls Tryd.prog 28 #[.slice a l cap] w fun e w' => e = .returned (.tuple #[.slice none 0 0, .iface 114 (.int .i64 4)]) ∧ Below w.heap.size w w' := by
  have hd : decide ((12 : Int) < (l : Int)) = true := by rw [decide_eq_true_iff]; omega
  go_enter Tryd.func28, Tryd.ntmps28
  go_wp2
  go_ret2
  exact ⟨rfl, Below.refl _ _⟩
theorem weights_none (a : Option Addr) (cap : Nat) (w : World) :
    Calls Tryd.prog 28 #[.slice a 0 cap] w fun e w' => e = .returned (.tuple #[.slice none 0 0, .iface 114 (.int .i64 5)]) ∧ Below w.heap.size w w' := by
  go_enter Tryd.func28, Tryd.ntmps28
  go_wp2
  go_ret2
  exact ⟨rfl, Below.refl _ _⟩
set_option maxHeartbeats 8000000 in
theorem weights_bad (xs : List Int) (v : Value) (R : Int) (k : Nat) (w : World) (h1 : 1 ≤ xs.length) (h2 : xs.length ≤ 12) (hk : k < xs.length) (hok : PlOk xs k) (hbad : PlBad xs k R) (h : IntSl w v xs) (hv : CapOk v) :
    Calls Tryd.prog 28 #[v] w fun e w' => e = .returned (.tuple #[.slice none 0 0, .iface 114 (.int .i64 R)]) ∧ Below w.heap.size w w' := by
  obtain ⟨a, cap, rfl, h⟩ := h
  have hcap := hv _ _ _ rfl
  clear hv
  obtain ⟨b, off, rfl, hI⟩ := h (by omega)
  clear h
  have e1 : decide ((12 : Int) < (xs.length : Int)) = false := by rw [decide_eq_false_iff_not]; omega
  have e2 : ((xs.length : Int) == 0) = false := by rw [beq_eq_false_iff_ne]; omega
  obtain ⟨hs, hd⟩ := hok
  replace hI := Lib.hid hI
  replace hs := Lib.hid hs
  replace hd := Lib.hid hd
  replace hbad := Lib.hid hbad
  go_enter Tryd.func28, Tryd.ntmps28
  go_wp2
  go_loopw [24] (fun i wr => ∃ n : Nat, n ≤ k ∧ i = .int .i64 n ∧ wr = w) (fun i _ => xs.length - (intOf i).toNat)
  case atStart => exact ⟨0, Nat.zero_le _, rfl, rfl⟩
  case round =>
    obtain ⟨n, hn, rfl, hwr⟩ := hrel
    subst hwr
    have hlt : n < xs.length := by omega
    have m1 := hI.out.c n hlt
    have ml := hI.out.lt
    have hsl := Lib.hid (show ∀ c, IntSl wr (.slice (some ⟨b, off, none⟩) n c) (xs.take n) from fun c => ⟨_, c, by rw [List.length_take, Nat.min_eq_left (by omega)], fun _ => ⟨b, off, rfl, hI.out.lt, fun i hi => by rw [List.getElem_take]; exact hI.out.c i (by rw [List.length_take] at hi; omega)⟩⟩)
    have htl := Lib.hid (show (xs.take n).length ≤ 9223372036854775807 by rw [List.length_take]; omega)
    have hnc : n ≤ cap := by omega
    have hnc2 : (n : Int) ≤ (cap : Int) := by omega
    by_cases hnk : n < k
    · obtain ⟨x1, x2⟩ := hs.out n hlt hnk
      have hne := Lib.hid (fun i (hi : i < (xs.take n).length) => (by rw [List.getElem_take]; exact hd.out i n (by rw [List.length_take] at hi; omega) hlt (by rw [List.length_take] at hi; omega) hnk : (xs.take n)[i] ≠ xs[n]))
      clear hbad
      generalize xs[n] = x at *
      go_wp2_with fail
      refine (secret_y x _ x1 x2).mono ?_; rintro e w' ⟨rfl, rfl⟩
      go_wp2_with fail
      refine (contI_n (xs.take n) x _ _ htl.out (hsl.out cap) hne.out).mono ?_; rintro e w' ⟨rfl, rfl⟩
      go_wp2
      go_roundw
      case rel => exact ⟨n + 1, by omega, by go_num, by first | rfl | trivial⟩
      case measure => simp [intOf]; omega
    · obtain rfl : n = k := by omega
      obtain ⟨hkk, hb1 | ⟨hx, ⟨m, hm, hmk, hme⟩, rfl⟩⟩ := hbad.out
      · obtain ⟨hb1, rfl⟩ := hb1
        clear hbad
        generalize xs[n] = x at *
        replace hb1 := Lib.hid hb1
        go_wp2_with fail
        refine (secret_n x _ hb1.out).mono ?_; rintro e w' ⟨rfl, rfl⟩
        go_wp2
        go_ret2
        exact ⟨rfl, Below.refl _ _⟩
      · obtain ⟨x1, x2⟩ := hx
        have hmt := Lib.hid (show ∃ h : m < (xs.take n).length, (xs.take n)[m] = xs[n] from ⟨by rw [List.length_take]; omega, by rw [List.getElem_take]; exact hme⟩)
        clear hbad hme
        generalize xs[n] = x at *
        go_wp2_with fail
        refine (secret_y x _ x1 x2).mono ?_; rintro e w' ⟨rfl, rfl⟩
        go_wp2_with fail
        refine (contI_y (xs.take n) x _ _ htl.out (hsl.out cap) m hmt.out.1 hmt.out.2).mono ?_; rintro e w' ⟨rfl, rfl⟩
        go_wp2
        go_ret2
        exact ⟨rfl, Below.refl _ _⟩
set_option maxHeartbeats 8000000 in
theorem rplaces_core (xs : List Int) (b off cap : Nat) (R : Int) (k : Nat) (w : World) (h1 : 1 ≤ xs.length) (h2 : xs.length ≤ 12) (hk : k ≤ xs.length) (hok : PlOk xs k) (hbad : k < xs.length → PlBad xs k R) (hend : k = xs.length → R = 0) (hI : IntsAt w b off xs) :
    Calls Tryd.prog 16 #[.slice (some ⟨b, off, none⟩) xs.length cap] w fun e w' => e = .returned (.int .i64 R) ∧ Below w.heap.size w w' := by
  have e1 : decide ((12 : Int) < (xs.length : Int)) = false := by rw [decide_eq_false_iff_not]; omega
  have e2 : ((xs.length : Int) == 0) = false := by rw [beq_eq_false_iff_ne]; omega
  obtain ⟨hs, hd⟩ := hok
  replace hI := Lib.hid hI
  replace hs := Lib.hid hs
  replace hd := Lib.hid hd
  replace hbad := Lib.hid hbad
  replace hend := Lib.hid hend
  go_enter Tryd.func16, Tryd.ntmps16
  go_wp2
  go_loopw [3] (fun i wr => ∃ n : Nat, n ≤ k ∧ i = .int .i64 n ∧ Below w.heap.size w wr) (fun i _ => xs.length - (intOf i).toNat)
  case atStart => exact ⟨0, Nat.zero_le _, rfl, Below.refl _ _⟩
  case round =>
    obtain ⟨n, hn, rfl, hb⟩ := hrel
    replace hb := Lib.hid hb
    by_cases hlt : n < xs.length
    · have m1 := (hI.out.below hb.out).c n hlt
      have ml := (hI.out.below hb.out).lt
      by_cases hnk : n < k
      · obtain ⟨x1, x2⟩ := hs.out n hlt hnk
        have hne := Lib.hid (fun i (hi : i < xs.length) (h : i < n) => hd.out i n hi hlt h hnk)
        clear hbad hend
        generalize xs[n] = x at *
        go_wp2_with fail
        refine (rSecret_y x _ x1 x2).mono ?_; rintro e w' ⟨rfl, rfl⟩
        go_wp2
        go_loopw [5] (fun i wq => ∃ m : Nat, m ≤ n ∧ i = .int .i64 m ∧ Below wr.heap.size wr wq) (fun i _ => n - (intOf i).toNat)
        case atStart => exact ⟨0, Nat.zero_le _, rfl, Below.refl _ _⟩
        case round =>
          obtain ⟨m, hm, rfl, hb2⟩ := hrel
          replace hb2 := Lib.hid hb2
          have hB := Lib.hid (below_seq hb.out hb2.out)
          by_cases hlt2 : m < n
          · have k1 := (hI.out.below hB.out).c m (by omega)
            have k2 := (bcell hb2.out).1 _ _ ml |>.trans m1
            have k3 := (hI.out.below hB.out).lt
            have k4 : ((xs[m]'(by omega)) == x) = false := by rw [beq_eq_false_iff_ne]; exact hne.out m (by omega) hlt2
            generalize (xs[m]'(by omega)) = y at *
            go_wp2_with fail
            go_quiet (fail)
            go_wp2
            go_roundw
            case rel => exact ⟨m + 1, by omega, by go_num, (by repeat (first | exact hb2.out | refine below_drewN ?_ _ | refine Below.drew ?_))⟩
            case measure => simp [intOf]; omega
          · obtain rfl : m = n := by omega
            go_wp2
            go_roundw
            case rel => exact ⟨m + 1, by omega, by go_num, hB.out⟩
            case measure => simp [intOf]; omega
      · obtain rfl : n = k := by omega
        obtain ⟨hkk, hb1 | ⟨hx, ⟨m, hm, hmk, hme⟩, rfl⟩⟩ := hbad.out hlt
        · obtain ⟨hb1, rfl⟩ := hb1
          clear hbad hend
          generalize xs[n] = x at *
          replace hb1 := Lib.hid hb1
          go_wp2_with fail
          refine (rSecret_n x _ hb1.out).mono ?_; rintro e w' ⟨rfl, rfl⟩
          go_wp2
          go_ret
          exact ⟨rfl, hb.out⟩
        · obtain ⟨x1, x2⟩ := hx
          obtain ⟨m, hm, hme, hfst⟩ := first_at (xs.take n) xs[n] m (by rw [List.length_take]; omega) (by rw [List.getElem_take]; exact hme)
          rw [List.length_take] at hm
          rw [List.getElem_take] at hme
          have hne := Lib.hid (fun i (hi : i < xs.length) (h : i < m) => by have := hfst i (by rw [List.length_take]; omega) h; rw [List.getElem_take] at this; exact this)
          clear hbad hend hfst
          generalize xs[n] = x at *
          replace hme := Lib.hid hme
          go_wp2_with fail
          refine (rSecret_y x _ x1 x2).mono ?_; rintro e w' ⟨rfl, rfl⟩
          go_wp2
          go_loopw [5] (fun i wq => ∃ q : Nat, q ≤ m ∧ i = .int .i64 q ∧ Below wr.heap.size wr wq) (fun i _ => n - (intOf i).toNat)
          case atStart => exact ⟨0, Nat.zero_le _, rfl, Below.refl _ _⟩
          case round =>
            obtain ⟨q, hq, rfl, hb2⟩ := hrel
            replace hb2 := Lib.hid hb2
            have hB := Lib.hid (below_seq hb.out hb2.out)
            have hqn : q < n := by omega
            have k1 := (hI.out.below hB.out).c q (by omega)
            have k2 := (bcell hb2.out).1 _ _ ml |>.trans m1
            have k3 := (hI.out.below hB.out).lt
            by_cases hqm : q < m
            · have k4 : ((xs[q]'(by omega)) == x) = false := by rw [beq_eq_false_iff_ne]; exact hne.out q (by omega) hqm
              clear hme
              generalize (xs[q]'(by omega)) = y at *
              go_wp2_with fail
              go_quiet (fail)
              go_wp2
              go_roundw
              case rel => exact ⟨q + 1, by omega, by go_num, (by repeat (first | exact hb2.out | refine below_drewN ?_ _ | refine Below.drew ?_))⟩
              case measure => simp [intOf]; omega
            · obtain rfl : q = m := by omega
              rw [hme.out] at k1
              go_wp2_with fail
              go_quiet (fail)
              go_wp2
              go_ret
              exact ⟨rfl, (by repeat (first | exact hB.out | refine below_drewN ?_ _ | refine Below.drew ?_))⟩
    · obtain rfl : n = xs.length := by omega
      obtain rfl : R = 0 := hend.out (by omega)
      go_wp2
      go_ret
      exact ⟨rfl, hb.out⟩
/-- What the document says of some places, and what the code does. -/
theorem rplaces_sl (xs : List Int) (v : Value) (R : Int) (k : Nat) (w : World) (h1 : 1 ≤ xs.length) (h2 : xs.length ≤ 12) (hk : k ≤ xs.length) (hok : PlOk xs k) (hbad : k < xs.length → PlBad xs k R) (hend : k = xs.length → R = 0) (h : IntSl w v xs) :
    Calls Tryd.prog 16 #[v] w fun e w' => e = .returned (.int .i64 R) ∧ Below w.heap.size w w' := by
  obtain ⟨a, cap, rfl, h⟩ := h
  obtain ⟨b, off, rfl, hI⟩ := h (by omega)
  exact rplaces_core xs b off cap R k w h1 h2 hk hok hbad hend hI
set_option maxHeartbeats 8000000 in
theorem rweights_f (xs : List Int) (v : Value) (w : World) (h2 : xs.length ≤ 12) (hs : ∀ i (h : i < xs.length), 1 ≤ xs[i] ∧ xs[i] < 1013) (hd : ∀ i j (hi : i < xs.length) (hj : j < xs.length), i < j → xs[i] ≠ xs[j]) (h : IntSl w v xs) :
    Calls Tryd.prog 18 #[v] w fun e w' => ∃ v', e = .returned v' ∧ IntF w.heap.size w' v' (wgts xs) ∧ Below w.heap.size w w' := by
  obtain ⟨a, cap, rfl, h0⟩ := h
  have hbd := Lib.hid (upd_bd xs)
  have hst := Lib.hid (fun i k h => upd_step (xs := xs) (i := i) (k := k) h)
  have hsm := Lib.hid (fun i k h => upd_same (xs := xs) (i := i) (k := k) h)
  have hu0 : Hid (∀ i, upd xs i 0 = (1, 1)) := Lib.hid fun _ => rfl
  have htn := Lib.hid (upd_turn xs hs hd)
  have hps := Lib.hid (upd_pos xs hs hd)
  have hwg := Lib.hid (fun n (h : n < xs.length) => (show (wgts xs).take (n + 1) = (wgts xs).take n ++ [wpre xs n xs.length] by rw [take_snoc3 _ n (by rw [wgts_len]; exact h), wgts_get]))
  have hwl := wgts_len xs
  generalize wgts xs = ws at *
  generalize upd xs = up at *
  replace hs := Lib.hid hs
  replace h0 := Lib.hid h0
  clear hd
  go_enter Tryd.func18, Tryd.ntmps18
  go_wp2
  go_loopw [3, 4] (fun o i wr => ∃ (n : Nat) (u : Value), n ≤ xs.length ∧ i = .int .i64 n ∧ u = o ∧ wr.ownsRow w.heap.size 3 1 u n ((ws.take n).map (Value.int .i64)) ∧ Below w.heap.size w wr) (fun _ i _ => xs.length - (intOf i).toNat)
  case atStart => exact ⟨0, _, Nat.zero_le _, rfl, rfl, World.ownsRow_nil _ _ _ _, Below.refl _ _⟩
  case round =>
    obtain ⟨n, u, hn, rfl, rfl, hown, hb⟩ := hrel
    replace hown := Lib.hid hown
    replace hb := Lib.hid hb
    by_cases hlt : n < xs.length
    · obtain ⟨b, off, rfl, hI⟩ := h0.out (by omega)
      replace hI := Lib.hid hI
      have hgx := Lib.hid (show xs.getD n 0 = xs[n] by rw [List.getD_eq_getElem?_getD, List.getElem?_eq_getElem hlt]; rfl)
      obtain ⟨x1, x2⟩ := hs.out n hlt
      have hIx := Lib.hid (fun (w' : World) (hb' : Below w.heap.size w w') => (hI.out.below hb').c n hlt)
      generalize xs[n] = x at *
      obtain ⟨wo, hwo⟩ : ∃ y, y = wr := ⟨_, rfl⟩
      subst hwo
      go_wp2
      go_loopw [5, 6, 7] (fun p q k wq => ∃ m : Nat, m ≤ xs.length ∧ k = .int .i64 m ∧ p = .int .i64 (up n m).1 ∧ q = .int .i64 (up n m).2 ∧ Below wo.heap.size wo wq) (fun _ _ k _ => xs.length - (intOf k).toNat)
      case atStart => exact ⟨0, Nat.zero_le _, rfl, by rw [hu0.out], by rw [hu0.out], Below.refl _ _⟩
      case round =>
        obtain ⟨m, hm, rfl, rfl, rfl, hb2⟩ := hrel
        replace hb2 := Lib.hid hb2
        have hB := Lib.hid (below_seq hb.out hb2.out)
        by_cases hlt3 : m < xs.length
        · have m1 := hIx.out wr hB.out
          have m2 := (hI.out.below hB.out).c m hlt3
          have m3 := (hI.out.below hB.out).lt
          have hgy := Lib.hid (show xs.getD m 0 = xs[m] by rw [List.getD_eq_getElem?_getD, List.getElem?_eq_getElem hlt3]; rfl)
          obtain ⟨y1, y2⟩ := hs.out m hlt3
          generalize xs[m] = y at *
          by_cases hmn : m = n
          · have hb3 : ((m : Int) != (n : Int)) = false := by rw [bne_eq_false_iff_eq, hmn]
            have hsame := Lib.hid (hsm.out n m hmn)
            replace hmn := Lib.hid hmn
            go_wp2
            go_roundw
            case rel => exact ⟨m + 1, by omega, by go_num, by rw [hsame.out], by rw [hsame.out], hb2.out⟩
            case measure => simp [intOf]; omega
          · have hb3 : ((m : Int) != (n : Int)) = true := by rw [bne_iff_ne]; omega
            have hstep := hst.out n m hmn
            rw [hgx.out, hgy.out] at hstep
            obtain ⟨⟨q0, q1⟩, d0, d1⟩ := hbd.out n m
            generalize hq : (up n m).1 = q at *
            generalize hdq : (up n m).2 = d at *
            obtain ⟨p1, p2⟩ := mul_bq q0 q1 (show 0 ≤ y by omega) y2
            have f1 : IntKind.i64.wrap (q * y) = q * y := IntWalk.i64_in _ (by omega)
            have f2 : (q * y).tmod 1013 = (q * y) % 1013 := Int.tmod_eq_emod_of_nonneg p1
            have f3 : IntKind.i64.wrap (y - x) = y - x := IntWalk.i64_in _ (by omega)
            obtain ⟨z, hz⟩ : ∃ z, (y - x) % 1013 = z := ⟨_, rfl⟩
            have z0 : 0 ≤ z ∧ z < 1013 := by omega
            rw [hz] at hstep
            obtain ⟨p3, p4⟩ := mul_bq d0 d1 z0.1 z0.2
            have f4 : IntKind.i64.wrap (d * z) = d * z := IntWalk.i64_in _ (by omega)
            have f5 : (d * z).tmod 1013 = (d * z) % 1013 := Int.tmod_eq_emod_of_nonneg p3
            have hqr := Lib.hid (fun w => (by have := refMod_q (y - x) w (by omega) (by omega); rw [hz] at this; exact this : Calls Tryd.prog 58 #[.int .i64 (y - x), .int .i64 1013] w fun e w' => e = .returned (.int .i64 z) ∧ w = w'))
            replace hstep := Lib.hid hstep
            clear hz hmn
            go_wp2_with fail
            go_quiet (first | (go_at_call 58; exact quiet_left (hqr.out _)))
            go_wp2
            go_roundw
            case rel => exact ⟨m + 1, by omega, by go_num, by rw [hstep.out], by rw [hstep.out], (by repeat (first | exact hb2.out | refine below_drewN ?_ _ | refine Below.drew ?_))⟩
            case measure => simp [intOf]; omega
        · obtain rfl : m = xs.length := by omega
          obtain ⟨⟨q0, q1⟩, d0, d1⟩ := hbd.out n xs.length
          have dp := hps.out n hlt
          have htt := Lib.hid (htn.out n hlt)
          generalize hq : (up n xs.length).1 = q at *
          generalize hdq : (up n xs.length).2 = d at *
          have htl : Hid ((ws.take n).length = n) := Lib.hid (by rw [List.length_take, hwl]; omega)
          have hsn := Lib.hid (hwg.out n hlt)
          generalize hT : ws.take n = T at *
          have zo := hB.out.size
          have how := Lib.hid (own_below hown.out hb2.out)
          clear hT hq hdq
          go_wp2_with fail
          refine (refTurn_q d _ dp d1).mono ?_; rintro e w' ⟨⟨t, rfl, t0, t1, ht⟩, rfl⟩
          have hw := htt.out t ht
          obtain ⟨p1, p2⟩ := mul_bq q0 q1 t0 t1
          have f1 : IntKind.i64.wrap (q * t) = q * t := IntWalk.i64_in _ (by omega)
          have f2 : (q * t).tmod 1013 = wpre xs n xs.length := by rw [← hw]; exact Int.tmod_eq_emod_of_nonneg p1
          generalize wpre xs n xs.length = g at *
          clear hw ht
          go_wp2_with (first | (at_builtin; refine wpl_append_int rfl _ _ _ rfl (by kernel_rfl) w.heap.size _ T n rfl (how.out.alloc _) htl.out (by omega) (by simp only [World.size_alloc]; omega) wr.heap.size g rfl (by go_simp) ?_; intro v' w3 hown' hgrow hbel hloc; replace hown' := Lib.hid hown'; replace hbel := Lib.hid (hbel w (balloc hB.out _)); clear hgrow hloc) | fail)
          go_wp2
          go_roundw
          case rel => exact ⟨n + 1, _, by omega, by go_num, rfl, by rw [hsn.out]; exact hown'.out, hbel.out⟩
          case measure => simp [intOf]; omega
    · obtain rfl : n = xs.length := by omega
      have hI2 := Lib.hid (own_intf (Nat.le_refl _) (by have := hown.out; rw [List.take_of_length_le (by omega)] at this; exact this) hwl.symm)
      go_wp2
      go_ret
      exact ⟨_, rfl, hI2.out, hb.out⟩
end Go.Proofs.YtahopffpajkfdaaDoor
namespace Go.Proofs.YtahopffpajkfdaaDoor
open Go.RowKit
set_option maxRecDepth 100000
set_option linter.unusedVariables false
set_option linter.unusedSimpArgs false
set_option maxHeartbeats 2000000 in
theorem qjoin_n3 (n m : Nat) (a1 a2 : Option Addr) (c1 c2 : Nat) (w : World) (h : n ≠ m) (hn : n ≤ 9223372036854775807) (hm : m ≤ 9223372036854775807) :
    Calls Tryd.prog 20 #[.slice a1 n c1, .slice a2 m c2] w fun e w' => e = .returned (.tuple #[spV ⟨0, 0, false⟩, .iface 114 (.int .i64 3)]) ∧ Below w.heap.size w w' := by
  have g1 : ((n : Int) != (m : Int)) = true := by rw [bne_iff_ne]; omega
  obtain ⟨r0, r1, r2, q0, q1, q2, ql⟩ := SpAt.fresh w 0 0 false 29
  have hB := Lib.hid (below_alloc w (.cells #[.int .i64 0, .int .i64 0, .bool false] 29))
  go_enter Tryd.func20, Tryd.ntmps20
  go_wp2
  have k := set3_cell (x := .int .i64 0) (y := .int .i64 0) (z := .bool false) r0 r1 r2
  refine bodyPost_ret (v := .tuple #[spV ⟨0, 0, false⟩, .iface 114 (.int .i64 3)]) (by simp [results, Tryd.results20, go_sem, k.1, k.2.1, k.2.2]) rfl ⟨rfl, by first | exact hB.out | exact set3_below hB.out (Nat.le_refl _)⟩
set_option maxHeartbeats 2000000 in
theorem qjoin_nw (n : Nat) (a1 a2 : Option Addr) (c1 c2 : Nat) (E : Int) (w : World) (hW : Hid (∀ w', Below w.heap.size w w' → Calls Tryd.prog 28 #[.slice a1 n c1] w' fun e w'' => e = .returned (.tuple #[.slice none 0 0, .iface 114 (.int .i64 E)]) ∧ Below w'.heap.size w' w'')) :
    Calls Tryd.prog 20 #[.slice a1 n c1, .slice a2 n c2] w fun e w' => e = .returned (.tuple #[spV ⟨0, 0, false⟩, .iface 114 (.int .i64 E)]) ∧ Below w.heap.size w w' := by
  have g1 : ((n : Int) != (n : Int)) = false := by simp
  go_enter Tryd.func20, Tryd.ntmps20
  go_wp2_with fail
  refine (hW.out _ (by repeat (first | exact Below.refl _ _ | refine balloc ?_ _ | refine Below.drew ?_ | refine below_drewN ?_ _ | refine below_set ?_ (by first | omega | (dsimp only; omega)) _))).mono ?_; rintro e w1 ⟨rfl, hb⟩
  obtain ⟨hc1, hf1⟩ := bcell hb
  have z1 := hb.size
  try simp only [World.size_alloc, World.size_setCell, World.size_drew] at z1
  have s1_0 : w.heap.size < w1.heap.size := by omega
  have hB1 : Below w.heap.size w w1 := below_seq (by repeat (first | exact Below.refl _ _ | refine balloc ?_ _ | refine Below.drew ?_ | refine below_drewN ?_ _ | refine below_set ?_ (by first | omega | (dsimp only; omega)) _)) hb
  clear hb
  have r0 : w1.cell? ⟨w.heap.size, 0, none⟩ = some (.int .i64 0) := by go_simp
  have r1 : w1.cell? ⟨w.heap.size, 1, none⟩ = some (.int .i64 0) := by go_simp
  have r2 : w1.cell? ⟨w.heap.size, 2, none⟩ = some (.bool false) := by go_simp
  go_wp2
  have k := set3_cell (w := w1) (x := .int .i64 0) (y := .int .i64 0) (z := .bool false) r0 r1 r2
  refine bodyPost_ret (v := .tuple #[spV ⟨0, 0, false⟩, .iface 114 (.int .i64 E)]) (by simp [results, Tryd.results20, go_sem, k.1, k.2.1, k.2.2]) rfl ⟨rfl, set3_below (by repeat (first | exact hB1 | exact Below.refl _ _ | refine balloc ?_ _ | refine Below.drew ?_ | refine below_drewN ?_ _ | refine below_set ?_ (by first | omega | (dsimp only; omega)) _)) (by omega)⟩
end Go.Proofs.YtahopffpajkfdaaDoor
namespace Go.Proofs.YtahopffpajkfdaaDoor
open Go.RowKit
set_option maxRecDepth 100000
set_option linter.unusedVariables false
set_option linter.unusedSimpArgs false
/-- The document's word on a share. -/
theorem rShare_b (x y : Int) (b : Bool) (w : World) (h : Hid ((secB x && resB y) = b)) : Calls Tryd.prog 11 #[.agg #[.int .i64 x, .int .i64 y]] w fun e w' => e = .returned (.bool b) ∧ Below w.heap.size w w' := by
  obtain ⟨p, h1⟩ : ∃ p, secB x = p := ⟨_, rfl⟩
  obtain ⟨q, h2⟩ : ∃ q, resB y = q := ⟨_, rfl⟩
  have h3 := h.out
  rw [h1, h2] at h3
  subst h3
  clear h
  replace h1 := Lib.hid h1
  replace h2 := Lib.hid h2
  go_enter Tryd.func11, Tryd.ntmps11
  go_wp2_with fail
  refine (rSecret_b x p _ h1).mono ?_; rintro e w' ⟨rfl, rfl⟩
  go_wp2_with fail
  refine (rRest_b y q _ h2).mono ?_; rintro e w' ⟨rfl, rfl⟩
  cases p <;> cases q
  all_goals
    go_wp2
    go_ret
    exact ⟨rfl, below_alloc _ _⟩
theorem right_sn (x y : Int) (w : World) (h : ¬ (1 ≤ x ∧ x < 1013 ∧ 0 ≤ y ∧ y < 1013)) : Calls Tryd.prog 69 #[.agg #[.int .i64 x, .int .i64 y]] w fun e w' => e = .returned (.bool false) ∧ Below w.heap.size w w' := by
  by_cases hx : 1 ≤ x ∧ x < 1013
  · have hy : ¬ (0 ≤ y ∧ y < 1013) := fun g => h ⟨hx.1, hx.2, g.1, g.2⟩
    obtain ⟨x1, x2⟩ := hx
    clear h
    replace hy := Lib.hid hy
    go_enter Tryd.func69, Tryd.ntmps69
    go_wp2_with fail
    refine (secret_y x _ x1 x2).mono ?_; rintro e w' ⟨rfl, rfl⟩
    go_wp2_with fail
    refine (rest_n y _ hy.out).mono ?_; rintro e w' ⟨rfl, rfl⟩
    go_wp2
    go_ret
    exact ⟨rfl, below_alloc _ _⟩
  · clear h
    replace hx := Lib.hid hx
    go_enter Tryd.func69, Tryd.ntmps69
    go_wp2_with fail
    refine (secret_n x _ hx.out).mono ?_; rintro e w' ⟨rfl, rfl⟩
    go_wp2
    go_ret
    exact ⟨rfl, below_alloc _ _⟩
set_option maxHeartbeats 2000000 in
theorem part_n1 (x y : Int) (t : ByteArray) (w : World) (h : ¬ (1 ≤ x ∧ x < 1013 ∧ 0 ≤ y ∧ y < 1013)) :
    Calls Tryd.prog 14 #[.agg #[.int .i64 x, .int .i64 y], .string t] w fun e w' => e = .returned (.tuple #[spV ⟨0, 0, false⟩, .iface 114 (.int .i64 1)]) ∧ Below w.heap.size w w' := by
  replace h := Lib.hid h
  go_enter Tryd.func14, Tryd.ntmps14
  go_wp2_with fail
  refine (right_sn x y _ h.out).mono ?_; rintro e w1 ⟨rfl, hb⟩
  obtain ⟨hc1, hf1⟩ := bcell hb
  have z1 := hb.size
  try simp only [World.size_alloc, World.size_setCell, World.size_drew] at z1
  have s1_0 : w.heap.size < w1.heap.size := by omega
  have s1_1 : w.heap.size + 1 < w1.heap.size := by omega
  have hB1 : Below w.heap.size w w1 := below_seq (by repeat (first | exact Below.refl _ _ | refine balloc ?_ _ | refine Below.drew ?_ | refine below_drewN ?_ _ | refine below_set ?_ (by first | omega | (dsimp only; omega)) _)) hb
  clear hb
  have r0 : w1.cell? ⟨w.heap.size + 1, 0, none⟩ = some (.int .i64 0) := by go_simp
  have r1 : w1.cell? ⟨w.heap.size + 1, 1, none⟩ = some (.int .i64 0) := by go_simp
  have r2 : w1.cell? ⟨w.heap.size + 1, 2, none⟩ = some (.bool false) := by go_simp
  go_wp2
  have k := set3_cell (w := w1) (x := .int .i64 0) (y := .int .i64 0) (z := .bool false) r0 r1 r2
  refine bodyPost_ret (v := .tuple #[spV ⟨0, 0, false⟩, .iface 114 (.int .i64 1)]) (by simp [results, Tryd.results14, go_sem, k.1, k.2.1, k.2.2]) rfl ⟨rfl, set3_below (by repeat (first | exact hB1 | exact Below.refl _ _ | refine balloc ?_ _ | refine Below.drew ?_ | refine below_drewN ?_ _ | refine below_set ?_ (by first | omega | (dsimp only; omega)) _)) (by omega)⟩
set_option maxHeartbeats 2000000 in
theorem part_n4 (x y : Int) (t : ByteArray) (w : World) (x1 : 1 ≤ x) (x2 : x < 1013) (y0 : 0 ≤ y) (y1 : y < 1013) (h : 60 < t.size) (hz : t.size ≤ 140737488351232) :
    Calls Tryd.prog 14 #[.agg #[.int .i64 x, .int .i64 y], .string t] w fun e w' => e = .returned (.tuple #[spV ⟨0, 0, false⟩, .iface 114 (.int .i64 4)]) ∧ Below w.heap.size w w' := by
  go_enter Tryd.func14, Tryd.ntmps14
  go_wp2_with fail
  refine (right_sy x y _ x1 x2 y0 y1).mono ?_; rintro e w1 ⟨rfl, hb⟩
  obtain ⟨hc1, hf1⟩ := bcell hb
  have z1 := hb.size
  try simp only [World.size_alloc, World.size_setCell, World.size_drew] at z1
  have s1_0 : w.heap.size < w1.heap.size := by omega
  have s1_1 : w.heap.size + 1 < w1.heap.size := by omega
  have hB1 : Below w.heap.size w w1 := below_seq (by repeat (first | exact Below.refl _ _ | refine balloc ?_ _ | refine Below.drew ?_ | refine below_drewN ?_ _ | refine below_set ?_ (by first | omega | (dsimp only; omega)) _)) hb
  clear hb
  go_wp2_with fail
  refine (text_n t _ h hz).mono ?_; rintro e w' ⟨rfl, rfl⟩
  have r0 : w1.cell? ⟨w.heap.size + 1, 0, none⟩ = some (.int .i64 0) := by go_simp
  have r1 : w1.cell? ⟨w.heap.size + 1, 1, none⟩ = some (.int .i64 0) := by go_simp
  have r2 : w1.cell? ⟨w.heap.size + 1, 2, none⟩ = some (.bool false) := by go_simp
  go_wp2
  have k := set3_cell (w := w1) (x := .int .i64 0) (y := .int .i64 0) (z := .bool false) r0 r1 r2
  refine bodyPost_ret (v := .tuple #[spV ⟨0, 0, false⟩, .iface 114 (.int .i64 4)]) (by simp [results, Tryd.results14, go_sem, k.1, k.2.1, k.2.2]) rfl ⟨rfl, set3_below (by repeat (first | exact hB1 | exact Below.refl _ _ | refine balloc ?_ _ | refine Below.drew ?_ | refine below_drewN ?_ _ | refine below_set ?_ (by first | omega | (dsimp only; omega)) _)) (by omega)⟩
end Go.Proofs.YtahopffpajkfdaaDoor
namespace Go.Proofs.YtahopffpajkfdaaDoor
open Go.RowKit
set_option maxRecDepth 100000
set_option linter.unusedVariables false
set_option linter.unusedSimpArgs false
set_option maxHeartbeats 4000000 in
theorem public_n (l : List (Int × Int)) (v : Value) (w : World) (hF : FarAt w) (hl : l.length ≤ 12) (h : ShSl w v l) (k : Nat) (hk : k < l.length) (hok : ∀ i (h : i < l.length), i < k → 1 ≤ l[i].1 ∧ l[i].1 < 1013 ∧ 0 ≤ l[i].2 ∧ l[i].2 < 1013) (hbad : ¬ (1 ≤ l[k].1 ∧ l[k].1 < 1013 ∧ 0 ≤ l[k].2 ∧ l[k].2 < 1013)) :
    Calls Tryd.prog 22 #[v] w fun e w' => e = .returned (.tuple #[.slice none 0 0, .iface 114 (.int .i64 1)]) ∧ Below w.heap.size w w' := by
  obtain ⟨a, cap, rfl, h0⟩ := h
  have hd : decide ((12 : Int) < (l.length : Int)) = false := by rw [decide_eq_false_iff_not]; omega
  replace h0 := Lib.hid h0
  replace hok := Lib.hid hok
  replace hbad := Lib.hid hbad
  replace hF := Lib.hid hF
  go_enter Tryd.func22, Tryd.ntmps22
  go_wp2
  go_loopw [4, 13] (fun o i wr => ∃ (n : Nat) (u : Value), n ≤ k ∧ i = .int .i64 n ∧ u = o ∧ wr.ownsRow w.heap.size 29 3 u n (spCells ((l.map fun s => sq (4 * s.2)).take n)) ∧ Below w.heap.size w wr) (fun _ i _ => l.length - (intOf i).toNat)
  case atStart => exact ⟨0, _, Nat.zero_le _, rfl, rfl, World.ownsRow_nil _ _ _ _, Below.refl _ _⟩
  case round =>
    obtain ⟨n, u, hn, rfl, rfl, hown, hb⟩ := hrel
    replace hown := Lib.hid hown
    replace hb := Lib.hid hb
    by_cases hlk : n < k
    · have hlt : n < l.length := by omega
      obtain ⟨b, off, rfl, hs⟩ := h0.out (by omega)
      have hs := hs.below hb.out
      have l1 := hs.cx n hlt
      have l2 := hs.cy n hlt
      have l3 := hs.lt
      have hlw := hb.out.size
      obtain ⟨x1, x2, y0, y1⟩ := hok.out n hlt hlk
      have hsn := take_snoc2 (l.map fun s => sq (4 * s.2)) n (by simpa using hlt)
      rw [List.getElem_map] at hsn
      have htl : Hid (((l.map fun s => sq (4 * s.2)).take n).length = n) := Lib.hid (by rw [List.length_take, List.length_map]; omega)
      clear hs hbad hok
      generalize l[n] = s at *
      obtain ⟨x, y⟩ := s
      simp only at l1 l2 x1 x2 y0 y1 hsn
      obtain ⟨A, hA⟩ : ∃ A, sq (4 * y) = A := ⟨_, rfl⟩
      rw [hA] at hsn
      replace hA := Lib.hid hA
      replace hsn := Lib.hid hsn
      generalize hT : (l.map fun s => sq (4 * s.2)).take n = T at *
      clear hT
      have hFr := Lib.hid (hF.out.below hb.out)
      go_wp2_with fail
      refine (right_sy x y _ x1 x2 y0 y1).mono ?_; rintro e w1 ⟨rfl, hb1⟩
      have ow1 := Lib.hid (own_below (hown.out.alloc _) hb1)
      have hB1 := Lib.hid (below_seq (balloc hb.out _) hb1)
      obtain ⟨kc, -⟩ := bcell hb1
      have y2 := (kc wr.heap.size 1 (by simp)).trans (show (wr.alloc (.cells #[.int .i64 x, .int .i64 y] 23)).cell? ⟨wr.heap.size, 1, none⟩ = some (.int .i64 y) by simp)
      have z1 := hb1.size
      simp only [World.size_alloc] at z1
      clear kc hown hb hb1 l1 l2 l3
      go_wp2_with fail
      refine (by_e y A _ (hF.out.below hB1.out) hA).mono ?_; rintro e w2 ⟨rfl, hb2⟩
      have ow2 := Lib.hid (own_below ow1.out hb2)
      have hB2 := Lib.hid (below_seq hB1.out hb2)
      have z2 := hb2.size
      clear ow1 hB1 hb2 y2
      go_wp2_with (first | (at_builtin; refine wpl_append_spot rfl _ _ _ rfl (by kernel_rfl) w.heap.size _ T n rfl (ow2.out.alloc _) htl.out (by omega) (by simp only [World.size_alloc]; omega) w2.heap.size A rfl (by go_simp) (by go_simp) (by go_simp) ?_; intro v' w3 hown' hgrow hbel hloc; replace hown' := Lib.hid hown'; replace hbel := Lib.hid (hbel w (balloc hB2.out _)); clear hgrow hloc ow2 hB2) | fail)
      go_wp2
      go_roundw
      case rel => exact ⟨n + 1, _, by omega, by go_num, rfl, by rw [hsn.out]; exact hown'.out, hbel.out⟩
      case measure => simp [intOf]; omega
    · obtain rfl : n = k := by omega
      obtain ⟨b, off, rfl, hs⟩ := h0.out (by omega)
      have hs := hs.below hb.out
      have l1 := hs.cx n hk
      have l2 := hs.cy n hk
      have l3 := hs.lt
      clear hs hok hown
      generalize l[n] = s at *
      obtain ⟨x, y⟩ := s
      simp only at l1 l2
      have hq : Hid (¬ (1 ≤ x ∧ x < 1013 ∧ 0 ≤ y ∧ y < 1013)) := Lib.hid hbad.out
      clear hbad
      go_wp2_with fail
      refine (right_sn x y _ hq.out).mono ?_; rintro e w1 ⟨rfl, hb1⟩
      have hB1 := Lib.hid (below_seq (balloc hb.out _) hb1)
      clear hb hb1
      go_wp2
      go_ret2
      exact ⟨rfl, hB1.out⟩
theorem public_full (a : Option Addr) (l cap : Nat) (w : World) (hl : 12 < l) (hm : l ≤ 9223372036854775807) :
    Calls Tryd.prog 22 #[.slice a l cap] w fun e w' => e = .returned (.tuple #[.slice none 0 0, .iface 114 (.int .i64 4)]) ∧ Below w.heap.size w w' := by
  go_enter Tryd.func22, Tryd.ntmps22
  go_wp2
  go_ret2
  exact ⟨rfl, Below.refl _ _⟩
end Go.Proofs.YtahopffpajkfdaaDoor
namespace Go.Proofs.YtahopffpajkfdaaDoor
open Go.RowKit
set_option maxRecDepth 100000
set_option linter.unusedVariables false
set_option linter.unusedSimpArgs false
set_option maxHeartbeats 4000000 in
theorem spots_same (l : List Sp) (v1 v2 : Value) (w : World) (hl : l.length ≤ 1000000) (h1 : SpSl w v1 l) (h2 : SpSl w v2 l) :
    Calls Tryd.prog 23 #[v1, v2] w fun e w' => e = .returned (.bool true) ∧ Below w.heap.size w w' := by
  obtain ⟨a1, c1, rfl, i1⟩ := h1
  obtain ⟨a2, c2, rfl, i2⟩ := h2
  replace i1 := Lib.hid i1
  replace i2 := Lib.hid i2
  have g1 : ((l.length : Int) != (l.length : Int)) = false := by simp
  go_enter Tryd.func23, Tryd.ntmps23
  go_wp2
  go_loopw [5] (fun i wr => ∃ n : Nat, n ≤ l.length ∧ i = .int .i64 n ∧ Below w.heap.size w wr) (fun i _ => l.length - (intOf i).toNat)
  case atStart => exact ⟨0, Nat.zero_le _, rfl, Below.refl _ _⟩
  case round =>
    obtain ⟨n, hn, rfl, hb⟩ := hrel
    replace hb := Lib.hid hb
    by_cases hlt : n < l.length
    · obtain ⟨b1, o1, rfl, l1⟩ := i1.out (by omega)
      obtain ⟨b2, o2, rfl, l2⟩ := i2.out (by omega)
      have k1 := (l1.below hb.out).cx n hlt
      have k2 := (l2.below hb.out).cx n hlt
      have k5 := (l1.below hb.out).cy n hlt
      have k6 := (l2.below hb.out).cy n hlt
      have k7 := (l1.below hb.out).cf n hlt
      have k8 := (l2.below hb.out).cf n hlt
      have k3 := (l1.below hb.out).lt
      have k4 := (l2.below hb.out).lt
      clear l1 l2
      generalize l[n] = x at *
      go_wp2_with fail
      go_quiet (fail)
      go_wp2
      go_roundw
      case rel => exact ⟨n + 1, by omega, by go_num, (by repeat (first | exact hb.out | refine below_drewN ?_ _ | refine Below.drew ?_))⟩
      case measure => simp [intOf]; omega
    · obtain rfl : n = l.length := by omega
      go_wp2
      go_ret
      exact ⟨rfl, hb.out⟩
end Go.Proofs.YtahopffpajkfdaaDoor
namespace Go.Proofs.YtahopffpajkfdaaDoor
open Go.RowKit Go.Extern.Stop Go.Stop Go.Extern
set_option maxRecDepth 100000
set_option linter.unusedVariables false
set_option linter.unusedSimpArgs false
/-- The variable errors.errorType reads as laid. -/
def ErrAt (w : World) : Prop := w.cell? ⟨2, 0, none⟩ = some (.iface 172 (.agg #[.pointer (some ⟨3, 33, none⟩)])) ∧ 2 < w.heap.size
theorem ErrAt.below {w w' : World} (h : ErrAt w) (hb : Below w.heap.size w w') : ErrAt w' := ⟨((bcell hb).1 _ _ h.2).trans h.1, Nat.lt_of_lt_of_le h.2 hb.size⟩
/-! The model's entries for reflectlite, at this program's types. -/
theorem rl_value (t : Addr) (w : World) : (ReflectliteValue.unpack (.iface 146 (.pointer (some t)))).run Tryd.prog w
    = .ok (.agg #[.pointer (some ⟨3, 146, none⟩), .pointer (some ⟨w.heap.size, 0, none⟩), .int .u64 150]) (w.alloc (.cells #[.pointer (some t)] 146)) := by kernel_rfl
theorem rl_type (a : Addr) (w : World) : (ReflectliteValue.methodAny (ReflectliteValue.valueError "reflectlite.Value.Type" 0) (fun t _ _ _ => ReflectliteType.toType t) #[.agg #[.pointer (some ⟨3, 146, none⟩), .pointer (some a), .int .u64 150]]).run Tryd.prog w
    = .ok (.iface 172 (.agg #[.pointer (some ⟨3, 146, none⟩)])) w := by kernel_rfl
theorem rl_kindm (h : Value) (w : World) : (Go.method 314 172 (.agg #[h]) "Kind").run Tryd.prog w = .ok (159, h) w := by kernel_rfl
theorem rl_kind (w : World) : ((ReflectliteType.abiMethod fun t => Functor.map (fun a : Nat => Value.int IntKind.u8 (a : Int)) (Rtype.kind t)) #[.pointer (some ⟨3, 146, none⟩)]).run Tryd.prog w = .ok (.int .u8 22) w := by kernel_rfl
theorem rl_kinde (w : World) : ((ReflectliteType.abiMethod fun t => Functor.map (fun a : Nat => Value.int IntKind.u8 (a : Int)) (Rtype.kind t)) #[.pointer (some ⟨3, 114, none⟩)]).run Tryd.prog w = .ok (.int .u8 2) w := by kernel_rfl
theorem rl_m (z : Sem Value) (f : TypeId → Addr → Nat → Nat → Sem Value) (v : Value) :
    ReflectliteValue.method z f #[v] = (do match ← ReflectliteValue.parts v with | none => z | some (t, a, fl) => f t a fl (fl % 32)) := rfl
theorem rl_parts (a : Addr) (w : World) : (ReflectliteValue.parts (.agg #[.pointer (some ⟨3, 146, none⟩), .pointer (some a), .int .u64 150])).run Tryd.prog w = .ok (some (146, a, 150)) w := by kernel_rfl
theorem rl_nil (a p : Addr) (W : World) (ha : W.cell? a = some (.pointer (some p))) :
    (ReflectliteValue.method (ReflectliteValue.valueError "reflectlite.Value.IsNil" 0) ReflectliteValue.isNil #[.agg #[.pointer (some ⟨3, 146, none⟩), .pointer (some a), .int .u64 150]]).run Tryd.prog W = .ok (.bool false) W := by
  rw [rl_m]
  simp only [Sem.run_bind, rl_parts, Result.andThen]
  simp [ReflectliteValue.isNil, loadVar, isAgg, underlying, Tryd.underlying146, ha, Result.andThen]
theorem rl_elemm (h : Value) (w : World) : (Go.method 314 172 (.agg #[h]) "Elem").run Tryd.prog w = .ok (169, .agg #[h]) w := by kernel_rfl
theorem rl_implm (h : Value) (w : World) : (Go.method 314 172 (.agg #[h]) "Implements").run Tryd.prog w = .ok (170, .agg #[h]) w := by kernel_rfl
theorem rl_assm (h : Value) (w : World) : (Go.method 314 172 (.agg #[h]) "AssignableTo").run Tryd.prog w = .ok (167, .agg #[h]) w := by kernel_rfl
theorem rl_elem (w : World) : (ReflectliteType.method ReflectliteType.elem #[.agg #[.pointer (some ⟨3, 146, none⟩)]]).run Tryd.prog w = .ok (.iface 172 (.agg #[.pointer (some ⟨3, 114, none⟩)])) w := by kernel_rfl
theorem rl_impl (w : World) : (ReflectliteType.relation "Implements" ReflectliteType.implements_ #[.agg #[.pointer (some ⟨3, 114, none⟩)], .iface 172 (.agg #[.pointer (some ⟨3, 33, none⟩)])]).run Tryd.prog w = .ok (.bool true) w := by kernel_rfl
theorem rl_typeof (v : Value) (w : World) : (ReflectliteType.typeOf #[.iface 114 v]).run Tryd.prog w = .ok (.iface 172 (.agg #[.pointer (some ⟨3, 114, none⟩)])) w := by kernel_rfl
theorem rl_ass (w : World) : (ReflectliteType.relation "AssignableTo" ReflectliteType.assignableTo #[.agg #[.pointer (some ⟨3, 114, none⟩)], .iface 172 (.agg #[.pointer (some ⟨3, 114, none⟩)])]).run Tryd.prog w = .ok (.bool true) w := by kernel_rfl
theorem rl_valuee (k : Int) (w : World) : (ReflectliteValue.unpack (.iface 114 (.int .i64 k))).run Tryd.prog w
    = .ok (.agg #[.pointer (some ⟨3, 114, none⟩), .pointer (some ⟨w.heap.size, 0, none⟩), .int .u64 130]) (w.alloc (.cells #[.int .i64 k] 114)) := by kernel_rfl
theorem rl_elemof (w : World) : (Rtype.elem? 146).run Tryd.prog w = .ok (some 114) w := by kernel_rfl
theorem rl_mk (p : Addr) (w : World) : (ReflectliteValue.mk 114 p ReflectliteValue.flagAddr).run Tryd.prog w = .ok (.agg #[.pointer (some ⟨3, 114, none⟩), .pointer (some p), .int .u64 386]) w := by kernel_rfl
theorem rl_elemv (a p : Addr) (W : World) (ha : W.cell? a = some (.pointer (some p))) :
    (ReflectliteValue.method (ReflectliteValue.valueError "reflectlite.Value.Elem" 0) ReflectliteValue.elem #[.agg #[.pointer (some ⟨3, 146, none⟩), .pointer (some a), .int .u64 150]]).run Tryd.prog W
      = .ok (.agg #[.pointer (some ⟨3, 114, none⟩), .pointer (some p), .int .u64 386]) W := by
  rw [rl_m]
  simp only [Sem.run_bind, rl_parts, Result.andThen]
  simp [ReflectliteValue.elem, loadVar, isAgg, underlying, Tryd.underlying146, ha, Result.andThen, rl_elemof, rl_mk]
theorem rl_s (v x : Value) : ReflectliteValue.set #[v, x] = (do
    let (some (dst, a, fl), some (src, b, _)) := (← ReflectliteValue.parts v, ← ReflectliteValue.parts x)
      | unsupported (.noEntry "extern/(internal/reflectlite.Value).Set.zeroValue")
    if fl / ReflectliteValue.flagAddr % 2 == 0 then unsupported (.noEntry "extern/(internal/reflectlite.Value).Set.unaddressable")
    let val ← loadVar src b
    if ← Rtype.directlyAssignable dst src then storeVar dst a val
    else if ← Rtype.implements dst src then
      if (← Rtype.kind src) == 20 then
        match val with
        | .nilIface => unsupported (.noEntry "extern/reflectlite: a nil value of one interface type handed on as a value of another")
        | _ => storeVar dst a val
      else storeVar dst a (.iface src val)
    else panicString ("reflectlite.Set: value of type " ++ (← Rtype.spelt src) ++ " is not assignable to type " ++ (← Rtype.spelt dst))
    pure (.tuple #[])) := rfl
theorem rl_partsa (a : Addr) (w : World) : (ReflectliteValue.parts (.agg #[.pointer (some ⟨3, 114, none⟩), .pointer (some a), .int .u64 386])).run Tryd.prog w = .ok (some (114, a, 386)) w := by kernel_rfl
theorem rl_partse (a : Addr) (w : World) : (ReflectliteValue.parts (.agg #[.pointer (some ⟨3, 114, none⟩), .pointer (some a), .int .u64 130])).run Tryd.prog w = .ok (some (114, a, 130)) w := by kernel_rfl
theorem rl_direct (w : World) : (Rtype.directlyAssignable 114 114).run Tryd.prog w = .ok true w := by kernel_rfl
theorem rl_set (ta b : Addr) (k : Int) (old : Value) (W : World) (hb : W.cell? b = some (.int .i64 k)) (ht : W.cell? ta = some old) (hf : W.frozen? ta = false) :
    (ReflectliteValue.set #[.agg #[.pointer (some ⟨3, 114, none⟩), .pointer (some ta), .int .u64 386], .agg #[.pointer (some ⟨3, 114, none⟩), .pointer (some b), .int .u64 130]]).run Tryd.prog W
      = .ok (.tuple #[]) (W.setCell ta (.int .i64 k)) := by
  rw [rl_s]
  simp only [Sem.run_bind, rl_partsa, rl_partse, Result.andThen]
  simp [ReflectliteValue.flagAddr, loadVar, isAgg, underlying, Tryd.underlying114, hb, Result.andThen, rl_direct, storeVar, Value.cells, storeCells, Addr.add]
  rw [run_store Tryd.prog W ta _ _ (by rfl)]
  simp [ht, hf]
set_option maxHeartbeats 4000000 in
theorem as_hit (k : Int) (t : Addr) (old : Value) (w : World) (hg : w.cell? ⟨2, 0, none⟩ = some (.iface 172 (.agg #[.pointer (some ⟨3, 33, none⟩)]))) (hgl : 2 < w.heap.size) (ht0 : w.cell? t = some old) (hf0 : w.frozen? t = false) :
    Calls Tryd.prog 116 #[.iface 114 (.int .i64 k), .iface 146 (.pointer (some t))] w fun ev w' => ev = .returned (.bool true) ∧ w' = ((((w.alloc (.cells #[.pointer (some t)] 146)).alloc (.cells #[.pointer (some ⟨3, 146, none⟩), .pointer (some ⟨w.heap.size, 0, none⟩), .int .u64 150] 156)).alloc (.cells #[.pointer (some ⟨3, 146, none⟩), .pointer (some ⟨w.heap.size, 0, none⟩), .int .u64 150] 156)).alloc (.cells #[.int .i64 k] 114)).setCell t (.int .i64 k) := by
  have h6 := @run_callFunc_extern Tryd.prog 133 _ (fun args => ReflectliteValue.unpack (args.getD 0 (.tuple #[]))) Tryd.func133 (by kernel_rfl) (by kernel_rfl) (by kernel_rfl) (by kernel_rfl)
  have h7 := @run_callFunc_extern Tryd.prog 134 _ (ReflectliteValue.methodAny (ReflectliteValue.valueError "reflectlite.Value.Type" 0) (fun t _ _ _ => ReflectliteType.toType t)) Tryd.func134 (by kernel_rfl) (by kernel_rfl) (by kernel_rfl) (by kernel_rfl)
  have h8 := @run_callFunc_extern Tryd.prog 135 _ (ReflectliteValue.method (ReflectliteValue.valueError "reflectlite.Value.IsNil" 0) ReflectliteValue.isNil) Tryd.func135 (by kernel_rfl) (by kernel_rfl) (by kernel_rfl) (by kernel_rfl)
  have h27 := @run_callFunc_extern Tryd.prog 159 _ (ReflectliteType.abiMethod fun t => do pure (.int .u8 (← Rtype.kind t))) Tryd.func159 (by kernel_rfl) (by kernel_rfl) (by kernel_rfl) (by kernel_rfl)
  have h37 := @run_callFunc_extern Tryd.prog 169 _ (ReflectliteType.method ReflectliteType.elem) Tryd.func169 (by kernel_rfl) (by kernel_rfl) (by kernel_rfl) (by kernel_rfl)
  have h38 := @run_callFunc_extern Tryd.prog 170 _ (ReflectliteType.relation "Implements" ReflectliteType.implements_) Tryd.func170 (by kernel_rfl) (by kernel_rfl) (by kernel_rfl) (by kernel_rfl)
  have h10 := @run_callFunc_extern Tryd.prog 141 _ (ReflectliteType.typeOf) Tryd.func141 (by kernel_rfl) (by kernel_rfl) (by kernel_rfl) (by kernel_rfl)
  have h35 := @run_callFunc_extern Tryd.prog 167 _ (ReflectliteType.relation "AssignableTo" ReflectliteType.assignableTo) Tryd.func167 (by kernel_rfl) (by kernel_rfl) (by kernel_rfl) (by kernel_rfl)
  have h11 := @run_callFunc_extern Tryd.prog 142 _ (ReflectliteValue.method (ReflectliteValue.valueError "reflectlite.Value.Elem" 0) ReflectliteValue.elem) Tryd.func142 (by kernel_rfl) (by kernel_rfl) (by kernel_rfl) (by kernel_rfl)
  have h12 := @run_callFunc_extern Tryd.prog 143 _ (ReflectliteValue.set) Tryd.func143 (by kernel_rfl) (by kernel_rfl) (by kernel_rfl) (by kernel_rfl)
  have tO := rl_typeof
  have mA := rl_assm
  have a25 := rl_ass
  have v25 := rl_valuee
  have f6 := rl_value
  have f7 := rl_type
  have mK := rl_kindm
  have mE := rl_elemm
  have mI := rl_implm
  have k27 := rl_kind
  have k25 := rl_kinde
  have e27 := rl_elem
  have i25 := rl_impl
  have n8 := rl_nil ⟨w.heap.size, 0, none⟩ t ((w.alloc (.cells #[.pointer (some t)] 146)).alloc (.cells #[.pointer (some ⟨3, 146, none⟩), .pointer (some ⟨w.heap.size, 0, none⟩), .int .u64 150] 156)) (by simp)
  have hg2 : ((w.alloc (.cells #[.pointer (some t)] 146)).alloc (.cells #[.pointer (some ⟨3, 146, none⟩), .pointer (some ⟨w.heap.size, 0, none⟩), .int .u64 150] 156)).cell? ⟨2, 0, none⟩ = some (.iface 172 (.agg #[.pointer (some ⟨3, 33, none⟩)])) := by
    rw [World.cell?_alloc_lt _ _ ⟨2, 0, none⟩ (by simp; omega), World.cell?_alloc_lt _ _ ⟨2, 0, none⟩ hgl]; exact hg
  have htl : t.block < w.heap.size := by
    rcases Nat.lt_or_ge t.block w.heap.size with h | h
    · exact h
    · simp [World.cell?, Array.getElem?_eq_none h] at ht0
  have el := rl_elemv ⟨w.heap.size, 0, none⟩ t (((w.alloc (.cells #[.pointer (some t)] 146)).alloc (.cells #[.pointer (some ⟨3, 146, none⟩), .pointer (some ⟨w.heap.size, 0, none⟩), .int .u64 150] 156)).alloc (.cells #[.pointer (some ⟨3, 146, none⟩), .pointer (some ⟨w.heap.size, 0, none⟩), .int .u64 150] 156)) (by rw [World.cell?_alloc_lt _ _ ⟨w.heap.size, 0, none⟩ (by simp; omega)]; simp)
  have st := rl_set t ⟨w.heap.size + 1 + 1 + 1, 0, none⟩ k old ((((w.alloc (.cells #[.pointer (some t)] 146)).alloc (.cells #[.pointer (some ⟨3, 146, none⟩), .pointer (some ⟨w.heap.size, 0, none⟩), .int .u64 150] 156)).alloc (.cells #[.pointer (some ⟨3, 146, none⟩), .pointer (some ⟨w.heap.size, 0, none⟩), .int .u64 150] 156)).alloc (.cells #[.int .i64 k] 114))
    (by rw [World.cell?_alloc_at _ _ _ _ (by simp)]; rfl)
    (by rw [World.cell?_alloc_lt _ _ t (by simp; omega), World.cell?_alloc_lt _ _ t (by simp; omega), World.cell?_alloc_lt _ _ t (by simp; omega), World.cell?_alloc_lt _ _ t htl]; exact ht0)
    (by rw [World.frozen?_alloc_old _ _ t (by simp; omega), World.frozen?_alloc_old _ _ t (by simp; omega), World.frozen?_alloc_old _ _ t (by simp; omega), World.frozen?_alloc_old _ _ t (Nat.ne_of_lt htl)]; exact hf0)
  go_enter Tryd.func116, Tryd.ntmps116
  go_wp2
  refine wp_loop_rounds 1 ?_
  rw [rounds_succ]
  go_wp2
  go_ret
  exact ⟨rfl, rfl⟩
/-- An error is told by its number. -/
theorem told_nil (w : World) : Calls Tryd.prog 72 #[.nilIface] w fun e w' => e = .returned (.int .i64 0) ∧ Below w.heap.size w w' := by
  go_enter Tryd.func72, Tryd.ntmps72
  go_wp2
  go_ret
  exact ⟨rfl, (by repeat (first | exact Below.refl _ _ | refine balloc ?_ _ | refine Below.drew ?_ | refine below_drewN ?_ _ | refine below_set ?_ (by first | omega | (dsimp only; omega)) _))⟩
set_option maxHeartbeats 4000000 in
theorem told_err (k : Int) (w : World) (hE : ErrAt w) : Calls Tryd.prog 72 #[.iface 114 (.int .i64 k)] w fun e w' => e = .returned (.int .i64 k) ∧ Below w.heap.size w w' := by
  go_enter Tryd.func72, Tryd.ntmps72
  go_wp2_with fail
  refine (as_hit k ⟨w.heap.size, 0, none⟩ (.int .i64 0) _ (by rw [World.cell?_alloc_lt _ _ ⟨2, 0, none⟩ hE.2]; exact hE.1) (by simp; have := hE.2; omega) (by simp) (by simp)).mono ?_; rintro e w1 ⟨rfl, hw⟩
  have hc : w1.cell? ⟨w.heap.size, 0, none⟩ = some (.int .i64 k) := by
    rw [hw]; refine World.cell?_setCell_same (u := .int .i64 0) _ _ _ ?_
    rw [World.cell?_alloc_lt _ _ ⟨w.heap.size, 0, none⟩ (by simp; omega), World.cell?_alloc_lt _ _ ⟨w.heap.size, 0, none⟩ (by simp; omega), World.cell?_alloc_lt _ _ ⟨w.heap.size, 0, none⟩ (by simp; omega), World.cell?_alloc_lt _ _ ⟨w.heap.size, 0, none⟩ (by simp)]; simp
  have hb : Below w.heap.size w w1 := by
    rw [hw]; exact below_set (balloc (balloc (balloc (balloc (below_alloc _ _) _) _) _) _) (Nat.le_refl _) _
  have hz := hb.size
  have hl : w.heap.size < w1.heap.size := by rw [hw]; simp; omega
  clear hw
  go_wp2
  go_ret
  exact ⟨rfl, hb⟩
theorem error_nil (n : Int) (w : World) (b : Bool) (h : Hid (((0 : Int) == n) = b)) : Calls Tryd.prog 15 #[.nilIface, .int .i64 n] w fun e w' => e = .returned (.bool b) ∧ Below w.heap.size w w' := by
  go_enter Tryd.func15, Tryd.ntmps15
  go_wp2_with fail
  refine (told_nil _).mono ?_; rintro e w1 ⟨rfl, hb⟩
  have he := h.out
  go_wp2
  go_ret
  exact ⟨rfl, hb⟩
theorem error_err (k n : Int) (w : World) (hE : ErrAt w) (b : Bool) (h : Hid ((k == n) = b)) : Calls Tryd.prog 15 #[.iface 114 (.int .i64 k), .int .i64 n] w fun e w' => e = .returned (.bool b) ∧ Below w.heap.size w w' := by
  go_enter Tryd.func15, Tryd.ntmps15
  go_wp2_with fail
  refine (told_err k _ hE).mono ?_; rintro e w1 ⟨rfl, hb⟩
  have he := h.out
  go_wp2
  go_ret
  exact ⟨rfl, hb⟩
/-- An error's value, by its number; it is told as that number. -/
theorem error_same (E : Value) (n : Int) (w : World) (hE : ErrAt w) (h : Hid (E = errV n)) : Calls Tryd.prog 15 #[E, .int .i64 n] w fun e w' => e = .returned (.bool true) ∧ Below w.heap.size w w' := by
  rw [h.out]; unfold errV
  split
  · next e => rw [e]; exact error_nil 0 w true rfl
  · exact error_err n n w hE true (by show _ = _; simp)
end Go.Proofs.YtahopffpajkfdaaDoor
namespace Go.Proofs.YtahopffpajkfdaaDoor
open Go.RowKit
set_option maxRecDepth 100000
set_option linter.unusedVariables false
set_option linter.unusedSimpArgs false
/-- A call, in every later world. -/
def AtL (w : World) (f : FuncId) (vs : Array Value) (r : Value) : Prop := ∀ w1 : World, Below w.heap.size w w1 → Calls Tryd.prog f vs w1 fun e w' => e = .returned r ∧ Below w1.heap.size w1 w'
/-- The document's weights, in every later world. -/
def AtW (w : World) (v : Value) (l : List Int) : Prop := ∀ w1 : World, Below w.heap.size w w1 → Calls Tryd.prog 18 #[v] w1 fun e w' => ∃ v', e = .returned v' ∧ IntF w1.heap.size w' v' l ∧ Below w1.heap.size w1 w'
/-- Keys of shares, in every later world. -/
def AtQ (w : World) (v : Value) (E : Value) (l : List Sp) : Prop := ∀ w1 : World, Below w.heap.size w w1 → Calls Tryd.prog 22 #[v] w1 fun e w' => ∃ v', e = .returned (.tuple #[v', E]) ∧ SpSl w' v' l ∧ Below w1.heap.size w1 w'
theorem SpAt.other3 {w : World} {b c o : Nat} {s : Sp} (h : SpAt w b s) (x : Value) (hne : c ≠ b) : SpAt (w.setCell ⟨c, o, none⟩ x) b s := by
  have e : ∀ k, (w.setCell ⟨c, o, none⟩ x).cell? ⟨b, k, none⟩ = w.cell? ⟨b, k, none⟩ := fun k => by rw [World.cell?_setCell_other (h := fun e => hne (congrArg Addr.block e))]
  exact ⟨(e 0).trans h.c0, (e 1).trans h.c1, (e 2).trans h.c2, by simp only [World.frozen?_setCell]; exact h.f0, by simp only [World.frozen?_setCell]; exact h.f1, by simp only [World.frozen?_setCell]; exact h.f2, by simpa [World.setCell] using h.lt⟩
theorem SpSl.none0 (w : World) : SpSl w (.slice none 0 0) [] := ⟨none, 0, rfl, fun h => absurd h (Nat.lt_irrefl 0)⟩
set_option maxHeartbeats 64000000 in
theorem qt_core (x y : Int) (t : ByteArray) (a2 a3 a4 : Option Addr) (n c2 c3 c4 : Nat) (parts : List Sp) (l : List (Int × Int)) (w : World) (hF : FarAt w) (hE : ErrAt w)
    (b : Bool) (hb : Hid ((secB x && resB y) = b)) (E1 : Int) (W1 : Sp)
    (h1 : Hid ((b = false ∧ E1 = 1 ∧ W1 = ⟨0, 0, false⟩) ∨ (b = true ∧ decide ((60 : Int) < (t.size : Int)) = true ∧ E1 = 4 ∧ W1 = ⟨0, 0, false⟩) ∨ (b = true ∧ decide ((60 : Int) < (t.size : Int)) = false ∧ E1 = 0 ∧ ∃ A : Sp, AtL w 13 #[.string t] (spV A) ∧ AtL w 12 #[spV A, .int .i64 y] (spV W1))))
    (kP : Hid (AtL w 14 #[.agg #[.int .i64 x, .int .i64 y], .string t] (.tuple #[spV W1, errV E1])))
    (hm : parts.length ≤ 9223372036854775807) (hs3 : Hid (0 < parts.length → ∃ b off, a3 = some ⟨b, off, none⟩ ∧ SpotsAt w b off parts))
    (E0 E2 : Int) (W2 : Sp)
    (h2a : Hid ((((n : Int) != (parts.length : Int)) = true ∧ E0 = 3) ∨ (((n : Int) != (parts.length : Int)) = false ∧ AtL w 16 #[.slice a2 n c2] (.int .i64 E0))))
    (h2b : Hid (((E0 == 0) = false ∧ E2 = E0) ∨ (E0 = 0 ∧ ∃ k, k ≤ parts.length ∧ (∀ i (h : i < parts.length), i < k → sCheck parts[i] = 0) ∧ (∀ h : k < parts.length, sCheck parts[k] = E2 ∧ (E2 == 0) = false) ∧ (k = parts.length → E2 = 0))))
    (h2c : Hid (((E2 == 0) = false ∧ W2 = ⟨0, 0, false⟩) ∨ (E2 = 0 ∧ ∃ us ws : List Int, parts = us.map sq ∧ ws.length = parts.length ∧ (∀ i (h : i < ws.length), 0 ≤ ws[i] ∧ ws[i] < 1013) ∧ AtW w (.slice a2 n c2) ws ∧ sq (dot us ws) = W2)))
    (kJ : Hid (AtL w 20 #[.slice a2 n c2, .slice a3 parts.length c3] (.tuple #[spV W2, errV E2])))
    (hl : l.length ≤ 9223372036854775807) (hs4 : Hid (0 < l.length → ∃ b off, a4 = some ⟨b, off, none⟩ ∧ ShsAt w b off l))
    (E30 E3 : Int) (KL : List Sp) (hKl : Hid (KL.length ≤ 1000000))
    (B12 : Bool) (hB12 : decide ((12 : Int) < (l.length : Int)) = B12)
    (h3a : Hid ((B12 = true ∧ E30 = 4) ∨ (B12 = false ∧ E30 = 0)))
    (h3b : Hid ((E30 = 4 ∧ E3 = 4 ∧ KL = [] ∧ 0 < l.length) ∨ (E30 = 0 ∧ l.length ≤ 12 ∧ ∃ k, k ≤ l.length ∧ (∀ i (h : i < l.length), i < k → (secB l[i].1 && resB l[i].2) = true) ∧ (∀ h : k < l.length, (secB l[k].1 && resB l[k].2) = false ∧ E3 = 1 ∧ KL = []) ∧ (k = l.length → E3 = 0 ∧ KL = l.map fun s => sq (4 * s.2)))))
    (kQ : Hid (AtQ w (.slice a4 l.length c4) (errV E3) KL)) :
    Calls Tryd.prog 3 #[.agg #[.int .i64 x, .int .i64 y], .string t, .slice a2 n c2, .slice a3 parts.length c3, .slice a4 l.length c4] w fun e w' => e = .returned (.bool true) ∧ Below w.heap.size w w' := by
  go_enter Tryd.func3, Tryd.ntmps3
  go_wp2_with fail
  refine (rShare_b x y b _ hb).mono ?_; rintro e w1 ⟨rfl, hb⟩
  obtain ⟨hc1, hf1⟩ := bcell hb
  have z1 := hb.size
  try simp only [World.size_alloc, World.size_setCell, World.size_drew] at z1
  have s1_0 : w.heap.size < w1.heap.size := by omega
  have hB1 : Below w.heap.size w w1 := below_seq (by repeat (first | exact Below.refl _ _ | refine balloc ?_ _ | refine Below.drew ?_ | refine below_drewN ?_ _ | refine below_set ?_ (by first | omega | (dsimp only; omega)) _)) hb
  clear hb
  have m1_0_0 : w1.cell? ⟨w.heap.size, 0, none⟩ = some (.int .i64 x) := by go_simp
  have m1_0_1 : w1.cell? ⟨w.heap.size, 1, none⟩ = some (.int .i64 y) := by go_simp
  clear hc1
  go_upto_if 30 with fail
  go_cut [11] (fun s11 wx => s11 = .int .i64 E1 ∧ Below w.heap.size w wx ∧ w.heap.size < wx.heap.size ∧ w1.heap.size < wx.heap.size ∧ wx.cell? ⟨w.heap.size, 0, none⟩ = some (.int .i64 x) ∧ wx.cell? ⟨w.heap.size, 1, none⟩ = some (.int .i64 y) ∧ wx.cell? ⟨w1.heap.size, 0, none⟩ = some (.int .i64 W1.x) ∧ wx.cell? ⟨w1.heap.size, 1, none⟩ = some (.int .i64 W1.y) ∧ wx.cell? ⟨w1.heap.size, 2, none⟩ = some (.bool W1.far) ∧ wx.frozen? ⟨w1.heap.size, 0, none⟩ = false ∧ wx.frozen? ⟨w1.heap.size, 1, none⟩ = false ∧ wx.frozen? ⟨w1.heap.size, 2, none⟩ = false)
  case first =>
    rcases h1.out with ⟨e1, e2, e3⟩ | ⟨e1, e2, e3, e4⟩ | ⟨e1, e2, e3, A, e4, e5⟩
    · subst e1 e2 e3
      clear h1
      go_wp2_with fail
      go_meet
      exact ⟨rfl, (by repeat (first | exact hB1 | exact Below.refl _ _ | refine balloc ?_ _ | refine Below.drew ?_ | refine below_drewN ?_ _ | refine below_set ?_ (by first | omega | (dsimp only; omega)) _)), (by first | omega | (simp only [World.size_alloc, World.size_setCell, World.size_drew]; omega)), (by first | omega | (simp only [World.size_alloc, World.size_setCell, World.size_drew]; omega)), (by go_simp), (by go_simp), (by go_simp), (by go_simp), (by go_simp), (by go_simp), (by go_simp), (by go_simp)⟩
    · subst e1 e3 e4
      clear h1
      go_wp2_with fail
      go_meet
      exact ⟨rfl, (by repeat (first | exact hB1 | exact Below.refl _ _ | refine balloc ?_ _ | refine Below.drew ?_ | refine below_drewN ?_ _ | refine below_set ?_ (by first | omega | (dsimp only; omega)) _)), (by first | omega | (simp only [World.size_alloc, World.size_setCell, World.size_drew]; omega)), (by first | omega | (simp only [World.size_alloc, World.size_setCell, World.size_drew]; omega)), (by go_simp), (by go_simp), (by go_simp), (by go_simp), (by go_simp), (by go_simp), (by go_simp), (by go_simp)⟩
    · subst e1 e3
      replace e4 := Lib.hid e4
      replace e5 := Lib.hid e5
      clear h1
      go_wp2_with fail
      refine wp_region_grow_tail 5 Tryd.mixed (by kernel_rfl) ?_
      simp only [List.take_succ_cons, List.take_zero, List.drop_succ_cons, List.drop_zero]
      repeat (quiet_step ((first | (go_at_call 13; exact grow_of (e4.out _ (below_seq (by repeat (first | exact hB1 | exact Below.refl _ _ | refine balloc ?_ _ | refine Below.drew ?_ | refine below_drewN ?_ _ | refine below_set ?_ (by first | omega | (dsimp only; omega)) _)) (Grew.h _)))) | (go_at_call 12; exact grow_of (e5.out _ (below_seq (by repeat (first | exact hB1 | exact Below.refl _ _ | refine balloc ?_ _ | refine Below.drew ?_ | refine below_drewN ?_ _ | refine below_set ?_ (by first | omega | (dsimp only; omega)) _)) (Grew.h _)))))))
      refine wpQuiet_nil ?_
      intro _ hw'
      obtain ⟨x2, rfl⟩ := hw'
      have z2 := x2.h.size
      try simp only [World.size_alloc, World.size_setCell, World.size_drew] at z2
      have s2_0 : w.heap.size < x2.w.heap.size := by omega
      have s2_1 : w1.heap.size < x2.w.heap.size := by omega
      have hB2 : Below w.heap.size w x2.w := below_seq (by repeat (first | exact hB1 | exact Below.refl _ _ | refine balloc ?_ _ | refine Below.drew ?_ | refine below_drewN ?_ _ | refine below_set ?_ (by first | omega | (dsimp only; omega)) _)) x2.h
      have m2_0_0 : x2.w.cell? ⟨w.heap.size, 0, none⟩ = some (.int .i64 x) := by go_simp
      have m2_0_1 : x2.w.cell? ⟨w.heap.size, 1, none⟩ = some (.int .i64 y) := by go_simp
      have m2_1_0 : x2.w.cell? ⟨w1.heap.size, 0, none⟩ = some (.int .i64 0) := by go_simp
      have m2_1_1 : x2.w.cell? ⟨w1.heap.size, 1, none⟩ = some (.int .i64 0) := by go_simp
      have m2_1_2 : x2.w.cell? ⟨w1.heap.size, 2, none⟩ = some (.bool false) := by go_simp
      clear m1_0_0 m1_0_1
      go_wp2_with fail
      go_meet
      exact ⟨rfl, (by repeat (first | exact hB2 | exact Below.refl _ _ | refine balloc ?_ _ | refine Below.drew ?_ | refine below_drewN ?_ _ | refine below_set ?_ (by first | omega | (dsimp only; omega)) _)), (by first | omega | (simp only [World.size_alloc, World.size_setCell, World.size_drew]; omega)), (by first | omega | (simp only [World.size_alloc, World.size_setCell, World.size_drew]; omega)), (by go_simp), (by go_simp), (by go_simp), (by go_simp), (by go_simp), (by go_simp), (by go_simp), (by go_simp)⟩
  case rest =>
    obtain ⟨w2, hwq⟩ : ∃ x, x = wc := ⟨_, rfl⟩
    subst hwq
    obtain ⟨rfl, hB2, s2_0, s2_1, m2_0_0, m2_0_1, m2_1_0, m2_1_1, m2_1_2, y2_0_0, y2_0_1, y2_0_2⟩ := hcut
    clear m1_0_0 m1_0_1
    clear h1
    go_wp2_with fail
    refine (kP.out _ (by repeat (first | exact hB2 | exact Below.refl _ _ | refine balloc ?_ _ | refine Below.drew ?_ | refine below_drewN ?_ _ | refine below_set ?_ (by first | omega | (dsimp only; omega)) _))).mono ?_; rintro e w3 ⟨rfl, hb⟩
    obtain ⟨hc3, hf3⟩ := bcell hb
    have z3 := hb.size
    try simp only [World.size_alloc, World.size_setCell, World.size_drew] at z3
    have s3_0 : w.heap.size < w3.heap.size := by omega
    have s3_1 : w1.heap.size < w3.heap.size := by omega
    have hB3 : Below w.heap.size w w3 := below_seq (by repeat (first | exact hB2 | exact Below.refl _ _ | refine balloc ?_ _ | refine Below.drew ?_ | refine below_drewN ?_ _ | refine below_set ?_ (by first | omega | (dsimp only; omega)) _)) hb
    clear hb
    have m3_0_0 : w3.cell? ⟨w.heap.size, 0, none⟩ = some (.int .i64 x) := by go_simp
    have m3_0_1 : w3.cell? ⟨w.heap.size, 1, none⟩ = some (.int .i64 y) := by go_simp
    have m3_1_0 : w3.cell? ⟨w1.heap.size, 0, none⟩ = some (.int .i64 W1.x) := by go_simp
    have m3_1_1 : w3.cell? ⟨w1.heap.size, 1, none⟩ = some (.int .i64 W1.y) := by go_simp
    have m3_1_2 : w3.cell? ⟨w1.heap.size, 2, none⟩ = some (.bool W1.far) := by go_simp
    clear m2_0_0 m2_0_1 m2_1_0 m2_1_1 m2_1_2
    clear hc3
    go_wp2_with fail
    refine (error_same (errV E1) E1 _ (hE.below (by repeat (first | exact hB3 | exact Below.refl _ _ | refine balloc ?_ _ | refine Below.drew ?_ | refine below_drewN ?_ _ | refine below_set ?_ (by first | omega | (dsimp only; omega)) _))) (Lib.hid rfl)).mono ?_; rintro e w4 ⟨rfl, hb⟩
    obtain ⟨hc4, hf4⟩ := bcell hb
    have z4 := hb.size
    try simp only [World.size_alloc, World.size_setCell, World.size_drew] at z4
    have s4_0 : w.heap.size < w4.heap.size := by omega
    have s4_1 : w1.heap.size < w4.heap.size := by omega
    have s4_2 : w3.heap.size < w4.heap.size := by omega
    have hB4 : Below w.heap.size w w4 := below_seq (by repeat (first | exact hB3 | exact Below.refl _ _ | refine balloc ?_ _ | refine Below.drew ?_ | refine below_drewN ?_ _ | refine below_set ?_ (by first | omega | (dsimp only; omega)) _)) hb
    clear hb
    have m4_0_0 : w4.cell? ⟨w1.heap.size, 0, none⟩ = some (.int .i64 W1.x) := by go_simp
    have m4_0_1 : w4.cell? ⟨w1.heap.size, 1, none⟩ = some (.int .i64 W1.y) := by go_simp
    have m4_0_2 : w4.cell? ⟨w1.heap.size, 2, none⟩ = some (.bool W1.far) := by go_simp
    have m4_1_0 : w4.cell? ⟨w3.heap.size, 0, none⟩ = some (.int .i64 W1.x) := by go_simp
    have m4_1_1 : w4.cell? ⟨w3.heap.size, 1, none⟩ = some (.int .i64 W1.y) := by go_simp
    have m4_1_2 : w4.cell? ⟨w3.heap.size, 2, none⟩ = some (.bool W1.far) := by go_simp
    clear m3_0_0 m3_0_1 m3_1_0 m3_1_1 m3_1_2
    clear hc4
    go_upto_if 58 with fail
    go_cut [11] (fun s11 wx => s11 = .int .i64 E0 ∧ Below w.heap.size w wx ∧ w.heap.size < wx.heap.size ∧ w1.heap.size < wx.heap.size ∧ w3.heap.size < wx.heap.size ∧ wx.cell? ⟨w3.heap.size, 0, none⟩ = some (.int .i64 W1.x) ∧ wx.cell? ⟨w3.heap.size, 1, none⟩ = some (.int .i64 W1.y) ∧ wx.cell? ⟨w3.heap.size, 2, none⟩ = some (.bool W1.far) ∧ wx.cell? ⟨w1.heap.size, 0, none⟩ = some (.int .i64 0) ∧ wx.cell? ⟨w1.heap.size, 1, none⟩ = some (.int .i64 0) ∧ wx.cell? ⟨w1.heap.size, 2, none⟩ = some (.bool false) ∧ wx.frozen? ⟨w1.heap.size, 0, none⟩ = false ∧ wx.frozen? ⟨w1.heap.size, 1, none⟩ = false ∧ wx.frozen? ⟨w1.heap.size, 2, none⟩ = false ∧ wx.frozen? ⟨w3.heap.size, 0, none⟩ = false ∧ wx.frozen? ⟨w3.heap.size, 1, none⟩ = false ∧ wx.frozen? ⟨w3.heap.size, 2, none⟩ = false)
    case first =>
      rcases h2a.out with ⟨e1, e2⟩ | ⟨e1, e2⟩
      · subst e2
        clear h2a
        go_wp2_with fail
        go_meet
        exact ⟨rfl, (by repeat (first | exact hB4 | exact Below.refl _ _ | refine balloc ?_ _ | refine Below.drew ?_ | refine below_drewN ?_ _ | refine below_set ?_ (by first | omega | (dsimp only; omega)) _)), (by first | omega | (simp only [World.size_alloc, World.size_setCell, World.size_drew]; omega)), (by first | omega | (simp only [World.size_alloc, World.size_setCell, World.size_drew]; omega)), (by first | omega | (simp only [World.size_alloc, World.size_setCell, World.size_drew]; omega)), (by go_simp), (by go_simp), (by go_simp), (by go_simp), (by go_simp), (by go_simp), (by go_simp), (by go_simp), (by go_simp), (by go_simp), (by go_simp), (by go_simp)⟩
      · replace e2 := Lib.hid e2
        clear h2a
        go_wp2_with fail
        refine (e2.out _ (by repeat (first | exact hB4 | exact Below.refl _ _ | refine balloc ?_ _ | refine Below.drew ?_ | refine below_drewN ?_ _ | refine below_set ?_ (by first | omega | (dsimp only; omega)) _))).mono ?_; rintro e w5 ⟨rfl, hb⟩
        obtain ⟨hc5, hf5⟩ := bcell hb
        have z5 := hb.size
        try simp only [World.size_alloc, World.size_setCell, World.size_drew] at z5
        have s5_0 : w.heap.size < w5.heap.size := by omega
        have s5_1 : w1.heap.size < w5.heap.size := by omega
        have s5_2 : w3.heap.size < w5.heap.size := by omega
        have hB5 : Below w.heap.size w w5 := below_seq (by repeat (first | exact hB4 | exact Below.refl _ _ | refine balloc ?_ _ | refine Below.drew ?_ | refine below_drewN ?_ _ | refine below_set ?_ (by first | omega | (dsimp only; omega)) _)) hb
        clear hb
        have m5_0_0 : w5.cell? ⟨w3.heap.size, 0, none⟩ = some (.int .i64 W1.x) := by go_simp
        have m5_0_1 : w5.cell? ⟨w3.heap.size, 1, none⟩ = some (.int .i64 W1.y) := by go_simp
        have m5_0_2 : w5.cell? ⟨w3.heap.size, 2, none⟩ = some (.bool W1.far) := by go_simp
        have m5_1_0 : w5.cell? ⟨w1.heap.size, 0, none⟩ = some (.int .i64 0) := by go_simp
        have m5_1_1 : w5.cell? ⟨w1.heap.size, 1, none⟩ = some (.int .i64 0) := by go_simp
        have m5_1_2 : w5.cell? ⟨w1.heap.size, 2, none⟩ = some (.bool false) := by go_simp
        clear m4_0_0 m4_0_1 m4_0_2 m4_1_0 m4_1_1 m4_1_2
        clear hc5
        go_wp2_with fail
        go_meet
        exact ⟨rfl, (by repeat (first | exact hB5 | exact Below.refl _ _ | refine balloc ?_ _ | refine Below.drew ?_ | refine below_drewN ?_ _ | refine below_set ?_ (by first | omega | (dsimp only; omega)) _)), (by first | omega | (simp only [World.size_alloc, World.size_setCell, World.size_drew]; omega)), (by first | omega | (simp only [World.size_alloc, World.size_setCell, World.size_drew]; omega)), (by first | omega | (simp only [World.size_alloc, World.size_setCell, World.size_drew]; omega)), (by go_simp), (by go_simp), (by go_simp), (by go_simp), (by go_simp), (by go_simp), (by go_simp), (by go_simp), (by go_simp), (by go_simp), (by go_simp), (by go_simp)⟩
    case rest =>
      obtain ⟨w5, hwq⟩ : ∃ x, x = wc := ⟨_, rfl⟩
      subst hwq
      obtain ⟨rfl, hB5, s5_0, s5_1, s5_2, m5_0_0, m5_0_1, m5_0_2, m5_1_0, m5_1_1, m5_1_2, y5_0_0, y5_0_1, y5_0_2, y5_1_0, y5_1_1, y5_1_2⟩ := hcut
      clear m4_0_0 m4_0_1 m4_0_2 m4_1_0 m4_1_1 m4_1_2
      clear h2a
      go_upto_block 0 with fail
      go_cut [11, 17] (fun s11 s17 wx => s11 = .int .i64 E2 ∧ Below w.heap.size w wx ∧ w.heap.size < wx.heap.size ∧ w1.heap.size < wx.heap.size ∧ w3.heap.size < wx.heap.size ∧ wx.cell? ⟨w3.heap.size, 0, none⟩ = some (.int .i64 W1.x) ∧ wx.cell? ⟨w3.heap.size, 1, none⟩ = some (.int .i64 W1.y) ∧ wx.cell? ⟨w3.heap.size, 2, none⟩ = some (.bool W1.far) ∧ wx.cell? ⟨w1.heap.size, 0, none⟩ = some (.int .i64 0) ∧ wx.cell? ⟨w1.heap.size, 1, none⟩ = some (.int .i64 0) ∧ wx.cell? ⟨w1.heap.size, 2, none⟩ = some (.bool false) ∧ wx.frozen? ⟨w1.heap.size, 0, none⟩ = false ∧ wx.frozen? ⟨w1.heap.size, 1, none⟩ = false ∧ wx.frozen? ⟨w1.heap.size, 2, none⟩ = false ∧ wx.frozen? ⟨w3.heap.size, 0, none⟩ = false ∧ wx.frozen? ⟨w3.heap.size, 1, none⟩ = false ∧ wx.frozen? ⟨w3.heap.size, 2, none⟩ = false)
      case first =>
        rcases h2b.out with ⟨e1, e2⟩ | ⟨e1, k, hk, e3, e4, e5⟩
        · subst e2
          clear h2b h2c
          rcases Nat.eq_zero_or_pos parts.length with hm0 | hm0
          · have g1 : decide ((0 : Int) < (parts.length : Int)) = false := by rw [decide_eq_false_iff_not]; omega
            go_wp2_with fail
            refine wp_loop_rounds 1 ?_
            rw [rounds_succ]
            go_wp2_with fail
            go_meet
            exact ⟨rfl, (by repeat (first | exact hB5 | exact Below.refl _ _ | refine balloc ?_ _ | refine Below.drew ?_ | refine below_drewN ?_ _ | refine below_set ?_ (by first | omega | (dsimp only; omega)) _)), (by first | omega | (simp only [World.size_alloc, World.size_setCell, World.size_drew]; omega)), (by first | omega | (simp only [World.size_alloc, World.size_setCell, World.size_drew]; omega)), (by first | omega | (simp only [World.size_alloc, World.size_setCell, World.size_drew]; omega)), (by go_simp), (by go_simp), (by go_simp), (by go_simp), (by go_simp), (by go_simp), (by go_simp), (by go_simp), (by go_simp), (by go_simp), (by go_simp), (by go_simp)⟩
          · have g1 : decide ((0 : Int) < (parts.length : Int)) = true := by rw [decide_eq_true_iff]; omega
            go_wp2_with fail
            refine wp_loop_rounds 1 ?_
            rw [rounds_succ]
            go_wp2_with fail
            go_meet
            exact ⟨rfl, (by repeat (first | exact hB5 | exact Below.refl _ _ | refine balloc ?_ _ | refine Below.drew ?_ | refine below_drewN ?_ _ | refine below_set ?_ (by first | omega | (dsimp only; omega)) _)), (by first | omega | (simp only [World.size_alloc, World.size_setCell, World.size_drew]; omega)), (by first | omega | (simp only [World.size_alloc, World.size_setCell, World.size_drew]; omega)), (by first | omega | (simp only [World.size_alloc, World.size_setCell, World.size_drew]; omega)), (by go_simp), (by go_simp), (by go_simp), (by go_simp), (by go_simp), (by go_simp), (by go_simp), (by go_simp), (by go_simp), (by go_simp), (by go_simp), (by go_simp)⟩
        · subst e1
          replace e3 := Lib.hid e3
          replace e4 := Lib.hid e4
          replace e5 := Lib.hid e5
          clear h2b h2c
          go_wp2_with fail
          go_loopw [11, 17] (fun e i wr => ∃ q : Nat, q ≤ parts.length ∧ i = .int .i64 q ∧ ((q ≤ k ∧ e = .int .i64 0) ∨ (k < parts.length ∧ q = k + 1 ∧ e = .int .i64 E2)) ∧ Below w5.heap.size w5 wr) (fun _ i _ => parts.length - (intOf i).toNat)
          case atStart => exact ⟨0, Nat.zero_le _, rfl, .inl ⟨Nat.zero_le _, rfl⟩, Below.refl _ _⟩
          case round =>
            obtain ⟨q, hq, rfl, hcase, hbr⟩ := hrel
            have hBr : Below w.heap.size w wr := below_seq hB5 hbr
            rcases hcase with ⟨hqk, rfl⟩ | ⟨hkm, rfl, rfl⟩
            · by_cases hqm : q < parts.length
              · obtain ⟨b3, o3, rfl, hs⟩ := hs3.out (by omega)
                have hs := hs.below hBr
                have l1 := hs.cx q hqm
                have l2 := hs.cy q hqm
                have l3 := hs.cf q hqm
                have l4 := hs.lt
                clear hs
                by_cases hqk2 : q < k
                · have ho := Lib.hid (e3.out q hqm hqk2)
                  clear e4 e5
                  generalize parts[q] = A at *
                  go_wp2_with fail
                  refine (refSpot_e A 0 _ ho).mono ?_; rintro e w6 ⟨rfl, hb6⟩
                  clear l1 l2 l3 l4
                  go_wp2
                  go_roundw
                  case rel => exact ⟨q + 1, by omega, by go_num, .inl ⟨by omega, rfl⟩, below_seq hbr hb6⟩
                  case measure => simp [intOf]; omega
                · obtain rfl : q = k := by omega
                  obtain ⟨ho, h0⟩ := e4.out hqm
                  replace ho := Lib.hid ho
                  clear e4 e5
                  generalize parts[q] = A at *
                  go_wp2_with fail
                  refine (refSpot_e A E2 _ ho).mono ?_; rintro e w6 ⟨rfl, hb6⟩
                  clear l1 l2 l3 l4
                  go_wp2
                  go_roundw
                  case rel => exact ⟨q + 1, by omega, by go_num, .inr ⟨hqm, rfl, rfl⟩, below_seq hbr hb6⟩
                  case measure => simp [intOf]; omega
              · obtain rfl : q = k := by omega
                have hE2 : E2 = 0 := e5.out (by omega)
                clear e4 e5 e3
                subst hE2
                have g1 : decide ((q : Int) < (parts.length : Int)) = false := by rw [decide_eq_false_iff_not]; omega
                obtain ⟨hcr, hfr⟩ := bcell hbr
                have zr := hbr.size
                go_wp2_with fail
                go_meet
                exact ⟨rfl, (by repeat (first | exact hBr | exact Below.refl _ _ | refine balloc ?_ _ | refine Below.drew ?_ | refine below_drewN ?_ _ | refine below_set ?_ (by first | omega | (dsimp only; omega)) _)), (by first | omega | (simp only [World.size_alloc, World.size_setCell, World.size_drew]; omega)), (by first | omega | (simp only [World.size_alloc, World.size_setCell, World.size_drew]; omega)), (by first | omega | (simp only [World.size_alloc, World.size_setCell, World.size_drew]; omega)), (by go_simp), (by go_simp), (by go_simp), (by go_simp), (by go_simp), (by go_simp), (by go_simp), (by go_simp), (by go_simp), (by go_simp), (by go_simp), (by go_simp)⟩
            · obtain ⟨-, h0⟩ := e4.out hkm
              clear e4 e5 e3
              obtain ⟨hcr, hfr⟩ := bcell hbr
              have zr := hbr.size
              by_cases hkl : k + 1 < parts.length
              · have g1 : decide (((k + 1 : Nat) : Int) < (parts.length : Int)) = true := by rw [decide_eq_true_iff]; omega
                go_wp2_with fail
                go_meet
                exact ⟨rfl, (by repeat (first | exact hBr | exact Below.refl _ _ | refine balloc ?_ _ | refine Below.drew ?_ | refine below_drewN ?_ _ | refine below_set ?_ (by first | omega | (dsimp only; omega)) _)), (by first | omega | (simp only [World.size_alloc, World.size_setCell, World.size_drew]; omega)), (by first | omega | (simp only [World.size_alloc, World.size_setCell, World.size_drew]; omega)), (by first | omega | (simp only [World.size_alloc, World.size_setCell, World.size_drew]; omega)), (by go_simp), (by go_simp), (by go_simp), (by go_simp), (by go_simp), (by go_simp), (by go_simp), (by go_simp), (by go_simp), (by go_simp), (by go_simp), (by go_simp)⟩
              · have g1 : decide (((k + 1 : Nat) : Int) < (parts.length : Int)) = false := by rw [decide_eq_false_iff_not]; omega
                go_wp2_with fail
                go_meet
                exact ⟨rfl, (by repeat (first | exact hBr | exact Below.refl _ _ | refine balloc ?_ _ | refine Below.drew ?_ | refine below_drewN ?_ _ | refine below_set ?_ (by first | omega | (dsimp only; omega)) _)), (by first | omega | (simp only [World.size_alloc, World.size_setCell, World.size_drew]; omega)), (by first | omega | (simp only [World.size_alloc, World.size_setCell, World.size_drew]; omega)), (by first | omega | (simp only [World.size_alloc, World.size_setCell, World.size_drew]; omega)), (by go_simp), (by go_simp), (by go_simp), (by go_simp), (by go_simp), (by go_simp), (by go_simp), (by go_simp), (by go_simp), (by go_simp), (by go_simp), (by go_simp)⟩
      case rest =>
        obtain ⟨w6, hwq⟩ : ∃ x, x = wc := ⟨_, rfl⟩
        subst hwq
        obtain ⟨rfl, hB6, s6_0, s6_1, s6_2, m6_0_0, m6_0_1, m6_0_2, m6_1_0, m6_1_1, m6_1_2, y6_0_0, y6_0_1, y6_0_2, y6_1_0, y6_1_1, y6_1_2⟩ := hcut
        clear m5_0_0 m5_0_1 m5_0_2 m5_1_0 m5_1_1 m5_1_2
        clear h2b
        go_upto_if 77 with fail
        go_cut [18, 19] (fun s18 s19 wx => True ∧ Below w.heap.size w wx ∧ w.heap.size < wx.heap.size ∧ w1.heap.size < wx.heap.size ∧ w3.heap.size < wx.heap.size ∧ wx.cell? ⟨w3.heap.size, 0, none⟩ = some (.int .i64 W1.x) ∧ wx.cell? ⟨w3.heap.size, 1, none⟩ = some (.int .i64 W1.y) ∧ wx.cell? ⟨w3.heap.size, 2, none⟩ = some (.bool W1.far) ∧ wx.cell? ⟨w1.heap.size, 0, none⟩ = some (.int .i64 W2.x) ∧ wx.cell? ⟨w1.heap.size, 1, none⟩ = some (.int .i64 W2.y) ∧ wx.cell? ⟨w1.heap.size, 2, none⟩ = some (.bool W2.far) ∧ wx.frozen? ⟨w1.heap.size, 0, none⟩ = false ∧ wx.frozen? ⟨w1.heap.size, 1, none⟩ = false ∧ wx.frozen? ⟨w1.heap.size, 2, none⟩ = false ∧ wx.frozen? ⟨w3.heap.size, 0, none⟩ = false ∧ wx.frozen? ⟨w3.heap.size, 1, none⟩ = false ∧ wx.frozen? ⟨w3.heap.size, 2, none⟩ = false)
        case first =>
          rcases h2c.out with ⟨e1, e2⟩ | ⟨e1, us, ws, e3, e4, e6, e5, e7⟩
          · subst e2
            clear h2c
            go_wp2_with fail
            go_meet
            exact ⟨trivial, (by repeat (first | exact hB6 | exact Below.refl _ _ | refine balloc ?_ _ | refine Below.drew ?_ | refine below_drewN ?_ _ | refine below_set ?_ (by first | omega | (dsimp only; omega)) _)), (by first | omega | (simp only [World.size_alloc, World.size_setCell, World.size_drew]; omega)), (by first | omega | (simp only [World.size_alloc, World.size_setCell, World.size_drew]; omega)), (by first | omega | (simp only [World.size_alloc, World.size_setCell, World.size_drew]; omega)), (by go_simp), (by go_simp), (by go_simp), (by go_simp), (by go_simp), (by go_simp), (by go_simp), (by go_simp), (by go_simp), (by go_simp), (by go_simp), (by go_simp)⟩
          · subst e1
            replace e3 := Lib.hid e3
            replace e5 := Lib.hid e5
            replace e6 := Lib.hid e6
            replace e7 := Lib.hid e7
            clear h2c
            go_wp2_with fail
            refine (e5.out _ (by repeat (first | exact hB6 | exact Below.refl _ _ | refine balloc ?_ _ | refine Below.drew ?_ | refine below_drewN ?_ _ | refine below_set ?_ (by first | omega | (dsimp only; omega)) _))).mono ?_; rintro e w7 ⟨vw, rfl, hiw, hb⟩; replace hiw := Lib.hid hiw
            obtain ⟨hc7, hf7⟩ := bcell hb
            have z7 := hb.size
            try simp only [World.size_alloc, World.size_setCell, World.size_drew] at z7
            have s7_0 : w.heap.size < w7.heap.size := by omega
            have s7_1 : w1.heap.size < w7.heap.size := by omega
            have s7_2 : w3.heap.size < w7.heap.size := by omega
            have hB7 : Below w.heap.size w w7 := below_seq (by repeat (first | exact hB6 | exact Below.refl _ _ | refine balloc ?_ _ | refine Below.drew ?_ | refine below_drewN ?_ _ | refine below_set ?_ (by first | omega | (dsimp only; omega)) _)) hb
            clear hb
            have m7_0_0 : w7.cell? ⟨w3.heap.size, 0, none⟩ = some (.int .i64 W1.x) := by go_simp
            have m7_0_1 : w7.cell? ⟨w3.heap.size, 1, none⟩ = some (.int .i64 W1.y) := by go_simp
            have m7_0_2 : w7.cell? ⟨w3.heap.size, 2, none⟩ = some (.bool W1.far) := by go_simp
            have m7_1_0 : w7.cell? ⟨w1.heap.size, 0, none⟩ = some (.int .i64 0) := by go_simp
            have m7_1_1 : w7.cell? ⟨w1.heap.size, 1, none⟩ = some (.int .i64 0) := by go_simp
            have m7_1_2 : w7.cell? ⟨w1.heap.size, 2, none⟩ = some (.bool false) := by go_simp
            clear m6_0_0 m6_0_1 m6_0_2 m6_1_0 m6_1_1 m6_1_2
            clear hc7
            have hA0 : SpAt w7 w1.heap.size ⟨0, 0, false⟩ := ⟨by go_simp, by go_simp, by go_simp, by go_simp, by go_simp, by go_simp, by omega⟩
            have hP0 : SpAt w7 w3.heap.size W1 := ⟨by go_simp, by go_simp, by go_simp, by go_simp, by go_simp, by go_simp, by omega⟩
            have hne : w1.heap.size ≠ w3.heap.size := by omega
            have hlen : us.length = parts.length := by rw [e3.out, List.length_map]
            replace e4 := Lib.hid e4
            go_wp2_with fail
            have hO : SpAt (((w7.setCell ⟨w1.heap.size, 0, none⟩ (.int .i64 0)).setCell ⟨w1.heap.size, 1, none⟩ (.int .i64 0)).setCell ⟨w1.heap.size, 2, none⟩ (.bool true)) w1.heap.size ⟨0, 0, true⟩ := hA0.set3 ⟨0, 0, true⟩
            have hPO : SpAt (((w7.setCell ⟨w1.heap.size, 0, none⟩ (.int .i64 0)).setCell ⟨w1.heap.size, 1, none⟩ (.int .i64 0)).setCell ⟨w1.heap.size, 2, none⟩ (.bool true)) w3.heap.size W1 := ((hP0.other3 _ hne).other3 _ hne).other3 _ hne
            have hIO : IntF w6.heap.size (((w7.setCell ⟨w1.heap.size, 0, none⟩ (.int .i64 0)).setCell ⟨w1.heap.size, 1, none⟩ (.int .i64 0)).setCell ⟨w1.heap.size, 2, none⟩ (.bool true)) vw ws := IntF.set (IntF.set (IntF.set hiw.out (by simpa using s6_1)) (by simpa using s6_1)) (by simpa using s6_1)
            have hBO : Below w.heap.size w (((w7.setCell ⟨w1.heap.size, 0, none⟩ (.int .i64 0)).setCell ⟨w1.heap.size, 1, none⟩ (.int .i64 0)).setCell ⟨w1.heap.size, 2, none⟩ (.bool true)) := set3_below hB7 (by omega)
            have hzO : w7.heap.size ≤ (((w7.setCell ⟨w1.heap.size, 0, none⟩ (.int .i64 0)).setCell ⟨w1.heap.size, 1, none⟩ (.int .i64 0)).setCell ⟨w1.heap.size, 2, none⟩ (.bool true)).heap.size := by simp
            clear hA0 hP0 hiw m7_0_0 m7_0_1 m7_0_2 m7_1_0 m7_1_1 m7_1_2 hf7
            generalize (((w7.setCell ⟨w1.heap.size, 0, none⟩ (.int .i64 0)).setCell ⟨w1.heap.size, 1, none⟩ (.int .i64 0)).setCell ⟨w1.heap.size, 2, none⟩ (.bool true)) = w8 at *
            replace hO := Lib.hid hO
            replace hPO := Lib.hid hPO
            replace hIO := Lib.hid hIO
            replace hBO := Lib.hid hBO
            go_loopw [19] (fun i wr => ∃ q : Nat, q ≤ parts.length ∧ i = .int .i64 q ∧ SpAt wr w1.heap.size (sq (dot (us.take q) ws)) ∧ SpAt wr w3.heap.size W1 ∧ IntF w6.heap.size wr vw ws ∧ Below w.heap.size w wr ∧ w7.heap.size ≤ wr.heap.size) (fun i _ => parts.length - (intOf i).toNat)
            case atStart => exact ⟨0, Nat.zero_le _, rfl, by rw [List.take_zero, dot_nil, sq_zero]; exact hO.out, hPO.out, hIO.out, hBO.out, hzO⟩
            case round =>
              clear hO hPO hIO hBO hzO
              obtain ⟨q, hq, rfl, hA, hP, hI, hBr, hzr⟩ := hrel
              replace hA := Lib.hid hA
              replace hP := Lib.hid hP
              replace hI := Lib.hid hI
              replace hBr := Lib.hid hBr
              by_cases hlt : q < parts.length
              · have hql2 : q < ws.length := by have := e4.out; omega
                have hql : (q : Int) < (ws.length : Int) := by omega
                obtain ⟨b3, o3, rfl, hs⟩ := hs3.out (by omega)
                obtain ⟨aw, cw, rfl, hIw⟩ := hI.out
                obtain ⟨bw, ow, rfl, -, hIw⟩ := hIw (by omega)
                have hs := hs.below hBr.out
                have l1 := hs.cx q hlt
                have l2 := hs.cy q hlt
                have l3 := hs.cf q hlt
                have l6 := hs.lt
                have l4 := hIw.c q (by omega)
                have l5 := hIw.lt
                obtain ⟨b1', b2'⟩ := e6.out q (by omega)
                have hAe : parts[q] = sq (us[q]'(by omega)) := by
                  have hz : parts[q]? = (us.map sq)[q]? := congrArg (·[q]?) e3.out
                  rw [List.getElem?_eq_getElem hlt, List.getElem?_map, List.getElem?_eq_getElem (by omega)] at hz
                  exact Option.some.inj hz
                have hd := dot_snoc us ws q (by omega) (by omega)
                clear hs hIw
                generalize parts[q] = A at *
                generalize (us[q]'(by omega)) = u at *
                generalize (ws[q]'(by omega)) = c at *
                replace hd := Lib.hid hd
                replace hAe := Lib.hid hAe
                obtain ⟨C, hCe⟩ : ∃ C, sq (u * c) = C := ⟨_, rfl⟩
                obtain ⟨D, hD⟩ : ∃ D, sSum (sq (dot (us.take q) ws)) C = D := ⟨_, rfl⟩
                have oP := sq_ok (dot (us.take q) ws)
                have hDe : Hid (sq (dot (us.take (q + 1)) ws) = D) := by rw [hd.out, ← sq_add, hCe]; exact hD
                generalize sq (dot (us.take q) ws) = P at *
                have oC : Ok C := by rw [← hCe]; exact sq_ok _
                replace hCe := Lib.hid hCe
                replace hD := Lib.hid hD
                obtain ⟨p0, p1, p2, p3, p4, p5, p6⟩ := hA.out
                clear e3 e6 e7
                go_wp2_with fail
                refine wp_region_grow_tail 11 Tryd.mixed (by kernel_rfl) ?_
                simp only [List.take_succ_cons, List.take_zero, List.drop_succ_cons, List.drop_zero]
                repeat (quiet_step (first | (go_at_call 12; exact grow_of (refTimes_e A C u c _ (by omega) (by omega) hAe hCe)) | (go_at_call 19; exact grow_of (refAdd_e P C D _ oP oC hD))))
                refine wpQuiet_nil ?_
                intro _ hw'
                obtain ⟨x, rfl⟩ := hw'
                have hx := Lib.hid x.h
                have hA2 := hA.out.below hx.out
                have hP2 := hP.out.below hx.out
                have hI2 := hI.out.below hx.out
                have hB2 := below_seq hBr.out hx.out
                have hz2 := hx.out.size
                clear p0 p1 p2 p3 p4 p5 p6 l1 l2 l3 l4 l5 l6
                have hA2' := Lib.hid hA2
                obtain ⟨p0, p1, p2, p3, p4, p5, p6⟩ := hA2
                replace hP2 := Lib.hid hP2
                replace hI2 := Lib.hid hI2
                replace hB2 := Lib.hid hB2
                go_wp2
                go_roundw
                case rel => exact ⟨q + 1, by omega, by go_num, by rw [hDe.out]; exact hA2'.out.set3 D, ((hP2.out.other3 _ hne).other3 _ hne).other3 _ hne, IntF.set (IntF.set (IntF.set hI2.out (by simpa using s6_1)) (by simpa using s6_1)) (by simpa using s6_1), set3_below hB2.out (by omega), by simp only [World.size_setCell]; omega⟩
                case measure => simp [intOf]; omega
              · obtain rfl : q = parts.length := by omega
                have hAW := hA.out
                rw [List.take_of_length_le (by omega), e7.out] at hAW
                obtain ⟨p0, p1, p2, p3, p4, p5, p6⟩ := hAW
                obtain ⟨q0, q1, q2, q3, q4, q5, q6⟩ := hP.out
                have hBr' := hBr.out
                clear e3 e6 e7 hI
                have g1 : decide ((parts.length : Int) < (parts.length : Int)) = false := by simp
                go_wp2_with fail
                go_meet
                exact ⟨trivial, (by repeat (first | exact hBr' | exact Below.refl _ _ | refine balloc ?_ _ | refine Below.drew ?_ | refine below_drewN ?_ _ | refine below_set ?_ (by first | omega | (dsimp only; omega)) _)), (by first | omega | (simp only [World.size_alloc, World.size_setCell, World.size_drew]; omega)), (by first | omega | (simp only [World.size_alloc, World.size_setCell, World.size_drew]; omega)), (by first | omega | (simp only [World.size_alloc, World.size_setCell, World.size_drew]; omega)), (by go_simp), (by go_simp), (by go_simp), (by go_simp), (by go_simp), (by go_simp), (by go_simp), (by go_simp), (by go_simp), (by go_simp), (by go_simp), (by go_simp)⟩
        case rest =>
          obtain ⟨w7, hwq⟩ : ∃ x, x = wc := ⟨_, rfl⟩
          subst hwq
          obtain ⟨-, hB7, s7_0, s7_1, s7_2, m7_0_0, m7_0_1, m7_0_2, m7_1_0, m7_1_1, m7_1_2, y7_0_0, y7_0_1, y7_0_2, y7_1_0, y7_1_1, y7_1_2⟩ := hcut
          clear m6_0_0 m6_0_1 m6_0_2 m6_1_0 m6_1_1 m6_1_2
          clear h2c
          go_wp2_with fail
          refine (kJ.out _ (by repeat (first | exact hB7 | exact Below.refl _ _ | refine balloc ?_ _ | refine Below.drew ?_ | refine below_drewN ?_ _ | refine below_set ?_ (by first | omega | (dsimp only; omega)) _))).mono ?_; rintro e w8 ⟨rfl, hb⟩
          obtain ⟨hc8, hf8⟩ := bcell hb
          have z8 := hb.size
          try simp only [World.size_alloc, World.size_setCell, World.size_drew] at z8
          have s8_0 : w.heap.size < w8.heap.size := by omega
          have s8_1 : w1.heap.size < w8.heap.size := by omega
          have s8_2 : w3.heap.size < w8.heap.size := by omega
          have hB8 : Below w.heap.size w w8 := below_seq (by repeat (first | exact hB7 | exact Below.refl _ _ | refine balloc ?_ _ | refine Below.drew ?_ | refine below_drewN ?_ _ | refine below_set ?_ (by first | omega | (dsimp only; omega)) _)) hb
          clear hb
          have m8_0_0 : w8.cell? ⟨w3.heap.size, 0, none⟩ = some (.int .i64 W1.x) := by go_simp
          have m8_0_1 : w8.cell? ⟨w3.heap.size, 1, none⟩ = some (.int .i64 W1.y) := by go_simp
          have m8_0_2 : w8.cell? ⟨w3.heap.size, 2, none⟩ = some (.bool W1.far) := by go_simp
          have m8_1_0 : w8.cell? ⟨w1.heap.size, 0, none⟩ = some (.int .i64 W2.x) := by go_simp
          have m8_1_1 : w8.cell? ⟨w1.heap.size, 1, none⟩ = some (.int .i64 W2.y) := by go_simp
          have m8_1_2 : w8.cell? ⟨w1.heap.size, 2, none⟩ = some (.bool W2.far) := by go_simp
          clear m7_0_0 m7_0_1 m7_0_2 m7_1_0 m7_1_1 m7_1_2
          clear hc8
          go_wp2_with fail
          refine (error_same (errV E2) E2 _ (hE.below (by repeat (first | exact hB8 | exact Below.refl _ _ | refine balloc ?_ _ | refine Below.drew ?_ | refine below_drewN ?_ _ | refine below_set ?_ (by first | omega | (dsimp only; omega)) _))) (Lib.hid rfl)).mono ?_; rintro e w9 ⟨rfl, hb⟩
          obtain ⟨hc9, hf9⟩ := bcell hb
          have z9 := hb.size
          try simp only [World.size_alloc, World.size_setCell, World.size_drew] at z9
          have s9_0 : w.heap.size < w9.heap.size := by omega
          have s9_1 : w1.heap.size < w9.heap.size := by omega
          have s9_2 : w3.heap.size < w9.heap.size := by omega
          have hB9 : Below w.heap.size w w9 := below_seq (by repeat (first | exact hB8 | exact Below.refl _ _ | refine balloc ?_ _ | refine Below.drew ?_ | refine below_drewN ?_ _ | refine below_set ?_ (by first | omega | (dsimp only; omega)) _)) hb
          clear hb
          have m9_0_0 : w9.cell? ⟨w1.heap.size, 0, none⟩ = some (.int .i64 W2.x) := by go_simp
          have m9_0_1 : w9.cell? ⟨w1.heap.size, 1, none⟩ = some (.int .i64 W2.y) := by go_simp
          have m9_0_2 : w9.cell? ⟨w1.heap.size, 2, none⟩ = some (.bool W2.far) := by go_simp
          have m9_1_0 : w9.cell? ⟨w3.heap.size, 0, none⟩ = some (.int .i64 W2.x) := by go_simp
          have m9_1_1 : w9.cell? ⟨w3.heap.size, 1, none⟩ = some (.int .i64 W2.y) := by go_simp
          have m9_1_2 : w9.cell? ⟨w3.heap.size, 2, none⟩ = some (.bool W2.far) := by go_simp
          clear m8_0_0 m8_0_1 m8_0_2 m8_1_0 m8_1_1 m8_1_2
          clear hc9
          go_upto_if 114 with fail
          go_cut [11] (fun s11 wx => s11 = .int .i64 E30 ∧ Below w.heap.size w wx ∧ w.heap.size < wx.heap.size ∧ w1.heap.size < wx.heap.size ∧ w3.heap.size < wx.heap.size)
          case first =>
            rcases h3a.out with ⟨e1, e2⟩ | ⟨e1, e2⟩
            · subst e1 e2
              clear h3a h3b
              go_wp2_with fail
              go_meet
              exact ⟨rfl, (by repeat (first | exact hB9 | exact Below.refl _ _ | refine balloc ?_ _ | refine Below.drew ?_ | refine below_drewN ?_ _ | refine below_set ?_ (by first | omega | (dsimp only; omega)) _)), (by first | omega | (simp only [World.size_alloc, World.size_setCell, World.size_drew]; omega)), (by first | omega | (simp only [World.size_alloc, World.size_setCell, World.size_drew]; omega)), (by first | omega | (simp only [World.size_alloc, World.size_setCell, World.size_drew]; omega))⟩
            · subst e1 e2
              clear h3a h3b
              go_wp2_with fail
              go_meet
              exact ⟨rfl, (by repeat (first | exact hB9 | exact Below.refl _ _ | refine balloc ?_ _ | refine Below.drew ?_ | refine below_drewN ?_ _ | refine below_set ?_ (by first | omega | (dsimp only; omega)) _)), (by first | omega | (simp only [World.size_alloc, World.size_setCell, World.size_drew]; omega)), (by first | omega | (simp only [World.size_alloc, World.size_setCell, World.size_drew]; omega)), (by first | omega | (simp only [World.size_alloc, World.size_setCell, World.size_drew]; omega))⟩
          case rest =>
            obtain ⟨w10, hwq⟩ : ∃ x, x = wc := ⟨_, rfl⟩
            subst hwq
            obtain ⟨rfl, hB10, s10_0, s10_1, s10_2⟩ := hcut
            clear m9_0_0 m9_0_1 m9_0_2 m9_1_0 m9_1_1 m9_1_2
            clear h3a
            go_upto_block 4 with fail
            go_cut [11, 21, 22, 23, 24] (fun s11 s21 s22 s23 s24 wx => s11 = .int .i64 E3 ∧ (E3 = 0 → SpSl wx s21 KL) ∧ Below w.heap.size w wx ∧ w.heap.size < wx.heap.size ∧ w1.heap.size < wx.heap.size ∧ w3.heap.size < wx.heap.size)
            case first =>
              rcases h3b.out with ⟨e1, e2, e3, e4⟩ | ⟨e1, h12, k, hk, e3, e4, e5⟩
              · subst e1 e2 e3
                clear h3b
                have g1 : decide ((0 : Int) < (l.length : Int)) = true := by rw [decide_eq_true_iff]; omega
                go_wp2_with fail
                refine wp_loop_rounds 1 ?_
                rw [rounds_succ]
                go_wp2_with fail
                go_meet
                exact ⟨rfl, (fun h => absurd h (by decide)), (by repeat (first | exact hB10 | exact Below.refl _ _ | refine balloc ?_ _ | refine Below.drew ?_ | refine below_drewN ?_ _ | refine below_set ?_ (by first | omega | (dsimp only; omega)) _)), (by first | omega | (simp only [World.size_alloc, World.size_setCell, World.size_drew]; omega)), (by first | omega | (simp only [World.size_alloc, World.size_setCell, World.size_drew]; omega)), (by first | omega | (simp only [World.size_alloc, World.size_setCell, World.size_drew]; omega))⟩
              · subst e1
                replace e3 := Lib.hid e3
                replace e4 := Lib.hid e4
                replace e5 := Lib.hid e5
                clear h3b
                go_wp2_with fail
                go_loopw [11, 21, 22, 23, 24] (fun e uu i o p wr => ∃ (q : Nat) (u : Value), q ≤ l.length ∧ i = .int .i64 q ∧ u = uu ∧ ((q ≤ k ∧ e = .int .i64 0 ∧ wr.ownsRow w10.heap.size 29 3 u q (spCells ((l.map fun s => sq (4 * s.2)).take q))) ∨ (k < l.length ∧ q = k + 1 ∧ e = .int .i64 1)) ∧ Below w10.heap.size w10 wr) (fun _ _ i _ _ _ => l.length - (intOf i).toNat)
                case atStart => exact ⟨0, _, Nat.zero_le _, rfl, rfl, .inl ⟨Nat.zero_le _, rfl, World.ownsRow_nil _ _ _ _⟩, Below.refl _ _⟩
                case round =>
                  obtain ⟨q, u, hq, rfl, rfl, hcase, hbr⟩ := hrel
                  have hBr : Below w.heap.size w wr := below_seq hB10 hbr
                  replace hbr := Lib.hid hbr
                  rcases hcase with ⟨hqk, rfl, hown⟩ | ⟨hkm, rfl, rfl⟩
                  · replace hown := Lib.hid hown
                    by_cases hqm : q < l.length
                    · obtain ⟨b3, o3, rfl, hs⟩ := hs4.out (by omega)
                      have hs := hs.below hBr
                      have l1 := hs.cx q hqm
                      have l2 := hs.cy q hqm
                      have l4 := hs.lt
                      have hcell := Lib.hid (fun w' (hb' : Below wr.heap.size wr w') => (hs.below hb').cy q hqm)
                      clear hs
                      by_cases hqk2 : q < k
                      · have ho := e3.out q hqm hqk2
                        have hres : 0 ≤ l[q].2 ∧ l[q].2 < 1013 := by
                          have := (Bool.and_eq_true_iff.mp ho).2
                          exact of_decide_eq_true this
                        have hsn := take_snoc2 (l.map fun s => sq (4 * s.2)) q (by simpa using hqm)
                        rw [List.getElem_map] at hsn
                        have htl : Hid (((l.map fun s => sq (4 * s.2)).take q).length = q) := Lib.hid (by rw [List.length_take, List.length_map]; omega)
                        clear e4 e5 e3
                        generalize l[q] = s at *
                        obtain ⟨sx, sy⟩ := s
                        simp only at l1 l2 ho hres hsn hcell
                        obtain ⟨y0, y1⟩ := hres
                        replace ho := Lib.hid ho
                        obtain ⟨A, hA⟩ : ∃ A, sq (4 * sy) = A := ⟨_, rfl⟩
                        rw [hA] at hsn
                        replace hA := Lib.hid hA
                        replace hsn := Lib.hid hsn
                        generalize hT : (l.map fun s => sq (4 * s.2)).take q = T at *
                        clear hT
                        go_wp2_with fail
                        refine (rShare_b sx sy true _ ho).mono ?_; rintro e w12 ⟨rfl, hb12⟩
                        have ow1 := Lib.hid (own_below hown.out hb12)
                        have hB1 := Lib.hid (below_seq hbr.out hb12)
                        have l5 := hcell.out _ hb12
                        have l6 : b3 < w12.heap.size := Nat.lt_of_lt_of_le l4 hb12.size
                        clear hown hbr hb12 l1 l2 l4 hcell
                        go_wp2_with fail
                        refine (refBy_e sy A _ (by omega) (by omega) hA).mono ?_; rintro e w13 ⟨rfl, hb13⟩
                        have ow2 := Lib.hid (own_below ow1.out hb13)
                        have hB2 := Lib.hid (below_seq hB1.out hb13)
                        have hs2 := hB2.out.size
                        clear ow1 hB1 hb13 l5 l6
                        go_wp2_with (first | (at_builtin; refine wpl_append_spot rfl _ _ _ rfl (by kernel_rfl) w10.heap.size _ T q rfl ((ow2.out.alloc _).alloc _) htl.out (by omega) (by simp only [World.size_alloc]; omega) (w13.heap.size + 1) A rfl (by go_simp) (by go_simp) (by go_simp) ?_; intro v' w14 hown' hgrow hbel hloc; replace hown' := Lib.hid hown'; replace hbel := Lib.hid (hbel w10 (balloc (balloc hB2.out _) _)); clear hgrow hloc ow2 hB2) | fail)
                        go_wp2
                        go_roundw
                        case rel => exact ⟨q + 1, _, by omega, by go_num, rfl, .inl ⟨by omega, rfl, by rw [hsn.out]; exact hown'.out⟩, hbel.out⟩
                        case measure => simp [intOf]; omega
                      · obtain rfl : q = k := by omega
                        obtain ⟨ho, h0, h00⟩ := e4.out hqm
                        replace ho := Lib.hid ho
                        clear e4 e5 e3 hcell hown
                        generalize l[q] = s at *
                        obtain ⟨sx, sy⟩ := s
                        simp only at l1 l2 ho
                        go_wp2_with fail
                        refine (rShare_b sx sy false _ ho).mono ?_; rintro e w12 ⟨rfl, hb12⟩
                        clear l1 l2 l4
                        have hB1 := Lib.hid (below_seq hbr.out hb12)
                        go_wp2
                        go_roundw
                        case rel => exact ⟨q + 1, _, by omega, by go_num, rfl, .inr ⟨hqm, rfl, rfl⟩, hB1.out⟩
                        case measure => simp [intOf]; omega
                    · obtain rfl : q = k := by omega
                      obtain ⟨hE3, hKL⟩ := e5.out (by omega)
                      clear e4 e5 e3
                      subst hE3 hKL
                      have hSp : SpSl wr u (l.map fun s => sq (4 * s.2)) := own_spots (by have := hown.out; rw [List.take_of_length_le (by rw [List.length_map]; omega)] at this; exact this) (by rw [List.length_map]; omega)
                      replace hSp := Lib.hid hSp
                      have g1 : decide ((q : Int) < (l.length : Int)) = false := by rw [decide_eq_false_iff_not]; omega
                      have zr := hbr.out.size
                      clear hown
                      go_wp2_with fail
                      go_meet
                      exact ⟨rfl, (fun _ => hSp.out), (by repeat (first | exact hBr | exact Below.refl _ _ | refine balloc ?_ _ | refine Below.drew ?_ | refine below_drewN ?_ _ | refine below_set ?_ (by first | omega | (dsimp only; omega)) _)), (by first | omega | (simp only [World.size_alloc, World.size_setCell, World.size_drew]; omega)), (by first | omega | (simp only [World.size_alloc, World.size_setCell, World.size_drew]; omega)), (by first | omega | (simp only [World.size_alloc, World.size_setCell, World.size_drew]; omega))⟩
                  · obtain ⟨-, h0, h00⟩ := e4.out hkm
                    clear e4 e5 e3
                    subst h0 h00
                    have zr := hbr.out.size
                    by_cases hkl : k + 1 < l.length
                    · have g1 : decide (((k + 1 : Nat) : Int) < (l.length : Int)) = true := by rw [decide_eq_true_iff]; omega
                      go_wp2_with fail
                      go_meet
                      exact ⟨rfl, (fun h => absurd h (by decide)), (by repeat (first | exact hBr | exact Below.refl _ _ | refine balloc ?_ _ | refine Below.drew ?_ | refine below_drewN ?_ _ | refine below_set ?_ (by first | omega | (dsimp only; omega)) _)), (by first | omega | (simp only [World.size_alloc, World.size_setCell, World.size_drew]; omega)), (by first | omega | (simp only [World.size_alloc, World.size_setCell, World.size_drew]; omega)), (by first | omega | (simp only [World.size_alloc, World.size_setCell, World.size_drew]; omega))⟩
                    · have g1 : decide (((k + 1 : Nat) : Int) < (l.length : Int)) = false := by rw [decide_eq_false_iff_not]; omega
                      go_wp2_with fail
                      go_meet
                      exact ⟨rfl, (fun h => absurd h (by decide)), (by repeat (first | exact hBr | exact Below.refl _ _ | refine balloc ?_ _ | refine Below.drew ?_ | refine below_drewN ?_ _ | refine below_set ?_ (by first | omega | (dsimp only; omega)) _)), (by first | omega | (simp only [World.size_alloc, World.size_setCell, World.size_drew]; omega)), (by first | omega | (simp only [World.size_alloc, World.size_setCell, World.size_drew]; omega)), (by first | omega | (simp only [World.size_alloc, World.size_setCell, World.size_drew]; omega))⟩
            case rest =>
              obtain ⟨w11, hwq⟩ : ∃ x, x = wc := ⟨_, rfl⟩
              subst hwq
              obtain ⟨rfl, hK, hB11, s11_0, s11_1, s11_2⟩ := hcut
              replace hK := Lib.hid hK
              go_upto_if 143 with fail
              go_cut [21] (fun s21 wx => SpSl wx s21 KL ∧ Below w.heap.size w wx ∧ w.heap.size < wx.heap.size ∧ w1.heap.size < wx.heap.size ∧ w3.heap.size < wx.heap.size)
              case first =>
                have hz : (E3 = 0) ∨ ((E3 == 0) = false ∧ KL = []) := by
                  rcases h3b.out with ⟨-, e2, e3, -⟩ | ⟨-, -, k, hk, -, e4, e5⟩
                  · exact .inr ⟨by rw [e2]; rfl, e3⟩
                  · by_cases hkl : k < l.length
                    · exact .inr ⟨by rw [(e4 hkl).2.1]; rfl, (e4 hkl).2.2⟩
                    · exact .inl (e5 (by omega)).1
                rcases hz with hz | ⟨hz, hz2⟩
                · have hK2 := Lib.hid (hK.out hz)
                  subst hz
                  clear h3b hK
                  go_wp2_with fail
                  go_meet
                  exact ⟨hK2.out, (by repeat (first | exact hB11 | exact Below.refl _ _ | refine balloc ?_ _ | refine Below.drew ?_ | refine below_drewN ?_ _ | refine below_set ?_ (by first | omega | (dsimp only; omega)) _)), (by first | omega | (simp only [World.size_alloc, World.size_setCell, World.size_drew]; omega)), (by first | omega | (simp only [World.size_alloc, World.size_setCell, World.size_drew]; omega)), (by first | omega | (simp only [World.size_alloc, World.size_setCell, World.size_drew]; omega))⟩
                · subst hz2
                  clear h3b hK
                  have hz3 : (E3 != 0) = true := by rw [bne, hz]; rfl
                  go_wp2_with fail
                  go_meet
                  exact ⟨(SpSl.none0 _), (by repeat (first | exact hB11 | exact Below.refl _ _ | refine balloc ?_ _ | refine Below.drew ?_ | refine below_drewN ?_ _ | refine below_set ?_ (by first | omega | (dsimp only; omega)) _)), (by first | omega | (simp only [World.size_alloc, World.size_setCell, World.size_drew]; omega)), (by first | omega | (simp only [World.size_alloc, World.size_setCell, World.size_drew]; omega)), (by first | omega | (simp only [World.size_alloc, World.size_setCell, World.size_drew]; omega))⟩
              case rest =>
                obtain ⟨w12, hwq⟩ : ∃ x, x = wc := ⟨_, rfl⟩
                subst hwq
                obtain ⟨hK2, hB12, s12_0, s12_1, s12_2⟩ := hcut
                clear h3b hK
                replace hK2 := Lib.hid hK2
                go_wp2_with fail
                refine (kQ.out _ (by repeat (first | exact hB12 | exact Below.refl _ _ | refine balloc ?_ _ | refine Below.drew ?_ | refine below_drewN ?_ _ | refine below_set ?_ (by first | omega | (dsimp only; omega)) _))).mono ?_; rintro e w13 ⟨vx, rfl, hx, hb⟩; replace hK2 := Lib.hid (hK2.out.below hb); replace hx := Lib.hid hx
                obtain ⟨hc13, hf13⟩ := bcell hb
                have z13 := hb.size
                try simp only [World.size_alloc, World.size_setCell, World.size_drew] at z13
                have s13_0 : w.heap.size < w13.heap.size := by omega
                have s13_1 : w1.heap.size < w13.heap.size := by omega
                have s13_2 : w3.heap.size < w13.heap.size := by omega
                have hB13 : Below w.heap.size w w13 := below_seq (by repeat (first | exact hB12 | exact Below.refl _ _ | refine balloc ?_ _ | refine Below.drew ?_ | refine below_drewN ?_ _ | refine below_set ?_ (by first | omega | (dsimp only; omega)) _)) hb
                clear hb
                go_wp2_with fail
                refine (error_same (errV E3) E3 _ (hE.below (by repeat (first | exact hB13 | exact Below.refl _ _ | refine balloc ?_ _ | refine Below.drew ?_ | refine below_drewN ?_ _ | refine below_set ?_ (by first | omega | (dsimp only; omega)) _))) (Lib.hid rfl)).mono ?_; rintro e w14 ⟨rfl, hb⟩; replace hK2 := Lib.hid (hK2.out.below hb); replace hx := Lib.hid (hx.out.below hb)
                obtain ⟨hc14, hf14⟩ := bcell hb
                have z14 := hb.size
                try simp only [World.size_alloc, World.size_setCell, World.size_drew] at z14
                have s14_0 : w.heap.size < w14.heap.size := by omega
                have s14_1 : w1.heap.size < w14.heap.size := by omega
                have s14_2 : w3.heap.size < w14.heap.size := by omega
                have hB14 : Below w.heap.size w w14 := below_seq (by repeat (first | exact hB13 | exact Below.refl _ _ | refine balloc ?_ _ | refine Below.drew ?_ | refine below_drewN ?_ _ | refine below_set ?_ (by first | omega | (dsimp only; omega)) _)) hb
                clear hb
                go_wp2_with fail
                refine (spots_same KL _ _ _ hKl.out hx.out hK2.out).mono ?_; rintro e w15 ⟨rfl, hb⟩
                obtain ⟨hc15, hf15⟩ := bcell hb
                have z15 := hb.size
                try simp only [World.size_alloc, World.size_setCell, World.size_drew] at z15
                have s15_0 : w.heap.size < w15.heap.size := by omega
                have s15_1 : w1.heap.size < w15.heap.size := by omega
                have s15_2 : w3.heap.size < w15.heap.size := by omega
                have hB15 : Below w.heap.size w w15 := below_seq (by repeat (first | exact hB14 | exact Below.refl _ _ | refine balloc ?_ _ | refine Below.drew ?_ | refine below_drewN ?_ _ | refine below_set ?_ (by first | omega | (dsimp only; omega)) _)) hb
                clear hb
                go_wp2
                go_ret
                exact ⟨rfl, (by repeat (first | exact hB15 | exact Below.refl _ _ | refine balloc ?_ _ | refine Below.drew ?_ | refine below_drewN ?_ _ | refine below_set ?_ (by first | omega | (dsimp only; omega)) _))⟩
end Go.Proofs.YtahopffpajkfdaaDoor
namespace Go.Proofs.YtahopffpajkfdaaDoor
open Go.RowKit
set_option maxRecDepth 100000
set_option linter.unusedVariables false
set_option linter.unusedSimpArgs false
theorem qt_part (x y : Int) (t : ByteArray) (w : World) (hF : FarAt w) (hz : t.size ≤ 140737488351232) : ∃ (b : Bool) (E1 : Int) (W1 : Sp), (secB x && resB y) = b ∧
    ((b = false ∧ E1 = 1 ∧ W1 = ⟨0, 0, false⟩) ∨ (b = true ∧ decide ((60 : Int) < (t.size : Int)) = true ∧ E1 = 4 ∧ W1 = ⟨0, 0, false⟩) ∨ (b = true ∧ decide ((60 : Int) < (t.size : Int)) = false ∧ E1 = 0 ∧ ∃ A : Sp, AtL w 13 #[.string t] (spV A) ∧ AtL w 12 #[spV A, .int .i64 y] (spV W1))) ∧
    AtL w 14 #[.agg #[.int .i64 x, .int .i64 y], .string t] (.tuple #[spV W1, errV E1]) := by
  by_cases hb : 1 ≤ x ∧ x < 1013 ∧ 0 ≤ y ∧ y < 1013
  · have hbb : (secB x && resB y) = true := by unfold secB resB; rw [Bool.and_eq_true]; exact ⟨decide_eq_true ⟨hb.1, hb.2.1⟩, decide_eq_true ⟨hb.2.2.1, hb.2.2.2⟩⟩
    by_cases ht : t.size ≤ 60
    · obtain ⟨j, -, -, ej⟩ := hSpot_four t.data.toList
      refine ⟨true, 0, _, hbb, .inr (.inr ⟨rfl, by rw [decide_eq_false_iff_not]; omega, rfl, hSpot t.data.toList, fun w1 h1 => refOf_c t w1 (hF.below h1) hz, fun w1 h1 => refTimes_e _ _ (4 * j) y w1 (by omega) (by omega) (Lib.hid ej) (Lib.hid rfl)⟩), fun w1 h1 => ?_⟩
      exact part_y x y j t _ _ w1 (hF.below h1) hb.1 hb.2.1 hb.2.2.1 hb.2.2.2 ht (Lib.hid rfl) (Lib.hid ej) (Lib.hid rfl)
    · exact ⟨true, 4, ⟨0, 0, false⟩, hbb, .inr (.inl ⟨rfl, by rw [decide_eq_true_iff]; omega, rfl, rfl⟩), fun w1 h1 => part_n4 x y t w1 hb.1 hb.2.1 hb.2.2.1 hb.2.2.2 (by omega) hz⟩
  · have hbb : (secB x && resB y) = false := by
      cases h : (secB x && resB y)
      · rfl
      · obtain ⟨p, q⟩ := Bool.and_eq_true_iff.mp h
        have p' := of_decide_eq_true p
        have q' := of_decide_eq_true q
        exact absurd ⟨p'.1, p'.2, q'.1, q'.2⟩ hb
    exact ⟨false, 1, ⟨0, 0, false⟩, hbb, .inl ⟨rfl, rfl, rfl⟩, fun w1 h1 => part_n1 x y t w1 hb⟩
theorem sc0 {z : Sp} (h : sCheck z = 0) : Ok z := (ok_iff z).mp h
theorem all_sqs : ∀ l : List Sp, (∀ z ∈ l, Ok z) → ∃ us : List Int, l = us.map sq
  | [], _ => ⟨[], rfl⟩
  | z :: l, h => by
    obtain ⟨us, e⟩ := all_sqs l (fun y hy => h y (List.mem_cons_of_mem _ hy))
    obtain ⟨k, -, -, e2⟩ := sq_all (h z List.mem_cons_self)
    exact ⟨k :: us, by rw [e, e2]; rfl⟩
theorem qt_join (xs : List Int) (parts : List Sp) (v2 v3 : Value) (w : World) (hF : FarAt w) (h2 : IntSl w v2 xs) (hc : CapOk v2) (h3 : SpSl w v3 parts) (m2 : xs.length ≤ 9223372036854775807) (m3 : parts.length ≤ 9223372036854775807) :
    ∃ (a2 a3 : Option Addr) (c2 c3 : Nat) (E0 E2 : Int) (W2 : Sp), v2 = .slice a2 xs.length c2 ∧ v3 = .slice a3 parts.length c3 ∧ (0 < parts.length → ∃ b off, a3 = some ⟨b, off, none⟩ ∧ SpotsAt w b off parts) ∧
    ((((xs.length : Int) != (parts.length : Int)) = true ∧ E0 = 3) ∨ (((xs.length : Int) != (parts.length : Int)) = false ∧ AtL w 16 #[.slice a2 xs.length c2] (.int .i64 E0))) ∧
    (((E0 == 0) = false ∧ E2 = E0) ∨ (E0 = 0 ∧ ∃ k, k ≤ parts.length ∧ (∀ i (h : i < parts.length), i < k → sCheck parts[i] = 0) ∧ (∀ h : k < parts.length, sCheck parts[k] = E2 ∧ (E2 == 0) = false) ∧ (k = parts.length → E2 = 0))) ∧
    (((E2 == 0) = false ∧ W2 = ⟨0, 0, false⟩) ∨ (E2 = 0 ∧ ∃ us ws : List Int, parts = us.map sq ∧ ws.length = parts.length ∧ (∀ i (h : i < ws.length), 0 ≤ ws[i] ∧ ws[i] < 1013) ∧ AtW w (.slice a2 xs.length c2) ws ∧ sq (dot us ws) = W2)) ∧
    AtL w 20 #[.slice a2 xs.length c2, .slice a3 parts.length c3] (.tuple #[spV W2, errV E2]) := by
  obtain ⟨a2, c2, rfl, g2⟩ := id h2
  obtain ⟨a3, c3, rfl, g3⟩ := id h3
  by_cases hn : xs.length = parts.length
  · have hne : ((xs.length : Int) != (parts.length : Int)) = false := by rw [bne_eq_false_iff_eq]; omega
    rcases pl_cases xs with hp | hp | ⟨p1, p2, hok⟩ | ⟨p1, p2, k, R, hk, hok, hbad⟩
    · refine ⟨a2, a3, c2, c3, 4, 4, ⟨0, 0, false⟩, rfl, rfl, g3, .inr ⟨hne, fun w1 h1 => rplaces_full a2 xs.length c2 w1 hp m2⟩, .inl ⟨rfl, rfl⟩, .inl ⟨rfl, rfl⟩, fun w1 h1 => ?_⟩
      rw [← hn]
      exact qjoin_nw xs.length a2 a3 c2 c3 4 w1 (Lib.hid fun w2 _ => weights_full a2 xs.length c2 w2 hp m2)
    · refine ⟨a2, a3, c2, c3, 5, 5, ⟨0, 0, false⟩, rfl, rfl, g3, .inr ⟨hne, fun w1 h1 => by rw [hp]; exact rplaces_none a2 c2 w1⟩, .inl ⟨rfl, rfl⟩, .inl ⟨rfl, rfl⟩, fun w1 h1 => ?_⟩
      rw [← hn]
      exact qjoin_nw xs.length a2 a3 c2 c3 5 w1 (Lib.hid fun w2 _ => by rw [hp]; exact weights_none a2 c2 w2)
    · have hpl : AtL w 16 #[.slice a2 xs.length c2] (.int .i64 0) := fun w1 h1 => rplaces_sl xs _ 0 xs.length w1 p1 p2 (Nat.le_refl _) hok (fun h => absurd h (Nat.lt_irrefl _)) (fun _ => rfl) (h2.below h1)
      rcases first_bad parts with hg | ⟨k, hk, hgk, hbad⟩
      · have hall : ∀ z ∈ parts, Ok z := fun z hz => by obtain ⟨i, hi, rfl⟩ := List.getElem_of_mem hz; exact hg i hi
        obtain ⟨us, hu⟩ := all_sqs parts hall
        have hul : us.length = parts.length := by rw [hu, List.length_map]
        refine ⟨a2, a3, c2, c3, 0, 0, _, rfl, rfl, g3, .inr ⟨hne, hpl⟩, .inr ⟨rfl, parts.length, Nat.le_refl _, fun i h _ => (ok_iff _).mpr (hg i h), fun h => absurd h (Nat.lt_irrefl _), fun _ => rfl⟩,
          .inr ⟨rfl, us, wgts xs, hu, by rw [wgts_len]; exact hn, wgts_bd xs, fun w1 h1 => rweights_f xs _ w1 p2 hok.s hok.d (h2.below h1), rfl⟩, fun w1 h1 => ?_⟩
        exact qjoin_y xs us parts _ _ _ w1 (hF.below h1) p1 p2 (by omega) hok.s hok.d (h2.below h1) hc (h3.below h1) (Lib.hid hu) (Lib.hid rfl)
      · have hpre : ∀ z ∈ parts.take k, Ok z := fun z hz => by
          obtain ⟨i, hi, rfl⟩ := List.getElem_of_mem hz
          rw [List.length_take] at hi
          rw [List.getElem_take]
          exact hgk i (by omega) (by omega)
        obtain ⟨us, hu⟩ := all_sqs _ hpre
        have hul : us.length = k := by have := congrArg List.length hu; rw [List.length_map, List.length_take] at this; omega
        refine ⟨a2, a3, c2, c3, 0, sCheck parts[k], ⟨0, 0, false⟩, rfl, rfl, g3, .inr ⟨hne, hpl⟩, .inr ⟨rfl, k, Nat.le_of_lt hk, fun i h hik => (ok_iff _).mpr (hgk i h hik), fun h => ⟨rfl, by simpa using hbad⟩, fun e => absurd hk (by omega)⟩, .inl ⟨by simpa using hbad, rfl⟩, fun w1 h1 => ?_⟩
        have hE : (sCheck parts[k]) ≠ 0 := by simpa using hbad
        refine qjoin_core xs (us ++ List.replicate (xs.length - k) 0) parts _ _ k ⟨0, 0, false⟩ _ w1 (hF.below h1) p1 p2 hn.symm (by rw [List.length_append, List.length_replicate]; omega) hok.s hok.d (h2.below h1) hc (h3.below h1) (Nat.le_of_lt hk)
          (Lib.hid fun i h h' hik => ?_) (Lib.hid fun _ => ⟨hE, rfl, by rw [errV, if_neg hE]⟩) (Lib.hid fun e => absurd hk (by omega))
        rw [List.getElem_append_left (by omega)]
        have hz : (parts.take k)[i]? = (us.map sq)[i]? := congrArg (·[i]?) hu
        rw [List.getElem?_take, if_pos hik, List.getElem?_eq_getElem h, List.getElem?_map, List.getElem?_eq_getElem (by omega)] at hz
        exact Option.some.inj hz
    · have hR : (R == 0) = false ∧ R ≠ 0 := by
        obtain ⟨-, ⟨-, rfl⟩ | ⟨-, -, rfl⟩⟩ := hbad
        · exact ⟨rfl, by decide⟩
        · exact ⟨rfl, by decide⟩
      refine ⟨a2, a3, c2, c3, R, R, ⟨0, 0, false⟩, rfl, rfl, g3, .inr ⟨hne, fun w1 h1 => rplaces_sl xs _ R k w1 p1 p2 (Nat.le_of_lt hk) hok (fun _ => hbad) (fun e => absurd hk (by omega)) (h2.below h1)⟩, .inl ⟨hR.1, rfl⟩, .inl ⟨hR.1, rfl⟩, fun w1 h1 => ?_⟩
      rw [← hn, errV, if_neg hR.2]
      exact qjoin_nw xs.length a2 a3 c2 c3 R w1 (Lib.hid fun w2 h => weights_bad xs _ R k w2 p1 p2 hk hok hbad ((h2.below h1).below h) hc)
  · have hne : ((xs.length : Int) != (parts.length : Int)) = true := by rw [bne_iff_ne]; omega
    exact ⟨a2, a3, c2, c3, 3, 3, ⟨0, 0, false⟩, rfl, rfl, g3, .inl ⟨hne, rfl⟩, .inl ⟨rfl, rfl⟩, .inl ⟨rfl, rfl⟩, fun w1 _ => qjoin_n3 xs.length parts.length a2 a3 c2 c3 w1 hn m2 m3⟩
theorem shB_y {s : Int × Int} (h : (secB s.1 && resB s.2) = true) : 1 ≤ s.1 ∧ s.1 < 1013 ∧ 0 ≤ s.2 ∧ s.2 < 1013 := by
  obtain ⟨p, q⟩ := Bool.and_eq_true_iff.mp h
  have p' := of_decide_eq_true p
  have q' := of_decide_eq_true q
  exact ⟨p'.1, p'.2, q'.1, q'.2⟩
theorem shB_n {s : Int × Int} (h : (secB s.1 && resB s.2) = false) : ¬ (1 ≤ s.1 ∧ s.1 < 1013 ∧ 0 ≤ s.2 ∧ s.2 < 1013) := fun g => by
  have : (secB s.1 && resB s.2) = true := by unfold secB resB; rw [Bool.and_eq_true]; exact ⟨decide_eq_true ⟨g.1, g.2.1⟩, decide_eq_true ⟨g.2.2.1, g.2.2.2⟩⟩
  rw [this] at h; exact absurd h (by decide)
theorem sh_first : ∀ (l : List (Int × Int)), (∀ i (h : i < l.length), (secB l[i].1 && resB l[i].2) = true) ∨ ∃ (k : Nat) (hk : k < l.length), (∀ i (h : i < l.length), i < k → (secB l[i].1 && resB l[i].2) = true) ∧ (secB l[k].1 && resB l[k].2) = false
  | [] => .inl fun i h => absurd h (Nat.not_lt_zero _)
  | s :: l => by
    cases hs : (secB s.1 && resB s.2)
    · exact .inr ⟨0, Nat.succ_pos _, fun i _ h => absurd h (Nat.not_lt_zero _), hs⟩
    · rcases sh_first l with h | ⟨k, hk, h1, h2⟩
      · refine .inl fun i hi => ?_
        cases i with
        | zero => exact hs
        | succ i => exact h i (by simpa using hi)
      · refine .inr ⟨k + 1, by simpa using hk, fun i hi hik => ?_, h2⟩
        cases i with
        | zero => exact hs
        | succ i => exact h1 i (by simpa using hi) (by omega)
theorem qt_pub (l : List (Int × Int)) (v4 : Value) (w : World) (hF : FarAt w) (h4 : ShSl w v4 l) (m4 : l.length ≤ 9223372036854775807) :
    ∃ (a4 : Option Addr) (c4 : Nat) (E30 E3 : Int) (KL : List Sp) (B12 : Bool), v4 = .slice a4 l.length c4 ∧ (0 < l.length → ∃ b off, a4 = some ⟨b, off, none⟩ ∧ ShsAt w b off l) ∧ KL.length ≤ 1000000 ∧ decide ((12 : Int) < (l.length : Int)) = B12 ∧ ((B12 = true ∧ E30 = 4) ∨ (B12 = false ∧ E30 = 0)) ∧
    ((E30 = 4 ∧ E3 = 4 ∧ KL = [] ∧ 0 < l.length) ∨ (E30 = 0 ∧ l.length ≤ 12 ∧ ∃ k, k ≤ l.length ∧ (∀ i (h : i < l.length), i < k → (secB l[i].1 && resB l[i].2) = true) ∧ (∀ h : k < l.length, (secB l[k].1 && resB l[k].2) = false ∧ E3 = 1 ∧ KL = []) ∧ (k = l.length → E3 = 0 ∧ KL = l.map fun s => sq (4 * s.2)))) ∧
    AtQ w (.slice a4 l.length c4) (errV E3) KL := by
  obtain ⟨a4, c4, rfl, g4⟩ := id h4
  by_cases h12 : l.length ≤ 12
  · have hd : decide ((12 : Int) < (l.length : Int)) = false := by rw [decide_eq_false_iff_not]; omega
    rcases sh_first l with hg | ⟨k, hk, hg, hb⟩
    · exact ⟨a4, c4, 0, 0, _, false, rfl, g4, by rw [List.length_map]; omega, hd, .inr ⟨rfl, rfl⟩, .inr ⟨rfl, h12, l.length, Nat.le_refl _, fun i h _ => hg i h, fun h => absurd h (Nat.lt_irrefl _), fun _ => ⟨rfl, rfl⟩⟩, fun w1 h1 => public_c l _ w1 (hF.below h1) h12 (h4.below h1) (fun i h => shB_y (hg i h))⟩
    · refine ⟨a4, c4, 0, 1, [], false, rfl, g4, by decide, hd, .inr ⟨rfl, rfl⟩, .inr ⟨rfl, h12, k, Nat.le_of_lt hk, hg, fun _ => ⟨hb, rfl, rfl⟩, fun e => absurd hk (by omega)⟩, fun w1 h1 => ?_⟩
      exact (public_n l _ w1 (hF.below h1) h12 (h4.below h1) k hk (fun i h hik => shB_y (hg i h hik)) (shB_n hb)).mono fun e w' ⟨he, hb'⟩ => ⟨_, he, SpSl.none0 _, hb'⟩
  · have hd : decide ((12 : Int) < (l.length : Int)) = true := by rw [decide_eq_true_iff]; omega
    exact ⟨a4, c4, 4, 4, [], true, rfl, g4, by decide, hd, .inl ⟨rfl, rfl⟩, .inl ⟨rfl, rfl, rfl, by omega⟩, fun w1 h1 => (public_full a4 l.length c4 w1 (by omega) m4).mono fun e w' ⟨he, hb'⟩ => ⟨_, he, SpSl.none0 _, hb'⟩⟩
theorem quorumTells_law (x y : Int) (wx : (Lit.int .i64 x).wf = true) (wy : (Lit.int .i64 y).wf = true) (t : ByteArray) (hz : t.size ≤ 140737488351232) (v2 v3 v4 : Value) (w : World) (o2 : IntsV w v2 ∧ CapOk v2) (o3 : SpotsV w v3) (o4 : ShsV w v4) (hL : FarAt w ∧ ErrAt w) :
    Calls Tryd.prog 3 #[.agg #[.int .i64 x, .int .i64 y], .string t, v2, v3, v4] w fun e w' => e = .returned (.bool true) ∧ Below w.heap.size w w' := by
  obtain ⟨xs, h2, m2, -⟩ := o2.1.sl
  obtain ⟨parts, h3, m3⟩ := o3.sl
  obtain ⟨l, h4, m4⟩ := o4
  obtain ⟨b, E1, W1, p1, p2, p3⟩ := qt_part x y t w hL.1 hz
  obtain ⟨a2, a3, c2, c3, E0, E2, W2, rfl, rfl, q1, q2, q3, q4, q5⟩ := qt_join xs parts v2 v3 w hL.1 h2 o2.2 h3 m2 m3
  obtain ⟨a4, c4, E30, E3, KL, B12, rfl, r1, r2, r3, r4, r5, r6⟩ := qt_pub l v4 w hL.1 h4 m4
  exact qt_core x y t a2 a3 a4 xs.length c2 c3 c4 parts l w hL.1 hL.2 b (Lib.hid p1) E1 W1 (Lib.hid p2) (Lib.hid p3) m3 (Lib.hid q1) E0 E2 W2 (Lib.hid q2) (Lib.hid q3) (Lib.hid q4) (Lib.hid q5) m4 (Lib.hid r1) E30 E3 KL (Lib.hid r2) B12 r3 (Lib.hid r4) (Lib.hid r5) (Lib.hid r6)
end Go.Proofs.YtahopffpajkfdaaDoor
namespace Go.Proofs.YtahopffpajkfdaaDoor
open Go.ChangeShapes Go.WideShapes Go.ChangeAt Go.WideMaps Go.WideElems Go.RowKit
set_option maxRecDepth 100000
abbrev farLaid : List (String × DataW Unit) := [("pairstone/curve.Far", Rows.laid_pairstone_curve_Far)]
theorem gFar : Tryd.prog.globalNamed "pairstone/curve.Far" = some 0 := by kernel_rfl
theorem tFar : (Tryd.prog.globals[0]?).map (·.type) = some 29 := by kernel_rfl
/-- The door's own heap meets the condition. -/
theorem farLaid_met (os : Os) (args : Array Value) : laidMetH Tryd.prog farLaid ((World.doorLaid Tryd.prog 400 os).forCall (fun _ _ => 0) ⟨#[], args, []⟩).memory :=
  laidMetH_of_parts3 (fuel := 8) (laidMet_of_run' 8 (by kernel_rfl) (by kernel_rfl)) (by kernel_rfl) (by kernel_rfl)
theorem lt_of_cell {w : World} {b o : Nat} {v : Value} (h : w.cell? ⟨b, o, none⟩ = some v) : b < w.heap.size := by
  rcases Nat.lt_or_ge b w.heap.size with h1 | h1
  · exact h1
  · simp [World.cell?, Array.getElem?_eq_none h1] at h
theorem farLaid_at {W : World} (h : laidMetH Tryd.prog farLaid W) : FarAt W := by
  rw [MakeChecks.laidMetH_plain _ _ _ (by kernel_rfl)] at h
  obtain ⟨ps, ⟨g0, t0, cs0, f0, p0, q0, hg0, ht0, hv0, hd0, _, _⟩, _, _⟩ := h
  obtain rfl := Option.some.inj (gFar.symm.trans hg0)
  obtain rfl := Option.some.inj (tFar.symm.trans ht0)
  obtain ⟨y0, y1, y2, n, hx, hlen, h0, h1, h2⟩ := Deep.trod_struct3 Tryd.underlying29 hd0
  simp only [Rows.laid_pairstone_curve_Far, Prod.mk.injEq, DataW.agg.injEq, List.cons.injEq, and_true] at hx
  obtain ⟨⟨e0, e1, e2⟩, _⟩ := hx
  obtain ⟨a, c0, rfl, _⟩ := DataW.trod_int Tryd.underlying3 h0
  obtain ⟨b, c1, rfl, _⟩ := DataW.trod_int Tryd.underlying3 h1
  obtain ⟨f, c2, rfl⟩ := DataW.trod_bool Tryd.underlying4 h2
  have k3 : Tryd.prog.cellsOf 29 = 3 := by kernel_rfl
  have ki : Tryd.prog.cellsOf 3 = 1 := by kernel_rfl
  have kb : Tryd.prog.cellsOf 4 = 1 := by kernel_rfl
  obtain ⟨l⟩ := cs0
  have h3 : l.length = 3 := by simpa using hlen.trans k3
  match l, h3 with
  | [x, y, z], _ =>
    simp [ki, kb] at c0 c1 c2
    subst c0 c1 c2
    have v0 := World.var?_cell hg0 hv0 0
    have v1 := World.var?_cell hg0 hv0 1
    have v2 := World.var?_cell hg0 hv0 2
    simp at e0 e1 e2 v0 v1 v2
    subst e0 e1 e2
    exact ⟨v0, v1, v2, lt_of_cell v0⟩
end Go.Proofs.YtahopffpajkfdaaDoor
namespace Go.Proofs.YtahopffpajkfdaaDoor
open Go.ChangeShapes Go.WideShapes Go.ChangeAt Go.WideMaps Go.WideElems Go.RowKit
set_option maxRecDepth 100000
theorem gErr : Tryd.prog.globalNamed "errors.errorType" = some 2 := by kernel_rfl
theorem cutR : (Tryd.prog.cutTypes.find? (·.1 == "internal/reflectlite.rtype")).map (·.2) = some 172 := by kernel_rfl
theorem rowError : ((List.range Tryd.prog.types.size).filter fun t => Tryd.prog.rowNamed t [101, 114, 114, 111, 114]) = [33] := by kernel_rfl
/-- What the condition on the variable says of its cell. -/
theorem err_of_handles {l : List (String × DataW Unit)} {W : World} (h : handlesMet Tryd.prog l W) (hm : ("errors.errorType", Rows.laid_errors_errorType) ∈ l) : ErrAt W := by
  obtain ⟨name, u, ty, e1, e2, e3, e4, e5⟩ := h _ hm
  have en : name = [101, 114, 114, 111, 114] := (Option.some.inj e1).symm
  subst en
  obtain rfl := Option.some.inj (cutR.symm.trans e2)
  have hm : ty ∈ (List.range Tryd.prog.types.size).filter fun t => Tryd.prog.rowNamed t [101, 114, 114, 111, 114] := List.mem_filter.2 ⟨List.mem_range.2 e3, e4⟩
  rw [rowError] at hm
  obtain rfl := List.mem_singleton.1 hm
  have hh : typeHandle Tryd.prog 33 = .pointer (some ⟨3, 33, none⟩) := by kernel_rfl
  rw [hh] at e5
  have v := World.var?_cell gErr e5 0
  simp at v
  exact ⟨v, lt_of_cell v⟩
abbrev errLaid : List (String × DataW Unit) := [("errors.errorType", Rows.laid_errors_errorType)]
abbrev farErrLaid : List (String × DataW Unit) := [("pairstone/curve.Far", Rows.laid_pairstone_curve_Far), ("errors.errorType", Rows.laid_errors_errorType)]
theorem errLaid_met (os : Os) (args : Array Value) : laidMetH Tryd.prog errLaid ((World.doorLaid Tryd.prog 400 os).forCall (fun _ _ => 0) ⟨#[], args, []⟩).memory :=
  laidMetH_of_parts ⟨[], rfl, List.nodup_nil, fun _ _ h => by cases h⟩ (by kernel_rfl)
theorem farErrLaid_met (os : Os) (args : Array Value) : laidMetH Tryd.prog farErrLaid ((World.doorLaid Tryd.prog 400 os).forCall (fun _ _ => 0) ⟨#[], args, []⟩).memory :=
  laidMetH_of_parts (laidMet_of_run' 8 (by kernel_rfl) (by kernel_rfl)) (by kernel_rfl)
theorem errLaid_at {W : World} (h : laidMetH Tryd.prog errLaid W) : ErrAt W := by
  have h' : laidMet Tryd.prog [] W ∧ handlesMet Tryd.prog errLaid W := h
  exact err_of_handles h'.2 (by simp)
theorem farErrLaid_at {W : World} (h : laidMetH Tryd.prog farErrLaid W) : FarAt W ∧ ErrAt W := by
  have h' : laidMet Tryd.prog farLaid W ∧ handlesMet Tryd.prog errLaid W := h
  exact ⟨farLaid_at (by rw [MakeChecks.laidMetH_plain _ _ _ (by kernel_rfl)]; exact h'.1), err_of_handles h'.2 (by simp)⟩
end Go.Proofs.YtahopffpajkfdaaDoor
namespace Go.Proofs.YtahopffpajkfdaaDoor
open Go.RowKit
set_option maxRecDepth 100000
theorem headL : ∃ l : List Char, Tryd.prog.initOrder = String.ofList l ∧ ((behindMainWord (wordsSigns l)).head? = some "cut".toList ∧
    (match wordsSigns l with
      | h :: s :: _ => if !isSumSigns s then none else if h == "harness".toList then some (true, s) else if h == "ownmain".toList then some (false, s) else none
      | _ => none) = some (true, "f20d6db7f5e69aa7aa35e34b54c40c58b618be88f18eef3d20039067197992de".toList)) := by
  refine ⟨?l, ?h1, ?h2, ?h3⟩
  case h1 =>
    unfold Tryd.prog
    first | rfl | (dsimp only; rfl)
  case h2 => kernel_rfl
  case h3 => kernel_rfl
theorem headCut : ∃ r, behindMainWord (wordsSigns Tryd.prog.initOrder.toList) = "cut".toList :: r := by
  obtain ⟨l, h, hw, -⟩ := headL
  rw [h, String.toList_ofList]
  cases e : behindMainWord (wordsSigns l) with
  | nil => rw [e] at hw; cases hw
  | cons c r => rw [e] at hw; exact ⟨r, by rw [Option.some.inj hw]⟩
theorem mainIsK : Tryd.prog.mainIs = some (true, "f20d6db7f5e69aa7aa35e34b54c40c58b618be88f18eef3d20039067197992de".toList) := by
  obtain ⟨l, h, -, hm⟩ := headL
  unfold Program.mainIs; rw [h, String.toList_ofList]; exact hm
theorem mayEnterK : Tryd.prog.mayEnter = true := by
  obtain ⟨r, h⟩ := headCut
  unfold Program.mayEnter; rw [h]; kernel_rfl
theorem headLiftsK : Tryd.prog.headLifts = [] := by
  obtain ⟨r, h⟩ := headCut
  unfold Program.headLifts; rw [h]; kernel_rfl
theorem liftsFinalK : Tryd.prog.liftsFinal = false := by
  obtain ⟨r, h⟩ := headCut
  unfold Program.liftsFinal; rw [h, headLiftsK]; kernel_rfl
theorem makeK : Tryd.prog.make = some .cut := by
  obtain ⟨r, h⟩ := headCut
  unfold Program.make; rw [h]; kernel_rfl
end Go.Proofs.YtahopffpajkfdaaDoor
namespace Go.Proofs.YtahopffpajkfdaaDoor.quorumTells
open Go.ChangeShapes Go.WideShapes Go.ChangeAt Go.RowKit
set_option linter.unusedVariables false
theorem typesOk : ([23, 9, 24, 25, 26].all fun t => Tryd.prog.readableRec t && decide (t < Tryd.prog.types.size)) = true := by kernel_rfl
set_option maxRecDepth 100000 in
theorem lifted (os : Os) (started : os.Started) (H : Type) (enc : TypeId × Value → H) :
    ReturnsInHanded {} Tryd.checked os 3 .any (fun w args => (Rows.quorumTellsSpec.pre enc Tryd.prog Tryd.f3 [] false w args ∧ laidMetH Tryd.prog farErrLaid w) ∧ sizedMet enc Tryd.prog Tryd.f3 (OpenSpec.ofChange Rows.quorumTellsSpec) false w args)
      (Rows.quorumTellsSpec.post enc Tryd.prog Tryd.f3 false true false false) := by
  refine returnsInHanded_of_change_and (C := Tryd.checked) (X := fun w _ => laidMetH Tryd.prog farErrLaid w) (fun _ _ _ hh h => h.of_heap hh) Tryd.ownK started (by kernel_rfl) Tryd.func3
    (ChangeSpec.witness_shaped (enc := enc) (C := Tryd.checked) (os := os) (X := fun w _ => laidMetH Tryd.prog farErrLaid w) false (World.doorLaid Tryd.prog 400 os) #[.agg #[.int .i64 0, .int .i64 0], .string ⟨#[]⟩, .slice none 0 0, .slice none 0 0, .slice none 0 0] 8 rfl (World.shaped_of_RefB (by kernel_rfl) (by kernel_rfl)) (by kernel_rfl) (by kernel_rfl) (by kernel_rfl) (farErrLaid_met os _)) ?_
  intro W base args ds gs before hval0 hW hcnd hsz0 hL hholds
  have hval : ∀ (j : Nat) t v, Tryd.f3.params[j]? = some t → args[j]? = some v → Value.okWide Tryd.prog W .any base t v := hval0
  have hW' := hW
  obtain ⟨p, q, hA0, hV, rfl, hfz, hnd⟩ := hW
  have hA : DataW.TrodAll enc Tryd.prog W 0 (fun _ => true) true Tryd.f3.params.toList args.toList ds p := hA0
  obtain ⟨rfl, rfl⟩ := trodVars_none hV
  simp only [List.append_nil] at hW'
  have hlt : ∀ x ∈ p, x.block < W.heap.size := fun x hx => hW'.lt x hx
  have hsz : (DataW.weightsEach Tryd.prog (Tryd.f3.params.toList ++ Rows.quorumTellsSpec.plain.varTypes Tryd.prog) (ds ++ [])).all (· ≤ reachBytes) = true := hsz0
  rw [Tryd.params3] at hA hval hsz
  have hK := hA
  obtain ⟨v0, vs0, d0, ds0, p0, q0, hargs, rfl, rfl, h0, r0⟩ := trodAll_cons hA
  obtain ⟨v1, vs1, d1, ds1, p1, q1, rfl, rfl, rfl, h1, r1⟩ := trodAll_cons r0
  obtain ⟨v2, vs2, d2, ds2, p2, q2, rfl, rfl, rfl, h2, r2⟩ := trodAll_cons r1
  obtain ⟨v3, vs3, d3, ds3, p3, q3, rfl, rfl, rfl, h3, r3⟩ := trodAll_cons r2
  obtain ⟨v4, vs4, d4, ds4, p4, q4, rfl, rfl, rfl, h4, r4⟩ := trodAll_cons r3
  obtain ⟨rfl, rfl, rfl⟩ := trodAll_nil r4
  obtain rfl : args = #[v0, v1, v2, v3, v4] := by cases args; simp_all
  obtain ⟨a0, b0, rfl, w0, u0⟩ := open_two Tryd.underlying23 (by kernel_rfl) (by kernel_rfl) Tryd.underlying3 Tryd.underlying3 (hval 0 23 v0 rfl rfl) h0
  obtain ⟨a1, rfl, rfl, rfl, w1⟩ := ChangeMaps.open_string Tryd.underlying9 (hval 1 9 v1 rfl rfl) h1
  have o2 := open_intc Tryd.underlying24 Tryd.underlying3 (by kernel_rfl) (hval 2 24 v2 rfl rfl) h2
  have o3 := open_spots Tryd.underlying25 Tryd.underlying29 (by kernel_rfl) (by kernel_rfl) Tryd.underlying3 Tryd.underlying3 Tryd.underlying4 (hval 3 25 v3 rfl rfl) h3
  have o4 := open_shares Tryd.underlying26 Tryd.underlying23 (by kernel_rfl) (by kernel_rfl) Tryd.underlying3 Tryd.underlying3 (hval 4 26 v4 rfl rfl) h4
  have z1 : a1.size ≤ 140737488351232 := by have := sized_string hsz (j := 1) (t := 9) rfl rfl; simpa [reachBytes] using this
  clear hA0 hval0
  refine (quorumTells_law a0 b0 w0 u0 a1 z1 v2 v3 v4 W o2 o3 o4 (farErrLaid_at hL)).mono fun e W' ⟨he, hg⟩ => ?_
  subst he
  exact ⟨_, rfl, post_of_below (pa := _) (pv := []) hW' (fun _ _ _ => (trodAll_cons_mk (shut_bool Tryd.underlying4 _) trodAll_mk0)) (fun sp hsp => trodAll_stays Tryd.laidOutK hg typesOk hK (fun x hx => ⟨hlt x hx, hsp x (by first | exact hx | (simp at hx) | simpa using hx)⟩)) (fun _ _ => rfl) (by simp) hg (ok_one (by kernel_rfl) rfl (okWide_bool_mk Tryd.underlying4 _))⟩

theorem over : Rows.quorumTellsRow.holds Tryd.pinned (OpenSpec.ofChange Rows.quorumTellsSpec) :=
  OpenClaim.holds_of_wide 3 Tryd.f3 rfl rfl rfl rfl rfl rfl rfl ⟨rfl, rfl, rfl, rfl, rfl⟩ rfl rfl rfl rfl rfl (by kernel_rfl) Tryd.func3 (by show joinedFacts Tryd.prog _ _ _ _ = true; unfold joinedFacts; rw [mayEnterK, liftsFinalK, makeK]; kernel_rfl)
    (of_decide_eq_true (by kernel_rfl)) (by unfold Func.isWrapper; first | (rw [if_pos (by decide +kernel)]; kernel_rfl) | (rw [if_neg (by decide +kernel)]; exact ⟨rfl, rfl⟩))
    (fun os started H enc _ => lifted os started H enc)
theorem card : Rows.QuorumTellsCardSaid :=
  Claim7.holds_tied_plain_at .later [] [.data, .handle] true (true, "f20d6db7f5e69aa7aa35e34b54c40c58b618be88f18eef3d20039067197992de") true
    over (fun _ h => by cases h) (by kernel_rfl) (fun _ h => by cases h) quorumTells_row_tie rfl ⟨rfl, rfl⟩ mainIsK rfl
    (fun f fn hf hfn => by
      obtain rfl : f = 3 := Option.some.inj ((show Tryd.prog.funcNamed "pairstone/stonelaw2.QuorumTells" = some 3 by kernel_rfl).symm.trans hf) |>.symm
      obtain rfl : fn = Tryd.f3 := (Option.some.inj (Tryd.func3.symm.trans hfn)).symm
      exact ⟨by kernel_rfl, fun j t ht => by
        rw [Tryd.params3] at ht
        have hm : t ∈ ([23, 9, 24, 25, 26] : List TypeId) := by simpa using Array.mem_of_getElem? ht
        have hall : (([23, 9, 24, 25, 26] : List TypeId).all fun u => !Tryd.prog.wantsStandIn u) = true := by kernel_rfl
        exact (show Tryd.prog.wantsStandIn t = false by simpa using List.all_eq_true.1 hall t hm)⟩)
    (by kernel_rfl)
#print axioms card
end Go.Proofs.YtahopffpajkfdaaDoor.quorumTells
