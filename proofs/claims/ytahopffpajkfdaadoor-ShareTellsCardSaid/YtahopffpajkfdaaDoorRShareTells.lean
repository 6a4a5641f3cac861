/- The statement of ShareTells: for every input the law returns true, and the arguments read as they did. (its listed variable reads as laid; the card ties it) -/
import Derived.Test.YtahopffpajkfdaaDoorMShareTells
import Derived.Test.YtahopffpajkfdaaDoorWb
import Derived.Test.YtahopffpajkfdaaDoorWv
import Derived.LaidEql
import Derived.Stop.Asserts
import Derived.RowKitTokens
import Derived.Laws.Entries
import Derived.Deep.DeepCutAuto
import Derived.Deep.CutBlock
import Derived.Test.YtahopffpajkfdaaDoorRows
import Derived.ProofKit
import Derived.LaidMore
import Derived.OpenShut
import Derived.MakeChecks
import Derived.Deep.Strs
import Derived.LaidHandle
import Derived.Test.YtahopffpajkfdaaDoorFr
import Derived.Test.YtahopffpajkfdaaDoorFs
import Derived.SizedLaws
import Derived.Test.YtahopffpajkfdaaDoorTie
import Derived.Test.YtahopffpajkfdaaDoorCards
import Derived.SevenTiedAt
namespace Go.Proofs.YtahopffpajkfdaaDoor
open Go.RowKit
set_option maxRecDepth 100000
set_option linter.unusedVariables false
set_option linter.unusedSimpArgs false
theorem refTurn_q (n : Int) (w : World) (h1 : 1 ≤ n) (h2 : n < 1013) : Calls Tryd.prog 73 #[.int .i64 n, .int .i64 1013] w fun e w' => (∃ v : Int, e = .returned (.int .i64 v) ∧ 0 ≤ v ∧ v < 1013 ∧ v * n % 1013 = 1) ∧ w = w' :=
  refTurn_c n 1013 w ⟨20, turn_q h1 h2⟩ (by omega) (by omega) (by omega) (by omega)
/-- Places that are right and unlike, below k. -/
def PlOk (xs : List Int) (k : Nat) : Prop := (∀ i (h : i < xs.length), i < k → 1 ≤ xs[i] ∧ xs[i] < 1013) ∧ (∀ i j (hi : i < xs.length) (hj : j < xs.length), i < j → j < k → xs[i] ≠ xs[j])
/-- The fault at place k. -/
def PlBad (xs : List Int) (k : Nat) (R : Int) : Prop := ∃ h : k < xs.length, (¬ (1 ≤ xs[k] ∧ xs[k] < 1013) ∧ R = 1) ∨ ((1 ≤ xs[k] ∧ xs[k] < 1013) ∧ (∃ (m : Nat) (hm : m < xs.length), m < k ∧ xs[m] = xs[k]) ∧ R = 7)
theorem pl_upto (xs : List Int) : ∀ n, n ≤ xs.length → PlOk xs n ∨ ∃ k R, k < n ∧ PlOk xs k ∧ PlBad xs k R
  | 0, _ => .inl ⟨fun i _ h => absurd h (Nat.not_lt_zero _), fun i j _ _ _ h => absurd h (Nat.not_lt_zero _)⟩
  | n + 1, hn => by
    rcases pl_upto xs n (by omega) with h | ⟨k, R, h1, h2, h3⟩
    · have hlt : n < xs.length := by omega
      by_cases hx : 1 ≤ xs[n] ∧ xs[n] < 1013
      · by_cases hm : ∃ (m : Nat) (hm : m < xs.length), m < n ∧ xs[m] = xs[n]
        · exact .inr ⟨n, 7, by omega, h, hlt, .inr ⟨hx, hm, rfl⟩⟩
        · refine .inl ⟨fun i hi hik => ?_, fun i j hi hj hij hjk => ?_⟩
          · by_cases e : i = n
            · subst e; exact hx
            · exact h.1 i hi (by omega)
          · by_cases e : j = n
            · subst e; exact fun e2 => hm ⟨i, hi, hij, e2⟩
            · exact h.2 i j hi hj hij (by omega)
      · exact .inr ⟨n, 1, by omega, h, hlt, .inl ⟨hx, rfl⟩⟩
    · exact .inr ⟨k, R, by omega, h2, h3⟩
/-- What is wrong with some places: four ways. -/
theorem pl_cases (xs : List Int) : 12 < xs.length ∨ xs.length = 0 ∨ (1 ≤ xs.length ∧ xs.length ≤ 12 ∧ PlOk xs xs.length) ∨ (1 ≤ xs.length ∧ xs.length ≤ 12 ∧ ∃ k R, k < xs.length ∧ PlOk xs k ∧ PlBad xs k R) := by
  by_cases h1 : 12 < xs.length
  · exact .inl h1
  · by_cases h2 : xs.length = 0
    · exact .inr (.inl h2)
    · rcases pl_upto xs xs.length (Nat.le_refl _) with h | h
      · exact .inr (.inr (.inl ⟨by omega, by omega, h⟩))
      · exact .inr (.inr (.inr ⟨by omega, by omega, h⟩))
theorem PlOk.s {xs : List Int} (h : PlOk xs xs.length) : ∀ i (h : i < xs.length), 1 ≤ xs[i] ∧ xs[i] < 1013 := fun i hi => h.1 i hi hi
theorem PlOk.d {xs : List Int} (h : PlOk xs xs.length) : ∀ i j (hi : i < xs.length) (hj : j < xs.length), i < j → xs[i] ≠ xs[j] := fun i j hi hj hij => h.2 i j hi hj hij hj
theorem rplaces_full (a : Option Addr) (l cap : Nat) (w : World) (hl : 12 < l) (hm : l ≤ 9223372036854775807) :
    Calls Tryd.prog 16 #[.slice a l cap] w fun e w' => e = .returned (.int .i64 4) ∧ Below w.heap.size w w' := by
  have hd : decide ((12 : Int) < (l : Int)) = true := by rw [decide_eq_true_iff]; omega
  go_enter Tryd.func16, Tryd.ntmps16
  go_wp2
  go_ret
  exact ⟨rfl, (by repeat (first | exact Below.refl _ _ | refine balloc ?_ _ | refine Below.drew ?_ | refine below_drewN ?_ _ | refine below_set ?_ (by first | omega | (dsimp only; omega)) _))⟩
theorem rplaces_none (a : Option Addr) (cap : Nat) (w : World) :
    Calls Tryd.prog 16 #[.slice a 0 cap] w fun e w' => e = .returned (.int .i64 5) ∧ Below w.heap.size w w' := by
  go_enter Tryd.func16, Tryd.ntmps16
  go_wp2
  go_ret
  exact ⟨rfl, (by repeat (first | exact Below.refl _ _ | refine balloc ?_ _ | refine Below.drew ?_ | refine below_drewN ?_ _ | refine below_set ?_ (by first | omega | (dsimp only; omega)) _))⟩
theorem weights_full (a : Option Addr) (l cap : Nat) (w : World) (hl : 12 < l) (hm : l ≤ 9223372036854775807) :
    Calls Tryd.prog 28 #[.slice a l cap] w fun e w' => e = .returned (.tuple #[.slice none 0 0, .iface 114 (.int .i64 4)]) ∧ Below w.heap.size w w' := by
  have hd : decide ((12 : Int) < (l : Int)) = true := by rw [decide_eq_true_iff]; omega
  go_enter Tryd.func28, Tryd.ntmps28
  go_wp2
  go_ret2
  exact ⟨rfl, Below.refl _ _⟩
theorem weights_none (a : Option Addr) (cap : Nat) (w : World) :
    Calls Tryd.prog 28 #[.slice a 0 cap] w fun e w' => e = .returned (.tuple #[.slice none 0 0, .iface 114 (.int .i64 5)]) ∧ Below w.heap.size w w' := by
  go_enter Tryd.func28, Tryd.ntmps28
  go_wp2
  go_ret2
  exact ⟨rfl, Below.refl _ _⟩
set_option maxHeartbeats 8000000 in
theorem weights_bad (xs : List Int) (v : Value) (R : Int) (k : Nat) (w : World) (h1 : 1 ≤ xs.length) (h2 : xs.length ≤ 12) (hk : k < xs.length) (hok : PlOk xs k) (hbad : PlBad xs k R) (h : IntSl w v xs) (hv : CapOk v) :
    Calls Tryd.prog 28 #[v] w fun e w' => e = .returned (.tuple #[.slice none 0 0, .iface 114 (.int .i64 R)]) ∧ Below w.heap.size w w' := by
  obtain ⟨a, cap, rfl, h⟩ := h
  have hcap := hv _ _ _ rfl
  clear hv
  obtain ⟨b, off, rfl, hI⟩ := h (by omega)
  clear h
  have e1 : decide ((12 : Int) < (xs.length : Int)) = false := by rw [decide_eq_false_iff_not]; omega
  have e2 : ((xs.length : Int) == 0) = false := by rw [beq_eq_false_iff_ne]; omega
  obtain ⟨hs, hd⟩ := hok
  replace hI := Lib.hid hI
  replace hs := Lib.hid hs
  replace hd := Lib.hid hd
  replace hbad := Lib.hid hbad
  go_enter Tryd.func28, Tryd.ntmps28
  go_wp2
  go_loopw [24] (fun i wr => ∃ n : Nat, n ≤ k ∧ i = .int .i64 n ∧ wr = w) (fun i _ => xs.length - (intOf i).toNat)
  case atStart => exact ⟨0, Nat.zero_le _, rfl, rfl⟩
  case round =>
    obtain ⟨n, hn, rfl, hwr⟩ := hrel
    subst hwr
    have hlt : n < xs.length := by omega
    have m1 := hI.out.c n hlt
    have ml := hI.out.lt
    have hsl := Lib.hid (show ∀ c, IntSl wr (.slice (some ⟨b, off, none⟩) n c) (xs.take n) from fun c => ⟨_, c, by rw [List.length_take, Nat.min_eq_left (by omega)], fun _ => ⟨b, off, rfl, hI.out.lt, fun i hi => by rw [List.getElem_take]; exact hI.out.c i (by rw [List.length_take] at hi; omega)⟩⟩)
    have htl := Lib.hid (show (xs.take n).length ≤ 9223372036854775807 by rw [List.length_take]; omega)
    have hnc : n ≤ cap := by omega
    have hnc2 : (n : Int) ≤ (cap : Int) := by omega
    by_cases hnk : n < k
    · obtain ⟨x1, x2⟩ := hs.out n hlt hnk
      have hne := Lib.hid (fun i (hi : i < (xs.take n).length) => (by rw [List.getElem_take]; exact hd.out i n (by rw [List.length_take] at hi; omega) hlt (by rw [List.length_take] at hi; omega) hnk : (xs.take n)[i] ≠ xs[n]))
      clear hbad
      generalize xs[n] = x at *
      go_wp2_with fail
      refine (secret_y x _ x1 x2).mono ?_; rintro e w' ⟨rfl, rfl⟩
      go_wp2_with fail
      refine (contI_n (xs.take n) x _ _ htl.out (hsl.out cap) hne.out).mono ?_; rintro e w' ⟨rfl, rfl⟩
      go_wp2
      go_roundw
      case rel => exact ⟨n + 1, by omega, by go_num, by first | rfl | trivial⟩
      case measure => simp [intOf]; omega
    · obtain rfl : n = k := by omega
      obtain ⟨hkk, hb1 | ⟨hx, ⟨m, hm, hmk, hme⟩, rfl⟩⟩ := hbad.out
      · obtain ⟨hb1, rfl⟩ := hb1
        clear hbad
        generalize xs[n] = x at *
        replace hb1 := Lib.hid hb1
        go_wp2_with fail
        refine (secret_n x _ hb1.out).mono ?_; rintro e w' ⟨rfl, rfl⟩
        go_wp2
        go_ret2
        exact ⟨rfl, Below.refl _ _⟩
      · obtain ⟨x1, x2⟩ := hx
        have hmt := Lib.hid (show ∃ h : m < (xs.take n).length, (xs.take n)[m] = xs[n] from ⟨by rw [List.length_take]; omega, by rw [List.getElem_take]; exact hme⟩)
        clear hbad hme
        generalize xs[n] = x at *
        go_wp2_with fail
        refine (secret_y x _ x1 x2).mono ?_; rintro e w' ⟨rfl, rfl⟩
        go_wp2_with fail
        refine (contI_y (xs.take n) x _ _ htl.out (hsl.out cap) m hmt.out.1 hmt.out.2).mono ?_; rintro e w' ⟨rfl, rfl⟩
        go_wp2
        go_ret2
        exact ⟨rfl, Below.refl _ _⟩
set_option maxHeartbeats 8000000 in
theorem rplaces_core (xs : List Int) (b off cap : Nat) (R : Int) (k : Nat) (w : World) (h1 : 1 ≤ xs.length) (h2 : xs.length ≤ 12) (hk : k ≤ xs.length) (hok : PlOk xs k) (hbad : k < xs.length → PlBad xs k R) (hend : k = xs.length → R = 0) (hI : IntsAt w b off xs) :
    Calls Tryd.prog 16 #[.slice (some ⟨b, off, none⟩) xs.length cap] w fun e w' => e = .returned (.int .i64 R) ∧ Below w.heap.size w w' := by
  have e1 : decide ((12 : Int) < (xs.length : Int)) = false := by rw [decide_eq_false_iff_not]; omega
  have e2 : ((xs.length : Int) == 0) = false := by rw [beq_eq_false_iff_ne]; omega
  obtain ⟨hs, hd⟩ := hok
  replace hI := Lib.hid hI
  replace hs := Lib.hid hs
  replace hd := Lib.hid hd
  replace hbad := Lib.hid hbad
  replace hend := Lib.hid hend
  go_enter Tryd.func16, Tryd.ntmps16
  go_wp2
  go_loopw [3] (fun i wr => ∃ n : Nat, n ≤ k ∧ i = .int .i64 n ∧ Below w.heap.size w wr) (fun i _ => xs.length - (intOf i).toNat)
  case atStart => exact ⟨0, Nat.zero_le _, rfl, Below.refl _ _⟩
  case round =>
    obtain ⟨n, hn, rfl, hb⟩ := hrel
    replace hb := Lib.hid hb
    by_cases hlt : n < xs.length
    · have m1 := (hI.out.below hb.out).c n hlt
      have ml := (hI.out.below hb.out).lt
      by_cases hnk : n < k
      · obtain ⟨x1, x2⟩ := hs.out n hlt hnk
        have hne := Lib.hid (fun i (hi : i < xs.length) (h : i < n) => hd.out i n hi hlt h hnk)
        clear hbad hend
        generalize xs[n] = x at *
        go_wp2_with fail
        refine (rSecret_y x _ x1 x2).mono ?_; rintro e w' ⟨rfl, rfl⟩
        go_wp2
        go_loopw [5] (fun i wq => ∃ m : Nat, m ≤ n ∧ i = .int .i64 m ∧ Below wr.heap.size wr wq) (fun i _ => n - (intOf i).toNat)
        case atStart => exact ⟨0, Nat.zero_le _, rfl, Below.refl _ _⟩
        case round =>
          obtain ⟨m, hm, rfl, hb2⟩ := hrel
          replace hb2 := Lib.hid hb2
          have hB := Lib.hid (below_seq hb.out hb2.out)
          by_cases hlt2 : m < n
          · have k1 := (hI.out.below hB.out).c m (by omega)
            have k2 := (bcell hb2.out).1 _ _ ml |>.trans m1
            have k3 := (hI.out.below hB.out).lt
            have k4 : ((xs[m]'(by omega)) == x) = false := by rw [beq_eq_false_iff_ne]; exact hne.out m (by omega) hlt2
            generalize (xs[m]'(by omega)) = y at *
            go_wp2_with fail
            go_quiet (fail)
            go_wp2
            go_roundw
            case rel => exact ⟨m + 1, by omega, by go_num, (by repeat (first | exact hb2.out | refine below_drewN ?_ _ | refine Below.drew ?_))⟩
            case measure => simp [intOf]; omega
          · obtain rfl : m = n := by omega
            go_wp2
            go_roundw
            case rel => exact ⟨m + 1, by omega, by go_num, hB.out⟩
            case measure => simp [intOf]; omega
      · obtain rfl : n = k := by omega
        obtain ⟨hkk, hb1 | ⟨hx, ⟨m, hm, hmk, hme⟩, rfl⟩⟩ := hbad.out hlt
        · obtain ⟨hb1, rfl⟩ := hb1
          clear hbad hend
          generalize xs[n] = x at *
          replace hb1 := Lib.hid hb1
          go_wp2_with fail
          refine (rSecret_n x _ hb1.out).mono ?_; rintro e w' ⟨rfl, rfl⟩
          go_wp2
          go_ret
          exact ⟨rfl, hb.out⟩
        · obtain ⟨x1, x2⟩ := hx
          obtain ⟨m, hm, hme, hfst⟩ := first_at (xs.take n) xs[n] m (by rw [List.length_take]; omega) (by rw [List.getElem_take]; exact hme)
          rw [List.length_take] at hm
          rw [List.getElem_take] at hme
          have hne := Lib.hid (fun i (hi : i < xs.length) (h : i < m) => by have := hfst i (by rw [List.length_take]; omega) h; rw [List.getElem_take] at this; exact this)
          clear hbad hend hfst
          generalize xs[n] = x at *
          replace hme := Lib.hid hme
          go_wp2_with fail
          refine (rSecret_y x _ x1 x2).mono ?_; rintro e w' ⟨rfl, rfl⟩
          go_wp2
          go_loopw [5] (fun i wq => ∃ q : Nat, q ≤ m ∧ i = .int .i64 q ∧ Below wr.heap.size wr wq) (fun i _ => n - (intOf i).toNat)
          case atStart => exact ⟨0, Nat.zero_le _, rfl, Below.refl _ _⟩
          case round =>
            obtain ⟨q, hq, rfl, hb2⟩ := hrel
            replace hb2 := Lib.hid hb2
            have hB := Lib.hid (below_seq hb.out hb2.out)
            have hqn : q < n := by omega
            have k1 := (hI.out.below hB.out).c q (by omega)
            have k2 := (bcell hb2.out).1 _ _ ml |>.trans m1
            have k3 := (hI.out.below hB.out).lt
            by_cases hqm : q < m
            · have k4 : ((xs[q]'(by omega)) == x) = false := by rw [beq_eq_false_iff_ne]; exact hne.out q (by omega) hqm
              clear hme
              generalize (xs[q]'(by omega)) = y at *
              go_wp2_with fail
              go_quiet (fail)
              go_wp2
              go_roundw
              case rel => exact ⟨q + 1, by omega, by go_num, (by repeat (first | exact hb2.out | refine below_drewN ?_ _ | refine Below.drew ?_))⟩
              case measure => simp [intOf]; omega
            · obtain rfl : q = m := by omega
              rw [hme.out] at k1
              go_wp2_with fail
              go_quiet (fail)
              go_wp2
              go_ret
              exact ⟨rfl, (by repeat (first | exact hB.out | refine below_drewN ?_ _ | refine Below.drew ?_))⟩
    · obtain rfl : n = xs.length := by omega
      obtain rfl : R = 0 := hend.out (by omega)
      go_wp2
      go_ret
      exact ⟨rfl, hb.out⟩
/-- What the document says of some places, and what the code does. -/
theorem rplaces_sl (xs : List Int) (v : Value) (R : Int) (k : Nat) (w : World) (h1 : 1 ≤ xs.length) (h2 : xs.length ≤ 12) (hk : k ≤ xs.length) (hok : PlOk xs k) (hbad : k < xs.length → PlBad xs k R) (hend : k = xs.length → R = 0) (h : IntSl w v xs) :
    Calls Tryd.prog 16 #[v] w fun e w' => e = .returned (.int .i64 R) ∧ Below w.heap.size w w' := by
  obtain ⟨a, cap, rfl, h⟩ := h
  obtain ⟨b, off, rfl, hI⟩ := h (by omega)
  exact rplaces_core xs b off cap R k w h1 h2 hk hok hbad hend hI
set_option maxHeartbeats 8000000 in
theorem rweights_f (xs : List Int) (v : Value) (w : World) (h2 : xs.length ≤ 12) (hs : ∀ i (h : i < xs.length), 1 ≤ xs[i] ∧ xs[i] < 1013) (hd : ∀ i j (hi : i < xs.length) (hj : j < xs.length), i < j → xs[i] ≠ xs[j]) (h : IntSl w v xs) :
    Calls Tryd.prog 18 #[v] w fun e w' => ∃ v', e = .returned v' ∧ IntF w.heap.size w' v' (wgts xs) ∧ Below w.heap.size w w' := by
  obtain ⟨a, cap, rfl, h0⟩ := h
  have hbd := Lib.hid (upd_bd xs)
  have hst := Lib.hid (fun i k h => upd_step (xs := xs) (i := i) (k := k) h)
  have hsm := Lib.hid (fun i k h => upd_same (xs := xs) (i := i) (k := k) h)
  have hu0 : Hid (∀ i, upd xs i 0 = (1, 1)) := Lib.hid fun _ => rfl
  have htn := Lib.hid (upd_turn xs hs hd)
  have hps := Lib.hid (upd_pos xs hs hd)
  have hwg := Lib.hid (fun n (h : n < xs.length) => (show (wgts xs).take (n + 1) = (wgts xs).take n ++ [wpre xs n xs.length] by rw [take_snoc3 _ n (by rw [wgts_len]; exact h), wgts_get]))
  have hwl := wgts_len xs
  generalize wgts xs = ws at *
  generalize upd xs = up at *
  replace hs := Lib.hid hs
  replace h0 := Lib.hid h0
  clear hd
  go_enter Tryd.func18, Tryd.ntmps18
  go_wp2
  go_loopw [3, 4] (fun o i wr => ∃ (n : Nat) (u : Value), n ≤ xs.length ∧ i = .int .i64 n ∧ u = o ∧ wr.ownsRow w.heap.size 3 1 u n ((ws.take n).map (Value.int .i64)) ∧ Below w.heap.size w wr) (fun _ i _ => xs.length - (intOf i).toNat)
  case atStart => exact ⟨0, _, Nat.zero_le _, rfl, rfl, World.ownsRow_nil _ _ _ _, Below.refl _ _⟩
  case round =>
    obtain ⟨n, u, hn, rfl, rfl, hown, hb⟩ := hrel
    replace hown := Lib.hid hown
    replace hb := Lib.hid hb
    by_cases hlt : n < xs.length
    · obtain ⟨b, off, rfl, hI⟩ := h0.out (by omega)
      replace hI := Lib.hid hI
      have hgx := Lib.hid (show xs.getD n 0 = xs[n] by rw [List.getD_eq_getElem?_getD, List.getElem?_eq_getElem hlt]; rfl)
      obtain ⟨x1, x2⟩ := hs.out n hlt
      have hIx := Lib.hid (fun (w' : World) (hb' : Below w.heap.size w w') => (hI.out.below hb').c n hlt)
      generalize xs[n] = x at *
      obtain ⟨wo, hwo⟩ : ∃ y, y = wr := ⟨_, rfl⟩
      subst hwo
      go_wp2
      go_loopw [5, 6, 7] (fun p q k wq => ∃ m : Nat, m ≤ xs.length ∧ k = .int .i64 m ∧ p = .int .i64 (up n m).1 ∧ q = .int .i64 (up n m).2 ∧ Below wo.heap.size wo wq) (fun _ _ k _ => xs.length - (intOf k).toNat)
      case atStart => exact ⟨0, Nat.zero_le _, rfl, by rw [hu0.out], by rw [hu0.out], Below.refl _ _⟩
      case round =>
        obtain ⟨m, hm, rfl, rfl, rfl, hb2⟩ := hrel
        replace hb2 := Lib.hid hb2
        have hB := Lib.hid (below_seq hb.out hb2.out)
        by_cases hlt3 : m < xs.length
        · have m1 := hIx.out wr hB.out
          have m2 := (hI.out.below hB.out).c m hlt3
          have m3 := (hI.out.below hB.out).lt
          have hgy := Lib.hid (show xs.getD m 0 = xs[m] by rw [List.getD_eq_getElem?_getD, List.getElem?_eq_getElem hlt3]; rfl)
          obtain ⟨y1, y2⟩ := hs.out m hlt3
          generalize xs[m] = y at *
          by_cases hmn : m = n
          · have hb3 : ((m : Int) != (n : Int)) = false := by rw [bne_eq_false_iff_eq, hmn]
            have hsame := Lib.hid (hsm.out n m hmn)
            replace hmn := Lib.hid hmn
            go_wp2
            go_roundw
            case rel => exact ⟨m + 1, by omega, by go_num, by rw [hsame.out], by rw [hsame.out], hb2.out⟩
            case measure => simp [intOf]; omega
          · have hb3 : ((m : Int) != (n : Int)) = true := by rw [bne_iff_ne]; omega
            have hstep := hst.out n m hmn
            rw [hgx.out, hgy.out] at hstep
            obtain ⟨⟨q0, q1⟩, d0, d1⟩ := hbd.out n m
            generalize hq : (up n m).1 = q at *
            generalize hdq : (up n m).2 = d at *
            obtain ⟨p1, p2⟩ := mul_bq q0 q1 (show 0 ≤ y by omega) y2
            have f1 : IntKind.i64.wrap (q * y) = q * y := IntWalk.i64_in _ (by omega)
            have f2 : (q * y).tmod 1013 = (q * y) % 1013 := Int.tmod_eq_emod_of_nonneg p1
            have f3 : IntKind.i64.wrap (y - x) = y - x := IntWalk.i64_in _ (by omega)
            obtain ⟨z, hz⟩ : ∃ z, (y - x) % 1013 = z := ⟨_, rfl⟩
            have z0 : 0 ≤ z ∧ z < 1013 := by omega
            rw [hz] at hstep
            obtain ⟨p3, p4⟩ := mul_bq d0 d1 z0.1 z0.2
            have f4 : IntKind.i64.wrap (d * z) = d * z := IntWalk.i64_in _ (by omega)
            have f5 : (d * z).tmod 1013 = (d * z) % 1013 := Int.tmod_eq_emod_of_nonneg p3
            have hqr := Lib.hid (fun w => (by have := refMod_q (y - x) w (by omega) (by omega); rw [hz] at this; exact this : Calls Tryd.prog 58 #[.int .i64 (y - x), .int .i64 1013] w fun e w' => e = .returned (.int .i64 z) ∧ w = w'))
            replace hstep := Lib.hid hstep
            clear hz hmn
            go_wp2_with fail
            go_quiet (first | (go_at_call 58; exact quiet_left (hqr.out _)))
            go_wp2
            go_roundw
            case rel => exact ⟨m + 1, by omega, by go_num, by rw [hstep.out], by rw [hstep.out], (by repeat (first | exact hb2.out | refine below_drewN ?_ _ | refine Below.drew ?_))⟩
            case measure => simp [intOf]; omega
        · obtain rfl : m = xs.length := by omega
          obtain ⟨⟨q0, q1⟩, d0, d1⟩ := hbd.out n xs.length
          have dp := hps.out n hlt
          have htt := Lib.hid (htn.out n hlt)
          generalize hq : (up n xs.length).1 = q at *
          generalize hdq : (up n xs.length).2 = d at *
          have htl : Hid ((ws.take n).length = n) := Lib.hid (by rw [List.length_take, hwl]; omega)
          have hsn := Lib.hid (hwg.out n hlt)
          generalize hT : ws.take n = T at *
          have zo := hB.out.size
          have how := Lib.hid (own_below hown.out hb2.out)
          clear hT hq hdq
          go_wp2_with fail
          refine (refTurn_q d _ dp d1).mono ?_; rintro e w' ⟨⟨t, rfl, t0, t1, ht⟩, rfl⟩
          have hw := htt.out t ht
          obtain ⟨p1, p2⟩ := mul_bq q0 q1 t0 t1
          have f1 : IntKind.i64.wrap (q * t) = q * t := IntWalk.i64_in _ (by omega)
          have f2 : (q * t).tmod 1013 = wpre xs n xs.length := by rw [← hw]; exact Int.tmod_eq_emod_of_nonneg p1
          generalize wpre xs n xs.length = g at *
          clear hw ht
          go_wp2_with (first | (at_builtin; refine wpl_append_int rfl _ _ _ rfl (by kernel_rfl) w.heap.size _ T n rfl (how.out.alloc _) htl.out (by omega) (by simp only [World.size_alloc]; omega) wr.heap.size g rfl (by go_simp) ?_; intro v' w3 hown' hgrow hbel hloc; replace hown' := Lib.hid hown'; replace hbel := Lib.hid (hbel w (balloc hB.out _)); clear hgrow hloc) | fail)
          go_wp2
          go_roundw
          case rel => exact ⟨n + 1, _, by omega, by go_num, rfl, by rw [hsn.out]; exact hown'.out, hbel.out⟩
          case measure => simp [intOf]; omega
    · obtain rfl : n = xs.length := by omega
      have hI2 := Lib.hid (own_intf (Nat.le_refl _) (by have := hown.out; rw [List.take_of_length_le (by omega)] at this; exact this) hwl.symm)
      go_wp2
      go_ret
      exact ⟨_, rfl, hI2.out, hb.out⟩
end Go.Proofs.YtahopffpajkfdaaDoor
namespace Go.Proofs.YtahopffpajkfdaaDoor
open Go.RowKit
set_option maxRecDepth 100000
set_option linter.unusedVariables false
set_option linter.unusedSimpArgs false
theorem wpl_append_intb {w : World} {ops : Array Oper} {rest : List Oper} {o : Oper} {a : Act} {Q : Exit → Act → World → Prop} (hgd : o.guard = none) (s x : Operand) (t : TypeId)
    (ho : o.op = .call { callee := .builtin .append, args := #[s, x], argTypes := #[t, t] }) (ht : Tryd.prog.underlying t = some (.slice 3)) (B : Nat) (v : Value) (l : List Int) (n : Nat) (hs : a.eval s = v)
    (hown : w.ownsRow B 3 1 v n (l.map (Value.int .i64))) (hn : l.length = n) (hl : (n + 1) * 8 ≤ 140737488355328) (hB : B ≤ w.heap.size) (g : Nat) (c : Int) (hx : a.eval x = .slice (some ⟨g, 0, none⟩) 1 1)
    (h0 : w.cell? ⟨g, 0, none⟩ = some (.int .i64 c))
    (h : ∀ v' w', w'.ownsRow B 3 1 v' (n + 1) ((l ++ [c]).map (Value.int .i64)) → w.grownBy w' v.ownBlock → (∀ a, Below B a w → Below B a w') → (v'.ownBlock = v.ownBlock ∨ v'.ownBlock = some w.heap.size) → wpList Tryd.prog ops Q rest (a.put o.dst v') w') :
    wpList Tryd.prog ops Q (o :: rest) a w := by
  obtain ⟨i0, hi, hz0, hz1, hz2⟩ := info_parts info_int
  refine wpList_append_own_at _ hgd s x _ ho B _ i0 _ 1 8 ht hi hz0 hz1 hz2 rfl (by decide) v n _ hs hown ⟨g, 0, none⟩ 1 1 [.int .i64 c] hx rfl ?_ ?_ (by unfold maxLen; omega) hl hB ?_
  · intro j u hj
    have e : ∀ k, (⟨g, 0, none⟩ : Addr).add k = ⟨g, k, none⟩ := fun k => by rw [add_none, Nat.zero_add]
    rw [e]
    match j, hj with
    | 0, hj => cases hj; exact h0
  · intro u hu
    simp only [List.mem_cons, List.not_mem_nil, or_false] at hu
    subst hu; rfl
  · intro v' w' h3 h4 _ h6
    rw [show l.map (Value.int .i64) ++ [.int .i64 c] = (l ++ [c]).map (Value.int .i64) by simp] at h3
    exact h v' w' h3 h4 (fun a hb => Below.grown hb h4 hB (fun k hk => (hown.lt k hk).1)) h6
set_option maxHeartbeats 4000000 in
theorem rvalue_c (l : List Int) (v : Value) (x V : Int) (w : World) (h2 : l.length ≤ 12) (hok : l.all okR = true) (x0 : 0 ≤ x) (x1 : x < 1013) (h : IntSl w v l) (hV : Hid (val x l = V)) :
    Calls Tryd.prog 25 #[v, .int .i64 x] w fun e w' => e = .returned (.int .i64 V) ∧ w = w' := by
  obtain ⟨a, cap, rfl, h0⟩ := h
  have hbd := Lib.hid (fwd_bd x l)
  have hend : Hid ((fwd x l l.length).1 = V) := by rw [fwd_val]; exact hV
  have hst : Hid (∀ n (h : n < l.length), fwd x l (n + 1) = (((fwd x l n).1 + l[n] * (fwd x l n).2) % 1013, (fwd x l n).2 * x % 1013)) := Lib.hid fun n h => by rw [fwd, gD h]
  have hu0 : Hid (fwd x l 0 = (0, 1)) := Lib.hid rfl
  have hall := Lib.hid (fun i (hi : i < l.length) => okR_y (all_okR hok i hi))
  generalize fwd x l = fw at *
  replace h0 := Lib.hid h0
  clear hV hok
  go_enter Tryd.func25, Tryd.ntmps25
  go_wp2
  go_loop [5, 6, 7] (fun p q k => ∃ m : Nat, m ≤ l.length ∧ k = .int .i64 m ∧ p = .int .i64 (fw m).1 ∧ q = .int .i64 (fw m).2) (fun _ _ k => l.length - (intOf k).toNat)
  case atStart => exact ⟨0, Nat.zero_le _, rfl, by rw [hu0.out], by rw [hu0.out]⟩
  case round =>
    obtain ⟨m, hm, rfl, rfl, rfl⟩ := hrel
    by_cases hlt : m < l.length
    · obtain ⟨b, off, rfl, hI⟩ := h0.out (by omega)
      have m1 := hI.c m hlt
      have m2 := hI.lt
      have hstep := hst.out m hlt
      obtain ⟨c0, c1⟩ := hall.out m hlt
      obtain ⟨⟨q0, q1⟩, d0, d1⟩ := hbd.out m
      clear hI
      generalize (fw m).1 = q at *
      generalize (fw m).2 = d at *
      generalize l[m] = c at *
      obtain ⟨p1, p2⟩ := mul_bq c0 c1 d0 d1
      obtain ⟨p3, p4⟩ := mul_bq d0 d1 x0 x1
      have f1 : IntKind.i64.wrap (c * d) = c * d := IntWalk.i64_in _ (by omega)
      have f2 : IntKind.i64.wrap (q + c * d) = q + c * d := IntWalk.i64_in _ (by omega)
      have f3 : (q + c * d).tmod 1013 = (q + c * d) % 1013 := Int.tmod_eq_emod_of_nonneg (by omega)
      have f4 : IntKind.i64.wrap (d * x) = d * x := IntWalk.i64_in _ (by omega)
      have f5 : (d * x).tmod 1013 = (d * x) % 1013 := Int.tmod_eq_emod_of_nonneg p3
      replace hstep := Lib.hid hstep
      go_wp2
      go_round
      case rel => exact ⟨m + 1, by omega, by go_num, by rw [hstep.out], by rw [hstep.out]⟩
      case measure => simp [intOf]; omega
    · obtain rfl : m = l.length := by omega
      go_wp2
      go_ret
      exact ⟨ret_int hend.out, rfl⟩
set_option maxHeartbeats 4000000 in
theorem shares_same (l : List (Int × Int)) (v1 v2 : Value) (w : World) (hl : l.length ≤ 1000000) (h1 : ShSl w v1 l) (h2 : ShSl w v2 l) :
    Calls Tryd.prog 27 #[v1, v2] w fun e w' => e = .returned (.bool true) ∧ Below w.heap.size w w' := by
  obtain ⟨a1, c1, rfl, i1⟩ := h1
  obtain ⟨a2, c2, rfl, i2⟩ := h2
  replace i1 := Lib.hid i1
  replace i2 := Lib.hid i2
  have g1 : ((l.length : Int) != (l.length : Int)) = false := by simp
  go_enter Tryd.func27, Tryd.ntmps27
  go_wp2
  go_loopw [5] (fun i wr => ∃ n : Nat, n ≤ l.length ∧ i = .int .i64 n ∧ Below w.heap.size w wr) (fun i _ => l.length - (intOf i).toNat)
  case atStart => exact ⟨0, Nat.zero_le _, rfl, Below.refl _ _⟩
  case round =>
    obtain ⟨n, hn, rfl, hb⟩ := hrel
    replace hb := Lib.hid hb
    by_cases hlt : n < l.length
    · obtain ⟨b1, o1, rfl, l1⟩ := i1.out (by omega)
      obtain ⟨b2, o2, rfl, l2⟩ := i2.out (by omega)
      have k1 := (l1.below hb.out).cx n hlt
      have k2 := (l2.below hb.out).cx n hlt
      have k5 := (l1.below hb.out).cy n hlt
      have k6 := (l2.below hb.out).cy n hlt
      have k3 := (l1.below hb.out).lt
      have k4 := (l2.below hb.out).lt
      clear l1 l2
      generalize l[n] = x at *
      go_wp2_with fail
      go_quiet (fail)
      go_wp2
      go_roundw
      case rel => exact ⟨n + 1, by omega, by go_num, (by repeat (first | exact hb.out | refine below_drewN ?_ _ | refine Below.drew ?_))⟩
      case measure => simp [intOf]; omega
    · obtain rfl : n = l.length := by omega
      go_wp2
      go_ret
      exact ⟨rfl, hb.out⟩
set_option maxHeartbeats 8000000 in
theorem combine_nw (l : List (Int × Int)) (v : Value) (E : Int) (w : World) (hsz : l.length * 16 ≤ 140737488355328) (h : ShSl w v l)
    (hW : Hid (∀ (w' : World) (v' : Value), IntSl w' v' (l.map (·.1)) → CapOk v' → Calls Tryd.prog 28 #[v'] w' fun e w'' => e = .returned (.tuple #[.slice none 0 0, .iface 114 (.int .i64 E)]) ∧ Below w'.heap.size w' w'')) :
    Calls Tryd.prog 30 #[v] w fun e w' => e = .returned (.tuple #[.int .i64 0, .iface 114 (.int .i64 E)]) ∧ Below w.heap.size w w' := by
  obtain ⟨a, cap, rfl, h⟩ := h
  have hI := Lib.hid h
  clear h
  have hxl : (l.map (·.1)).length = l.length := List.length_map ..
  replace hxl := Lib.hid hxl
  go_enter Tryd.func30, Tryd.ntmps30
  go_wp2
  go_loopw [4, 14] (fun o i wr => ∃ (n : Nat) (u : Value), n ≤ l.length ∧ i = .int .i64 n ∧ u = o ∧ wr.ownsRow w.heap.size 3 1 u n (((l.map (·.1)).take n).map (Value.int .i64)) ∧ Below w.heap.size w wr) (fun _ i _ => l.length - (intOf i).toNat)
  case atStart => exact ⟨0, _, Nat.zero_le _, rfl, rfl, World.ownsRow_nil _ _ _ _, Below.refl _ _⟩
  case round =>
    obtain ⟨n, u, hn, rfl, rfl, hown, hb⟩ := hrel
    replace hown := Lib.hid hown
    replace hb := Lib.hid hb
    by_cases hlt : n < l.length
    · obtain ⟨b, off, rfl, hIr⟩ := hI.out (by omega)
      have hIr := hIr.below hb.out
      have m1 := hIr.cx n hlt
      have m2 := hIr.cy n hlt
      have ml := hIr.lt
      have hlw := hb.out.size
      have htl := Lib.hid (show ((l.map (·.1)).take n).length = n by rw [List.length_take, hxl.out]; omega)
      have hsn := Lib.hid (show (l.map (·.1)).take (n + 1) = (l.map (·.1)).take n ++ [l[n].1] by rw [take_snoc3 _ n (by rw [hxl.out]; exact hlt), List.getElem_map])
      clear hIr
      generalize l[n] = s at *
      obtain ⟨x, y⟩ := s
      simp only at m1 m2
      generalize hT : (l.map (·.1)).take n = T at *
      clear hT
      go_wp2_with (first | (at_builtin; refine wpl_append_intb rfl _ _ _ rfl (by kernel_rfl) w.heap.size _ T n rfl ((hown.out.alloc _).alloc _) htl.out (by omega) (by simp only [World.size_alloc]; omega) (wr.heap.size + 1) x rfl (by go_simp) ?_; intro v' w3 hown' hgrow hbel hloc; replace hown' := Lib.hid hown'; replace hbel := Lib.hid (hbel w (balloc (balloc hb.out _) _)); clear hgrow hloc) | fail)
      go_wp2
      go_roundw
      case rel => exact ⟨n + 1, _, by omega, by go_num, rfl, by rw [hsn.out]; exact hown'.out, hbel.out⟩
      case measure => simp [intOf]; omega
    · obtain rfl : n = l.length := by omega
      have hcap := Lib.hid (own_cap hown.out)
      have hX := Lib.hid (own_ints (by have := hown.out; rw [List.take_of_length_le (by rw [hxl.out]; exact Nat.le_refl _)] at this; exact this) hxl.out.symm)
      clear hown
      go_wp2_with fail
      refine (hW.out wr u hX.out hcap.out).mono ?_; rintro e w1 ⟨rfl, hb1⟩
      have hB1 := Lib.hid (below_seq hb.out hb1)
      clear hb hb1 hX hcap hW
      go_wp2
      go_ret2
      exact ⟨rfl, hB1.out⟩
set_option maxHeartbeats 8000000 in
theorem combine_bad (l : List (Int × Int)) (v : Value) (w : World) (h1 : 1 ≤ l.length) (h2 : l.length ≤ 12) (hs : ∀ i (h : i < l.length), 1 ≤ l[i].1 ∧ l[i].1 < 1013) (hd : ∀ i j (hi : i < l.length) (hj : j < l.length), i < j → l[i].1 ≠ l[j].1) (k : Nat) (hk : k < l.length)
    (hok : Hid (∀ i (h : i < l.length), i < k → 0 ≤ l[i].2 ∧ l[i].2 < 1013)) (hbad : Hid (∀ h : k < l.length, ¬ (0 ≤ l[k].2 ∧ l[k].2 < 1013))) (h : ShSl w v l) :
    Calls Tryd.prog 30 #[v] w fun e w' => e = .returned (.tuple #[.int .i64 0, .iface 114 (.int .i64 1)]) ∧ Below w.heap.size w w' := by
  obtain ⟨a, cap, rfl, h⟩ := h
  obtain ⟨b, off, rfl, hI⟩ := h (by omega)
  clear h
  replace hI := Lib.hid hI
  have hxl : (l.map (·.1)).length = l.length := List.length_map ..
  have hW := Lib.hid (fun v w h hv => weights_ok (l.map (·.1)) v w (by omega) (by omega) (fun i hi => by rw [List.getElem_map]; exact hs i (by omega)) (fun i j hi hj hij => by rw [List.getElem_map, List.getElem_map]; exact hd i j (by omega) (by omega) hij) h hv)
  have hwl := wgts_len (l.map (·.1))
  rw [hxl] at hwl
  have hwb := Lib.hid (wgts_bd (l.map (·.1)))
  generalize hwg : wgts (l.map (·.1)) = ws at *
  clear hwg hs hd
  replace hxl := Lib.hid hxl
  replace hwl := Lib.hid hwl
  go_enter Tryd.func30, Tryd.ntmps30
  go_wp2
  go_loopw [4, 14] (fun o i wr => ∃ (n : Nat) (u : Value), n ≤ l.length ∧ i = .int .i64 n ∧ u = o ∧ wr.ownsRow w.heap.size 3 1 u n (((l.map (·.1)).take n).map (Value.int .i64)) ∧ Below w.heap.size w wr) (fun _ i _ => l.length - (intOf i).toNat)
  case atStart => exact ⟨0, _, Nat.zero_le _, rfl, rfl, World.ownsRow_nil _ _ _ _, Below.refl _ _⟩
  case round =>
    obtain ⟨n, u, hn, rfl, rfl, hown, hb⟩ := hrel
    replace hown := Lib.hid hown
    replace hb := Lib.hid hb
    by_cases hlt : n < l.length
    · have hIr := hI.out.below hb.out
      have m1 := hIr.cx n hlt
      have m2 := hIr.cy n hlt
      have ml := hIr.lt
      have hlw := hb.out.size
      have htl := Lib.hid (show ((l.map (·.1)).take n).length = n by rw [List.length_take, hxl.out]; omega)
      have hsn := Lib.hid (show (l.map (·.1)).take (n + 1) = (l.map (·.1)).take n ++ [l[n].1] by rw [take_snoc3 _ n (by rw [hxl.out]; exact hlt), List.getElem_map])
      clear hIr hok hbad
      generalize l[n] = s at *
      obtain ⟨x, y⟩ := s
      simp only at m1 m2
      generalize hT : (l.map (·.1)).take n = T at *
      clear hT
      go_wp2_with (first | (at_builtin; refine wpl_append_int rfl _ _ _ rfl (by kernel_rfl) w.heap.size _ T n rfl ((hown.out.alloc _).alloc _) htl.out (by omega) (by simp only [World.size_alloc]; omega) (wr.heap.size + 1) x rfl (by go_simp) ?_; intro v' w3 hown' hgrow hbel hloc; replace hown' := Lib.hid hown'; replace hbel := Lib.hid (hbel w (balloc (balloc hb.out _) _)); clear hgrow hloc) | fail)
      go_wp2
      go_roundw
      case rel => exact ⟨n + 1, _, by omega, by go_num, rfl, by rw [hsn.out]; exact hown'.out, hbel.out⟩
      case measure => simp [intOf]; omega
    · obtain rfl : n = l.length := by omega
      have hcap := Lib.hid (own_cap hown.out)
      have hX := Lib.hid (own_ints (by have := hown.out; rw [List.take_of_length_le (by rw [hxl.out]; exact Nat.le_refl _)] at this; exact this) hxl.out.symm)
      clear hown
      go_wp2_with fail
      refine (hW.out u wr hX.out hcap.out).mono ?_; rintro e w1 ⟨wv, rfl, hi, hb1⟩
      obtain ⟨wa, wc, rfl, hi⟩ := hi
      rw [hwl.out] at hi ⊢
      obtain ⟨b2, off2, rfl, hi2⟩ := hi (by omega)
      clear hi
      have hi := Lib.hid hi2
      clear hi2
      have hB1 := Lib.hid (below_seq hb.out hb1)
      clear hb hb1 hX hcap hW
      go_wp2
      go_loopw [9, 34] (fun o i wr => ∃ (n : Nat) (q : Int), n ≤ k ∧ i = .int .i64 n ∧ o = .int .i64 q ∧ 0 ≤ q ∧ q < 1013 ∧ Below w1.heap.size w1 wr) (fun _ i _ => l.length - (intOf i).toNat)
      case atStart => exact ⟨0, 0, Nat.zero_le _, rfl, rfl, by decide, by decide, Below.refl _ _⟩
      case round =>
        obtain ⟨n, q, hn, rfl, rfl, q0, q1, hb⟩ := hrel
        replace hb := Lib.hid hb
        have hlt2 : n < l.length := by omega
        have hIr := (hI.out.below hB1.out).below hb.out
        have m1 := hIr.cx n hlt2
        have m2 := hIr.cy n hlt2
        have ml := hIr.lt
        have hir := hi.out.below hb.out
        have m3 := hir.c n (by rw [hwl.out]; exact hlt2)
        have ml2 := hir.lt
        obtain ⟨p0, p1⟩ := hwb.out n (by rw [hwl.out]; exact hlt2)
        clear hIr hir
        by_cases hnk : n < k
        · obtain ⟨y1, y2⟩ := hok.out n hlt2 hnk
          clear hok hbad
          generalize l[n] = s at *
          obtain ⟨x, y⟩ := s
          simp only at m1 m2 y1 y2
          generalize (ws[n]'(by rw [hwl.out]; exact hlt2)) = c at *
          obtain ⟨r0, r1⟩ := mul_bq p0 p1 y1 y2
          have f1 : IntKind.i64.wrap (c * y) = c * y := IntWalk.i64_in _ (by omega)
          have f2 : IntKind.i64.wrap (q + c * y) = q + c * y := IntWalk.i64_in _ (by omega)
          have f3 : (q + c * y).tmod 1013 = (q + c * y) % 1013 := Int.tmod_eq_emod_of_nonneg (by omega)
          go_wp2_with fail
          refine (rest_y y _ y1 y2).mono ?_; rintro e w' ⟨rfl, rfl⟩
          go_wp2_with fail
          go_quiet (fail)
          go_wp2
          go_roundw
          case rel => exact ⟨n + 1, _, by omega, by go_num, rfl, Int.emod_nonneg _ (by decide), Int.emod_lt_of_pos _ (by decide), (by repeat (first | exact hb.out | refine balloc ?_ _ | refine below_drewN ?_ _ | refine Below.drew ?_))⟩
          case measure => simp [intOf]; omega
        · obtain rfl : n = k := by omega
          have hq := hbad.out hlt2
          clear hok hbad
          generalize l[n] = s at *
          obtain ⟨x, y⟩ := s
          simp only at m1 m2 hq
          generalize (ws[n]'(by rw [hwl.out]; exact hlt2)) = c at *
          replace hq := Lib.hid hq
          go_wp2_with fail
          refine (rest_n y _ hq.out).mono ?_; rintro e w' ⟨rfl, rfl⟩
          go_wp2
          go_ret2
          exact ⟨rfl, (by repeat (first | exact below_seq hB1.out hb.out | refine balloc ?_ _ | refine below_drewN ?_ _ | refine Below.drew ?_))⟩
end Go.Proofs.YtahopffpajkfdaaDoor
namespace Go.Proofs.YtahopffpajkfdaaDoor
open Go.RowKit Go.Extern.Stop Go.Stop Go.Extern
set_option maxRecDepth 100000
set_option linter.unusedVariables false
set_option linter.unusedSimpArgs false
/-- The variable errors.errorType reads as laid. -/
def ErrAt (w : World) : Prop := w.cell? ⟨2, 0, none⟩ = some (.iface 172 (.agg #[.pointer (some ⟨3, 33, none⟩)])) ∧ 2 < w.heap.size
theorem ErrAt.below {w w' : World} (h : ErrAt w) (hb : Below w.heap.size w w') : ErrAt w' := ⟨((bcell hb).1 _ _ h.2).trans h.1, Nat.lt_of_lt_of_le h.2 hb.size⟩
/-! The model's entries for reflectlite, at this program's types. -/
theorem rl_value (t : Addr) (w : World) : (ReflectliteValue.unpack (.iface 146 (.pointer (some t)))).run Tryd.prog w
    = .ok (.agg #[.pointer (some ⟨3, 146, none⟩), .pointer (some ⟨w.heap.size, 0, none⟩), .int .u64 150]) (w.alloc (.cells #[.pointer (some t)] 146)) := by kernel_rfl
theorem rl_type (a : Addr) (w : World) : (ReflectliteValue.methodAny (ReflectliteValue.valueError "reflectlite.Value.Type" 0) (fun t _ _ _ => ReflectliteType.toType t) #[.agg #[.pointer (some ⟨3, 146, none⟩), .pointer (some a), .int .u64 150]]).run Tryd.prog w
    = .ok (.iface 172 (.agg #[.pointer (some ⟨3, 146, none⟩)])) w := by kernel_rfl
theorem rl_kindm (h : Value) (w : World) : (Go.method 314 172 (.agg #[h]) "Kind").run Tryd.prog w = .ok (159, h) w := by kernel_rfl
theorem rl_kind (w : World) : ((ReflectliteType.abiMethod fun t => Functor.map (fun a : Nat => Value.int IntKind.u8 (a : Int)) (Rtype.kind t)) #[.pointer (some ⟨3, 146, none⟩)]).run Tryd.prog w = .ok (.int .u8 22) w := by kernel_rfl
theorem rl_kinde (w : World) : ((ReflectliteType.abiMethod fun t => Functor.map (fun a : Nat => Value.int IntKind.u8 (a : Int)) (Rtype.kind t)) #[.pointer (some ⟨3, 114, none⟩)]).run Tryd.prog w = .ok (.int .u8 2) w := by kernel_rfl
theorem rl_m (z : Sem Value) (f : TypeId → Addr → Nat → Nat → Sem Value) (v : Value) :
    ReflectliteValue.method z f #[v] = (do match ← ReflectliteValue.parts v with | none => z | some (t, a, fl) => f t a fl (fl % 32)) := rfl
theorem rl_parts (a : Addr) (w : World) : (ReflectliteValue.parts (.agg #[.pointer (some ⟨3, 146, none⟩), .pointer (some a), .int .u64 150])).run Tryd.prog w = .ok (some (146, a, 150)) w := by kernel_rfl
theorem rl_nil (a p : Addr) (W : World) (ha : W.cell? a = some (.pointer (some p))) :
    (ReflectliteValue.method (ReflectliteValue.valueError "reflectlite.Value.IsNil" 0) ReflectliteValue.isNil #[.agg #[.pointer (some ⟨3, 146, none⟩), .pointer (some a), .int .u64 150]]).run Tryd.prog W = .ok (.bool false) W := by
  rw [rl_m]
  simp only [Sem.run_bind, rl_parts, Result.andThen]
  simp [ReflectliteValue.isNil, loadVar, isAgg, underlying, Tryd.underlying146, ha, Result.andThen]
theorem rl_elemm (h : Value) (w : World) : (Go.method 314 172 (.agg #[h]) "Elem").run Tryd.prog w = .ok (169, .agg #[h]) w := by kernel_rfl
theorem rl_implm (h : Value) (w : World) : (Go.method 314 172 (.agg #[h]) "Implements").run Tryd.prog w = .ok (170, .agg #[h]) w := by kernel_rfl
theorem rl_assm (h : Value) (w : World) : (Go.method 314 172 (.agg #[h]) "AssignableTo").run Tryd.prog w = .ok (167, .agg #[h]) w := by kernel_rfl
theorem rl_elem (w : World) : (ReflectliteType.method ReflectliteType.elem #[.agg #[.pointer (some ⟨3, 146, none⟩)]]).run Tryd.prog w = .ok (.iface 172 (.agg #[.pointer (some ⟨3, 114, none⟩)])) w := by kernel_rfl
theorem rl_impl (w : World) : (ReflectliteType.relation "Implements" ReflectliteType.implements_ #[.agg #[.pointer (some ⟨3, 114, none⟩)], .iface 172 (.agg #[.pointer (some ⟨3, 33, none⟩)])]).run Tryd.prog w = .ok (.bool true) w := by kernel_rfl
theorem rl_typeof (v : Value) (w : World) : (ReflectliteType.typeOf #[.iface 114 v]).run Tryd.prog w = .ok (.iface 172 (.agg #[.pointer (some ⟨3, 114, none⟩)])) w := by kernel_rfl
theorem rl_ass (w : World) : (ReflectliteType.relation "AssignableTo" ReflectliteType.assignableTo #[.agg #[.pointer (some ⟨3, 114, none⟩)], .iface 172 (.agg #[.pointer (some ⟨3, 114, none⟩)])]).run Tryd.prog w = .ok (.bool true) w := by kernel_rfl
theorem rl_valuee (k : Int) (w : World) : (ReflectliteValue.unpack (.iface 114 (.int .i64 k))).run Tryd.prog w
    = .ok (.agg #[.pointer (some ⟨3, 114, none⟩), .pointer (some ⟨w.heap.size, 0, none⟩), .int .u64 130]) (w.alloc (.cells #[.int .i64 k] 114)) := by kernel_rfl
theorem rl_elemof (w : World) : (Rtype.elem? 146).run Tryd.prog w = .ok (some 114) w := by kernel_rfl
theorem rl_mk (p : Addr) (w : World) : (ReflectliteValue.mk 114 p ReflectliteValue.flagAddr).run Tryd.prog w = .ok (.agg #[.pointer (some ⟨3, 114, none⟩), .pointer (some p), .int .u64 386]) w := by kernel_rfl
theorem rl_elemv (a p : Addr) (W : World) (ha : W.cell? a = some (.pointer (some p))) :
    (ReflectliteValue.method (ReflectliteValue.valueError "reflectlite.Value.Elem" 0) ReflectliteValue.elem #[.agg #[.pointer (some ⟨3, 146, none⟩), .pointer (some a), .int .u64 150]]).run Tryd.prog W
      = .ok (.agg #[.pointer (some ⟨3, 114, none⟩), .pointer (some p), .int .u64 386]) W := by
  rw [rl_m]
  simp only [Sem.run_bind, rl_parts, Result.andThen]
  simp [ReflectliteValue.elem, loadVar, isAgg, underlying, Tryd.underlying146, ha, Result.andThen, rl_elemof, rl_mk]
theorem rl_s (v x : Value) : ReflectliteValue.set #[v, x] = (do
    let (some (dst, a, fl), some (src, b, _)) := (← ReflectliteValue.parts v, ← ReflectliteValue.parts x)
      | unsupported (.noEntry "extern/(internal/reflectlite.Value).Set.zeroValue")
    if fl / ReflectliteValue.flagAddr % 2 == 0 then unsupported (.noEntry "extern/(internal/reflectlite.Value).Set.unaddressable")
    let val ← loadVar src b
    if ← Rtype.directlyAssignable dst src then storeVar dst a val
    else if ← Rtype.implements dst src then
      if (← Rtype.kind src) == 20 then
        match val with
        | .nilIface => unsupported (.noEntry "extern/reflectlite: a nil value of one interface type handed on as a value of another")
        | _ => storeVar dst a val
      else storeVar dst a (.iface src val)
    else panicString ("reflectlite.Set: value of type " ++ (← Rtype.spelt src) ++ " is not assignable to type " ++ (← Rtype.spelt dst))
    pure (.tuple #[])) := rfl
theorem rl_partsa (a : Addr) (w : World) : (ReflectliteValue.parts (.agg #[.pointer (some ⟨3, 114, none⟩), .pointer (some a), .int .u64 386])).run Tryd.prog w = .ok (some (114, a, 386)) w := by kernel_rfl
theorem rl_partse (a : Addr) (w : World) : (ReflectliteValue.parts (.agg #[.pointer (some ⟨3, 114, none⟩), .pointer (some a), .int .u64 130])).run Tryd.prog w = .ok (some (114, a, 130)) w := by kernel_rfl
theorem rl_direct (w : World) : (Rtype.directlyAssignable 114 114).run Tryd.prog w = .ok true w := by kernel_rfl
theorem rl_set (ta b : Addr) (k : Int) (old : Value) (W : World) (hb : W.cell? b = some (.int .i64 k)) (ht : W.cell? ta = some old) (hf : W.frozen? ta = false) :
    (ReflectliteValue.set #[.agg #[.pointer (some ⟨3, 114, none⟩), .pointer (some ta), .int .u64 386], .agg #[.pointer (some ⟨3, 114, none⟩), .pointer (some b), .int .u64 130]]).run Tryd.prog W
      = .ok (.tuple #[]) (W.setCell ta (.int .i64 k)) := by
  rw [rl_s]
  simp only [Sem.run_bind, rl_partsa, rl_partse, Result.andThen]
  simp [ReflectliteValue.flagAddr, loadVar, isAgg, underlying, Tryd.underlying114, hb, Result.andThen, rl_direct, storeVar, Value.cells, storeCells, Addr.add]
  rw [run_store Tryd.prog W ta _ _ (by rfl)]
  simp [ht, hf]
set_option maxHeartbeats 4000000 in
theorem as_hit (k : Int) (t : Addr) (old : Value) (w : World) (hg : w.cell? ⟨2, 0, none⟩ = some (.iface 172 (.agg #[.pointer (some ⟨3, 33, none⟩)]))) (hgl : 2 < w.heap.size) (ht0 : w.cell? t = some old) (hf0 : w.frozen? t = false) :
    Calls Tryd.prog 116 #[.iface 114 (.int .i64 k), .iface 146 (.pointer (some t))] w fun ev w' => ev = .returned (.bool true) ∧ w' = ((((w.alloc (.cells #[.pointer (some t)] 146)).alloc (.cells #[.pointer (some ⟨3, 146, none⟩), .pointer (some ⟨w.heap.size, 0, none⟩), .int .u64 150] 156)).alloc (.cells #[.pointer (some ⟨3, 146, none⟩), .pointer (some ⟨w.heap.size, 0, none⟩), .int .u64 150] 156)).alloc (.cells #[.int .i64 k] 114)).setCell t (.int .i64 k) := by
  have h6 := @run_callFunc_extern Tryd.prog 133 _ (fun args => ReflectliteValue.unpack (args.getD 0 (.tuple #[]))) Tryd.func133 (by kernel_rfl) (by kernel_rfl) (by kernel_rfl) (by kernel_rfl)
  have h7 := @run_callFunc_extern Tryd.prog 134 _ (ReflectliteValue.methodAny (ReflectliteValue.valueError "reflectlite.Value.Type" 0) (fun t _ _ _ => ReflectliteType.toType t)) Tryd.func134 (by kernel_rfl) (by kernel_rfl) (by kernel_rfl) (by kernel_rfl)
  have h8 := @run_callFunc_extern Tryd.prog 135 _ (ReflectliteValue.method (ReflectliteValue.valueError "reflectlite.Value.IsNil" 0) ReflectliteValue.isNil) Tryd.func135 (by kernel_rfl) (by kernel_rfl) (by kernel_rfl) (by kernel_rfl)
  have h27 := @run_callFunc_extern Tryd.prog 159 _ (ReflectliteType.abiMethod fun t => do pure (.int .u8 (← Rtype.kind t))) Tryd.func159 (by kernel_rfl) (by kernel_rfl) (by kernel_rfl) (by kernel_rfl)
  have h37 := @run_callFunc_extern Tryd.prog 169 _ (ReflectliteType.method ReflectliteType.elem) Tryd.func169 (by kernel_rfl) (by kernel_rfl) (by kernel_rfl) (by kernel_rfl)
  have h38 := @run_callFunc_extern Tryd.prog 170 _ (ReflectliteType.relation "Implements" ReflectliteType.implements_) Tryd.func170 (by kernel_rfl) (by kernel_rfl) (by kernel_rfl) (by kernel_rfl)
  have h10 := @run_callFunc_extern Tryd.prog 141 _ (ReflectliteType.typeOf) Tryd.func141 (by kernel_rfl) (by kernel_rfl) (by kernel_rfl) (by kernel_rfl)
  have h35 := @run_callFunc_extern Tryd.prog 167 _ (ReflectliteType.relation "AssignableTo" ReflectliteType.assignableTo) Tryd.func167 (by kernel_rfl) (by kernel_rfl) (by kernel_rfl) (by kernel_rfl)
  have h11 := @run_callFunc_extern Tryd.prog 142 _ (ReflectliteValue.method (ReflectliteValue.valueError "reflectlite.Value.Elem" 0) ReflectliteValue.elem) Tryd.func142 (by kernel_rfl) (by kernel_rfl) (by kernel_rfl) (by kernel_rfl)
  have h12 := @run_callFunc_extern Tryd.prog 143 _ (ReflectliteValue.set) Tryd.func143 (by kernel_rfl) (by kernel_rfl) (by kernel_rfl) (by kernel_rfl)
  have tO := rl_typeof
  have mA := rl_assm
  have a25 := rl_ass
  have v25 := rl_valuee
  have f6 := rl_value
  have f7 := rl_type
  have mK := rl_kindm
  have mE := rl_elemm
  have mI := rl_implm
  have k27 := rl_kind
  have k25 := rl_kinde
  have e27 := rl_elem
  have i25 := rl_impl
  have n8 := rl_nil ⟨w.heap.size, 0, none⟩ t ((w.alloc (.cells #[.pointer (some t)] 146)).alloc (.cells #[.pointer (some ⟨3, 146, none⟩), .pointer (some ⟨w.heap.size, 0, none⟩), .int .u64 150] 156)) (by simp)
  have hg2 : ((w.alloc (.cells #[.pointer (some t)] 146)).alloc (.cells #[.pointer (some ⟨3, 146, none⟩), .pointer (some ⟨w.heap.size, 0, none⟩), .int .u64 150] 156)).cell? ⟨2, 0, none⟩ = some (.iface 172 (.agg #[.pointer (some ⟨3, 33, none⟩)])) := by
    rw [World.cell?_alloc_lt _ _ ⟨2, 0, none⟩ (by simp; omega), World.cell?_alloc_lt _ _ ⟨2, 0, none⟩ hgl]; exact hg
  have htl : t.block < w.heap.size := by
    rcases Nat.lt_or_ge t.block w.heap.size with h | h
    · exact h
    · simp [World.cell?, Array.getElem?_eq_none h] at ht0
  have el := rl_elemv ⟨w.heap.size, 0, none⟩ t (((w.alloc (.cells #[.pointer (some t)] 146)).alloc (.cells #[.pointer (some ⟨3, 146, none⟩), .pointer (some ⟨w.heap.size, 0, none⟩), .int .u64 150] 156)).alloc (.cells #[.pointer (some ⟨3, 146, none⟩), .pointer (some ⟨w.heap.size, 0, none⟩), .int .u64 150] 156)) (by rw [World.cell?_alloc_lt _ _ ⟨w.heap.size, 0, none⟩ (by simp; omega)]; simp)
  have st := rl_set t ⟨w.heap.size + 1 + 1 + 1, 0, none⟩ k old ((((w.alloc (.cells #[.pointer (some t)] 146)).alloc (.cells #[.pointer (some ⟨3, 146, none⟩), .pointer (some ⟨w.heap.size, 0, none⟩), .int .u64 150] 156)).alloc (.cells #[.pointer (some ⟨3, 146, none⟩), .pointer (some ⟨w.heap.size, 0, none⟩), .int .u64 150] 156)).alloc (.cells #[.int .i64 k] 114))
    (by rw [World.cell?_alloc_at _ _ _ _ (by simp)]; rfl)
    (by rw [World.cell?_alloc_lt _ _ t (by simp; omega), World.cell?_alloc_lt _ _ t (by simp; omega), World.cell?_alloc_lt _ _ t (by simp; omega), World.cell?_alloc_lt _ _ t htl]; exact ht0)
    (by rw [World.frozen?_alloc_old _ _ t (by simp; omega), World.frozen?_alloc_old _ _ t (by simp; omega), World.frozen?_alloc_old _ _ t (by simp; omega), World.frozen?_alloc_old _ _ t (Nat.ne_of_lt htl)]; exact hf0)
  go_enter Tryd.func116, Tryd.ntmps116
  go_wp2
  refine wp_loop_rounds 1 ?_
  rw [rounds_succ]
  go_wp2
  go_ret
  exact ⟨rfl, rfl⟩
/-- An error is told by its number. -/
theorem told_nil (w : World) : Calls Tryd.prog 72 #[.nilIface] w fun e w' => e = .returned (.int .i64 0) ∧ Below w.heap.size w w' := by
  go_enter Tryd.func72, Tryd.ntmps72
  go_wp2
  go_ret
  exact ⟨rfl, (by repeat (first | exact Below.refl _ _ | refine balloc ?_ _ | refine Below.drew ?_ | refine below_drewN ?_ _ | refine below_set ?_ (by first | omega | (dsimp only; omega)) _))⟩
set_option maxHeartbeats 4000000 in
theorem told_err (k : Int) (w : World) (hE : ErrAt w) : Calls Tryd.prog 72 #[.iface 114 (.int .i64 k)] w fun e w' => e = .returned (.int .i64 k) ∧ Below w.heap.size w w' := by
  go_enter Tryd.func72, Tryd.ntmps72
  go_wp2_with fail
  refine (as_hit k ⟨w.heap.size, 0, none⟩ (.int .i64 0) _ (by rw [World.cell?_alloc_lt _ _ ⟨2, 0, none⟩ hE.2]; exact hE.1) (by simp; have := hE.2; omega) (by simp) (by simp)).mono ?_; rintro e w1 ⟨rfl, hw⟩
  have hc : w1.cell? ⟨w.heap.size, 0, none⟩ = some (.int .i64 k) := by
    rw [hw]; refine World.cell?_setCell_same (u := .int .i64 0) _ _ _ ?_
    rw [World.cell?_alloc_lt _ _ ⟨w.heap.size, 0, none⟩ (by simp; omega), World.cell?_alloc_lt _ _ ⟨w.heap.size, 0, none⟩ (by simp; omega), World.cell?_alloc_lt _ _ ⟨w.heap.size, 0, none⟩ (by simp; omega), World.cell?_alloc_lt _ _ ⟨w.heap.size, 0, none⟩ (by simp)]; simp
  have hb : Below w.heap.size w w1 := by
    rw [hw]; exact below_set (balloc (balloc (balloc (balloc (below_alloc _ _) _) _) _) _) (Nat.le_refl _) _
  have hz := hb.size
  have hl : w.heap.size < w1.heap.size := by rw [hw]; simp; omega
  clear hw
  go_wp2
  go_ret
  exact ⟨rfl, hb⟩
theorem error_nil (n : Int) (w : World) (b : Bool) (h : Hid (((0 : Int) == n) = b)) : Calls Tryd.prog 15 #[.nilIface, .int .i64 n] w fun e w' => e = .returned (.bool b) ∧ Below w.heap.size w w' := by
  go_enter Tryd.func15, Tryd.ntmps15
  go_wp2_with fail
  refine (told_nil _).mono ?_; rintro e w1 ⟨rfl, hb⟩
  have he := h.out
  go_wp2
  go_ret
  exact ⟨rfl, hb⟩
theorem error_err (k n : Int) (w : World) (hE : ErrAt w) (b : Bool) (h : Hid ((k == n) = b)) : Calls Tryd.prog 15 #[.iface 114 (.int .i64 k), .int .i64 n] w fun e w' => e = .returned (.bool b) ∧ Below w.heap.size w w' := by
  go_enter Tryd.func15, Tryd.ntmps15
  go_wp2_with fail
  refine (told_err k _ hE).mono ?_; rintro e w1 ⟨rfl, hb⟩
  have he := h.out
  go_wp2
  go_ret
  exact ⟨rfl, hb⟩
/-- An error's value, by its number; it is told as that number. -/
theorem error_same (E : Value) (n : Int) (w : World) (hE : ErrAt w) (h : Hid (E = errV n)) : Calls Tryd.prog 15 #[E, .int .i64 n] w fun e w' => e = .returned (.bool true) ∧ Below w.heap.size w w' := by
  rw [h.out]; unfold errV
  split
  · next e => rw [e]; exact error_nil 0 w true rfl
  · exact error_err n n w hE true (by show _ = _; simp)
end Go.Proofs.YtahopffpajkfdaaDoor
namespace Go.Proofs.YtahopffpajkfdaaDoor
open Go.RowKit
set_option maxRecDepth 100000
set_option linter.unusedVariables false
set_option linter.unusedSimpArgs false
theorem ShSl.none0 (w : World) : ShSl w (.slice none 0 0) [] := ⟨none, 0, rfl, fun h => absurd h (Nat.lt_irrefl 0)⟩
theorem IntSl.none1 (w : World) : IntSl w (.slice none 0 0) [] := ⟨none, 0, rfl, fun h => absurd h (Nat.lt_irrefl 0)⟩
set_option maxHeartbeats 64000000 in
theorem st_core (a0 a3 : Option Addr) (c0 c3 : Nat) (coefs : List Int) (l : List (Int × Int)) (n : Int) (v2 : Value) (w : World) (hE : ErrAt w)
    (m0 : coefs.length ≤ 9223372036854775807) (n0 : -9223372036854775808 ≤ n) (n1 : n ≤ 9223372036854775807) (m3 : l.length * 16 ≤ 140737488355328)
    (hs0 : Hid (0 < coefs.length → ∃ b off, a0 = some ⟨b, off, none⟩ ∧ IntsAt w b off coefs)) (hs3 : Hid (0 < l.length → ∃ b off, a3 = some ⟨b, off, none⟩ ∧ ShsAt w b off l))
    (B1 Z1 Z2 Z3 : Bool) (jB1 : decide ((12 : Int) < (coefs.length : Int)) = B1) (hZ1 : ((coefs.length : Int) == 0) = Z1) (hZ2 : decide (n < 1) = Z2) (hZ3 : decide (12 < n) = Z3)
    (E10 E1 : Int) (KL : List (Int × Int)) (hKl : Hid (KL.length ≤ 1000000))
    (h10 : Hid ((B1 = true ∧ E10 = 4) ∨ (B1 = false ∧ Z1 = true ∧ E10 = 1) ∨ (B1 = false ∧ Z1 = false ∧ Z2 = true ∧ E10 = 1) ∨ (B1 = false ∧ Z1 = false ∧ Z2 = false ∧ Z3 = true ∧ E10 = 1) ∨ (B1 = false ∧ Z1 = false ∧ Z2 = false ∧ Z3 = false ∧ E10 = 0)))
    (h1 : Hid (((E10 == 0) = false ∧ E1 = E10) ∨ (E10 = 0 ∧ ∃ k, k ≤ coefs.length ∧ (∀ i (h : i < coefs.length), i < k → resB coefs[i] = true) ∧ (∀ h : k < coefs.length, resB coefs[k] = false ∧ E1 = 1) ∧ (k = coefs.length → E1 = 0))))
    (h2 : Hid (((E1 == 0) = false ∧ KL = []) ∨ (E1 = 0 ∧ ∃ m : Nat, n = m ∧ m ≤ 12 ∧ KL = splitL coefs m ∧ ∀ (w1 : World) (x V : Int), Below w.heap.size w w1 → 0 ≤ x → x < 1013 → Hid (val x coefs = V) → Calls Tryd.prog 25 #[.slice a0 coefs.length c0, .int .i64 x] w1 fun e w' => e = .returned (.int .i64 V) ∧ w1 = w')))
    (h3 : Hid (∀ w1 : World, Below w.heap.size w w1 → Calls Tryd.prog 26 #[.slice a0 coefs.length c0, .int .i64 n] w1 fun e w' => ∃ v', e = .returned (.tuple #[v', errV E1]) ∧ ShSl w' v' KL ∧ Below w1.heap.size w1 w'))
    (E2 : Int) (WL : List Int) (hWl : Hid (WL.length ≤ 1000000))
    (kP : Hid (∀ w1 : World, Below w.heap.size w w1 → Calls Tryd.prog 16 #[v2] w1 fun e w' => e = .returned (.int .i64 E2) ∧ Below w1.heap.size w1 w'))
    (h4 : Hid (((E2 == 0) = false ∧ WL = []) ∨ (E2 = 0 ∧ ∀ w1 : World, Below w.heap.size w w1 → Calls Tryd.prog 18 #[v2] w1 fun e w' => ∃ v', e = .returned v' ∧ IntF w1.heap.size w' v' WL ∧ Below w1.heap.size w1 w')))
    (kW : Hid (∀ w1 : World, Below w.heap.size w w1 → Calls Tryd.prog 28 #[v2] w1 fun e w' => ∃ v', e = .returned (.tuple #[v', errV E2]) ∧ IntSl w' v' WL ∧ Below w1.heap.size w1 w'))
    (E30 E3 SUM : Int)
    (kR : Hid (∀ (w1 : World) (v1 : Value), IntSl w1 v1 (l.map (·.1)) → Calls Tryd.prog 16 #[v1] w1 fun e w' => e = .returned (.int .i64 E30) ∧ Below w1.heap.size w1 w'))
    (h5 : Hid (((E30 == 0) = false ∧ E3 = E30) ∨ (E30 = 0 ∧ ∃ k, k ≤ l.length ∧ (∀ i (h : i < l.length), i < k → resB l[i].2 = true) ∧ (∀ h : k < l.length, resB l[k].2 = false ∧ E3 = 1) ∧ (k = l.length → E3 = 0))))
    (h6 : Hid (((E3 == 0) = false ∧ SUM = 0) ∨ (E3 = 0 ∧ ∃ ws : List Int, ws.length = l.length ∧ (∀ i (h : i < ws.length), 0 ≤ ws[i] ∧ ws[i] < 1013) ∧ (∀ i (h : i < l.length), 0 ≤ l[i].2 ∧ l[i].2 < 1013) ∧ (∀ (w1 : World) (v1 : Value), IntSl w1 v1 (l.map (·.1)) → Calls Tryd.prog 18 #[v1] w1 fun e w' => ∃ v', e = .returned v' ∧ IntF w1.heap.size w' v' ws ∧ Below w1.heap.size w1 w') ∧ csum ws (l.map (·.2)) l.length = SUM)))
    (kC : Hid (∀ w1 : World, Below w.heap.size w w1 → Calls Tryd.prog 30 #[.slice a3 l.length c3] w1 fun e w' => e = .returned (.tuple #[.int .i64 SUM, errV E3]) ∧ Below w1.heap.size w1 w')) :
    Calls Tryd.prog 4 #[.slice a0 coefs.length c0, .int .i64 n, v2, .slice a3 l.length c3] w fun e w' => e = .returned (.bool true) ∧ Below w.heap.size w w' := by
  go_enter Tryd.func4, Tryd.ntmps4
  go_upto_if 31 with fail
  go_cut [9] (fun s9 wx => s9 = .int .i64 E10 ∧ Below w.heap.size w wx)
  case first =>
    rcases h10.out with ⟨e1, e2⟩ | ⟨e1, e2, e3⟩ | ⟨e1, e2, e3, e4⟩ | ⟨e1, e2, e3, e4, e5⟩ | ⟨e1, e2, e3, e4, e5⟩
    · subst e1 e2
      clear h10 h1
      go_wp2_with fail
      go_meet
      exact ⟨rfl, (by repeat (first | exact Below.refl _ _ | refine balloc ?_ _ | refine Below.drew ?_ | refine below_drewN ?_ _ | refine below_set ?_ (by first | omega | (dsimp only; omega)) _))⟩
    · subst e1 e2 e3
      clear h10 h1
      go_wp2_with fail
      go_meet
      exact ⟨rfl, (by repeat (first | exact Below.refl _ _ | refine balloc ?_ _ | refine Below.drew ?_ | refine below_drewN ?_ _ | refine below_set ?_ (by first | omega | (dsimp only; omega)) _))⟩
    · subst e1 e2 e3 e4
      clear h10 h1
      go_wp2_with fail
      go_meet
      exact ⟨rfl, (by repeat (first | exact Below.refl _ _ | refine balloc ?_ _ | refine Below.drew ?_ | refine below_drewN ?_ _ | refine below_set ?_ (by first | omega | (dsimp only; omega)) _))⟩
    · subst e1 e2 e3 e4 e5
      clear h10 h1
      go_wp2_with fail
      go_meet
      exact ⟨rfl, (by repeat (first | exact Below.refl _ _ | refine balloc ?_ _ | refine Below.drew ?_ | refine below_drewN ?_ _ | refine below_set ?_ (by first | omega | (dsimp only; omega)) _))⟩
    · subst e1 e2 e3 e4 e5
      clear h10 h1
      go_wp2_with fail
      go_meet
      exact ⟨rfl, (by repeat (first | exact Below.refl _ _ | refine balloc ?_ _ | refine Below.drew ?_ | refine below_drewN ?_ _ | refine below_set ?_ (by first | omega | (dsimp only; omega)) _))⟩
  case rest =>
    obtain ⟨w1, hwq⟩ : ∃ x, x = wc := ⟨_, rfl⟩
    subst hwq
    obtain ⟨rfl, hB1⟩ := hcut
    clear h10 jB1 hZ1 hZ2 hZ3
    go_upto_block 0 with fail
    go_cut [9, 10, 11] (fun s9 s10 s11 wx => s9 = .int .i64 E1 ∧ Below w.heap.size w wx)
    case first =>
      rcases h1.out with ⟨e1, e2⟩ | ⟨e1, k, hk, e3, e4, e5⟩
      · subst e2
        clear h1 h2
        rcases Nat.eq_zero_or_pos coefs.length with hm0 | hm0
        · have g1 : decide ((0 : Int) < (coefs.length : Int)) = false := by rw [decide_eq_false_iff_not]; omega
          go_wp2_with fail
          refine wp_loop_rounds 1 ?_
          rw [rounds_succ]
          go_wp2_with fail
          go_meet
          exact ⟨rfl, (by repeat (first | exact hB1 | exact Below.refl _ _ | refine balloc ?_ _ | refine Below.drew ?_ | refine below_drewN ?_ _ | refine below_set ?_ (by first | omega | (dsimp only; omega)) _))⟩
        · have g1 : decide ((0 : Int) < (coefs.length : Int)) = true := by rw [decide_eq_true_iff]; omega
          go_wp2_with fail
          refine wp_loop_rounds 1 ?_
          rw [rounds_succ]
          go_wp2_with fail
          go_meet
          exact ⟨rfl, (by repeat (first | exact hB1 | exact Below.refl _ _ | refine balloc ?_ _ | refine Below.drew ?_ | refine below_drewN ?_ _ | refine below_set ?_ (by first | omega | (dsimp only; omega)) _))⟩
      · subst e1
        replace e3 := Lib.hid e3
        replace e4 := Lib.hid e4
        replace e5 := Lib.hid e5
        clear h1 h2
        go_wp2_with fail
        go_loopw [9, 10, 11] (fun e i o wr => ∃ q : Nat, q ≤ coefs.length ∧ i = .int .i64 q ∧ ((q ≤ k ∧ e = .int .i64 0) ∨ (k < coefs.length ∧ q = k + 1 ∧ e = .int .i64 1)) ∧ Below w1.heap.size w1 wr) (fun _ i _ _ => coefs.length - (intOf i).toNat)
        case atStart => exact ⟨0, Nat.zero_le _, rfl, .inl ⟨Nat.zero_le _, rfl⟩, Below.refl _ _⟩
        case round =>
          obtain ⟨q, hq, rfl, hcase, hbr⟩ := hrel
          have hBr : Below w.heap.size w wr := below_seq hB1 hbr
          rcases hcase with ⟨hqk, rfl⟩ | ⟨hkm, rfl, rfl⟩
          · by_cases hqm : q < coefs.length
            · obtain ⟨b3, o3, rfl, hs⟩ := hs0.out (by omega)
              have hs := hs.below hBr
              have l1 := hs.c q hqm
              have l4 := hs.lt
              clear hs
              by_cases hqk2 : q < k
              · have ho := Lib.hid (e3.out q hqm hqk2)
                clear e3 e4 e5
                generalize coefs[q] = A at *
                go_wp2_with fail
                refine (rRest_b A true _ ho).mono ?_; rintro e w' ⟨rfl, rfl⟩
                go_wp2
                go_roundw
                case rel => exact ⟨q + 1, by omega, by go_num, .inl ⟨by omega, rfl⟩, hbr⟩
                case measure => simp [intOf]; omega
              · obtain rfl : q = k := by omega
                obtain ⟨ho, h0⟩ := e4.out hqm
                replace ho := Lib.hid ho
                clear e3 e4 e5
                generalize coefs[q] = A at *
                go_wp2_with fail
                refine (rRest_b A false _ ho).mono ?_; rintro e w' ⟨rfl, rfl⟩
                go_wp2
                go_roundw
                case rel => exact ⟨q + 1, by omega, by go_num, .inr ⟨hqm, rfl, rfl⟩, hbr⟩
                case measure => simp [intOf]; omega
            · obtain rfl : q = k := by omega
              have hE2 : E1 = 0 := e5.out (by omega)
              clear e4 e5 e3
              subst hE2
              have g1 : decide ((q : Int) < (coefs.length : Int)) = false := by rw [decide_eq_false_iff_not]; omega
              go_wp2_with fail
              go_meet
              exact ⟨rfl, (by repeat (first | exact hBr | exact Below.refl _ _ | refine balloc ?_ _ | refine Below.drew ?_ | refine below_drewN ?_ _ | refine below_set ?_ (by first | omega | (dsimp only; omega)) _))⟩
          · obtain ⟨-, h0⟩ := e4.out hkm
            clear e4 e5 e3
            subst h0
            by_cases hkl : k + 1 < coefs.length
            · have g1 : decide (((k + 1 : Nat) : Int) < (coefs.length : Int)) = true := by rw [decide_eq_true_iff]; omega
              go_wp2_with fail
              go_meet
              exact ⟨rfl, (by repeat (first | exact hBr | exact Below.refl _ _ | refine balloc ?_ _ | refine Below.drew ?_ | refine below_drewN ?_ _ | refine below_set ?_ (by first | omega | (dsimp only; omega)) _))⟩
            · have g1 : decide (((k + 1 : Nat) : Int) < (coefs.length : Int)) = false := by rw [decide_eq_false_iff_not]; omega
              go_wp2_with fail
              go_meet
              exact ⟨rfl, (by repeat (first | exact hBr | exact Below.refl _ _ | refine balloc ?_ _ | refine Below.drew ?_ | refine below_drewN ?_ _ | refine below_set ?_ (by first | omega | (dsimp only; omega)) _))⟩
    case rest =>
      obtain ⟨w2, hwq⟩ : ∃ x, x = wc := ⟨_, rfl⟩
      subst hwq
      obtain ⟨rfl, hB2⟩ := hcut
      clear h1
      go_upto_block 2 with fail
      go_cut [12, 13, 14] (fun s12 s13 s14 wx => ShSl wx s12 KL ∧ Below w.heap.size w wx)
      case first =>
        rcases h2.out with ⟨e1, e2⟩ | ⟨e1, m, e2, e3, e4, e5⟩
        · subst e2
          clear h2
          by_cases hn1 : 1 ≤ n
          · have g1 : decide ((1 : Int) ≤ n) = true := by rw [decide_eq_true_iff]; omega
            go_wp2_with fail
            refine wp_loop_rounds 1 ?_
            rw [rounds_succ]
            go_wp2_with fail
            go_meet
            exact ⟨(ShSl.none0 _), (by repeat (first | exact hB2 | exact Below.refl _ _ | refine balloc ?_ _ | refine Below.drew ?_ | refine below_drewN ?_ _ | refine below_set ?_ (by first | omega | (dsimp only; omega)) _))⟩
          · have g1 : decide ((1 : Int) ≤ n) = false := by rw [decide_eq_false_iff_not]; omega
            go_wp2_with fail
            refine wp_loop_rounds 1 ?_
            rw [rounds_succ]
            go_wp2_with fail
            go_meet
            exact ⟨(ShSl.none0 _), (by repeat (first | exact hB2 | exact Below.refl _ _ | refine balloc ?_ _ | refine Below.drew ?_ | refine below_drewN ?_ _ | refine below_set ?_ (by first | omega | (dsimp only; omega)) _))⟩
        · subst e1 e2 e4
          replace e5 := Lib.hid e5
          clear h2
          go_wp2_with fail
          go_loopw [12, 13, 14] (fun uu i o wr => ∃ (q : Nat) (u : Value), q ≤ m ∧ i = .int .i64 ((q : Int) + 1) ∧ u = uu ∧ wr.ownsRow w2.heap.size 23 2 u q (shCells (splitL coefs q)) ∧ Below w2.heap.size w2 wr) (fun _ i _ _ => m + 1 - (intOf i).toNat)
          case atStart => exact ⟨0, _, Nat.zero_le _, rfl, rfl, World.ownsRow_nil _ _ _ _, Below.refl _ _⟩
          case round =>
            obtain ⟨q, u, hq, rfl, rfl, hown, hbr⟩ := hrel
            have hBr : Below w.heap.size w wr := below_seq hB2 hbr
            replace hown := Lib.hid hown
            by_cases hqm : q < m
            · have g1 : decide ((q : Int) + 1 ≤ (m : Int)) = true := by rw [decide_eq_true_iff]; omega
              have hsp := Lib.hid (show splitL coefs (q + 1) = splitL coefs q ++ [((q : Int) + 1, val ((q : Int) + 1) coefs)] by rw [splitL_succ]; simp)
              obtain ⟨V, hV⟩ : ∃ V, val ((q : Int) + 1) coefs = V := ⟨_, rfl⟩
              rw [hV] at hsp
              replace hV := Lib.hid hV
              have hsl := splitL_len coefs q
              have zr := hbr.size
              go_wp2_with fail
              refine (e5.out _ ((q : Int) + 1) V hBr (by omega) (by omega) hV).mono ?_; rintro e w' ⟨rfl, rfl⟩
              go_wp2_with (first | (at_builtin; refine wpl_append_share rfl _ _ _ rfl (by kernel_rfl) w2.heap.size _ (splitL coefs q) q rfl (hown.out.alloc _) hsl (by omega) (by simp only [World.size_alloc]; omega) wr.heap.size ((q : Int) + 1, V) rfl (by go_simp) (by go_simp) ?_; intro v' w14 hown' hgrow hbel hloc; replace hown' := Lib.hid hown'; replace hbel := Lib.hid (hbel w2 (balloc hbr _)); clear hgrow hloc) | fail)
              go_wp2
              go_roundw
              case rel => exact ⟨q + 1, _, by omega, by go_num, rfl, by rw [hsp.out]; exact hown'.out, hbel.out⟩
              case measure => simp [intOf]; omega
            · obtain rfl : q = m := by omega
              have hSp : ShSl wr u (splitL coefs q) := own_shares hown.out (splitL_len coefs q).symm
              replace hSp := Lib.hid hSp
              have g1 : decide ((q : Int) + 1 ≤ (q : Int)) = false := by rw [decide_eq_false_iff_not]; omega
              clear hown
              go_wp2_with fail
              go_meet
              exact ⟨hSp.out, (by repeat (first | exact hBr | exact Below.refl _ _ | refine balloc ?_ _ | refine Below.drew ?_ | refine below_drewN ?_ _ | refine below_set ?_ (by first | omega | (dsimp only; omega)) _))⟩
      case rest =>
        obtain ⟨w3, hwq⟩ : ∃ x, x = wc := ⟨_, rfl⟩
        subst hwq
        obtain ⟨hK, hB3⟩ := hcut
        clear h2
        replace hK := Lib.hid hK
        go_wp2_with fail
        refine (h3.out _ (by repeat (first | exact hB3 | exact Below.refl _ _ | refine balloc ?_ _ | refine Below.drew ?_ | refine below_drewN ?_ _ | refine below_set ?_ (by first | omega | (dsimp only; omega)) _))).mono ?_; rintro e w4 ⟨vx, rfl, hx, hb⟩; replace hK := Lib.hid (hK.out.below hb); replace hx := Lib.hid hx
        obtain ⟨hc4, hf4⟩ := bcell hb
        have z4 := hb.size
        try simp only [World.size_alloc, World.size_setCell, World.size_drew] at z4
        have hB4 : Below w.heap.size w w4 := below_seq (by repeat (first | exact hB3 | exact Below.refl _ _ | refine balloc ?_ _ | refine Below.drew ?_ | refine below_drewN ?_ _ | refine below_set ?_ (by first | omega | (dsimp only; omega)) _)) hb
        clear hb
        go_wp2_with fail
        refine (error_same (errV E1) E1 _ (hE.below (by repeat (first | exact hB4 | exact Below.refl _ _ | refine balloc ?_ _ | refine Below.drew ?_ | refine below_drewN ?_ _ | refine below_set ?_ (by first | omega | (dsimp only; omega)) _))) (Lib.hid rfl)).mono ?_; rintro e w5 ⟨rfl, hb⟩; replace hK := Lib.hid (hK.out.below hb); replace hx := Lib.hid (hx.out.below hb)
        obtain ⟨hc5, hf5⟩ := bcell hb
        have z5 := hb.size
        try simp only [World.size_alloc, World.size_setCell, World.size_drew] at z5
        have hB5 : Below w.heap.size w w5 := below_seq (by repeat (first | exact hB4 | exact Below.refl _ _ | refine balloc ?_ _ | refine Below.drew ?_ | refine below_drewN ?_ _ | refine below_set ?_ (by first | omega | (dsimp only; omega)) _)) hb
        clear hb
        go_wp2_with fail
        refine (shares_same KL _ _ _ hKl.out hx.out hK.out).mono ?_; rintro e w6 ⟨rfl, hb⟩
        obtain ⟨hc6, hf6⟩ := bcell hb
        have z6 := hb.size
        try simp only [World.size_alloc, World.size_setCell, World.size_drew] at z6
        have hB6 : Below w.heap.size w w6 := below_seq (by repeat (first | exact hB5 | exact Below.refl _ _ | refine balloc ?_ _ | refine Below.drew ?_ | refine below_drewN ?_ _ | refine below_set ?_ (by first | omega | (dsimp only; omega)) _)) hb
        clear hb
        clear hx hK h3
        go_wp2_with fail
        refine (kP.out _ (by repeat (first | exact hB6 | exact Below.refl _ _ | refine balloc ?_ _ | refine Below.drew ?_ | refine below_drewN ?_ _ | refine below_set ?_ (by first | omega | (dsimp only; omega)) _))).mono ?_; rintro e w7 ⟨rfl, hb⟩
        obtain ⟨hc7, hf7⟩ := bcell hb
        have z7 := hb.size
        try simp only [World.size_alloc, World.size_setCell, World.size_drew] at z7
        have hB7 : Below w.heap.size w w7 := below_seq (by repeat (first | exact hB6 | exact Below.refl _ _ | refine balloc ?_ _ | refine Below.drew ?_ | refine below_drewN ?_ _ | refine below_set ?_ (by first | omega | (dsimp only; omega)) _)) hb
        clear hb
        go_upto_if 95 with fail
        go_cut [18] (fun s18 wx => IntSl wx s18 WL ∧ Below w.heap.size w wx)
        case first =>
          rcases h4.out with ⟨e1, e2⟩ | ⟨e1, e2⟩
          · subst e2
            clear h4
            go_wp2_with fail
            go_meet
            exact ⟨(IntSl.none1 _), (by repeat (first | exact hB7 | exact Below.refl _ _ | refine balloc ?_ _ | refine Below.drew ?_ | refine below_drewN ?_ _ | refine below_set ?_ (by first | omega | (dsimp only; omega)) _))⟩
          · subst e1
            replace e2 := Lib.hid e2
            clear h4
            go_wp2_with fail
            refine (e2.out _ (by repeat (first | exact hB7 | exact Below.refl _ _ | refine balloc ?_ _ | refine Below.drew ?_ | refine below_drewN ?_ _ | refine below_set ?_ (by first | omega | (dsimp only; omega)) _))).mono ?_; rintro e w8 ⟨vx, rfl, hx, hb⟩; replace hx := Lib.hid hx.sl
            obtain ⟨hc8, hf8⟩ := bcell hb
            have z8 := hb.size
            try simp only [World.size_alloc, World.size_setCell, World.size_drew] at z8
            have hB8 : Below w.heap.size w w8 := below_seq (by repeat (first | exact hB7 | exact Below.refl _ _ | refine balloc ?_ _ | refine Below.drew ?_ | refine below_drewN ?_ _ | refine below_set ?_ (by first | omega | (dsimp only; omega)) _)) hb
            clear hb
            go_wp2_with fail
            go_meet
            exact ⟨hx.out, (by repeat (first | exact hB8 | exact Below.refl _ _ | refine balloc ?_ _ | refine Below.drew ?_ | refine below_drewN ?_ _ | refine below_set ?_ (by first | omega | (dsimp only; omega)) _))⟩
        case rest =>
          obtain ⟨w8, hwq⟩ : ∃ x, x = wc := ⟨_, rfl⟩
          subst hwq
          obtain ⟨hK, hB8⟩ := hcut
          clear h4 kP
          replace hK := Lib.hid hK
          go_wp2_with fail
          refine (kW.out _ (by repeat (first | exact hB8 | exact Below.refl _ _ | refine balloc ?_ _ | refine Below.drew ?_ | refine below_drewN ?_ _ | refine below_set ?_ (by first | omega | (dsimp only; omega)) _))).mono ?_; rintro e w9 ⟨vx, rfl, hx, hb⟩; replace hK := Lib.hid (hK.out.below hb); replace hx := Lib.hid hx
          obtain ⟨hc9, hf9⟩ := bcell hb
          have z9 := hb.size
          try simp only [World.size_alloc, World.size_setCell, World.size_drew] at z9
          have hB9 : Below w.heap.size w w9 := below_seq (by repeat (first | exact hB8 | exact Below.refl _ _ | refine balloc ?_ _ | refine Below.drew ?_ | refine below_drewN ?_ _ | refine below_set ?_ (by first | omega | (dsimp only; omega)) _)) hb
          clear hb
          go_wp2_with fail
          refine (error_same (errV E2) E2 _ (hE.below (by repeat (first | exact hB9 | exact Below.refl _ _ | refine balloc ?_ _ | refine Below.drew ?_ | refine below_drewN ?_ _ | refine below_set ?_ (by first | omega | (dsimp only; omega)) _))) (Lib.hid rfl)).mono ?_; rintro e w10 ⟨rfl, hb⟩; replace hK := Lib.hid (hK.out.below hb); replace hx := Lib.hid (hx.out.below hb)
          obtain ⟨hc10, hf10⟩ := bcell hb
          have z10 := hb.size
          try simp only [World.size_alloc, World.size_setCell, World.size_drew] at z10
          have hB10 : Below w.heap.size w w10 := below_seq (by repeat (first | exact hB9 | exact Below.refl _ _ | refine balloc ?_ _ | refine Below.drew ?_ | refine below_drewN ?_ _ | refine below_set ?_ (by first | omega | (dsimp only; omega)) _)) hb
          clear hb
          go_wp2_with fail
          refine (ints_same WL _ _ _ hWl.out hx.out hK.out).mono ?_; rintro e w11 ⟨rfl, hb⟩
          obtain ⟨hc11, hf11⟩ := bcell hb
          have z11 := hb.size
          try simp only [World.size_alloc, World.size_setCell, World.size_drew] at z11
          have hB11 : Below w.heap.size w w11 := below_seq (by repeat (first | exact hB10 | exact Below.refl _ _ | refine balloc ?_ _ | refine Below.drew ?_ | refine below_drewN ?_ _ | refine below_set ?_ (by first | omega | (dsimp only; omega)) _)) hb
          clear hb
          clear hx hK kW
          go_upto_block 4 with fail
          go_cut [21, 22] (fun s21 s22 wx => IntSl wx s21 (l.map (·.1)) ∧ Below w.heap.size w wx)
          case first =>
            have hxl : (l.map (·.1)).length = l.length := List.length_map ..
            replace hxl := Lib.hid hxl
            go_wp2_with fail
            go_loopw [21, 22] (fun uu i wr => ∃ (q : Nat) (u : Value), q ≤ l.length ∧ i = .int .i64 q ∧ u = uu ∧ wr.ownsRow w11.heap.size 3 1 u q (((l.map (·.1)).take q).map (Value.int .i64)) ∧ Below w11.heap.size w11 wr) (fun _ i _ => l.length - (intOf i).toNat)
            case atStart => exact ⟨0, _, Nat.zero_le _, rfl, rfl, World.ownsRow_nil _ _ _ _, Below.refl _ _⟩
            case round =>
              obtain ⟨q, u, hq, rfl, rfl, hown, hbr⟩ := hrel
              have hBr : Below w.heap.size w wr := below_seq hB11 hbr
              replace hown := Lib.hid hown
              by_cases hqm : q < l.length
              · obtain ⟨b3, o3, rfl, hs⟩ := hs3.out (by omega)
                have hs := hs.below hBr
                have l1 := hs.cx q hqm
                have l4 := hs.lt
                have htl := Lib.hid (show ((l.map (·.1)).take q).length = q by rw [List.length_take, hxl.out]; omega)
                have hsn := Lib.hid (show (l.map (·.1)).take (q + 1) = (l.map (·.1)).take q ++ [l[q].1] by rw [take_snoc3 _ q (by rw [hxl.out]; exact hqm), List.getElem_map])
                clear hs
                have zr := hbr.size
                generalize l[q].1 = x at *
                generalize hT : (l.map (·.1)).take q = T at *
                clear hT
                go_wp2_with (first | (at_builtin; refine wpl_append_intb rfl _ _ _ rfl (by kernel_rfl) w11.heap.size _ T q rfl (hown.out.alloc _) htl.out (by omega) (by simp only [World.size_alloc]; omega) wr.heap.size x rfl (by go_simp) ?_; intro v' w15 hown' hgrow hbel hloc; replace hown' := Lib.hid hown'; replace hbel := Lib.hid (hbel w11 (balloc hbr _)); clear hgrow hloc) | fail)
                go_wp2
                go_roundw
                case rel => exact ⟨q + 1, _, by omega, by go_num, rfl, by rw [hsn.out]; exact hown'.out, hbel.out⟩
                case measure => simp [intOf]; omega
              · obtain rfl : q = l.length := by omega
                have hSp : IntSl wr u (l.map (·.1)) := own_ints (by have := hown.out; rw [List.take_of_length_le (by rw [hxl.out]; exact Nat.le_refl _)] at this; exact this) hxl.out.symm
                replace hSp := Lib.hid hSp
                have g1 : decide ((l.length : Int) < (l.length : Int)) = false := by simp
                clear hown
                go_wp2_with fail
                go_meet
                exact ⟨hSp.out, (by repeat (first | exact hBr | exact Below.refl _ _ | refine balloc ?_ _ | refine Below.drew ?_ | refine below_drewN ?_ _ | refine below_set ?_ (by first | omega | (dsimp only; omega)) _))⟩
          case rest =>
            obtain ⟨w12, hwq⟩ : ∃ x, x = wc := ⟨_, rfl⟩
            subst hwq
            obtain ⟨hK, hB12⟩ := hcut
            obtain ⟨ap, cp, hue, hK⟩ := hK
            rw [List.length_map] at hue
            subst hue
            have hK : IntSl w12 (.slice ap l.length cp) (l.map (·.1)) := ⟨ap, cp, by rw [List.length_map], hK⟩
            replace hK := Lib.hid hK
            go_wp2_with fail
            refine (kR.out _ _ hK.out).mono ?_; rintro e w13 ⟨rfl, hb⟩; replace hK := Lib.hid (hK.out.below hb)
            obtain ⟨hc13, hf13⟩ := bcell hb
            have z13 := hb.size
            try simp only [World.size_alloc, World.size_setCell, World.size_drew] at z13
            have hB13 : Below w.heap.size w w13 := below_seq (by repeat (first | exact hB12 | exact Below.refl _ _ | refine balloc ?_ _ | refine Below.drew ?_ | refine below_drewN ?_ _ | refine below_set ?_ (by first | omega | (dsimp only; omega)) _)) hb
            clear hb
            go_upto_block 6 with fail
            go_cut [9, 23, 24] (fun s9 s23 s24 wx => s9 = .int .i64 E3 ∧ IntSl wx (.slice ap l.length cp) (l.map (·.1)) ∧ Below w.heap.size w wx)
            case first =>
              rcases h5.out with ⟨e1, e2⟩ | ⟨e1, k, hk, e3, e4, e5⟩
              · subst e2
                clear h5 h6
                rcases Nat.eq_zero_or_pos l.length with hm0 | hm0
                · have g1 : decide ((0 : Int) < (l.length : Int)) = false := by rw [decide_eq_false_iff_not]; omega
                  go_wp2_with fail
                  refine wp_loop_rounds 1 ?_
                  rw [rounds_succ]
                  go_wp2_with fail
                  go_meet
                  exact ⟨rfl, hK.out, (by repeat (first | exact hB13 | exact Below.refl _ _ | refine balloc ?_ _ | refine Below.drew ?_ | refine below_drewN ?_ _ | refine below_set ?_ (by first | omega | (dsimp only; omega)) _))⟩
                · have g1 : decide ((0 : Int) < (l.length : Int)) = true := by rw [decide_eq_true_iff]; omega
                  go_wp2_with fail
                  refine wp_loop_rounds 1 ?_
                  rw [rounds_succ]
                  go_wp2_with fail
                  go_meet
                  exact ⟨rfl, hK.out, (by repeat (first | exact hB13 | exact Below.refl _ _ | refine balloc ?_ _ | refine Below.drew ?_ | refine below_drewN ?_ _ | refine below_set ?_ (by first | omega | (dsimp only; omega)) _))⟩
              · subst e1
                replace e3 := Lib.hid e3
                replace e4 := Lib.hid e4
                replace e5 := Lib.hid e5
                clear h5 h6
                go_wp2_with fail
                go_loopw [9, 23, 24] (fun e i o wr => ∃ q : Nat, q ≤ l.length ∧ i = .int .i64 q ∧ ((q ≤ k ∧ e = .int .i64 0) ∨ (k < l.length ∧ q = k + 1 ∧ e = .int .i64 1)) ∧ Below w13.heap.size w13 wr) (fun _ i _ _ => l.length - (intOf i).toNat)
                case atStart => exact ⟨0, Nat.zero_le _, rfl, .inl ⟨Nat.zero_le _, rfl⟩, Below.refl _ _⟩
                case round =>
                  obtain ⟨q, hq, rfl, hcase, hbr⟩ := hrel
                  have hBr : Below w.heap.size w wr := below_seq hB13 hbr
                  rcases hcase with ⟨hqk, rfl⟩ | ⟨hkm, rfl, rfl⟩
                  · by_cases hqm : q < l.length
                    · obtain ⟨b3, o3, rfl, hs⟩ := hs3.out (by omega)
                      have hs := hs.below hBr
                      have l1 := hs.cy q hqm
                      have l4 := hs.lt
                      clear hs
                      by_cases hqk2 : q < k
                      · have ho := Lib.hid (e3.out q hqm hqk2)
                        clear e3 e4 e5
                        generalize l[q].2 = A at *
                        go_wp2_with fail
                        refine (rRest_b A true _ ho).mono ?_; rintro e w' ⟨rfl, rfl⟩
                        go_wp2
                        go_roundw
                        case rel => exact ⟨q + 1, by omega, by go_num, .inl ⟨by omega, rfl⟩, hbr⟩
                        case measure => simp [intOf]; omega
                      · obtain rfl : q = k := by omega
                        obtain ⟨ho, h0⟩ := e4.out hqm
                        replace ho := Lib.hid ho
                        clear e3 e4 e5
                        generalize l[q].2 = A at *
                        go_wp2_with fail
                        refine (rRest_b A false _ ho).mono ?_; rintro e w' ⟨rfl, rfl⟩
                        go_wp2
                        go_roundw
                        case rel => exact ⟨q + 1, by omega, by go_num, .inr ⟨hqm, rfl, rfl⟩, hbr⟩
                        case measure => simp [intOf]; omega
                    · obtain rfl : q = k := by omega
                      have hE2 : E3 = 0 := e5.out (by omega)
                      clear e4 e5 e3
                      subst hE2
                      have g1 : decide ((q : Int) < (l.length : Int)) = false := by rw [decide_eq_false_iff_not]; omega
                      go_wp2_with fail
                      go_meet
                      exact ⟨rfl, (hK.out.below hbr), (by repeat (first | exact hBr | exact Below.refl _ _ | refine balloc ?_ _ | refine Below.drew ?_ | refine below_drewN ?_ _ | refine below_set ?_ (by first | omega | (dsimp only; omega)) _))⟩
                  · obtain ⟨-, h0⟩ := e4.out hkm
                    clear e4 e5 e3
                    subst h0
                    by_cases hkl : k + 1 < l.length
                    · have g1 : decide (((k + 1 : Nat) : Int) < (l.length : Int)) = true := by rw [decide_eq_true_iff]; omega
                      go_wp2_with fail
                      go_meet
                      exact ⟨rfl, (hK.out.below hbr), (by repeat (first | exact hBr | exact Below.refl _ _ | refine balloc ?_ _ | refine Below.drew ?_ | refine below_drewN ?_ _ | refine below_set ?_ (by first | omega | (dsimp only; omega)) _))⟩
                    · have g1 : decide (((k + 1 : Nat) : Int) < (l.length : Int)) = false := by rw [decide_eq_false_iff_not]; omega
                      go_wp2_with fail
                      go_meet
                      exact ⟨rfl, (hK.out.below hbr), (by repeat (first | exact hBr | exact Below.refl _ _ | refine balloc ?_ _ | refine Below.drew ?_ | refine below_drewN ?_ _ | refine below_set ?_ (by first | omega | (dsimp only; omega)) _))⟩
            case rest =>
              obtain ⟨w14, hwq⟩ : ∃ x, x = wc := ⟨_, rfl⟩
              subst hwq
              obtain ⟨rfl, hK, hB14⟩ := hcut
              clear h5
              replace hK := Lib.hid hK
              go_upto_if 146 with fail
              go_cut [18, 25, 26] (fun s18 s25 s26 wx => s25 = .int .i64 SUM ∧ Below w.heap.size w wx)
              case first =>
                rcases h6.out with ⟨e1, e2⟩ | ⟨e1, ws, e4, e6, e7, e8, e9⟩
                · subst e2
                  clear h6
                  go_wp2_with fail
                  go_meet
                  exact ⟨rfl, (by repeat (first | exact hB14 | exact Below.refl _ _ | refine balloc ?_ _ | refine Below.drew ?_ | refine below_drewN ?_ _ | refine below_set ?_ (by first | omega | (dsimp only; omega)) _))⟩
                · subst e1
                  replace e4 := Lib.hid e4
                  replace e6 := Lib.hid e6
                  replace e7 := Lib.hid e7
                  replace e8 := Lib.hid e8
                  replace e9 := Lib.hid e9
                  have hc0 : Hid (csum ws (l.map (·.2)) 0 = 0) := Lib.hid rfl
                  have hcb := Lib.hid (csum_bd ws (l.map (·.2)))
                  have hcs := Lib.hid (show ∀ q (h : q < l.length) (h' : q < ws.length), csum ws (l.map (·.2)) (q + 1) = (csum ws (l.map (·.2)) q + ws[q] * l[q].2) % 1013 from fun q h h' => by rw [csum, gD h', gD (by rw [List.length_map]; exact h), List.getElem_map])
                  generalize csum ws (l.map (·.2)) = cf at *
                  clear h6
                  go_wp2_with fail
                  refine (e8.out _ _ hK.out).mono ?_; rintro e w15 ⟨vw, rfl, hiw, hb⟩; replace hiw := Lib.hid hiw.sl
                  obtain ⟨hc15, hf15⟩ := bcell hb
                  have z15 := hb.size
                  try simp only [World.size_alloc, World.size_setCell, World.size_drew] at z15
                  have hB15 : Below w.heap.size w w15 := below_seq (by repeat (first | exact hB14 | exact Below.refl _ _ | refine balloc ?_ _ | refine Below.drew ?_ | refine below_drewN ?_ _ | refine below_set ?_ (by first | omega | (dsimp only; omega)) _)) hb
                  clear hb
                  obtain ⟨aw, cw, hwe, hiw2⟩ := hiw.out
                  rw [e4.out] at hwe
                  subst hwe
                  replace hiw2 := Lib.hid hiw2
                  go_wp2_with fail
                  go_loopw [25, 26] (fun s i wr => ∃ q : Nat, q ≤ l.length ∧ i = .int .i64 q ∧ s = .int .i64 (cf q) ∧ Below w15.heap.size w15 wr) (fun _ i _ => l.length - (intOf i).toNat)
                  case atStart => exact ⟨0, Nat.zero_le _, rfl, by rw [hc0.out], Below.refl _ _⟩
                  case round =>
                    obtain ⟨q, hq, rfl, rfl, hbr⟩ := hrel
                    have hBr : Below w.heap.size w wr := below_seq hB15 hbr
                    by_cases hqm : q < l.length
                    · have hqw : q < ws.length := by have := e4.out; omega
                      obtain ⟨b3, o3, rfl, hs⟩ := hs3.out (by omega)
                      obtain ⟨b4, o4, rfl, hw4⟩ := hiw2.out (by omega)
                      have hs := hs.below hBr
                      have hw4 := hw4.below hbr
                      have l1 := hs.cy q hqm
                      have l2 := hs.lt
                      have l3 := hw4.c q hqw
                      have l4 := hw4.lt
                      have hstep := hcs.out q hqm hqw
                      obtain ⟨p0, p1⟩ := e6.out q hqw
                      obtain ⟨y1, y2⟩ := e7.out q hqm
                      obtain ⟨q0, q1⟩ := hcb.out q
                      clear hs hw4 hcs hcb e9
                      generalize l[q].2 = y at *
                      generalize (ws[q]'hqw) = c at *
                      generalize cf q = s at *
                      obtain ⟨r0, r1⟩ := mul_bq p0 p1 y1 y2
                      have f1 : IntKind.i64.wrap (c * y) = c * y := IntWalk.i64_in _ (by omega)
                      have f2 : IntKind.i64.wrap (s + c * y) = s + c * y := IntWalk.i64_in _ (by omega)
                      have f3 : (s + c * y).tmod 1013 = (s + c * y) % 1013 := Int.tmod_eq_emod_of_nonneg (by omega)
                      replace hstep := Lib.hid hstep
                      go_wp2_with fail
                      go_quiet (fail)
                      go_wp2
                      go_roundw
                      case rel => exact ⟨q + 1, by omega, by go_num, by rw [hstep.out], (by repeat (first | exact hbr | refine below_drewN ?_ _ | refine Below.drew ?_))⟩
                      case measure => simp [intOf]; omega
                    · obtain rfl : q = l.length := by omega
                      have h9 := e9.out
                      have g1 : decide ((l.length : Int) < (l.length : Int)) = false := by simp
                      clear e9 e6 e7 hcs hcb
                      go_wp2_with fail
                      go_meet
                      exact ⟨(by rw [h9]), (by repeat (first | exact hBr | exact Below.refl _ _ | refine balloc ?_ _ | refine Below.drew ?_ | refine below_drewN ?_ _ | refine below_set ?_ (by first | omega | (dsimp only; omega)) _))⟩
              case rest =>
                obtain ⟨w15, hwq⟩ : ∃ x, x = wc := ⟨_, rfl⟩
                subst hwq
                obtain ⟨rfl, hB15⟩ := hcut
                clear h6 hK
                go_wp2_with fail
                refine (kC.out _ (by repeat (first | exact hB15 | exact Below.refl _ _ | refine balloc ?_ _ | refine Below.drew ?_ | refine below_drewN ?_ _ | refine below_set ?_ (by first | omega | (dsimp only; omega)) _))).mono ?_; rintro e w16 ⟨rfl, hb⟩
                obtain ⟨hc16, hf16⟩ := bcell hb
                have z16 := hb.size
                try simp only [World.size_alloc, World.size_setCell, World.size_drew] at z16
                have hB16 : Below w.heap.size w w16 := below_seq (by repeat (first | exact hB15 | exact Below.refl _ _ | refine balloc ?_ _ | refine Below.drew ?_ | refine below_drewN ?_ _ | refine below_set ?_ (by first | omega | (dsimp only; omega)) _)) hb
                clear hb
                go_wp2_with fail
                refine (error_same (errV E3) E3 _ (hE.below (by repeat (first | exact hB16 | exact Below.refl _ _ | refine balloc ?_ _ | refine Below.drew ?_ | refine below_drewN ?_ _ | refine below_set ?_ (by first | omega | (dsimp only; omega)) _))) (Lib.hid rfl)).mono ?_; rintro e w17 ⟨rfl, hb⟩
                obtain ⟨hc17, hf17⟩ := bcell hb
                have z17 := hb.size
                try simp only [World.size_alloc, World.size_setCell, World.size_drew] at z17
                have hB17 : Below w.heap.size w w17 := below_seq (by repeat (first | exact hB16 | exact Below.refl _ _ | refine balloc ?_ _ | refine Below.drew ?_ | refine below_drewN ?_ _ | refine below_set ?_ (by first | omega | (dsimp only; omega)) _)) hb
                clear hb
                go_wp2
                go_ret
                exact ⟨rfl, (by repeat (first | exact hB17 | exact Below.refl _ _ | refine balloc ?_ _ | refine Below.drew ?_ | refine below_drewN ?_ _ | refine below_set ?_ (by first | omega | (dsimp only; omega)) _))⟩
end Go.Proofs.YtahopffpajkfdaaDoor
namespace Go.Proofs.YtahopffpajkfdaaDoor
open Go.RowKit
set_option maxRecDepth 100000
set_option linter.unusedVariables false
set_option linter.unusedSimpArgs false
theorem res_first : ∀ (l : List Int), (∀ i (h : i < l.length), resB l[i] = true) ∨ ∃ (k : Nat) (hk : k < l.length), (∀ i (h : i < l.length), i < k → resB l[i] = true) ∧ resB l[k] = false
  | [] => .inl fun i h => absurd h (Nat.not_lt_zero _)
  | s :: l => by
    cases hs : resB s
    · exact .inr ⟨0, Nat.succ_pos _, fun i _ h => absurd h (Nat.not_lt_zero _), hs⟩
    · rcases res_first l with h | ⟨k, hk, h1, h2⟩
      · refine .inl fun i hi => ?_
        cases i with
        | zero => exact hs
        | succ i => exact h i (by simpa using hi)
      · refine .inr ⟨k + 1, by simpa using hk, fun i hi hik => ?_, h2⟩
        cases i with
        | zero => exact hs
        | succ i => exact h1 i (by simpa using hi) (by omega)
theorem resB_y {n : Int} (h : resB n = true) : 0 ≤ n ∧ n < 1013 := of_decide_eq_true h
theorem resB_n {n : Int} (h : resB n = false) : ¬ (0 ≤ n ∧ n < 1013) := of_decide_eq_false h
theorem all_of_res {l : List Int} (h : ∀ i (h : i < l.length), resB l[i] = true) : l.all okR = true := List.all_eq_true.mpr fun x hx => by obtain ⟨i, hi, rfl⟩ := List.getElem_of_mem hx; exact h i hi
theorem not_all_of_res {l : List Int} {k : Nat} (hk : k < l.length) (h : resB l[k] = false) : l.all okR = false := by
  cases e : l.all okR
  · rfl
  · have := all_okR e k hk
    have h2 : resB l[k] = true := this
    rw [h2] at h; exact absurd h (by decide)
theorem st_split (coefs : List Int) (n : Int) (a0 : Option Addr) (c0 : Nat) (w : World) (hs : IntSl w (.slice a0 coefs.length c0) coefs) (m0 : coefs.length ≤ 9223372036854775807) :
    ∃ (E10 E1 : Int) (KL : List (Int × Int)), KL.length ≤ 1000000 ∧
    ((decide ((12 : Int) < (coefs.length : Int)) = true ∧ E10 = 4) ∨ (decide ((12 : Int) < (coefs.length : Int)) = false ∧ ((coefs.length : Int) == 0) = true ∧ E10 = 1) ∨ (decide ((12 : Int) < (coefs.length : Int)) = false ∧ ((coefs.length : Int) == 0) = false ∧ decide (n < 1) = true ∧ E10 = 1) ∨ (decide ((12 : Int) < (coefs.length : Int)) = false ∧ ((coefs.length : Int) == 0) = false ∧ decide (n < 1) = false ∧ decide (12 < n) = true ∧ E10 = 1) ∨ (decide ((12 : Int) < (coefs.length : Int)) = false ∧ ((coefs.length : Int) == 0) = false ∧ decide (n < 1) = false ∧ decide (12 < n) = false ∧ E10 = 0)) ∧
    (((E10 == 0) = false ∧ E1 = E10) ∨ (E10 = 0 ∧ ∃ k, k ≤ coefs.length ∧ (∀ i (h : i < coefs.length), i < k → resB coefs[i] = true) ∧ (∀ h : k < coefs.length, resB coefs[k] = false ∧ E1 = 1) ∧ (k = coefs.length → E1 = 0))) ∧
    (((E1 == 0) = false ∧ KL = []) ∨ (E1 = 0 ∧ ∃ m : Nat, n = m ∧ m ≤ 12 ∧ KL = splitL coefs m ∧ ∀ (w1 : World) (x V : Int), Below w.heap.size w w1 → 0 ≤ x → x < 1013 → Hid (val x coefs = V) → Calls Tryd.prog 25 #[.slice a0 coefs.length c0, .int .i64 x] w1 fun e w' => e = .returned (.int .i64 V) ∧ w1 = w')) ∧
    (∀ w1 : World, Below w.heap.size w w1 → Calls Tryd.prog 26 #[.slice a0 coefs.length c0, .int .i64 n] w1 fun e w' => ∃ v', e = .returned (.tuple #[v', errV E1]) ∧ ShSl w' v' KL ∧ Below w1.heap.size w1 w') := by
  have bad : ∀ E : Int, E ≠ 0 → splitF coefs n = E → ∀ w1 : World, Below w.heap.size w w1 → Calls Tryd.prog 26 #[.slice a0 coefs.length c0, .int .i64 n] w1 fun e w' => ∃ v', e = .returned (.tuple #[v', errV E]) ∧ ShSl w' v' [] ∧ Below w1.heap.size w1 w' := fun E h0 hE w1 hb => by
    rw [errV, if_neg h0]
    exact (split_n coefs _ n E w1 m0 (hs.below hb) (Lib.hid hE) h0).mono fun e w' ⟨he, hb'⟩ => ⟨_, he, ShSl.none0 _, hb'⟩
  by_cases h1 : 12 < coefs.length
  · refine ⟨4, 4, [], by decide, .inl ⟨by rw [decide_eq_true_iff]; omega, rfl⟩, .inl ⟨rfl, rfl⟩, .inl ⟨rfl, rfl⟩, bad 4 (by decide) (by unfold splitF; rw [if_pos h1])⟩
  have d1 : decide ((12 : Int) < (coefs.length : Int)) = false := by rw [decide_eq_false_iff_not]; omega
  by_cases h2 : coefs.length = 0
  · exact ⟨1, 1, [], by decide, .inr (.inl ⟨d1, by rw [beq_iff_eq]; omega, rfl⟩), .inl ⟨rfl, rfl⟩, .inl ⟨rfl, rfl⟩, bad 1 (by decide) (by unfold splitF; rw [if_neg h1, if_pos (.inl h2)])⟩
  have d2 : ((coefs.length : Int) == 0) = false := by rw [beq_eq_false_iff_ne]; omega
  by_cases h3 : n < 1
  · exact ⟨1, 1, [], by decide, .inr (.inr (.inl ⟨d1, d2, decide_eq_true h3, rfl⟩)), .inl ⟨rfl, rfl⟩, .inl ⟨rfl, rfl⟩, bad 1 (by decide) (by unfold splitF; rw [if_neg h1, if_pos (.inr (.inr (.inl h3)))])⟩
  have d3 : decide (n < 1) = false := decide_eq_false h3
  by_cases h4 : 12 < n
  · exact ⟨1, 1, [], by decide, .inr (.inr (.inr (.inl ⟨d1, d2, d3, decide_eq_true h4, rfl⟩))), .inl ⟨rfl, rfl⟩, .inl ⟨rfl, rfl⟩, bad 1 (by decide) (by unfold splitF; rw [if_neg h1, if_pos (.inr (.inr (.inr h4)))])⟩
  have d4 : decide (12 < n) = false := decide_eq_false h4
  rcases res_first coefs with hg | ⟨k, hk, hg, hb⟩
  · obtain ⟨m, rfl⟩ : ∃ m : Nat, n = (m : Int) := ⟨n.toNat, by omega⟩
    have hall := all_of_res hg
    refine ⟨0, 0, splitL coefs m, by rw [splitL_len]; omega, .inr (.inr (.inr (.inr ⟨d1, d2, d3, d4, rfl⟩))), .inr ⟨rfl, coefs.length, Nat.le_refl _, fun i h _ => hg i h, fun h => absurd h (Nat.lt_irrefl _), fun _ => rfl⟩,
      .inr ⟨rfl, m, rfl, by omega, rfl, fun w1 x V hb x0 x1 hV => rvalue_c coefs _ x V w1 (by omega) hall x0 x1 (hs.below hb) hV⟩, fun w1 hb => ?_⟩
    exact (split_ok coefs _ m w1 (by omega) (by omega) hall (by omega) (by omega) (hs.below hb)).mono fun e w' ⟨v', he, h', hb'⟩ => ⟨v', he, h', hb'⟩
  · have hall := not_all_of_res hk hb
    exact ⟨0, 1, [], by decide, .inr (.inr (.inr (.inr ⟨d1, d2, d3, d4, rfl⟩))), .inr ⟨rfl, k, Nat.le_of_lt hk, hg, fun _ => ⟨hb, rfl⟩, fun e => absurd hk (by omega)⟩, .inl ⟨rfl, rfl⟩, bad 1 (by decide) (by unfold splitF; rw [if_neg h1, if_pos (.inr (.inl hall))])⟩
theorem st_pl (xs : List Int) (m2 : xs.length ≤ 9223372036854775807) :
    ∃ E2 : Int, (∀ (w1 : World) (v1 : Value), IntSl w1 v1 xs → Calls Tryd.prog 16 #[v1] w1 fun e w' => e = .returned (.int .i64 E2) ∧ Below w1.heap.size w1 w') ∧
      ((E2 ≠ 0 ∧ ∀ (w1 : World) (v1 : Value), IntSl w1 v1 xs → CapOk v1 → Calls Tryd.prog 28 #[v1] w1 fun e w' => e = .returned (.tuple #[.slice none 0 0, .iface 114 (.int .i64 E2)]) ∧ Below w1.heap.size w1 w') ∨
       (E2 = 0 ∧ 1 ≤ xs.length ∧ xs.length ≤ 12 ∧ PlOk xs xs.length)) := by
  rcases pl_cases xs with hp | hp | ⟨p1, p2, hok⟩ | ⟨p1, p2, k, R, hk, hok, hbad⟩
  · exact ⟨4, fun w1 v1 h => by obtain ⟨a, c, rfl, -⟩ := h; exact rplaces_full a xs.length c w1 hp m2, .inl ⟨by decide, fun w1 v1 h _ => by obtain ⟨a, c, rfl, -⟩ := h; exact weights_full a xs.length c w1 hp m2⟩⟩
  · exact ⟨5, fun w1 v1 h => by obtain ⟨a, c, rfl, -⟩ := h; rw [hp]; exact rplaces_none a c w1, .inl ⟨by decide, fun w1 v1 h _ => by obtain ⟨a, c, rfl, -⟩ := h; rw [hp]; exact weights_none a c w1⟩⟩
  · exact ⟨0, fun w1 v1 h => rplaces_sl xs v1 0 xs.length w1 p1 p2 (Nat.le_refl _) hok (fun h => absurd h (Nat.lt_irrefl _)) (fun _ => rfl) h, .inr ⟨rfl, p1, p2, hok⟩⟩
  · have hR : R ≠ 0 := by
      obtain ⟨-, ⟨-, rfl⟩ | ⟨-, -, rfl⟩⟩ := hbad
      · decide
      · decide
    exact ⟨R, fun w1 v1 h => rplaces_sl xs v1 R k w1 p1 p2 (Nat.le_of_lt hk) hok (fun _ => hbad) (fun e => absurd hk (by omega)) h, .inl ⟨hR, fun w1 v1 h hc => weights_bad xs v1 R k w1 p1 p2 hk hok hbad h hc⟩⟩
theorem shareTells_law (v0 : Value) (n : Int) (wn : (Lit.int .i64 n).wf = true) (v2 v3 : Value) (w : World) (o0 : IntsV w v0 ∧ CapOk v0) (o2 : IntsV w v2 ∧ CapOk v2) (o3 : ∃ l : List (Int × Int), ShSl w v3 l ∧ l.length * 16 ≤ 140737488355328) (hE : ErrAt w) :
    Calls Tryd.prog 4 #[v0, .int .i64 n, v2, v3] w fun e w' => e = .returned (.bool true) ∧ Below w.heap.size w w' := by
  obtain ⟨coefs, g0, m0, -⟩ := o0.1.sl
  obtain ⟨xs, g2, m2, -⟩ := o2.1.sl
  obtain ⟨l, g3, m3⟩ := o3
  obtain ⟨n0, n1⟩ := wf64 wn
  obtain ⟨a0, c0, rfl, k0⟩ := id g0
  obtain ⟨a3, c3, rfl, k3⟩ := id g3
  obtain ⟨E10, E1, KL, q1, q2, q3, q4, q5⟩ := st_split coefs n a0 c0 w g0 m0
  obtain ⟨E2, r1, r2⟩ := st_pl xs m2
  obtain ⟨E30, s1, s2⟩ := st_pl (l.map (·.1)) (by rw [List.length_map]; omega)
  obtain ⟨WL, t1, t2, t3⟩ : ∃ WL : List Int, WL.length ≤ 1000000 ∧ (((E2 == 0) = false ∧ WL = []) ∨ (E2 = 0 ∧ ∀ w1 : World, Below w.heap.size w w1 → Calls Tryd.prog 18 #[v2] w1 fun e w' => ∃ v', e = .returned v' ∧ IntF w1.heap.size w' v' WL ∧ Below w1.heap.size w1 w')) ∧
      (∀ w1 : World, Below w.heap.size w w1 → Calls Tryd.prog 28 #[v2] w1 fun e w' => ∃ v', e = .returned (.tuple #[v', errV E2]) ∧ IntSl w' v' WL ∧ Below w1.heap.size w1 w') := by
    rcases r2 with ⟨e0, hw⟩ | ⟨rfl, p1, p2, hok⟩
    · refine ⟨[], by decide, .inl ⟨by simpa using e0, rfl⟩, fun w1 hb => ?_⟩
      rw [errV, if_neg e0]
      exact (hw w1 v2 (g2.below hb) o2.2).mono fun e w' ⟨he, hb'⟩ => ⟨_, he, IntSl.none1 _, hb'⟩
    · refine ⟨wgts xs, by rw [wgts_len]; omega, .inr ⟨rfl, fun w1 hb => rweights_f xs v2 w1 p2 hok.s hok.d (g2.below hb)⟩, fun w1 hb => ?_⟩
      exact weights_ok xs v2 w1 p1 p2 hok.s hok.d (g2.below hb) o2.2
  have hxl : (l.map (·.1)).length = l.length := List.length_map ..
  obtain ⟨E3, SUM, u1, u2, u3⟩ : ∃ E3 SUM : Int, (((E30 == 0) = false ∧ E3 = E30) ∨ (E30 = 0 ∧ ∃ k, k ≤ l.length ∧ (∀ i (h : i < l.length), i < k → resB l[i].2 = true) ∧ (∀ h : k < l.length, resB l[k].2 = false ∧ E3 = 1) ∧ (k = l.length → E3 = 0))) ∧
      (((E3 == 0) = false ∧ SUM = 0) ∨ (E3 = 0 ∧ ∃ ws : List Int, ws.length = l.length ∧ (∀ i (h : i < ws.length), 0 ≤ ws[i] ∧ ws[i] < 1013) ∧ (∀ i (h : i < l.length), 0 ≤ l[i].2 ∧ l[i].2 < 1013) ∧ (∀ (w1 : World) (v1 : Value), IntSl w1 v1 (l.map (·.1)) → Calls Tryd.prog 18 #[v1] w1 fun e w' => ∃ v', e = .returned v' ∧ IntF w1.heap.size w' v' ws ∧ Below w1.heap.size w1 w') ∧ csum ws (l.map (·.2)) l.length = SUM)) ∧
      (∀ w1 : World, Below w.heap.size w w1 → Calls Tryd.prog 30 #[.slice a3 l.length c3] w1 fun e w' => e = .returned (.tuple #[.int .i64 SUM, errV E3]) ∧ Below w1.heap.size w1 w') := by
    rcases s2 with ⟨e0, hw⟩ | ⟨rfl, p1, p2, hok⟩
    · refine ⟨E30, 0, .inl ⟨by simpa using e0, rfl⟩, .inl ⟨by simpa using e0, rfl⟩, fun w1 hb => ?_⟩
      rw [errV, if_neg e0]
      exact combine_nw l _ E30 w1 m3 (g3.below hb) (Lib.hid hw)
    · rw [hxl] at p1 p2
      have hs : ∀ i (h : i < l.length), 1 ≤ l[i].1 ∧ l[i].1 < 1013 := fun i h => by have := hok.s i (by rw [hxl]; exact h); rw [List.getElem_map] at this; exact this
      have hd : ∀ i j (hi : i < l.length) (hj : j < l.length), i < j → l[i].1 ≠ l[j].1 := fun i j hi hj hij => by have := hok.d i j (by rw [hxl]; exact hi) (by rw [hxl]; exact hj) hij; rw [List.getElem_map, List.getElem_map] at this; exact this
      rcases res_first (l.map (·.2)) with hg | ⟨k, hk, hg, hb⟩
      · have hg' : ∀ i (h : i < l.length), resB l[i].2 = true := fun i h => by have := hg i (by rw [List.length_map]; exact h); rw [List.getElem_map] at this; exact this
        refine ⟨0, _, .inr ⟨rfl, l.length, Nat.le_refl _, fun i h _ => hg' i h, fun h => absurd h (Nat.lt_irrefl _), fun _ => rfl⟩,
          .inr ⟨rfl, wgts (l.map (·.1)), by rw [wgts_len]; exact hxl, wgts_bd _, fun i h => resB_y (hg' i h), fun w1 v1 h => rweights_f _ v1 w1 (by rw [hxl]; exact p2) hok.s hok.d h, rfl⟩, fun w1 hb => ?_⟩
        exact combine_ok l _ w1 p1 p2 (fun i h => ⟨(hs i h).1, (hs i h).2, (resB_y (hg' i h)).1, (resB_y (hg' i h)).2⟩) hd (g3.below hb)
      · rw [List.length_map] at hk
        have hg' : ∀ i (h : i < l.length), i < k → resB l[i].2 = true := fun i h hik => by have := hg i (by rw [List.length_map]; exact h) hik; rw [List.getElem_map] at this; exact this
        have hb' : resB l[k].2 = false := by rw [List.getElem_map] at hb; exact hb
        exact ⟨1, 0, .inr ⟨rfl, k, Nat.le_of_lt hk, hg', fun _ => ⟨hb', rfl⟩, fun e => absurd hk (by omega)⟩, .inl ⟨rfl, rfl⟩, fun w1 hb => combine_bad l _ w1 p1 p2 hs hd k hk (Lib.hid fun i h hik => resB_y (hg' i h hik)) (Lib.hid fun h => resB_n hb') (g3.below hb)⟩
  exact st_core a0 a3 c0 c3 coefs l n v2 w hE m0 n0 n1 m3 (Lib.hid k0) (Lib.hid k3) _ _ _ _ rfl rfl rfl rfl E10 E1 KL (Lib.hid q1) (Lib.hid q2) (Lib.hid q3) (Lib.hid q4) (Lib.hid q5) E2 WL (Lib.hid t1) (Lib.hid fun w1 hb => r1 w1 v2 (g2.below hb)) (Lib.hid t2) (Lib.hid t3) E30 E3 SUM (Lib.hid s1) (Lib.hid u1) (Lib.hid u2) (Lib.hid u3)
end Go.Proofs.YtahopffpajkfdaaDoor
namespace Go.Proofs.YtahopffpajkfdaaDoor
open Go.ChangeShapes Go.WideShapes Go.ChangeAt Go.WideMaps Go.WideElems Go.RowKit
set_option maxRecDepth 100000
abbrev farLaid : List (String × DataW Unit) := [("pairstone/curve.Far", Rows.laid_pairstone_curve_Far)]
theorem gFar : Tryd.prog.globalNamed "pairstone/curve.Far" = some 0 := by kernel_rfl
theorem tFar : (Tryd.prog.globals[0]?).map (·.type) = some 29 := by kernel_rfl
/-- The door's own heap meets the condition. -/
theorem farLaid_met (os : Os) (args : Array Value) : laidMetH Tryd.prog farLaid ((World.doorLaid Tryd.prog 400 os).forCall (fun _ _ => 0) ⟨#[], args, []⟩).memory :=
  laidMetH_of_parts3 (fuel := 8) (laidMet_of_run' 8 (by kernel_rfl) (by kernel_rfl)) (by kernel_rfl) (by kernel_rfl)
theorem lt_of_cell {w : World} {b o : Nat} {v : Value} (h : w.cell? ⟨b, o, none⟩ = some v) : b < w.heap.size := by
  rcases Nat.lt_or_ge b w.heap.size with h1 | h1
  · exact h1
  · simp [World.cell?, Array.getElem?_eq_none h1] at h
theorem farLaid_at {W : World} (h : laidMetH Tryd.prog farLaid W) : FarAt W := by
  rw [MakeChecks.laidMetH_plain _ _ _ (by kernel_rfl)] at h
  obtain ⟨ps, ⟨g0, t0, cs0, f0, p0, q0, hg0, ht0, hv0, hd0, _, _⟩, _, _⟩ := h
  obtain rfl := Option.some.inj (gFar.symm.trans hg0)
  obtain rfl := Option.some.inj (tFar.symm.trans ht0)
  obtain ⟨y0, y1, y2, n, hx, hlen, h0, h1, h2⟩ := Deep.trod_struct3 Tryd.underlying29 hd0
  simp only [Rows.laid_pairstone_curve_Far, Prod.mk.injEq, DataW.agg.injEq, List.cons.injEq, and_true] at hx
  obtain ⟨⟨e0, e1, e2⟩, _⟩ := hx
  obtain ⟨a, c0, rfl, _⟩ := DataW.trod_int Tryd.underlying3 h0
  obtain ⟨b, c1, rfl, _⟩ := DataW.trod_int Tryd.underlying3 h1
  obtain ⟨f, c2, rfl⟩ := DataW.trod_bool Tryd.underlying4 h2
  have k3 : Tryd.prog.cellsOf 29 = 3 := by kernel_rfl
  have ki : Tryd.prog.cellsOf 3 = 1 := by kernel_rfl
  have kb : Tryd.prog.cellsOf 4 = 1 := by kernel_rfl
  obtain ⟨l⟩ := cs0
  have h3 : l.length = 3 := by simpa using hlen.trans k3
  match l, h3 with
  | [x, y, z], _ =>
    simp [ki, kb] at c0 c1 c2
    subst c0 c1 c2
    have v0 := World.var?_cell hg0 hv0 0
    have v1 := World.var?_cell hg0 hv0 1
    have v2 := World.var?_cell hg0 hv0 2
    simp at e0 e1 e2 v0 v1 v2
    subst e0 e1 e2
    exact ⟨v0, v1, v2, lt_of_cell v0⟩
end Go.Proofs.YtahopffpajkfdaaDoor
namespace Go.Proofs.YtahopffpajkfdaaDoor
open Go.ChangeShapes Go.WideShapes Go.ChangeAt Go.WideMaps Go.WideElems Go.RowKit
set_option maxRecDepth 100000
theorem gErr : Tryd.prog.globalNamed "errors.errorType" = some 2 := by kernel_rfl
theorem cutR : (Tryd.prog.cutTypes.find? (·.1 == "internal/reflectlite.rtype")).map (·.2) = some 172 := by kernel_rfl
theorem rowError : ((List.range Tryd.prog.types.size).filter fun t => Tryd.prog.rowNamed t [101, 114, 114, 111, 114]) = [33] := by kernel_rfl
/-- What the condition on the variable says of its cell. -/
theorem err_of_handles {l : List (String × DataW Unit)} {W : World} (h : handlesMet Tryd.prog l W) (hm : ("errors.errorType", Rows.laid_errors_errorType) ∈ l) : ErrAt W := by
  obtain ⟨name, u, ty, e1, e2, e3, e4, e5⟩ := h _ hm
  have en : name = [101, 114, 114, 111, 114] := (Option.some.inj e1).symm
  subst en
  obtain rfl := Option.some.inj (cutR.symm.trans e2)
  have hm : ty ∈ (List.range Tryd.prog.types.size).filter fun t => Tryd.prog.rowNamed t [101, 114, 114, 111, 114] := List.mem_filter.2 ⟨List.mem_range.2 e3, e4⟩
  rw [rowError] at hm
  obtain rfl := List.mem_singleton.1 hm
  have hh : typeHandle Tryd.prog 33 = .pointer (some ⟨3, 33, none⟩) := by kernel_rfl
  rw [hh] at e5
  have v := World.var?_cell gErr e5 0
  simp at v
  exact ⟨v, lt_of_cell v⟩
abbrev errLaid : List (String × DataW Unit) := [("errors.errorType", Rows.laid_errors_errorType)]
abbrev farErrLaid : List (String × DataW Unit) := [("pairstone/curve.Far", Rows.laid_pairstone_curve_Far), ("errors.errorType", Rows.laid_errors_errorType)]
theorem errLaid_met (os : Os) (args : Array Value) : laidMetH Tryd.prog errLaid ((World.doorLaid Tryd.prog 400 os).forCall (fun _ _ => 0) ⟨#[], args, []⟩).memory :=
  laidMetH_of_parts ⟨[], rfl, List.nodup_nil, fun _ _ h => by cases h⟩ (by kernel_rfl)
theorem farErrLaid_met (os : Os) (args : Array Value) : laidMetH Tryd.prog farErrLaid ((World.doorLaid Tryd.prog 400 os).forCall (fun _ _ => 0) ⟨#[], args, []⟩).memory :=
  laidMetH_of_parts (laidMet_of_run' 8 (by kernel_rfl) (by kernel_rfl)) (by kernel_rfl)
theorem errLaid_at {W : World} (h : laidMetH Tryd.prog errLaid W) : ErrAt W := by
  have h' : laidMet Tryd.prog [] W ∧ handlesMet Tryd.prog errLaid W := h
  exact err_of_handles h'.2 (by simp)
theorem farErrLaid_at {W : World} (h : laidMetH Tryd.prog farErrLaid W) : FarAt W ∧ ErrAt W := by
  have h' : laidMet Tryd.prog farLaid W ∧ handlesMet Tryd.prog errLaid W := h
  exact ⟨farLaid_at (by rw [MakeChecks.laidMetH_plain _ _ _ (by kernel_rfl)]; exact h'.1), err_of_handles h'.2 (by simp)⟩
end Go.Proofs.YtahopffpajkfdaaDoor
namespace Go.Proofs.YtahopffpajkfdaaDoor
open Go.RowKit
set_option maxRecDepth 100000
theorem headL : ∃ l : List Char, Tryd.prog.initOrder = String.ofList l ∧ ((behindMainWord (wordsSigns l)).head? = some "cut".toList ∧
    (match wordsSigns l with
      | h :: s :: _ => if !isSumSigns s then none else if h == "harness".toList then some (true, s) else if h == "ownmain".toList then some (false, s) else none
      | _ => none) = some (true, "f20d6db7f5e69aa7aa35e34b54c40c58b618be88f18eef3d20039067197992de".toList)) := by
  refine ⟨?l, ?h1, ?h2, ?h3⟩
  case h1 =>
    unfold Tryd.prog
    first | rfl | (dsimp only; rfl)
  case h2 => kernel_rfl
  case h3 => kernel_rfl
theorem headCut : ∃ r, behindMainWord (wordsSigns Tryd.prog.initOrder.toList) = "cut".toList :: r := by
  obtain ⟨l, h, hw, -⟩ := headL
  rw [h, String.toList_ofList]
  cases e : behindMainWord (wordsSigns l) with
  | nil => rw [e] at hw; cases hw
  | cons c r => rw [e] at hw; exact ⟨r, by rw [Option.some.inj hw]⟩
theorem mainIsK : Tryd.prog.mainIs = some (true, "f20d6db7f5e69aa7aa35e34b54c40c58b618be88f18eef3d20039067197992de".toList) := by
  obtain ⟨l, h, -, hm⟩ := headL
  unfold Program.mainIs; rw [h, String.toList_ofList]; exact hm
theorem mayEnterK : Tryd.prog.mayEnter = true := by
  obtain ⟨r, h⟩ := headCut
  unfold Program.mayEnter; rw [h]; kernel_rfl
theorem headLiftsK : Tryd.prog.headLifts = [] := by
  obtain ⟨r, h⟩ := headCut
  unfold Program.headLifts; rw [h]; kernel_rfl
theorem liftsFinalK : Tryd.prog.liftsFinal = false := by
  obtain ⟨r, h⟩ := headCut
  unfold Program.liftsFinal; rw [h, headLiftsK]; kernel_rfl
theorem makeK : Tryd.prog.make = some .cut := by
  obtain ⟨r, h⟩ := headCut
  unfold Program.make; rw [h]; kernel_rfl
end Go.Proofs.YtahopffpajkfdaaDoor
namespace Go.Proofs.YtahopffpajkfdaaDoor.shareTells
open Go.ChangeShapes Go.WideShapes Go.ChangeAt Go.RowKit
set_option linter.unusedVariables false
theorem typesOk : ([24, 3, 24, 26].all fun t => Tryd.prog.readableRec t && decide (t < Tryd.prog.types.size)) = true := by kernel_rfl
set_option maxRecDepth 100000 in
theorem lifted (os : Os) (started : os.Started) (H : Type) (enc : TypeId × Value → H) :
    ReturnsInHanded {} Tryd.checked os 4 .any (fun w args => (Rows.shareTellsSpec.pre enc Tryd.prog Tryd.f4 [] false w args ∧ laidMetH Tryd.prog errLaid w) ∧ sizedMet enc Tryd.prog Tryd.f4 (OpenSpec.ofChange Rows.shareTellsSpec) false w args)
      (Rows.shareTellsSpec.post enc Tryd.prog Tryd.f4 false true false false) := by
  refine returnsInHanded_of_change_and (C := Tryd.checked) (X := fun w _ => laidMetH Tryd.prog errLaid w) (fun _ _ _ hh h => h.of_heap hh) Tryd.ownK started (by kernel_rfl) Tryd.func4
    (ChangeSpec.witness_shaped (enc := enc) (C := Tryd.checked) (os := os) (X := fun w _ => laidMetH Tryd.prog errLaid w) false (World.doorLaid Tryd.prog 400 os) #[.slice none 0 0, .int .i64 0, .slice none 0 0, .slice none 0 0] 8 rfl (World.shaped_of_RefB (by kernel_rfl) (by kernel_rfl)) (by kernel_rfl) (by kernel_rfl) (by kernel_rfl) (errLaid_met os _)) ?_
  intro W base args ds gs before hval0 hW hcnd hsz0 hL hholds
  have hval : ∀ (j : Nat) t v, Tryd.f4.params[j]? = some t → args[j]? = some v → Value.okWide Tryd.prog W .any base t v := hval0
  have hW' := hW
  obtain ⟨p, q, hA0, hV, rfl, hfz, hnd⟩ := hW
  have hA : DataW.TrodAll enc Tryd.prog W 0 (fun _ => true) true Tryd.f4.params.toList args.toList ds p := hA0
  obtain ⟨rfl, rfl⟩ := trodVars_none hV
  simp only [List.append_nil] at hW'
  have hlt : ∀ x ∈ p, x.block < W.heap.size := fun x hx => hW'.lt x hx
  have hsz : (DataW.weightsEach Tryd.prog (Tryd.f4.params.toList ++ Rows.shareTellsSpec.plain.varTypes Tryd.prog) (ds ++ [])).all (· ≤ reachBytes) = true := hsz0
  rw [Tryd.params4] at hA hval hsz
  have hK := hA
  obtain ⟨v0, vs0, d0, ds0, p0, q0, hargs, rfl, rfl, h0, r0⟩ := trodAll_cons hA
  obtain ⟨v1, vs1, d1, ds1, p1, q1, rfl, rfl, rfl, h1, r1⟩ := trodAll_cons r0
  obtain ⟨v2, vs2, d2, ds2, p2, q2, rfl, rfl, rfl, h2, r2⟩ := trodAll_cons r1
  obtain ⟨v3, vs3, d3, ds3, p3, q3, rfl, rfl, rfl, h3, r3⟩ := trodAll_cons r2
  obtain ⟨rfl, rfl, rfl⟩ := trodAll_nil r3
  obtain rfl : args = #[v0, v1, v2, v3] := by cases args; simp_all
  have o0 := open_intc Tryd.underlying24 Tryd.underlying3 (by kernel_rfl) (hval 0 24 v0 rfl rfl) h0
  obtain ⟨a1, rfl, rfl, rfl, w1⟩ := open_int Tryd.underlying3 (hval 1 3 v1 rfl rfl) h1
  have o2 := open_intc Tryd.underlying24 Tryd.underlying3 (by kernel_rfl) (hval 2 24 v2 rfl rfl) h2
  have o3 := open_sharesz Tryd.underlying26 Tryd.underlying23 (by kernel_rfl) (by kernel_rfl) Tryd.underlying3 Tryd.underlying3 (by kernel_rfl) (hval 3 26 v3 rfl rfl) h3 hsz (j := 3) rfl rfl
  clear hA0 hval0
  refine (shareTells_law v0 a1 w1 v2 v3 W o0 o2 o3 (errLaid_at hL)).mono fun e W' ⟨he, hg⟩ => ?_
  subst he
  exact ⟨_, rfl, post_of_below (pa := _) (pv := []) hW' (fun _ _ _ => (trodAll_cons_mk (shut_bool Tryd.underlying4 _) trodAll_mk0)) (fun sp hsp => trodAll_stays Tryd.laidOutK hg typesOk hK (fun x hx => ⟨hlt x hx, hsp x (by first | exact hx | (simp at hx) | simpa using hx)⟩)) (fun _ _ => rfl) (by simp) hg (ok_one (by kernel_rfl) rfl (okWide_bool_mk Tryd.underlying4 _))⟩

theorem over : Rows.shareTellsRow.holds Tryd.pinned (OpenSpec.ofChange Rows.shareTellsSpec) :=
  OpenClaim.holds_of_wide 4 Tryd.f4 rfl rfl rfl rfl rfl rfl rfl ⟨rfl, rfl, rfl, rfl, rfl⟩ rfl rfl rfl rfl rfl (by kernel_rfl) Tryd.func4 (by show joinedFacts Tryd.prog _ _ _ _ = true; unfold joinedFacts; rw [mayEnterK, liftsFinalK, makeK]; kernel_rfl)
    (of_decide_eq_true (by kernel_rfl)) (by unfold Func.isWrapper; first | (rw [if_pos (by decide +kernel)]; kernel_rfl) | (rw [if_neg (by decide +kernel)]; exact ⟨rfl, rfl⟩))
    (fun os started H enc _ => lifted os started H enc)
theorem card : Rows.ShareTellsCardSaid :=
  Claim7.holds_tied_plain_at .later [] [.handle] true (true, "f20d6db7f5e69aa7aa35e34b54c40c58b618be88f18eef3d20039067197992de") true
    over (fun _ h => by cases h) (by kernel_rfl) (fun _ h => by cases h) shareTells_row_tie rfl ⟨rfl, rfl⟩ mainIsK rfl
    (fun f fn hf hfn => by
      obtain rfl : f = 4 := Option.some.inj ((show Tryd.prog.funcNamed "pairstone/stonelaw2.ShareTells" = some 4 by kernel_rfl).symm.trans hf) |>.symm
      obtain rfl : fn = Tryd.f4 := (Option.some.inj (Tryd.func4.symm.trans hfn)).symm
      exact ⟨by kernel_rfl, fun j t ht => by
        rw [Tryd.params4] at ht
        have hm : t ∈ ([24, 3, 24, 26] : List TypeId) := by simpa using Array.mem_of_getElem? ht
        have hall : (([24, 3, 24, 26] : List TypeId).all fun u => !Tryd.prog.wantsStandIn u) = true := by kernel_rfl
        exact (show Tryd.prog.wantsStandIn t = false by simpa using List.all_eq_true.1 hall t hm)⟩)
    (by kernel_rfl)
#print axioms card
end Go.Proofs.YtahopffpajkfdaaDoor.shareTells
