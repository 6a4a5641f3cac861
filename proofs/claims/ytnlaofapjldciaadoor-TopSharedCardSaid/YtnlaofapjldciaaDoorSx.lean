/- Walk of share.Weights, all right. -/
import Derived.Test.YtnlaofapjldciaaDoorSw
import Derived.Test.YtnlaofapjldciaaDoorSh
import Derived.WalkSpells
namespace Go.Proofs.YtnlaofapjldciaaDoor
open Go.RowKit
set_option maxRecDepth 100000
set_option linter.unusedVariables false
set_option linter.unusedSimpArgs false
/-- The part of a place's weight that comes of the first k places. -/
def wpre (xs : List Int) (i : Nat) : Nat → Int
  | 0 => 1
  | k + 1 => if k = i then wpre xs i k else ((wpre xs i k * xs.getD k 0) % 1013 * (((xs.getD k 0 - xs.getD i 0) % 1013) ^ qE % 1013)) % 1013
theorem wpre_bd (xs : List Int) (i : Nat) : ∀ k, 0 ≤ wpre xs i k ∧ wpre xs i k < 1013
  | 0 => ⟨Int.zero_le_ofNat 1, by show (1 : Int) < 1013; decide⟩
  | k + 1 => by
    unfold wpre
    split
    · exact wpre_bd xs i k
    · exact ⟨Int.emod_nonneg _ (by decide), Int.emod_lt_of_pos _ (by decide)⟩
/-- The weights. -/
def wgts (xs : List Int) : List Int := (List.range xs.length).map fun i => wpre xs i xs.length
theorem wgts_len (xs : List Int) : (wgts xs).length = xs.length := by simp [wgts]
theorem wgts_get (xs : List Int) (i : Nat) (h : i < (wgts xs).length) : (wgts xs)[i] = wpre xs i xs.length := by simp [wgts]
theorem take_snoc3 {α : Type} (l : List α) (n : Nat) (h : n < l.length) : l.take (n + 1) = l.take n ++ [l[n]] := by
  rw [List.take_add_one, List.getElem?_eq_getElem h]; rfl
theorem wpre_same {xs : List Int} {i k : Nat} (h : k = i) : wpre xs i (k + 1) = wpre xs i k := by rw [wpre, if_pos h]
theorem wpre_step {xs : List Int} {i k : Nat} (h : ¬ k = i) : wpre xs i (k + 1) = ((wpre xs i k * xs.getD k 0) % 1013 * (((xs.getD k 0 - xs.getD i 0) % 1013) ^ qE % 1013)) % 1013 := by rw [wpre, if_neg h]
theorem qE_nat : (1011 : Int).toNat = qE := rfl
/-- A slice holds no more than it has room for. -/
def CapOk (v : Value) : Prop := ∀ a n cap, v = .slice a n cap → n ≤ cap
set_option maxHeartbeats 8000000 in
theorem weights_ok (xs : List Int) (v : Value) (w : World) (h1 : 1 ≤ xs.length) (h2 : xs.length ≤ 12) (hs : ∀ i (h : i < xs.length), 1 ≤ xs[i] ∧ xs[i] < 1013) (hd : ∀ i j (hi : i < xs.length) (hj : j < xs.length), i < j → xs[i] ≠ xs[j]) (h : IntSl w v xs) (hv : CapOk v) :
    Calls Tryd.prog 26 #[v] w fun e w' => ∃ v', e = .returned (.tuple #[v', .nilIface]) ∧ IntSl w' v' (wgts xs) ∧ Below w.heap.size w w' := by
  obtain ⟨a, cap, rfl, h⟩ := h
  have hcap := hv _ _ _ rfl
  clear hv
  obtain ⟨b, off, rfl, hI⟩ := h (by omega)
  clear h
  have e1 : decide ((12 : Int) < (xs.length : Int)) = false := by rw [decide_eq_false_iff_not]; omega
  have e2 : ((xs.length : Int) == 0) = false := by rw [beq_eq_false_iff_ne]; omega
  replace hI := Lib.hid hI
  replace hs := Lib.hid hs
  replace hd := Lib.hid hd
  go_enter Tryd.func26, Tryd.ntmps26
  go_wp2
  go_loopw [24] (fun i wr => ∃ n : Nat, n ≤ xs.length ∧ i = .int .i64 n ∧ wr = w) (fun i _ => xs.length - (intOf i).toNat)
  case atStart => exact ⟨0, Nat.zero_le _, rfl, rfl⟩
  case round =>
    obtain ⟨n, hn, rfl, hwr⟩ := hrel
    subst hwr
    by_cases hlt : n < xs.length
    · have m1 := hI.out.c n hlt
      have ml := hI.out.lt
      obtain ⟨x1, x2⟩ := hs.out n hlt
      have hne := Lib.hid (fun i (hi : i < (xs.take n).length) => (by rw [List.getElem_take]; exact hd.out i n (by rw [List.length_take] at hi; omega) hlt (by rw [List.length_take] at hi; omega) : (xs.take n)[i] ≠ xs[n]))
      have hsl := Lib.hid (show ∀ c, IntSl wr (.slice (some ⟨b, off, none⟩) n c) (xs.take n) from fun c => ⟨_, c, by rw [List.length_take, Nat.min_eq_left (by omega)], fun _ => ⟨b, off, rfl, hI.out.lt, fun i hi => by rw [List.getElem_take]; exact hI.out.c i (by rw [List.length_take] at hi; omega)⟩⟩)
      have htl := Lib.hid (show (xs.take n).length ≤ 9223372036854775807 by rw [List.length_take]; omega)
      have hnc : n ≤ cap := by omega
      have hnc2 : (n : Int) ≤ (cap : Int) := by omega
      generalize xs[n] = x at *
      go_wp2_with fail
      refine (secret_y x _ x1 x2).mono ?_; rintro e w' ⟨rfl, rfl⟩
      go_wp2_with fail
      refine (contI_n (xs.take n) x _ _ htl.out (hsl.out cap) hne.out).mono ?_; rintro e w' ⟨rfl, rfl⟩
      go_wp2
      go_roundw
      case rel => exact ⟨n + 1, by omega, by go_num, by first | rfl | trivial⟩
      case measure => simp [intOf]; omega
    · obtain rfl : n = xs.length := by omega
      obtain ⟨wo, rfl⟩ : ∃ wo : World, wo = wr := ⟨_, rfl⟩
      go_wp2
      go_loopw [6, 44] (fun o i wq => ∃ (n : Nat) (u : Value), n ≤ xs.length ∧ i = .int .i64 n ∧ u = o ∧ wq.ownsRow wo.heap.size 3 1 u n (((wgts xs).take n).map (Value.int .i64)) ∧ Below wo.heap.size wo wq) (fun _ i _ => xs.length - (intOf i).toNat)
      case atStart => exact ⟨0, _, Nat.zero_le _, rfl, rfl, World.ownsRow_nil _ _ _ _, Below.refl _ _⟩
      case round =>
        obtain ⟨n, u, hn, rfl, rfl, hown, hb⟩ := hrel
        replace hown := Lib.hid hown
        replace hb := Lib.hid hb
        by_cases hlt2 : n < xs.length
        · have hIo := Lib.hid (hI.out.below hb.out)
          have m1 := hIo.out.c n hlt2
          have hgx := Lib.hid (show xs.getD n 0 = xs[n] by rw [List.getD_eq_getElem?_getD, List.getElem?_eq_getElem hlt2]; rfl)
          obtain ⟨x1, x2⟩ := hs.out n hlt2
          generalize xs[n] = x at *
          go_wp2
          go_loop [9, 51] (fun q k => ∃ m : Nat, m ≤ xs.length ∧ k = .int .i64 m ∧ q = .int .i64 (wpre xs n m)) (fun _ k => xs.length - (intOf k).toNat)
          case atStart => exact ⟨0, Nat.zero_le _, rfl, rfl⟩
          case round =>
            obtain ⟨m, hm, rfl, rfl⟩ := hrel
            by_cases hlt3 : m < xs.length
            · have m2 := hIo.out.c m hlt3
              have hgy := Lib.hid (show xs.getD m 0 = xs[m] by rw [List.getD_eq_getElem?_getD, List.getElem?_eq_getElem hlt3]; rfl)
              obtain ⟨y1, y2⟩ := hs.out m hlt3
              generalize xs[m] = y at *
              by_cases hmn : m = n
              · have hb2 : ((m : Int) != (n : Int)) = false := by rw [bne_eq_false_iff_eq, hmn]
                have hsame := Lib.hid (wpre_same (xs := xs) hmn)
                replace hmn := Lib.hid hmn
                go_wp2
                go_round
                case rel => exact ⟨m + 1, by omega, by go_num, by rw [hsame.out]⟩
                case measure => simp [intOf]; omega
              · have hb2 : ((m : Int) != (n : Int)) = true := by rw [bne_iff_ne]; omega
                have hstep := wpre_step (xs := xs) hmn
                rw [hgx.out, hgy.out] at hstep
                obtain ⟨q0, q1⟩ := wpre_bd xs n m
                generalize wpre xs n m = q at *
                obtain ⟨p1, p2⟩ := mul_bq q0 q1 (show 0 ≤ y by omega) y2
                have f1 : IntKind.i64.wrap (q * y) = q * y := IntWalk.i64_in _ (by omega)
                have f2 : (q * y).tmod 1013 = (q * y) % 1013 := Int.tmod_eq_emod_of_nonneg p1
                have f3 : IntKind.i64.wrap (y - x) = y - x := IntWalk.i64_in _ (by omega)
                obtain ⟨z, hz⟩ : ∃ z, (y - x) % 1013 = z := ⟨_, rfl⟩
                obtain ⟨r, hr⟩ : ∃ r, (q * y) % 1013 = r := ⟨_, rfl⟩
                obtain ⟨s, hs2⟩ : ∃ s, z ^ qE % 1013 = s := ⟨_, rfl⟩
                have z0 : 0 ≤ z ∧ z < 1013 := by omega
                have r0 : 0 ≤ r ∧ r < 1013 := by omega
                have s0 : 0 ≤ s ∧ s < 1013 := by rw [← hs2]; exact ⟨Int.emod_nonneg _ (by decide), Int.emod_lt_of_pos _ (by decide)⟩
                rw [hz, hr, hs2] at hstep
                rw [hr] at f2
                have hqr := qrest_c (y - x) wr (by omega) (by omega)
                rw [hz] at hqr
                have hqp := qpower_c z 1011 s wr z0.1 z0.2 (by decide) (by decide) (Lib.hid (by rw [qE_nat]; exact hs2))
                obtain ⟨p3, p4⟩ := mul_bq r0.1 r0.2 s0.1 s0.2
                have f4 : IntKind.i64.wrap (r * s) = r * s := IntWalk.i64_in _ (by omega)
                have f5 : (r * s).tmod 1013 = (r * s) % 1013 := Int.tmod_eq_emod_of_nonneg p3
                replace hstep := Lib.hid hstep
                replace hqr := Lib.hid hqr
                replace hqp := Lib.hid hqp
                clear hz hr hs2 hmn
                go_wp2_with fail
                refine hqr.out.mono ?_; rintro e w' ⟨rfl, rfl⟩
                go_wp2_with fail
                refine hqp.out.mono ?_; rintro e w' ⟨rfl, rfl⟩
                go_wp2
                go_round
                case rel => exact ⟨m + 1, by omega, by go_num, by rw [hstep.out]⟩
                case measure => simp [intOf]; omega
            · obtain rfl : m = xs.length := by omega
              have htl := Lib.hid (show ((wgts xs).take n).length = n by rw [List.length_take, wgts_len]; omega)
              have hsn := Lib.hid (show (wgts xs).take (n + 1) = (wgts xs).take n ++ [wpre xs n xs.length] by rw [take_snoc3 _ n (by rw [wgts_len]; exact hlt2), wgts_get])
              have zo := hb.out.size
              generalize wpre xs n xs.length = q at *
              generalize hT : (wgts xs).take n = T at *
              clear hT
              go_wp2_with (first | (at_builtin; refine wpl_append_int rfl _ _ _ rfl (by kernel_rfl) wo.heap.size _ T n rfl (hown.out.alloc _) htl.out (by omega) (by simp only [World.size_alloc]; omega) wr.heap.size q rfl (by go_simp) ?_; intro v' w3 hown' hgrow hbel hloc; replace hown' := Lib.hid hown'; replace hbel := Lib.hid (hbel wo (balloc hb.out _)); clear hgrow hloc) | fail)
              go_wp2
              go_roundw
              case rel => exact ⟨n + 1, _, by omega, by go_num, rfl, by rw [hsn.out]; exact hown'.out, hbel.out⟩
              case measure => simp [intOf]; omega
        · obtain rfl : n = xs.length := by omega
          have hI2 := Lib.hid (own_ints (by have := hown.out; rw [List.take_of_length_le (by rw [wgts_len]; exact Nat.le_refl _)] at this; exact this) (wgts_len xs).symm)
          go_wp2
          go_ret2
          exact ⟨_, rfl, hI2.out, hb.out⟩
end Go.Proofs.YtnlaofapjldciaaDoor
