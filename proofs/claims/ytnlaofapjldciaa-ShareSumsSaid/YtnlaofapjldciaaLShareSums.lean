/- The law ShareSums, walked. -/
import Derived.Test.YtnlaofapjldciaaSz
import Derived.Test.YtnlaofapjldciaaSpn
import Derived.Test.YtnlaofapjldciaaRa
import Derived.Test.YtnlaofapjldciaaGt
import Derived.Test.YtnlaofapjldciaaStp
namespace Go.Proofs.Ytnlaofapjldciaa
open Go.RowKit
set_option maxRecDepth 100000
set_option linter.unusedVariables false
set_option linter.unusedSimpArgs false
/-- Two polynomials added. -/
def addP : List Int → List Int → List Int
  | a :: a2, b :: b2 => ((a + b) % 1013) :: addP a2 b2
  | [], b2 => b2
  | a2, [] => a2
theorem addP_len : ∀ (a b : List Int) (n : Nat), a.length ≤ n → b.length ≤ n → (addP a b).length ≤ n
  | a :: a2, b :: b2, 0, h, _ => absurd h (by simp)
  | a :: a2, b :: b2, n + 1, h1, h2 => by
    have := addP_len a2 b2 n (by simpa using h1) (by simpa using h2)
    simp only [addP, List.length_cons]; omega
  | [], [], n, _, h => by simp [addP]
  | [], b :: b2, n, _, h => by simpa [addP] using h
  | a :: a2, [], n, h, _ => by simpa [addP] using h
theorem val_mod (x : Int) (l : List Int) : val x l % 1013 = val x l := by have := val_bd x l; omega
theorem addP_val (x : Int) : ∀ (a b : List Int), val x (addP a b) % 1013 = (val x a + val x b) % 1013
  | a :: a2, b :: b2 => by
    have ih := addP_val x a2 b2
    show ((val x (addP a2 b2) * x + (a + b) % 1013) % 1013) % 1013 = ((val x a2 * x + a) % 1013 + (val x b2 * x + b) % 1013) % 1013
    have e : (val x (addP a2 b2) * x) % 1013 = (val x a2 * x + val x b2 * x) % 1013 := by
      rw [← Int.add_mul, Int.mul_emod, ih, ← Int.mul_emod]
    omega
  | [], b2 => by cases b2 <;> simp [addP, val]
  | a :: a2, [] => by simp [addP, val]
/-- The shares of both, added place by place. -/
def sumL (a b : List Int) (n : Nat) : List (Int × Int) := (List.range n).map fun k => (((k + 1 : Nat) : Int), (val ((k + 1 : Nat) : Int) a + val ((k + 1 : Nat) : Int) b) % 1013)
theorem sumL_len (a b : List Int) (n : Nat) : (sumL a b n).length = n := by simp [sumL]
theorem sumL_get (a b : List Int) (n i : Nat) (h : i < (sumL a b n).length) : (sumL a b n)[i] = (((i + 1 : Nat) : Int), (val ((i + 1 : Nat) : Int) a + val ((i + 1 : Nat) : Int) b) % 1013) := by simp [sumL]
theorem sumL_tells (a b : List Int) (n : Nat) (a1 : 1 ≤ a.length) (b1 : 1 ≤ b.length) (ha : a.all okR = true) (hb : b.all okR = true) (han : a.length ≤ n) (hbn : b.length ≤ n) (n2 : n ≤ 12) : comb (sumL a b n) = (a[0] + b[0]) % 1013 := by
  refine comb_tells (addP a b) _ (by rw [sumL_len]; omega) (fun i h => ?_) (fun i j hi hj hij => ?_) (fun i h => ?_) (by rw [sumL_len]; exact addP_len a b n han hbn) _ (Int.emod_nonneg _ (by decide)) (Int.emod_lt_of_pos _ (by decide)) ?_
  · rw [sumL_get]; rw [sumL_len] at h; simp only; omega
  · rw [sumL_get, sumL_get]; simp only; omega
  · rw [sumL_get]; simp only; rw [addP_val]; omega
  · match a, b, a1, b1 with
    | x :: a2, y :: b2, _, _ => rfl
theorem one_wgt (w : World) : Calls Try.prog 5 #[.slice (some ⟨w.heap.size, 0, none⟩) 1 1] (w.alloc (.cells #[.int .i64 7] 3)) fun e w' => ∃ b off cap, e = .returned (.tuple #[.slice (some ⟨b, off, none⟩) 1 cap, .nilIface]) ∧ w'.cell? ⟨b, off, none⟩ = some (.int .i64 1) ∧ b < w'.heap.size ∧ Below (w.alloc (.cells #[.int .i64 7] 3)).heap.size (w.alloc (.cells #[.int .i64 7] 3)) w' := by
  have i1 := IntSl.made w [7] w.heap.size 1 1 #[.int .i64 7] 3 rfl rfl rfl
  refine (weights_ok [7] _ _ (by simp) (by simp) (fun i h => ?_) (fun i j hi hj hij => ?_) i1 (fun a n cap e => by cases e; exact Nat.le_refl _)).mono ?_
  · have : i = 0 := by simpa using h
    subst this; exact ⟨show (1 : Int) ≤ 7 by decide, show (7 : Int) < 1013 by decide⟩
  · simp at hi hj; omega
  · rintro e w' ⟨v', rfl, ⟨a, cap, rfl, hs⟩, hb⟩
    obtain ⟨b, off, rfl, hs'⟩ := hs (by rw [wgts_len]; simp)
    have := hs'.c 0 (by rw [wgts_len]; simp)
    exact ⟨b, off, cap, rfl, this, hs'.lt, hb⟩
/-- What comes of a secret that is split. -/
theorem split_any (a : List Int) (v : Value) (n : Int) (hl : a.length ≤ 9223372036854775807) : ∃ E : Int, (E ≠ 0 ∧ ∀ w : World, IntSl w v a → Calls Try.prog 6 #[v, .int .i64 n] w fun e w' => e = .returned (.tuple #[.slice none 0 0, .iface 38 (.int .i64 E)]) ∧ Below w.heap.size w w') ∨
    (E = 0 ∧ ∃ m : Nat, n = m ∧ 1 ≤ m ∧ m ≤ 12 ∧ 1 ≤ a.length ∧ a.length ≤ 12 ∧ a.all okR = true ∧ ∀ w : World, IntSl w v a → Calls Try.prog 6 #[v, .int .i64 n] w fun e w' => ∃ v', e = .returned (.tuple #[v', .nilIface]) ∧ ShSl w' v' (splitL a m) ∧ Below w.heap.size w w') := by
  by_cases hE : splitF a n = 0
  · obtain ⟨l1, l2, hok, n1, n2⟩ := splitF_0 hE
    obtain ⟨m, rfl⟩ : ∃ m : Nat, n = (m : Int) := ⟨n.toNat, by omega⟩
    exact ⟨0, .inr ⟨rfl, m, rfl, by omega, by omega, l1, l2, hok, fun w h => split_ok a v m w l1 l2 hok (by omega) (by omega) h⟩⟩
  · exact ⟨_, .inl ⟨hE, fun w h => split_n a v n _ w hl h rfl hE⟩⟩
set_option maxHeartbeats 8000000 in
theorem ss_all (a b : List Int) (v1 v2 : Value) (n : Int) (w : World) (n0 : -9223372036854775808 ≤ n) (nm : n ≤ 9223372036854775807) (h1 : IntSl w v1 a) (h2 : IntSl w v2 b) (m1 : a.length ≤ 9223372036854775807) (m2 : b.length ≤ 9223372036854775807) :
    Calls Try.prog 3 #[v1, v2, .int .i64 n] w fun e w' => e = .returned (.bool true) ∧ Below w.heap.size w w' := by
  obtain ⟨E1, hA⟩ := split_any a v1 n m1
  obtain ⟨E2, hB⟩ := split_any b v2 n m2
  obtain ⟨a1, c1, rfl, i1⟩ := id h1
  obtain ⟨ad2, c2, rfl, i2⟩ := id h2
  replace h1 := Lib.hid h1
  replace h2 := Lib.hid h2
  clear i1 i2
  replace hA := Lib.hid hA
  replace hB := Lib.hid hB
  go_enter Try.func3, Try.ntmps3
  go_wp2_with fail
  refine (one_wgt w).mono ?_; rintro e w1 ⟨wb, wo, wc, rfl, wcell, wl, hb⟩
  obtain ⟨hc1, hf1⟩ := bcell hb
  have z1 := hb.size
  try simp only [World.size_alloc, World.size_setCell, World.size_drew] at z1
  have s1_0 : w.heap.size < w1.heap.size := by omega
  have hB1 : Below w.heap.size w w1 := below_seq (by repeat (first | exact Below.refl _ _ | refine balloc ?_ _ | refine Below.drew ?_ | refine below_drewN ?_ _ | refine below_set ?_ (by first | omega | (dsimp only; omega)) _)) hb
  clear hb
  rcases hA.out with ⟨e0, hS⟩ | ⟨e0, m, rfl, p1, p2, l1, l2, hok1, hS⟩
  · replace hS := Lib.hid hS
    rcases hB.out with ⟨f0, hT⟩ | ⟨f0, m, rfl, p1, p2, l1, l2, hok1, hT⟩
    · replace hT := Lib.hid hT
      go_wp2_with fail
      refine (hS.out _ (h1.out.below (by repeat (first | exact hB1 | exact Below.refl _ _ | refine balloc ?_ _ | refine Below.drew ?_ | refine below_drewN ?_ _ | refine below_set ?_ (by first | omega | (dsimp only; omega)) _)))).mono ?_; rintro e w2 ⟨rfl, hb⟩
      obtain ⟨hc2, hf2⟩ := bcell hb
      have z2 := hb.size
      try simp only [World.size_alloc, World.size_setCell, World.size_drew] at z2
      have s2_0 : w.heap.size < w2.heap.size := by omega
      have hB2 : Below w.heap.size w w2 := below_seq (by repeat (first | exact hB1 | exact Below.refl _ _ | refine balloc ?_ _ | refine Below.drew ?_ | refine below_drewN ?_ _ | refine below_set ?_ (by first | omega | (dsimp only; omega)) _)) hb
      clear hb
      go_wp2_with fail
      refine (hT.out _ (h2.out.below (by repeat (first | exact hB2 | exact Below.refl _ _ | refine balloc ?_ _ | refine Below.drew ?_ | refine below_drewN ?_ _ | refine below_set ?_ (by first | omega | (dsimp only; omega)) _)))).mono ?_; rintro e w3 ⟨rfl, hb⟩
      obtain ⟨hc3, hf3⟩ := bcell hb
      have z3 := hb.size
      try simp only [World.size_alloc, World.size_setCell, World.size_drew] at z3
      have s3_0 : w.heap.size < w3.heap.size := by omega
      have hB3 : Below w.heap.size w w3 := below_seq (by repeat (first | exact hB2 | exact Below.refl _ _ | refine balloc ?_ _ | refine Below.drew ?_ | refine below_drewN ?_ _ | refine below_set ?_ (by first | omega | (dsimp only; omega)) _)) hb
      clear hb
      go_wp2
      go_ret
      exact ⟨rfl, (by repeat (first | exact hB3 | exact Below.refl _ _ | refine balloc ?_ _ | refine Below.drew ?_ | refine below_drewN ?_ _ | refine below_set ?_ (by first | omega | (dsimp only; omega)) _))⟩
    · replace hT := Lib.hid hT
      go_wp2_with fail
      refine (hS.out _ (h1.out.below (by repeat (first | exact hB1 | exact Below.refl _ _ | refine balloc ?_ _ | refine Below.drew ?_ | refine below_drewN ?_ _ | refine below_set ?_ (by first | omega | (dsimp only; omega)) _)))).mono ?_; rintro e w2 ⟨rfl, hb⟩
      obtain ⟨hc2, hf2⟩ := bcell hb
      have z2 := hb.size
      try simp only [World.size_alloc, World.size_setCell, World.size_drew] at z2
      have s2_0 : w.heap.size < w2.heap.size := by omega
      have hB2 : Below w.heap.size w w2 := below_seq (by repeat (first | exact hB1 | exact Below.refl _ _ | refine balloc ?_ _ | refine Below.drew ?_ | refine below_drewN ?_ _ | refine below_set ?_ (by first | omega | (dsimp only; omega)) _)) hb
      clear hb
      go_wp2_with fail
      refine (hT.out _ (h2.out.below (by repeat (first | exact hB2 | exact Below.refl _ _ | refine balloc ?_ _ | refine Below.drew ?_ | refine below_drewN ?_ _ | refine below_set ?_ (by first | omega | (dsimp only; omega)) _)))).mono ?_; rintro e w3 ⟨v', rfl, hsl, hb⟩
      obtain ⟨hc3, hf3⟩ := bcell hb
      have z3 := hb.size
      try simp only [World.size_alloc, World.size_setCell, World.size_drew] at z3
      have s3_0 : w.heap.size < w3.heap.size := by omega
      have hB3 : Below w.heap.size w w3 := below_seq (by repeat (first | exact hB2 | exact Below.refl _ _ | refine balloc ?_ _ | refine Below.drew ?_ | refine below_drewN ?_ _ | refine below_set ?_ (by first | omega | (dsimp only; omega)) _)) hb
      clear hb
      clear hsl
      go_wp2
      go_ret
      exact ⟨rfl, (by repeat (first | exact hB3 | exact Below.refl _ _ | refine balloc ?_ _ | refine Below.drew ?_ | refine below_drewN ?_ _ | refine below_set ?_ (by first | omega | (dsimp only; omega)) _))⟩
  · replace hS := Lib.hid hS
    rcases hB.out with ⟨f0, hT⟩ | ⟨f0, m', hmm, -, -, k1, k2, hok2, hT⟩
    · replace hT := Lib.hid hT
      go_wp2_with fail
      refine (hS.out _ (h1.out.below (by repeat (first | exact hB1 | exact Below.refl _ _ | refine balloc ?_ _ | refine Below.drew ?_ | refine below_drewN ?_ _ | refine below_set ?_ (by first | omega | (dsimp only; omega)) _)))).mono ?_; rintro e w2 ⟨v', rfl, hsl, hb⟩
      obtain ⟨hc2, hf2⟩ := bcell hb
      have z2 := hb.size
      try simp only [World.size_alloc, World.size_setCell, World.size_drew] at z2
      have s2_0 : w.heap.size < w2.heap.size := by omega
      have hB2 : Below w.heap.size w w2 := below_seq (by repeat (first | exact hB1 | exact Below.refl _ _ | refine balloc ?_ _ | refine Below.drew ?_ | refine below_drewN ?_ _ | refine below_set ?_ (by first | omega | (dsimp only; omega)) _)) hb
      clear hb
      clear hsl
      go_wp2_with fail
      refine (hT.out _ (h2.out.below (by repeat (first | exact hB2 | exact Below.refl _ _ | refine balloc ?_ _ | refine Below.drew ?_ | refine below_drewN ?_ _ | refine below_set ?_ (by first | omega | (dsimp only; omega)) _)))).mono ?_; rintro e w3 ⟨rfl, hb⟩
      obtain ⟨hc3, hf3⟩ := bcell hb
      have z3 := hb.size
      try simp only [World.size_alloc, World.size_setCell, World.size_drew] at z3
      have s3_0 : w.heap.size < w3.heap.size := by omega
      have hB3 : Below w.heap.size w w3 := below_seq (by repeat (first | exact hB2 | exact Below.refl _ _ | refine balloc ?_ _ | refine Below.drew ?_ | refine below_drewN ?_ _ | refine below_set ?_ (by first | omega | (dsimp only; omega)) _)) hb
      clear hb
      go_wp2
      go_ret
      exact ⟨rfl, (by repeat (first | exact hB3 | exact Below.refl _ _ | refine balloc ?_ _ | refine Below.drew ?_ | refine below_drewN ?_ _ | refine below_set ?_ (by first | omega | (dsimp only; omega)) _))⟩
    · obtain rfl : m = m' := by omega
      clear hmm
      replace hT := Lib.hid hT
      go_wp2_with fail
      refine (hS.out _ (h1.out.below (by repeat (first | exact hB1 | exact Below.refl _ _ | refine balloc ?_ _ | refine Below.drew ?_ | refine below_drewN ?_ _ | refine below_set ?_ (by first | omega | (dsimp only; omega)) _)))).mono ?_; rintro e w2 ⟨vx, rfl, hx, hb⟩
      obtain ⟨hc2, hf2⟩ := bcell hb
      have z2 := hb.size
      try simp only [World.size_alloc, World.size_setCell, World.size_drew] at z2
      have s2_0 : w.heap.size < w2.heap.size := by omega
      have hB2 : Below w.heap.size w w2 := below_seq (by repeat (first | exact hB1 | exact Below.refl _ _ | refine balloc ?_ _ | refine Below.drew ?_ | refine below_drewN ?_ _ | refine below_set ?_ (by first | omega | (dsimp only; omega)) _)) hb
      clear hb
      have q1 : (m : Int) < (a.length : Int) ∨ ((a.length : Int) ≤ (m : Int) ∧ ((m : Int) < (b.length : Int) ∨ (b.length : Int) ≤ (m : Int))) := by omega
      replace hx := Lib.hid hx
      go_wp2_with fail
      refine (hT.out _ (h2.out.below (by repeat (first | exact hB2 | exact Below.refl _ _ | refine balloc ?_ _ | refine Below.drew ?_ | refine below_drewN ?_ _ | refine below_set ?_ (by first | omega | (dsimp only; omega)) _)))).mono ?_; rintro e w3 ⟨vy, rfl, hy, hb⟩
      have hx3 := Lib.hid (hx.out.below hb)
      have hB3 := Lib.hid (below_seq (by repeat (first | exact hB2 | exact Below.refl _ _ | refine balloc ?_ _ | refine Below.drew ?_ | refine below_drewN ?_ _ | refine below_set ?_ (by first | omega | (dsimp only; omega)) _)) hb)
      replace hy := Lib.hid hy
      have j1 := Lib.hid (fun w' (hb' : Below w3.heap.size w3 w') => (h1.out.below hB3.out).below hb')
      have j2 := Lib.hid (fun w' (hb' : Below w3.heap.size w3 w') => (h2.out.below hB3.out).below hb')
      clear hx hb hc2 hf2 hB2 hc1 hf1 wcell wl hS hT h1 h2 hA hB
      obtain ⟨ax, kx, rfl, hx4⟩ := hx3.out
      obtain ⟨ay, ky, rfl, hy4⟩ := hy.out
      rw [splitL_len] at hx4 hy4 ⊢
      rw [splitL_len]
      replace hx4 := Lib.hid hx4
      replace hy4 := Lib.hid hy4
      clear hx3 hy
      rcases q1 with q1 | ⟨q1, q2 | q2⟩
      · go_wp2
        go_ret
        exact ⟨rfl, hB3.out⟩
      · go_wp2
        go_ret
        exact ⟨rfl, hB3.out⟩
      have g1 : decide (m < a.length) = false := by rw [decide_eq_false_iff_not]; omega
      have g2 : decide (m < b.length) = false := by rw [decide_eq_false_iff_not]; omega
      obtain ⟨bx, ox, rfl, hx5⟩ := hx4.out (by omega)
      obtain ⟨bz, oz, rfl, hy5⟩ := hy4.out (by omega)
      replace hx5 := Lib.hid hx5
      replace hy5 := Lib.hid hy5
      clear hx4 hy4
      have hg := Lib.hid (fun n (h : n < (sumL a b m).length) => sumL_get a b m n h)
      have hsl := sumL_len a b m
      have htell := Lib.hid (sumL_tells a b m l1 k1 hok1 hok2 (by omega) (by omega) (by omega))
      have hcomb := Lib.hid (fun v w h => combine_ok (sumL a b m) v w (by omega) (by omega) (fun i hi => by rw [sumL_get]; rw [sumL_len] at hi; simp only; omega) (fun i j hi hj hij => by rw [sumL_get, sumL_get]; simp only; omega) h)
      have hva := Lib.hid (fun n => val_bd n a)
      have hvb := Lib.hid (fun n => val_bd n b)
      have hga := Lib.hid (splitL_get a m)
      have hgb := Lib.hid (splitL_get b m)
      have hal := splitL_len a m
      have hbl := splitL_len b m
      have a0 := okR_y (all_okR hok1 0 l1)
      have b0 := okR_y (all_okR hok2 0 k1)
      have hFin : Hid (comb (sumL a b m) = (a[0] + b[0]) % 1013) := htell
      generalize sumL a b m = zs at *
      generalize splitL a m = xs at *
      generalize splitL b m = ys at *
      replace hok1 := Lib.hid hok1
      replace hok2 := Lib.hid hok2
      clear htell
      go_wp2
      go_loopw [13, 14] (fun o i wr => ∃ (n : Nat) (u : Value), n ≤ m ∧ i = .int .i64 n ∧ u = o ∧ wr.ownsRow w3.heap.size 31 2 u n (shCells (zs.take n)) ∧ Below w3.heap.size w3 wr) (fun _ i _ => m - (intOf i).toNat)
      case atStart => exact ⟨0, _, Nat.zero_le _, rfl, rfl, World.ownsRow_nil _ _ _ _, Below.refl _ _⟩
      case round =>
        obtain ⟨n, u, hn, rfl, rfl, hown, hb⟩ := hrel
        replace hown := Lib.hid hown
        replace hb := Lib.hid hb
        by_cases hlt : n < m
        · have hxr := hx5.out
          have hyr := hy5.out
          have m1 := hxr.cx n (by omega)
          have m2 := hxr.cy n (by omega)
          have m3 := hyr.cy n (by omega)
          have ml := hxr.lt
          have ml2 := hyr.lt
          rw [hga.out n (by omega)] at m1 m2
          rw [hgb.out n (by omega)] at m3
          simp only at m1 m2 m3
          have htl := Lib.hid (show (zs.take n).length = n by rw [List.length_take]; omega)
          have hsn := Lib.hid (show zs.take (n + 1) = zs.take n ++ [(((n + 1 : Nat) : Int), (val ((n + 1 : Nat) : Int) a + val ((n + 1 : Nat) : Int) b) % 1013)] by rw [take_snoc3 zs n (by omega), hg.out n (by omega)])
          obtain ⟨v0, v1⟩ := hva.out ((n + 1 : Nat) : Int)
          obtain ⟨t0, t1⟩ := hvb.out ((n + 1 : Nat) : Int)
          generalize val ((n + 1 : Nat) : Int) a = A at *
          generalize val ((n + 1 : Nat) : Int) b = B at *
          generalize ((n + 1 : Nat) : Int) = N at *
          generalize hT : zs.take n = T at *
          have f1 : IntKind.i64.wrap (A + B) = A + B := IntWalk.i64_in _ (by omega)
          obtain ⟨V, hV⟩ : ∃ V, (A + B) % 1013 = V := ⟨_, rfl⟩
          rw [hV] at hsn
          replace hV := Lib.hid hV
          have hlw := hb.out.size
          have hK := Lib.hid (fun w' (hb' : Below w3.heap.size w3 w') => (⟨((bcell hb').1 _ _ ml).trans m1, ((bcell hb').1 _ _ ml).trans m2, ((bcell hb').1 _ _ ml2).trans m3, Nat.lt_of_lt_of_le ml hb'.size, Nat.lt_of_lt_of_le ml2 hb'.size, hb'⟩ : w'.cell? ⟨bx, ox + n * 2, none⟩ = some (.int .i64 N) ∧ w'.cell? ⟨bx, ox + n * 2 + 1, none⟩ = some (.int .i64 A) ∧ w'.cell? ⟨bz, oz + n * 2 + 1, none⟩ = some (.int .i64 B) ∧ bx < w'.heap.size ∧ bz < w'.heap.size ∧ Below w3.heap.size w3 w'))
          clear hxr hyr hT hg m1 m2 m3 ml ml2
          obtain ⟨m1, m2, m3, ml, ml2, -⟩ := hK.out wr hb.out
          go_wp2_with fail
          go_region_held3 (fun w' => w'.cell? ⟨bx, ox + n * 2, none⟩ = some (.int .i64 N) ∧ w'.cell? ⟨bx, ox + n * 2 + 1, none⟩ = some (.int .i64 A) ∧ w'.cell? ⟨bz, oz + n * 2 + 1, none⟩ = some (.int .i64 B) ∧ bx < w'.heap.size ∧ bz < w'.heap.size ∧ Below w3.heap.size w3 w') (first | (refine hK.out _ ?_; repeat (with_reducible first | exact hb.out | exact hbel.out | refine balloc ?_ _ | refine Below.drew ?_))) (first | (go_at_call 7; refine (refMod_e (A + B) 1013 V _ (by omega) (by omega) (by omega) (by omega) hV).mono ?_; rintro e wa ⟨rfl, rfl⟩) | (refine step_append_share (by rfl) _ _ _ (by rfl) (by kernel_rfl) w3.heap.size _ T n (by rfl) (by repeat (first | exact hown.out | refine World.ownsRow.alloc ?_ _ | refine World.ownsRow.drew ?_)) htl.out (by omega) (by simp only [World.size_alloc, World.size_drew]; omega) _ (N, V) (by rfl) (by go_simp) (by go_simp) ?_; intro v' w4 hown' hgrow hbel; replace hown' := Lib.hid hown'; replace hbel := Lib.hid (hbel w3 (by repeat (with_reducible first | exact hb.out | refine balloc ?_ _ | refine Below.drew ?_))); intro hloc; clear hgrow hloc) | fail)
          go_wp2
          go_roundw
          case rel => exact ⟨n + 1, _, by omega, by go_num, rfl, by rw [hsn.out]; exact hown'.out, hbel.out⟩
          case measure => simp [intOf]; omega
        · obtain rfl : n = m := by omega
          have hSh := Lib.hid (own_shares (by have := hown.out; rw [List.take_of_length_le (by omega)] at this; exact this) hsl.symm)
          have hBr := Lib.hid (below_seq hB3.out hb.out)
          go_wp2_with fail
          refine (hcomb.out u wr hSh.out).mono ?_; rintro e w4 ⟨rfl, hb4⟩
          rw [hFin.out]
          have hB4 := Lib.hid (below_seq hb.out hb4)
          have hB5 := Lib.hid (below_seq hB3.out hB4.out)
          have hp1 := j1.out w4 hB4.out
          have hp2 := j2.out w4 hB4.out
          obtain ⟨ad, cd, hv1, hp1⟩ := hp1
          obtain ⟨ae, ce, hv2, hp2⟩ := hp2
          obtain ⟨b1, o1, e1, hk1⟩ := hp1 (by omega)
          obtain ⟨b2, o2, e2, hk2⟩ := hp2 (by omega)
          clear hp1 hp2
          subst e1 e2
          cases hv1
          cases hv2
          have r1 := hk1.c 0 (by omega)
          have r2 := hk2.c 0 (by omega)
          have r3 := hk1.lt
          have r4 := hk2.lt
          rw [Nat.add_zero] at r1 r2
          clear hb4 hk1 hk2 hown hb hSh j1 j2 hcomb
          generalize a[0] = A at *
          generalize b[0] = B at *
          have f1 : IntKind.i64.wrap (A + B) = A + B := IntWalk.i64_in _ (by omega)
          have f2 : (A + B).tmod 1013 = (A + B) % 1013 := Int.tmod_eq_emod_of_nonneg (by omega)
          go_wp2_with fail
          go_quiet (fail)
          go_wp2
          go_ret
          exact ⟨rfl, below_drewN hB5.out _⟩
theorem shareSums_law (v1 v2 : Value) (n : Int) (hn : (Lit.int .i64 n).wf = true) (w : World) (o1 : IntsV w v1) (o2 : IntsV w v2) :
    Calls Try.prog 3 #[v1, v2, .int .i64 n] w fun e w' => e = .returned (.bool true) ∧ Below w.heap.size w w' := by
  obtain ⟨a, h1, m1, -⟩ := o1.sl
  obtain ⟨b, h2, m2, -⟩ := o2.sl
  have hb := hn
  simp [Lit.wf] at hb
  exact ss_all a b v1 v2 n w hb.1 hb.2 h1 h2 m1 m2
end Go.Proofs.Ytnlaofapjldciaa
