/- Texts of this claim, in one. -/
import Derived.Test.YtahopffpajkfdaaDoorCf
import Derived.WalkSpells
import Derived.Test.YtahopffpajkfdaaDoorFs
import Derived.Test.YtahopffpajkfdaaDoorSpl
import Derived.Deep.QuietTactic
import Derived.BigQuiet
import Derived.Test.YtahopffpajkfdaaDoorSe
import Derived.Test.YtahopffpajkfdaaDoorOw
import Derived.Test.YtahopffpajkfdaaDoorSf
import Derived.Deep.DeepCutAuto
import Derived.Test.YtahopffpajkfdaaDoorWb
import Derived.Test.YtahopffpajkfdaaDoorTw
import Derived.Test.YtahopffpajkfdaaDoorPairD
import Derived.Deep.RegionWith
import Derived.Test.YtahopffpajkfdaaDoorUn
import Derived.Test.YtahopffpajkfdaaDoorRc
import Derived.Test.YtahopffpajkfdaaDoorRd
import Derived.Laws.Entries
import Derived.Test.YtahopffpajkfdaaDoorWr
import Derived.Test.YtahopffpajkfdaaDoorKe
import Derived.Test.YtahopffpajkfdaaDoorTn
namespace Go.Proofs.YtahopffpajkfdaaDoor
open Go.RowKit
set_option maxRecDepth 100000
set_option linter.unusedVariables false
set_option linter.unusedSimpArgs false
theorem mul_bq {a b : Int} (h0 : 0 ≤ a) (h1 : a < 1013) (k0 : 0 ≤ b) (k1 : b < 1013) : 0 ≤ a * b ∧ a * b ≤ 1024144 :=
  ⟨Int.mul_nonneg h0 k0, Int.le_trans (Int.mul_le_mul (show a ≤ 1012 by omega) (show b ≤ 1012 by omega) k0 (by decide)) (by decide)⟩
/-- What holds at the head of the loop that squares and multiplies modulo Q. -/
def QowAt (s a n o : Int) : Prop := 0 ≤ n ∧ n ≤ 9223372036854775807 ∧ (o * a ^ n.toNat) % 1013 = s ∧ 0 ≤ o ∧ o < 1013 ∧ 0 ≤ a ∧ a < 1013
theorem qowAt_odd {s a n o : Int} (h : QowAt s a n o) (hb : (bits BinOp.and IntKind.i64 n 1 == 1) = true) : QowAt s ((a * a) % 1013) (n / 2) ((o * a) % 1013) := by
  obtain ⟨h1, h2, h3, -⟩ := h
  rw [and_one64 n h1 h2] at hb
  have hb' : n % 2 = 1 := by simpa using hb
  refine ⟨by omega, by omega, ?_, by omega, by omega, by omega, by omega⟩
  rw [pow_half a n h1, hb'] at h3
  rw [← h3]
  have e : o * ((a * a) ^ (n / 2).toNat * a ^ (1 : Int).toNat) = (o * a) * (a * a) ^ (n / 2).toNat := by
    rw [show (1 : Int).toNat = 1 from rfl, Int.pow_one]; simp only [Int.mul_comm, Int.mul_left_comm, Int.mul_assoc]
  rw [e]
  exact emod_mul_congr (by omega) (pow_congr (by omega) _)
theorem qowAt_even {s a n o : Int} (h : QowAt s a n o) (hb : (bits BinOp.and IntKind.i64 n 1 == 1) = false) : QowAt s ((a * a) % 1013) (n / 2) o := by
  obtain ⟨h1, h2, h3, h4, h5, -⟩ := h
  rw [and_one64 n h1 h2] at hb
  have hb' : n % 2 = 0 := by have : n % 2 ≠ 1 := by simpa using hb
                             omega
  refine ⟨by omega, by omega, ?_, h4, h5, by omega, by omega⟩
  rw [pow_half a n h1, hb'] at h3
  rw [← h3]
  have e : o * ((a * a) ^ (n / 2).toNat * a ^ (0 : Int).toNat) = o * (a * a) ^ (n / 2).toNat := by
    rw [show (0 : Int).toNat = 0 from rfl]; simp
  rw [e]
  exact emod_mul_congr rfl (pow_congr (by omega) _)
theorem qowAt_end {s a n o : Int} (h : QowAt s a n o) (hn : n ≤ 0) : o = s := by
  obtain ⟨h1, h2, h3, h4, h5, -⟩ := h
  have : n = 0 := by omega
  subst this
  have e : o * a ^ (0 : Int).toNat = o := by rw [show (0 : Int).toNat = 0 from rfl]; simp
  rw [e] at h3; omega
set_option maxHeartbeats 1000000 in
theorem qpower_c (a n s : Int) (w : World) (a0 : 0 ≤ a) (a1 : a < 1013) (hn : 0 ≤ n) (hm : n ≤ 9223372036854775807) (hs : Hid (a ^ n.toNat % 1013 = s)) : Calls Tryd.prog 84 #[.int .i64 a, .int .i64 n] w fun e w' => e = .returned (.int .i64 s) ∧ w = w' := by
  go_enter Tryd.func84, Tryd.ntmps84
  go_wp2
  go_loop [0, 1, 5] (fun x m o => ∃ a' n' o' : Int, x = .int .i64 a' ∧ m = .int .i64 n' ∧ o = .int .i64 o' ∧ QowAt s a' n' o') (fun _ m _ => (intOf m).toNat)
  case atStart => exact ⟨a, n, 1, rfl, rfl, rfl, hn, hm, by rw [Int.one_mul]; exact hs.out, by decide, by decide, a0, a1⟩
  case round =>
    obtain ⟨a', n', o', rfl, rfl, rfl, h⟩ := hrel
    obtain ⟨h1, h2, -, o0, o1, b0, b1⟩ := id h
    replace h := Lib.hid h
    obtain ⟨m1, m2⟩ := mul_bq o0 o1 b0 b1
    obtain ⟨m3, m4⟩ := mul_bq b0 b1 b0 b1
    have e1 : IntKind.i64.wrap (o' * a') = o' * a' := IntWalk.i64_in _ (by omega)
    have e2 : (o' * a').tmod 1013 = (o' * a') % 1013 := Int.tmod_eq_emod_of_nonneg m1
    have e3 : IntKind.i64.wrap (a' * a') = a' * a' := IntWalk.i64_in _ (by omega)
    have e4 : (a' * a').tmod 1013 = (a' * a') % 1013 := Int.tmod_eq_emod_of_nonneg m3
    go_wp2
    · go_round
      case rel => exact ⟨_, _, _, rfl, rfl, rfl, qowAt_odd h.out (by assumption)⟩
      case measure => simp [intOf]; omega
    · go_round
      case rel => exact ⟨_, _, _, rfl, rfl, rfl, qowAt_even h.out (by assumption)⟩
      case measure => simp [intOf]; omega
    · go_ret
      exact ⟨ret_int (qowAt_end h.out (by assumption)), rfl⟩
theorem tmod_s (n : Int) : -1012 ≤ n.tmod 1013 ∧ n.tmod 1013 ≤ 1012 := by
  have h1 := Int.tmod_lt_of_pos n (b := 1013) (by decide)
  have h2 := Int.lt_tmod_of_pos n (b := 1013) (by decide)
  omega
theorem tmod_se (n : Int) : n.tmod 1013 % 1013 = n % 1013 := by
  have := Int.mul_tdiv_add_tmod n 1013; omega
set_option maxHeartbeats 1000000 in
theorem refMod_q (n : Int) (w : World) (n0 : -9223372036854775808 ≤ n) (n1 : n ≤ 9223372036854775807) : Calls Tryd.prog 58 #[.int .i64 n, .int .i64 1013] w fun e w' => e = .returned (.int .i64 (n % 1013)) ∧ w = w' := by
  have hb := tmod_s n
  obtain ⟨hb1, hb2⟩ := hb
  have he := Lib.hid (tmod_se n)
  by_cases h : n.tmod 1013 < 0
  · go_enter Tryd.func58, Tryd.ntmps58
    go_wp2
    go_ret
    exact ⟨ret_int (by have := he.out; omega), rfl⟩
  · go_enter Tryd.func58, Tryd.ntmps58
    go_wp2
    go_ret
    exact ⟨ret_int (by have := he.out; omega), rfl⟩
theorem qrest_c (n : Int) (w : World) (h0 : -9223372036854775808 ≤ n) (h1 : n ≤ 9223372036854775807) : Calls Tryd.prog 85 #[.int .i64 n] w fun e w' => e = .returned (.int .i64 (n % 1013)) ∧ w = w' := by
  have k := tmod_s n
  have e : (n.tmod 1013 + 1013).tmod 1013 = n % 1013 := by rw [Int.tmod_eq_emod_of_nonneg (by omega)]; have := tmod_se n; omega
  have e1 : IntKind.i64.wrap (n.tmod 1013 + 1013) = n.tmod 1013 + 1013 := IntWalk.i64_in _ (by omega)
  go_enter Tryd.func85, Tryd.ntmps85
  go_wp2
  go_ret
  exact ⟨rfl, rfl⟩
set_option maxHeartbeats 2000000 in
theorem idxI (l : List Int) (x : Int) (a : Option Addr) (cap : Nat) (w : World) (hl : l.length ≤ 9223372036854775807) (h0 : 0 < l.length → ∃ b off, a = some ⟨b, off, none⟩ ∧ IntsAt w b off l) (R : Value)
    (hfirst : Hid (∀ i (h : i < l.length), (∀ j (hj : j < l.length), j < i → l[j] ≠ x) → l[i] = x → R = .int .i64 i)) (hend : Hid ((∀ i (h : i < l.length), l[i] ≠ x) → R = .int .i64 (-1))) :
    Calls Tryd.prog 124 #[.slice a l.length cap, .int .i64 x] w fun e w' => e = .returned R ∧ w = w' := by
  have h0' := Lib.hid h0
  clear h0
  go_enter Tryd.func124, Tryd.ntmps124
  go_wp2
  go_loop [8] (fun i => ∃ n : Nat, n ≤ l.length ∧ i = .int .i64 n ∧ (∀ j (hj : j < l.length), j < n → l[j] ≠ x)) (fun i => l.length - (intOf i).toNat)
  case atStart => exact ⟨0, Nat.zero_le _, rfl, fun _ _ h => absurd h (Nat.not_lt_zero _)⟩
  case round =>
    obtain ⟨n, hn, rfl, k1⟩ := hrel
    replace k1 := Lib.hid k1
    by_cases hlt : n < l.length
    · obtain ⟨b, off, rfl, l1⟩ := h0'.out (by omega)
      have m1 := l1.c n hlt
      clear l1
      by_cases e1 : l[n] = x
      · have hR := Lib.hid (hfirst.out n hlt k1.out e1)
        have hb : (x == l[n]) = true := by rw [beq_iff_eq]; exact e1.symm
        clear e1
        generalize l[n] = y at *
        go_wp2
        go_ret
        exact ⟨ret_eq hR.out.symm, rfl⟩
      · have j1 : ∀ j (hj : j < l.length), j < n + 1 → l[j] ≠ x := by
          intro j hj h
          by_cases hjn : j < n
          · exact k1.out j hj hjn
          · obtain rfl : j = n := by omega
            exact e1
        have hb : (x == l[n]) = false := by rw [beq_eq_false_iff_ne]; exact fun e => e1 e.symm
        replace j1 := Lib.hid j1
        clear e1
        generalize l[n] = y at *
        go_wp2
        go_round
        case rel => exact ⟨n + 1, by omega, by go_num, j1.out⟩
        case measure => simp [intOf]; omega
    · have hR := Lib.hid (hend.out (fun i hi => k1.out i hi (by omega)))
      go_wp2
      go_ret
      exact ⟨ret_eq hR.out.symm, rfl⟩
theorem contI_n (l : List Int) (x : Int) (v : Value) (w : World) (hl : l.length ≤ 9223372036854775807) (h : IntSl w v l) (hx : ∀ i (h : i < l.length), l[i] ≠ x) :
    Calls Tryd.prog 83 #[v, .int .i64 x] w fun e w' => e = .returned (.bool false) ∧ w = w' := by
  obtain ⟨a, cap, rfl, h0⟩ := h
  have hI := idxI l x a cap w hl h0 (.int .i64 (-1)) (Lib.hid fun i hi _ hb => absurd hb (hx i hi)) (Lib.hid fun _ => rfl)
  clear h0
  replace hx := Lib.hid hx
  replace hI := Lib.hid hI
  go_enter Tryd.func83, Tryd.ntmps83
  go_wp2_with fail
  refine hI.out.mono ?_; rintro e w' ⟨rfl, rfl⟩
  go_wp2
  go_ret
  exact ⟨rfl, rfl⟩
theorem first_at (l : List Int) (x : Int) : ∀ n, (h : n < l.length) → l[n] = x → ∃ (i : Nat) (h : i < l.length), l[i] = x ∧ ∀ j (hj : j < l.length), j < i → l[j] ≠ x := by
  intro n
  induction n using Nat.strongRecOn with
  | _ n ih =>
    intro h e
    by_cases hex : ∃ m, ∃ h' : m < l.length, m < n ∧ l[m] = x
    · obtain ⟨m, h', hmn, hm⟩ := hex
      exact ih m hmn h' hm
    · exact ⟨n, h, e, fun j hj hjn hjx => hex ⟨j, hj, hjn, hjx⟩⟩
theorem contI_y (l : List Int) (x : Int) (v : Value) (w : World) (hl : l.length ≤ 9223372036854775807) (h : IntSl w v l) (n : Nat) (hn : n < l.length) (hx : l[n] = x) :
    Calls Tryd.prog 83 #[v, .int .i64 x] w fun e w' => e = .returned (.bool true) ∧ w = w' := by
  obtain ⟨a, cap, rfl, h0⟩ := h
  obtain ⟨i, hi, h1, h2⟩ := first_at l x n hn hx
  have hI := idxI l x a cap w hl h0 (.int .i64 i) (Lib.hid fun j hj hlt hb => by
    have : i = j := by
      rcases Nat.lt_trichotomy i j with h | h | h
      · exact absurd h1 (hlt i hi h)
      · exact h
      · exact absurd hb (h2 j hj h)
    rw [this]) (Lib.hid fun h => absurd h1 (h i hi))
  clear h0 h1 h2 hx hn
  have hi0 : (0 : Int) ≤ (i : Int) := by omega
  replace hI := Lib.hid hI
  go_enter Tryd.func83, Tryd.ntmps83
  go_wp2_with fail
  refine hI.out.mono ?_; rintro e w' ⟨rfl, rfl⟩
  go_wp2
  go_ret
  exact ⟨rfl, rfl⟩
end Go.Proofs.YtahopffpajkfdaaDoor
namespace Go.Proofs.YtahopffpajkfdaaDoor
abbrev Q := Fin 1013
def qE : Nat := 1011
def qinv (a : Q) : Q := ⟨a.val ^ qE % 1013, Nat.mod_lt _ (by decide)⟩
def qchk : Nat → Bool
  | 0 => true
  | k+1 => (k == 0 || (k * (k ^ qE % 1013) % 1013 == 1)) && qchk k
theorem qchk_ok : qchk 1013 = true := by decide +kernel
theorem qchk_at : ∀ n, qchk n = true → ∀ k, k < n → k ≠ 0 → k * (k ^ qE % 1013) % 1013 = 1
  | 0, _, _, hk, _ => absurd hk (Nat.not_lt_zero _)
  | n+1, h, k, hk, h0 => by
    simp only [qchk, Bool.and_eq_true, Bool.or_eq_true, beq_iff_eq] at h
    rcases Nat.lt_succ_iff_lt_or_eq.mp hk with h1 | h1
    · exact qchk_at n h.2 k h1 h0
    · subst h1; rcases h.1 with h2 | h2
      · exact absurd h2 h0
      · exact h2
theorem qmul_inv {a : Q} (h : a ≠ 0) : a * qinv a = 1 := by
  apply Fin.ext
  have := qchk_at 1013 qchk_ok a.val a.isLt (fun e => h (Fin.ext e))
  simpa [Fin.mul_def, qinv] using this
theorem qzero_or {a b : Q} (h : a * b = 0) : a = 0 ∨ b = 0 := by
  by_cases ha : a = 0
  · exact .inl ha
  · right; have h1 := qmul_inv ha
    have : qinv a * (a * b) = qinv a * 0 := by rw [h]
    grobner
theorem qcancel {a b c : Q} (hc : c ≠ 0) (h : c * a = c * b) : a = b := by
  have h1 := qmul_inv hc
  have : qinv c * (c * a) = qinv c * (c * b) := by rw [h]
  grobner
def qi (z : Int) : Q := ⟨(z % 1013).toNat, by omega⟩
theorem qi_val (z : Int) : ((qi z).val : Int) = z % 1013 := by simp only [qi]; omega
theorem qi_eq {a b : Int} : qi a = qi b ↔ a % 1013 = b % 1013 := by
  constructor
  · intro h; have := congrArg (fun x : Q => (x.val : Int)) h; simpa only [qi_val] using this
  · intro h; simp only [qi, h]
theorem qi_ext {a : Q} {z : Int} (h : (a.val : Int) = z % 1013) : a = qi z := by
  apply Fin.ext; have := qi_val z; omega
theorem qi_mod (z : Int) : qi (z % 1013) = qi z := qi_eq.mpr (by omega)
theorem qi_add (a b : Int) : qi (a + b) = qi a + qi b := by
  symm; apply qi_ext; rw [Fin.val_add]; have ha := qi_val a; have hb := qi_val b; omega
theorem qi_mul (a b : Int) : qi (a * b) = qi a * qi b := by
  symm; apply qi_ext; rw [Fin.val_mul]; have ha := qi_val a; have hb := qi_val b
  rw [Int.mul_emod, ← ha, ← hb]; simp
theorem qi_zero : qi 0 = 0 := rfl
theorem qi_one : qi 1 = 1 := rfl
theorem qi_neg (a : Int) : qi (-a) = - qi a := by
  have : qi (-a + a) = qi (-a) + qi a := qi_add _ _
  rw [show -a + a = 0 by omega, qi_zero] at this; grobner
theorem qi_sub (a b : Int) : qi (a - b) = qi a - qi b := by
  have := qi_add a (-b); rw [qi_neg] at this; rw [show a - b = a + -b by omega, this]; grobner
theorem qi_pow (a : Int) : ∀ n : Nat, qi (a ^ n) = qi a ^ n
  | 0 => by simp [qi_one]
  | n+1 => by rw [Int.pow_succ, qi_mul, qi_pow a n]; grobner
theorem qval_pow (a : Q) : ∀ n : Nat, (a ^ n).val = a.val ^ n % 1013
  | 0 => rfl
  | n+1 => by
    have : a ^ (n+1) = a ^ n * a := by grobner
    rw [this, Fin.val_mul, qval_pow a n, Nat.pow_succ, Nat.mod_mul_mod]
theorem qpowv (a : Q) (n : Nat) (h : a.val ^ n % 1013 < 1013) : (⟨a.val ^ n % 1013, h⟩ : Q) = a ^ n := Fin.ext (qval_pow a n).symm
theorem qinv_pow (a : Q) : qinv a = a ^ qE := qpowv a qE _
theorem qi_inj {a b : Int} (ha : 0 ≤ a ∧ a < 1013) (hb : 0 ≤ b ∧ b < 1013) (h : qi a = qi b) : a = b := by have := qi_eq.mp h; omega
theorem qi_ne {a : Int} (h1 : 1 ≤ a) (h2 : a < 1013) : qi a ≠ 0 := fun h => by
  have := qi_inj (by omega) (by omega) (h.trans qi_zero.symm); omega

/-- The weight of a place x among some. -/
def wt (x : Q) : List Q → Q
  | [] => 1
  | y :: l => if y = x then wt x l else y * qinv (y - x) * wt x l
def qsum (f : Q → Q) : List Q → Q
  | [] => 0
  | y :: l => f y + qsum f l
/-- What values, times the weights, add up to. -/
def lag (xs : List Q) (f : Q → Q) : Q := qsum (fun x => wt x xs * f x) xs
/-- A polynomial's value: the coefficient of the power 0 first. -/
def ev : List Q → Q → Q
  | [], _ => 0
  | c :: l, t => c + t * ev l t
/-- The quotient by (t - r). -/
def quo (r : Q) : List Q → List Q
  | [] => []
  | _ :: l => match l with
    | [] => []
    | _ => ev l r :: quo r l
theorem qsum_congr {f g : Q → Q} : ∀ {l : List Q}, (∀ x ∈ l, f x = g x) → qsum f l = qsum g l
  | [], _ => rfl
  | y :: l, h => by
    simp only [qsum]; rw [h y (by simp), qsum_congr fun x hx => h x (by simp [hx])]
theorem qsum_add (f g : Q → Q) : ∀ l : List Q, qsum (fun x => f x + g x) l = qsum f l + qsum g l
  | [] => by simp only [qsum]; grobner
  | y :: l => by simp only [qsum]; rw [qsum_add f g l]; grobner
theorem qsum_mul (c : Q) (f : Q → Q) : ∀ l : List Q, qsum (fun x => c * f x) l = c * qsum f l
  | [] => by simp only [qsum]; grobner
  | y :: l => by simp only [qsum]; rw [qsum_mul c f l]; grobner
theorem lag_add (xs : List Q) (f g : Q → Q) : lag xs (fun x => f x + g x) = lag xs f + lag xs g := by
  unfold lag; rw [← qsum_add]; exact qsum_congr fun x _ => by grobner
theorem lag_mul (xs : List Q) (c : Q) (f : Q → Q) : lag xs (fun x => c * f x) = c * lag xs f := by
  unfold lag; rw [← qsum_mul]; exact qsum_congr fun x _ => by grobner
theorem lag_congr {xs : List Q} {f g : Q → Q} (h : ∀ x ∈ xs, f x = g x) : lag xs f = lag xs g :=
  qsum_congr fun x hx => by rw [h x hx]
/-- The first place out. -/
theorem lag_out {x1 : Q} {xs : List Q} (h1 : x1 ∉ xs) (f : Q → Q) : lag (x1 :: xs) (fun x => (x - x1) * f x) = - x1 * lag xs f := by
  unfold lag
  rw [← qsum_mul]
  simp only [qsum]
  rw [show wt x1 (x1 :: xs) * ((x1 - x1) * f x1) = 0 by grobner]
  have : qsum (fun x => wt x (x1 :: xs) * ((x - x1) * f x)) xs = qsum (fun x => -x1 * (wt x xs * f x)) xs := by
    apply qsum_congr
    intro x hx
    have hne : x1 ≠ x := fun e => h1 (e ▸ hx)
    have e : wt x (x1 :: xs) = x1 * qinv (x1 - x) * wt x xs := by simp only [wt]; rw [if_neg hne]
    have hd : x1 - x ≠ 0 := fun e => hne (by grobner)
    have k := qmul_inv hd
    rw [e]
    generalize qinv (x1 - x) = i at *
    clear e hd hne hx h1
    grobner
  rw [this]; grobner
theorem wt_swap (x a b : Q) (l : List Q) : wt x (a :: b :: l) = wt x (b :: a :: l) := by
  simp only [wt]; split <;> split <;> grobner
theorem lag_swap (a b : Q) (l : List Q) (f : Q → Q) : lag (a :: b :: l) f = lag (b :: a :: l) f := by
  unfold lag
  have : qsum (fun x => wt x (a :: b :: l) * f x) (a :: b :: l) = qsum (fun x => wt x (b :: a :: l) * f x) (a :: b :: l) := qsum_congr fun x _ => by rw [wt_swap]
  rw [this]; simp only [qsum]; grobner
theorem lag_one : ∀ (n : Nat) (xs : List Q), xs.length = n + 1 → xs.Nodup → lag xs (fun _ => 1) = 1
  | 0, xs, hl, _ => by
    match xs, hl with
    | [a], _ => simp only [lag, qsum, wt, if_true]; grobner
  | n+1, xs, hl, hd => by
    match xs, hl with
    | a :: b :: l, hl =>
      have hab : a ∉ b :: l := (List.nodup_cons.mp hd).1
      have hd2 : (b :: a :: l).Nodup := by
        have := (List.nodup_cons.mp hd).2
        have := (List.nodup_cons.mp this)
        simp only [List.mem_cons, not_or] at hab
        refine List.nodup_cons.mpr ⟨?_, List.nodup_cons.mpr ⟨hab.2, this.2⟩⟩
        simp only [List.mem_cons, not_or]; exact ⟨fun e => hab.1 e.symm, this.1⟩
      have i1 := lag_one n (b :: l) (by simpa using hl) (List.nodup_cons.mp hd).2
      have i2 := lag_one n (a :: l) (by simpa using hl) (List.nodup_cons.mp hd2).2
      have o1 := lag_out hab (fun _ => 1)
      have o2 := lag_out (List.nodup_cons.mp hd2).1 (fun _ => 1)
      rw [i1] at o1; rw [i2, lag_swap] at o2
      have d : lag (a :: b :: l) (fun _ => (b - a) * 1) = (b - a) * 1 := by
        have e : lag (a :: b :: l) (fun _ => (b - a) * 1) = lag (a :: b :: l) (fun x => (x - a) * 1 + (-1) * ((x - b) * 1)) := lag_congr fun x _ => by grobner
        rw [e, lag_add, lag_mul, o1, o2]; grobner
      rw [lag_mul] at d
      refine qcancel (fun e => ?_) d
      exact hab (by have : a = b := by grobner
                    rw [this]; simp)
theorem ev_quo (r t : Q) : ∀ p : List Q, ev p t = ev p r + (t - r) * ev (quo r p) t
  | [] => by simp only [ev, quo]; grobner
  | [c] => by simp only [ev, quo]; grobner
  | c :: d :: l => by
    have ih := ev_quo r t (d :: l)
    show c + t * ev (d :: l) t = c + r * ev (d :: l) r + (t - r) * (ev (d :: l) r + t * ev (quo r (d :: l)) t)
    generalize ev (d :: l) t = A at *
    generalize ev (d :: l) r = B at *
    generalize ev (quo r (d :: l)) t = C at *
    subst ih; grobner
theorem quo_len (r : Q) : ∀ p : List Q, (quo r p).length = p.length - 1
  | [] => rfl
  | [_] => rfl
  | _ :: d :: l => by
    have := quo_len r (d :: l)
    show (quo r (d :: l)).length + 1 = _
    rw [this]; simp
/-- Any so many of them tell it (Lagrange, Shamir): of a polynomial of no more coefficients than places the values tell its value at 0. -/
theorem lag_ev : ∀ (xs : List Q) (p : List Q), xs ≠ [] → xs.Nodup → p.length ≤ xs.length → lag xs (ev p) = ev p 0
  | [], _, h, _, _ => absurd rfl h
  | [a], p, _, _, hp => by
    match p, hp with
    | [], _ => simp only [lag, qsum, wt, ev, if_true]; grobner
    | [c], _ => simp only [lag, qsum, wt, ev, if_true]; grobner
  | a :: b :: l, p, _, hd, hp => by
    have ih := lag_ev (b :: l) (quo a p) (by simp) (List.nodup_cons.mp hd).2 (by rw [quo_len]; simp only [List.length_cons] at hp ⊢; omega)
    have e : lag (a :: b :: l) (ev p) = lag (a :: b :: l) (fun x => ev p a * 1 + (x - a) * ev (quo a p) x) := lag_congr fun x _ => by
      rw [ev_quo a x p]; grobner
    rw [e, lag_add, lag_mul, lag_one (l.length + 1) _ (by simp) hd, lag_out (List.nodup_cons.mp hd).1, ih, ev_quo a 0 p]; grobner
end Go.Proofs.YtahopffpajkfdaaDoor
namespace Go.Proofs.YtahopffpajkfdaaDoor
open Go.RowKit
set_option maxRecDepth 100000
set_option linter.unusedVariables false
set_option linter.unusedSimpArgs false
/-- The part of a place's weight that comes of the first k places. -/
def wpre (xs : List Int) (i : Nat) : Nat → Int
  | 0 => 1
  | k + 1 => if k = i then wpre xs i k else ((wpre xs i k * xs.getD k 0) % 1013 * (((xs.getD k 0 - xs.getD i 0) % 1013) ^ qE % 1013)) % 1013
theorem wpre_bd (xs : List Int) (i : Nat) : ∀ k, 0 ≤ wpre xs i k ∧ wpre xs i k < 1013
  | 0 => ⟨Int.zero_le_ofNat 1, by show (1 : Int) < 1013; decide⟩
  | k + 1 => by
    unfold wpre
    split
    · exact wpre_bd xs i k
    · exact ⟨Int.emod_nonneg _ (by decide), Int.emod_lt_of_pos _ (by decide)⟩
/-- The weights. -/
def wgts (xs : List Int) : List Int := (List.range xs.length).map fun i => wpre xs i xs.length
theorem wgts_len (xs : List Int) : (wgts xs).length = xs.length := by simp [wgts]
theorem wgts_get (xs : List Int) (i : Nat) (h : i < (wgts xs).length) : (wgts xs)[i] = wpre xs i xs.length := by simp [wgts]
theorem take_snoc3 {α : Type} (l : List α) (n : Nat) (h : n < l.length) : l.take (n + 1) = l.take n ++ [l[n]] := by
  rw [List.take_add_one, List.getElem?_eq_getElem h]; rfl
theorem wpre_same {xs : List Int} {i k : Nat} (h : k = i) : wpre xs i (k + 1) = wpre xs i k := by rw [wpre, if_pos h]
theorem wpre_step {xs : List Int} {i k : Nat} (h : ¬ k = i) : wpre xs i (k + 1) = ((wpre xs i k * xs.getD k 0) % 1013 * (((xs.getD k 0 - xs.getD i 0) % 1013) ^ qE % 1013)) % 1013 := by rw [wpre, if_neg h]
theorem qE_nat : (1011 : Int).toNat = qE := rfl
/-- A slice holds no more than it has room for. -/
def CapOk (v : Value) : Prop := ∀ a n cap, v = .slice a n cap → n ≤ cap
set_option maxHeartbeats 8000000 in
theorem weights_ok (xs : List Int) (v : Value) (w : World) (h1 : 1 ≤ xs.length) (h2 : xs.length ≤ 12) (hs : ∀ i (h : i < xs.length), 1 ≤ xs[i] ∧ xs[i] < 1013) (hd : ∀ i j (hi : i < xs.length) (hj : j < xs.length), i < j → xs[i] ≠ xs[j]) (h : IntSl w v xs) (hv : CapOk v) :
    Calls Tryd.prog 28 #[v] w fun e w' => ∃ v', e = .returned (.tuple #[v', .nilIface]) ∧ IntSl w' v' (wgts xs) ∧ Below w.heap.size w w' := by
  obtain ⟨a, cap, rfl, h⟩ := h
  have hcap := hv _ _ _ rfl
  clear hv
  obtain ⟨b, off, rfl, hI⟩ := h (by omega)
  clear h
  have e1 : decide ((12 : Int) < (xs.length : Int)) = false := by rw [decide_eq_false_iff_not]; omega
  have e2 : ((xs.length : Int) == 0) = false := by rw [beq_eq_false_iff_ne]; omega
  replace hI := Lib.hid hI
  replace hs := Lib.hid hs
  replace hd := Lib.hid hd
  go_enter Tryd.func28, Tryd.ntmps28
  go_wp2
  go_loopw [24] (fun i wr => ∃ n : Nat, n ≤ xs.length ∧ i = .int .i64 n ∧ wr = w) (fun i _ => xs.length - (intOf i).toNat)
  case atStart => exact ⟨0, Nat.zero_le _, rfl, rfl⟩
  case round =>
    obtain ⟨n, hn, rfl, hwr⟩ := hrel
    subst hwr
    by_cases hlt : n < xs.length
    · have m1 := hI.out.c n hlt
      have ml := hI.out.lt
      obtain ⟨x1, x2⟩ := hs.out n hlt
      have hne := Lib.hid (fun i (hi : i < (xs.take n).length) => (by rw [List.getElem_take]; exact hd.out i n (by rw [List.length_take] at hi; omega) hlt (by rw [List.length_take] at hi; omega) : (xs.take n)[i] ≠ xs[n]))
      have hsl := Lib.hid (show ∀ c, IntSl wr (.slice (some ⟨b, off, none⟩) n c) (xs.take n) from fun c => ⟨_, c, by rw [List.length_take, Nat.min_eq_left (by omega)], fun _ => ⟨b, off, rfl, hI.out.lt, fun i hi => by rw [List.getElem_take]; exact hI.out.c i (by rw [List.length_take] at hi; omega)⟩⟩)
      have htl := Lib.hid (show (xs.take n).length ≤ 9223372036854775807 by rw [List.length_take]; omega)
      have hnc : n ≤ cap := by omega
      have hnc2 : (n : Int) ≤ (cap : Int) := by omega
      generalize xs[n] = x at *
      go_wp2_with fail
      refine (secret_y x _ x1 x2).mono ?_; rintro e w' ⟨rfl, rfl⟩
      go_wp2_with fail
      refine (contI_n (xs.take n) x _ _ htl.out (hsl.out cap) hne.out).mono ?_; rintro e w' ⟨rfl, rfl⟩
      go_wp2
      go_roundw
      case rel => exact ⟨n + 1, by omega, by go_num, by first | rfl | trivial⟩
      case measure => simp [intOf]; omega
    · obtain rfl : n = xs.length := by omega
      obtain ⟨wo, rfl⟩ : ∃ wo : World, wo = wr := ⟨_, rfl⟩
      go_wp2
      go_loopw [6, 44] (fun o i wq => ∃ (n : Nat) (u : Value), n ≤ xs.length ∧ i = .int .i64 n ∧ u = o ∧ wq.ownsRow wo.heap.size 3 1 u n (((wgts xs).take n).map (Value.int .i64)) ∧ Below wo.heap.size wo wq) (fun _ i _ => xs.length - (intOf i).toNat)
      case atStart => exact ⟨0, _, Nat.zero_le _, rfl, rfl, World.ownsRow_nil _ _ _ _, Below.refl _ _⟩
      case round =>
        obtain ⟨n, u, hn, rfl, rfl, hown, hb⟩ := hrel
        replace hown := Lib.hid hown
        replace hb := Lib.hid hb
        by_cases hlt2 : n < xs.length
        · have hIo := Lib.hid (hI.out.below hb.out)
          have m1 := hIo.out.c n hlt2
          have hgx := Lib.hid (show xs.getD n 0 = xs[n] by rw [List.getD_eq_getElem?_getD, List.getElem?_eq_getElem hlt2]; rfl)
          obtain ⟨x1, x2⟩ := hs.out n hlt2
          generalize xs[n] = x at *
          go_wp2
          go_loop [9, 51] (fun q k => ∃ m : Nat, m ≤ xs.length ∧ k = .int .i64 m ∧ q = .int .i64 (wpre xs n m)) (fun _ k => xs.length - (intOf k).toNat)
          case atStart => exact ⟨0, Nat.zero_le _, rfl, rfl⟩
          case round =>
            obtain ⟨m, hm, rfl, rfl⟩ := hrel
            by_cases hlt3 : m < xs.length
            · have m2 := hIo.out.c m hlt3
              have hgy := Lib.hid (show xs.getD m 0 = xs[m] by rw [List.getD_eq_getElem?_getD, List.getElem?_eq_getElem hlt3]; rfl)
              obtain ⟨y1, y2⟩ := hs.out m hlt3
              generalize xs[m] = y at *
              by_cases hmn : m = n
              · have hb2 : ((m : Int) != (n : Int)) = false := by rw [bne_eq_false_iff_eq, hmn]
                have hsame := Lib.hid (wpre_same (xs := xs) hmn)
                replace hmn := Lib.hid hmn
                go_wp2
                go_round
                case rel => exact ⟨m + 1, by omega, by go_num, by rw [hsame.out]⟩
                case measure => simp [intOf]; omega
              · have hb2 : ((m : Int) != (n : Int)) = true := by rw [bne_iff_ne]; omega
                have hstep := wpre_step (xs := xs) hmn
                rw [hgx.out, hgy.out] at hstep
                obtain ⟨q0, q1⟩ := wpre_bd xs n m
                generalize wpre xs n m = q at *
                obtain ⟨p1, p2⟩ := mul_bq q0 q1 (show 0 ≤ y by omega) y2
                have f1 : IntKind.i64.wrap (q * y) = q * y := IntWalk.i64_in _ (by omega)
                have f2 : (q * y).tmod 1013 = (q * y) % 1013 := Int.tmod_eq_emod_of_nonneg p1
                have f3 : IntKind.i64.wrap (y - x) = y - x := IntWalk.i64_in _ (by omega)
                obtain ⟨z, hz⟩ : ∃ z, (y - x) % 1013 = z := ⟨_, rfl⟩
                obtain ⟨r, hr⟩ : ∃ r, (q * y) % 1013 = r := ⟨_, rfl⟩
                obtain ⟨s, hs2⟩ : ∃ s, z ^ qE % 1013 = s := ⟨_, rfl⟩
                have z0 : 0 ≤ z ∧ z < 1013 := by omega
                have r0 : 0 ≤ r ∧ r < 1013 := by omega
                have s0 : 0 ≤ s ∧ s < 1013 := by rw [← hs2]; exact ⟨Int.emod_nonneg _ (by decide), Int.emod_lt_of_pos _ (by decide)⟩
                rw [hz, hr, hs2] at hstep
                rw [hr] at f2
                have hqr := qrest_c (y - x) wr (by omega) (by omega)
                rw [hz] at hqr
                have hqp := qpower_c z 1011 s wr z0.1 z0.2 (by decide) (by decide) (Lib.hid (by rw [qE_nat]; exact hs2))
                obtain ⟨p3, p4⟩ := mul_bq r0.1 r0.2 s0.1 s0.2
                have f4 : IntKind.i64.wrap (r * s) = r * s := IntWalk.i64_in _ (by omega)
                have f5 : (r * s).tmod 1013 = (r * s) % 1013 := Int.tmod_eq_emod_of_nonneg p3
                replace hstep := Lib.hid hstep
                replace hqr := Lib.hid hqr
                replace hqp := Lib.hid hqp
                clear hz hr hs2 hmn
                go_wp2_with fail
                refine hqr.out.mono ?_; rintro e w' ⟨rfl, rfl⟩
                go_wp2_with fail
                refine hqp.out.mono ?_; rintro e w' ⟨rfl, rfl⟩
                go_wp2
                go_round
                case rel => exact ⟨m + 1, by omega, by go_num, by rw [hstep.out]⟩
                case measure => simp [intOf]; omega
            · obtain rfl : m = xs.length := by omega
              have htl := Lib.hid (show ((wgts xs).take n).length = n by rw [List.length_take, wgts_len]; omega)
              have hsn := Lib.hid (show (wgts xs).take (n + 1) = (wgts xs).take n ++ [wpre xs n xs.length] by rw [take_snoc3 _ n (by rw [wgts_len]; exact hlt2), wgts_get])
              have zo := hb.out.size
              generalize wpre xs n xs.length = q at *
              generalize hT : (wgts xs).take n = T at *
              clear hT
              go_wp2_with (first | (at_builtin; refine wpl_append_int rfl _ _ _ rfl (by kernel_rfl) wo.heap.size _ T n rfl (hown.out.alloc _) htl.out (by omega) (by simp only [World.size_alloc]; omega) wr.heap.size q rfl (by go_simp) ?_; intro v' w3 hown' hgrow hbel hloc; replace hown' := Lib.hid hown'; replace hbel := Lib.hid (hbel wo (balloc hb.out _)); clear hgrow hloc) | fail)
              go_wp2
              go_roundw
              case rel => exact ⟨n + 1, _, by omega, by go_num, rfl, by rw [hsn.out]; exact hown'.out, hbel.out⟩
              case measure => simp [intOf]; omega
        · obtain rfl : n = xs.length := by omega
          have hI2 := Lib.hid (own_ints (by have := hown.out; rw [List.take_of_length_le (by rw [wgts_len]; exact Nat.le_refl _)] at this; exact this) (wgts_len xs).symm)
          go_wp2
          go_ret2
          exact ⟨_, rfl, hI2.out, hb.out⟩
end Go.Proofs.YtahopffpajkfdaaDoor
namespace Go.Proofs.YtahopffpajkfdaaDoor
open Go.RowKit Go.WideShapes Go.ChangeShapes Go.Deep
/-- A value that is a slice of shares. -/
def ShsV (w : World) (v : Value) : Prop := ∃ l : List (Int × Int), ShSl w v l ∧ l.length ≤ 9223372036854775807
section
variable {H : Type} {enc : TypeId × Value → H} {P : Program} {w : World} {base : Nat} {spare : Nat → Bool} {held : Bool}
theorem open_shares {r : Reach} {b0 : Nat} {t e : TypeId} {f0 f1 : Field} {v : Value} {d : DataW H} {ps : List MemPlace} (ht : P.underlying t = some (.slice e)) (he : P.underlying e = some (.struct #[f0, f1]))
    (hone : oneCellFields P #[f0, f1] = true) (hC : P.cellsOf e = 2) (h0 : P.underlying f0.type = some (.int .i64)) (h1 : P.underlying f1.type = some (.int .i64))
    (hv : Value.okWide P w r b0 t v) (h : DataW.Trod enc P w base spare held t v d ps) :
    ShsV w v := by
  obtain ⟨a, len, cap, rfl⟩ := okWide_slice ht hv
  obtain ⟨fuel, hf⟩ := h
  rcases open_slice_fields ht he hone (by rw [hC]; rfl) hf with ⟨hn, -⟩ | ⟨a', len', cap', m, D, Pl, hcs, hb, hl, hm, hmm, hx, hi⟩
  · simp [Value.cells] at hn; obtain ⟨rfl, rfl, rfl⟩ := hn
    exact ⟨[], ⟨none, 0, rfl, fun h => absurd h (Nat.lt_irrefl 0)⟩, by decide⟩
  · simp [Value.cells] at hcs; obtain ⟨rfl, rfl, rfl⟩ := hcs
    by_cases hz : len = 0
    · subst hz
      exact ⟨[], ⟨_, _, rfl, fun h => absurd h (Nat.lt_irrefl 0)⟩, by decide⟩
    have hlm : len ≤ m := by rw [hmm]; split <;> omega
    have each : ∀ i, i < len → ∃ s : Int × Int, w.cell? (a'.add (i * 2 + 0)) = some (.int .i64 s.1) ∧ w.cell? (a'.add (i * 2 + 1)) = some (.int .i64 s.2) := by
      intro i hil
      obtain ⟨ys, n, -, -, -, hj⟩ := hi i (by omega)
      obtain ⟨v0, y0, c0, -, t0⟩ := hj 0 f0 rfl
      obtain ⟨v1, y1, c1, -, t1⟩ := hj 1 f1 rfl
      obtain ⟨x, e0, -, -⟩ := DataW.trod_int h0 t0
      obtain ⟨y, e1, -, -⟩ := DataW.trod_int h1 t1
      simp at e0 e1
      subst e0 e1
      exact ⟨(x, y), c0, c1⟩
    obtain ⟨S, hS⟩ := choose_lt each
    obtain ⟨b, off, sp⟩ := a'
    obtain rfl : sp = none := spotless (b := b) (off := off) (by simpa [Addr.add] using (hS 0 (by omega)).1)
    simp only [add_none] at hS
    unfold maxLen at hm
    refine ⟨(List.range len).map S, ⟨_, cap, by simp, fun _ => ⟨b, off, rfl, World.block_lt_of_cell? w _ (hS 0 (by omega)).1, ?_, ?_⟩⟩, by simp; omega⟩
    all_goals
      intro i hi
      simp only [List.length_map, List.length_range] at hi
      simp only [List.getElem_map, List.getElem_range]
    · exact (hS i hi).1
    · exact (hS i hi).2
theorem open_sharesz {r : Reach} {b0 : Nat} {t e : TypeId} {f0 f1 : Field} {v : Value} {d : DataW H} {ps : List MemPlace} {ts : List TypeId} {ds : List (DataW H)} {j : Nat} (ht : P.underlying t = some (.slice e)) (he : P.underlying e = some (.struct #[f0, f1]))
    (hone : oneCellFields P #[f0, f1] = true) (hC : P.cellsOf e = 2) (h0 : P.underlying f0.type = some (.int .i64)) (h1 : P.underlying f1.type = some (.int .i64)) (hby : P.bytesOf e = 16)
    (hv : Value.okWide P w r b0 t v) (h : DataW.Trod enc P w base spare held t v d ps) (hsz : (DataW.weightsEach P ts ds).all (· ≤ reachBytes) = true) (hj : ts[j]? = some t) (hd : ds[j]? = some d) :
    ∃ l : List (Int × Int), ShSl w v l ∧ l.length * 16 ≤ 140737488355328 := by
  obtain ⟨l, hl, -⟩ := open_shares ht he hone hC h0 h1 hv h
  refine ⟨l, hl, ?_⟩
  obtain ⟨a, len, cap, rfl⟩ := okWide_slice ht hv
  obtain ⟨a1, c1, he1, -⟩ := hl
  cases he1
  obtain ⟨fuel, hf⟩ := h
  rcases open_slice_fields ht he hone (by rw [hC]; rfl) hf with ⟨hn, -⟩ | ⟨a', len', cap', m, D, Pl, hcs, hb, hl, hm, hmm, hx, hi⟩
  · simp [Value.cells] at hn; obtain ⟨-, hz, -⟩ := hn; first | (rw [hz]; decide) | (subst hz; decide) | (simp [hz])
  · simp [Value.cells] at hcs; obtain ⟨rfl, rfl, rfl⟩ := hcs
    simp only [Prod.mk.injEq] at hx
    obtain ⟨rfl, -⟩ := hx
    have := List.all_eq_true.1 hsz _ (DataW.weights_mem_each hj hd (l.length * 16 + (m - l.length) * 16) (by
      simp only [DataW.weights, ht, List.mem_cons, List.length_map, List.length_range, hby]
      exact .inl (by omega)))
    have h9 : l.length * 16 + (m - l.length) * 16 ≤ reachBytes := of_decide_eq_true this
    simp only [reachBytes] at h9
    omega
theorem open_cap {r : Reach} {b0 : Nat} {t e : TypeId} {v : Value} {d : DataW H} {ps : List MemPlace} (ht : P.underlying t = some (.slice e)) (he : P.underlying e = some (.int .i64)) (hc : P.cellsOf e = 1)
    (hv : Value.okWide P w r b0 t v) (h : DataW.Trod enc P w base spare held t v d ps) :
    CapOk v := by
  obtain ⟨a, len, cap, rfl⟩ := okWide_slice ht hv
  obtain ⟨fuel, hf⟩ := h
  rcases ChangeShapes.open_ints ht he hc hf with ⟨hn, -⟩ | ⟨a', len', cap', zs, hcs, hb, hl, hm, hzl, hx, hcell, hw⟩
  · simp [Value.cells] at hn; obtain ⟨rfl, rfl, rfl⟩ := hn
    intro a n c e; cases e; exact Nat.le_refl _
  · simp [Value.cells] at hcs; obtain ⟨rfl, rfl, rfl⟩ := hcs
    intro a n c e; cases e; exact hl
theorem open_intc {r : Reach} {b0 : Nat} {t e : TypeId} {v : Value} {d : DataW H} {ps : List MemPlace} (ht : P.underlying t = some (.slice e)) (he : P.underlying e = some (.int .i64)) (hc : P.cellsOf e = 1)
    (hv : Value.okWide P w r b0 t v) (h : DataW.Trod enc P w base spare held t v d ps) :
    IntsV w v ∧ CapOk v := ⟨open_intl ht he hc hv h, open_cap ht he hc hv h⟩
end
end Go.Proofs.YtahopffpajkfdaaDoor
namespace Go.Proofs.YtahopffpajkfdaaDoor
open Go.RowKit
set_option maxRecDepth 100000
set_option linter.unusedVariables false
set_option linter.unusedSimpArgs false
/-- What the shares so far add up to. -/
def csum (ws ys : List Int) : Nat → Int
  | 0 => 0
  | n + 1 => (csum ws ys n + ws.getD n 0 * ys.getD n 0) % 1013
theorem csum_bd (ws ys : List Int) : ∀ n, 0 ≤ csum ws ys n ∧ csum ws ys n < 1013
  | 0 => ⟨Int.le_refl 0, by show (0 : Int) < 1013; decide⟩
  | n + 1 => ⟨Int.emod_nonneg _ (by decide), Int.emod_lt_of_pos _ (by decide)⟩
/-- What the shares tell. -/
def comb (l : List (Int × Int)) : Int := csum (wgts (l.map (·.1))) (l.map (·.2)) l.length
theorem own_cap {w : World} {B e size n : Nat} {v : Value} {xs : List Value} (h : w.ownsRow B e size v n xs) : CapOk v := by
  intro a m cap hv
  rcases h.2 with ⟨rfl, -⟩ | ⟨g, cap', cur, rfl, -, -, hnc, -⟩
  · cases hv; exact Nat.le_refl _
  · cases hv; exact hnc
theorem wgts_bd (xs : List Int) (i : Nat) (h : i < (wgts xs).length) : 0 ≤ (wgts xs)[i] ∧ (wgts xs)[i] < 1013 := by rw [wgts_get]; exact wpre_bd xs i xs.length
theorem gD {l : List Int} {i : Nat} (h : i < l.length) : l.getD i 0 = l[i] := by rw [List.getD_eq_getElem?_getD, List.getElem?_eq_getElem h]; rfl
set_option maxHeartbeats 8000000 in
theorem combine_ok (l : List (Int × Int)) (v : Value) (w : World) (h1 : 1 ≤ l.length) (h2 : l.length ≤ 12) (hs : ∀ i (h : i < l.length), 1 ≤ l[i].1 ∧ l[i].1 < 1013 ∧ 0 ≤ l[i].2 ∧ l[i].2 < 1013) (hd : ∀ i j (hi : i < l.length) (hj : j < l.length), i < j → l[i].1 ≠ l[j].1) (h : ShSl w v l) :
    Calls Tryd.prog 30 #[v] w fun e w' => e = .returned (.tuple #[.int .i64 (comb l), .nilIface]) ∧ Below w.heap.size w w' := by
  obtain ⟨a, cap, rfl, h⟩ := h
  obtain ⟨b, off, rfl, hI⟩ := h (by omega)
  clear h
  replace hI := Lib.hid hI
  have hxl : (l.map (·.1)).length = l.length := List.length_map ..
  have hW := Lib.hid (fun v w h hv => weights_ok (l.map (·.1)) v w (by omega) (by omega) (fun i hi => by rw [List.getElem_map]; exact ⟨(hs i (by omega)).1, (hs i (by omega)).2.1⟩) (fun i j hi hj hij => by rw [List.getElem_map, List.getElem_map]; exact hd i j (by omega) (by omega) hij) h hv)
  have hwl := wgts_len (l.map (·.1))
  rw [hxl] at hwl
  have hwb := Lib.hid (wgts_bd (l.map (·.1)))
  have hcb := Lib.hid (csum_bd (wgts (l.map (·.1))) (l.map (·.2)))
  have hcs := Lib.hid (show ∀ n (h : n < l.length) (h' : n < (wgts (l.map (·.1))).length), csum (wgts (l.map (·.1))) (l.map (·.2)) (n + 1) = (csum (wgts (l.map (·.1))) (l.map (·.2)) n + (wgts (l.map (·.1)))[n] * l[n].2) % 1013 from fun n h h' => by rw [csum, gD h', gD (by rw [List.length_map]; exact h), List.getElem_map])
  have hend : Hid (csum (wgts (l.map (·.1))) (l.map (·.2)) l.length = comb l) := Lib.hid rfl
  have hc0 : Hid (csum (wgts (l.map (·.1))) (l.map (·.2)) 0 = 0) := Lib.hid rfl
  generalize hcf : csum (wgts (l.map (·.1))) (l.map (·.2)) = cf at *
  generalize hwg : wgts (l.map (·.1)) = ws at *
  clear hcf hwg
  replace hs := Lib.hid hs
  clear hd
  replace hxl := Lib.hid hxl
  replace hwl := Lib.hid hwl
  go_enter Tryd.func30, Tryd.ntmps30
  go_wp2
  go_loopw [4, 14] (fun o i wr => ∃ (n : Nat) (u : Value), n ≤ l.length ∧ i = .int .i64 n ∧ u = o ∧ wr.ownsRow w.heap.size 3 1 u n (((l.map (·.1)).take n).map (Value.int .i64)) ∧ Below w.heap.size w wr) (fun _ i _ => l.length - (intOf i).toNat)
  case atStart => exact ⟨0, _, Nat.zero_le _, rfl, rfl, World.ownsRow_nil _ _ _ _, Below.refl _ _⟩
  case round =>
    obtain ⟨n, u, hn, rfl, rfl, hown, hb⟩ := hrel
    replace hown := Lib.hid hown
    replace hb := Lib.hid hb
    by_cases hlt : n < l.length
    · have hIr := hI.out.below hb.out
      have m1 := hIr.cx n hlt
      have m2 := hIr.cy n hlt
      have ml := hIr.lt
      have hlw := hb.out.size
      have htl := Lib.hid (show ((l.map (·.1)).take n).length = n by rw [List.length_take, hxl.out]; omega)
      have hsn := Lib.hid (show (l.map (·.1)).take (n + 1) = (l.map (·.1)).take n ++ [l[n].1] by rw [take_snoc3 _ n (by rw [hxl.out]; exact hlt), List.getElem_map])
      clear hIr
      generalize l[n] = s at *
      obtain ⟨x, y⟩ := s
      simp only at m1 m2
      generalize hT : (l.map (·.1)).take n = T at *
      clear hT
      go_wp2_with (first | (at_builtin; refine wpl_append_int rfl _ _ _ rfl (by kernel_rfl) w.heap.size _ T n rfl ((hown.out.alloc _).alloc _) htl.out (by omega) (by simp only [World.size_alloc]; omega) (wr.heap.size + 1) x rfl (by go_simp) ?_; intro v' w3 hown' hgrow hbel hloc; replace hown' := Lib.hid hown'; replace hbel := Lib.hid (hbel w (balloc (balloc hb.out _) _)); clear hgrow hloc) | fail)
      go_wp2
      go_roundw
      case rel => exact ⟨n + 1, _, by omega, by go_num, rfl, by rw [hsn.out]; exact hown'.out, hbel.out⟩
      case measure => simp [intOf]; omega
    · obtain rfl : n = l.length := by omega
      have hcap := Lib.hid (own_cap hown.out)
      have hX := Lib.hid (own_ints (by have := hown.out; rw [List.take_of_length_le (by rw [hxl.out]; exact Nat.le_refl _)] at this; exact this) hxl.out.symm)
      clear hown
      go_wp2_with fail
      refine (hW.out u wr hX.out hcap.out).mono ?_; rintro e w1 ⟨wv, rfl, hi, hb1⟩
      obtain ⟨wa, wc, rfl, hi⟩ := hi
      rw [hwl.out] at hi ⊢
      obtain ⟨b2, off2, rfl, hi2⟩ := hi (by omega)
      clear hi
      have hi := Lib.hid hi2
      clear hi2
      have hB1 := Lib.hid (below_seq hb.out hb1)
      clear hb hb1 hX hcap hW
      go_wp2
      go_loopw [9, 34] (fun o i wr => ∃ (n : Nat), n ≤ l.length ∧ i = .int .i64 n ∧ o = .int .i64 (cf n) ∧ Below w1.heap.size w1 wr) (fun _ i _ => l.length - (intOf i).toNat)
      case atStart => exact ⟨0, Nat.zero_le _, rfl, by rw [hc0.out], Below.refl _ _⟩
      case round =>
        obtain ⟨n, hn, rfl, rfl, hb⟩ := hrel
        replace hb := Lib.hid hb
        by_cases hlt2 : n < l.length
        · have hIr := (hI.out.below hB1.out).below hb.out
          have m1 := hIr.cx n hlt2
          have m2 := hIr.cy n hlt2
          have ml := hIr.lt
          have hir := hi.out.below hb.out
          have m3 := hir.c n (by rw [hwl.out]; exact hlt2)
          have ml2 := hir.lt
          have hstep := hcs.out n hlt2 (by rw [hwl.out]; exact hlt2)
          obtain ⟨p0, p1⟩ := hwb.out n (by rw [hwl.out]; exact hlt2)
          obtain ⟨x1, x2, y1, y2⟩ := hs.out n hlt2
          obtain ⟨q0, q1⟩ := hcb.out n
          clear hIr hir
          generalize l[n] = s at *
          obtain ⟨x, y⟩ := s
          simp only at m1 m2 y1 y2 hstep
          generalize (ws[n]'(by rw [hwl.out]; exact hlt2)) = c at *
          generalize cf n = q at *
          obtain ⟨r0, r1⟩ := mul_bq p0 p1 y1 y2
          have f1 : IntKind.i64.wrap (c * y) = c * y := IntWalk.i64_in _ (by omega)
          have f2 : IntKind.i64.wrap (q + c * y) = q + c * y := IntWalk.i64_in _ (by omega)
          have f3 : (q + c * y).tmod 1013 = (q + c * y) % 1013 := Int.tmod_eq_emod_of_nonneg (by omega)
          replace hstep := Lib.hid hstep
          go_wp2_with fail
          refine (rest_y y _ y1 y2).mono ?_; rintro e w' ⟨rfl, rfl⟩
          go_wp2_with fail
          go_quiet (fail)
          go_wp2
          go_roundw
          case rel => exact ⟨n + 1, by omega, by go_num, by rw [hstep.out], (by repeat (first | exact hb.out | refine balloc ?_ _ | refine below_drewN ?_ _ | refine Below.drew ?_))⟩
          case measure => simp [intOf]; omega
        · obtain rfl : n = l.length := by omega
          rw [hend.out]
          go_wp2
          go_ret2
          exact ⟨rfl, below_seq hB1.out hb.out⟩
end Go.Proofs.YtahopffpajkfdaaDoor
namespace Go.Proofs.YtahopffpajkfdaaDoor
open Go.RowKit
set_option linter.unusedVariables false
theorem wt_snoc (x y : Q) : ∀ l : List Q, wt x (l ++ [y]) = wt x l * (if y = x then 1 else y * qinv (y - x))
  | [] => by simp only [List.nil_append, wt]; split <;> grobner
  | z :: l => by simp only [List.cons_append, wt]; rw [wt_snoc x y l]; split <;> grobner
theorem qsum_snoc (f : Q → Q) (y : Q) : ∀ l : List Q, qsum f (l ++ [y]) = qsum f l + f y
  | [] => by simp only [List.nil_append, qsum]; grobner
  | z :: l => by simp only [List.cons_append, qsum]; rw [qsum_snoc f y l]; grobner
theorem qi_inj1 {a b : Int} (ha : 1 ≤ a ∧ a < 1013) (hb : 1 ≤ b ∧ b < 1013) (h : qi a = qi b) : a = b := qi_inj (by omega) (by omega) h
theorem qi_inv (z : Int) : qi ((z % 1013) ^ qE % 1013) = qinv (qi z) := by rw [qi_mod, qi_pow, qi_mod, qinv_pow]
theorem wpre_q (xs : List Int) (hs : ∀ i (h : i < xs.length), 1 ≤ xs[i] ∧ xs[i] < 1013) (hd : ∀ i j (hi : i < xs.length) (hj : j < xs.length), i < j → xs[i] ≠ xs[j]) (i : Nat) (hi : i < xs.length) : ∀ k, k ≤ xs.length → qi (wpre xs i k) = wt (qi xs[i]) ((xs.take k).map qi)
  | 0, _ => by rw [List.take_zero]; exact qi_one
  | k + 1, hk => by
    have ih := wpre_q xs hs hd i hi k (by omega)
    rw [take_snoc3 xs k (by omega), List.map_append, List.map_cons, List.map_nil, wt_snoc, ← ih]
    by_cases hki : k = i
    · subst hki
      rw [wpre_same rfl, if_pos rfl]; grobner
    · have hne : qi xs[k] ≠ qi xs[i] := fun e => by
        have := qi_inj1 (hs k (by omega)) (hs i hi) e
        rcases Nat.lt_or_ge k i with h | h
        · exact hd k i (by omega) hi h this
        · exact hd i k hi (by omega) (by omega) this.symm
      rw [wpre_step hki, if_neg hne, gD (show k < xs.length by omega), gD hi, qi_mod, qi_mul, qi_mod, qi_mul, qi_inv, qi_sub]
      grobner
theorem val_q (x : Int) : ∀ p : List Int, qi (val x p) = ev (p.map qi) (qi x)
  | [] => qi_zero
  | c :: p => by
    show qi ((val x p * x + c) % 1013) = qi c + qi x * ev (p.map qi) (qi x)
    rw [qi_mod, qi_add, qi_mul, val_q x p]; grobner
theorem csum_q (l : List (Int × Int)) (g : Q → Q) (hg : ∀ i (h : i < l.length) (h' : i < (wgts (l.map (·.1))).length), qi ((wgts (l.map (·.1)))[i] * l[i].2) = g (qi l[i].1)) : ∀ n, n ≤ l.length → qi (csum (wgts (l.map (·.1))) (l.map (·.2)) n) = qsum g (((l.map (·.1)).take n).map qi)
  | 0, _ => by rw [List.take_zero]; exact qi_zero
  | n + 1, hn => by
    have ih := csum_q l g hg n (by omega)
    have hw : n < (wgts (l.map (·.1))).length := by rw [wgts_len, List.length_map]; omega
    rw [csum, gD hw, gD (show n < (l.map (·.2)).length by rw [List.length_map]; omega), List.getElem_map, qi_mod, qi_add, ih, hg n (by omega) hw, take_snoc3 _ n (by rw [List.length_map]; omega), List.map_append, List.map_cons, List.map_nil, qsum_snoc, List.getElem_map]
/-- Shares of a polynomial, as many as it has coefficients or more, tell its first one. -/
theorem comb_tells (p : List Int) (l : List (Int × Int)) (h1 : 1 ≤ l.length) (hs : ∀ i (h : i < l.length), 1 ≤ l[i].1 ∧ l[i].1 < 1013 ∧ 0 ≤ l[i].2 ∧ l[i].2 < 1013) (hd : ∀ i j (hi : i < l.length) (hj : j < l.length), i < j → l[i].1 ≠ l[j].1)
    (hy : ∀ i (h : i < l.length), l[i].2 % 1013 = val l[i].1 p % 1013) (hp : p.length ≤ l.length) (c : Int) (c0 : 0 ≤ c) (c1 : c < 1013) (hc : p.getD 0 0 = c) : comb l = c := by
  have hl : (l.map (·.1)).length = l.length := List.length_map ..
  have hs' : ∀ i (h : i < (l.map (·.1)).length), 1 ≤ (l.map (·.1))[i] ∧ (l.map (·.1))[i] < 1013 := fun i h => by rw [List.getElem_map]; exact ⟨(hs i (by omega)).1, (hs i (by omega)).2.1⟩
  have hd' : ∀ i j (hi : i < (l.map (·.1)).length) (hj : j < (l.map (·.1)).length), i < j → (l.map (·.1))[i] ≠ (l.map (·.1))[j] := fun i j hi hj hij => by rw [List.getElem_map, List.getElem_map]; exact hd i j (by omega) (by omega) hij
  have hk := csum_q l (fun x => wt x ((l.map (·.1)).map qi) * ev (p.map qi) x) (fun i h h' => by
    rw [qi_mul, wgts_get, wpre_q _ hs' hd' i (by omega) _ (Nat.le_refl _), List.take_length, List.getElem_map, qi_eq.mpr (hy i h), val_q]) l.length (Nat.le_refl _)
  rw [← hl, List.take_length, hl] at hk
  have hlag := lag_ev ((l.map (·.1)).map qi) (p.map qi) (by intro e; have := congrArg List.length e; rw [List.length_map, List.length_map, List.length_nil] at this; omega)
    (List.pairwise_iff_getElem.mpr (fun i j hi hj hij e => by
      simp only [List.getElem_map] at e
      rw [List.length_map, List.length_map] at hi hj
      exact hd i j hi hj hij (qi_inj1 ⟨(hs i hi).1, (hs i hi).2.1⟩ ⟨(hs j hj).1, (hs j hj).2.1⟩ e))) (by simp; exact hp)
  have he : ev (p.map qi) 0 = qi c := by
    cases p with
    | nil => subst hc; exact qi_zero.symm
    | cons a q =>
      have : a = c := hc
      subst this
      simp only [List.map_cons, ev]; grobner
  have hfin : qi (comb l) = qi c := by rw [← he, ← hlag]; exact hk
  exact qi_inj (csum_bd _ _ _) ⟨c0, c1⟩ hfin
end Go.Proofs.YtahopffpajkfdaaDoor
namespace Go.Proofs.YtahopffpajkfdaaDoor
open Go.RowKit
set_option maxRecDepth 100000
set_option linter.unusedVariables false
set_option linter.unusedSimpArgs false
/-- What is wrong with a secret to be split; 0: nothing. -/
def splitF (l : List Int) (n : Int) : Int := if 12 < l.length then 4 else if l.length = 0 ∨ l.all okR = false ∨ n < 1 ∨ 12 < n then 1 else 0
theorem splitF_0 {l : List Int} {n : Int} (h : splitF l n = 0) : 1 ≤ l.length ∧ l.length ≤ 12 ∧ l.all okR = true ∧ 1 ≤ n ∧ n ≤ 12 := by
  unfold splitF at h
  split at h
  · exact absurd h (by decide)
  split at h
  · exact absurd h (by decide)
  · rename_i g1 g2
    rw [not_or, not_or, not_or] at g2
    exact ⟨by omega, by omega, by cases e : l.all okR with | true => rfl | false => exact absurd e g2.2.1, by omega, by omega⟩
set_option maxHeartbeats 2000000 in
theorem split_n (l : List Int) (v : Value) (n E : Int) (w : World) (hl : l.length ≤ 9223372036854775807) (h : IntSl w v l) (hE : Hid (splitF l n = E)) (h0 : E ≠ 0) :
    Calls Tryd.prog 26 #[v, .int .i64 n] w fun e w' => e = .returned (.tuple #[.slice none 0 0, .iface 114 (.int .i64 E)]) ∧ Below w.heap.size w w' := by
  have hC := contF_s l v w hl h
  have hE := hE.out
  unfold splitF at hE
  obtain ⟨a, cap, rfl, -⟩ := h
  split at hE
  · rename_i g
    subst hE
    have hd : decide ((12 : Int) < (l.length : Int)) = true := by rw [decide_eq_true_eq]; omega
    clear hC
    go_enter Tryd.func26, Tryd.ntmps26
    go_wp2
    go_ret2
    exact ⟨rfl, Below.refl _ _⟩
  split at hE
  · rename_i g1 g2
    subst hE
    have hd : decide ((12 : Int) < (l.length : Int)) = false := by rw [decide_eq_false_iff_not]; omega
    by_cases z0 : l.length = 0
    · have hd2 : ((l.length : Int) == 0) = true := by rw [beq_iff_eq]; omega
      clear hC g2 z0
      go_enter Tryd.func26, Tryd.ntmps26
      go_wp2
      go_ret2
      exact ⟨rfl, Below.refl _ _⟩
    have hd2 : ((l.length : Int) == 0) = false := by rw [beq_eq_false_iff_ne]; omega
    cases ha : l.all okR with
    | false =>
      rw [ha] at hC
      replace hC := Lib.hid hC
      clear g2 z0 ha
      go_enter Tryd.func26, Tryd.ntmps26
      go_wp2_with fail
      refine hC.out.mono ?_; rintro e w' ⟨rfl, rfl⟩
      rw [Bool.not_false]
      go_wp2
      go_ret2
      exact ⟨rfl, Below.refl _ _⟩
    | true =>
      rw [ha] at hC
      replace hC := Lib.hid hC
      by_cases n1 : n < 1
      · clear g2 z0 ha
        go_enter Tryd.func26, Tryd.ntmps26
        go_wp2_with fail
        refine hC.out.mono ?_; rintro e w' ⟨rfl, rfl⟩
        rw [Bool.not_true]
        go_wp2
        go_ret2
        exact ⟨rfl, Below.refl _ _⟩
      · have n2 : 12 < n := by
          rcases g2 with g | g | g | g
          · exact absurd g z0
          · rw [ha] at g; cases g
          · exact absurd g n1
          · exact g
        clear g2 z0 ha
        go_enter Tryd.func26, Tryd.ntmps26
        go_wp2_with fail
        refine hC.out.mono ?_; rintro e w' ⟨rfl, rfl⟩
        rw [Bool.not_true]
        go_wp2
        go_ret2
        exact ⟨rfl, Below.refl _ _⟩
  · exact absurd hE.symm h0
theorem splitL_get (l : List Int) (n i : Nat) (h : i < (splitL l n).length) : (splitL l n)[i] = (((i + 1 : Nat) : Int), val ((i + 1 : Nat) : Int) l) := by simp [splitL]
theorem val_bd (x : Int) (l : List Int) : 0 ≤ val x l ∧ val x l < 1013 := by
  cases l with
  | nil => exact ⟨Int.le_refl 0, by show (0 : Int) < 1013; decide⟩
  | cons c l => exact ⟨Int.emod_nonneg _ (by decide), Int.emod_lt_of_pos _ (by decide)⟩
end Go.Proofs.YtahopffpajkfdaaDoor
namespace Go.Proofs.YtahopffpajkfdaaDoor
open Go.RowKit
set_option linter.unusedVariables false
theorem qinv_ne {a : Q} (h : a ≠ 0) : qinv a ≠ 0 := fun e => by
  have h1 := qmul_inv h
  rw [e] at h1
  have h2 : (0 : Q) = 1 := by grobner
  exact absurd h2 (by decide)
theorem wt_ne (x : Q) : ∀ l : List Q, (∀ y ∈ l, y ≠ 0) → wt x l ≠ 0
  | [], _ => by simp only [wt]; decide
  | y :: l, h => fun e => by
    have ih := wt_ne x l (fun z hz => h z (List.mem_cons_of_mem _ hz))
    have hy := h y (List.mem_cons_self ..)
    simp only [wt] at e
    split at e
    · exact ih e
    · rename_i hne
      rcases qzero_or e with e1 | e1
      · rcases qzero_or e1 with e2 | e2
        · exact hy e2
        · exact qinv_ne (fun e3 => hne (by grobner)) e2
      · exact ih e1
theorem wpre_pos (xs : List Int) (hs : ∀ i (h : i < xs.length), 1 ≤ xs[i] ∧ xs[i] < 1013) (hd : ∀ i j (hi : i < xs.length) (hj : j < xs.length), i < j → xs[i] ≠ xs[j]) (i : Nat) (hi : i < xs.length) : 1 ≤ wpre xs i xs.length := by
  have hb := wpre_bd xs i xs.length
  have hq := wpre_q xs hs hd i hi xs.length (Nat.le_refl _)
  by_cases h : 1 ≤ wpre xs i xs.length
  · exact h
  · exfalso
    have h0 : wpre xs i xs.length = 0 := by omega
    rw [h0, List.take_length] at hq
    refine wt_ne (qi xs[i]) (xs.map qi) (fun y hy => ?_) hq.symm
    obtain ⟨z, hz, rfl⟩ := List.mem_map.mp hy
    obtain ⟨k, hk, rfl⟩ := List.mem_iff_getElem.mp hz
    exact qi_ne (hs k hk).1 (hs k hk).2
/-- What the shares so far add up to, not yet modulo Q. -/
def usum (ws ys : List Int) : Nat → Int
  | 0 => 0
  | n + 1 => usum ws ys n + ws.getD n 0 * ys.getD n 0
theorem usum_csum (ws ys : List Int) : ∀ n, csum ws ys n = usum ws ys n % 1013
  | 0 => rfl
  | n + 1 => by
    have ih := usum_csum ws ys n
    simp only [csum, usum]
    rw [ih]; omega
theorem csum_snoc (ws ys : List Int) (y : Int) : ∀ n, n ≤ ys.length → csum ws (ys ++ [y]) n = csum ws ys n
  | 0, _ => rfl
  | n + 1, h => by
    simp only [csum]
    rw [csum_snoc ws ys y n (by omega), gD (show n < (ys ++ [y]).length by simp; omega), gD (show n < ys.length by omega), List.getElem_append_left (by omega)]
theorem back_end (s o last t : Int) (h : t * last % 1013 = 1) (o0 : 0 ≤ o) (o1 : o < 1013) : (s % 1013 + last * (((o - s) % 1013 * t) % 1013)) % 1013 = o := by
  have k : qi ((s % 1013 + last * (((o - s) % 1013 * t) % 1013)) % 1013) = qi o := by
    have ht : qi t * qi last = 1 := by rw [← qi_mul, ← qi_one]; exact qi_eq.mpr (by rw [h]; rfl)
    rw [qi_mod, qi_add, qi_mod, qi_mul, qi_mod, qi_mul, qi_mod, qi_sub]
    grobner
  exact qi_inj ⟨Int.emod_nonneg _ (by decide), Int.emod_lt_of_pos _ (by decide)⟩ ⟨o0, o1⟩ k
/-- Shares, and one more that is chosen so: they tell what is wanted. -/
theorem comb_more (l : List (Int × Int)) (x y t last o : Int) (hlast : wpre (l.map (·.1) ++ [x]) l.length (l.length + 1) = last) (ht : t * last % 1013 = 1) (o0 : 0 ≤ o) (o1 : o < 1013)
    (hy : ((o - usum (wgts (l.map (·.1) ++ [x])) (l.map (·.2)) l.length) % 1013 * t) % 1013 = y) : comb (l ++ [(x, y)]) = o := by
  have hl : (l.map (·.1)).length = l.length := List.length_map ..
  have hl2 : (l.map (·.2)).length = l.length := List.length_map ..
  have hx : (l.map (·.1) ++ [x]).length = l.length + 1 := by simp
  unfold comb
  simp only [List.map_append, List.map_cons, List.map_nil, List.length_append, List.length_cons, List.length_nil, Nat.zero_add]
  rw [csum, csum_snoc _ _ _ _ (by omega), usum_csum, gD (show l.length < (wgts (l.map (·.1) ++ [x])).length by rw [wgts_len]; simp), wgts_get, hx, hlast,
    gD (show l.length < (l.map (·.2) ++ [y]).length by simp), List.getElem_append_right (by omega)]
  simp only [hl2, Nat.sub_self, List.getElem_cons_zero]
  subst hy
  exact back_end _ _ _ _ ht o0 o1
theorem usum_bd (ws ys : List Int) (hw : ∀ i (h : i < ws.length), 0 ≤ ws[i] ∧ ws[i] < 1013) (hy : ∀ i (h : i < ys.length), 0 ≤ ys[i] ∧ ys[i] < 1013) : ∀ n, n ≤ ws.length → n ≤ ys.length → 0 ≤ usum ws ys n ∧ usum ws ys n ≤ n * 1024144
  | 0, _, _ => ⟨Int.le_refl 0, by simp [usum]⟩
  | n + 1, h1, h2 => by
    obtain ⟨i1, i2⟩ := usum_bd ws ys hw hy n (by omega) (by omega)
    obtain ⟨m1, m2⟩ := mul_bq (hw n (by omega)).1 (hw n (by omega)).2 (hy n (by omega)).1 (hy n (by omega)).2
    simp only [usum]
    rw [gD (show n < ws.length by omega), gD (show n < ys.length by omega)]
    generalize ws[n] * ys[n] = m at *
    omega
/-- So many places there are at most. -/
theorem nodup_lt : ∀ (n : Nat) (l : List Nat), l.Nodup → (∀ x ∈ l, x < n) → l.length ≤ n
  | 0, l, _, h => by
    cases l with
    | nil => exact Nat.le_refl _
    | cons x l => exact absurd (h x (List.mem_cons_self ..)) (Nat.not_lt_zero _)
  | n + 1, l, hd, h => by
    have ih := nodup_lt n (l.erase n) (hd.erase n) (fun x hx => by
      have := (hd.mem_erase_iff).mp hx
      have := h x this.2
      omega)
    rw [List.length_erase] at ih
    split at ih <;> omega
/-- The shares at some places. -/
def pickL (l : List Int) (ps : List Nat) : List (Int × Int) := ps.map fun p => (((p + 1 : Nat) : Int), val ((p + 1 : Nat) : Int) l)
theorem pickL_len (l : List Int) (ps : List Nat) : (pickL l ps).length = ps.length := List.length_map ..
theorem pickL_get (l : List Int) (ps : List Nat) (i : Nat) (h : i < (pickL l ps).length) : (pickL l ps)[i] = (((ps[i]'(by rw [pickL_len] at h; exact h) + 1 : Nat) : Int), val ((ps[i]'(by rw [pickL_len] at h; exact h) + 1 : Nat) : Int) l) := by simp [pickL]
theorem pickL_snoc (l : List Int) (ps : List Nat) (p : Nat) : pickL l (ps ++ [p]) = pickL l ps ++ [(((p + 1 : Nat) : Int), val ((p + 1 : Nat) : Int) l)] := by simp [pickL]
theorem pickL_ok {l : List Int} {ps : List Nat} {n : Nat} (hn : n ≤ 12) (hp : ∀ p ∈ ps, p < n) : ∀ i (h : i < (pickL l ps).length), 1 ≤ (pickL l ps)[i].1 ∧ (pickL l ps)[i].1 < 1013 ∧ 0 ≤ (pickL l ps)[i].2 ∧ (pickL l ps)[i].2 < 1013 := by
  intro i h
  rw [pickL_get]
  have h' : i < ps.length := by rw [pickL_len] at h; exact h
  have := hp _ (List.getElem_mem h')
  have := val_bd ((ps[i] + 1 : Nat) : Int) l
  simp only
  omega
theorem pickL_ne {l : List Int} {ps : List Nat} (hd : ps.Nodup) : ∀ i j (hi : i < (pickL l ps).length) (hj : j < (pickL l ps).length), i < j → (pickL l ps)[i].1 ≠ (pickL l ps)[j].1 := by
  intro i j hi hj hij
  rw [pickL_get, pickL_get]
  have h1 : i < ps.length := by rw [pickL_len] at hi; exact hi
  have h2 : j < ps.length := by rw [pickL_len] at hj; exact hj
  have := List.pairwise_iff_getElem.mp hd i j h1 h2 hij
  simp only
  omega
theorem pickL_tells {l : List Int} {ps : List Nat} {n : Nat} (hn : n ≤ 12) (hp : ∀ p ∈ ps, p < n) (hd : ps.Nodup) (hl1 : 1 ≤ l.length) (hok : l.all okR = true) (hlen : l.length ≤ ps.length) : comb (pickL l ps) = l[0] := by
  have h0 := okR_y (all_okR hok 0 hl1)
  refine comb_tells l (pickL l ps) (by rw [pickL_len]; omega) (pickL_ok hn hp) (pickL_ne hd) (fun i h => ?_) (by rw [pickL_len]; exact hlen) _ h0.1 h0.2 (gD hl1)
  rw [pickL_get]
end Go.Proofs.YtahopffpajkfdaaDoor
namespace Go.Proofs.YtahopffpajkfdaaDoor
open Go.RowKit
set_option linter.unusedVariables false
/-- The value so far, power by power. -/
def fwd (x : Int) (l : List Int) : Nat → Int × Int
  | 0 => (0, 1)
  | n + 1 => (((fwd x l n).1 + l.getD n 0 * (fwd x l n).2) % 1013, (fwd x l n).2 * x % 1013)
theorem fwd_bd (x : Int) (l : List Int) : ∀ n, (0 ≤ (fwd x l n).1 ∧ (fwd x l n).1 < 1013) ∧ (0 ≤ (fwd x l n).2 ∧ (fwd x l n).2 < 1013)
  | 0 => ⟨⟨Int.le_refl 0, by show (0 : Int) < 1013; decide⟩, ⟨by show (0 : Int) ≤ 1; decide, by show (1 : Int) < 1013; decide⟩⟩
  | n + 1 => ⟨⟨Int.emod_nonneg _ (by decide), Int.emod_lt_of_pos _ (by decide)⟩, ⟨Int.emod_nonneg _ (by decide), Int.emod_lt_of_pos _ (by decide)⟩⟩
theorem fwd_q (x : Int) : ∀ (l : List Int) (n : Nat), n ≤ l.length → qi (fwd x l n).2 = qi x ^ n ∧ qi (fwd x l n).1 = ev ((l.take n).map qi) (qi x)
  | l, 0, _ => ⟨by show qi 1 = _; rw [qi_one]; grobner, by rw [List.take_zero]; exact qi_zero⟩
  | l, n + 1, h => by
    obtain ⟨i1, i2⟩ := fwd_q x l n (by omega)
    refine ⟨?_, ?_⟩
    · show qi ((fwd x l n).2 * x % 1013) = _
      rw [qi_mod, qi_mul, i1]; grobner
    · show qi (((fwd x l n).1 + l.getD n 0 * (fwd x l n).2) % 1013) = _
      rw [qi_mod, qi_add, qi_mul, i1, i2, gD (by omega), take_snoc3 l n (by omega), List.map_append, List.map_cons, List.map_nil, ev_snoc, List.length_map, List.length_take, Nat.min_eq_left (by omega)]
where
  ev_snoc (t c : Q) : ∀ l : List Q, ev (l ++ [c]) t = ev l t + c * t ^ l.length
    | [] => by simp only [List.nil_append, ev, List.length_nil]; grobner
    | a :: l => by
      have := fwd_q.ev_snoc t c l
      simp only [List.cons_append, ev, List.length_cons, this]; grobner
theorem fwd_val (x : Int) (l : List Int) : (fwd x l l.length).1 = val x l := by
  have h := (fwd_q x l l.length (Nat.le_refl _)).2
  rw [List.take_length, ← val_q] at h
  exact qi_inj (fwd_bd x l l.length).1 (val_bd x l) h
/-- The numbers above and below the line, so far. -/
def upd (xs : List Int) (i : Nat) : Nat → Int × Int
  | 0 => (1, 1)
  | k + 1 => if k = i then upd xs i k else ((upd xs i k).1 * xs.getD k 0 % 1013, (upd xs i k).2 * ((xs.getD k 0 - xs.getD i 0) % 1013) % 1013)
theorem upd_same {xs : List Int} {i k : Nat} (h : k = i) : upd xs i (k + 1) = upd xs i k := by rw [upd, if_pos h]
theorem upd_step {xs : List Int} {i k : Nat} (h : ¬ k = i) : upd xs i (k + 1) = ((upd xs i k).1 * xs.getD k 0 % 1013, (upd xs i k).2 * ((xs.getD k 0 - xs.getD i 0) % 1013) % 1013) := by rw [upd, if_neg h]
theorem upd_bd (xs : List Int) (i : Nat) : ∀ n, (0 ≤ (upd xs i n).1 ∧ (upd xs i n).1 < 1013) ∧ (0 ≤ (upd xs i n).2 ∧ (upd xs i n).2 < 1013)
  | 0 => ⟨⟨by show (0 : Int) ≤ 1; decide, by show (1 : Int) < 1013; decide⟩, ⟨by show (0 : Int) ≤ 1; decide, by show (1 : Int) < 1013; decide⟩⟩
  | k + 1 => by
    by_cases h : k = i
    · rw [upd_same h]; exact upd_bd xs i k
    · rw [upd_step h]; exact ⟨⟨Int.emod_nonneg _ (by decide), Int.emod_lt_of_pos _ (by decide)⟩, ⟨Int.emod_nonneg _ (by decide), Int.emod_lt_of_pos _ (by decide)⟩⟩
theorem qmul_ne {a b : Q} (ha : a ≠ 0) (hb : b ≠ 0) : a * b ≠ 0 := fun h => by
  rcases qzero_or h with e | e
  · exact ha e
  · exact hb e
/-- What stands above, over what stands below, is the weight. -/
theorem upd_q (xs : List Int) (hs : ∀ i (h : i < xs.length), 1 ≤ xs[i] ∧ xs[i] < 1013) (hd : ∀ i j (hi : i < xs.length) (hj : j < xs.length), i < j → xs[i] ≠ xs[j]) (i : Nat) (hi : i < xs.length) : ∀ k, k ≤ xs.length → qi (upd xs i k).2 ≠ 0 ∧ qi (upd xs i k).1 = qi (upd xs i k).2 * qi (wpre xs i k)
  | 0, _ => by
    refine ⟨?_, ?_⟩
    · show qi 1 ≠ 0; rw [qi_one]; decide
    · show qi 1 = qi 1 * qi 1; rw [qi_one]; grobner
  | k + 1, hk => by
    obtain ⟨i1, i2⟩ := upd_q xs hs hd i hi k (by omega)
    by_cases h : k = i
    · rw [upd_same h, wpre_same h]; exact ⟨i1, i2⟩
    · have hne : qi xs[k] ≠ qi xs[i] := fun e => by
        have := qi_inj1 (hs k (by omega)) (hs i hi) e
        rcases Nat.lt_or_ge k i with h' | h'
        · exact hd k i (by omega) hi h' this
        · exact hd i k hi (by omega) (by omega) this.symm
      have hd' : qi xs[k] - qi xs[i] ≠ 0 := fun e => hne (by grobner)
      have hv := qmul_inv hd'
      rw [upd_step h, wpre_step h, gD (show k < xs.length by omega), gD hi]
      have e1 : qi ((upd xs i k).1 * xs[k] % 1013) = qi (upd xs i k).1 * qi xs[k] := by rw [qi_mod, qi_mul]
      have e2 : qi ((upd xs i k).2 * ((xs[k] - xs[i]) % 1013) % 1013) = qi (upd xs i k).2 * (qi xs[k] - qi xs[i]) := by rw [qi_mod, qi_mul, qi_mod, qi_sub]
      have e3 : qi (wpre xs i k * xs[k] % 1013 * (((xs[k] - xs[i]) % 1013) ^ qE % 1013) % 1013) = qi (wpre xs i k) * qi xs[k] * qinv (qi xs[k] - qi xs[i]) := by rw [qi_mod, qi_mul, qi_mod, qi_mul, qi_inv, qi_sub]
      dsimp only
      rw [e1, e2, e3]
      refine ⟨qmul_ne i1 hd', ?_⟩
      rw [i2]
      generalize qinv (qi xs[k] - qi xs[i]) = v at *
      generalize qi (upd xs i k).2 = D at *
      generalize qi (wpre xs i k) = W at *
      generalize qi xs[k] = Y at *
      generalize qi xs[i] = X at *
      clear hd' hne i1 i2 e1 e2 e3
      grobner
theorem upd_turn (xs : List Int) (hs : ∀ i (h : i < xs.length), 1 ≤ xs[i] ∧ xs[i] < 1013) (hd : ∀ i j (hi : i < xs.length) (hj : j < xs.length), i < j → xs[i] ≠ xs[j]) (i : Nat) (hi : i < xs.length) (t : Int) (ht : t * (upd xs i xs.length).2 % 1013 = 1) : (upd xs i xs.length).1 * t % 1013 = wpre xs i xs.length := by
  obtain ⟨h1, h2⟩ := upd_q xs hs hd i hi xs.length (Nat.le_refl _)
  have ht' : qi t * qi (upd xs i xs.length).2 = 1 := by rw [← qi_mul, ← qi_one]; exact qi_eq.mpr (by rw [ht]; rfl)
  refine qi_inj ⟨Int.emod_nonneg _ (by decide), Int.emod_lt_of_pos _ (by decide)⟩ (wpre_bd xs i _) ?_
  rw [qi_mod, qi_mul, h2]
  generalize qi (upd xs i xs.length).2 = d at *
  generalize qi (wpre xs i xs.length) = v at *
  clear h1 h2
  grobner
theorem upd_pos (xs : List Int) (hs : ∀ i (h : i < xs.length), 1 ≤ xs[i] ∧ xs[i] < 1013) (hd : ∀ i j (hi : i < xs.length) (hj : j < xs.length), i < j → xs[i] ≠ xs[j]) (i : Nat) (hi : i < xs.length) : 1 ≤ (upd xs i xs.length).2 := by
  have h1 := (upd_q xs hs hd i hi xs.length (Nat.le_refl _)).1
  have hb := (upd_bd xs i xs.length).2
  by_cases h : 1 ≤ (upd xs i xs.length).2
  · exact h
  · exfalso
    have : (upd xs i xs.length).2 = 0 := by omega
    exact h1 (by rw [this]; exact qi_zero)
/-- The fault of places. -/
def plF (xs : List Int) : Nat → Int
  | 0 => 0
  | n + 1 => if plF xs n ≠ 0 then plF xs n else if ¬ (1 ≤ xs.getD n 0 ∧ xs.getD n 0 < 1013) then 1 else if xs.getD n 0 ∈ xs.take n then 7 else 0
def placesF (xs : List Int) : Int := if 12 < xs.length then 4 else if xs.length = 0 then 5 else plF xs xs.length
end Go.Proofs.YtahopffpajkfdaaDoor
namespace Go.Proofs.YtahopffpajkfdaaDoor
/-- Of two lists the sum of the products. -/
def dot : List Int → List Int → Int
  | u :: us, c :: cs => u * c + dot us cs
  | _, _ => 0
theorem dot_nil (cs : List Int) : dot [] cs = 0 := by cases cs <;> rfl
theorem dot_snoc : ∀ (us cs : List Int) (n : Nat) (h1 : n < us.length) (h2 : n < cs.length), dot (us.take (n + 1)) cs = dot (us.take n) cs + us[n] * cs[n]
  | [], _, _, h, _ => absurd h (Nat.not_lt_zero _)
  | _ :: _, [], _, _, h => absurd h (Nat.not_lt_zero _)
  | u :: us, c :: cs, 0, _, _ => by simp [dot, dot_nil]
  | u :: us, c :: cs, n + 1, h1, h2 => by
    have := dot_snoc us cs n (by simpa using h1) (by simpa using h2)
    simp only [List.take_succ_cons, dot, List.getElem_cons_succ] at this ⊢
    omega
theorem dot_four : ∀ us cs : List Int, dot (us.map (4 * ·)) cs = 4 * dot us cs
  | [], cs => by simp [dot_nil]
  | _ :: _, [] => by simp [dot]
  | u :: us, c :: cs => by simp only [List.map_cons, dot, dot_four us cs, Int.mul_add, Int.mul_assoc]
/-- The number of each key. -/
def cfs (l : List Sp) : List Int := l.map fun k => hnum (lsB l.length l ++ sBytes k).data.toList
theorem cfs_len (l : List Sp) : (cfs l).length = l.length := by simp [cfs]
theorem cfs_bd (l : List Sp) (i : Nat) (h : i < (cfs l).length) : 0 ≤ (cfs l)[i] ∧ (cfs l)[i] < 1013 := by simp only [cfs, List.getElem_map]; exact hnum_bd _
theorem cfs_get (l : List Sp) (i : Nat) (h : i < l.length) : (cfs l)[i]'(by rw [cfs_len]; exact h) = hnum (lsB l.length l ++ sBytes l[i]).data.toList := by simp only [cfs, List.getElem_map]
/-- Is it a number to sign with. -/
def okB (n : Int) : Bool := decide (1 ≤ n ∧ n < 1013)
/-- What is wrong with those that sign; 0: nothing. -/
def groupF (xs ks : List Int) (n : Nat) : Int := if 12 < xs.length then 4 else if xs.length ≠ ks.length then 3 else if xs.all okB && ks.all okB then (if 60 < n then 4 else 0) else 1
theorem all_at {l : List Int} (h : ∀ i (h : i < l.length), okB l[i] = true) : l.all okB = true := by
  rw [List.all_eq_true]
  intro x hx
  obtain ⟨i, hi, rfl⟩ := List.mem_iff_getElem.mp hx
  exact h i hi
theorem not_all {l : List Int} {i : Nat} (h : i < l.length) (hb : okB l[i] = false) : l.all okB = false := by
  rw [List.all_eq_false]
  exact ⟨l[i], List.getElem_mem h, by rw [hb]; decide⟩
theorem all_get {l : List Int} (h : l.all okB = true) (i : Nat) (hi : i < l.length) : okB l[i] = true := List.all_eq_true.mp h _ (List.getElem_mem hi)
theorem sum_snoc : ∀ (l : List Int) (n : Nat) (h : n < l.length), (l.take (n + 1)).sum = (l.take n).sum + l[n]
  | [], _, h => absurd h (Nat.not_lt_zero _)
  | a :: l, 0, _ => by simp
  | a :: l, n + 1, h => by
    have := sum_snoc l n (by simpa using h)
    simp only [List.take_succ_cons, List.sum_cons, List.getElem_cons_succ] at this ⊢
    omega
theorem sum_bd (l : List Int) (h : ∀ i (h : i < l.length), 1 ≤ l[i] ∧ l[i] < 1013) : ∀ n, n ≤ l.length → 0 ≤ (l.take n).sum ∧ (l.take n).sum ≤ 1012 * n
  | 0, _ => by simp
  | n + 1, hn => by
    have := sum_bd l h n (by omega)
    have := h n (by omega)
    rw [sum_snoc l n (by omega)]
    omega
theorem turn_step (s a c x : Int) : (s + a * c % 1013 * x) % 1013 = (s + a * (x * c)) % 1013 := by
  rw [Int.add_emod, Int.mul_emod (a * c % 1013) x, Int.emod_emod, ← Int.mul_emod, ← Int.add_emod, Int.mul_assoc, Int.mul_comm c x]
/-- One round more of the sum. -/
theorem turn_go {s K a D x c : Int} (h : s % 1013 = (K + a * D) % 1013) : (s + a * c % 1013 * x) % 1013 = (K + a * (D + x * c)) % 1013 := by
  rw [turn_step, Int.mul_add]
  omega
end Go.Proofs.YtahopffpajkfdaaDoor
namespace Go.Proofs.YtahopffpajkfdaaDoor
open Go.RowKit
set_option maxRecDepth 100000
set_option linter.unusedVariables false
set_option linter.unusedSimpArgs false
theorem okB_y {n : Int} (h : okB n = true) : 1 ≤ n ∧ n < 1013 := of_decide_eq_true h
theorem okB_n {n : Int} (h : okB n = false) : ¬ (1 ≤ n ∧ n < 1013) := of_decide_eq_false h
theorem list_sl (l : List Sp) (v : Value) (w : World) (hF : FarAt w) (hl : l.length ≤ 12) (hs : SpSl w v l) (hok : ∀ z ∈ l, Ok z) :
    Calls Tryd.prog 89 #[v] w fun e w' => e = .returned (.tuple #[.string (lsB l.length l), .nilIface]) ∧ Below w.heap.size w w' := by
  obtain ⟨a, cap, rfl, hs⟩ := hs
  cases l with
  | nil => exact list_zero a cap w
  | cons s l =>
    obtain ⟨b, off, rfl, hs'⟩ := hs (Nat.succ_pos _)
    exact list_ok (s :: l) b off cap w hF hl hs' (fun i h => hok _ (List.getElem_mem h))
theorem hashNumber_n (s : ByteArray) (n : Int) (w : World) (hs : s.size ≤ 9223372036854775807) (h : Hid (hnum s.data.toList = n)) : Calls Tryd.prog 92 #[.string s] w fun e w' => e = .returned (.int .i64 n) ∧ Below w.heap.size w w' := by
  rw [← h.out]; exact hashNumber_c s w hs
end Go.Proofs.YtahopffpajkfdaaDoor
namespace Go.Proofs.YtahopffpajkfdaaDoor
open Go.RowKit
/-- A number of the greater field, as the program has it. -/
abbrev twR (z : Z) : Value := .agg #[.int .i64 (fz z.re), .int .i64 (fz z.im)]
set_option maxRecDepth 100000 in
set_option maxHeartbeats 400000 in
theorem twinMul_c (a b c d : Int) (w : World) : Calls Tryd.prog 114 #[.agg #[.int .i64 a, .int .i64 b], .agg #[.int .i64 c, .int .i64 d]] w fun e w' => e = .returned (twR ((zi a b).mul (zi c d))) ∧ Below w.heap.size w w' := by
  go_enter Tryd.func114, Tryd.ntmps114
  go_wp2
  refine wp_region_st 23 Tryd.mixed (by kernel_rfl) ?_
  simp only [List.take_succ_cons, List.take_zero, List.drop_succ_cons, List.drop_zero]
  repeat (first | still_step | still_call (stl (primeMul_c _ _ _)) | still_call (stl (primeSub_c _ _ _)) | still_call (stl (primeAdd_c _ _ _)) | still_call (stl (primeOf_c _ _)))
  refine wpStill_nil ?_
  rw [zmul_re, zmul_im]
  go_wp2
  refine bodyPost_ret (v := twR ((zi a b).mul (zi c d))) (by simp [results, Tryd.results114, go_sem]) rfl ⟨rfl, ?_⟩
  repeat (first | exact Below.refl _ _ | refine Below.drew ?_ | refine balloc ?_ _)
structure TwMem (w wr : World) (za zb oa ob : Int) : Prop where
  a0 : wr.cell? ⟨w.heap.size, 0, none⟩ = some (.int .i64 za)
  a1 : wr.cell? ⟨w.heap.size, 1, none⟩ = some (.int .i64 zb)
  o0 : wr.cell? ⟨w.heap.size + 1 + 1, 0, none⟩ = some (.int .i64 oa)
  o1 : wr.cell? ⟨w.heap.size + 1 + 1, 1, none⟩ = some (.int .i64 ob)
  r0 : wr.cell? ⟨w.heap.size + 1, 0, none⟩ = some (.int .i64 0)
  r1 : wr.cell? ⟨w.heap.size + 1, 1, none⟩ = some (.int .i64 0)
  fa0 : wr.frozen? ⟨w.heap.size, 0, none⟩ = false
  fa1 : wr.frozen? ⟨w.heap.size, 1, none⟩ = false
  fo0 : wr.frozen? ⟨w.heap.size + 1 + 1, 0, none⟩ = false
  fo1 : wr.frozen? ⟨w.heap.size + 1 + 1, 1, none⟩ = false
  fr0 : wr.frozen? ⟨w.heap.size + 1, 0, none⟩ = false
  fr1 : wr.frozen? ⟨w.heap.size + 1, 1, none⟩ = false
  sz : w.heap.size + 1 + 1 < wr.heap.size
  bel : Below w.heap.size w wr
theorem TwMem.below {w wr w1 : World} {za zb oa ob : Int} (h : TwMem w wr za zb oa ob) (hb : Below wr.heap.size wr w1) : TwMem w w1 za zb oa ob := by
  obtain ⟨a0, a1, o0, o1, r0, r1, fa0, fa1, fo0, fo1, fr0, fr1, hsz, hbel⟩ := h
  obtain ⟨hc, hf⟩ := bcell hb
  have := hb.size
  exact ⟨(hc _ _ (by omega)).trans a0, (hc _ _ (by omega)).trans a1, (hc _ _ (by omega)).trans o0, (hc _ _ (by omega)).trans o1, (hc _ _ (by omega)).trans r0, (hc _ _ (by omega)).trans r1,
    (hf _ _ (by omega)).trans fa0, (hf _ _ (by omega)).trans fa1, (hf _ _ (by omega)).trans fo0, (hf _ _ (by omega)).trans fo1, (hf _ _ (by omega)).trans fr0, (hf _ _ (by omega)).trans fr1, by omega, hbel.trans (hb.mono hbel.size)⟩
theorem set2_cell {w : World} {b : Nat} {u v x y : Value} (h0 : w.cell? ⟨b, 0, none⟩ = some u) (h1 : w.cell? ⟨b, 1, none⟩ = some v) :
    ((w.setCell ⟨b, 0, none⟩ x).setCell ⟨b, 1, none⟩ y).cell? ⟨b, 0, none⟩ = some x ∧ ((w.setCell ⟨b, 0, none⟩ x).setCell ⟨b, 1, none⟩ y).cell? ⟨b, 1, none⟩ = some y := by
  constructor
  · rw [World.cell?_setCell_other (h := by simp)]; exact World.cell?_setCell_same _ _ _ h0
  · exact World.cell?_setCell_same _ _ _ (by rw [World.cell?_setCell_other (h := by simp)]; exact h1)
theorem set2_other {w : World} {b c k : Nat} {x y : Value} (h : b ≠ c) : ((w.setCell ⟨b, 0, none⟩ x).setCell ⟨b, 1, none⟩ y).cell? ⟨c, k, none⟩ = w.cell? ⟨c, k, none⟩ := by
  rw [World.cell?_setCell_other (h := fun e => h (congrArg Addr.block e)), World.cell?_setCell_other (h := fun e => h (congrArg Addr.block e))]
theorem set2_below {B : Nat} {a w : World} {b : Nat} {x y : Value} (h : Below B a w) (hb : B ≤ b) : Below B a ((w.setCell ⟨b, 0, none⟩ x).setCell ⟨b, 1, none⟩ y) := (h.setCell hb x).setCell hb y
theorem set2_size {w : World} {b : Nat} {x y : Value} : ((w.setCell ⟨b, 0, none⟩ x).setCell ⟨b, 1, none⟩ y).heap.size = w.heap.size := by simp [World.setCell]
theorem TwMem.setO {w wr : World} {za zb oa ob x y : Int} (h : TwMem w wr za zb oa ob) : TwMem w ((wr.setCell ⟨w.heap.size + 1 + 1, 0, none⟩ (.int .i64 x)).setCell ⟨w.heap.size + 1 + 1, 1, none⟩ (.int .i64 y)) za zb x y := by
  obtain ⟨a0, a1, o0, o1, r0, r1, fa0, fa1, fo0, fo1, fr0, fr1, hsz, hbel⟩ := h
  have k := set2_cell (x := .int .i64 x) (y := .int .i64 y) o0 o1
  refine ⟨?_, ?_, k.1, k.2, ?_, ?_, ?_, ?_, ?_, ?_, ?_, ?_, by rw [set2_size]; exact hsz, set2_below hbel (by omega)⟩
  · rw [set2_other (by omega)]; exact a0
  · rw [set2_other (by omega)]; exact a1
  · rw [set2_other (by omega)]; exact r0
  · rw [set2_other (by omega)]; exact r1
  all_goals simp only [World.frozen?_setCell]; assumption
theorem TwMem.setA {w wr : World} {za zb oa ob x y : Int} (h : TwMem w wr za zb oa ob) : TwMem w ((wr.setCell ⟨w.heap.size, 0, none⟩ (.int .i64 x)).setCell ⟨w.heap.size, 1, none⟩ (.int .i64 y)) x y oa ob := by
  obtain ⟨a0, a1, o0, o1, r0, r1, fa0, fa1, fo0, fo1, fr0, fr1, hsz, hbel⟩ := h
  have k := set2_cell (x := .int .i64 x) (y := .int .i64 y) a0 a1
  refine ⟨k.1, k.2, ?_, ?_, ?_, ?_, ?_, ?_, ?_, ?_, ?_, ?_, by rw [set2_size]; exact hsz, set2_below hbel (by omega)⟩
  · rw [set2_other (by omega)]; exact o0
  · rw [set2_other (by omega)]; exact o1
  · rw [set2_other (by omega)]; exact r0
  · rw [set2_other (by omega)]; exact r1
  all_goals simp only [World.frozen?_setCell]; assumption
theorem TwMem.start (w : World) (a b : Int) : TwMem w (((w.alloc (.cells #[.int .i64 a, .int .i64 b] 81)).alloc (.cells #[.int .i64 0, .int .i64 0] 81)).alloc (.cells #[.int .i64 1, .int .i64 0] 81)) a b 1 0 := by
  refine ⟨?_, ?_, ?_, ?_, ?_, ?_, ?_, ?_, ?_, ?_, ?_, ?_, ?_, balloc (balloc (below_alloc _ _) _) _⟩
  all_goals go_simp
set_option maxRecDepth 100000 in
set_option maxHeartbeats 1000000 in
theorem twinPower_c (a b n : Int) (w : World) (hn : 0 ≤ n) (hm : n ≤ 9223372036854775807) : Calls Tryd.prog 131 #[.agg #[.int .i64 a, .int .i64 b], .int .i64 n] w fun e w' => e = .returned (twR ((zi a b).pow n.toNat)) ∧ Below w.heap.size w w' := by
  go_enter Tryd.func131, Tryd.ntmps131
  go_wp2
  go_loopw [1] (fun m wr => ∃ (n' : Int) (z o : Z) (za zb : Int), m = .int .i64 n' ∧ ZAt ((zi a b).pow n.toNat) z o n' ∧ TwMem w wr za zb (fz o.re) (fz o.im) ∧ Hid (zi za zb = z)) (fun m _ => (intOf m).toNat)
  case atStart =>
    exact ⟨n, zi a b, .one, a, b, rfl, zAt_start _ _ hn hm, TwMem.start w a b, rfl⟩
  case round =>
    obtain ⟨n', z, o, za, zb, rfl, h, hm0, hz⟩ := hrel
    have h1 := (zAt_bd h).1
    have h2 := (zAt_bd h).2
    have hm' := hm0
    obtain ⟨a0, a1, o0, o1, r0, r1, fa0, fa1, fo0, fo1, fr0, fr1, hsz, hbel⟩ := hm'
    by_cases hpos : 0 < n'
    · by_cases hodd : n' % 2 = 1
      · have hb1 : (bits BinOp.and IntKind.i64 n' 1 == 1) = true := by rw [and_one64 n' h1 h2]; simpa using hodd
        go_wp2_with fail
        refine (twinMul_c _ _ _ _ _).mono ?_; rintro e w1 ⟨rfl, hb⟩
        have hm1 := hm0.below hb
        clear hm0 a0 a1 o0 o1 r0 r1 fa0 fa1 fo0 fo1 fr0 fr1 hsz hbel hb
        have hm2 := hm1
        obtain ⟨a0, a1, o0, o1, r0, r1, fa0, fa1, fo0, fo1, fr0, fr1, hsz, hbel⟩ := hm2
        go_wp2_with fail
        refine (twinMul_c _ _ _ _ _).mono ?_; rintro e w2 ⟨rfl, hb2⟩
        have hm3 := (hm1.setO (x := fz ((zi (fz o.re) (fz o.im)).mul (zi za zb)).re) (y := fz ((zi (fz o.re) (fz o.im)).mul (zi za zb)).im)).below hb2
        clear hm1 a0 a1 o0 o1 r0 r1 fa0 fa1 fo0 fo1 fr0 fr1 hsz hbel hb2
        have hm4 := hm3
        obtain ⟨a0, a1, o0, o1, r0, r1, fa0, fa1, fo0, fo1, fr0, fr1, hsz, hbel⟩ := hm4
        go_wp2
        clear a0 a1 o0 o1 r0 r1 fa0 fa1 fo0 fo1 fr0 fr1 hsz hbel
        have hz' := hz.out
        rw [zi_fz, hz'] at hm3
        rw [hz']
        go_roundw
        case rel => exact ⟨n' / 2, z.mul z, o.mul z, _, _, rfl, zAt_odd h hodd, hm3.setA, zi_fz _⟩
        case measure => simp [intOf]; omega
      · have hb1 : (bits BinOp.and IntKind.i64 n' 1 == 1) = false := by rw [and_one64 n' h1 h2]; simpa using hodd
        go_wp2_with fail
        refine (twinMul_c _ _ _ _ _).mono ?_; rintro e w2 ⟨rfl, hb2⟩
        have hm3 := hm0.below hb2
        clear hm0 a0 a1 o0 o1 r0 r1 fa0 fa1 fo0 fo1 fr0 fr1 hsz hbel hb2
        have hm4 := hm3
        obtain ⟨a0, a1, o0, o1, r0, r1, fa0, fa1, fo0, fo1, fr0, fr1, hsz, hbel⟩ := hm4
        go_wp2
        clear a0 a1 o0 o1 r0 r1 fa0 fa1 fo0 fo1 fr0 fr1 hsz hbel
        have hz' := hz.out
        rw [hz']
        go_roundw
        case rel => exact ⟨n' / 2, z.mul z, o, _, _, rfl, zAt_even h (by omega), hm3.setA, zi_fz _⟩
        case measure => simp [intOf]; omega
    · have ho := Lib.hid (zAt_end h (by omega))
      go_wp2
      have k := set2_cell (x := .int .i64 (fz o.re)) (y := .int .i64 (fz o.im)) r0 r1
      have ho := ho.out
      refine bodyPost_ret (v := twR o) (by simp [results, Tryd.results131, go_sem, k.1, k.2]) rfl ⟨by rw [ho], ?_⟩
      exact set2_below hbel (by omega)
end Go.Proofs.YtahopffpajkfdaaDoor
namespace Go.Proofs.YtahopffpajkfdaaDoor
open Go.RowKit
end Go.Proofs.YtahopffpajkfdaaDoor
namespace Go.Proofs.YtahopffpajkfdaaDoor
open Go.RowKit
set_option maxRecDepth 100000
set_option linter.unusedVariables false
set_option linter.unusedSimpArgs false
/-- The package's variable one, where it lies. -/
structure OneAt (w : World) : Prop where
  c0 : w.cell? ⟨1, 0, none⟩ = some (.int .i64 1)
  c1 : w.cell? ⟨1, 1, none⟩ = some (.int .i64 0)
  lt : 1 < w.heap.size
theorem OneAt.below {w w' : World} (h : OneAt w) (hb : Below w.heap.size w w') : OneAt w' :=
  ⟨(hb.cell (p := ⟨1, 0, none⟩) h.lt).trans h.c0, (hb.cell (p := ⟨1, 1, none⟩) h.lt).trans h.c1, Nat.lt_of_lt_of_le h.lt hb.size⟩
/-- A number of the greater field in memory. -/
structure TwAt (w : World) (b : Nat) (z : Z) : Prop where
  c0 : w.cell? ⟨b, 0, none⟩ = some (.int .i64 (fz z.re))
  c1 : w.cell? ⟨b, 1, none⟩ = some (.int .i64 (fz z.im))
  f0 : w.frozen? ⟨b, 0, none⟩ = false
  f1 : w.frozen? ⟨b, 1, none⟩ = false
  lt : b < w.heap.size
theorem TwAt.below {w w' : World} {b : Nat} {z : Z} (h : TwAt w b z) (hb : Below w.heap.size w w') : TwAt w' b z :=
  ⟨(hb.cell (p := ⟨b, 0, none⟩) h.lt).trans h.c0, (hb.cell (p := ⟨b, 1, none⟩) h.lt).trans h.c1, (hb.frozen (p := ⟨b, 0, none⟩) h.lt).trans h.f0, (hb.frozen (p := ⟨b, 1, none⟩) h.lt).trans h.f1, Nat.lt_of_lt_of_le h.lt hb.size⟩
theorem TwAt.set2 {w : World} {b : Nat} {z : Z} (h : TwAt w b z) (v : Z) : TwAt ((w.setCell ⟨b, 0, none⟩ (.int .i64 (fz v.re))).setCell ⟨b, 1, none⟩ (.int .i64 (fz v.im))) b v := by
  have k := set2_cell (x := .int .i64 (fz v.re)) (y := .int .i64 (fz v.im)) h.c0 h.c1
  exact ⟨k.1, k.2, by simp only [World.frozen?_setCell]; exact h.f0, by simp only [World.frozen?_setCell]; exact h.f1, by simpa [World.setCell] using h.lt⟩
theorem cell_else {w : World} {b c o k : Nat} (x : Value) (h : c ≠ b) : (w.setCell ⟨c, o, none⟩ x).cell? ⟨b, k, none⟩ = w.cell? ⟨b, k, none⟩ :=
  by rw [World.cell?_setCell_other (h := fun e => h (congrArg Addr.block e))]
theorem TwAt.other {w : World} {b c o : Nat} {z : Z} (h : TwAt w b z) (x : Value) (hne : c ≠ b) : TwAt (w.setCell ⟨c, o, none⟩ x) b z :=
  ⟨(cell_else x hne).trans h.c0, (cell_else x hne).trans h.c1, by simp only [World.frozen?_setCell]; exact h.f0, by simp only [World.frozen?_setCell]; exact h.f1, by simpa [World.setCell] using h.lt⟩
theorem SpAt.other {w : World} {b c o : Nat} {s : Sp} (h : SpAt w b s) (x : Value) (hne : c ≠ b) : SpAt (w.setCell ⟨c, o, none⟩ x) b s :=
  ⟨(cell_else x hne).trans h.c0, (cell_else x hne).trans h.c1, (cell_else x hne).trans h.c2, by simp only [World.frozen?_setCell]; exact h.f0, by simp only [World.frozen?_setCell]; exact h.f1, by simp only [World.frozen?_setCell]; exact h.f2, by simpa [World.setCell] using h.lt⟩
theorem mul_z (y z : Z) (w : World) : Calls Tryd.prog 114 #[twR y, twR z] w fun e w' => e = .returned (twR (y.mul z)) ∧ Below w.heap.size w w' := by
  have := twinMul_c (fz y.re) (fz y.im) (fz z.re) (fz z.im) w; rw [zi_fz, zi_fz] at this; exact this
theorem power_z (z : Z) (n : Int) (w : World) (h0 : 0 ≤ n) (h1 : n ≤ 9223372036854775807) : Calls Tryd.prog 131 #[twR z, .int .i64 n] w fun e w' => e = .returned (twR (z.pow n.toNat)) ∧ Below w.heap.size w w' := by
  have := twinPower_c (fz z.re) (fz z.im) n w h0 h1; rw [zi_fz] at this; exact this
theorem slope_n (a b : Sp) (w : World) (h : sSlope a b = none) : Calls Tryd.prog 120 #[spV a, spV b] w fun e w' => e = .returned (.tuple #[.int .i64 0, .bool false]) ∧ Below w.heap.size w w' := by
  obtain ⟨x, y, f⟩ := a; obtain ⟨u, v, g⟩ := b
  unfold sSlope at h
  split at h
  · cases h
  · rename_i hx
    have hx' : x = u := Decidable.of_not_not hx
    split at h
    · rename_i hy
      by_cases e : y = v
      · have e0 : y = 0 := by rcases hy with h | h; exact absurd e h; exact h
        exact slope_upright2 x y u v f g w (by simpa using hx') (by simpa using e) (by simpa using e0)
      · exact slope_upright1 x y u v f g w (by simpa using hx') (by simpa using e)
    · cases h
theorem slope_s (a b : Sp) (s : Int) (w : World) (h : sSlope a b = some s) (ha : Ok a) : Calls Tryd.prog 120 #[spV a, spV b] w fun e w' => e = .returned (.tuple #[.int .i64 s, .bool true]) ∧ Below w.heap.size w w' := by
  have y0 := ha.y0; have y1 := ha.y1
  obtain ⟨x, y, f⟩ := a; obtain ⟨u, v, g⟩ := b
  unfold sSlope at h
  split at h
  · rename_i hx
    cases h
    exact slope_unlike x y u v f g w (by simpa using hx)
  · rename_i hx
    have hx' : x = u := Decidable.of_not_not hx
    split at h
    · cases h
    · rename_i hy
      cases h
      exact slope_same x y u v f g w (by simpa using hx') (by simp only [not_or] at hy; simpa using hy.1) (by simp only [not_or] at hy; simpa using hy.2) y0 y1
theorem twR_one : twR .one = .agg #[.int .i64 1, .int .i64 0] := rfl
set_option maxHeartbeats 1000000 in
theorem line_n (a b t : Sp) (w : World) (hO : OneAt w) (h : sSlope a b = none) : Calls Tryd.prog 130 #[spV a, spV b, spV t] w fun e w' => e = .returned (.agg #[.int .i64 1, .int .i64 0]) ∧ Below w.heap.size w w' := by
  go_enter Tryd.func130, Tryd.ntmps130
  go_wp2_with fail
  refine (slope_n a b _ h).mono ?_; rintro e w1 ⟨rfl, hb⟩
  obtain ⟨hc1, hf1⟩ := bcell hb
  have z1 := hb.size
  try simp only [World.size_alloc, World.size_setCell, World.size_drew] at z1
  have s1_0 : w.heap.size < w1.heap.size := by omega
  have s1_1 : w.heap.size + 1 < w1.heap.size := by omega
  have s1_2 : w.heap.size + 1 + 1 < w1.heap.size := by omega
  have s1_3 : w.heap.size + 1 + 1 + 1 < w1.heap.size := by omega
  have hB1 : Below w.heap.size w w1 := below_seq (by repeat (first | exact Below.refl _ _ | refine balloc ?_ _ | refine Below.drew ?_ | refine below_drewN ?_ _ | refine below_set ?_ (by first | omega | (dsimp only; omega)) _)) hb
  clear hb
  have hO1 := hO.below hB1
  obtain ⟨q0, q1, ql⟩ := hO
  have q2 : 0 < w.heap.size := Nat.lt_of_le_of_lt (Nat.zero_le _) ql
  obtain ⟨o0, o1, ol⟩ := hO1
  have r0 : w1.cell? ⟨w.heap.size + 1 + 1 + 1, 0, none⟩ = some (.int .i64 0) := by go_simp
  have r1 : w1.cell? ⟨w.heap.size + 1 + 1 + 1, 1, none⟩ = some (.int .i64 0) := by go_simp
  go_wp2
  have k := set2_cell (w := w1) (x := .int .i64 1) (y := .int .i64 0) r0 r1
  refine bodyPost_ret (v := .agg #[.int .i64 1, .int .i64 0]) (by simp [results, Tryd.results130, go_sem, k.1, k.2]) rfl ⟨rfl, set2_below (by repeat (first | exact hB1 | exact Below.refl _ _ | refine balloc ?_ _ | refine Below.drew ?_ | refine below_drewN ?_ _ | refine below_set ?_ (by first | omega | (dsimp only; omega)) _)) (by omega)⟩
theorem agg2_eq {a b c d : Int} (h : a = c) (k : b = d) : Ending.returned (.agg #[.int .i64 a, .int .i64 b]) = .returned (.agg #[.int .i64 c, .int .i64 d]) := by rw [h, k]
theorem line_alg (a t : Sp) (s : Int) (ht : 0 ≤ t.y ∧ t.y < 4051) : pSub (pMul s (t.x + a.x)) a.y = fz (⟨fi s * (fi t.x + fi a.x) - fi a.y, fi t.y⟩ : Z).re ∧ t.y = fz (⟨fi s * (fi t.x + fi a.x) - fi a.y, fi t.y⟩ : Z).im :=
  ⟨fz_eq (r_pSub _ _) (by rw [fi_pSub, fi_pMul, fi_add]), fz_eq ht rfl⟩
set_option maxHeartbeats 1000000 in
theorem line_s (a b t : Sp) (s : Int) (w : World) (h : sSlope a b = some s) (ha : Ok a) (ht : Ok t) : Calls Tryd.prog 130 #[spV a, spV b, spV t] w fun e w' => e = .returned (twR (zLine a b t)) ∧ Below w.heap.size w w' := by
  have hz : Hid (zLine a b t = ⟨fi s * (fi t.x + fi a.x) - fi a.y, fi t.y⟩) := by show _ = _; unfold zLine; rw [h]
  have hl := Lib.hid (line_alg a t s ⟨ht.y0, ht.y1⟩)
  have e1 : IntKind.i64.wrap (t.x + a.x) = t.x + a.x := IntWalk.i64_in _ (by have := ha.x0; have := ha.x1; have := ht.x0; have := ht.x1; omega)
  go_enter Tryd.func130, Tryd.ntmps130
  go_wp2_with fail
  refine (slope_s a b s _ h ha).mono ?_; rintro e w1 ⟨rfl, hb⟩
  obtain ⟨hc1, hf1⟩ := bcell hb
  have z1 := hb.size
  try simp only [World.size_alloc, World.size_setCell, World.size_drew] at z1
  have s1_0 : w.heap.size < w1.heap.size := by omega
  have s1_1 : w.heap.size + 1 < w1.heap.size := by omega
  have s1_2 : w.heap.size + 1 + 1 < w1.heap.size := by omega
  have s1_3 : w.heap.size + 1 + 1 + 1 < w1.heap.size := by omega
  have hB1 : Below w.heap.size w w1 := below_seq (by repeat (first | exact Below.refl _ _ | refine balloc ?_ _ | refine Below.drew ?_ | refine below_drewN ?_ _ | refine below_set ?_ (by first | omega | (dsimp only; omega)) _)) hb
  clear hb
  go_wp2_with fail
  refine wp_region_grow_tail 13 Tryd.mixed (by kernel_rfl) ?_
  simp only [List.take_succ_cons, List.take_zero, List.drop_succ_cons, List.drop_zero]
  repeat (quiet_step ((first | (go_at_call 118; exact grow_same (primeMul_c _ _ _)) | (go_at_call 121; exact grow_same (primeSub_c _ _ _)))))
  refine wpQuiet_nil ?_
  intro _ hw'
  obtain ⟨x2, rfl⟩ := hw'
  have z2 := x2.h.size
  try simp only [World.size_alloc, World.size_setCell, World.size_drew] at z2
  have s2_0 : w.heap.size < x2.w.heap.size := by omega
  have s2_1 : w.heap.size + 1 < x2.w.heap.size := by omega
  have s2_2 : w.heap.size + 1 + 1 < x2.w.heap.size := by omega
  have s2_3 : w.heap.size + 1 + 1 + 1 < x2.w.heap.size := by omega
  have hB2 : Below w.heap.size w x2.w := below_seq (by repeat (first | exact hB1 | exact Below.refl _ _ | refine balloc ?_ _ | refine Below.drew ?_ | refine below_drewN ?_ _ | refine below_set ?_ (by first | omega | (dsimp only; omega)) _)) x2.h
  have r0 : x2.w.cell? ⟨w.heap.size + 1 + 1 + 1, 0, none⟩ = some (.int .i64 0) := by go_simp
  have r1 : x2.w.cell? ⟨w.heap.size + 1 + 1 + 1, 1, none⟩ = some (.int .i64 0) := by go_simp
  clear e1
  go_wp2
  have k := set2_cell (w := x2.w) (x := .int .i64 (pSub (pMul s (t.x + a.x)) a.y)) (y := .int .i64 t.y) r0 r1
  refine bodyPost_ret (v := .agg #[.int .i64 (pSub (pMul s (t.x + a.x)) a.y), .int .i64 t.y]) (by simp [results, Tryd.results130, go_sem, k.1, k.2]) rfl ⟨?_, set2_below (by repeat (first | exact hB2 | exact Below.refl _ _ | refine balloc ?_ _ | refine Below.drew ?_ | refine below_drewN ?_ _ | refine below_set ?_ (by first | omega | (dsimp only; omega)) _)) (by omega)⟩
  rw [hz.out]
  exact agg2_eq hl.out.1 hl.out.2
theorem line_c (a b t : Sp) (w : World) (hO : OneAt w) (ha : Ok a) (ht : Ok t) : Calls Tryd.prog 130 #[spV a, spV b, spV t] w fun e w' => e = .returned (twR (zLine a b t)) ∧ Below w.heap.size w w' := by
  cases h : sSlope a b with
  | none =>
    have e : zLine a b t = .one := by unfold zLine; rw [h]
    rw [e]; exact line_n a b t w hO h
  | some s => exact line_s a b t s w h ha ht
set_option maxHeartbeats 1000000 in
theorem len_c (w : World) : Calls Tryd.prog 129 #[.int .u64 1013] w fun e w' => e = .returned (.int .i64 10) ∧ Below w.heap.size w w' := by
  go_enter Tryd.func129, Tryd.ntmps129
  go_wp2
  go_ret
  exact ⟨by kernel_rfl, Below.refl _ _⟩
end Go.Proofs.YtahopffpajkfdaaDoor
namespace Go.Proofs.YtahopffpajkfdaaDoor
open Go.RowKit
set_option maxRecDepth 100000
set_option linter.unusedVariables false
set_option linter.unusedSimpArgs false
theorem take_snoc {α : Type} (l : List α) (n : Nat) (h : n < l.length) : l.take (n + 1) = l.take n ++ [l[n]] := by
  rw [List.take_add_one, List.getElem?_eq_getElem h]; rfl
end Go.Proofs.YtahopffpajkfdaaDoor
namespace Go.Proofs.YtahopffpajkfdaaDoor
open Go.RowKit
set_option maxRecDepth 100000
set_option linter.unusedVariables false
set_option linter.unusedSimpArgs false
/-- The error, as nothing or something. -/
theorem errV_0 : errV 0 = .nilIface := rfl
theorem groupF_0 {xs ks : List Int} {n : Nat} (h : groupF xs ks n = 0) : xs.length ≤ 12 ∧ ks.length = xs.length ∧ (∀ i (h : i < xs.length), 1 ≤ xs[i] ∧ xs[i] < 1013) ∧ (∀ i (h : i < ks.length), 1 ≤ ks[i] ∧ ks[i] < 1013) ∧ n ≤ 60 := by
  unfold groupF at h
  split at h
  · exact absurd h (by decide)
  split at h
  · exact absurd h (by decide)
  split at h
  · rename_i g1 g2 g3
    rw [Bool.and_eq_true] at g3
    split at h
    · exact absurd h (by decide)
    · exact ⟨by omega, by omega, fun i hi => okB_y (all_get g3.1 i hi), fun i hi => okB_y (all_get g3.2 i hi), by omega⟩
  · exact absurd h (by decide)
/-- A block of four cells, a seal's, all zero. -/
structure Z4 (w : World) (b : Nat) : Prop where
  c0 : w.cell? ⟨b, 0, none⟩ = some (.int .i64 0)
  c1 : w.cell? ⟨b, 1, none⟩ = some (.int .i64 0)
  c2 : w.cell? ⟨b, 2, none⟩ = some (.bool false)
  c3 : w.cell? ⟨b, 3, none⟩ = some (.int .i64 0)
  f0 : w.frozen? ⟨b, 0, none⟩ = false
  f1 : w.frozen? ⟨b, 1, none⟩ = false
  f2 : w.frozen? ⟨b, 2, none⟩ = false
  f3 : w.frozen? ⟨b, 3, none⟩ = false
  lt : b < w.heap.size
theorem Z4.below {w w' : World} {b : Nat} (h : Z4 w b) (hb : Below w.heap.size w w') : Z4 w' b := by
  obtain ⟨k, k'⟩ := bcell hb
  exact ⟨(k _ _ h.lt).trans h.c0, (k _ _ h.lt).trans h.c1, (k _ _ h.lt).trans h.c2, (k _ _ h.lt).trans h.c3, (k' _ _ h.lt).trans h.f0, (k' _ _ h.lt).trans h.f1, (k' _ _ h.lt).trans h.f2, (k' _ _ h.lt).trans h.f3, Nat.lt_of_lt_of_le h.lt hb.size⟩
theorem Z4.fresh (w : World) (t : TypeId) : Z4 (w.alloc (.cells #[.int .i64 0, .int .i64 0, .bool false, .int .i64 0] t)) w.heap.size := ⟨by simp, by simp, by simp, by simp, by simp, by simp, by simp, by simp, by simp⟩
theorem mul_1 {a b : Int} (h0 : 0 ≤ a) (h1 : a < 1013) (k0 : 0 ≤ b) (k1 : b < 1013) : 0 ≤ a * b ∧ a * b ≤ 1024144 :=
  ⟨Int.mul_nonneg h0 k0, Int.le_trans (Int.mul_le_mul (show a ≤ 1012 by omega) (show b ≤ 1012 by omega) k0 (by decide)) (by decide)⟩
end Go.Proofs.YtahopffpajkfdaaDoor
namespace Go.Proofs.YtahopffpajkfdaaDoor
open Go.RowKit
set_option maxRecDepth 100000
set_option linter.unusedVariables false
set_option linter.unusedSimpArgs false
def unpackR : List UInt8 → Option Sp
  | [c] => if c = 0 then some sFar else none
  | [c0, c1, c2] => if inside ((c1.toNat : Int) * 256 + (c2.toNat : Int)) = true ∧ isSq (height ((c1.toNat : Int) * 256 + (c2.toNat : Int))) = true then
      (if ((sBytes (unS c0 (lifted ((c1.toNat : Int) * 256 + (c2.toNat : Int))))).toList == [c0, c1, c2]) = true then some (unS c0 (lifted ((c1.toNat : Int) * 256 + (c2.toNat : Int)))) else none) else none
  | _ => none
theorem unpackR_three (c0 c1 c2 : UInt8) : unpackR [c0, c1, c2] = if inside ((c1.toNat : Int) * 256 + (c2.toNat : Int)) = true ∧ isSq (height ((c1.toNat : Int) * 256 + (c2.toNat : Int))) = true then
      (if ((sBytes (unS c0 (lifted ((c1.toNat : Int) * 256 + (c2.toNat : Int))))).toList == [c0, c1, c2]) = true then some (unS c0 (lifted ((c1.toNat : Int) * 256 + (c2.toNat : Int)))) else none) else none := rfl
def unV : Option Sp → Value
  | some s => .tuple #[spV s, .nilIface]
  | none => .tuple #[spV ⟨0, 0, false⟩, .iface 114 (.int .i64 2)]
end Go.Proofs.YtahopffpajkfdaaDoor
namespace Go.Proofs.YtahopffpajkfdaaDoor
open Go.RowKit
set_option maxRecDepth 100000
set_option linter.unusedVariables false
set_option linter.unusedSimpArgs false
/-- Two bytes of a place are it again. -/
theorem two_bytes {x : Int} (h0 : 0 ≤ x) (h1 : x < 4051) : ((UInt8.ofNat (x / 256).toNat).toNat : Int) * 256 + ((UInt8.ofNat (x % 256).toNat).toNat : Int) = x := by
  rw [UInt8.toNat_ofNat', UInt8.toNat_ofNat']; omega
theorem sBytes_far {s : Sp} (hf : s.far = true) : (sBytes s).data.toList = [0] := by unfold sBytes; rw [if_pos hf]
theorem sBytes_big {s : Sp} (hf : s.far = false) (hy : pOf (-s.y) < s.y) : (sBytes s).data.toList = [2, UInt8.ofNat (s.x / 256).toNat, UInt8.ofNat (s.x % 256).toNat] := by
  unfold sBytes; rw [if_neg (by rw [hf]; decide), if_pos hy, strOfNums_data]; rfl
theorem sBytes_small {s : Sp} (hf : s.far = false) (hy : ¬ pOf (-s.y) < s.y) : (sBytes s).data.toList = [1, UInt8.ofNat (s.x / 256).toNat, UInt8.ofNat (s.x % 256).toNat] := by
  unfold sBytes; rw [if_neg (by rw [hf]; decide), if_neg hy, strOfNums_data]; rfl
theorem unpack_sBytes {s : Sp} (h : Ok s) : unpackR (sBytes s).data.toList = some s := by
  cases hf : s.far
  · have hx := two_bytes h.x0 h.x1
    have hs := ok_isSq h hf
    by_cases hy : pOf (-s.y) < s.y
    · rw [sBytes_big hf hy, unpackR_three, hx, if_pos ⟨h.ins, hs⟩]
      have e : unS 2 (lifted s.x) = s := by unfold unS; rw [if_pos (by decide)]; exact (lifted_gt h hf hy).symm
      rw [e, if_pos]; rw [ByteArray.toList_eq, sBytes_big hf hy]; simp
    · rw [sBytes_small hf hy, unpackR_three, hx, if_pos ⟨h.ins, hs⟩]
      have e : unS 1 (lifted s.x) = s := by unfold unS; rw [if_neg (by decide)]; exact (lifted_le h hf (by omega)).symm
      rw [e, if_pos]; rw [ByteArray.toList_eq, sBytes_small hf hy]; simp
  · rw [sBytes_far hf]; show (if (0 : UInt8) = 0 then some sFar else none) = some s
    rw [if_pos rfl, h.far_eq hf]
theorem unpack_some {l : List UInt8} {s : Sp} (h : unpackR l = some s) : Ok s ∧ (sBytes s).data.toList = l := by
  match l, h with
  | [c], h =>
    have h : (if c = 0 then some sFar else none) = some s := h
    split at h
    · rename_i e; cases h; exact ⟨ok_far, by rw [sBytes_far rfl, e]⟩
    · cases h
  | [c0, c1, c2], h =>
    rw [unpackR_three] at h
    split at h
    · rename_i hi
      split at h
      · rename_i he
        have hl := lifted_ok hi.1 hi.2
        rw [ByteArray.toList_eq] at he
        cases h
        refine ⟨?_, by simpa using he⟩
        unfold unS; split
        · exact (turned_ok hl).1
        · exact hl
      · cases h
    · cases h
  | [], h => cases h
  | [_, _], h => cases h
  | _ :: _ :: _ :: _ :: _, h => cases h
theorem bytes_ext {a b : ByteArray} (h : a.data.toList = b.data.toList) : a = b := by
  obtain ⟨⟨x⟩⟩ := a; obtain ⟨⟨y⟩⟩ := b; simp only at h; rw [h]
theorem sBytes_inj {s t : Sp} (hs : Ok s) (ht : Ok t) (h : sBytes s = sBytes t) : s = t := by
  have := unpack_sBytes hs; rw [h, unpack_sBytes ht] at this; exact (Option.some.inj this).symm
end Go.Proofs.YtahopffpajkfdaaDoor
namespace Go.Proofs.YtahopffpajkfdaaDoor
open Go.RowKit
set_option maxRecDepth 100000
set_option linter.unusedVariables false
set_option linter.unusedSimpArgs false
set_option maxHeartbeats 1000000 in
theorem refBytes_far (x y : Int) (w : World) : Calls Tryd.prog 88 #[.agg #[.int .i64 x, .int .i64 y, .bool true]] w fun e w' => e = .returned (.string ⟨#[0]⟩) ∧ Below w.heap.size w w' := by
  go_enter Tryd.func88, Tryd.ntmps88
  go_wp2
  go_ret
  exact ⟨rfl, (by repeat (first | exact Below.refl _ _ | refine balloc ?_ _ | refine Below.drew ?_ | refine below_drewN ?_ _ | refine below_set ?_ (by first | omega | (dsimp only; omega)) _))⟩
set_option maxHeartbeats 1000000 in
theorem refBytes_big (x y : Int) (w : World) (x0 : 0 ≤ x) (x1 : x < 4051) (y0 : 0 ≤ y) (y1 : y < 4051) (h : 4051 < 2 * y) : Calls Tryd.prog 88 #[.agg #[.int .i64 x, .int .i64 y, .bool false]] w fun e w' => e = .returned (.string (strOfNums [2, x / 256, x % 256])) ∧ Below w.heap.size w w' := by
  have hcv := conv3 ((w.alloc (.cells #[.int .i64 x, .int .i64 y, .bool false] 29)).alloc (.cells #[.int .u8 2, .int .u8 (x / 256), .int .u8 (x % 256)] 5)) (w.heap.size + 1) 2 (x / 256) (x % 256) (by go_simp) (by go_simp) (by go_simp)
  go_enter Tryd.func88, Tryd.ntmps88
  go_wp2
  go_ret
  exact ⟨rfl, balloc (below_alloc _ _) _⟩
set_option maxHeartbeats 1000000 in
theorem refBytes_small (x y : Int) (w : World) (x0 : 0 ≤ x) (x1 : x < 4051) (y0 : 0 ≤ y) (y1 : y < 4051) (h : ¬ 4051 < 2 * y) : Calls Tryd.prog 88 #[.agg #[.int .i64 x, .int .i64 y, .bool false]] w fun e w' => e = .returned (.string (strOfNums [1, x / 256, x % 256])) ∧ Below w.heap.size w w' := by
  have hcv := conv3 ((w.alloc (.cells #[.int .i64 x, .int .i64 y, .bool false] 29)).alloc (.cells #[.int .u8 1, .int .u8 (x / 256), .int .u8 (x % 256)] 5)) (w.heap.size + 1) 1 (x / 256) (x % 256) (by go_simp) (by go_simp) (by go_simp)
  go_enter Tryd.func88, Tryd.ntmps88
  go_wp2
  go_ret
  exact ⟨rfl, balloc (below_alloc _ _) _⟩
theorem big_iff {y : Int} (y0 : 0 ≤ y) (y1 : y < 4051) : pOf (-y) < y ↔ 4051 < 2 * y := by
  by_cases h : y = 0
  · subst h; unfold pOf; decide
  · have e : pOf (-y) = 4051 - y := by
      unfold pOf
      rw [show -y = (4051 - y) + 4051 * (-1) by omega, Int.add_mul_emod_self_left]
      exact Int.emod_eq_of_lt (by omega) (by omega)
    rw [e]; omega
theorem refBytes_c (s : Sp) (w : World) (h : Ok s) : Calls Tryd.prog 88 #[spV s] w fun e w' => e = .returned (.string (sBytes s)) ∧ Below w.heap.size w w' := by
  have x0 := h.x0; have x1 := h.x1; have y0 := h.y0; have y1 := h.y1
  obtain ⟨x, y, f⟩ := s
  simp only at x0 x1 y0 y1
  cases f
  · by_cases hy : pOf (-y) < y
    · have e : sBytes ⟨x, y, false⟩ = strOfNums [2, x / 256, x % 256] := by simp [sBytes, hy]
      rw [e]; exact refBytes_big x y w x0 x1 y0 y1 ((big_iff y0 y1).mp hy)
    · have e : sBytes ⟨x, y, false⟩ = strOfNums [1, x / 256, x % 256] := by simp [sBytes, hy]
      rw [e]; exact refBytes_small x y w x0 x1 y0 y1 (fun c => hy ((big_iff y0 y1).mpr c))
  · exact refBytes_far x y w
theorem refBytes_e (s : Sp) (B : ByteArray) (w : World) (h : Ok s) (hB : Hid (sBytes s = B)) : Calls Tryd.prog 88 #[spV s] w fun e w' => e = .returned (.string B) ∧ Below w.heap.size w w' := by
  have := refBytes_c s w h; rw [hB.out] at this; exact this
theorem refSpots_full (l : Nat) (a : Option Addr) (cap : Nat) (w : World) (hl : 12 < l) (hm : l ≤ 9223372036854775807) : Calls Tryd.prog 31 #[.slice a l cap] w fun e w' => e = .returned (.int .i64 4) ∧ Below w.heap.size w w' := by
  have hd : decide ((12 : Int) < (l : Int)) = true := by rw [decide_eq_true_iff]; omega
  go_enter Tryd.func31, Tryd.ntmps31
  go_wp2
  go_ret
  exact ⟨rfl, (by repeat (first | exact Below.refl _ _ | refine balloc ?_ _ | refine Below.drew ?_ | refine below_drewN ?_ _ | refine below_set ?_ (by first | omega | (dsimp only; omega)) _))⟩
theorem refSpots_nil (a : Option Addr) (cap : Nat) (w : World) : Calls Tryd.prog 31 #[.slice a 0 cap] w fun e w' => e = .returned (.int .i64 0) ∧ Below w.heap.size w w' := by
  go_enter Tryd.func31, Tryd.ntmps31
  go_wp2
  refine wp_loop_rounds 1 ?_
  rw [rounds_succ]
  go_wp2
  go_ret
  exact ⟨rfl, (by repeat (first | exact Below.refl _ _ | refine balloc ?_ _ | refine Below.drew ?_ | refine below_drewN ?_ _ | refine below_set ?_ (by first | omega | (dsimp only; omega)) _))⟩
set_option maxHeartbeats 1000000 in
theorem refSpots_core (l : List Sp) (b off cap : Nat) (w : World) (hl : l.length ≤ 12) (hs : SpotsAt w b off l) (k : Nat) (hk : k ≤ l.length) (R : Int) (hok : Hid (∀ i (h : i < l.length), i < k → sCheck l[i] = 0))
    (hbad : Hid (∀ h : k < l.length, (sCheck l[k] != 0) = true ∧ R = sCheck l[k])) (hend : Hid (k = l.length → R = 0)) :
    Calls Tryd.prog 31 #[.slice (some ⟨b, off, none⟩) l.length cap] w fun e w' => e = .returned (.int .i64 R) ∧ Below w.heap.size w w' := by
  have hd : decide ((12 : Int) < (l.length : Int)) = false := by rw [decide_eq_false_iff_not]; omega
  have hss := Lib.hid hs
  clear hs
  go_enter Tryd.func31, Tryd.ntmps31
  go_wp2
  go_loopw [3] (fun i wr => ∃ n : Nat, n ≤ k ∧ i = .int .i64 n ∧ Below w.heap.size w wr) (fun i _ => l.length - (intOf i).toNat)
  case atStart => exact ⟨0, Nat.zero_le _, rfl, Below.refl _ _⟩
  case round =>
    obtain ⟨n, hn, rfl, hb⟩ := hrel
    have hsr := hss.out.below hb
    by_cases hlt : n < l.length
    · have h1 := hsr.cx n hlt
      have h2 := hsr.cy n hlt
      have h3 := hsr.cf n hlt
      clear hsr
      by_cases hnk : n < k
      · have ho := Lib.hid (hok.out n hlt hnk)
        go_wp2_with fail
        refine (refSpot_e l[n] 0 _ ho).mono ?_; rintro e w1 ⟨rfl, hb1⟩
        clear h1 h2 h3
        go_wp2
        go_roundw
        case rel => exact ⟨n + 1, by omega, by go_num, below_seq hb hb1⟩
        case measure => simp [intOf]; omega
      · obtain rfl : n = k := by omega
        obtain ⟨hbd, hR⟩ := hbad.out hlt
        replace hR := Lib.hid hR
        go_wp2_with fail
        refine (refSpot_c l[n] _).mono ?_; rintro e w1 ⟨rfl, hb1⟩
        clear h1 h2 h3
        go_wp2
        go_ret
        exact ⟨ret_int hR.out.symm, below_seq hb hb1⟩
    · have hkl : k = l.length := by omega
      have hR := Lib.hid (hend.out hkl)
      clear hkl
      go_wp2
      go_ret
      exact ⟨ret_int hR.out.symm, hb⟩
set_option maxHeartbeats 1000000 in
theorem refList_nil (a : Option Addr) (cap : Nat) (w : World) : Calls Tryd.prog 87 #[.slice a 0 cap] w fun e w' => e = .returned (.string (strOfNums [0])) ∧ Below w.heap.size w w' := by
  have hcv := conv1 (w.alloc (.cells #[.int .u8 0] 5)) w.heap.size 0 (by go_simp)
  go_enter Tryd.func87, Tryd.ntmps87
  go_wp2
  refine wp_loop_rounds 1 ?_
  rw [rounds_succ]
  go_wp2
  go_ret
  exact ⟨rfl, below_alloc _ _⟩
set_option maxHeartbeats 1000000 in
theorem refList_ok (l : List Sp) (b off cap : Nat) (w : World) (hl : l.length ≤ 12) (hs : SpotsAt w b off l) (h : Hid (∀ i (h : i < l.length), Ok l[i])) :
    Calls Tryd.prog 87 #[.slice (some ⟨b, off, none⟩) l.length cap] w fun e w' => e = .returned (.string (lsB l.length l)) ∧ Below w.heap.size w w' := by
  have hcv := conv1 (w.alloc (.cells #[.int .u8 l.length] 5)) w.heap.size l.length (by go_simp)
  go_enter Tryd.func87, Tryd.ntmps87
  go_wp2
  have hss := Lib.hid (hs.below (below_alloc w (.cells #[.int .u8 l.length] 5)))
  have hBs := Lib.hid (below_alloc w (.cells #[.int .u8 l.length] 5))
  clear hcv hs
  generalize w.alloc (.cells #[.int .u8 l.length] 5) = w0 at *
  go_loopw [4, 5] (fun o i wr => ∃ n : Nat, n ≤ l.length ∧ i = .int .i64 n ∧ o = .string (lsB l.length (l.take n)) ∧ Below w0.heap.size w0 wr) (fun _ i _ => l.length - (intOf i).toNat)
  case atStart => exact ⟨0, Nat.zero_le _, rfl, rfl, Below.refl _ _⟩
  case round =>
    obtain ⟨n, hn, rfl, rfl, hb⟩ := hrel
    have hsr := hss.out.below hb
    by_cases hlt : n < l.length
    · have h1 := hsr.cx n hlt
      have h2 := hsr.cy n hlt
      have h3 := hsr.cf n hlt
      clear hsr
      have ho := h.out n hlt
      have hsn := Lib.hid (lsB_snoc l.length l n hlt)
      go_wp2_with fail
      refine (refBytes_c l[n] _ ho).mono ?_; rintro e w1 ⟨rfl, hb1⟩
      clear h1 h2 h3 ho
      have hz1 := lsB_size l.length (l.take n)
      have hz2 := sBytes_size l[n]
      have hz3 : (l.take n).length ≤ 12 := by rw [List.length_take]; omega
      have hz4 : (lsB l.length (l.take n)).size ≤ 37 := by omega
      clear hz1 hz3
      go_wp2
      go_roundw
      case rel => exact ⟨n + 1, by omega, by go_num, by rw [hsn.out], below_seq hb hb1⟩
      case measure => simp [intOf]; omega
    · have ht : Hid (l.take n = l) := List.take_of_length_le (by omega)
      go_wp2
      go_ret
      exact ⟨ret_string (by rw [ht.out]), below_seq hBs.out hb⟩
end Go.Proofs.YtahopffpajkfdaaDoor
namespace Go.Proofs.YtahopffpajkfdaaDoor
open Go.RowKit
set_option maxRecDepth 100000
set_option linter.unusedVariables false
set_option linter.unusedSimpArgs false
set_option maxHeartbeats 1000000 in
theorem refLong_c (s : ByteArray) (w : World) (hs : s.size ≤ 9223372036854775807) : Calls Tryd.prog 68 #[.string s] w fun e w' => e = .returned (.int .i64 (lng s.data.toList)) ∧ Below w.heap.size w w' := by
  have hlen : s.data.toList.length = s.size := rfl
  have HL := Lib.hid hlen; clear hlen
  go_enter Tryd.func68, Tryd.ntmps68
  go_wp2
  go_loop [3, 4] (fun n i => ∃ k : Nat, k ≤ s.size ∧ i = .int .i64 k ∧ n = .int .i64 (lng (s.data.toList.take k))) (fun _ i => s.size - (intOf i).toNat)
  case atStart => exact ⟨0, Nat.zero_le _, rfl, by rw [List.take_zero, lng_nil]⟩
  case round =>
    obtain ⟨k, hk, rfl, rfl⟩ := hrel
    have h1 := (lng_bd (s.data.toList.take k)).1
    have h2 := (lng_bd (s.data.toList.take k)).2
    by_cases hlt : k < s.size
    · have ht : Hid (lng (s.data.toList.take (k + 1)) = (lng (s.data.toList.take k) * 263 + ((s[k]'hlt).toNat : Int) + 1) % 1000003) := lng_take s.data.toList k (by have := HL.out; omega)
      have h3 : (s[k]'hlt).toNat < 256 := UInt8.toNat_lt _
      go_wp2
      go_round
      case rel => exact ⟨k + 1, by omega, by go_num, by rw [ht.out]⟩
      case measure => simp [intOf]; omega
    · go_wp2
      go_ret
      exact ⟨ret_int (by rw [List.take_of_length_le (by have := HL.out; omega)]), (by repeat (first | exact Below.refl _ _ | refine balloc ?_ _ | refine Below.drew ?_ | refine below_drewN ?_ _ | refine below_set ?_ (by first | omega | (dsimp only; omega)) _))⟩
theorem refNumber_c (s : ByteArray) (w : World) (hs : s.size ≤ 9223372036854775807) : Calls Tryd.prog 86 #[.string s] w fun e w' => e = .returned (.int .i64 (hnum s.data.toList)) ∧ Below w.heap.size w w' := by
  have h1 := (lng_bd s.data.toList).1
  have h2 := (lng_bd s.data.toList).2
  go_enter Tryd.func86, Tryd.ntmps86
  go_wp2_with fail
  refine (refLong_c s _ hs).mono ?_; rintro e w1 ⟨rfl, hb⟩
  obtain ⟨hc1, hf1⟩ := bcell hb
  have z1 := hb.size
  try simp only [World.size_alloc, World.size_setCell, World.size_drew] at z1
  have hB1 : Below w.heap.size w w1 := below_seq (by repeat (first | exact Below.refl _ _ | refine balloc ?_ _ | refine Below.drew ?_ | refine below_drewN ?_ _ | refine below_set ?_ (by first | omega | (dsimp only; omega)) _)) hb
  clear hb
  go_wp2
  go_ret
  exact ⟨rfl, (by repeat (first | exact hB1 | exact Below.refl _ _ | refine balloc ?_ _ | refine Below.drew ?_ | refine below_drewN ?_ _ | refine below_set ?_ (by first | omega | (dsimp only; omega)) _))⟩
set_option maxHeartbeats 1000000 in
theorem refOf_c (s : ByteArray) (w : World) (hF : FarAt w) (hs : s.size ≤ 140737488351232) : Calls Tryd.prog 13 #[.string s] w fun e w' => e = .returned (spV (hSpot s.data.toList)) ∧ Below w.heap.size w w' := by
  have hF' := Lib.hid hF
  clear hF
  go_enter Tryd.func13, Tryd.ntmps13
  go_wp2
  go_loopw [3] (fun i wr => ∃ k : Nat, k ≤ 256 ∧ i = .int .i64 k ∧ hGo s.data.toList (256 - k) k = hSpot s.data.toList ∧ SpAt wr w.heap.size ⟨0, 0, false⟩ ∧ Below w.heap.size w wr) (fun i _ => 256 - (intOf i).toNat)
  case atStart => exact ⟨0, by omega, rfl, rfl, SpAt.fresh _ _ _ _ _, below_alloc _ _⟩
  case round =>
    obtain ⟨k, hk, rfl, hgo, hr, hB⟩ := hrel
    have hgo := Lib.hid hgo
    by_cases hlt : k < 256
    · have hcv := conv1 (wr.alloc (.cells #[.int .u8 k] 5)) wr.heap.size k (by go_simp)
      have hsz := strOf1 (k : Int)
      have htb := Lib.hid (text_byte s k)
      have hl0 := (lng_bd (s.data.toList ++ [UInt8.ofNat k])).1
      have hl1 := (lng_bd (s.data.toList ++ [UInt8.ofNat k])).2
      go_wp2_with fail
      refine (refLong_c _ _ (by rw [ByteArray.size_append]; omega)).mono ?_; rintro e w1 ⟨rfl, hb⟩
      rw [htb.out]
      have hr1 := (hr.alloc _).below hb
      have hB1 := below_seq (balloc hB _) hb
      clear hr hb hB hcv
      go_wp2_with fail
      change Calls _ _ #[.int .i64 (hX s.data.toList k)] _ _
      cases hq : isSq (height (hX s.data.toList k))
      · refine (refLift_n _ _ (hX_in _ _) hq).mono ?_; rintro e w2 ⟨rfl, hb⟩
        have hr2 := hr1.below hb
        have hB2 := below_seq hB1 hb
        have hm := Lib.hid (hGo_miss hlt (Or.inl hq))
        clear hr1 hb hB1 hl0 hl1 hq
        go_wp2
        go_roundw
        case rel => exact ⟨k + 1, by omega, by go_num, by rw [← hm.out]; exact hgo.out, hr2.alloc _, balloc hB2 _⟩
        case measure => simp [intOf]; omega
      · refine (refLift_y _ (lifted (hX s.data.toList k)) _ (hX_in _ _) hq rfl).mono ?_; rintro e w2 ⟨rfl, hb⟩
        have hr2 := hr1.below hb
        have hB2 := below_seq hB1 hb
        have hok := lifted_ok (hX_in s.data.toList k) hq
        have hQ := Lib.hid hq
        clear hr1 hb hB1 hl0 hl1 hq
        generalize hL : lifted (hX s.data.toList k) = L at *
        have hL := Lib.hid hL
        go_wp2_with fail
        refine (refFour_c L _ hok).mono ?_; rintro e w3 ⟨rfl, hb⟩
        have hr3 := (hr2.alloc _).below hb
        have hB3 := below_seq (balloc hB2 _) hb
        clear hr2 hb hB2 hok
        cases hf : (sFour L).far
        · have hm : Hid (sFour L = hSpot s.data.toList) := by
            show _ = _
            rw [← hgo.out, hGo_hit hlt hQ.out (by rw [hL.out]; exact hf), hL.out]
          obtain ⟨r0, r1, r2, fr0, fr1, fr2, hrl⟩ := hr3
          generalize hS : sFour L = S at *
          have hS := Lib.hid hS
          go_wp2
          have k := set3_cell (w := w3) (x := .int .i64 S.x) (y := .int .i64 S.y) (z := .bool false) r0 r1 r2
          refine bodyPost_ret (v := spV S) (by simp [results, Tryd.results13, go_sem, k.1, k.2.1, k.2.2, hf, hrl]) rfl ⟨by rw [hm.out], balloc (set3_below hB3 (by omega)) _⟩
        · have hm := Lib.hid (hGo_miss hlt (Or.inr (by rw [hL.out]; exact hf)))
          go_wp2
          go_roundw
          case rel => exact ⟨k + 1, by omega, by go_num, by rw [← hm.out]; exact hgo.out, hr3.alloc _, balloc hB3 _⟩
          case measure => simp [intOf]; omega
    · obtain rfl : k = 256 := by omega
      have hm : Hid (sq 4 = hSpot s.data.toList) := by show _ = _; rw [← hgo.out, hGo_end]
      go_wp2_with fail
      refine (refBase_c _).mono ?_; rintro e w1 ⟨rfl, hb⟩
      have hr1 := hr.below hb
      have hB1 := below_seq hB hb
      clear hr hb hB
      obtain ⟨r0, r1, r2, fr0, fr1, fr2, hrl⟩ := hr1
      go_wp2
      have k := set3_cell (w := w1) (x := .int .i64 (sq 4).x) (y := .int .i64 (sq 4).y) (z := .bool (sq 4).far) r0 r1 r2
      refine bodyPost_ret (v := spV (sq 4)) (by simp [results, Tryd.results13, go_sem, k.1, k.2.1, k.2.2]) rfl ⟨by rw [hm.out], set3_below hB1 (by omega)⟩
end Go.Proofs.YtahopffpajkfdaaDoor
namespace Go.Proofs.YtahopffpajkfdaaDoor
open Go.RowKit
set_option maxRecDepth 100000
set_option linter.unusedVariables false
set_option linter.unusedSimpArgs false
theorem ord_dvd {u n : Int} (d : Int) (h1 : 1 ≤ n) (hn : (sq (u * n)).far = true) (hm : ∀ j : Int, 1 ≤ j → j < n → (sq (u * j)).far = false) : (sq (u * d)).far = true ↔ d % n = 0 := by
  have a := sq_far.mp hn
  constructor
  · intro h
    have b := sq_far.mp h
    by_cases e : d % n = 0
    · exact e
    · exfalso
      have r0 : 0 ≤ d % n := Int.emod_nonneg _ (by omega)
      have r1 : d % n < n := Int.emod_lt_of_pos _ (by omega)
      have k := hm (d % n) (by omega) r1
      have e3 : (u * (d % n)) % 4052 = 0 := by
        have e2 : u * (d % n) = u * d - u * n * (d / n) := by rw [Int.emod_def, Int.mul_sub, Int.mul_assoc]
        obtain ⟨x, hx⟩ := Int.dvd_of_emod_eq_zero a
        obtain ⟨y, hy⟩ := Int.dvd_of_emod_eq_zero b
        rw [e2, hx, hy, Int.mul_assoc, ← Int.mul_sub]; exact Int.mul_emod_right _ _
      rw [sq_far.mpr e3] at k; exact Bool.noConfusion k
  · intro h
    apply sq_far.mpr
    obtain ⟨x, hx⟩ := Int.dvd_of_emod_eq_zero a
    obtain ⟨y, hy⟩ := Int.dvd_of_emod_eq_zero h
    rw [hy, ← Int.mul_assoc, hx, Int.mul_assoc]; exact Int.mul_emod_right _ _
def dNat (m : Nat) : Bool := 4052 % m != 0 || m == 1 || m == 2 || m == 4 || m == 1013 || m == 2026 || m == 4052
theorem d_0 : allB dNat 0 2000 = true := by decide +kernel
theorem d_1 : allB dNat 2000 2053 = true := by decide +kernel
theorem div_52 {n : Int} (h1 : 1 ≤ n) (h : 4052 % n = 0) : n = 1 ∨ n = 2 ∨ n = 4 ∨ n = 1013 ∨ n = 2026 ∨ n = 4052 := by
  have hd : n ≤ 4052 := Int.le_of_dvd (by decide) (Int.dvd_of_emod_eq_zero h)
  have key : dNat n.toNat = true := by
    by_cases c : n < 2000
    · exact allB_at dNat 0 2000 d_0 n.toNat (by omega) (by omega)
    · exact allB_at dNat 2000 2053 d_1 n.toNat (by omega) (by omega)
  have hz : (4052 % n.toNat : Nat) = 0 := by
    have : ((4052 % n.toNat : Nat) : Int) = 0 := by rw [Int.natCast_emod, Int.toNat_of_nonneg (by omega)]; exact h
    omega
  unfold dNat at key
  rw [hz] at key
  simp at key
  omega
theorem ord_is {u n : Int} (h1 : 1 ≤ n) (hn : (sq (u * n)).far = true) (hm : ∀ j : Int, 1 ≤ j → j < n → (sq (u * j)).far = false) : n = ordOf u := by
  have dv := fun d => ord_dvd (u := u) d h1 hn hm
  have full : (sq (u * 4052)).far = true := sq_far.mpr (Int.mul_emod_left _ _)
  have six := div_52 h1 ((dv 4052).mp full)
  unfold ordOf
  simp only [dv]
  rcases six with rfl | rfl | rfl | rfl | rfl | rfl <;> decide
set_option maxHeartbeats 1000000 in
theorem refIn_e (a : Sp) (u : Int) (b : Bool) (w : World) (ha : Hid (a = sq u)) (h : Hid ((sq (u * 1013)).far = b)) : Calls Tryd.prog 102 #[spV a] w fun e w' => e = .returned (.bool b) ∧ Below w.heap.size w w' := by
  subst h
  go_enter Tryd.func102, Tryd.ntmps102
  go_wp2_with fail
  refine (refTimes_e a _ u 1013 _ (by omega) (by omega) ha rfl).mono ?_; rintro e w1 ⟨rfl, hb⟩
  obtain ⟨hc1, hf1⟩ := bcell hb
  have z1 := hb.size
  try simp only [World.size_alloc, World.size_setCell, World.size_drew] at z1
  have s1_0 : w.heap.size < w1.heap.size := by omega
  have hB1 : Below w.heap.size w w1 := below_seq (by repeat (first | exact Below.refl _ _ | refine balloc ?_ _ | refine Below.drew ?_ | refine below_drewN ?_ _ | refine below_set ?_ (by first | omega | (dsimp only; omega)) _)) hb
  clear hb
  go_wp2
  go_ret
  exact ⟨rfl, (by repeat (first | exact hB1 | exact Below.refl _ _ | refine balloc ?_ _ | refine Below.drew ?_ | refine below_drewN ?_ _ | refine below_set ?_ (by first | omega | (dsimp only; omega)) _))⟩
theorem refBase_k (w : World) : Calls Tryd.prog 46 #[] w fun e w' => e = .returned (spV ⟨1189, 3667, false⟩) ∧ Below w.heap.size w w' := by
  have := refBase_c w; rw [sq_4] at this; exact this
end Go.Proofs.YtahopffpajkfdaaDoor
namespace Go.Proofs.YtahopffpajkfdaaDoor
open Go.RowKit
set_option maxRecDepth 100000
set_option linter.unusedVariables false
set_option linter.unusedSimpArgs false
@[go_sem] theorem field_far4 (x y : Value) (f : Bool) (w : World) : Sem.run Tryd.prog (Instr.field 29 (.agg #[x, y, .bool f]) 2) w = .ok (.bool f) w := by kernel_rfl
set_option maxHeartbeats 1000000 in
theorem sealCheck_ok (key R : Sp) (S : Int) (t : ByteArray) (w : World) (hF : FarAt w) (hk : Ok key) (hR : Ok R) (hz : t.size ≤ 60) (s0 : 0 ≤ S) (s1 : S < 1013) :
    Calls Tryd.prog 105 #[spV key, .string t, slV R S] w fun e w' => e = .returned .nilIface ∧ Below w.heap.size w w' := by
  go_enter Tryd.func105, Tryd.ntmps105
  go_wp2_with fail
  refine (text_y t _ hz).mono ?_; rintro e w' ⟨rfl, rfl⟩
  go_wp2_with fail
  refine (all_ok [key, R] _ 0 2 _ (hF.below (by repeat (first | exact Below.refl _ _ | refine balloc ?_ _ | refine Below.drew ?_ | refine below_drewN ?_ _ | refine below_set ?_ (by first | omega | (dsimp only; omega)) _))) (by simp) (spots_two key R _ _ (by simp) (by go_simp) (by go_simp) (by go_simp) (by go_simp) (by go_simp) (by go_simp)) (ok_two hk hR)).mono ?_; rintro e w1 ⟨rfl, hb⟩
  obtain ⟨hc1, hf1⟩ := bcell hb
  have z1 := hb.size
  try simp only [World.size_alloc, World.size_setCell, World.size_drew] at z1
  have s1_0 : w.heap.size < w1.heap.size := by omega
  have s1_1 : w.heap.size + 1 < w1.heap.size := by omega
  have s1_2 : w.heap.size + 1 + 1 < w1.heap.size := by omega
  have hB1 : Below w.heap.size w w1 := below_seq (by repeat (first | exact Below.refl _ _ | refine balloc ?_ _ | refine Below.drew ?_ | refine below_drewN ?_ _ | refine below_set ?_ (by first | omega | (dsimp only; omega)) _)) hb
  clear hb
  go_wp2_with fail
  refine (rest_y S _ s0 s1).mono ?_; rintro e w' ⟨rfl, rfl⟩
  go_wp2
  go_ret
  exact ⟨rfl, (by repeat (first | exact hB1 | exact Below.refl _ _ | refine balloc ?_ _ | refine Below.drew ?_ | refine below_drewN ?_ _ | refine below_set ?_ (by first | omega | (dsimp only; omega)) _))⟩
set_option maxHeartbeats 2000000 in
theorem sealOff_ok (key R B C D E Z : Sp) (a c S : Int) (t : ByteArray) (w : World) (hF : FarAt w) (hk : Ok key) (hR : Ok R) (hz : t.size ≤ 60) (hc : Hid (askN R key t.data.toList = c)) (ha : Hid (key = sq a))
    (hB : Hid (sq (4 * S) = B)) (hC : Hid (sq (a * c) = C)) (hD : Hid (sSum R C = D)) (hE : Hid (sTurned D = E)) (hZ : Hid (sSum B E = Z)) (oB : Ok B) (oC : Ok C) (oD : Ok D) (oE : Ok E) :
    Calls Tryd.prog 106 #[spV key, .string t, slV R S] w fun e w' => e = .returned (spV Z) ∧ Below w.heap.size w w' := by
  go_enter Tryd.func106, Tryd.ntmps106
  go_wp2_with fail
  refine (ask_e R key t c _ hR hk hz hc).mono ?_; rintro e w1 ⟨rfl, hb⟩
  obtain ⟨hc1, hf1⟩ := bcell hb
  have z1 := hb.size
  try simp only [World.size_alloc, World.size_setCell, World.size_drew] at z1
  have s1_0 : w.heap.size < w1.heap.size := by omega
  have s1_1 : w.heap.size + 1 < w1.heap.size := by omega
  have s1_2 : w.heap.size + 1 + 1 < w1.heap.size := by omega
  have hB1 : Below w.heap.size w w1 := below_seq (by repeat (first | exact Below.refl _ _ | refine balloc ?_ _ | refine Below.drew ?_ | refine below_drewN ?_ _ | refine below_set ?_ (by first | omega | (dsimp only; omega)) _)) hb
  clear hb
  go_wp2_with fail
  refine wp_region_grow_tail 11 Tryd.mixed (by kernel_rfl) ?_
  simp only [List.take_succ_cons, List.take_zero, List.drop_succ_cons, List.drop_zero]
  repeat (quiet_step ((first | (go_at_call 77; exact grow_of (by_e S B _ (hF.below (below_seq (by repeat (first | exact hB1 | exact Below.refl _ _ | refine balloc ?_ _ | refine Below.drew ?_ | refine below_drewN ?_ _ | refine below_set ?_ (by first | omega | (dsimp only; omega)) _)) (Grew.h _))) hB)) | (go_at_call 71; exact grow_of (of_e key C a c _ (hF.below (below_seq (by repeat (first | exact hB1 | exact Below.refl _ _ | refine balloc ?_ _ | refine Below.drew ?_ | refine below_drewN ?_ _ | refine below_set ?_ (by first | omega | (dsimp only; omega)) _)) (Grew.h _))) ha hC)) | (go_at_call 127; exact grow_of (turned_e D E _ oD hE)) | (go_at_call_of 76 R.x; exact grow_of (sum_e R C D _ (hF.below (below_seq (by repeat (first | exact hB1 | exact Below.refl _ _ | refine balloc ?_ _ | refine Below.drew ?_ | refine below_drewN ?_ _ | refine below_set ?_ (by first | omega | (dsimp only; omega)) _)) (Grew.h _))) hR oC hD)) | (go_at_call 76; exact grow_of (sum_e B E Z _ (hF.below (below_seq (by repeat (first | exact hB1 | exact Below.refl _ _ | refine balloc ?_ _ | refine Below.drew ?_ | refine below_drewN ?_ _ | refine below_set ?_ (by first | omega | (dsimp only; omega)) _)) (Grew.h _))) oB oE hZ)))))
  refine wpQuiet_nil ?_
  intro _ hw'
  obtain ⟨x2, rfl⟩ := hw'
  have z2 := x2.h.size
  try simp only [World.size_alloc, World.size_setCell, World.size_drew] at z2
  have s2_0 : w.heap.size < x2.w.heap.size := by omega
  have s2_1 : w.heap.size + 1 < x2.w.heap.size := by omega
  have s2_2 : w.heap.size + 1 + 1 < x2.w.heap.size := by omega
  have hB2 : Below w.heap.size w x2.w := below_seq (by repeat (first | exact hB1 | exact Below.refl _ _ | refine balloc ?_ _ | refine Below.drew ?_ | refine below_drewN ?_ _ | refine below_set ?_ (by first | omega | (dsimp only; omega)) _)) x2.h
  have r0 : x2.w.cell? ⟨w.heap.size + 1 + 1, 0, none⟩ = some (.int .i64 0) := by go_simp
  have r1 : x2.w.cell? ⟨w.heap.size + 1 + 1, 1, none⟩ = some (.int .i64 0) := by go_simp
  have r2 : x2.w.cell? ⟨w.heap.size + 1 + 1, 2, none⟩ = some (.bool false) := by go_simp
  go_wp2
  have k := set3_cell (w := x2.w) (x := .int .i64 (Z).x) (y := .int .i64 (Z).y) (z := .bool (Z).far) r0 r1 r2
  refine bodyPost_ret (v := spV (Z)) (by simp [results, Tryd.results106, go_sem, k.1, k.2.1, k.2.2]) rfl ⟨rfl, set3_below (by repeat (first | exact hB2 | exact Below.refl _ _ | refine balloc ?_ _ | refine Below.drew ?_ | refine below_drewN ?_ _ | refine below_set ?_ (by first | omega | (dsimp only; omega)) _)) (by omega)⟩
set_option maxHeartbeats 1000000 in
theorem sealVerify_ok (key R Z : Sp) (S : Int) (b : Bool) (t : ByteArray) (w : World) (hF : FarAt w) (hk : Ok key) (hR : Ok R) (hz : t.size ≤ 60) (s0 : 0 ≤ S) (s1 : S < 1013)
    (hO : Hid (∀ w1 : World, FarAt w1 → Calls Tryd.prog 106 #[spV key, .string t, slV R S] w1 fun e w' => e = .returned (spV Z) ∧ Below w1.heap.size w1 w')) (hb : Z.far = b) :
    Calls Tryd.prog 110 #[spV key, .string t, slV R S] w fun e w' => e = .returned (.tuple #[.bool b, .nilIface]) ∧ Below w.heap.size w w' := by
  subst hb
  go_enter Tryd.func110, Tryd.ntmps110
  go_wp2_with fail
  refine (sealCheck_ok key R S t _ (hF.below (by repeat (first | exact Below.refl _ _ | refine balloc ?_ _ | refine Below.drew ?_ | refine below_drewN ?_ _ | refine below_set ?_ (by first | omega | (dsimp only; omega)) _))) hk hR hz s0 s1).mono ?_; rintro e w1 ⟨rfl, hb⟩
  obtain ⟨hc1, hf1⟩ := bcell hb
  have z1 := hb.size
  try simp only [World.size_alloc, World.size_setCell, World.size_drew] at z1
  have s1_0 : w.heap.size < w1.heap.size := by omega
  have s1_1 : w.heap.size + 1 < w1.heap.size := by omega
  have hB1 : Below w.heap.size w w1 := below_seq (by repeat (first | exact Below.refl _ _ | refine balloc ?_ _ | refine Below.drew ?_ | refine below_drewN ?_ _ | refine below_set ?_ (by first | omega | (dsimp only; omega)) _)) hb
  clear hb
  go_wp2_with fail
  refine (hO.out _ (hF.below (by repeat (first | exact hB1 | exact Below.refl _ _ | refine balloc ?_ _ | refine Below.drew ?_ | refine below_drewN ?_ _ | refine below_set ?_ (by first | omega | (dsimp only; omega)) _)))).mono ?_; rintro e w2 ⟨rfl, hb⟩
  obtain ⟨hc2, hf2⟩ := bcell hb
  have z2 := hb.size
  try simp only [World.size_alloc, World.size_setCell, World.size_drew] at z2
  have s2_0 : w.heap.size < w2.heap.size := by omega
  have s2_1 : w.heap.size + 1 < w2.heap.size := by omega
  have hB2 : Below w.heap.size w w2 := below_seq (by repeat (first | exact hB1 | exact Below.refl _ _ | refine balloc ?_ _ | refine Below.drew ?_ | refine below_drewN ?_ _ | refine below_set ?_ (by first | omega | (dsimp only; omega)) _)) hb
  clear hb
  go_wp2
  go_ret2
  exact ⟨rfl, (by repeat (first | exact hB2 | exact Below.refl _ _ | refine balloc ?_ _ | refine Below.drew ?_ | refine below_drewN ?_ _ | refine below_set ?_ (by first | omega | (dsimp only; omega)) _))⟩
/-- What a seal comes to: of the key sq a and the spot sq r. -/
theorem verify_e (key R : Sp) (a r c S : Int) (b : Bool) (t : ByteArray) (w : World) (hF : FarAt w) (hz : t.size ≤ 60) (s0 : 0 ≤ S) (s1 : S < 1013) (ha : Hid (key = sq a)) (hr : Hid (R = sq r)) (hc : Hid (askN R key t.data.toList = c)) (hb : Hid ((sq (4 * S + -(r + a * c))).far = b)) :
    Calls Tryd.prog 110 #[spV key, .string t, slV R S] w fun e w' => e = .returned (.tuple #[.bool b, .nilIface]) ∧ Below w.heap.size w w' := by
  have oR : Ok R := ok_of hr.out
  have oK : Ok key := ok_of ha.out
  refine sealVerify_ok key R _ S b t w hF oK oR hz s0 s1 (fun w1 hF1 => sealOff_ok key R _ _ (sq (r + a * c)) _ (sq (4 * S + -(r + a * c))) a c S t w1 hF1 oK oR hz hc ha rfl rfl ?_ rfl ?_ (sq_ok _) (sq_ok _) (sq_ok _) (turned_ok (sq_ok _)).1) hb.out
  · show _ = _; rw [hr.out, sq_add]
  · show _ = _; rw [sq_neg, sq_add]
end Go.Proofs.YtahopffpajkfdaaDoor
namespace Go.Proofs.YtahopffpajkfdaaDoor
open Go.RowKit
set_option maxRecDepth 100000
set_option linter.unusedVariables false
set_option linter.unusedSimpArgs false
set_option maxHeartbeats 400000 in
theorem rSecret_y (n : Int) (w : World) (h1 : 1 ≤ n) (h2 : n < 1013) : Calls Tryd.prog 35 #[.int .i64 n] w fun e w' => e = .returned (.bool true) ∧ w = w' := by
  go_enter Tryd.func35, Tryd.ntmps35
  go_wp2
  go_ret
  exact ⟨rfl, rfl⟩
set_option maxHeartbeats 400000 in
theorem rSecret_n (n : Int) (w : World) (h : ¬ (1 ≤ n ∧ n < 1013)) : Calls Tryd.prog 35 #[.int .i64 n] w fun e w' => e = .returned (.bool false) ∧ w = w' := by
  by_cases h1 : 1 ≤ n
  · have h2 : ¬ n < 1013 := fun c => h ⟨h1, c⟩
    clear h
    go_enter Tryd.func35, Tryd.ntmps35
    go_wp2
    go_ret
    exact ⟨rfl, rfl⟩
  · clear h
    go_enter Tryd.func35, Tryd.ntmps35
    go_wp2
    go_ret
    exact ⟨rfl, rfl⟩
set_option maxHeartbeats 400000 in
theorem rRest_y (n : Int) (w : World) (h1 : 0 ≤ n) (h2 : n < 1013) : Calls Tryd.prog 24 #[.int .i64 n] w fun e w' => e = .returned (.bool true) ∧ w = w' := by
  go_enter Tryd.func24, Tryd.ntmps24
  go_wp2
  go_ret
  exact ⟨rfl, rfl⟩
set_option maxHeartbeats 400000 in
theorem rRest_n (n : Int) (w : World) (h : ¬ (0 ≤ n ∧ n < 1013)) : Calls Tryd.prog 24 #[.int .i64 n] w fun e w' => e = .returned (.bool false) ∧ w = w' := by
  by_cases h1 : 0 ≤ n
  · have h2 : ¬ n < 1013 := fun c => h ⟨h1, c⟩
    clear h
    go_enter Tryd.func24, Tryd.ntmps24
    go_wp2
    go_ret
    exact ⟨rfl, rfl⟩
  · clear h
    go_enter Tryd.func24, Tryd.ntmps24
    go_wp2
    go_ret
    exact ⟨rfl, rfl⟩
/-- Both, as Booleans. -/
def secB (n : Int) : Bool := decide (1 ≤ n ∧ n < 1013)
def resB (n : Int) : Bool := decide (0 ≤ n ∧ n < 1013)
theorem rSecret_b (n : Int) (b : Bool) (w : World) (h : Hid (secB n = b)) : Calls Tryd.prog 35 #[.int .i64 n] w fun e w' => e = .returned (.bool b) ∧ w = w' := by
  rw [← h.out]; unfold secB
  by_cases c : 1 ≤ n ∧ n < 1013
  · rw [decide_eq_true c]; exact rSecret_y n w c.1 c.2
  · rw [decide_eq_false c]; exact rSecret_n n w c
theorem rRest_b (n : Int) (b : Bool) (w : World) (h : Hid (resB n = b)) : Calls Tryd.prog 24 #[.int .i64 n] w fun e w' => e = .returned (.bool b) ∧ w = w' := by
  rw [← h.out]; unfold resB
  by_cases c : 0 ≤ n ∧ n < 1013
  · rw [decide_eq_true c]; exact rRest_y n w c.1 c.2
  · rw [decide_eq_false c]; exact rRest_n n w c
theorem refTimes_b (n : Int) (c : Sp) (w : World) (n0 : -9223372036854775808 ≤ n) (n1 : n ≤ 9223372036854775807) (h : Hid (sq (4 * n) = c)) : Calls Tryd.prog 12 #[spV ⟨1189, 3667, false⟩, .int .i64 n] w fun e w' => e = .returned (spV c) ∧ Below w.heap.size w w' :=
  refTimes_e ⟨1189, 3667, false⟩ c 4 n w n0 n1 sq_4.symm h
set_option maxHeartbeats 1000000 in
theorem refBy_e (n : Int) (c : Sp) (w : World) (n0 : -9223372036854775808 ≤ n) (n1 : n ≤ 9223372036854775807) (h : Hid (sq (4 * n) = c)) : Calls Tryd.prog 21 #[.int .i64 n] w fun e w' => e = .returned (spV c) ∧ Below w.heap.size w w' := by
  go_enter Tryd.func21, Tryd.ntmps21
  go_wp2_with fail
  refine (refBase_k _).mono ?_; rintro e w1 ⟨rfl, hb⟩
  obtain ⟨hc1, hf1⟩ := bcell hb
  have z1 := hb.size
  try simp only [World.size_alloc, World.size_setCell, World.size_drew] at z1
  have s1_0 : w.heap.size < w1.heap.size := by omega
  have hB1 : Below w.heap.size w w1 := below_seq (by repeat (first | exact Below.refl _ _ | refine balloc ?_ _ | refine Below.drew ?_ | refine below_drewN ?_ _ | refine below_set ?_ (by first | omega | (dsimp only; omega)) _)) hb
  clear hb
  go_wp2_with fail
  refine (refTimes_b n c _ n0 n1 h).mono ?_; rintro e w2 ⟨rfl, hb⟩
  obtain ⟨hc2, hf2⟩ := bcell hb
  have z2 := hb.size
  try simp only [World.size_alloc, World.size_setCell, World.size_drew] at z2
  have s2_0 : w.heap.size < w2.heap.size := by omega
  have hB2 : Below w.heap.size w w2 := below_seq (by repeat (first | exact hB1 | exact Below.refl _ _ | refine balloc ?_ _ | refine Below.drew ?_ | refine below_drewN ?_ _ | refine below_set ?_ (by first | omega | (dsimp only; omega)) _)) hb
  clear hb
  have r0 : w2.cell? ⟨w.heap.size, 0, none⟩ = some (.int .i64 0) := by go_simp
  have r1 : w2.cell? ⟨w.heap.size, 1, none⟩ = some (.int .i64 0) := by go_simp
  have r2 : w2.cell? ⟨w.heap.size, 2, none⟩ = some (.bool false) := by go_simp
  go_wp2
  have k := set3_cell (w := w2) (x := .int .i64 (c).x) (y := .int .i64 (c).y) (z := .bool (c).far) r0 r1 r2
  refine bodyPost_ret (v := spV (c)) (by simp [results, Tryd.results21, go_sem, k.1, k.2.1, k.2.2]) rfl ⟨rfl, set3_below (by repeat (first | exact hB2 | exact Below.refl _ _ | refine balloc ?_ _ | refine Below.drew ?_ | refine below_drewN ?_ _ | refine below_set ?_ (by first | omega | (dsimp only; omega)) _)) (by omega)⟩
set_option maxHeartbeats 2000000 in
theorem refSum_e (n m u : Int) (s A B C : Sp) (w : World) (n0 : -9223372036854775808 ≤ n) (n1 : n ≤ 9223372036854775807) (m0 : -9223372036854775808 ≤ m) (m1 : m ≤ 9223372036854775807) (hs : Hid (s = sq u)) (hA : Hid (sq (4 * n) = A)) (hB' : Hid (sq (u * m) = B)) (oA : Ok A) (oB : Ok B) (hC : Hid (sSum A B = C)) : Calls Tryd.prog 51 #[.int .i64 n, .int .i64 m, spV s] w fun e w' => e = .returned (spV C) ∧ Below w.heap.size w w' := by
  go_enter Tryd.func51, Tryd.ntmps51
  go_wp2_with fail
  refine (refBase_k _).mono ?_; rintro e w1 ⟨rfl, hb⟩
  obtain ⟨hc1, hf1⟩ := bcell hb
  have z1 := hb.size
  try simp only [World.size_alloc, World.size_setCell, World.size_drew] at z1
  have s1_0 : w.heap.size < w1.heap.size := by omega
  have s1_1 : w.heap.size + 1 < w1.heap.size := by omega
  have hB1 : Below w.heap.size w w1 := below_seq (by repeat (first | exact Below.refl _ _ | refine balloc ?_ _ | refine Below.drew ?_ | refine below_drewN ?_ _ | refine below_set ?_ (by first | omega | (dsimp only; omega)) _)) hb
  clear hb
  go_wp2_with fail
  refine (refTimes_b n A _ n0 n1 hA).mono ?_; rintro e w2 ⟨rfl, hb⟩
  obtain ⟨hc2, hf2⟩ := bcell hb
  have z2 := hb.size
  try simp only [World.size_alloc, World.size_setCell, World.size_drew] at z2
  have s2_0 : w.heap.size < w2.heap.size := by omega
  have s2_1 : w.heap.size + 1 < w2.heap.size := by omega
  have hB2 : Below w.heap.size w w2 := below_seq (by repeat (first | exact hB1 | exact Below.refl _ _ | refine balloc ?_ _ | refine Below.drew ?_ | refine below_drewN ?_ _ | refine below_set ?_ (by first | omega | (dsimp only; omega)) _)) hb
  clear hb
  go_wp2_with fail
  refine (refTimes_e s B u m _ m0 m1 hs hB').mono ?_; rintro e w3 ⟨rfl, hb⟩
  obtain ⟨hc3, hf3⟩ := bcell hb
  have z3 := hb.size
  try simp only [World.size_alloc, World.size_setCell, World.size_drew] at z3
  have s3_0 : w.heap.size < w3.heap.size := by omega
  have s3_1 : w.heap.size + 1 < w3.heap.size := by omega
  have s3_2 : w2.heap.size < w3.heap.size := by omega
  have hB3 : Below w.heap.size w w3 := below_seq (by repeat (first | exact hB2 | exact Below.refl _ _ | refine balloc ?_ _ | refine Below.drew ?_ | refine below_drewN ?_ _ | refine below_set ?_ (by first | omega | (dsimp only; omega)) _)) hb
  clear hb
  have m3_0_0 : w3.cell? ⟨w2.heap.size, 0, none⟩ = some (.int .i64 A.x) := by go_simp
  have m3_0_1 : w3.cell? ⟨w2.heap.size, 1, none⟩ = some (.int .i64 A.y) := by go_simp
  have m3_0_2 : w3.cell? ⟨w2.heap.size, 2, none⟩ = some (.bool A.far) := by go_simp
  go_wp2_with fail
  refine (refAdd_e A B C _ oA oB hC).mono ?_; rintro e w4 ⟨rfl, hb⟩
  obtain ⟨hc4, hf4⟩ := bcell hb
  have z4 := hb.size
  try simp only [World.size_alloc, World.size_setCell, World.size_drew] at z4
  have s4_0 : w.heap.size < w4.heap.size := by omega
  have s4_1 : w.heap.size + 1 < w4.heap.size := by omega
  have s4_2 : w2.heap.size < w4.heap.size := by omega
  have s4_3 : w3.heap.size < w4.heap.size := by omega
  have hB4 : Below w.heap.size w w4 := below_seq (by repeat (first | exact hB3 | exact Below.refl _ _ | refine balloc ?_ _ | refine Below.drew ?_ | refine below_drewN ?_ _ | refine below_set ?_ (by first | omega | (dsimp only; omega)) _)) hb
  clear hb
  have m4_0_0 : w4.cell? ⟨w2.heap.size, 0, none⟩ = some (.int .i64 A.x) := by go_simp
  have m4_0_1 : w4.cell? ⟨w2.heap.size, 1, none⟩ = some (.int .i64 A.y) := by go_simp
  have m4_0_2 : w4.cell? ⟨w2.heap.size, 2, none⟩ = some (.bool A.far) := by go_simp
  have m4_1_0 : w4.cell? ⟨w3.heap.size, 0, none⟩ = some (.int .i64 B.x) := by go_simp
  have m4_1_1 : w4.cell? ⟨w3.heap.size, 1, none⟩ = some (.int .i64 B.y) := by go_simp
  have m4_1_2 : w4.cell? ⟨w3.heap.size, 2, none⟩ = some (.bool B.far) := by go_simp
  clear m3_0_0 m3_0_1 m3_0_2
  have r0 : w4.cell? ⟨w.heap.size + 1, 0, none⟩ = some (.int .i64 0) := by go_simp
  have r1 : w4.cell? ⟨w.heap.size + 1, 1, none⟩ = some (.int .i64 0) := by go_simp
  have r2 : w4.cell? ⟨w.heap.size + 1, 2, none⟩ = some (.bool false) := by go_simp
  go_wp2
  have k := set3_cell (w := w4) (x := .int .i64 (C).x) (y := .int .i64 (C).y) (z := .bool (C).far) r0 r1 r2
  refine bodyPost_ret (v := spV (C)) (by simp [results, Tryd.results51, go_sem, k.1, k.2.1, k.2.2]) rfl ⟨rfl, set3_below (by repeat (first | exact hB4 | exact Below.refl _ _ | refine balloc ?_ _ | refine Below.drew ?_ | refine below_drewN ?_ _ | refine below_set ?_ (by first | omega | (dsimp only; omega)) _)) (by omega)⟩
set_option maxHeartbeats 1000000 in
theorem rAsk_e (r key : Sp) (t : ByteArray) (c : Int) (w : World) (hr : Ok r) (hk : Ok key) (hz : t.size ≤ 60) (h : Hid (askN r key t.data.toList = c)) : Calls Tryd.prog 52 #[spV r, spV key, .string t] w fun e w' => e = .returned (.int .i64 c) ∧ Below w.heap.size w w' := by
  rw [← h.out]
  have z1 := sBytes_size r
  have z2 := sBytes_size key
  have n1 : ¬ (9223372036854775807 < (sBytes r).size + (sBytes key).size) := by omega
  have n2 : ¬ (9223372036854775807 < (sBytes r).size + (sBytes key).size + t.size) := by omega
  have z4 : Hid ((sBytes r ++ sBytes key ++ t).size ≤ 9223372036854775807) := by show _ ≤ _; rw [ByteArray.size_append, ByteArray.size_append]; omega
  go_enter Tryd.func52, Tryd.ntmps52
  go_wp2_with fail
  refine wp_region_grow Tryd.mixed (by kernel_rfl) ?_
  repeat (quiet_step ((first | (go_at_call 88; exact grow_of (refBytes_c _ _ (by assumption))) | (go_at_call 86; exact grow_of (refNumber_c _ _ z4.out)))))
  refine wpQuiet_nil ?_
  intro _ hw'
  obtain ⟨x, rfl⟩ := hw'
  go_wp2
  go_ret
  exact ⟨rfl, below_seq (balloc (below_alloc _ _) _) x.h⟩
end Go.Proofs.YtahopffpajkfdaaDoor
namespace Go.Proofs.YtahopffpajkfdaaDoor
open Go.RowKit
set_option maxRecDepth 100000
set_option linter.unusedVariables false
set_option linter.unusedSimpArgs false
theorem rlist_sl (l : List Sp) (v : Value) (w : World) (hl : l.length ≤ 12) (hs : SpSl w v l) (hok : ∀ z ∈ l, Ok z) :
    Calls Tryd.prog 87 #[v] w fun e w' => e = .returned (.string (lsB l.length l)) ∧ Below w.heap.size w w' := by
  obtain ⟨a, cap, rfl, hs⟩ := hs
  cases l with
  | nil => exact refList_nil a cap w
  | cons s l =>
    obtain ⟨b, off, rfl, hs'⟩ := hs (Nat.succ_pos _)
    exact refList_ok (s :: l) b off cap w hl hs' (Lib.hid fun i h => hok _ (List.getElem_mem h))
theorem refNumber_n (s : ByteArray) (n : Int) (w : World) (hs : s.size ≤ 9223372036854775807) (h : Hid (hnum s.data.toList = n)) : Calls Tryd.prog 86 #[.string s] w fun e w' => e = .returned (.int .i64 n) ∧ Below w.heap.size w w' := by
  rw [← h.out]; exact refNumber_c s w hs
set_option maxHeartbeats 4000000 in
theorem ints_same (l : List Int) (v1 v2 : Value) (w : World) (hl : l.length ≤ 1000000) (h1 : IntSl w v1 l) (h2 : IntSl w v2 l) :
    Calls Tryd.prog 29 #[v1, v2] w fun e w' => e = .returned (.bool true) ∧ Below w.heap.size w w' := by
  obtain ⟨a1, c1, rfl, i1⟩ := h1
  obtain ⟨a2, c2, rfl, i2⟩ := h2
  replace i1 := Lib.hid i1
  replace i2 := Lib.hid i2
  have g1 : ((l.length : Int) != (l.length : Int)) = false := by simp
  go_enter Tryd.func29, Tryd.ntmps29
  go_wp2
  go_loopw [5] (fun i wr => ∃ n : Nat, n ≤ l.length ∧ i = .int .i64 n ∧ Below w.heap.size w wr) (fun i _ => l.length - (intOf i).toNat)
  case atStart => exact ⟨0, Nat.zero_le _, rfl, Below.refl _ _⟩
  case round =>
    obtain ⟨n, hn, rfl, hb⟩ := hrel
    replace hb := Lib.hid hb
    by_cases hlt : n < l.length
    · obtain ⟨b1, o1, rfl, l1⟩ := i1.out (by omega)
      obtain ⟨b2, o2, rfl, l2⟩ := i2.out (by omega)
      have k1 := (l1.below hb.out).c n hlt
      have k2 := (l2.below hb.out).c n hlt
      have k3 := (l1.below hb.out).lt
      have k4 := (l2.below hb.out).lt
      clear l1 l2
      generalize l[n] = x at *
      go_wp2_with fail
      go_quiet (fail)
      go_wp2
      go_roundw
      case rel => exact ⟨n + 1, by omega, by go_num, (by repeat (first | exact hb.out | refine below_drewN ?_ _ | refine Below.drew ?_))⟩
      case measure => simp [intOf]; omega
    · obtain rfl : n = l.length := by omega
      go_wp2
      go_ret
      exact ⟨rfl, hb.out⟩
end Go.Proofs.YtahopffpajkfdaaDoor
namespace Go.Proofs.YtahopffpajkfdaaDoor
open Go.RowKit
set_option maxRecDepth 100000
set_option linter.unusedVariables false
set_option linter.unusedSimpArgs false
theorem secB_ok (n : Int) : secB n = okB n := rfl
theorem turn_go2 {s K a D x d : Int} (h : s % 1013 = (K + a * D) % 1013) : (s + a * (d * x % 1013)) % 1013 = (K + a * (D + x * d)) % 1013 := by
  have e : (a * (d * x % 1013)) % 1013 = (a * (d * x)) % 1013 := by rw [Int.mul_emod, Int.emod_emod, ← Int.mul_emod]
  rw [Int.mul_add, Int.mul_comm x d]
  generalize a * (d * x % 1013) = p at *
  generalize a * (d * x) = q at *
  generalize a * D = r at *
  omega
end Go.Proofs.YtahopffpajkfdaaDoor
namespace Go.Proofs.YtahopffpajkfdaaDoor
open Go.RowKit
set_option maxRecDepth 100000
set_option linter.unusedVariables false
set_option linter.unusedSimpArgs false
/-- A slice of these ints, in a block that is not older than B. -/
def IntF (B : Nat) (w : World) (v : Value) (l : List Int) : Prop := ∃ a cap, v = .slice a l.length cap ∧ (0 < l.length → ∃ b off, a = some ⟨b, off, none⟩ ∧ B ≤ b ∧ IntsAt w b off l)
theorem IntF.sl {B : Nat} {w : World} {v : Value} {l : List Int} (h : IntF B w v l) : IntSl w v l := by
  obtain ⟨a, cap, rfl, h⟩ := h
  exact ⟨a, cap, rfl, fun h0 => by obtain ⟨b, off, e, -, hs⟩ := h h0; exact ⟨b, off, e, hs⟩⟩
theorem IntF.below {B : Nat} {w w' : World} {v : Value} {l : List Int} (h : IntF B w v l) (hb : Below w.heap.size w w') : IntF B w' v l := by
  obtain ⟨a, cap, rfl, h⟩ := h
  exact ⟨a, cap, rfl, fun h0 => by obtain ⟨b, off, e, hB, hs⟩ := h h0; exact ⟨b, off, e, hB, hs.below hb⟩⟩
theorem IntF.set {B : Nat} {w : World} {v u : Value} {p : Addr} {l : List Int} (h : IntF B w v l) (hp : p.block < B) : IntF B (w.setCell p u) v l := by
  obtain ⟨a, cap, rfl, h⟩ := h
  refine ⟨a, cap, rfl, fun h0 => ?_⟩
  obtain ⟨b, off, e, hB, hs⟩ := h h0
  refine ⟨b, off, e, hB, by rw [World.size_setCell]; exact hs.lt, fun i hi => ?_⟩
  rw [World.cell?_setCell_other (h := fun e => by subst e; exact absurd hp (Nat.not_lt.mpr hB))]
  exact hs.c i hi
theorem own_intf {w0 w : World} {B e : Nat} {v : Value} {l : List Int} {n : Nat} (h0 : w0.heap.size ≤ B) (h : w.ownsRow B e 1 v n (l.map (Value.int .i64))) (hn : n = l.length) : IntF w0.heap.size w v l := by
  subst hn
  obtain ⟨hl, h | ⟨g, cap, cur, rfl, hb, hg, hc, -, -, ht⟩⟩ := h
  · obtain ⟨rfl, h0⟩ := h
    exact ⟨none, 0, by rw [h0], fun hp => absurd h0 (by omega)⟩
  · refine ⟨_, _, rfl, fun _ => ⟨g, 0, rfl, Nat.le_trans h0 hb, (Array.getElem?_eq_some_iff.1 hg).1, fun i hi => ?_⟩⟩
    have k1 : (l.map (Value.int .i64))[i]? = some (.int .i64 l[i]) := by simp [hi]
    rw [cell_of_row w g _ cur e (0, 0) hg]
    simp only [Nat.zero_add]
    rw [← ht, List.getElem?_take, if_pos (by omega), Array.getElem?_toList] at k1
    assumption
end Go.Proofs.YtahopffpajkfdaaDoor
