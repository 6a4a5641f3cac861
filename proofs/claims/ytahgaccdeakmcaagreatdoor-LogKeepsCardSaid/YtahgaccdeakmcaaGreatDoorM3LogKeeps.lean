/- Texts of this claim, in one. -/
import Derived.Test.YtahgaccdeakmcaaGreatDoorM4LogKeeps
import Derived.Deep.AppendLies
import Derived.Deep.RegionHeld3
import Derived.RangeFuncNested
import Derived.RangeFuncBound
import Derived.RangeFuncCalls
import Derived.RangeFuncLeaves
import Derived.Shelf.Abstract
import Derived.Shelf.RegionOpen
import Derived.WalkKit
import Derived.OwnWalkIn
import Derived.TacticsInMore
import Derived.LoopNIn
import Derived.LoopIn
import Derived.Deep.CutBlock
import Derived.Deep.RegionWith
import Derived.Deep.DrawnRows
import Derived.Test.YtahgaccdeakmcaaGreatDoorWb
import Derived.Test.YtahgaccdeakmcaaGreatDoorWv
import Derived.LaidEql
import Derived.Stop.Asserts
import Derived.RowKitTokens
import Derived.Laws.OwnMore
import Derived.Test.YtahgaccdeakmcaaGreatDoorFs
import Derived.Test.YtahgaccdeakmcaaGreatDoorOw
import Derived.Test.YtahgaccdeakmcaaGreatDoorPr
import Derived.Test.YtahgaccdeakmcaaGreatDoorCyc
namespace Go.Proofs.YtahgaccdeakmcaaGreatDoor
abbrev Q := Fin 1013
def qE : Nat := 1011
def qinv (a : Q) : Q := ⟨a.val ^ qE % 1013, Nat.mod_lt _ (by decide)⟩
def qchk : Nat → Bool
  | 0 => true
  | k+1 => (k == 0 || (k * (k ^ qE % 1013) % 1013 == 1)) && qchk k
theorem qchk_ok : qchk 1013 = true := by decide +kernel
theorem qchk_at : ∀ n, qchk n = true → ∀ k, k < n → k ≠ 0 → k * (k ^ qE % 1013) % 1013 = 1
  | 0, _, _, hk, _ => absurd hk (Nat.not_lt_zero _)
  | n+1, h, k, hk, h0 => by
    simp only [qchk, Bool.and_eq_true, Bool.or_eq_true, beq_iff_eq] at h
    rcases Nat.lt_succ_iff_lt_or_eq.mp hk with h1 | h1
    · exact qchk_at n h.2 k h1 h0
    · subst h1; rcases h.1 with h2 | h2
      · exact absurd h2 h0
      · exact h2
theorem qmul_inv {a : Q} (h : a ≠ 0) : a * qinv a = 1 := by
  apply Fin.ext
  have := qchk_at 1013 qchk_ok a.val a.isLt (fun e => h (Fin.ext e))
  simpa [Fin.mul_def, qinv] using this
theorem qzero_or {a b : Q} (h : a * b = 0) : a = 0 ∨ b = 0 := by
  by_cases ha : a = 0
  · exact .inl ha
  · right; have h1 := qmul_inv ha
    have : qinv a * (a * b) = qinv a * 0 := by rw [h]
    grobner
theorem qcancel {a b c : Q} (hc : c ≠ 0) (h : c * a = c * b) : a = b := by
  have h1 := qmul_inv hc
  have : qinv c * (c * a) = qinv c * (c * b) := by rw [h]
  grobner
def qi (z : Int) : Q := ⟨(z % 1013).toNat, by omega⟩
theorem qi_val (z : Int) : ((qi z).val : Int) = z % 1013 := by simp only [qi]; omega
theorem qi_eq {a b : Int} : qi a = qi b ↔ a % 1013 = b % 1013 := by
  constructor
  · intro h; have := congrArg (fun x : Q => (x.val : Int)) h; simpa only [qi_val] using this
  · intro h; simp only [qi, h]
theorem qi_ext {a : Q} {z : Int} (h : (a.val : Int) = z % 1013) : a = qi z := by
  apply Fin.ext; have := qi_val z; omega
theorem qi_mod (z : Int) : qi (z % 1013) = qi z := qi_eq.mpr (by omega)
theorem qi_add (a b : Int) : qi (a + b) = qi a + qi b := by
  symm; apply qi_ext; rw [Fin.val_add]; have ha := qi_val a; have hb := qi_val b; omega
theorem qi_mul (a b : Int) : qi (a * b) = qi a * qi b := by
  symm; apply qi_ext; rw [Fin.val_mul]; have ha := qi_val a; have hb := qi_val b
  rw [Int.mul_emod, ← ha, ← hb]; simp
theorem qi_zero : qi 0 = 0 := rfl
theorem qi_one : qi 1 = 1 := rfl
theorem qi_neg (a : Int) : qi (-a) = - qi a := by
  have : qi (-a + a) = qi (-a) + qi a := qi_add _ _
  rw [show -a + a = 0 by omega, qi_zero] at this; grobner
theorem qi_sub (a b : Int) : qi (a - b) = qi a - qi b := by
  have := qi_add a (-b); rw [qi_neg] at this; rw [show a - b = a + -b by omega, this]; grobner
theorem qi_pow (a : Int) : ∀ n : Nat, qi (a ^ n) = qi a ^ n
  | 0 => by simp [qi_one]
  | n+1 => by rw [Int.pow_succ, qi_mul, qi_pow a n]; grobner
theorem qval_pow (a : Q) : ∀ n : Nat, (a ^ n).val = a.val ^ n % 1013
  | 0 => rfl
  | n+1 => by
    have : a ^ (n+1) = a ^ n * a := by grobner
    rw [this, Fin.val_mul, qval_pow a n, Nat.pow_succ, Nat.mod_mul_mod]
theorem qpowv (a : Q) (n : Nat) (h : a.val ^ n % 1013 < 1013) : (⟨a.val ^ n % 1013, h⟩ : Q) = a ^ n := Fin.ext (qval_pow a n).symm
theorem qinv_pow (a : Q) : qinv a = a ^ qE := qpowv a qE _
theorem qi_inj {a b : Int} (ha : 0 ≤ a ∧ a < 1013) (hb : 0 ≤ b ∧ b < 1013) (h : qi a = qi b) : a = b := by have := qi_eq.mp h; omega
theorem qi_ne {a : Int} (h1 : 1 ≤ a) (h2 : a < 1013) : qi a ≠ 0 := fun h => by
  have := qi_inj (by omega) (by omega) (h.trans qi_zero.symm); omega

/-- The weight of a place x among some. -/
def wt (x : Q) : List Q → Q
  | [] => 1
  | y :: l => if y = x then wt x l else y * qinv (y - x) * wt x l
def qsum (f : Q → Q) : List Q → Q
  | [] => 0
  | y :: l => f y + qsum f l
/-- What values, times the weights, add up to. -/
def lag (xs : List Q) (f : Q → Q) : Q := qsum (fun x => wt x xs * f x) xs
/-- A polynomial's value: the coefficient of the power 0 first. -/
def ev : List Q → Q → Q
  | [], _ => 0
  | c :: l, t => c + t * ev l t
/-- The quotient by (t - r). -/
def quo (r : Q) : List Q → List Q
  | [] => []
  | _ :: l => match l with
    | [] => []
    | _ => ev l r :: quo r l
theorem qsum_congr {f g : Q → Q} : ∀ {l : List Q}, (∀ x ∈ l, f x = g x) → qsum f l = qsum g l
  | [], _ => rfl
  | y :: l, h => by
    simp only [qsum]; rw [h y (by simp), qsum_congr fun x hx => h x (by simp [hx])]
theorem qsum_add (f g : Q → Q) : ∀ l : List Q, qsum (fun x => f x + g x) l = qsum f l + qsum g l
  | [] => by simp only [qsum]; grobner
  | y :: l => by simp only [qsum]; rw [qsum_add f g l]; grobner
theorem qsum_mul (c : Q) (f : Q → Q) : ∀ l : List Q, qsum (fun x => c * f x) l = c * qsum f l
  | [] => by simp only [qsum]; grobner
  | y :: l => by simp only [qsum]; rw [qsum_mul c f l]; grobner
theorem lag_add (xs : List Q) (f g : Q → Q) : lag xs (fun x => f x + g x) = lag xs f + lag xs g := by
  unfold lag; rw [← qsum_add]; exact qsum_congr fun x _ => by grobner
theorem lag_mul (xs : List Q) (c : Q) (f : Q → Q) : lag xs (fun x => c * f x) = c * lag xs f := by
  unfold lag; rw [← qsum_mul]; exact qsum_congr fun x _ => by grobner
theorem lag_congr {xs : List Q} {f g : Q → Q} (h : ∀ x ∈ xs, f x = g x) : lag xs f = lag xs g :=
  qsum_congr fun x hx => by rw [h x hx]
/-- The first place out. -/
theorem lag_out {x1 : Q} {xs : List Q} (h1 : x1 ∉ xs) (f : Q → Q) : lag (x1 :: xs) (fun x => (x - x1) * f x) = - x1 * lag xs f := by
  unfold lag
  rw [← qsum_mul]
  simp only [qsum]
  rw [show wt x1 (x1 :: xs) * ((x1 - x1) * f x1) = 0 by grobner]
  have : qsum (fun x => wt x (x1 :: xs) * ((x - x1) * f x)) xs = qsum (fun x => -x1 * (wt x xs * f x)) xs := by
    apply qsum_congr
    intro x hx
    have hne : x1 ≠ x := fun e => h1 (e ▸ hx)
    have e : wt x (x1 :: xs) = x1 * qinv (x1 - x) * wt x xs := by simp only [wt]; rw [if_neg hne]
    have hd : x1 - x ≠ 0 := fun e => hne (by grobner)
    have k := qmul_inv hd
    rw [e]
    generalize qinv (x1 - x) = i at *
    clear e hd hne hx h1
    grobner
  rw [this]; grobner
theorem wt_swap (x a b : Q) (l : List Q) : wt x (a :: b :: l) = wt x (b :: a :: l) := by
  simp only [wt]; split <;> split <;> grobner
theorem lag_swap (a b : Q) (l : List Q) (f : Q → Q) : lag (a :: b :: l) f = lag (b :: a :: l) f := by
  unfold lag
  have : qsum (fun x => wt x (a :: b :: l) * f x) (a :: b :: l) = qsum (fun x => wt x (b :: a :: l) * f x) (a :: b :: l) := qsum_congr fun x _ => by rw [wt_swap]
  rw [this]; simp only [qsum]; grobner
theorem lag_one : ∀ (n : Nat) (xs : List Q), xs.length = n + 1 → xs.Nodup → lag xs (fun _ => 1) = 1
  | 0, xs, hl, _ => by
    match xs, hl with
    | [a], _ => simp only [lag, qsum, wt, if_true]; grobner
  | n+1, xs, hl, hd => by
    match xs, hl with
    | a :: b :: l, hl =>
      have hab : a ∉ b :: l := (List.nodup_cons.mp hd).1
      have hd2 : (b :: a :: l).Nodup := by
        have := (List.nodup_cons.mp hd).2
        have := (List.nodup_cons.mp this)
        simp only [List.mem_cons, not_or] at hab
        refine List.nodup_cons.mpr ⟨?_, List.nodup_cons.mpr ⟨hab.2, this.2⟩⟩
        simp only [List.mem_cons, not_or]; exact ⟨fun e => hab.1 e.symm, this.1⟩
      have i1 := lag_one n (b :: l) (by simpa using hl) (List.nodup_cons.mp hd).2
      have i2 := lag_one n (a :: l) (by simpa using hl) (List.nodup_cons.mp hd2).2
      have o1 := lag_out hab (fun _ => 1)
      have o2 := lag_out (List.nodup_cons.mp hd2).1 (fun _ => 1)
      rw [i1] at o1; rw [i2, lag_swap] at o2
      have d : lag (a :: b :: l) (fun _ => (b - a) * 1) = (b - a) * 1 := by
        have e : lag (a :: b :: l) (fun _ => (b - a) * 1) = lag (a :: b :: l) (fun x => (x - a) * 1 + (-1) * ((x - b) * 1)) := lag_congr fun x _ => by grobner
        rw [e, lag_add, lag_mul, o1, o2]; grobner
      rw [lag_mul] at d
      refine qcancel (fun e => ?_) d
      exact hab (by have : a = b := by grobner
                    rw [this]; simp)
theorem ev_quo (r t : Q) : ∀ p : List Q, ev p t = ev p r + (t - r) * ev (quo r p) t
  | [] => by simp only [ev, quo]; grobner
  | [c] => by simp only [ev, quo]; grobner
  | c :: d :: l => by
    have ih := ev_quo r t (d :: l)
    show c + t * ev (d :: l) t = c + r * ev (d :: l) r + (t - r) * (ev (d :: l) r + t * ev (quo r (d :: l)) t)
    generalize ev (d :: l) t = A at *
    generalize ev (d :: l) r = B at *
    generalize ev (quo r (d :: l)) t = C at *
    subst ih; grobner
theorem quo_len (r : Q) : ∀ p : List Q, (quo r p).length = p.length - 1
  | [] => rfl
  | [_] => rfl
  | _ :: d :: l => by
    have := quo_len r (d :: l)
    show (quo r (d :: l)).length + 1 = _
    rw [this]; simp
/-- Any so many of them tell it (Lagrange, Shamir): of a polynomial of no more coefficients than places the values tell its value at 0. -/
theorem lag_ev : ∀ (xs : List Q) (p : List Q), xs ≠ [] → xs.Nodup → p.length ≤ xs.length → lag xs (ev p) = ev p 0
  | [], _, h, _, _ => absurd rfl h
  | [a], p, _, _, hp => by
    match p, hp with
    | [], _ => simp only [lag, qsum, wt, ev, if_true]; grobner
    | [c], _ => simp only [lag, qsum, wt, ev, if_true]; grobner
  | a :: b :: l, p, _, hd, hp => by
    have ih := lag_ev (b :: l) (quo a p) (by simp) (List.nodup_cons.mp hd).2 (by rw [quo_len]; simp only [List.length_cons] at hp ⊢; omega)
    have e : lag (a :: b :: l) (ev p) = lag (a :: b :: l) (fun x => ev p a * 1 + (x - a) * ev (quo a p) x) := lag_congr fun x _ => by
      rw [ev_quo a x p]; grobner
    rw [e, lag_add, lag_mul, lag_one (l.length + 1) _ (by simp) hd, lag_out (List.nodup_cons.mp hd).1, ih, ev_quo a 0 p]; grobner
end Go.Proofs.YtahgaccdeakmcaaGreatDoor
namespace Go.Proofs.YtahgaccdeakmcaaGreatDoor
theorem q_solve {h : Int} (d : Int) (h1 : 1 ≤ h) (h2 : h < 1013) : ∃ n : Int, 0 ≤ n ∧ n < 1013 ∧ (h * n) % 1013 = d % 1013 := by
  have hi := qmul_inv (qi_ne h1 h2)
  refine ⟨((qinv (qi h) * qi d).val : Int), by omega, by have := (qinv (qi h) * qi d).isLt; omega, ?_⟩
  apply qi_eq.mp
  have e : qi ((qinv (qi h) * qi d).val : Int) = qinv (qi h) * qi d := by
    symm; apply qi_ext; have := (qinv (qi h) * qi d).isLt; omega
  rw [qi_mul, e]
  generalize qinv (qi h) = i at *
  have : qi h * (i * qi d) = (qi h * i) * qi d := by grobner
  rw [this, hi]; grobner
theorem q_inj {h n m : Int} (h1 : 1 ≤ h) (h2 : h < 1013) (e : (h * n) % 1013 = (h * m) % 1013) : n % 1013 = m % 1013 := by
  have := qi_eq.mpr e
  rw [qi_mul, qi_mul] at this
  exact qi_eq.mp (qcancel (qi_ne h1 h2) this)
end Go.Proofs.YtahgaccdeakmcaaGreatDoor
namespace Go.Proofs.YtahgaccdeakmcaaGreatDoor
open Go.RowKit
set_option maxRecDepth 100000
set_option linter.unusedVariables false
set_option linter.unusedSimpArgs false
theorem getD_set_ne (G : List Bool) (a b : Nat) (h : a ≠ b) : (G.set a true).getD b true = G.getD b true := by
  rw [List.getD_eq_getElem?_getD, List.getD_eq_getElem?_getD, List.getElem?_set_ne h]
theorem getD_set_eq (G : List Bool) (a : Nat) : (G.set a true).getD a true = true := by
  rw [List.getD_eq_getElem?_getD]
  by_cases h : a < G.length
  · rw [List.getElem?_set_self h]; rfl
  · rw [List.getElem?_eq_none (by rw [List.length_set]; omega)]; rfl
theorem totN_set (N : List Int) (G : List Bool) (g : Nat) (hg : G.getD g true = false) : ∀ k, totN N (G.set g true) k = totN N G k - (if g < k then N.getD g 0 else 0)
  | 0 => by simp [totN]
  | k + 1 => by
    unfold totN
    rw [totN_set N G g hg k]
    by_cases e : g = k
    · subst e
      rw [getD_set_eq, hg, if_neg (Nat.lt_irrefl _), if_pos (Nat.lt_succ_self _)]
      simp
    · rw [getD_set_ne G g k e]
      by_cases h : g < k
      · rw [if_pos h, if_pos (show g < k + 1 by omega)]; omega
      · rw [if_neg h, if_neg (show ¬ g < k + 1 by omega)]; omega
theorem liveN_set (G : List Bool) (g : Nat) (hg : G.getD g true = false) : ∀ k, (liveN (G.set g true) k).length + (if g < k then 1 else 0) = (liveN G k).length
  | 0 => by simp [liveN]
  | k + 1 => by
    have ih := liveN_set G g hg k
    unfold liveN
    rw [List.length_append, List.length_append]
    by_cases e : g = k
    · subst e
      rw [getD_set_eq, hg, if_pos (Nat.lt_succ_self _)]
      rw [if_neg (Nat.lt_irrefl _)] at ih
      simp; omega
    · rw [getD_set_ne G g k e]
      by_cases h : g < k
      · rw [if_pos h] at ih; rw [if_pos (show g < k + 1 by omega)]; omega
      · rw [if_neg h] at ih; rw [if_neg (show ¬ g < k + 1 by omega)]; omega
/-- Numbers as they go. -/
def nI (ps : List Nat) : List Int := ps.map fun (p : Nat) => (p : Int)
theorem nI_len (ps : List Nat) : (nI ps).length = ps.length := List.length_map _
theorem goneL_cons (G : List Bool) (p : Nat) (ps : List Nat) : goneL G (nI (p :: ps)) = goneL (G.set p true) (nI ps) := rfl
theorem outN_cons (N : List Int) (p : Nat) (ps : List Nat) : outN N (nI (p :: ps)) = -(N.getD p 0) + outN N (nI ps) := by
  unfold outN nI; simp only [List.map_cons, List.sum_cons, Int.toNat_natCast]; omega
theorem goneL_getD (G : List Bool) : ∀ (ps : List Nat) (q : Nat), (goneL G (nI ps)).getD q true = if q ∈ ps then true else G.getD q true := by
  intro ps
  induction ps generalizing G with
  | nil => intro q; simp [goneL, nI]
  | cons p ps ih =>
    intro q
    rw [goneL_cons, ih]
    by_cases h : q ∈ ps
    · rw [if_pos h, if_pos (List.mem_cons_of_mem _ h)]
    · rw [if_neg h]
      by_cases e : q = p
      · subst e; rw [getD_set_eq, if_pos List.mem_cons_self]
      · rw [getD_set_ne G p q (fun x => e x.symm), if_neg (by simp [e, h])]
theorem totN_gone (N : List Int) (k : Nat) : ∀ (ps : List Nat) (G : List Bool), ps.Nodup → (∀ p ∈ ps, p < k ∧ G.getD p true = false) → totN N (goneL G (nI ps)) k = totN N G k + outN N (nI ps)
  | [], G, _, _ => by simp [goneL, nI, outN]
  | p :: ps, G, hn, h => by
    obtain ⟨h1, h2⟩ := List.nodup_cons.mp hn
    obtain ⟨hp, hg⟩ := h p List.mem_cons_self
    rw [goneL_cons, outN_cons, totN_gone N k ps _ h2 (fun q hq => ⟨(h q (List.mem_cons_of_mem _ hq)).1, by rw [getD_set_ne G p q (fun e => h1 (e ▸ hq))]; exact (h q (List.mem_cons_of_mem _ hq)).2⟩), totN_set N G p hg k, if_pos hp]
    omega
theorem liveN_gone (k : Nat) : ∀ (ps : List Nat) (G : List Bool), ps.Nodup → (∀ p ∈ ps, p < k ∧ G.getD p true = false) → (liveN (goneL G (nI ps)) k).length + ps.length = (liveN G k).length
  | [], G, _, _ => by simp [goneL, nI]
  | p :: ps, G, hn, h => by
    obtain ⟨h1, h2⟩ := List.nodup_cons.mp hn
    obtain ⟨hp, hg⟩ := h p List.mem_cons_self
    have := liveN_gone k ps (G.set p true) h2 (fun q hq => ⟨(h q (List.mem_cons_of_mem _ hq)).1, by rw [getD_set_ne G p q (fun e => h1 (e ▸ hq))]; exact (h q (List.mem_cons_of_mem _ hq)).2⟩)
    have h3 := liveN_set G p hg k
    rw [if_pos hp] at h3
    rw [goneL_cons, List.length_cons]
    omega
theorem getD_app_lo {α : Type} (l m : List α) (d : α) (k : Nat) (h : k < l.length) : (l ++ m).getD k d = l.getD k d := by
  rw [List.getD_eq_getElem?_getD, List.getD_eq_getElem?_getD, List.getElem?_append_left h]
theorem getD_app_hi {α : Type} (l m : List α) (d : α) (k : Nat) : (l ++ m).getD (l.length + k) d = m.getD k d := by
  rw [List.getD_eq_getElem?_getD, List.getD_eq_getElem?_getD, List.getElem?_append_right (by omega), Nat.add_sub_cancel_left]
theorem totN_lo (N M : List Int) (G H : List Bool) (hG : G.length = N.length) : ∀ k, k ≤ N.length → totN (N ++ M) (G ++ H) k = totN N G k
  | 0, _ => rfl
  | k + 1, h => by
    unfold totN
    rw [totN_lo N M G H hG k (by omega), getD_app_lo N M 0 k (by omega), getD_app_lo G H true k (by omega)]
theorem totN_hi (N M : List Int) (G : List Bool) (hG : G.length = N.length) : ∀ j, j ≤ M.length → totN (N ++ M) (G ++ List.replicate M.length false) (N.length + j) = totN N G N.length + (M.take j).sum
  | 0, _ => by simp [totN_lo N M G _ hG]
  | j + 1, h => by
    show totN _ _ (N.length + j) + (if (G ++ List.replicate M.length false).getD (N.length + j) true = true then 0 else (N ++ M).getD (N.length + j) 0) = _
    rw [totN_hi N M G hG j (by omega), getD_app_hi N M 0 j]
    have e : (G ++ List.replicate M.length false).getD (N.length + j) true = false := by
      rw [← hG, getD_app_hi, List.getD_eq_getElem?_getD, List.getElem?_replicate_of_lt (by omega)]; rfl
    rw [e, if_neg (by simp), sumB_snoc M j (by omega), List.getD_eq_getElem?_getD, List.getElem?_eq_getElem (by omega)]
    simp only [Option.getD_some]
    omega
theorem liveN_lo (G H : List Bool) : ∀ k, k ≤ G.length → liveN (G ++ H) k = liveN G k
  | 0, _ => rfl
  | k + 1, h => by unfold liveN; rw [liveN_lo G H k (by omega), getD_app_lo G H true k (by omega)]
theorem liveN_hi (G : List Bool) (m : Nat) : ∀ j, j ≤ m → (liveN (G ++ List.replicate m false) (G.length + j)).length = (liveN G G.length).length + j
  | 0, _ => by simp [liveN_lo]
  | j + 1, h => by
    have e : (G ++ List.replicate m false).getD (G.length + j) true = false := by
      rw [getD_app_hi, List.getD_eq_getElem?_getD, List.getElem?_replicate_of_lt (by omega)]; rfl
    show (liveN _ (G.length + j) ++ (if (G ++ List.replicate m false).getD (G.length + j) true = true then [] else [((G.length + j : Nat) : Int)])).length = _
    rw [List.length_append, liveN_hi G m j (by omega), e, if_neg (by simp)]
    simp; omega
/-- Behind a deal: the sum of what is live, and how many are. -/
theorem deal_tot (N M : List Int) (G : List Bool) (ps : List Nat) (hG : G.length = N.length) (hn : ps.Nodup) (h : ∀ p ∈ ps, p < N.length ∧ G.getD p true = false) :
    totN (N ++ M) (goneL G (nI ps) ++ List.replicate M.length false) (N ++ M).length = totN N G N.length + (outN N (nI ps) + M.sum) ∧ (liveN (goneL G (nI ps) ++ List.replicate M.length false) (N ++ M).length).length + ps.length = (liveN G N.length).length + M.length := by
  have hl : (goneL G (nI ps)).length = N.length := by rw [goneL_len, hG]
  rw [List.length_append]
  constructor
  · rw [totN_hi N M _ hl M.length (Nat.le_refl _), totN_gone N N.length ps G hn h, List.take_length]; omega
  · have := liveN_hi (goneL G (nI ps)) M.length M.length (Nat.le_refl _)
    rw [hl] at this
    rw [this, ← liveN_gone N.length ps G hn h]; omega
theorem getD_fresh (n p : Nat) (h : p < n) : (List.replicate n false).getD p true = false := by
  rw [List.getD_eq_getElem?_getD, List.getElem?_replicate_of_lt h]; rfl
theorem liveN_fresh (n : Nat) : ∀ k, k ≤ n → (liveN (List.replicate n false) k).length = k
  | 0, _ => rfl
  | k + 1, h => by
    show (liveN _ k ++ (if (List.replicate n false).getD k true = true then [] else [(k : Int)])).length = _
    rw [List.length_append, liveN_fresh n k (by omega), getD_fresh n k (by omega), if_neg (by simp)]; rfl
/-- When what is sealed by what is left between closes. -/
theorem close_is (k c r v : Int) (c0 : 0 ≤ c) (c1 : c < 1013) : Sp.beq (sq (4 * hJ * ((k + c * (r % 1013)) % 1013))) (sSum (sq (4 * hJ * k)) (sq (4 * (v + hJ * r) * c))) = decide (v % 1013 = 0 ∨ c = 0) := by
  rw [sq_add]
  have h2 : sq (4 * hJ * ((k + c * (r % 1013)) % 1013)) = sq (4 * hJ * k + 4 * (hJ * r) * c) := by
    refine sq_eq_iff.mpr (mod_off _ _ _ (close_nums hJ k c r ((k + c * (r % 1013)) / 1013) (r / 1013) _ (r % 1013) ?_ ?_))
    · omega
    · omega
  rw [h2]
  have e : 4 * hJ * k + 4 * (v + hJ * r) * c - (4 * hJ * k + 4 * (hJ * r) * c) = 4 * (c * v) := by grind
  have key : (sq (4 * hJ * k + 4 * (hJ * r) * c) = sq (4 * hJ * k + 4 * (v + hJ * r) * c)) ↔ (v % 1013 = 0 ∨ c = 0) := by
    rw [sq_eq_iff]
    constructor
    · intro h
      by_cases hc : c = 0
      · exact .inr hc
      · have h3 : (c * v) % 1013 = 0 := by omega
        have h4 := q_inj (h := c) (n := v) (m := 0) (by omega) c1 (by rw [Int.mul_zero]; exact h3)
        exact .inl h4
    · intro h
      have h3 : (c * v) % 1013 = 0 := by
        rcases h with h | h
        · rw [Int.mul_emod, h]; simp
        · rw [h]; simp
      omega
  by_cases h : v % 1013 = 0 ∨ c = 0
  · rw [decide_eq_true h]; exact Sp.beq_iff.mpr (key.mpr h)
  · rw [decide_eq_false h]; exact Sp.beq_ne fun e => h (key.mp e)
end Go.Proofs.YtahgaccdeakmcaaGreatDoor
namespace Go.Proofs.YtahgaccdeakmcaaGreatDoor
open Go.RowKit
set_option maxRecDepth 100000
set_option linter.unusedVariables false
set_option linter.unusedSimpArgs false
theorem bnew_nil (w : World) (hF : FarAt w) : Calls Tryz.prog 35 #[.slice none 0 0] w fun e w' => ∃ p, e = .returned (.tuple #[.pointer (some ⟨p, 0, none⟩), .nilIface]) ∧ BkAt w' w.heap.size p [] [] ∧ Below w.heap.size w w' :=
  bnew_y [] none 0 w (by decide) hF (fun h => absurd h (by decide))
theorem bcheck_no (w : World) (hF : FarAt w) : Calls Tryz.prog 75 #[.slice none 0 0] w fun e w' => e = .returned .nilIface ∧ Below w.heap.size w w' :=
  bcheck_core [] 0 .nilIface _ 0 w hF (by decide) (fun h => absurd h (by decide)) (Lib.hid fun k h _ => absurd h (Nat.not_lt_zero _)) (by decide) (Lib.hid fun h => absurd h (by decide)) (Lib.hid fun h => absurd h (by decide)) (Lib.hid fun _ => rfl)
theorem bex_nil (N : List Int) (G : List Bool) (B p : Nat) (w : World) (hF : FarAt w) (hBk : BkAt w B p N G) (hNl : N.length ≤ 1000000) :
    Calls Tryz.prog 36 #[.pointer (some ⟨p, 0, none⟩), .slice none 0 0, .slice none 0 0] w fun e w' => e = .returned (.tuple #[spV ⟨0, 0, true⟩, .nilIface]) ∧ Below w.heap.size w w' :=
  bex_core N G B p [] [] none none 0 0 0 0 .nilIface _ w hF hBk hNl (by decide) (by decide) (by decide) (fun h => absurd h (by decide)) (fun h => absurd h (by decide)) (by decide) (by decide) (fun i h => absurd h (Nat.not_lt_zero _)) (fun h => absurd h (by decide)) (Lib.hid fun w1 hb => bcheck_no w1 (hF.below hb)) (Lib.hid fun h => absurd h (by decide)) (Lib.hid fun _ => .inr ⟨rfl, [], rfl, by rw [show outN N [] + ([] : List Int).sum = 0 from rfl, qS_zero]⟩)
/-- A deal of nothing is done. -/
theorem bdo_nil (N : List Int) (G : List Bool) (B p : Nat) (P : Sp) (w : World) (hF : FarAt w) (hBk : BkAt w B p N G) (hB0 : B ≤ w.heap.size) (hNl : N.length ≤ 1000) (hP : Hid (sq (4 * hJ * 1) = P)) :
    Calls Tryz.prog 38 #[.pointer (some ⟨p, 0, none⟩), dlV (.slice none 0 0) (.slice none 0 0) P 1] w fun e w' => e = .returned .nilIface ∧ BkAt w' B p N G ∧ Below B w w' := by
  obtain ⟨vc, vg, hv⟩ := hBk
  have hq : Sp.beq (sq (4 * hJ * 1)) (sSum P (sq (4 * 0 * bAsk P ⟨0, 0, true⟩))) = true := by
    have := close_ok 1 (bAsk P ⟨0, 0, true⟩) 0 0 (by decide)
    rw [hP.out] at this
    rw [show (1 + bAsk P ⟨0, 0, true⟩ * ((0 : Int) % 1013)) % 1013 = 1 by rw [show (0 : Int) % 1013 = 0 from rfl, Int.mul_zero]; rfl] at this
    exact this
  have oP : Ok P := by rw [← hP.out]; exact sq_ok _
  refine (bdo_y N [] G B p vc vg [] [] none none 0 0 P 1 ⟨0, 0, true⟩ 0 w hF hv hB0 hNl (Lib.hid sq_zero.symm) (by decide) (fun h => absurd h (by decide)) (fun h => absurd h (by decide)) (fun g h => absurd h List.not_mem_nil) (Lib.hid fun w1 hb => bex_nil N G B p w1 (hF.below hb) ⟨_, _, hv.below hb⟩ (by omega)) (by simpa using hNl) (by decide) (by decide) oP (Lib.hid hq)).mono ?_
  rintro e w' ⟨rfl, vc', vg', hv', -, hb⟩
  refine ⟨rfl, ⟨vc', vg', ?_⟩, hb.below hB0 fun k hk => (hv.blk k hk).1⟩
  have e1 : goneL G [] ++ List.replicate ([] : List Int).length false = G := by show G ++ [] = G; rw [List.append_nil]
  rw [e1, List.append_nil] at hv'
  exact hv'
theorem btotal_nil (B p : Nat) (w : World) (hF : FarAt w) (hBk : BkAt w B p [] []) : Calls Tryz.prog 40 #[.pointer (some ⟨p, 0, none⟩)] w fun e w' => e = .returned (spV ⟨0, 0, true⟩) ∧ Below w.heap.size w w' := by
  have := btotal_c [] [] B p w hF hBk (by decide)
  rw [show totN [] [] ([] : List Int).length = 0 from rfl, qS_zero] at this
  exact this
theorem blive_n (N : List Int) (G : List Bool) (B p n : Nat) (w : World) (hBk : BkAt w B p N G) (hN : N.length ≤ 1000) (hn : Hid ((liveN G N.length).length = n)) :
    Calls Tryz.prog 70 #[.pointer (some ⟨p, 0, none⟩)] w fun e w' => ∃ a cap, e = .returned (.slice a n cap) ∧ Below w.heap.size w w' := by
  refine (blive_c N G B p w hBk (by omega)).mono ?_
  rintro e w' ⟨v, rfl, ho, hb⟩
  rw [hn.out] at ho
  obtain ⟨a, cap, rfl⟩ := own_slB ho
  exact ⟨a, cap, rfl, hb⟩
/-- The numbers of coins made of values and rests. -/
def coinN (vs rs : List Int) : Nat → List Int
  | 0 => []
  | n + 1 => coinN vs rs n ++ [vs.getD n 0 + hJ * rs.getD n 0]
theorem coinN_len (vs rs : List Int) : ∀ n, (coinN vs rs n).length = n
  | 0 => rfl
  | n + 1 => by unfold coinN; rw [List.length_append, coinN_len vs rs n]; rfl
theorem coinN_get (vs rs : List Int) : ∀ n p, p < n → (coinN vs rs n).getD p 0 = vs.getD p 0 + hJ * rs.getD p 0
  | 0, p, h => absurd h (Nat.not_lt_zero _)
  | n + 1, p, h => by
    unfold coinN
    by_cases e : p < n
    · rw [getD_app_lo _ _ _ _ (by rw [coinN_len]; exact e), coinN_get vs rs n p e]
    · obtain rfl : p = n := by omega
      have := getD_app_hi (coinN vs rs p) [vs.getD p 0 + hJ * rs.getD p 0] 0 0
      rw [coinN_len, Nat.add_zero] at this
      rw [this]; rfl
def okV (vs rs : List Int) (n : Nat) : Prop := ∀ j, j < n → 0 ≤ vs.getD j 0 ∧ vs.getD j 0 < 1013 ∧ 0 ≤ rs.getD j 0 ∧ rs.getD j 0 < 1013
theorem okV.snoc {vs rs : List Int} {n : Nat} (h : okV vs rs n) (k : 0 ≤ vs.getD n 0 ∧ vs.getD n 0 < 1013 ∧ 0 ≤ rs.getD n 0 ∧ rs.getD n 0 < 1013) : okV vs rs (n + 1) := fun j hj => by
  by_cases e : j < n
  · exact h j e
  · obtain rfl : j = n := by omega
    exact k
/-- Sums of those picked. -/
def psum (l : List Int) (ps : List Nat) : Int := (ps.map fun p => l.getD p 0).sum
theorem psum_snoc (l : List Int) (ps : List Nat) (p : Nat) : psum l (ps ++ [p]) = psum l ps + l.getD p 0 := by unfold psum; rw [List.map_append, List.sum_append]; simp
theorem psum_bd (l : List Int) (n : Nat) (h : ∀ j, j < n → 0 ≤ l.getD j 0 ∧ l.getD j 0 < 1013) : ∀ ps : List Nat, (∀ p ∈ ps, p < n) → 0 ≤ psum l ps ∧ psum l ps ≤ 1012 * ps.length
  | [], _ => by simp [psum]
  | p :: ps, hp => by
    have h1 := psum_bd l n h ps fun q hq => hp q (List.mem_cons_of_mem _ hq)
    have h2 := h p (hp p List.mem_cons_self)
    have e : psum l (p :: ps) = l.getD p 0 + psum l ps := by unfold psum; simp
    rw [e, List.length_cons]; omega
def tsum (l : List Int) : Nat → Int
  | 0 => 0
  | n + 1 => tsum l n + l.getD n 0
theorem tsum_bd (l : List Int) : ∀ n, (∀ j, j < n → 0 ≤ l.getD j 0 ∧ l.getD j 0 < 1013) → 0 ≤ tsum l n ∧ tsum l n ≤ 1012 * n
  | 0, _ => by simp [tsum]
  | n + 1, h => by
    have h1 := tsum_bd l n fun j hj => h j (by omega)
    have h2 := h n (by omega)
    unfold tsum; omega
theorem coinN_sum (vs rs : List Int) : ∀ n, (coinN vs rs n).sum = tsum vs n + hJ * tsum rs n
  | 0 => by simp [coinN, tsum]
  | n + 1 => by unfold coinN tsum; rw [List.sum_append, coinN_sum vs rs n, Int.mul_add]; simp; omega
theorem outN_coin (vs rs : List Int) (n : Nat) : ∀ ps : List Nat, (∀ p ∈ ps, p < n) → outN (coinN vs rs n) (nI ps) = -(psum vs ps) - hJ * psum rs ps
  | [], _ => by simp [outN, nI, psum]
  | p :: ps, hp => by
    have e : ∀ l, psum l (p :: ps) = l.getD p 0 + psum l ps := fun l => by unfold psum; simp
    rw [outN_cons, outN_coin vs rs n ps fun q hq => hp q (List.mem_cons_of_mem _ hq), coinN_get vs rs n p (hp p List.mem_cons_self), e, e, Int.mul_add]; omega
/-- What goes and what comes, in one number. -/
theorem deal_num (vs rs come by' : List Int) (n m : Nat) (ps : List Nat) (hp : ∀ p ∈ ps, p < n) : outN (coinN vs rs n) (nI ps) + (coinN come by' m).sum = (-(psum vs ps) + tsum come m) + hJ * (-(psum rs ps) + tsum by' m) := by
  rw [outN_coin vs rs n ps hp, coinN_sum, Int.mul_add, Int.mul_neg]; omega
/-- The array at block b tells which of the first m places are among ps. -/
structure InAt (w : World) (b m : Nat) (ps : List Nat) : Prop where
  lt : b < w.heap.size
  c : ∀ j, j < m → w.cell? ⟨b, j, none⟩ = some (.bool (decide (j ∈ ps)))
  f : ∀ j, j < m → w.frozen? ⟨b, j, none⟩ = false
theorem InAt.keep {w w' : World} {b m : Nat} {ps : List Nat} (h : InAt w b m ps) (hs : w.heap.size ≤ w'.heap.size) (hb : w'.heap[b]? = w.heap[b]?) : InAt w' b m ps :=
  ⟨Nat.lt_of_lt_of_le h.lt hs, fun j hj => (World.cell?_of_block (a := ⟨b, j, none⟩) hb).trans (h.c j hj), fun j hj => (World.frozen?_of_block (a := ⟨b, j, none⟩) hb).trans (h.f j hj)⟩
theorem InAt.fresh (w : World) (m : Nat) (cs : Array Value) (t : TypeId) (hc : cs = Array.replicate m (.bool false)) : InAt (w.alloc (.cells cs t)) w.heap.size m [] := by
  subst hc
  refine ⟨by simp, fun j hj => ?_, fun j hj => ?_⟩
  · rw [cell_of_row _ w.heap.size _ (Array.replicate m (.bool false)) t (0, 0) (heap_alloc_new w _)]
    simp [hj]
  · simp
theorem InAt.put {w : World} {b m : Nat} {ps : List Nat} (h : InAt w b m ps) (p : Nat) (hp : p < m) : InAt (w.setCell ⟨b, p, none⟩ (.bool true)) b m (ps ++ [p]) := by
  refine ⟨by simpa [World.setCell] using h.lt, fun j hj => ?_, fun j hj => by rw [World.frozen?_setCell]; exact h.f j hj⟩
  by_cases e : j = p
  · subst e
    rw [World.cell?_setCell_same _ _ _ (h.c j hj)]; simp
  · rw [World.cell?_setCell_other (h := fun k => e (by cases k; rfl)), h.c j hj]
    simp [e]
theorem nodup_le : ∀ (n : Nat) (l : List Nat), l.Nodup → (∀ x ∈ l, x < n) → l.length ≤ n
  | 0, l, _, h => by
    cases l with
    | nil => exact Nat.le_refl _
    | cons x l => exact absurd (h x (List.mem_cons_self ..)) (Nat.not_lt_zero _)
  | n + 1, l, hd, h => by
    have ih := nodup_le n (l.erase n) (hd.erase n) (fun x hx => by
      have := (hd.mem_erase_iff).mp hx
      have := h x this.2
      omega)
    rw [List.length_erase] at ih
    split at ih <;> omega
/-- A deal that lies in a block. -/
structure DlAt (w : World) (b : Nat) (g n : Value) (r : Sp) (s : Int) : Prop where
  c0 : w.cell? ⟨b, 0, none⟩ = some g
  c1 : w.cell? ⟨b, 1, none⟩ = some n
  c2 : w.cell? ⟨b, 2, none⟩ = some (.int .i64 r.x)
  c3 : w.cell? ⟨b, 3, none⟩ = some (.int .i64 r.y)
  c4 : w.cell? ⟨b, 4, none⟩ = some (.bool r.far)
  c5 : w.cell? ⟨b, 5, none⟩ = some (.int .i64 s)
  f0 : w.frozen? ⟨b, 0, none⟩ = false
  f1 : w.frozen? ⟨b, 1, none⟩ = false
  f2 : w.frozen? ⟨b, 2, none⟩ = false
  f3 : w.frozen? ⟨b, 3, none⟩ = false
  f4 : w.frozen? ⟨b, 4, none⟩ = false
  f5 : w.frozen? ⟨b, 5, none⟩ = false
  lt : b < w.heap.size
theorem DlAt.keep {w w' : World} {b : Nat} {g n : Value} {r : Sp} {s : Int} (h : DlAt w b g n r s) (hs : w.heap.size ≤ w'.heap.size) (hb : w'.heap[b]? = w.heap[b]?) : DlAt w' b g n r s :=
  have c : ∀ o, w'.cell? ⟨b, o, none⟩ = w.cell? ⟨b, o, none⟩ := fun o => World.cell?_of_block (a := ⟨b, o, none⟩) hb
  have f : ∀ o, w'.frozen? ⟨b, o, none⟩ = w.frozen? ⟨b, o, none⟩ := fun o => World.frozen?_of_block (a := ⟨b, o, none⟩) hb
  ⟨(c 0).trans h.c0, (c 1).trans h.c1, (c 2).trans h.c2, (c 3).trans h.c3, (c 4).trans h.c4, (c 5).trans h.c5, (f 0).trans h.f0, (f 1).trans h.f1, (f 2).trans h.f2, (f 3).trans h.f3, (f 4).trans h.f4, (f 5).trans h.f5, Nat.lt_of_lt_of_le h.lt hs⟩
theorem DlAt.below {w w' : World} {b : Nat} {g n : Value} {r : Sp} {s : Int} (h : DlAt w b g n r s) (hb : Below w.heap.size w w') : DlAt w' b g n r s := h.keep hb.size (hb.block b h.lt)
theorem DlAt.fresh (w : World) (t : TypeId) : DlAt (w.alloc (.cells #[.slice none 0 0, .slice none 0 0, .int .i64 0, .int .i64 0, .bool false, .int .i64 0] t)) w.heap.size (.slice none 0 0) (.slice none 0 0) ⟨0, 0, false⟩ 0 := ⟨by simp, by simp, by simp, by simp, by simp, by simp, by simp, by simp, by simp, by simp, by simp, by simp, by simp⟩
theorem DlAt.setg {w : World} {b : Nat} {g n : Value} {r : Sp} {s : Int} (h : DlAt w b g n r s) (v : Value) : DlAt (w.setCell ⟨b, 0, none⟩ v) b v n r s := by
  have c : ∀ o, o ≠ 0 → (w.setCell ⟨b, 0, none⟩ v).cell? ⟨b, o, none⟩ = w.cell? ⟨b, o, none⟩ := fun o ho => World.cell?_setCell_other _ _ _ _ (fun e => ho (congrArg Addr.off e).symm)
  have f : ∀ o, (w.setCell ⟨b, 0, none⟩ v).frozen? ⟨b, o, none⟩ = w.frozen? ⟨b, o, none⟩ := fun o => World.frozen?_setCell ..
  exact ⟨World.cell?_setCell_same _ _ _ h.c0, (c 1 (by decide)).trans h.c1, (c 2 (by decide)).trans h.c2, (c 3 (by decide)).trans h.c3, (c 4 (by decide)).trans h.c4, (c 5 (by decide)).trans h.c5, (f 0).trans h.f0, (f 1).trans h.f1, (f 2).trans h.f2, (f 3).trans h.f3, (f 4).trans h.f4, (f 5).trans h.f5, by simpa [World.setCell] using h.lt⟩
theorem DlAt.setn {w : World} {b : Nat} {g n : Value} {r : Sp} {s : Int} (h : DlAt w b g n r s) (v : Value) : DlAt (w.setCell ⟨b, 1, none⟩ v) b g v r s := by
  have c : ∀ o, o ≠ 1 → (w.setCell ⟨b, 1, none⟩ v).cell? ⟨b, o, none⟩ = w.cell? ⟨b, o, none⟩ := fun o ho => World.cell?_setCell_other _ _ _ _ (fun e => ho (congrArg Addr.off e).symm)
  have f : ∀ o, (w.setCell ⟨b, 1, none⟩ v).frozen? ⟨b, o, none⟩ = w.frozen? ⟨b, o, none⟩ := fun o => World.frozen?_setCell ..
  exact ⟨(c 0 (by decide)).trans h.c0, World.cell?_setCell_same _ _ _ h.c1, (c 2 (by decide)).trans h.c2, (c 3 (by decide)).trans h.c3, (c 4 (by decide)).trans h.c4, (c 5 (by decide)).trans h.c5, (f 0).trans h.f0, (f 1).trans h.f1, (f 2).trans h.f2, (f 3).trans h.f3, (f 4).trans h.f4, (f 5).trans h.f5, by simpa [World.setCell] using h.lt⟩
theorem DlAt.set1 {w : World} {b : Nat} {g n : Value} {r : Sp} {s : Int} (h : DlAt w b g n r s) (R : Sp) (S : Int) : DlAt ((((w.setCell ⟨b, 2, none⟩ (.int .i64 R.x)).setCell ⟨b, 3, none⟩ (.int .i64 R.y)).setCell ⟨b, 4, none⟩ (.bool R.far)).setCell ⟨b, 5, none⟩ (.int .i64 S)) b g n R S := by
  have c : ∀ (w : World) (q o : Nat) (v : Value), o ≠ q → (w.setCell ⟨b, q, none⟩ v).cell? ⟨b, o, none⟩ = w.cell? ⟨b, o, none⟩ := fun w q o v ho => World.cell?_setCell_other _ _ _ _ (fun e => ho (congrArg Addr.off e).symm)
  have f : ∀ (w : World) (q o : Nat) (v : Value), (w.setCell ⟨b, q, none⟩ v).frozen? ⟨b, o, none⟩ = w.frozen? ⟨b, o, none⟩ := fun w q o v => World.frozen?_setCell ..
  refine ⟨?_, ?_, ?_, ?_, ?_, ?_, ?_, ?_, ?_, ?_, ?_, ?_, by simpa [World.setCell] using h.lt⟩
  · rw [c _ 5 0 _ (by decide), c _ 4 0 _ (by decide), c _ 3 0 _ (by decide), c _ 2 0 _ (by decide)]; exact h.c0
  · rw [c _ 5 1 _ (by decide), c _ 4 1 _ (by decide), c _ 3 1 _ (by decide), c _ 2 1 _ (by decide)]; exact h.c1
  · rw [c _ 5 2 _ (by decide), c _ 4 2 _ (by decide), c _ 3 2 _ (by decide)]; exact World.cell?_setCell_same _ _ _ h.c2
  · rw [c _ 5 3 _ (by decide), c _ 4 3 _ (by decide)]; exact World.cell?_setCell_same _ _ _ ((c _ 2 3 _ (by decide)).trans h.c3)
  · rw [c _ 5 4 _ (by decide)]; exact World.cell?_setCell_same _ _ _ ((c _ 3 4 _ (by decide)).trans ((c _ 2 4 _ (by decide)).trans h.c4))
  · exact World.cell?_setCell_same _ _ _ ((c _ 4 5 _ (by decide)).trans ((c _ 3 5 _ (by decide)).trans ((c _ 2 5 _ (by decide)).trans h.c5)))
  all_goals rw [f, f, f, f]
  · exact h.f0
  · exact h.f1
  · exact h.f2
  · exact h.f3
  · exact h.f4
  · exact h.f5
section
variable {ops : Array Oper} {o : Oper} {a : Act} {w : World} {K : Act → World → Prop} {Q : Exit → Act → World → Prop} {E : Prop}
theorem stepi_app (hgd : o.guard = none) (s x : Operand) (t : TypeId)
    (ho : o.op = .call { callee := .builtin .append, args := #[s, x], argTypes := #[t, t] }) (ht : Tryz.prog.underlying t = some (.slice 3)) (B : Nat) (v : Value) (l : List Int) (n : Nat) (hs : a.eval s = v)
    (hown : w.ownsRow B 3 1 v n (l.map (Value.int .i64))) (hn : l.length = n) (hl : n ≤ 1000000) (hB : B ≤ w.heap.size) (g : Nat) (c : Int) (hx : a.eval x = .slice (some ⟨g, 0, none⟩) 1 1)
    (h0 : w.cell? ⟨g, 0, none⟩ = some (.int .i64 c))
    (h : ∀ v' w', w'.ownsRow B 3 1 v' (n + 1) ((l ++ [c]).map (Value.int .i64)) → w.grownBy w' v.ownBlock → (v'.ownBlock = v.ownBlock ∨ v'.ownBlock = some w.heap.size) → K (a.put o.dst v') w') :
    if Region.wanted o (yielded ops a.tmps) = true then Oper.wp Tryz.prog o a w K Q else E := by
  obtain ⟨i0, hi, hz0, hz1, hz2⟩ := info_parts info_int
  refine step_append_lies w hgd s x _ ho B _ i0 _ 1 8 ht hi hz0 hz1 hz2 rfl (by decide) v n _ hs hown ⟨g, 0, none⟩ 1 1 [.int .i64 c] hx rfl ?_ ?_ (by decide) (by unfold maxLen; omega) (by omega) hB _ rfl ?_
  · intro j u hj
    have e : ∀ k, (⟨g, 0, none⟩ : Addr).add k = ⟨g, k, none⟩ := fun k => by rw [add_none, Nat.zero_add]
    rw [e]
    match j, hj with
    | 0, hj => cases hj; exact h0
  · intro u hu
    simp only [List.mem_cons, List.not_mem_nil, or_false] at hu
    subst hu; rfl
  · intro k cap w' h3 h4 h5 _
    rw [show l.map (Value.int .i64) ++ [.int .i64 c] = (l ++ [c]).map (Value.int .i64) by simp] at h3
    refine h _ w' h3 h4 ?_
    rcases h5 with h5 | h5
    · exact .inl (by rw [h5]; rfl)
    · exact .inr (by rw [h5]; rfl)
end
theorem nI_snoc (ps : List Nat) (q : Nat) : nI (ps ++ [q]) = nI ps ++ [(q : Int)] := by unfold nI; rw [List.map_append]; rfl
theorem IntsAt.but {S : Nat → Prop} {w w' : World} {b o : Nat} {l : List Int} (h : IntsAt w b o l) (hb : But S w w') (hs : ¬ S b) : IntsAt w' b o l :=
  ⟨Nat.lt_of_lt_of_le h.lt hb.size, fun i hi => (hb.cell h.lt hs _).trans (h.c i hi)⟩
theorem own_intsB {w : World} {B e n : Nat} {v : Value} {l : List Int} (h : w.ownsRow B e 1 v n (l.map (Value.int .i64))) (hn : n = l.length) : ∃ a cap, v = .slice a n cap ∧ n ≤ cap ∧ cap ≤ 9223372036854775807 ∧ (0 < l.length → ∃ b o, a = some ⟨b, o, none⟩ ∧ IntsAt w b o l ∧ B ≤ b) := by
  rcases h.2 with ⟨rfl, h0⟩ | ⟨g, cap, cur, rfl, hB, -, hc, hm, -⟩
  · exact ⟨none, 0, by rw [h0], by omega, by decide, fun h1 => by omega⟩
  · refine ⟨_, cap, rfl, hc, by unfold maxLen at hm; omega, fun h1 => ?_⟩
    obtain ⟨a, c, e2, h3⟩ := own_ints h hn
    obtain ⟨b, o, e3, h4⟩ := h3 h1
    simp only [Value.slice.injEq] at e2
    obtain ⟨e5, -, -⟩ := e2
    rw [e3] at e5
    have e6 := Option.some.inj e5
    simp only [Addr.mk.injEq] at e6
    obtain ⟨e7, -, -⟩ := e6
    exact ⟨b, o, e3 ▸ (by rw [e3]; exact e5), h4, e7 ▸ hB⟩
theorem own_spotsB {w : World} {B e n : Nat} {v : Value} {l : List Sp} (h : w.ownsRow B e 3 v n (spCells l)) (hn : n = l.length) : ∃ a cap, v = .slice a n cap ∧ (0 < l.length → ∃ b o, a = some ⟨b, o, none⟩ ∧ SpotsAt w b o l ∧ B ≤ b) := by
  rcases h.2 with ⟨rfl, h0⟩ | ⟨g, cap, cur, rfl, hB, -, hc, hm, -⟩
  · exact ⟨none, 0, by rw [h0], fun h1 => by omega⟩
  · refine ⟨_, cap, rfl, fun h1 => ?_⟩
    obtain ⟨a, c, e2, h3⟩ := own_spots h hn
    obtain ⟨b, o, e3, h4⟩ := h3 h1
    simp only [Value.slice.injEq] at e2
    obtain ⟨e5, -, -⟩ := e2
    rw [e3] at e5
    have e6 := Option.some.inj e5
    simp only [Addr.mk.injEq] at e6
    obtain ⟨e7, -, -⟩ := e6
    exact ⟨b, o, e3 ▸ (by rw [e3]; exact e5), h4, e7 ▸ hB⟩
theorem nI_get (ps : List Nat) (i : Nat) (h : i < (nI ps).length) : (nI ps)[i] = ((ps[i]'(by rw [nI_len] at h; exact h) : Nat) : Int) := by simp [nI]
theorem gErr_fresh (n : Nat) (ps : List Nat) (hnd : ps.Nodup) (hps : ∀ q ∈ ps, q < n) (i : Nat) (h : i < (nI ps).length) : gErrB (List.replicate n false) ((nI ps).take i) (nI ps)[i] = 0 := by
  have hi : i < ps.length := by rw [nI_len] at h; exact h
  have h1 := hps _ (List.getElem_mem hi)
  rw [nI_get ps i h]
  unfold gErrB
  rw [if_neg (by rw [List.length_replicate]; omega), if_neg (by rw [Int.toNat_natCast, getD_fresh n _ h1]; simp), if_neg ?_]
  intro hm
  obtain ⟨j, hj, e⟩ := List.getElem_of_mem hm
  rw [List.length_take] at hj
  rw [List.getElem_take, nI_get ps j (by omega)] at e
  have := List.pairwise_iff_getElem.mp hnd j i (by omega) hi (by omega)
  omega
theorem gErr_again (n m : Nat) (ps : List Nat) (hps : ∀ q ∈ ps, q < n) (h : 0 < (nI ps).length) : gErrB (goneL (List.replicate n false) (nI ps) ++ List.replicate m false) ((nI ps).take 0) (nI ps)[0] = 6 := by
  have hi : 0 < ps.length := by rw [nI_len] at h; exact h
  have h0 := List.getElem_mem hi
  have h1 := hps _ h0
  rw [nI_get ps 0 h]
  unfold gErrB
  have hl : (goneL (List.replicate n false) (nI ps)).length = n := by rw [goneL_len, List.length_replicate]
  rw [if_neg (by rw [List.length_append, hl]; omega), if_pos]
  rw [Int.toNat_natCast, getD_app_lo _ _ _ _ (by rw [hl]; exact h1), goneL_getD, if_pos h0]
section
variable (N M : List Int) (B p n m : Nat) (ps : List Nat) (a0 a1 : Option Addr) (c0 c1 : Nat) (X : Sp) (w : World) (hF : FarAt w)
include hF
theorem bex_all (hBk : BkAt w B p N (List.replicate n false)) (hn : N.length = n) (hN : n ≤ 900) (hm : M.length = m) (hM : m ≤ 12) (hnd : ps.Nodup) (hps : ∀ q ∈ ps, q < n) (hc0 : ps.length ≤ c0) (hc0' : c0 ≤ 9223372036854775807) (hX : Hid (qS (outN N (nI ps) + M.sum) = X)) (h0 : 0 < (nI ps).length → ∃ b o, a0 = some ⟨b, o, none⟩ ∧ IntsAt w b o (nI ps)) (h1 : 0 < (M.map qS).length → ∃ b o, a1 = some ⟨b, o, none⟩ ∧ SpotsAt w b o (M.map qS)) :
    Calls Tryz.prog 36 #[.pointer (some ⟨p, 0, none⟩), .slice a0 ps.length c0, .slice a1 m c1] w fun e w' => e = .returned (.tuple #[spV X, .nilIface]) ∧ Below w.heap.size w w' := by
  subst hm
  have hl : (M.map qS).length = M.length := List.length_map _
  have hb := bex_core N (List.replicate n false) B p (nI ps) (M.map qS) a0 a1 c0 c1 (nI ps).length 0 .nilIface (.tuple #[spV X, .nilIface]) w hF hBk (by omega) (by rw [nI_len]; omega) (by rw [nI_len]; omega) hc0' h0 h1 (by omega) (Nat.le_refl _) (fun i h _ => gErr_fresh n ps hnd hps i h) (fun h => absurd h (Nat.lt_irrefl _))
    (Lib.hid fun w1 hb1 => bcheck_core (M.map qS) (M.map qS).length .nilIface a1 c1 w1 (hF.below hb1) (by omega) (fun h => by obtain ⟨b, o, e, hs⟩ := h1 h; exact ⟨b, o, e, hs.below hb1⟩) (Lib.hid fun k h1 _ => ⟨_, List.getElem_map _⟩) (Nat.le_refl _) (Lib.hid fun h => absurd h (Nat.lt_irrefl _)) (Lib.hid fun h => absurd h (Nat.lt_irrefl _)) (Lib.hid fun _ => rfl))
    (Lib.hid fun h => absurd h (Nat.lt_irrefl _)) (Lib.hid fun _ => .inr ⟨rfl, M, rfl, by rw [hX.out]⟩)
  rw [hl, nI_len] at hb
  exact hb
theorem bdo_all (vc vg : Value) (P : Sp) (S x : Int) (hBk : BkV w B p vc vg N (List.replicate n false)) (hB0 : B ≤ w.heap.size) (hn : N.length = n) (hN : n ≤ 900) (hm : M.length = m) (hM : m ≤ 12) (hnd : ps.Nodup) (hps : ∀ q ∈ ps, q < n) (hc0 : ps.length ≤ c0) (hc0' : c0 ≤ 9223372036854775807) (hx : Hid (outN N (nI ps) + M.sum = x)) (hX : Hid (qS x = X)) (h0 : 0 < (nI ps).length → ∃ b o, a0 = some ⟨b, o, none⟩ ∧ IntsAt w b o (nI ps) ∧ ¬ inB p vc vg b) (h1 : 0 < (M.map qS).length → ∃ b o, a1 = some ⟨b, o, none⟩ ∧ SpotsAt w b o (M.map qS) ∧ ¬ inB p vc vg b)
    (S0 : 0 ≤ S) (S1 : S < 1013) (oP : Ok P) (hq : Hid (Sp.beq (sq (4 * hJ * S)) (sSum P (sq (4 * x * bAsk P X))) = true)) :
    Calls Tryz.prog 38 #[.pointer (some ⟨p, 0, none⟩), dlV (.slice a0 ps.length c0) (.slice a1 m c1) P S] w fun e w' => e = .returned .nilIface ∧ Did w w' B p vc vg (N ++ M) (goneL (List.replicate n false) (nI ps) ++ List.replicate m false) := by
  have hexx := fun (w1 : World) (hb : Below w.heap.size w w1) => bex_all N M B p n m ps a0 a1 c0 c1 X w1 (hF.below hb) ⟨_, _, hBk.below hb⟩ hn hN hm hM hnd hps hc0 hc0' (Lib.hid (by rw [hx.out]; exact hX.out)) (fun h => by obtain ⟨b, o, e, hs, -⟩ := h0 h; exact ⟨b, o, e, hs.below hb⟩) (fun h => by obtain ⟨b, o, e, hs, -⟩ := h1 h; exact ⟨b, o, e, hs.below hb⟩)
  subst hm
  have hb := bdo_y N M (List.replicate n false) B p vc vg (nI ps) [] a0 a1 c0 c1 P S X x w hF hBk hB0 (by omega) (Lib.hid hX.out.symm) (by rw [nI_len]; omega) h0 h1 (fun g hg => by
    obtain ⟨q, hq1, rfl⟩ := List.mem_map.mp hg
    have := hps q hq1
    omega) (Lib.hid (by rw [nI_len]; exact hexx)) (by omega) S0 S1 oP hq
  rw [nI_len] at hb
  exact hb
theorem bdo_wrong (P : Sp) (S x : Int) (hBk : BkAt w B p N (List.replicate n false)) (hn : N.length = n) (hN : n ≤ 900) (hm : M.length = m) (hM : m ≤ 12) (hnd : ps.Nodup) (hps : ∀ q ∈ ps, q < n) (hc0 : ps.length ≤ c0) (hc0' : c0 ≤ 9223372036854775807) (hx : Hid (outN N (nI ps) + M.sum = x)) (hX : Hid (qS x = X)) (h0 : 0 < (nI ps).length → ∃ b o, a0 = some ⟨b, o, none⟩ ∧ IntsAt w b o (nI ps)) (h1 : 0 < (M.map qS).length → ∃ b o, a1 = some ⟨b, o, none⟩ ∧ SpotsAt w b o (M.map qS))
    (S0 : 0 ≤ S) (S1 : S < 1013) (oP : Ok P) (hq : Hid (Sp.beq (sq (4 * hJ * S)) (sSum P (sq (4 * x * bAsk P X))) = false)) :
    Calls Tryz.prog 38 #[.pointer (some ⟨p, 0, none⟩), dlV (.slice a0 ps.length c0) (.slice a1 m c1) P S] w fun e w' => e = .returned (.iface 94 (.int .i64 8)) ∧ Below w.heap.size w w' :=
  bdo_n N (List.replicate n false) B p a0 a1 ps.length m c0 c1 P S X x 8 _ w hF hBk (by omega) (by omega) (Lib.hid hX.out.symm)
    (Lib.hid fun w1 hb => bex_all N M B p n m ps a0 a1 c0 c1 X w1 (hF.below hb) (hBk.below hb) hn hN hm hM hnd hps hc0 hc0' (Lib.hid (by rw [hx.out]; exact hX.out)) (fun h => by obtain ⟨b, o, e, hs⟩ := h0 h; exact ⟨b, o, e, hs.below hb⟩) (fun h => by obtain ⟨b, o, e, hs⟩ := h1 h; exact ⟨b, o, e, hs.below hb⟩))
    (Lib.hid (.inr ⟨rfl, .inr ⟨by omega, .inr ⟨⟨S0, S1⟩, .inr ⟨oP, rfl, hq.out⟩⟩⟩⟩))
/-- No coin goes twice. -/
theorem bdo_again (P : Sp) (S : Int) (hBk : BkAt w B p N (goneL (List.replicate n false) (nI ps) ++ List.replicate m false)) (hN : N.length ≤ 1000) (hM : m ≤ 12) (hps : ∀ q ∈ ps, q < n) (hp0 : 0 < ps.length) (hc0 : ps.length ≤ c0) (hc0' : c0 ≤ 9223372036854775807) (hC : M.length = m) (h0 : 0 < (nI ps).length → ∃ b o, a0 = some ⟨b, o, none⟩ ∧ IntsAt w b o (nI ps)) (h1 : 0 < (M.map qS).length → ∃ b o, a1 = some ⟨b, o, none⟩ ∧ SpotsAt w b o (M.map qS)) :
    Calls Tryz.prog 38 #[.pointer (some ⟨p, 0, none⟩), dlV (.slice a0 ps.length c0) (.slice a1 m c1) P S] w fun e w' => e = .returned (.iface 94 (.int .i64 6)) ∧ Below w.heap.size w w' := by
  subst hC
  have hl : (M.map qS).length = M.length := List.length_map _
  have hex := fun (w1 : World) (hb : Below w.heap.size w w1) => bex_core N _ B p (nI ps) (M.map qS) a0 a1 c0 c1 0 6 .nilIface (.tuple #[spV ⟨0, 0, false⟩, .iface 94 (.int .i64 6)]) w1 (hF.below hb) (hBk.below hb) (by omega) (by rw [nI_len]; omega) (by rw [nI_len]; omega) hc0' (fun h => by obtain ⟨b, o, e, hs⟩ := h0 h; exact ⟨b, o, e, hs.below hb⟩) (fun h => by obtain ⟨b, o, e, hs⟩ := h1 h; exact ⟨b, o, e, hs.below hb⟩) (by omega) (Nat.zero_le _) (fun i _ h => absurd h (Nat.not_lt_zero _)) (fun h => ⟨gErr_again n _ ps hps h, by decide⟩)
    (Lib.hid fun w2 hb2 => bcheck_core (M.map qS) (M.map qS).length .nilIface a1 c1 w2 (hF.below (below_seq hb hb2)) (by rw [List.length_map]; omega) (fun h => by obtain ⟨b, o, e, hs⟩ := h1 h; exact ⟨b, o, e, hs.below (below_seq hb hb2)⟩) (Lib.hid fun k h1 _ => ⟨_, List.getElem_map _⟩) (Nat.le_refl _) (Lib.hid fun h => absurd h (Nat.lt_irrefl _)) (Lib.hid fun h => absurd h (Nat.lt_irrefl _)) (Lib.hid fun _ => rfl))
    (Lib.hid fun _ => rfl) (Lib.hid fun h => absurd h (by rw [nI_len]; omega))
  simp only [nI_len, List.length_map] at hex
  exact bdo_n N _ B p a0 a1 ps.length M.length c0 c1 P S ⟨0, 0, true⟩ 0 6 _ w hF hBk (by omega) (by omega) (Lib.hid sq_zero.symm) (Lib.hid hex) (Lib.hid (.inl rfl))
end
end Go.Proofs.YtahgaccdeakmcaaGreatDoor
namespace Go.Proofs.YtahgaccdeakmcaaGreatDoor
open Go.RowKit
set_option maxRecDepth 100000
set_option linter.unusedVariables false
set_option linter.unusedSimpArgs false
attribute [local go_sem ↓] Go.wp_at_zero Go.wp_at_succ
def AscAt (w : World) : Prop := Lib.TabIs Tryz.prog w "strings.asciiSpace" .u8 Lib.asciiSpaceTab
theorem AscAt.below {w w' : World} (h : AscAt w) (hb : Below w.heap.size w w') : AscAt w' := Joins.tab_stays (g := 4) (by kernel_rfl) h hb (Nat.le_refl _)
theorem lfields_c (G K : List Nat) (r s : Nat) (ws : List Nat) (hws : recW G K r s = ws) (w : World) (hA : AscAt w) (hl : (recB G K r s).length ≤ 20000) :
    Calls Tryz.prog 148 #[.string (bS (recB G K r s))] w fun e w' => ∃ b, b = w.heap.size ∧ e = .returned (.slice (some ⟨b, 0, none⟩) ws.length ws.length) ∧ WdsAt w' b 0 ws ∧ Below w.heap.size w w' := by
  refine (Tryz.strings_Fields (bS (recB G K r s)) w (by rw [bS_size]; omega) (fun j b hj => recB_ascii G K r s b (by rw [bS_list] at hj; exact List.mem_of_getElem? hj)) hA).mono ?_
  rintro e w' ⟨rfl, rfl⟩
  refine ⟨w.heap.size, rfl, ?_, ⟨by simp, fun i hi => ?_⟩, below_alloc _ _⟩
  · rw [bS_list, recB_fields, hws, List.length_map]
  · rw [cell_of_row _ w.heap.size _ _ _ (0, 0) (heap_alloc_new w _), bS_list, recB_fields, hws]
    simp only [Nat.zero_add, List.getElem?_toArray, List.map_map]
    rw [List.getElem?_map, List.getElem?_eq_getElem hi]
    rfl
theorem DlAt.setR {w : World} {b : Nat} {g n : Value} {r : Sp} {s : Int} (h : DlAt w b g n r s) (R : Sp) : DlAt (((w.setCell ⟨b, 2, none⟩ (.int .i64 R.x)).setCell ⟨b, 3, none⟩ (.int .i64 R.y)).setCell ⟨b, 4, none⟩ (.bool R.far)) b g n R s := by
  have c : ∀ (w : World) (q o : Nat) (v : Value), o ≠ q → (w.setCell ⟨b, q, none⟩ v).cell? ⟨b, o, none⟩ = w.cell? ⟨b, o, none⟩ := fun w q o v ho => World.cell?_setCell_other _ _ _ _ (fun e => ho (congrArg Addr.off e).symm)
  refine ⟨?_, ?_, ?_, ?_, ?_, ?_, by simpa using h.f0, by simpa using h.f1, by simpa using h.f2, by simpa using h.f3, by simpa using h.f4, by simpa using h.f5, by simpa [World.setCell] using h.lt⟩
  · rw [c _ 4 0 _ (by decide), c _ 3 0 _ (by decide), c _ 2 0 _ (by decide)]; exact h.c0
  · rw [c _ 4 1 _ (by decide), c _ 3 1 _ (by decide), c _ 2 1 _ (by decide)]; exact h.c1
  · rw [c _ 4 2 _ (by decide), c _ 3 2 _ (by decide)]; exact World.cell?_setCell_same _ _ _ h.c2
  · rw [c _ 4 3 _ (by decide)]; exact World.cell?_setCell_same _ _ _ ((c _ 2 3 _ (by decide)).trans h.c3)
  · exact World.cell?_setCell_same _ _ _ (((c _ 3 4 _ (by decide)).trans (c _ 2 4 _ (by decide))).trans h.c4)
  · rw [c _ 4 5 _ (by decide), c _ 3 5 _ (by decide), c _ 2 5 _ (by decide)]; exact h.c5
theorem DlAt.setS {w : World} {b : Nat} {g n : Value} {r : Sp} {s : Int} (h : DlAt w b g n r s) (S : Int) : DlAt (w.setCell ⟨b, 5, none⟩ (.int .i64 S)) b g n r S := by
  have c : ∀ o, o ≠ 5 → (w.setCell ⟨b, 5, none⟩ (.int .i64 S)).cell? ⟨b, o, none⟩ = w.cell? ⟨b, o, none⟩ := fun o ho => World.cell?_setCell_other _ _ _ _ (fun e => ho (congrArg Addr.off e).symm)
  exact ⟨(c 0 (by decide)).trans h.c0, (c 1 (by decide)).trans h.c1, (c 2 (by decide)).trans h.c2, (c 3 (by decide)).trans h.c3, (c 4 (by decide)).trans h.c4, World.cell?_setCell_same _ _ _ h.c5, by simpa using h.f0, by simpa using h.f1, by simpa using h.f2, by simpa using h.f3, by simpa using h.f4, by simpa using h.f5, by simpa [World.setCell] using h.lt⟩
theorem DlAt.alloc1 {w : World} {b : Nat} {g n : Value} {r : Sp} {s : Int} (h : DlAt w b g n r s) (o : Obj) : DlAt (w.alloc o) b g n r s := h.below (below_alloc w o)
set_option maxHeartbeats 16000000 in
theorem ldeal_c (gl : List Nat) (M : List Int) (RS : Sp) (s : Nat) (w : World) (hF : FarAt w) (hA : AscAt w) (hg : gl.length ≤ 1000) (hgb : ∀ g ∈ gl, g < 1000000) (hm : M.length ≤ 12) (oR : Ok RS) (hs : s < 1013) :
    Calls Tryz.prog 109 #[.string (bS (recD gl M RS s))] w fun e w' => ∃ v0 v1, e = .returned (.tuple #[dlV v0 v1 RS (s : Int), .nilIface]) ∧ w'.ownsRow w.heap.size 3 1 v0 gl.length ((gl.map fun n : Nat => (n : Int)).map (Value.int .i64)) ∧ w'.ownsRow w.heap.size 28 3 v1 M.length (spCells (M.map qS)) ∧ Below w.heap.size w w' := by
  obtain ⟨K, hK⟩ : ∃ K, (M.map fun m => codeS (qS m)) = K := ⟨_, rfl⟩
  obtain ⟨rc, hrc⟩ : ∃ rc, codeS RS = rc := ⟨_, rfl⟩
  have hKl : K.length = M.length := by rw [← hK, List.length_map]
  have hKb : ∀ n ∈ K, n < 200000 := fun n hn => by
    rw [← hK, List.mem_map] at hn
    obtain ⟨m, -, rfl⟩ := hn
    exact codeS_lt (qS_ok m)
  have hrl := codeS_lt oR
  rw [hrc] at hrl
  have hbl := (recB_len gl K rc s hgb (fun n hn => by have := hKb n hn; omega) hg (by omega) (by omega) (by omega)).2
  obtain ⟨ws, hws⟩ : ∃ ws, recW gl K rc s = ws := ⟨_, rfl⟩
  have hFd := Lib.hid (fun (w1 : World) (hb : Below w.heap.size w w1) => lfields_c gl K rc s ws hws w1 (hA.below hb) hbl)
  have hw2 : Hid (ws = gl.length :: (gl ++ (K.length :: (K ++ [rc, s])))) := Lib.hid (by rw [← hws]; unfold recW; simp)
  unfold recD
  rw [hK, hrc]
  obtain ⟨RB, hRB⟩ : ∃ RB, bS (recB gl K rc s) = RB := ⟨_, rfl⟩
  rw [hRB] at hFd ⊢
  replace hFd := Lib.hid hFd
  replace hK := Lib.hid hK
  replace hrc := Lib.hid hrc
  replace hKl := Lib.hid hKl
  replace hKb := Lib.hid hKb
  replace hgb := Lib.hid hgb
  have hF' := Lib.hid hF
  clear hA hbl hws hRB hF
  go_enter Tryz.func109, Tryz.ntmps109
  go_wp2_with fail
  refine (hFd.out _ (below_alloc _ _)).mono ?_; rintro e w1 ⟨b, hb, rfl, hW, hb1⟩
  rw [World.size_alloc] at hb
  have hB1 := Lib.hid (below_seq (below_alloc w _) hb1)
  have hz1 := hb1.size
  rw [World.size_alloc] at hz1
  have hRES := Lib.hid ((DlAt.fresh w 46).below hb1)
  replace hW := Lib.hid hW
  replace hb := Lib.hid hb
  clear hb1 hFd
  go_wp2_with fail
  have z0 : b < w1.heap.size := hW.out.lt
  have hR0 : RdAt ((w1.alloc (.cells #[.slice (some ⟨b, 0, none⟩) ws.length ws.length] 184)).alloc (.cells #[.slice none 0 0, .slice none 0 0, .int .i64 0, .int .i64 0, .bool false, .int .i64 0] 46)) (w1.heap.size + 1) w1.heap.size ws := by
    refine ⟨by simp; omega, by omega, by go_simp, some ⟨b, 0, none⟩, by go_simp, fun _ => ⟨b, 0, rfl, ⟨by simp; omega, fun i hi => ?_⟩, by omega, by omega⟩⟩
    exact ((bcell (balloc (below_alloc w1 _) _)).1 _ _ z0).trans (hW.out.c i hi)
  have hD0 : DlAt ((w1.alloc (.cells #[.slice (some ⟨b, 0, none⟩) ws.length ws.length] 184)).alloc (.cells #[.slice none 0 0, .slice none 0 0, .int .i64 0, .int .i64 0, .bool false, .int .i64 0] 46)) (w1.heap.size + 1) (.slice none 0 0) (.slice none 0 0) ⟨0, 0, false⟩ 0 := by
    have := DlAt.fresh (w1.alloc (.cells #[.slice (some ⟨b, 0, none⟩) ws.length ws.length] 184)) 46
    rw [World.size_alloc] at this
    exact this
  have hB2 : Below w1.heap.size w1 ((w1.alloc (.cells #[.slice (some ⟨b, 0, none⟩) ws.length ws.length] 184)).alloc (.cells #[.slice none 0 0, .slice none 0 0, .int .i64 0, .int .i64 0, .bool false, .int .i64 0] 46)) := balloc (below_alloc w1 _) _
  have hz2 : ((w1.alloc (.cells #[.slice (some ⟨b, 0, none⟩) ws.length ws.length] 184)).alloc (.cells #[.slice none 0 0, .slice none 0 0, .int .i64 0, .int .i64 0, .bool false, .int .i64 0] 46)).heap.size = w1.heap.size + 2 := by simp
  generalize (w1.alloc (.cells #[.slice (some ⟨b, 0, none⟩) ws.length ws.length] 184)).alloc (.cells #[.slice none 0 0, .slice none 0 0, .int .i64 0, .int .i64 0, .bool false, .int .i64 0] 46) = w2 at *
  have hres2 := hRES.out.below hB2
  have hB2' := Lib.hid (below_seq hB1.out hB2)
  rw [hw2.out] at hR0
  obtain ⟨rb, hrb⟩ : ∃ rb, rb = w1.heap.size := ⟨_, rfl⟩
  obtain ⟨dp, hdp⟩ : ∃ dp, dp = w1.heap.size + 1 := ⟨_, rfl⟩
  rw [← hdp] at hR0 hD0 ⊢
  rw [← hrb] at hR0 ⊢
  have q1 : rb < dp := by omega
  have q2 : dp < w2.heap.size := by omega
  have q3 : w.heap.size < rb := by omega
  have hS1 := Lib.hid (lsome_c dp rb gl (K.length :: (K ++ [rc, s])) w2 hR0 (Nat.le_of_lt q2) hg (fun n hn => by have := hgb.out n hn; omega) (by simp; have := hKl.out; omega))
  replace hD0 := Lib.hid hD0
  replace hres2 := Lib.hid hres2
  clear hRES hB1 hB2 hW hR0 hz2 hz1 z0 hb hw2 hrb hdp
  refine hS1.out.mono ?_; rintro e w3 ⟨v0, rfl, hv0, hR3, hbt3⟩
  obtain ⟨a0, c0, rfl⟩ := own_slB hv0
  have hD3 := hD0.out.keep hbt3.size (hbt3.block dp q2 (fun e => by omega))
  have hres3 := hres2.out.keep hbt3.size (hbt3.block _ (by omega) (fun e => by omega))
  have hB3 : Below w.heap.size w w3 := hB2'.out.trans (hbt3.below (by have := hB2'.out.size; omega) (fun k hk => by omega))
  have q4 : dp < w3.heap.size := hD3.lt
  have hv0l := fun k hk => (hv0.lt k hk).1
  clear hS1 hbt3 hD0 hres2 hB2'
  -- the slice of those that go is stored
  have hD4 := hD3.setg (.slice a0 gl.length c0)
  have hR4 := hR3.below ((Below.refl dp w3).setCell (p := ⟨dp, 0, none⟩) (Nat.le_refl _) (.slice a0 gl.length c0))
  have hv4 := own_keep hv0 (w' := w3.setCell ⟨dp, 0, none⟩ (.slice a0 gl.length c0)) (fun k hk => heap_setCell_other w3 ⟨dp, 0, none⟩ k _ (by have := hv0l k hk; show k ≠ dp; omega))
  have hres4 := hres3.keep (w' := w3.setCell ⟨dp, 0, none⟩ (.slice a0 gl.length c0)) (by simp) (heap_setCell_other w3 ⟨dp, 0, none⟩ _ _ (by show w.heap.size ≠ dp; omega))
  have hB4 : Below w.heap.size w (w3.setCell ⟨dp, 0, none⟩ (.slice a0 gl.length c0)) := hB3.setCell (p := ⟨dp, 0, none⟩) (by show w.heap.size ≤ dp; omega) _
  have hz4 : (w3.setCell ⟨dp, 0, none⟩ (.slice a0 gl.length c0)).heap.size = w3.heap.size := by simp
  obtain ⟨d0, d1, d2, d3, d4, d5, g0, g1, g2, g3, g4, g5, dl⟩ := hD3
  replace hD4 := Lib.hid hD4
  replace hR4 := Lib.hid hR4
  replace hv4 := Lib.hid hv4
  replace hres4 := Lib.hid hres4
  replace hB4 := Lib.hid hB4
  clear hB3 hres3 hR3 hv0
  go_wp2_with fail
  clear d0 d1 d2 d3 d4 d5 g0 g1 g2 g3 g4 g5 dl
  generalize w3.setCell ⟨dp, 0, none⟩ (.slice a0 gl.length c0) = w4 at *
  have hS2 := Lib.hid (lsome_c dp rb K [rc, s] w4 hR4.out (by omega) (by have := hKl.out; omega) (fun n hn => by have := hKb.out n hn; omega) (by simp))
  refine hS2.out.mono ?_; rintro e w5 ⟨v1, rfl, hv1, hR5, hbt5⟩
  obtain ⟨a1, c1, rfl⟩ := own_slB hv1
  have q5 : dp < w4.heap.size := by omega
  have hD5 := hD4.out.keep hbt5.size (hbt5.block dp q5 (fun e => by omega))
  have hres5 := hres4.out.keep hbt5.size (hbt5.block _ (by omega) (fun e => by omega))
  have hB5 : Below w.heap.size w w5 := hB4.out.trans (hbt5.below (by omega) (fun k hk => by omega))
  have hv5 := own_but hv4.out hbt5 (fun j hj e => by have := hv0l j hj; omega)
  have hIK := own_ints hv1 (by rw [List.length_map])
  have hz5 := hbt5.size
  have hKi : Hid (∀ w', But (fun k => k = dp) w5 w' → IntSl w' (.slice a1 K.length c1) (K.map fun n : Nat => (n : Int))) := Lib.hid fun w' h => own_ints (own_but hv1 h (fun j hj e => by have := (hv1.lt j hj).1; omega)) (by rw [List.length_map])
  replace hD5 := Lib.hid hD5
  replace hres5 := Lib.hid hres5
  replace hB5 := Lib.hid hB5
  replace hv5 := Lib.hid hv5
  replace hR5 := Lib.hid hR5
  clear hS2 hD4 hR4 hv4 hres4 hB4 hbt5 hv1 hIK hz4
  go_wp2_with fail
  go_loopw [38] (fun i wr => ∃ (k : Nat) (vn : Value), k ≤ K.length ∧ i = .int .i64 k ∧ DlAt wr dp (.slice a0 gl.length c0) vn ⟨0, 0, false⟩ 0 ∧ wr.ownsRow w5.heap.size 28 3 vn k (spCells ((M.take k).map qS)) ∧ But (fun j => j = dp) w5 wr) (fun i _ => K.length - (intOf i).toNat)
  case atStart => exact ⟨0, _, Nat.zero_le _, rfl, hD5.out, World.ownsRow_nil _ _ _ _, But.refl _ _⟩
  case round =>
    clear hD5
    obtain ⟨k, vn, hk, rfl, hD, hown, hbt⟩ := hrel
    have q6 : dp < w5.heap.size := by omega
    have hBr := Lib.hid (hB5.out.trans (hbt.below (B := w.heap.size) (by omega) (fun j hj => by omega)))
    by_cases hlt : k < K.length
    · obtain ⟨ax, cx, ex, hx⟩ := hKi.out wr hbt
      simp only [Value.slice.injEq, List.length_map] at ex
      obtain ⟨rfl, -, -⟩ := ex
      obtain ⟨bK, oK, rfl, hI⟩ := hx (by simp; omega)
      have hkm : k < M.length := by have := hKl.out; omega
      have hjm : k < (K.map fun n : Nat => (n : Int)).length := by rw [List.length_map]; exact hlt
      have l1 := hI.c k hjm
      have l2 := hI.lt
      rw [List.getElem_map] at l1
      have hcx : K[k] = codeS (qS M[k]) := by have h := hK.out; subst h; rw [List.getElem_map]
      rw [hcx] at l1
      have oA := qS_ok M[k]
      obtain ⟨an, cn, rfl⟩ := own_slB hown
      have hst : Hid ((M.take (k + 1)).map qS = (M.take k).map qS ++ [qS M[k]]) := Lib.hid (by rw [take_snocI M k hkm, List.map_append]; rfl)
      have hlen : ((M.take k).map qS).length = k := by rw [List.length_map, List.length_take]; omega
      have hkS := Lib.hid (lspot_c (qS M[k]) oA wr (hF'.out.below hBr.out))
      clear hcx hx hI
      generalize qS M[k] = A at *
      replace hst := Lib.hid hst
      replace hD := Lib.hid hD
      replace hown := Lib.hid hown
      have hzr := hbt.size
      replace hbt := Lib.hid hbt
      go_wp2_with fail
      refine hkS.out.mono ?_; rintro e w6 ⟨rfl, hb6⟩
      have hD6 := (hD.out.below hb6).below (balloc (below_alloc w6 (.cells #[.int .i64 A.x, .int .i64 A.y, .bool A.far] 28)) (.cells #[.int .i64 A.x, .int .i64 A.y, .bool A.far] 28))
      have hown6 := Lib.hid (((own_below hown.out hb6).alloc (.cells #[.int .i64 A.x, .int .i64 A.y, .bool A.far] 28)).alloc (.cells #[.int .i64 A.x, .int .i64 A.y, .bool A.far] 28))
      have hbt6 := Lib.hid (hbt.out.trans (But.of_below (S := fun j => j = dp) (below_seq hb6 (balloc (below_alloc w6 (.cells #[.int .i64 A.x, .int .i64 A.y, .bool A.far] 28)) (.cells #[.int .i64 A.x, .int .i64 A.y, .bool A.far] 28)))))
      have d1 := ((hD.out.below hb6).alloc1 (.cells #[.int .i64 A.x, .int .i64 A.y, .bool A.far] 28)).c1
      have hz6 := hb6.size
      have dl6 : dp < w6.heap.size := (hD.out.below hb6).lt
      clear l1 l2 hkS hb6
      replace hD6 := Lib.hid hD6
      go_wp2_with (first | (at_builtin; refine wpl_append_spot rfl _ _ _ rfl (by kernel_rfl) w5.heap.size (.slice an k cn) ((M.take k).map qS) k rfl hown6.out hlen (by omega) (by simp only [World.size_alloc]; omega) (w6.heap.size + 1) A rfl (by go_simp) (by go_simp) (by go_simp) ?_; intro v' w8 hown' hgrow hbel hloc; have hb8 := hbel _ (Below.refl _ _); have hD8 := hD6.out.keep hb8.size (hb8.block dp q6); have hE8 := hD8; obtain ⟨av, cv, rfl⟩ := own_slB hown'; obtain ⟨d0, d1, -, -, -, -, g0, g1, -, -, -, -, dl⟩ := hE8; replace hown' := Lib.hid hown'; replace hD8 := Lib.hid hD8; replace hb8 := Lib.hid hb8; clear hgrow hloc hbel) | fail)
      have hfD := hD8.out.setn (.slice av (k + 1) cv)
      have hfo := own_keep hown'.out (w' := w8.setCell ⟨dp, 1, none⟩ (.slice av (k + 1) cv)) (fun j hj => heap_setCell_other w8 ⟨dp, 1, none⟩ j _ (by have := (hown'.out.lt j hj).1; show j ≠ dp; omega))
      have hfb := (hbt6.out.after hb8.out).trans (But.setCell (S := fun j => j = dp) (p := ⟨dp, 1, none⟩) rfl (.slice av (k + 1) cv))
      rw [← hst.out.out] at hfo
      clear d0 d1 g0 g1
      go_wp2
      go_roundw
      case rel => exact ⟨k + 1, _, by omega, by go_num, hfD, hfo, hfb⟩
      case measure => simp [intOf]; omega
    · obtain rfl : k = K.length := by omega
      have e1 : M.take K.length = M := List.take_of_length_le (by have := hKl.out; omega)
      rw [e1] at hown
      have hz6 := hbt.size
      have hR6 := hR5.out.below (hbt.below (B := dp) (Nat.le_of_lt q6) (fun j hj => by omega))
      have hv6 := own_but hv5.out hbt (fun j hj e => by have := hv0l j hj; omega)
      have hres6 := hres5.out.keep hbt.size (hbt.block _ (by omega) (fun e => by omega))
      obtain ⟨an, cn, rfl⟩ := own_slB hown
      have hnl := fun j hj => (hown.lt j hj).1
      have hN6 := Lib.hid (lnumber_c dp rb rc [s] wr hR6 (by omega) (by simp))
      have kS := Lib.hid (fun (w' : World) (hF1 : FarAt w') => lspot_c RS oR w' hF1)
      rw [hrc.out] at kS
      replace hD := Lib.hid hD
      replace hown := Lib.hid hown
      replace hv6 := Lib.hid hv6
      replace hres6 := Lib.hid hres6
      clear e1 hR5 hv5 hres5 hB5 hbt hR6 hKi hK hKb hgb hm hk hlt
      go_wp2_with fail
      refine hN6.out.mono ?_; rintro e w7 ⟨rfl, hR7, hb7⟩
      have hD7 := hD.out.keep hb7.size (hb7.block dp (by omega) (fun e => by omega))
      have hv7 := own_but hv6.out hb7 (fun j hj e => by have := hv0l j hj; omega)
      have hn7 := own_but hown.out hb7 (fun j hj e => by have := hnl j hj; omega)
      have hres7 := hres6.out.keep hb7.size (hb7.block _ (by omega) (fun e => by omega))
      have hB7 := hBr.out.trans (hb7.below (B := w.heap.size) hBr.out.size (fun j hj => by omega))
      have hz7 := hb7.size
      replace hB7 := Lib.hid hB7
      clear hb7 hN6 hD hown hv6 hres6 hBr
      go_wp2_with fail
      refine (kS.out _ (hF'.out.below hB7.out)).mono ?_; rintro e w8 ⟨rfl, hb8⟩
      have hz8 := hb8.size
      have hD8 := hD7.below hb8
      have hv8 := own_below hv7 hb8
      have hn8 := own_below hn7 hb8
      have hres8 := hres7.below hb8
      have hB8 := Lib.hid (below_seq hB7.out hb8)
      have hR8 := hR7.below (hb8.mono (by omega))
      clear hb8 hD7 hv7 hn7 hres7 hR7 hB7 kS
      have hb9 : Below dp w8 (((w8.setCell ⟨dp, 2, none⟩ (.int .i64 RS.x)).setCell ⟨dp, 3, none⟩ (.int .i64 RS.y)).setCell ⟨dp, 4, none⟩ (.bool RS.far)) := (((Below.refl dp w8).setCell (p := ⟨dp, 2, none⟩) (Nat.le_refl _) _).setCell (p := ⟨dp, 3, none⟩) (Nat.le_refl _) _).setCell (p := ⟨dp, 4, none⟩) (Nat.le_refl _) _
      have hk9 : ∀ j, j ≠ dp → (((w8.setCell ⟨dp, 2, none⟩ (.int .i64 RS.x)).setCell ⟨dp, 3, none⟩ (.int .i64 RS.y)).setCell ⟨dp, 4, none⟩ (.bool RS.far)).heap[j]? = w8.heap[j]? := fun j hj => by
        rw [heap_setCell_other _ ⟨dp, 4, none⟩ j _ hj, heap_setCell_other _ ⟨dp, 3, none⟩ j _ hj, heap_setCell_other _ ⟨dp, 2, none⟩ j _ hj]
      have hD9 := hD8.setR RS
      have hv9 := own_keep hv8 (fun j hj => hk9 j (by have := hv0l j hj; omega))
      have hn9 := own_keep hn8 (fun j hj => hk9 j (by have := hnl j hj; omega))
      have hres9 := hres8.keep hb9.size (hk9 _ (by omega))
      have hR9 := hR8.below hb9
      have hB9 := Lib.hid (hB8.out.trans (hb9.mono (by omega)))
      have hz9 : w8.heap.size ≤ (((w8.setCell ⟨dp, 2, none⟩ (.int .i64 RS.x)).setCell ⟨dp, 3, none⟩ (.int .i64 RS.y)).setCell ⟨dp, 4, none⟩ (.bool RS.far)).heap.size := hb9.size
      obtain ⟨d0, d1, d2, d3, d4, d5, g0, g1, g2, g3, g4, g5, dl⟩ := hD8
      replace hD9 := Lib.hid hD9
      replace hv9 := Lib.hid hv9
      replace hn9 := Lib.hid hn9
      replace hres9 := Lib.hid hres9
      replace hR9 := Lib.hid hR9
      clear hb9 hk9 hv8 hn8 hres8 hR8 hB8
      go_wp2_with fail
      clear d0 d1 d2 d3 d4 d5 g0 g1 g2 g3 g4 g5 dl
      generalize ((w8.setCell ⟨dp, 2, none⟩ (.int .i64 RS.x)).setCell ⟨dp, 3, none⟩ (.int .i64 RS.y)).setCell ⟨dp, 4, none⟩ (.bool RS.far) = w9 at *
      have hN9 := Lib.hid (lnumber_c dp rb s [] w9 hR9.out (by omega) (by simp))
      refine hN9.out.mono ?_; rintro e w10 ⟨rfl, -, hb10⟩
      have hz10 := hb10.size
      have hD10 := hD9.out.keep hb10.size (hb10.block dp (by omega) (fun e => by omega))
      have hv10 := own_but hv9.out hb10 (fun j hj e => by have := hv0l j hj; omega)
      have hn10 := own_but hn9.out hb10 (fun j hj e => by have := hnl j hj; omega)
      have hres10 := hres9.out.keep hb10.size (hb10.block _ (by omega) (fun e => by omega))
      have hB10 := Lib.hid (hB9.out.trans (hb10.below (B := w.heap.size) hB9.out.size (fun j hj => by omega)))
      have hD11 := hD10.setS (s : Int)
      have hk11 : ∀ j, j ≠ dp → (w10.setCell ⟨dp, 5, none⟩ (.int .i64 (s : Int))).heap[j]? = w10.heap[j]? := fun j hj => heap_setCell_other _ ⟨dp, 5, none⟩ j _ hj
      have hv11 := own_keep hv10 (fun j hj => hk11 j (by have := hv0l j hj; omega))
      have hn11 := own_keep hn10 (fun j hj => hk11 j (by have := hnl j hj; omega))
      have hres11 := hres10.keep (w' := w10.setCell ⟨dp, 5, none⟩ (.int .i64 (s : Int))) (by simp) (hk11 _ (by omega))
      have hB11 := Lib.hid (hB10.out.setCell (p := ⟨dp, 5, none⟩) (by show w.heap.size ≤ dp; omega) (.int .i64 (s : Int)))
      have d5 := hD10.c5
      have g5 := hD10.f5
      have dl := hD10.lt
      replace hD11 := Lib.hid hD11
      replace hv11 := Lib.hid hv11
      replace hn11 := Lib.hid hn11
      replace hres11 := Lib.hid hres11
      clear hD9 hv9 hn9 hres9 hR9 hB9 hN9 hb10 hD10 hv10 hn10 hres10 hB10 hk11 hz9 hz8
      go_upto_region 25 with fail
      clear d5 g5 dl
      generalize w10.setCell ⟨dp, 5, none⟩ (.int .i64 (s : Int)) = w11 at *
      have hfin := ((hres11.out.setg (.slice a0 gl.length c0)).setn (.slice an K.length cn)).set1 RS (s : Int)
      have hkF : ∀ j, j ≠ w.heap.size → ((((((w11.setCell ⟨w.heap.size, 0, none⟩ (.slice a0 gl.length c0)).setCell ⟨w.heap.size, 1, none⟩ (.slice an K.length cn)).setCell ⟨w.heap.size, 2, none⟩ (.int .i64 RS.x)).setCell ⟨w.heap.size, 3, none⟩ (.int .i64 RS.y)).setCell ⟨w.heap.size, 4, none⟩ (.bool RS.far)).setCell ⟨w.heap.size, 5, none⟩ (.int .i64 (s : Int))).heap[j]? = w11.heap[j]? := fun j hj => by
        rw [heap_setCell_other _ ⟨w.heap.size, 5, none⟩ j _ hj, heap_setCell_other _ ⟨w.heap.size, 4, none⟩ j _ hj, heap_setCell_other _ ⟨w.heap.size, 3, none⟩ j _ hj, heap_setCell_other _ ⟨w.heap.size, 2, none⟩ j _ hj, heap_setCell_other _ ⟨w.heap.size, 1, none⟩ j _ hj, heap_setCell_other _ ⟨w.heap.size, 0, none⟩ j _ hj]
      have hvF := own_base (own_keep hv11.out (fun j hj => hkF j (by have := hv0l j hj; omega))) (show w.heap.size ≤ w2.heap.size by omega)
      have hnF := own_base (own_keep hn11.out (fun j hj => hkF j (by have := hnl j hj; omega))) (show w.heap.size ≤ w5.heap.size by omega)
      have hBF : Below w.heap.size w ((((((w11.setCell ⟨w.heap.size, 0, none⟩ (.slice a0 gl.length c0)).setCell ⟨w.heap.size, 1, none⟩ (.slice an K.length cn)).setCell ⟨w.heap.size, 2, none⟩ (.int .i64 RS.x)).setCell ⟨w.heap.size, 3, none⟩ (.int .i64 RS.y)).setCell ⟨w.heap.size, 4, none⟩ (.bool RS.far)).setCell ⟨w.heap.size, 5, none⟩ (.int .i64 (s : Int))) := (((((hB11.out.setCell (p := ⟨w.heap.size, 0, none⟩) (Nat.le_refl _) _).setCell (p := ⟨w.heap.size, 1, none⟩) (Nat.le_refl _) _).setCell (p := ⟨w.heap.size, 2, none⟩) (Nat.le_refl _) _).setCell (p := ⟨w.heap.size, 3, none⟩) (Nat.le_refl _) _).setCell (p := ⟨w.heap.size, 4, none⟩) (Nat.le_refl _) _).setCell (p := ⟨w.heap.size, 5, none⟩) (Nat.le_refl _) _
      obtain ⟨d0, d1, d2, d3, d4, d5, -, -, -, -, -, -, dl⟩ := hD11.out
      obtain ⟨p0, p1, p2, p3, p4, p5, r0, r1, r2, r3, r4, r5, pl⟩ := hres11.out
      replace hfin := Lib.hid hfin
      replace hvF := Lib.hid hvF
      replace hnF := Lib.hid hnF
      replace hBF := Lib.hid hBF
      clear hkF hv11 hn11 hB11 hD11 hres11
      go_wp2
      clear d0 d1 d2 d3 d4 d5 dl p0 p1 p2 p3 p4 p5 r0 r1 r2 r3 r4 r5 pl
      obtain ⟨k0, k1, k2, k3, k4, k5, -, -, -, -, -, -, -⟩ := hfin.out
      rw [← hKl.out]
      refine bodyPost_ret (v := .tuple #[dlV (.slice a0 gl.length c0) (.slice an K.length cn) RS (s : Int), .nilIface]) (by simp [results, Tryz.results109, go_sem, k0, k1, k2, k3, k4, k5]) rfl ⟨_, _, rfl, (by have := hvF.out; rw [List.map_map] at this; exact this), hnF.out, hBF.out⟩
end Go.Proofs.YtahgaccdeakmcaaGreatDoor
namespace Go.Proofs.YtahgaccdeakmcaaGreatDoor
open Go Go.RowKit
/-- An iterator that hands out xs, all of them, and steps by St on the heap between two rounds; Kp: what a round keeps. -/
def Goes {α : Type} (F : Fence) (n : Nat) (P : Program) (g : Nat) (lb : Array Value) (encs : α → Array Value) (Kp St : World → World → Prop) (xs : List α) (w : World) : Prop :=
  ∀ (l : Nat) (J : List α → World → Prop) (W : World), Below w.heap.size w W → (∀ pre A B, J pre A → St A B → J pre B) →
    (∀ pre x W1, J pre W1 → (pre ++ [x]) <+: xs → YieldAt F (n - 1) P l (encs x) W1 fun e W' => e = .returned (.bool true) ∧ J (pre ++ [x]) W' ∧ Kp W1 W') →
    J [] W → CallsIn F n P g (#[.func (.yield l) #[] #[]] ++ lb) W fun e W' => (∃ v, e = .returned v) ∧ J xs W'
/-- A round's end where no round leaves. -/
def goesPost {α : Type} (B : Nat) (Kp : World → World → Prop) (I : List α → World → Prop) (xs : List α) (W : World) : Exit → Act → World → Prop
  | .normal, _, W' => KeepsFrom B W W' ∧ Kp W W' ∧ I xs W'
  | _, _, _ => False
theorem wpIn_goes {F : Fence} {n : Nat} {P : Program} {α : Type} {g : Operand} {ps : Array Tmp} {assign body : Code} {Q : Exit → Act → World → Prop} {a : Act} {w : World}
    (hro : F.round = none) (h1 : 1 ≤ n) {gf : Nat} {lb : Array Value} (hg : a.eval g = .func (.func gf) #[] lb) (hFg : F.fn gf) (eg : ∀ args w, (callFunc gf args).run P w = .ok (.enter gf args) w)
    {encs : α → Array Value} {Kp St : World → World → Prop} {xs : List α} {w0 : World} (hseq : Goes F (n - 1) P gf lb encs Kp St xs w0)
    (hKt : ∀ A B C, Kp A B → Kp B C → Kp A C) (hKb : ∀ (W : World) (l : Nat) (o o' : Obj), w.heap.size ≤ l → W.heap[l]? = some o → o.isCells = false → o.isWalk = false → Kp W (W.putObj l o')) (hb0 : Below w0.heap.size w0 w) (hps : ∀ x, (encs x).size = ps.size)
    (I : List α → World → Prop) (hI : OwnFrom w.heap.size I) (hIS : ∀ pre A B, I pre A → St A B → I pre B) (hSt : ∀ (A B : World) (k : Nat) (o : Obj), St A B → A.heap[k]? = some o → o.isCells = false → B.heap[k]? = some o) (h0 : I [] w) (a₁ : α → Act)
    (hassign : ∀ (l : Nat) (x : α) (W : World) (K : Act → World → Prop), K (a₁ x) W →
      assign.wpIn (F.inRound l) (n - 1 - 1) P (Exit.then K (fun _ _ _ => False)) { tmps := (ps.zip (encs x)).foldl (fun t (p, v) => t.setIfInBounds p v) a.tmps, defers := [] } W)
    (hbody : ∀ (l : Nat) (pre : List α) (x : α) (W : World), I pre W → (pre ++ [x]) <+: xs → body.wpIn (F.inRound l) (n - 1 - 1) P (goesPost w.heap.size Kp I (pre ++ [x]) W) (a₁ x) W)
    (hdone : ∀ (D : Nat) (W : World), w.heap.size ≤ D → I xs W → W.heap[D]? = some (.deferred (some [])) → Q .normal { a with defers := { target := .collected D, args := #[] } :: a.defers } W) :
    (Code.rangeFunc g ps assign body).wpIn F n P Q a w := by
  refine wpIn_rangeFunc fun fn hfn => ?_
  rw [hro]
  -- the record of the loop, by its state
  let rec' : LoopState → Loop := fun st => { state := st, pending := none, fn, tmps := a.tmps, params := ps, assign, body, defers := w.heap.size }
  obtain ⟨rc, hrc⟩ : ∃ rc, rc = rec' := ⟨_, rfl⟩
  have rst : ∀ st, (rc st).state = st := fun st => by rw [hrc]
  have rpe : ∀ st, (rc st).pending = none := fun st => by rw [hrc]
  have rset : ∀ st st', { rc st with state := st' } = rc st' := fun st st' => by rw [hrc]
  have rset2 : ∀ st st', { rc st with state := st', pending := none } = rc st' := fun st st' => by rw [hrc]
  have rfn : ∀ st, (rc st).fn = fn ∧ (rc st).tmps = a.tmps ∧ (rc st).params = ps ∧ (rc st).assign = assign ∧ (rc st).body = body := fun st => by rw [hrc]; exact ⟨rfl, rfl, rfl, rfl, rfl⟩
  obtain ⟨S, hS⟩ : ∃ S, w.heap.size = S := ⟨_, rfl⟩
  obtain ⟨W1, hW1⟩ : ∃ W1, (w.alloc (.deferred (some []))).alloc (.loop (rc .ready)) = W1 := ⟨_, rfl⟩
  -- both blocks of book-keeping, in a world
  let Bk : LoopState → World → Prop := fun st W => W.heap[S + 1]? = some (.loop (rc st)) ∧ W.heap[S]? = some (.deferred (some []))
  have hBk1 : Bk .ready W1 := by
    refine ⟨?_, ?_⟩
    · rw [← hW1, ← hS]; have := World.alloc_heap_new (w.alloc (.deferred (some []))) (.loop (rc .ready)); rwa [World.size_alloc] at this
    · rw [← hW1, ← hS]; exact (Below.heap_alloc _ _ _ (by simp)).trans (World.alloc_heap_new w _)
  have hb1 : Below w0.heap.size w0 W1 := by
    rw [← hW1]; exact hb0.trans ((((Below.refl _ w).alloc (Nat.le_refl _) _).alloc (by simp) _).mono hb0.size)
  have put : ∀ st st' W, Bk st W → Bk st' (W.putObj (S + 1) (.loop (rc st'))) := fun st st' W h =>
    ⟨World.putObj_heap_same (Array.getElem?_eq_some_iff.1 h.1).1, (World.putObj_heap_other (by omega)).trans h.2⟩
  refine ⟨S + 1, [{ target := .collected S, args := #[] }], W1, { target := .fn (.func gf) lb, args := #[.func (.yield (S + 1)) #[] #[]] }, W1, gf, #[.func (.yield (S + 1)) #[] #[]] ++ lb, W1, ?_, ?_, ?_, ?_, fun _ => h1, ?_⟩
  · rw [← hW1, hrc, ← hS]; exact run_enterLoop_outer _ _ _ _ _
  · simp only [resolve, hg]
    simp [go_sem]
  · intro f' hf'; simp [Target.leads] at hf'; subst hf'; exact hFg
  · simp [invoke, go_sem, eg]
  · refine (hseq (S + 1) (fun pre W => I pre W ∧ Bk .ready W) W1 hb1 (fun pre A B h hst => ⟨hIS pre A B h.1 hst, hSt A B _ _ hst h.2.1 rfl, hSt A B _ _ hst h.2.2 rfl⟩) ?_ ⟨by rw [← hW1]; exact hI.alloc _ (hI.alloc _ h0), hBk1⟩).mono ?_
    · rintro pre x W ⟨hi, hb⟩ hpre
      have hy := run_yield (P := P) (args := encs x) hb.1 (by rw [(rfn _).2.2.1]; exact hps x)
      obtain ⟨e1, e2, e3, e4, e5⟩ := rfn .ready
      rw [e1, e2, e3, e4, e5] at hy
      refine ⟨fn, _, assign, body, hy, roundIn_of_wpIn hfn (hassign _ x W _ ⟨_, run_beginRound hb.1 (rst _), ?_⟩)⟩
      rw [rset]
      have hb2 := put _ .busy W hb
      have hk2 : Kp W (W.putObj (S + 1) (.loop (rc .busy))) := hKb _ _ _ _ (by omega) hb.1 rfl rfl
      refine wpIn_mono (hbody _ pre x _ (hI.putObj _ hi (by omega) hb.1 rfl) hpre) ?_
      rintro e a3 W3 hp
      cases e with
      | normal =>
        obtain ⟨hk3, hkp3, hi3⟩ := hp
        have hb3 : Bk .busy W3 := ⟨hk3.same _ _ (by omega) hb2.1 rfl, hk3.same _ _ (by omega) hb2.2 rfl⟩
        have he := run_endRound (P := P) none hb3.1
        simp only [Option.isNone_none, if_true, rset2] at he
        exact ⟨_, _, he, rfl, ⟨hI.putObj _ hi3 (by omega) hb3.1 rfl, put _ .ready W3 hb3⟩, hKt _ _ _ (hKt _ _ _ hk2 hkp3) (hKb _ _ _ _ (by omega) hb3.1 rfl rfl)⟩
      | ret => exact hp.elim
      | exit id => exact hp.elim
      | goto t => exact hp.elim
      | panic ch => exact hp.elim
      | outgrown => exact hp.elim
    · rintro e W2 ⟨⟨v, rfl⟩, hi, hb⟩
      have he := run_endLoop (P := P) hb.1 (by rw [rst]; simp)
      rw [rset, rpe] at he
      refine ⟨none, _, he, ?_⟩
      have := hdone S _ (by omega) (hI.putObj (.loop (rc .exhausted)) hi (by omega) hb.1 rfl) ((World.putObj_heap_other (by omega)).trans hb.2)
      exact this
end Go.Proofs.YtahgaccdeakmcaaGreatDoor
namespace Go.Proofs.YtahgaccdeakmcaaGreatDoor
open Go.RowKit Go.Shelf
set_option maxRecDepth 100000
set_option linter.unusedVariables false
set_option linter.unusedSimpArgs false
attribute [local go_sem] Oper.semAt_some
theorem nl_split : ∀ r : List UInt8, (∀ b ∈ r, b ≠ 10) ∨ ∃ a c, r = a ++ 10 :: c ∧ ∀ b ∈ a, b ≠ 10
  | [] => .inl fun b h => absurd h List.not_mem_nil
  | x :: r => by
    by_cases hx : x = 10
    · exact .inr ⟨[], r, by rw [hx]; rfl, fun b h => absurd h List.not_mem_nil⟩
    · rcases nl_split r with h | ⟨a, c, e, h⟩
      · exact .inl fun b hb => by
          rcases List.mem_cons.1 hb with rfl | hb
          · exact hx
          · exact h b hb
      · exact .inr ⟨x :: a, c, by rw [e]; rfl, fun b hb => by
          rcases List.mem_cons.1 hb with rfl | hb
          · exact hx
          · exact h b hb⟩
theorem index_pre : ∀ (a c : List UInt8), (∀ b ∈ a, b ≠ 10) → Lib.indexByte (a ++ 10 :: c) 10 = (a.length : Int)
  | [], c, _ => by simp [Lib.indexByte]
  | x :: a, c, h => by
    have ih := index_pre a c (fun b hb => h b (List.mem_cons_of_mem _ hb))
    have hx := h x List.mem_cons_self
    rw [List.cons_append, Lib.indexByte, if_neg (by simpa using hx), ih, if_neg (by simp <;> omega), List.length_cons]
    rfl
theorem index_no : ∀ (a : List UInt8), (∀ b ∈ a, b ≠ 10) → Lib.indexByte a 10 = -1
  | [], _ => rfl
  | x :: a, h => by
    have ih := index_no a (fun b hb => h b (List.mem_cons_of_mem _ hb))
    have hx := h x List.mem_cons_self
    rw [Lib.indexByte, if_neg (by simpa using hx), ih]
    exact if_pos rfl
theorem sindex_c (s : List UInt8) (w : World) : Calls Tryz.prog 80 #[.string (bS s), .int .u8 10] w fun e w' => e = .returned (.int .i64 (Lib.indexByte s 10)) ∧ w' = w := by
  have hI := Tryz.stringslite_IndexByte (bS s) 10 w
  rw [bS_list] at hI
  replace hI := Lib.hid hI
  go_enter Tryz.func80, Tryz.ntmps80
  go_wp2_with fail
  refine hI.out.mono ?_; rintro e w' ⟨rfl, rfl⟩
  go_wp2
  go_ret
  exact ⟨rfl, rfl⟩
theorem lines_c (s : ByteArray) (w : World) :
    Calls Tryz.prog 41 #[.string s] w fun e w' => e = .returned (.func (.func 79) #[] #[.pointer (some ⟨w.heap.size, 0, none⟩)]) ∧ w' = w.alloc (.cells #[.string s] 9) := by
  go_enter Tryz.func41, Tryz.ntmps41
  go_wp2
  go_ret
  exact ⟨rfl, rfl⟩
theorem bS_extract (l m : List UInt8) (i j : Nat) (h : (l.drop i).take (j - i) = m) : (bS l).extract i j = bS m := by
  have : ((bS l).extract i j).data = (bS m).data := by
    apply Array.ext'
    rw [Lib.extract_data, bS_list, bS_list]; exact h
  exact ByteArray.ext this
/-- A step of the iterator: what is left is stored. -/
def LnSt (Bs : Nat) (A B : World) : Prop := ∃ u : Value, B = A.setCell ⟨Bs, 0, none⟩ u ∨ B = (A.setCell ⟨Bs, 0, none⟩ u).drew
/-- What a round keeps: the box of what is left. -/
def LnKp (Bs : Nat) (W W' : World) : Prop := W'.heap[Bs]? = W.heap[Bs]?
set_option maxHeartbeats 2000000 in
theorem lines1_in (l Bs : Nat) (t : List UInt8) (ht : t.length ≤ 9223372036854775807) (J : List (List UInt8) → World → Prop) (hJ : ∀ pre A B, J pre A → LnSt Bs A B → J pre B)
    (hY : ∀ pre x W1, J pre W1 → (pre ++ [x]) <+: linesL t → YieldAt Fence.wide 3 Tryz.prog l #[.string (bS x)] W1 fun e W' => e = .returned (.bool true) ∧ J (pre ++ [x]) W' ∧ LnKp Bs W1 W')
    (W : World) (hBs : W.cell? ⟨Bs, 0, none⟩ = some (.string (bS t))) (hBf : W.frozen? ⟨Bs, 0, none⟩ = false) (h0 : J [] W) :
    CallsIn Fence.wide 4 Tryz.prog 79 #[.func (.yield l) #[] #[], .pointer (some ⟨Bs, 0, none⟩)] W fun e W' => (∃ v, e = .returned v) ∧ J (linesL t) W' := by
  refine callsIn_of_wp Tryz.func79 rfl trivial ?_ rfl
  simp only [Tryz.ntmps79, List.size_toArray, List.length_cons, List.length_nil, Nat.reduceAdd, Nat.reduceSub, Array.replicate_succ, Array.replicate_zero, List.push_toArray, List.append_toArray, List.nil_append, List.cons_append]
  gi_wp2
  gi_loopw [] (fun wr => ∃ (pre : List (List UInt8)) (r : List UInt8), linesL t = pre ++ linesL r ∧ r.length ≤ t.length ∧ wr.cell? ⟨Bs, 0, none⟩ = some (.string (bS r)) ∧ wr.frozen? ⟨Bs, 0, none⟩ = false ∧ J pre wr)
    (fun wr => match wr.cell? ⟨Bs, 0, none⟩ with | some (.string s) => s.size | _ => 0)
  case atStart => exact ⟨[], t, rfl, Nat.le_refl _, hBs, hBf, h0⟩
  case round =>
    obtain ⟨pre, r, hr, hl, hc, hf, hj⟩ := hrel
    by_cases hr0 : r = []
    · subst hr0
      have hz : (bS []).size = 0 := rfl
      have e : linesL t = pre := by rw [hr]; exact List.append_nil _
      have hj' : J (linesL t) wr := by rw [e]; exact hj
      clear hr e hj
      gi_wp2
      go_end0
      exact ⟨⟨_, rfl⟩, hj'⟩
    · have hp : 0 < (bS r).size := by rw [bS_size]; exact List.length_pos_iff.2 hr0
      have hz2 : (bS r).size = r.length := bS_size r
      replace hz2 := Lib.hid hz2
      rcases nl_split r with hn | ⟨a, c, he, ha⟩
      · have hx : Lib.indexByte r 10 = -1 := index_no r hn
        have hI := sindex_c r wr
        rw [hx] at hI
        have hl1 : linesL r = [r] := linesL_last r hn hr0
        rw [hl1] at hr
        replace hI := Lib.hid hI
        clear hl1 hx hn hr0
        have hj2 := hJ pre wr (wr.setCell ⟨Bs, 0, none⟩ (.string ⟨#[]⟩)) hj ⟨_, .inl rfl⟩
        obtain ⟨fn, tmps, assign, body, hy, hR⟩ := hY pre r _ hj2 (by rw [hr]; exact List.prefix_refl _)
        replace hr := Lib.hid hr
        replace hR := Lib.hid hR
        gi_wp2_with (refine ⟨trivial, ?_⟩; gi_at_call 80; refine (callsIn_wide.2 hI.out).mono ?_; rintro e w' ⟨rfl, rfl⟩)
        refine hR.out.mono ?_
        rintro e W3 ⟨rfl, hJ3, hk3⟩
        have hc3 : W3.cell? ⟨Bs, 0, none⟩ = some (.string (bS [])) := (World.cell?_of_block (a := ⟨Bs, 0, none⟩) hk3).trans (World.cell?_setCell_same _ _ _ hc)
        have hf3 : W3.frozen? ⟨Bs, 0, none⟩ = false := (World.frozen?_of_block (a := ⟨Bs, 0, none⟩) hk3).trans (by simpa using hf)
        have hp' := Lib.hid hp
        have hc' := Lib.hid hc
        clear hp hc hf hy hR hI hj hj2
        gi_wp2
        go_roundw
        case rel => exact ⟨pre ++ [r], [], by rw [hr.out]; simp [linesL, linesGo], Nat.zero_le _, hc3, hf3, hJ3⟩
        case measure => rw [hc3, hc'.out]; exact hp'.out
      · subst he
        have hx : Lib.indexByte (a ++ 10 :: c) 10 = (a.length : Int) := index_pre a c ha
        have hI := sindex_c (a ++ 10 :: c) wr
        rw [hx] at hI
        have hl1 : linesL (a ++ 10 :: c) = (a ++ [10]) :: linesL c := linesL_cons a c ha
        rw [hl1] at hr
        replace hI := Lib.hid hI
        have hs1 : (bS (a ++ 10 :: c)).extract 0 (a.length + 1) = bS (a ++ [10]) := bS_extract _ _ _ _ (by rw [List.drop_zero, Nat.sub_zero, show a ++ 10 :: c = (a ++ [10]) ++ c by simp]; exact List.take_left' (by simp))
        have hs2 : (bS (a ++ 10 :: c)).extract (a.length + 1) (bS (a ++ 10 :: c)).size = bS c := bS_extract _ _ _ _ (by rw [show a ++ 10 :: c = (a ++ [10]) ++ c by simp, List.drop_left' (by simp)]; exact List.take_of_length_le (by rw [bS_size]; simp; omega))
        have hla : a.length + 1 ≤ (bS (a ++ 10 :: c)).size := by rw [bS_size]; simp
        have hlb : (bS (a ++ 10 :: c)).size ≤ 9223372036854775807 := by rw [bS_size]; omega
        clear hl1 hx hr0
        generalize hR0 : bS (a ++ 10 :: c) = R at *
        replace hR0 := Lib.hid hR0
        gi_wp2_with (refine ⟨trivial, ?_⟩; gi_at_call 80; refine (callsIn_wide.2 hI.out).mono ?_; rintro e w' ⟨rfl, rfl⟩)
        gi_region
        have hj2 := hJ pre w' (w'.setCell ⟨Bs, 0, none⟩ (.string (bS c))).drew hj ⟨_, .inr rfl⟩
        obtain ⟨fn, tmps, assign, body, hy, hR⟩ := hY pre (a ++ [10]) _ hj2 (by rw [hr]; exact ⟨linesL c, by simp⟩)
        replace hr := Lib.hid hr
        replace hR := Lib.hid hR
        gi_wp2
        refine hR.out.mono ?_
        rintro e W3 ⟨rfl, hJ3, hk3⟩
        have hc3 : W3.cell? ⟨Bs, 0, none⟩ = some (.string (bS c)) := (World.cell?_of_block (a := ⟨Bs, 0, none⟩) hk3).trans (World.cell?_setCell_same _ _ _ hc)
        have hf3 : W3.frozen? ⟨Bs, 0, none⟩ = false := (World.frozen?_of_block (a := ⟨Bs, 0, none⟩) hk3).trans (by rw [frozen_drew_own]; simpa using hf)
        have hms : Hid ((bS c).size < R.size) := Lib.hid (by rw [hz2.out, bS_size]; simp; omega)
        have hc' := Lib.hid hc
        clear hp hc hf hy hR hI hj hj2 hs1 hs2 hla hlb
        gi_wp2
        go_roundw
        case rel => exact ⟨pre ++ [a ++ [10]], c, by rw [hr.out]; simp, by simp at hl; omega, hc3, hf3, hJ3⟩
        case measure => rw [hc3, hc'.out]; exact hms.out
theorem lines_goes (Bs : Nat) (t : List UInt8) (ht : t.length ≤ 9223372036854775807) (w : World) (hB : Bs < w.heap.size) (hc : w.cell? ⟨Bs, 0, none⟩ = some (.string (bS t))) (hf : w.frozen? ⟨Bs, 0, none⟩ = false) :
    Goes Fence.wide 4 Tryz.prog 79 #[.pointer (some ⟨Bs, 0, none⟩)] (fun x : List UInt8 => #[Value.string (bS x)]) (LnKp Bs) (LnSt Bs) (linesL t) w := fun l J W hW hJ hY h0 =>
  lines1_in l Bs t ht J hJ hY W ((hW.cell (p := ⟨Bs, 0, none⟩) hB).trans hc) ((hW.frozen (p := ⟨Bs, 0, none⟩) hB).trans hf) h0
end Go.Proofs.YtahgaccdeakmcaaGreatDoor
namespace Go.Proofs.YtahgaccdeakmcaaGreatDoor
open Go.RowKit
set_option maxRecDepth 100000
set_option linter.unusedVariables false
set_option linter.unusedSimpArgs false
theorem errVB_ne {n : Int} (h : n ≠ 0) : errV n = .iface 94 (.int .i64 n) := by unfold errV; rw [if_neg h]
theorem gErrB_0 {G : List Bool} {pre : List Int} {g : Int} (h : gErrB G pre g = 0) : 0 ≤ g ∧ g < G.length := by
  unfold gErrB at h
  by_cases h1 : g < 0 ∨ (G.length : Int) ≤ g
  · rw [if_pos h1] at h; omega
  · omega
set_option maxHeartbeats 4000000 in
theorem bdo_e (p : Nat) (a0 a1 : Option Addr) (n m c0 c1 : Nat) (RS : Sp) (s E : Int) (w : World)
    (hEx : Hid (∀ w1 : World, Below w.heap.size w w1 → Calls Tryz.prog 36 #[.pointer (some ⟨p, 0, none⟩), .slice a0 n c0, .slice a1 m c1] w1 fun e w' => e = .returned (.tuple #[spV ⟨0, 0, false⟩, .iface 94 (.int .i64 E)]) ∧ Below w1.heap.size w1 w')) :
    Calls Tryz.prog 38 #[.pointer (some ⟨p, 0, none⟩), dlV (.slice a0 n c0) (.slice a1 m c1) RS s] w fun e w' => e = .returned (.iface 94 (.int .i64 E)) ∧ Below w.heap.size w w' := by
  go_enter Tryz.func38, Tryz.ntmps38
  go_wp2_with fail
  have hb0 := Lib.hid (below_alloc w (.cells #[.slice a0 n c0, .slice a1 m c1, .int .i64 RS.x, .int .i64 RS.y, .bool RS.far, .int .i64 s] 46))
  refine (hEx.out _ hb0.out).mono ?_; rintro e w1 ⟨rfl, hb1⟩
  have hB1 := Lib.hid (below_seq hb0.out hb1)
  clear hb1 hb0 hEx
  go_wp2
  go_ret
  exact ⟨rfl, balloc hB1.out _⟩
theorem did_same {w w' : World} {B p : Nat} {vc vg : Value} {N : List Int} {G : List Bool} (h : BkV w B p vc vg N G) (hb : Below w.heap.size w w') : Did w w' B p vc vg N G := ⟨vc, vg, h.below hb, fun _ hk => .inl hk, But.of_below hb⟩
/-- What a deal asks of the slices: they lie, and not in the book. -/
structure Lies (w : World) (p : Nat) (vc vg : Value) (a0 a1 : Option Addr) (gl : List Int) (C : List Sp) : Prop where
  g : 0 < gl.length → ∃ b o, a0 = some ⟨b, o, none⟩ ∧ IntsAt w b o gl ∧ ¬ inB p vc vg b
  n : 0 < C.length → ∃ b o, a1 = some ⟨b, o, none⟩ ∧ SpotsAt w b o C ∧ ¬ inB p vc vg b
end Go.Proofs.YtahgaccdeakmcaaGreatDoor
namespace Go.Proofs.YtahgaccdeakmcaaGreatDoor
open Go.RowKit Go.Shelf
set_option maxRecDepth 100000
set_option linter.unusedVariables false
set_option linter.unusedSimpArgs false
attribute [local go_sem] Oper.semAt_some
/-- A deal, as a record tells it. -/
structure Rec where
  gl : List Nat
  M : List Int
  R : Sp
  s : Nat
def Rec.G (d : Rec) : List Int := d.gl.map fun n : Nat => (n : Int)
def recX (d : Rec) : List UInt8 := recD d.gl d.M d.R d.s
structure RecOk (d : Rec) : Prop where
  g1 : d.gl.length ≤ 1000
  gb : ∀ g ∈ d.gl, g < 1000000
  m : d.M.length ≤ 12
  o : Ok d.R
  s1 : d.s < 1013
theorem RecOk.kb {d : Rec} (h : RecOk d) : ∀ n ∈ (d.M.map fun m => codeS (qS m)), n < 1000000 := fun n hn => by
  rw [List.mem_map] at hn
  obtain ⟨m, -, rfl⟩ := hn
  have := codeS_lt (qS_ok m); omega
theorem RecOk.len {d : Rec} (h : RecOk d) : 2 ≤ (recX d).length ∧ (recX d).length ≤ 20000 :=
  recB_len d.gl _ _ d.s h.gb h.kb h.g1 (by rw [List.length_map]; have := h.m; omega) (by have := codeS_lt h.o; omega) (by have := h.s1; omega)
theorem recX_line (d : Rec) : LineB (recX d) := recB_line _ _ _ _
def stepG (G : List Bool) (d : Rec) : List Bool := goneL G d.G ++ List.replicate d.M.length false
/-- The deal is done by a book that has these coins, of which these are gone. -/
structure Done (N : List Int) (G : List Bool) (d : Rec) : Prop where
  ok : RecOk d
  hN : N.length + d.M.length ≤ 1000
  run : ∀ (B p : Nat) (vc vg : Value) (a0 a1 : Option Addr) (c0 c1 : Nat) (w : World), FarAt w → BkV w B p vc vg N G → B ≤ w.heap.size → d.gl.length ≤ c0 → c0 ≤ 9223372036854775807 → Lies w p vc vg a0 a1 d.G (d.M.map qS) →
    Calls Tryz.prog 38 #[.pointer (some ⟨p, 0, none⟩), dlV (.slice a0 d.gl.length c0) (.slice a1 d.M.length c1) d.R (d.s : Int)] w fun e w' => e = .returned .nilIface ∧ Did w w' B p vc vg (N ++ d.M) (stepG G d)
def stN (M0 : List Int) (ds : List Rec) : List Int := ds.foldl (fun N d => N ++ d.M) M0
def stG (M0 : List Int) (ds : List Rec) : List Bool := ds.foldl stepG (List.replicate M0.length false)
theorem stN_snoc (M0 : List Int) (ds : List Rec) (d : Rec) : stN M0 (ds ++ [d]) = stN M0 ds ++ d.M := by unfold stN; rw [List.foldl_append]; rfl
theorem stG_snoc (M0 : List Int) (ds : List Rec) (d : Rec) : stG M0 (ds ++ [d]) = stepG (stG M0 ds) d := by unfold stG; rw [List.foldl_append]; rfl
/-- All of them are done, one behind the other. -/
def DoneAll (M0 : List Int) (ds : List Rec) : Prop := ∀ i (h : i < ds.length), Done (stN M0 (ds.take i)) (stG M0 (ds.take i)) ds[i]
theorem DoneAll.nil (M0 : List Int) : DoneAll M0 [] := fun i h => absurd h (Nat.not_lt_zero _)
theorem DoneAll.snoc {M0 : List Int} {ds : List Rec} {d : Rec} (h : DoneAll M0 ds) (hd : Done (stN M0 ds) (stG M0 ds) d) : DoneAll M0 (ds ++ [d]) := fun i hi => by
  rw [List.length_append] at hi
  by_cases h1 : i < ds.length
  · rw [List.take_append_of_le_length (Nat.le_of_lt h1), List.getElem_append_left h1]; exact h i h1
  · obtain rfl : i = ds.length := by simp at hi; omega
    rw [List.take_left, List.getElem_append_right (Nat.le_refl _)]
    simpa using hd
theorem DoneAll.take {M0 : List Int} {ds : List Rec} (h : DoneAll M0 ds) (k : Nat) : DoneAll M0 (ds.take k) := fun i hi => by
  rw [List.length_take] at hi
  have := h i (by omega)
  rw [List.take_take, Nat.min_eq_left (by omega), List.getElem_take]
  exact this
def recsB (ds : List Rec) : List (List UInt8) := ds.map recX
theorem recsB_line (ds : List Rec) : ∀ l ∈ recsB ds, LineB l := fun l hl => by
  unfold recsB at hl
  rw [List.mem_map] at hl
  obtain ⟨d, -, rfl⟩ := hl
  exact recX_line d
theorem DoneAll.all {M0 : List Int} {ds : List Rec} (h : DoneAll M0 ds) : ∀ d ∈ ds, RecOk d := fun d hd => by
  obtain ⟨i, hi, rfl⟩ := List.getElem_of_mem hd
  exact (h i hi).ok
theorem recsB_len : ∀ (ds : List Rec), (∀ d ∈ ds, RecOk d) → (recsB ds).flatten.length ≤ 20000 * ds.length
  | [], _ => Nat.zero_le _
  | d :: ds, h => by
    have h1 := recsB_len ds (fun x hx => h x (List.mem_cons_of_mem _ hx))
    have h2 := (h d List.mem_cons_self).len.2
    unfold recsB at h1 ⊢
    rw [List.map_cons, List.flatten_cons, List.length_append, List.length_cons]
    omega
/-- A book whose base is lower. -/
theorem BkV.base {w : World} {B B' p : Nat} {vc vg : Value} {N : List Int} {G : List Bool} (h : BkV w B' p vc vg N G) (hB : B ≤ B') : BkV w B p vc vg N G :=
  ⟨h.c0, h.c1, h.f0, h.f1, h.lt, Nat.le_trans hB h.bp, own_base h.rc hB, own_base h.rg hB, h.ln, h.ap, h.nc, h.ng⟩
theorem cells_of_cell {w : World} {a : Addr} {v : Value} (h : w.cell? a = some v) : ∃ o : Obj, w.heap[a.block]? = some o ∧ o.isCells = true := by
  unfold World.cell? at h
  cases ho : w.heap[a.block]? with
  | none => simp [ho] at h
  | some o => exact ⟨o, rfl, by cases o <;> simp_all [Obj.isCells]⟩
theorem own_cells {w : World} {B e size n : Nat} {v : Value} {xs : List Value} (h : w.ownsRow B e size v n xs) (k : Nat) (hk : v.ownBlock = some k) : ∃ o : Obj, w.heap[k]? = some o ∧ o.isCells = true := by
  rcases h.2 with ⟨rfl, -⟩ | ⟨g, cap, cur, rfl, -, hg, -⟩
  · cases hk
  · cases hk; exact ⟨_, hg, rfl⟩
theorem BkV.cells {w : World} {B p : Nat} {vc vg : Value} {N : List Int} {G : List Bool} (h : BkV w B p vc vg N G) (k : Nat) (hk : inB p vc vg k) : ∃ o : Obj, w.heap[k]? = some o ∧ o.isCells = true := by
  rcases hk with rfl | hk | hk
  · exact cells_of_cell h.c0
  · exact own_cells h.rc k hk
  · exact own_cells h.rg k hk
theorem BkV.turn {w w' : World} {B p : Nat} {vc vg : Value} {N : List Int} {G : List Bool} {row : Option Nat} (h : BkV w B p vc vg N G) (hg : w.grownBy w' row) (hr : ∀ r, row = some r → ∃ o : Obj, w.heap[r]? = some o ∧ o.isCells = false) : BkV w' B p vc vg N G :=
  h.keep hg.size fun k hk => hg.block k (h.blk k hk).2 fun e => by
    obtain ⟨o, h1, h2⟩ := h.cells k hk
    obtain ⟨o', h3, h4⟩ := hr k e.symm
    rw [h1] at h3; cases h3; rw [h2] at h4; cases h4
/-- The block of a log. -/
structure QAt (w : World) (q : Nat) (v0 v1 v2 v3 v4 v5 : Value) : Prop where
  c0 : w.cell? ⟨q, 0, none⟩ = some v0
  c1 : w.cell? ⟨q, 1, none⟩ = some v1
  c2 : w.cell? ⟨q, 2, none⟩ = some v2
  c3 : w.cell? ⟨q, 3, none⟩ = some v3
  c4 : w.cell? ⟨q, 4, none⟩ = some v4
  c5 : w.cell? ⟨q, 5, none⟩ = some v5
  f : ∀ o, w.frozen? ⟨q, o, none⟩ = false
  lt : q < w.heap.size
theorem QAt.keep {w w' : World} {q : Nat} {v0 v1 v2 v3 v4 v5 : Value} (h : QAt w q v0 v1 v2 v3 v4 v5) (hs : w.heap.size ≤ w'.heap.size) (hb : w'.heap[q]? = w.heap[q]?) : QAt w' q v0 v1 v2 v3 v4 v5 := by
  have c : ∀ o, w'.cell? ⟨q, o, none⟩ = w.cell? ⟨q, o, none⟩ := fun o => World.cell?_of_block (a := ⟨q, o, none⟩) hb
  have f : ∀ o, w'.frozen? ⟨q, o, none⟩ = w.frozen? ⟨q, o, none⟩ := fun o => World.frozen?_of_block (a := ⟨q, o, none⟩) hb
  exact ⟨(c 0).trans h.c0, (c 1).trans h.c1, (c 2).trans h.c2, (c 3).trans h.c3, (c 4).trans h.c4, (c 5).trans h.c5, fun o => (f o).trans (h.f o), Nat.lt_of_lt_of_le h.lt hs⟩
theorem QAt.below {w w' : World} {q : Nat} {v0 v1 v2 v3 v4 v5 : Value} (h : QAt w q v0 v1 v2 v3 v4 v5) (hb : Below w.heap.size w w') : QAt w' q v0 v1 v2 v3 v4 v5 := h.keep hb.size (hb.block q h.lt)
theorem QAt.cells {w : World} {q : Nat} {v0 v1 v2 v3 v4 v5 : Value} (h : QAt w q v0 v1 v2 v3 v4 v5) : ∃ o : Obj, w.heap[q]? = some o ∧ o.isCells = true := cells_of_cell h.c0
theorem set_c {w : World} {q i j : Nat} {v u : Value} (h : w.cell? ⟨q, j, none⟩ = some v) (hij : j ≠ i) : (w.setCell ⟨q, i, none⟩ u).cell? ⟨q, j, none⟩ = some v :=
  (World.cell?_setCell_other _ _ _ _ (fun e => hij (congrArg Addr.off e).symm)).trans h
theorem QAt.set1 {w : World} {q : Nat} {v0 v1 v2 v3 v4 v5 : Value} (h : QAt w q v0 v1 v2 v3 v4 v5) (u : Value) : QAt (w.setCell ⟨q, 1, none⟩ u) q v0 u v2 v3 v4 v5 :=
  ⟨set_c h.c0 (by decide), World.cell?_setCell_same _ _ _ h.c1, set_c h.c2 (by decide), set_c h.c3 (by decide), set_c h.c4 (by decide), set_c h.c5 (by decide), fun o => by simpa using h.f o, by simpa using h.lt⟩
theorem QAt.set2 {w : World} {q : Nat} {v0 v1 v2 v3 v4 v5 : Value} (h : QAt w q v0 v1 v2 v3 v4 v5) (u : Value) : QAt (w.setCell ⟨q, 2, none⟩ u) q v0 v1 u v3 v4 v5 :=
  ⟨set_c h.c0 (by decide), set_c h.c1 (by decide), World.cell?_setCell_same _ _ _ h.c2, set_c h.c3 (by decide), set_c h.c4 (by decide), set_c h.c5 (by decide), fun o => by simpa using h.f o, by simpa using h.lt⟩
theorem QAt.set3 {w : World} {q : Nat} {v0 v1 v2 v3 v4 v5 : Value} (h : QAt w q v0 v1 v2 v3 v4 v5) (u : Value) : QAt (w.setCell ⟨q, 3, none⟩ u) q v0 v1 v2 u v4 v5 :=
  ⟨set_c h.c0 (by decide), set_c h.c1 (by decide), set_c h.c2 (by decide), World.cell?_setCell_same _ _ _ h.c3, set_c h.c4 (by decide), set_c h.c5 (by decide), fun o => by simpa using h.f o, by simpa using h.lt⟩
theorem QAt.set4 {w : World} {q : Nat} {v0 v1 v2 v3 v4 v5 : Value} (h : QAt w q v0 v1 v2 v3 v4 v5) (u : Value) : QAt (w.setCell ⟨q, 4, none⟩ u) q v0 v1 v2 v3 u v5 :=
  ⟨set_c h.c0 (by decide), set_c h.c1 (by decide), set_c h.c2 (by decide), set_c h.c3 (by decide), World.cell?_setCell_same _ _ _ h.c4, set_c h.c5 (by decide), fun o => by simpa using h.f o, by simpa using h.lt⟩
theorem QAt.set5 {w : World} {q : Nat} {v0 v1 v2 v3 v4 v5 : Value} (h : QAt w q v0 v1 v2 v3 v4 v5) (u : Value) : QAt (w.setCell ⟨q, 5, none⟩ u) q v0 v1 v2 v3 v4 u :=
  ⟨set_c h.c0 (by decide), set_c h.c1 (by decide), set_c h.c2 (by decide), set_c h.c3 (by decide), set_c h.c4 (by decide), World.cell?_setCell_same _ _ _ h.c5, fun o => by simpa using h.f o, by simpa using h.lt⟩
end Go.Proofs.YtahgaccdeakmcaaGreatDoor
namespace Go.Proofs.YtahgaccdeakmcaaGreatDoor
open Go.RowKit Go.Shelf
set_option maxRecDepth 100000
set_option linter.unusedVariables false
set_option linter.unusedSimpArgs false
attribute [local go_sem] Oper.semAt_some
/-- Between two rounds: a book with so many deals done; the two boxes; the log's block. -/
def RdI (w : World) (M0 : List Int) (ds : List Rec) (kb Bs p q : Nat) (v0 v1 v2 v3 v4 v5 : Value) (pre : List (List UInt8)) (W : World) : Prop :=
  ∃ vc vg, BkV W (w.heap.size + 1) p vc vg (stN M0 (ds.take pre.length)) (stG M0 (ds.take pre.length)) ∧ (∀ k, inB p vc vg k → k ≠ kb ∧ k ≠ Bs) ∧ W.cell? ⟨kb, 0, none⟩ = some (.pointer (some ⟨p, 0, none⟩)) ∧ W.cell? ⟨w.heap.size, 0, none⟩ = some .nilIface ∧ W.frozen? ⟨w.heap.size, 0, none⟩ = false ∧ Bs < W.heap.size ∧ Below w.heap.size w W
theorem cell_turn {w w' : World} {row : Option Nat} {a : Addr} {v : Value} (h : w.cell? a = some v) (hg : w.grownBy w' row) (hr : ∀ r, row = some r → ∃ o : Obj, w.heap[r]? = some o ∧ o.isCells = false) : w'.cell? a = w.cell? a ∧ w'.frozen? a = w.frozen? a := by
  obtain ⟨o, h1, h2⟩ := cells_of_cell h
  have hb : w'.heap[a.block]? = w.heap[a.block]? := hg.block _ (Array.getElem?_eq_some_iff.1 h1).1 fun e => by
    obtain ⟨o', h3, h4⟩ := hr _ e.symm
    rw [h1] at h3; cases h3; rw [h2] at h4; cases h4
  exact ⟨World.cell?_of_block hb, World.frozen?_of_block hb⟩
theorem RdI.own (w : World) (M0 : List Int) (ds : List Rec) (kb Bs p q : Nat) (v0 v1 v2 v3 v4 v5 : Value) (B : Nat) (hB : w.heap.size ≤ B) : OwnFrom B (RdI w M0 ds kb Bs p q v0 v1 v2 v3 v4 v5) := fun pre A W row hI hg hr => by
  obtain ⟨vc, vg, hv, hne, h1, h2, h3, h4, h5⟩ := hI
  have hr' := fun r e => (hr r e).2
  obtain ⟨e1, -⟩ := cell_turn h1 hg hr'
  obtain ⟨e2, e3⟩ := cell_turn h2 hg hr'
  exact ⟨vc, vg, hv.turn hg hr', hne, e1.trans h1, e2.trans h2, e3.trans h3, Nat.lt_of_lt_of_le h4 hg.size, h5.grown hg h5.size (fun k e => Nat.le_trans hB (hr k e).1)⟩
theorem RdI.step (w : World) (M0 : List Int) (ds : List Rec) (kb Bs p q : Nat) (v0 v1 v2 v3 v4 v5 : Value) (hk : kb ≠ Bs) (hB : w.heap.size < Bs) : ∀ pre A W, RdI w M0 ds kb Bs p q v0 v1 v2 v3 v4 v5 pre A → LnSt Bs A W → RdI w M0 ds kb Bs p q v0 v1 v2 v3 v4 v5 pre W := fun pre A W hI hst => by
  obtain ⟨vc, vg, hv, hne, h1, h2, h3, h4, h5⟩ := hI
  have key : ∀ u, RdI w M0 ds kb Bs p q v0 v1 v2 v3 v4 v5 pre (A.setCell ⟨Bs, 0, none⟩ u) := fun u => by
    have hb := But.setCell (S := fun k => k = Bs) (a := A) (p := ⟨Bs, 0, none⟩) rfl u
    exact ⟨vc, vg, hv.but hb (fun k h e => (hne k h).2 e), hne, by rw [World.cell?_setCell_other (h := by simp <;> omega)]; exact h1, by rw [World.cell?_setCell_other (h := by simp <;> omega)]; exact h2, by simpa using h3, by simpa using h4, h5.setCell (p := ⟨Bs, 0, none⟩) (by show w.heap.size ≤ Bs; omega) u⟩
  obtain ⟨u, rfl | rfl⟩ := hst
  · exact key u
  · obtain ⟨vc, vg, hv, hne, h1, h2, h3, h4, h5⟩ := key u
    exact ⟨vc, vg, hv.below (Below.refl _ _).drew, hne, h1, h2, h3, h4, h5.drew⟩
theorem own_lies {w : World} {B e : Nat} {a : Option Addr} {n cap : Nat} {l : List Int} (h : w.ownsRow B e 1 (.slice a n cap) n (l.map (Value.int .i64))) (hn : n = l.length) : 0 < l.length → ∃ b o, a = some ⟨b, o, none⟩ ∧ IntsAt w b o l ∧ B ≤ b := fun h0 => by
  obtain ⟨a', c', e', h'⟩ := own_ints h hn
  simp only [Value.slice.injEq] at e'
  obtain ⟨rfl, -, -⟩ := e'
  obtain ⟨b, o, rfl, hI⟩ := h' h0
  exact ⟨b, o, rfl, hI, (h.lt b rfl).1⟩
theorem own_lieS {w : World} {B e : Nat} {a : Option Addr} {n cap : Nat} {l : List Sp} (h : w.ownsRow B e 3 (.slice a n cap) n (spCells l)) (hn : n = l.length) : 0 < l.length → ∃ b o, a = some ⟨b, o, none⟩ ∧ SpotsAt w b o l ∧ B ≤ b := fun h0 => by
  obtain ⟨a', c', e', h'⟩ := own_spots h hn
  simp only [Value.slice.injEq] at e'
  obtain ⟨rfl, -, -⟩ := e'
  obtain ⟨b, o, rfl, hI⟩ := h' h0
  exact ⟨b, o, rfl, hI, (h.lt b rfl).1⟩
theorem own_cap {w : World} {B e size n : Nat} {a : Option Addr} {cap : Nat} {xs : List Value} (h : w.ownsRow B e size (.slice a n cap) n xs) : n ≤ cap ∧ cap ≤ 9223372036854775807 := by
  rcases h.2 with ⟨h1, h2⟩ | ⟨g, c, cur, h1, -, -, h2, h3, -⟩
  · simp only [Value.slice.injEq] at h1; omega
  · simp only [Value.slice.injEq] at h1; unfold maxLen at h3; omega
set_option maxHeartbeats 16000000 in
theorem lredo_c (M0 : List Int) (ds : List Rec) (hG : DoneAll M0 ds) (hM : M0.length ≤ 12) (hds : ds.length ≤ 1000) (q : Nat) (ac : Option Addr) (cc : Nat) (v1 v2 v3 v4 v5 : Value) (w : World) (hF : FarAt w) (hA : AscAt w) (hQ : QAt w q (.slice ac M0.length cc) v1 v2 v3 v4 v5)
    (hL : 0 < (M0.map qS).length → ∃ b o, ac = some ⟨b, o, none⟩ ∧ SpotsAt w b o (M0.map qS)) :
    Calls Tryz.prog 59 #[.pointer (some ⟨q, 0, none⟩), .string (bS (recsB ds).flatten)] w fun e w' => e = .returned .nilIface ∧ ∃ p vc vg, QAt w' q (.slice ac M0.length cc) (.pointer (some ⟨p, 0, none⟩)) v2 v3 v4 v5 ∧ BkV w' w.heap.size p vc vg (stN M0 ds) (stG M0 ds) ∧ But (fun k => k = q) w w' := by
  have hlen := recsB_len ds hG.all
  have hlin : linesL (recsB ds).flatten = recsB ds := linesL_recs _ (recsB_line ds)
  have kNew := Lib.hid (fun (w1 : World) (hb : Below w.heap.size w w1) => bnew_y M0 ac cc w1 hM (hF.below hb) (fun h => by obtain ⟨b, o, e, hs⟩ := hL h; exact ⟨b, o, e, hs.below hb⟩))
  have q0 := hQ.c0
  have ql := hQ.lt
  obtain ⟨TX, hTX⟩ : ∃ TX, (recsB ds).flatten = TX := ⟨_, rfl⟩
  rw [hTX] at hlen hlin ⊢
  replace hG := Lib.hid hG
  have hF' := Lib.hid hF
  have hA' := Lib.hid hA
  have hQ' := Lib.hid hQ
  replace hTX := Lib.hid hTX
  replace hlin := Lib.hid hlin
  clear hQ hF hA hL
  refine (callsIn_wide (n := 6)).1 ?_
  refine callsIn_of_wp_marks Tryz.func59 rfl trivial ?_
  simp only [Tryz.ntmps59, List.size_toArray, List.length_cons, List.length_nil, Nat.reduceAdd, Nat.reduceSub, Array.replicate_succ, Array.replicate_zero, List.push_toArray, List.append_toArray, List.nil_append, List.cons_append]
  refine wpIn_wide.2 ?_
  generalize hQq : bodyPostM _ _ _ _ _ = QQ
  replace hQq := Lib.hid hQq
  go_wp2_with fail
  refine (kNew.out _ (below_alloc _ _)).mono ?_; rintro e w1 ⟨p, rfl, hbk, hb1⟩
  rw [World.size_alloc] at hbk
  have hB1 := Lib.hid (below_seq (below_alloc w _) hb1)
  have q0' := ((bcell hB1.out).1 _ 0 ql).trans q0
  have hz1 := hb1.size
  rw [World.size_alloc] at hz1
  have r0 : w1.cell? ⟨w.heap.size, 0, none⟩ = some .nilIface := ((bcell hb1).1 _ 0 (by simp)).trans (by go_simp)
  have r1 : w1.frozen? ⟨w.heap.size, 0, none⟩ = false := ((bcell hb1).2 _ 0 (by simp)).trans (by go_simp)
  replace hbk := Lib.hid hbk
  clear hb1 kNew q0
  go_wp2_with fail
  refine (lines_c _ _).mono ?_; rintro e w' ⟨rfl, rfl⟩
  go_wp2_with fail
  obtain ⟨kb, hkb⟩ : ∃ kb, kb = w1.heap.size := ⟨_, rfl⟩
  have hsB : ((w1.alloc (.cells #[.pointer (some ⟨p, 0, none⟩)] 65)).alloc (.cells #[.string (bS TX)] 9)).cell? ⟨w1.heap.size + 1, 0, none⟩ = some (.string (bS TX)) := by simp
  have hsF : ((w1.alloc (.cells #[.pointer (some ⟨p, 0, none⟩)] 65)).alloc (.cells #[.string (bS TX)] 9)).frozen? ⟨w1.heap.size + 1, 0, none⟩ = false := by simp
  have hB0 : Below w1.heap.size w1 ((w1.alloc (.cells #[.pointer (some ⟨p, 0, none⟩)] 65)).alloc (.cells #[.string (bS TX)] 9)) := balloc (below_alloc w1 _) _
  obtain ⟨vc, vg, hv⟩ := hbk.out
  have hI0 : RdI w M0 ds w1.heap.size (w1.heap.size + 1) p q (.slice ac M0.length cc) v1 v2 v3 v4 v5 [] ((w1.alloc (.cells #[.pointer (some ⟨p, 0, none⟩)] 65)).alloc (.cells #[.string (bS TX)] 9)) :=
    ⟨vc, vg, hv.below hB0, fun k hk => by have := (hv.blk k hk).2; omega, by simp, ((bcell hB0).1 _ 0 (by omega)).trans r0, ((bcell hB0).2 _ 0 (by omega)).trans r1, by simp, below_seq hB1.out hB0⟩
  refine (wpIn_wide (n := 5)).1 ?_
  refine wpIn_goes (F := Fence.wide) rfl (by decide) (gf := 79) (lb := #[.pointer (some ⟨w1.heap.size + 1, 0, none⟩)]) rfl trivial (enters_of Tryz.func79 (by kernel_rfl) rfl)
    (lines_goes (w1.heap.size + 1) TX (by omega) _ (by simp) hsB hsF) (fun A B C h k => Eq.trans k h) (fun W l o o' hl _ _ _ => World.putObj_heap_other (by simp at hl; omega)) (Below.refl _ _) (fun _ => rfl)
    (RdI w M0 ds w1.heap.size (w1.heap.size + 1) p q (.slice ac M0.length cc) v1 v2 v3 v4 v5) (RdI.own w M0 ds _ _ p q _ v1 v2 v3 v4 v5 _ (by simp; omega)) (RdI.step w M0 ds _ _ p q _ v1 v2 v3 v4 v5 (by omega) (by omega))
    (fun A B k o hst hk ho => by
      obtain ⟨u, rfl | rfl⟩ := hst
      · exact (KeepsOthers.setCell A _ u).same k o hk ho
      · exact (KeepsOthers.setCell A _ u).same k o hk ho)
    hI0 ?act ?assign ?body ?done
  case assign =>
    intro l x W K hK
    replace hK := Lib.hid hK
    gi_wp2
    exact hK.out
  case body =>
    rintro l pre x W ⟨vc, vg, hv, hne, h1, h2, h3, h4, h5⟩ hpre
    clear hsB hsF hB0 hI0
    rw [hlin.out] at hpre
    obtain ⟨k, hk⟩ : ∃ k, pre.length = k := ⟨_, rfl⟩
    obtain ⟨hkl, hxk⟩ : ∃ h : k < ds.length, x = recX ds[k] := by
      obtain ⟨t, ht⟩ := hpre
      have hl := congrArg List.length ht
      simp only [List.length_append, List.length_cons, List.length_nil, recsB, List.length_map] at hl
      refine ⟨by omega, ?_⟩
      have hg : (recsB ds)[k]? = some x := by
        rw [← ht, List.append_assoc, List.getElem?_append_right (by omega)]
        subst hk; simp
      unfold recsB at hg
      rw [List.getElem?_map, List.getElem?_eq_getElem (by omega)] at hg
      simpa using hg.symm
    have hDn := hG.out k hkl
    have hsN := stN_snoc M0 (ds.take k) ds[k]
    have hsG := stG_snoc M0 (ds.take k) ds[k]
    have htk : ds.take (k + 1) = ds.take k ++ [ds[k]] := List.take_succ_eq_append_getElem hkl
    rw [← htk] at hsN hsG
    have hkx : (pre ++ [x]).length = k + 1 := by simp [hk]
    rw [hk] at hv
    subst hxk
    generalize ds[k] = d at *
    have ok := hDn.ok
    have hDl := Lib.hid (ldeal_c d.gl d.M d.R d.s W (hF'.out.below h5) (hA'.out.below h5) ok.g1 ok.gb ok.m ok.o ok.s1)
    obtain ⟨N, hN⟩ : ∃ N, stN M0 (ds.take k) = N := ⟨_, rfl⟩
    obtain ⟨G, hGG⟩ : ∃ G, stG M0 (ds.take k) = G := ⟨_, rfl⟩
    rw [hN, hGG] at hv hDn
    rw [hN] at hsN
    rw [hGG] at hsG
    have hrx : recX d = recD d.gl d.M d.R d.s := rfl
    rw [hrx] at hkx ⊢
    obtain ⟨RX, hRX⟩ : ∃ RX, bS (recD d.gl d.M d.R d.s) = RX := ⟨_, rfl⟩
    obtain ⟨rx, hrx2⟩ : ∃ rx, recD d.gl d.M d.R d.s = rx := ⟨_, rfl⟩
    rw [hRX] at hDl ⊢
    rw [hrx2] at hkx ⊢
    replace hv := Lib.hid hv
    replace hDn := Lib.hid hDn
    replace ok := Lib.hid ok
    replace hsN := Lib.hid hsN
    replace hsG := Lib.hid hsG
    replace hkx := Lib.hid hkx
    replace h5 := Lib.hid h5
    replace hk := Lib.hid hk
    clear hN hGG hrx hRX hrx2 htk hpre
    have hn1 : 1 ≤ 5 - 1 - 1 := by decide
    gi_wp2_with (refine ⟨trivial, ?_⟩; gi_at_call 109; refine (CallsIn.inRound l (callsIn_wide.2 hDl.out)).mono ?_; rintro e w2 ⟨u0, u1, rfl, ho0, ho1, hb2⟩; obtain ⟨a0, c0, rfl⟩ := own_slB ho0; obtain ⟨a1, c1, rfl⟩ := own_slB ho1; have g1 := ((bcell hb2).1 _ 0 (show w1.heap.size < W.heap.size by omega)).trans h1; have hz2 := hb2.size; have g2 : w1.heap.size < w2.heap.size := (by omega); replace ho0 := Lib.hid ho0; replace ho1 := Lib.hid ho1; replace hb2 := Lib.hid hb2)
    clear hDl
    have hB3 := Lib.hid (balloc hb2.out (.cells #[.slice a0 d.gl.length c0, .slice a1 d.M.length c1, .int .i64 d.R.x, .int .i64 d.R.y, .bool d.R.far, .int .i64 d.s] 46))
    have hv3 := Lib.hid (hv.out.below hB3.out)
    have hLi : Lies (w2.alloc (.cells #[.slice a0 d.gl.length c0, .slice a1 d.M.length c1, .int .i64 d.R.x, .int .i64 d.R.y, .bool d.R.far, .int .i64 d.s] 46)) p vc vg a0 a1 d.G (d.M.map qS) := by
      refine ⟨fun h => ?_, fun h => ?_⟩
      · obtain ⟨b, o, e, hs, hb⟩ := own_lies ho0.out (by rw [List.length_map]) (by unfold Rec.G at h; exact h)
        exact ⟨b, o, e, hs.below (below_alloc w2 _), fun hi => by have := (hv.out.blk b hi).2; omega⟩
      · obtain ⟨b, o, e, hs, hb⟩ := own_lieS ho1.out (by rw [List.length_map]) h
        exact ⟨b, o, e, hs.below (below_alloc w2 _), fun hi => by have := (hv.out.blk b hi).2; omega⟩
    have hDo := Lib.hid (hDn.out.run (w.heap.size + 1) p vc vg a0 a1 c0 c1 _ ((hF'.out.below h5.out).below hB3.out) hv3.out (by rw [World.size_alloc]; omega) (own_cap ho0.out).1 (own_cap ho0.out).2 hLi)
    clear hLi
    gi_wp2_with (refine ⟨trivial, ?_⟩; gi_at_call 38; refine (CallsIn.inRound l (callsIn_wide.2 hDo.out)).mono ?_; rintro e w4 ⟨rfl, vc', vg', hv4, hin4, hbt4⟩)
    generalize (w2.alloc (.cells #[.slice a0 d.gl.length c0, .slice a1 d.M.length c1, .int .i64 d.R.x, .int .i64 d.R.y, .bool d.R.far, .int .i64 d.s] 46)) = w3 at *
    have hz3 := hB3.out.size
    have hno : ∀ j, j < W.heap.size → ¬ inB p vc vg j → w4.heap[j]? = W.heap[j]? := fun j hj hn => (hbt4.block j (by omega) hn).trans (hB3.out.block j hj)
    have hn0 : ¬ inB p vc vg w1.heap.size := fun h => (hne _ h).1 rfl
    have hn1' : ¬ inB p vc vg (w1.heap.size + 1) := fun h => (hne _ h).2 rfl
    have hnr : ¬ inB p vc vg w.heap.size := fun h => by have := (hv.out.blk _ h).1; omega
    refine ⟨⟨Nat.le_trans hz3 hbt4.size, fun j o _ hj ho => ?_⟩, hno _ h4 hn1', vc', vg', ?_, fun j hj => ?_, ?_, ?_, ?_, ?_, ?_⟩
    · have hjl := (Array.getElem?_eq_some_iff.1 hj).1
      refine (hno j hjl (fun hin => ?_)).trans hj
      obtain ⟨o', h6, h7⟩ := hv.out.cells j hin
      rw [hj] at h6; cases h6; rw [ho] at h7; cases h7
    · rw [hkx.out, hsN.out, hsG.out]; exact hv4
    · rcases hin4 j hj with h | h
      · exact hne j h
      · omega
    · exact (World.cell?_of_block (a := ⟨w1.heap.size, 0, none⟩) (hno w1.heap.size (by omega) hn0)).trans h1
    · exact (World.cell?_of_block (a := ⟨w.heap.size, 0, none⟩) (hno w.heap.size (by have := h5.out.size; omega) hnr)).trans h2
    · exact (World.frozen?_of_block (a := ⟨w.heap.size, 0, none⟩) (hno w.heap.size (by have := h5.out.size; omega) hnr)).trans h3
    · have := hbt4.size; omega
    · exact (below_seq h5.out hB3.out).trans (hbt4.below (B := w.heap.size) (by have := h5.out.size; omega) (fun j hj => by have := (hv.out.blk j hj).1; omega))
  case done =>
    rintro D W hD ⟨vc, vg, hv, hne, h1, h2, h3, h4, h5⟩ hK
    clear hsB hsF hB0 hI0
    have e1 : ds.take (linesL TX).length = ds := by rw [hlin.out]; unfold recsB; rw [List.length_map, List.take_length]
    rw [e1] at hv
    have hQW := hQ'.out.below h5
    have hzw := h5.size
    have hDl : w1.heap.size < D := by simp at hD; omega
    have hnq : ¬ inB p vc vg q := fun h => by have := (hv.blk _ h).1; omega
    have hnr : ¬ inB p vc vg w.heap.size := fun h => by have := (hv.blk _ h).1; omega
    have hQF := (hQW.set1 (.pointer (some ⟨p, 0, none⟩))).keep (w' := (W.setCell ⟨q, 1, none⟩ (.pointer (some ⟨p, 0, none⟩))).setCell ⟨w.heap.size, 0, none⟩ .nilIface) (by simp) (heap_setCell_other _ ⟨w.heap.size, 0, none⟩ q _ (by show q ≠ w.heap.size; omega))
    have hbs : ∀ j, j ≠ q → j ≠ w.heap.size → ((W.setCell ⟨q, 1, none⟩ (.pointer (some ⟨p, 0, none⟩))).setCell ⟨w.heap.size, 0, none⟩ .nilIface).heap[j]? = W.heap[j]? := fun j h6 h7 => by
      rw [heap_setCell_other _ ⟨w.heap.size, 0, none⟩ j _ h7, heap_setCell_other _ ⟨q, 1, none⟩ j _ h6]
    have hvF := (hv.keep (w' := (W.setCell ⟨q, 1, none⟩ (.pointer (some ⟨p, 0, none⟩))).setCell ⟨w.heap.size, 0, none⟩ .nilIface) (by simp) (fun j hj => hbs j (fun e => hnq (e ▸ hj)) (fun e => hnr (e ▸ hj)))).base (B := w.heap.size) (by omega)
    have hbF : But (fun k => k = q) w ((W.setCell ⟨q, 1, none⟩ (.pointer (some ⟨p, 0, none⟩))).setCell ⟨w.heap.size, 0, none⟩ .nilIface) :=
      ((But.of_below h5).trans (But.setCell (S := fun k => k = q) (p := ⟨q, 1, none⟩) rfl _)).after ((Below.refl w.heap.size _).setCell (p := ⟨w.heap.size, 0, none⟩) (Nat.le_refl _) _)
    have hKF : ((W.setCell ⟨q, 1, none⟩ (.pointer (some ⟨p, 0, none⟩))).setCell ⟨w.heap.size, 0, none⟩ .nilIface).heap[D]? = some (.deferred (some [])) := (hbs D (by omega) (by omega)).trans hK
    have hrF : ((W.setCell ⟨q, 1, none⟩ (.pointer (some ⟨p, 0, none⟩))).setCell ⟨w.heap.size, 0, none⟩ .nilIface).cell? ⟨w.heap.size, 0, none⟩ = some .nilIface := World.cell?_setCell_same _ _ _ (by rw [World.cell?_setCell_other (h := by simp <;> omega)]; exact h2)
    have f1 := hQW.f 1
    have k1 := hQW.c1
    have kl := hQW.lt
    have rl : w.heap.size < W.heap.size := by omega
    replace hQF := Lib.hid hQF
    replace hvF := Lib.hid hvF
    replace hbF := Lib.hid hbF
    replace hKF := Lib.hid hKF
    replace hrF := Lib.hid hrF
    clear hK hv hQW h5 e1 hbs
    dsimp only
    go_wp2
    rw [← hQq.out]
    obtain ⟨X, hX⟩ : ∃ X, X = (W.setCell ⟨q, 1, none⟩ (.pointer (some ⟨p, 0, none⟩))).setCell ⟨w.heap.size, 0, none⟩ .nilIface := ⟨_, rfl⟩
    rw [← hX] at hQF hvF hbF hKF hrF ⊢
    have hrP : (X.putObj D (.deferred none)).cell? ⟨w.heap.size, 0, none⟩ = some .nilIface := (World.cell?_of_block (a := ⟨w.heap.size, 0, none⟩) (World.putObj_heap_other (by show w.heap.size ≠ D; omega))).trans hrF.out
    refine ⟨by simp, .inl ⟨_, _, rfl, run_takeDeferred hKF.out, ?_⟩⟩
    refine ⟨.nilIface, by simp [results, Tryz.f59, go_sem, hrP], rfl, p, vc, vg, ?_, ?_, ?_⟩
    · exact hQF.out.keep (by simp [World.putObj]) (World.putObj_heap_other (by omega))
    · exact hvF.out.turn (grownBy_putObj' X D (.deferred none)) (fun r e => by cases e; exact ⟨_, hKF.out, rfl⟩)
    · exact hbF.out.after (belowK_b (w := w) (Nat.le_refl _) X D _ _ (by omega) hKF.out rfl rfl)
end Go.Proofs.YtahgaccdeakmcaaGreatDoor
namespace Go.Proofs.YtahgaccdeakmcaaGreatDoor
open Go.RowKit
set_option maxRecDepth 100000
set_option linter.unusedVariables false
set_option linter.unusedSimpArgs false
attribute [local go_sem ↓] Go.wp_at_zero Go.wp_at_succ
/-- The blocks of a log. -/
structure LgH where
  ac : Option Addr
  cc : Nat
  p : Nat
  vc : Value
  vg : Value
/-- What a log holds: its deals, half a record behind them, how much is safe, the steps left, has it stopped. -/
structure LgS where
  ds : List Rec
  hf : List UInt8
  sf : Int
  lf : Int
  st : Bool
def LgS.bytes (s : LgS) : List UInt8 := (recsB s.ds).flatten ++ s.hf
def inL (M0 : List Int) (q : Nat) (h : LgH) (k : Nat) : Prop := k = q ∨ (Value.slice h.ac M0.length h.cc).ownBlock = some k ∨ inB h.p h.vc h.vg k
structure LgV (w : World) (B q : Nat) (M0 : List Int) (h : LgH) (s : LgS) : Prop where
  Q : QAt w q (.slice h.ac M0.length h.cc) (.pointer (some ⟨h.p, 0, none⟩)) (.string (bS s.bytes)) (.int .i64 s.sf) (.int .i64 s.lf) (.bool s.st)
  co : w.ownsRow B 28 3 (.slice h.ac M0.length h.cc) M0.length (spCells (M0.map qS))
  bk : BkV w B h.p h.vc h.vg (stN M0 s.ds) (stG M0 s.ds)
  qB : B ≤ q
  nq : ¬ inB h.p h.vc h.vg q
  nc : ∀ k, (Value.slice h.ac M0.length h.cc).ownBlock = some k → k ≠ q ∧ ¬ inB h.p h.vc h.vg k
/-- What holds of it. -/
structure LgP (M0 : List Int) (s : LgS) : Prop where
  all : DoneAll M0 s.ds
  m : M0.length ≤ 12
  n : s.ds.length ≤ 500
  nl : ∀ b ∈ s.hf, b ≠ 10
  hl : s.hf.length ≤ 20000
  h0 : s.st = false → s.hf = []
  s0 : 0 ≤ s.sf
  s1 : s.sf ≤ s.bytes.length
  l0 : -1 ≤ s.lf
  l1 : s.lf ≤ 9223372036854775807
theorem LgP.len {M0 : List Int} {s : LgS} (h : LgP M0 s) : s.bytes.length ≤ 20000 * 501 := by
  have h1 := recsB_len s.ds h.all.all
  have h2 := h.hl
  have h3 := h.n
  unfold LgS.bytes
  rw [List.length_append]
  omega
theorem LgV.blk {w : World} {B q : Nat} {M0 : List Int} {h : LgH} {s : LgS} (v : LgV w B q M0 h s) (k : Nat) (hk : inL M0 q h k) : B ≤ k ∧ k < w.heap.size := by
  rcases hk with rfl | hk | hk
  · exact ⟨v.qB, v.Q.lt⟩
  · exact v.co.lt k hk
  · exact v.bk.blk k hk
theorem LgV.keep {w w' : World} {B q : Nat} {M0 : List Int} {h : LgH} {s : LgS} (v : LgV w B q M0 h s) (hs : w.heap.size ≤ w'.heap.size) (hk : ∀ k, inL M0 q h k → w'.heap[k]? = w.heap[k]?) : LgV w' B q M0 h s :=
  ⟨v.Q.keep hs (hk q (.inl rfl)), own_keep v.co (fun k e => hk k (.inr (.inl e))), v.bk.keep hs (fun k e => hk k (.inr (.inr e))), v.qB, v.nq, v.nc⟩
theorem LgV.below {w w' : World} {B q : Nat} {M0 : List Int} {h : LgH} {s : LgS} (v : LgV w B q M0 h s) (hb : Below w.heap.size w w') : LgV w' B q M0 h s := v.keep hb.size (fun k hk => hb.block k (v.blk k hk).2)
theorem LgV.but {w w' : World} {B q : Nat} {M0 : List Int} {h : LgH} {s : LgS} {S : Nat → Prop} (v : LgV w B q M0 h s) (hb : But S w w') (hs : ∀ k, inL M0 q h k → ¬ S k) : LgV w' B q M0 h s := v.keep hb.size (fun k hk => hb.block k (v.blk k hk).2 (hs k hk))
/-- What a step of a log leaves. -/
def LgDid (w w' : World) (B q : Nat) (M0 : List Int) (h : LgH) (s' : LgS) : Prop :=
  ∃ h', LgV w' B q M0 h' s' ∧ (∀ k, inL M0 q h' k → inL M0 q h k ∨ w.heap.size ≤ k) ∧ But (inL M0 q h) w w'
theorem LgDid.same {w w' : World} {B q : Nat} {M0 : List Int} {h : LgH} {s : LgS} (v : LgV w B q M0 h s) (hb : Below w.heap.size w w') : LgDid w w' B q M0 h s := ⟨h, v.below hb, fun k hk => .inl hk, But.of_below hb⟩
/-- A step is one less, if any is left. -/
def dec1 (n : Int) : Int := max (-1) (n - 1)
theorem dec1_bd {n : Int} (h0 : -1 ≤ n) (h1 : n ≤ 9223372036854775807) : -1 ≤ dec1 n ∧ dec1 n ≤ 9223372036854775807 := by unfold dec1; omega
set_option maxHeartbeats 1000000 in
theorem lstep_c (q : Nat) (v0 v1 v2 v3 v5 : Value) (n : Int) (w : World) (hQ : QAt w q v0 v1 v2 v3 (.int .i64 n) v5) (h0 : -1 ≤ n) (h1 : n ≤ 9223372036854775807) :
    Calls Tryz.prog 58 #[.pointer (some ⟨q, 0, none⟩)] w fun e w' => e = .returned (.bool (decide (n = 0))) ∧ QAt w' q v0 v1 v2 v3 (.int .i64 (dec1 n)) (.bool (decide (n = 0))) ∧ But (fun k => k = q) w w' := by
  have hF := (hQ.set5 (.bool (decide (n = 0)))).set4 (.int .i64 (dec1 n))
  have hB := (But.setCell (S := fun k => k = q) (a := w) (p := ⟨q, 5, none⟩) rfl (.bool (decide (n = 0)))).trans (But.setCell (S := fun k => k = q) (p := ⟨q, 4, none⟩) rfl (.int .i64 (dec1 n)))
  obtain ⟨b, hb⟩ : ∃ b, decide (n = 0) = b := ⟨_, rfl⟩
  have hb2 : (n == 0) = b := by rw [← hb]; rfl
  obtain ⟨m, hm⟩ : ∃ m, dec1 n = m := ⟨_, rfl⟩
  have c4 := hQ.c4
  have c5 := hQ.c5
  have f4 := hQ.f 4
  have f5 := hQ.f 5
  have ql := hQ.lt
  rw [hb, hm] at hF hB
  rw [hb, hm]
  replace hF := Lib.hid hF
  replace hB := Lib.hid hB
  clear hQ hb
  go_enter Tryz.func58, Tryz.ntmps58
  go_wp2
  unfold dec1 at hm
  rw [hm]
  go_ret
  exact ⟨rfl, hF.out, hB.out⟩
theorem LgV.bytes_c {w : World} {B q : Nat} {M0 : List Int} {h : LgH} {s : LgS} (v : LgV w B q M0 h s) : Calls Tryz.prog 22 #[.pointer (some ⟨q, 0, none⟩)] w fun e w' => e = .returned (.int .i64 (s.bytes.length : Int)) ∧ w' = w := by
  have c2 := v.Q.c2
  have ql := v.Q.lt
  have hz := bS_size s.bytes
  clear v
  generalize bS s.bytes = S at *
  replace hz := Lib.hid hz
  go_enter Tryz.func22, Tryz.ntmps22
  go_wp2
  go_ret
  exact ⟨by rw [← hz.out]; rfl, rfl⟩
theorem LgV.safe_c {w : World} {B q : Nat} {M0 : List Int} {h : LgH} {s : LgS} (v : LgV w B q M0 h s) : Calls Tryz.prog 23 #[.pointer (some ⟨q, 0, none⟩)] w fun e w' => e = .returned (.int .i64 s.sf) ∧ w' = w := by
  have c3 := v.Q.c3
  have ql := v.Q.lt
  clear v
  go_enter Tryz.func23, Tryz.ntmps23
  go_wp2
  go_ret
  exact ⟨rfl, rfl⟩
/-- A log with other numbers in its block. -/
theorem LgV.put {w w' : World} {B q : Nat} {M0 : List Int} {h : LgH} {s : LgS} (v : LgV w B q M0 h s) (sf lf : Int) (st : Bool) (hQ : QAt w' q (.slice h.ac M0.length h.cc) (.pointer (some ⟨h.p, 0, none⟩)) (.string (bS s.bytes)) (.int .i64 sf) (.int .i64 lf) (.bool st)) (hb : But (fun k => k = q) w w') :
    LgDid w w' B q M0 h { s with sf := sf, lf := lf, st := st } := by
  refine ⟨h, ⟨hQ, own_but v.co hb (fun k e => (v.nc k e).1), v.bk.but hb (fun k hk e => v.nq (e ▸ hk)), v.qB, v.nq, v.nc⟩, fun k hk => .inl hk, ⟨hb.os, hb.tape, hb.output, hb.size, fun k hk hs => hb.block k hk (fun e => hs (.inl e))⟩⟩
theorem LgV.fail_c {w : World} {B q : Nat} {M0 : List Int} {h : LgH} {s : LgS} (v : LgV w B q M0 h s) (n : Int) (hn : n ≤ 9223372036854775807) (hn0 : -9223372036854775808 ≤ n) : Calls Tryz.prog 17 #[.pointer (some ⟨q, 0, none⟩), .int .i64 n] w fun e w' => (∃ u, e = .returned u) ∧ LgDid w w' B q M0 h { s with lf := max (-1) n } := by
  have c4 := v.Q.c4
  have f4 := v.Q.f 4
  have ql := v.Q.lt
  have hF := v.put s.sf (max (-1) n) s.st (v.Q.set4 (.int .i64 (max (-1) n))) (But.setCell (S := fun k => k = q) (p := ⟨q, 4, none⟩) rfl _)
  replace hF := Lib.hid hF
  clear v
  go_enter Tryz.func17, Tryz.ntmps17
  go_wp2
  go_end0
  exact ⟨⟨_, rfl⟩, hF.out⟩
set_option maxHeartbeats 1000000 in
theorem LgV.sync_st {w : World} {B q : Nat} {M0 : List Int} {h : LgH} {s : LgS} (v : LgV w B q M0 h s) (hs : s.st = true) : Calls Tryz.prog 20 #[.pointer (some ⟨q, 0, none⟩)] w fun e w' => e = .returned (errV 6) ∧ LgDid w w' B q M0 h s := by
  have c5 := v.Q.c5
  have ql := v.Q.lt
  rw [hs] at c5
  have hF := LgDid.same v (Below.refl _ _)
  replace hF := Lib.hid hF
  clear v hs
  go_enter Tryz.func20, Tryz.ntmps20
  go_wp2
  go_ret
  exact ⟨rfl, hF.out⟩
set_option maxHeartbeats 1000000 in
theorem LgV.sync_0 {w : World} {B q : Nat} {M0 : List Int} {h : LgH} {s : LgS} (v : LgV w B q M0 h s) (hP : LgP M0 s) (hs : s.st = false) (h0 : s.lf = 0) : Calls Tryz.prog 20 #[.pointer (some ⟨q, 0, none⟩)] w fun e w' =>
    e = .returned (errV 6) ∧ LgDid w w' B q M0 h { s with lf := dec1 s.lf, st := true } := by
  have c5 := v.Q.c5
  have ql := v.Q.lt
  rw [hs] at c5
  have hS := lstep_c q _ _ _ _ _ s.lf w v.Q hP.l0 hP.l1
  rw [decide_eq_true h0] at hS
  replace hS := Lib.hid hS
  have v' := Lib.hid v
  clear v hs hP h0
  go_enter Tryz.func20, Tryz.ntmps20
  go_wp2_with fail
  refine hS.out.mono ?_; rintro e w1 ⟨rfl, hQ, hb⟩
  have hF := Lib.hid (v'.out.put s.sf (dec1 s.lf) true hQ hb)
  clear c5 ql hb hQ
  go_wp2
  go_ret
  exact ⟨rfl, hF.out⟩
set_option maxHeartbeats 1000000 in
theorem LgV.sync_1 {w : World} {B q : Nat} {M0 : List Int} {h : LgH} {s : LgS} (v : LgV w B q M0 h s) (hP : LgP M0 s) (hs : s.st = false) (h0 : s.lf ≠ 0) : Calls Tryz.prog 20 #[.pointer (some ⟨q, 0, none⟩)] w fun e w' =>
    e = .returned .nilIface ∧ LgDid w w' B q M0 h { s with sf := (s.bytes.length : Int), lf := dec1 s.lf, st := false } := by
  have c5 := v.Q.c5
  have ql := v.Q.lt
  rw [hs] at c5
  have hS := lstep_c q _ _ _ _ _ s.lf w v.Q hP.l0 hP.l1
  rw [decide_eq_false h0] at hS
  replace hS := Lib.hid hS
  have v' := Lib.hid v
  clear v hs hP h0
  go_enter Tryz.func20, Tryz.ntmps20
  go_wp2_with fail
  refine hS.out.mono ?_; rintro e w1 ⟨rfl, hQ, hb⟩
  have hz := bS_size s.bytes
  have c2 := hQ.c2
  have c3 := hQ.c3
  have f3 := hQ.f 3
  have ql1 := hQ.lt
  have hF := Lib.hid (v'.out.put (s.bytes.length : Int) (dec1 s.lf) false (hQ.set3 (.int .i64 (s.bytes.length : Int))) (hb.trans (But.setCell (S := fun k => k = q) (p := ⟨q, 3, none⟩) rfl _)))
  rw [← hz] at hF
  clear c5 ql hb hQ hz
  go_wp2
  go_ret
  exact ⟨rfl, by rw [bS_size] at hF; exact hF.out⟩
theorem LgV.live_c {w : World} {B q : Nat} {M0 : List Int} {h : LgH} {s : LgS} (v : LgV w B q M0 h s) (hn : (stN M0 s.ds).length ≤ 1000000) : Calls Tryz.prog 30 #[.pointer (some ⟨q, 0, none⟩)] w fun e w' => ∃ v', e = .returned v' ∧ w'.ownsRow w.heap.size 3 1 v' (liveN (stG M0 s.ds) (stN M0 s.ds).length).length ((liveN (stG M0 s.ds) (stN M0 s.ds).length).map (Value.int .i64)) ∧ Below w.heap.size w w' := by
  have c1 := v.Q.c1
  have ql := v.Q.lt
  have hL := Lib.hid (blive_c (stN M0 s.ds) (stG M0 s.ds) B h.p w ⟨_, _, v.bk⟩ hn)
  clear v
  go_enter Tryz.func30, Tryz.ntmps30
  go_wp2_with fail
  refine hL.out.mono ?_; rintro e w1 ⟨v1, rfl, h1, h2⟩
  go_wp2
  go_ret
  exact ⟨_, rfl, h1, h2⟩
set_option maxHeartbeats 1000000 in
theorem LgV.total_c {w : World} {B q : Nat} {M0 : List Int} {h : LgH} {s : LgS} (v : LgV w B q M0 h s) (hF : FarAt w) (hn : (stN M0 s.ds).length ≤ 1000000) (T : Sp) (hT : Hid (qS (totN (stN M0 s.ds) (stG M0 s.ds) (stN M0 s.ds).length) = T)) : Calls Tryz.prog 24 #[.pointer (some ⟨q, 0, none⟩)] w fun e w' => e = .returned (spV T) ∧ Below w.heap.size w w' := by
  have c1 := v.Q.c1
  have ql := v.Q.lt
  have hb0 := below_alloc w (.cells #[.int .i64 0, .int .i64 0, .bool false] 28)
  have hL := btotal_c (stN M0 s.ds) (stG M0 s.ds) B h.p _ (hF.below hb0) ⟨_, _, v.bk.below hb0⟩ hn
  rw [hT.out] at hL
  replace hL := Lib.hid hL
  have hz := (SpAt.fresh w 0 0 false 28)
  clear v hF hT
  go_enter Tryz.func24, Tryz.ntmps24
  go_wp2_with fail
  refine hL.out.mono ?_; rintro e w1 ⟨rfl, hb1⟩
  obtain ⟨c0, c1', c2, f0, f1, f2, cl⟩ := hz.below hb1
  have hB := below_seq hb0 hb1
  clear hb0 hb1 hz hL c1
  go_wp2
  have kk := set3_cell (w := w1) (x := .int .i64 T.x) (y := .int .i64 T.y) (z := .bool T.far) c0 c1' c2
  refine bodyPost_ret (v := spV T) (by simp [results, Tryz.results24, go_sem, kk.1, kk.2.1, kk.2.2]) rfl ⟨rfl, set3_below hB (Nat.le_refl _)⟩
end Go.Proofs.YtahgaccdeakmcaaGreatDoor
namespace Go.Proofs.YtahgaccdeakmcaaGreatDoor
open Go.RowKit
set_option maxRecDepth 100000
set_option linter.unusedVariables false
set_option linter.unusedSimpArgs false
attribute [local go_sem ↓] Go.wp_at_zero Go.wp_at_succ
set_option maxHeartbeats 4000000 in
theorem lnew_n (n : Nat) (E : Value) (a : Option Addr) (c : Nat) (w : World) (hE : ∃ k, E = .iface 94 (.int .i64 k)) (hN : Calls Tryz.prog 35 #[.slice a n c] w fun e w' => e = .returned (.tuple #[.pointer none, E]) ∧ Below w.heap.size w w') :
    Calls Tryz.prog 16 #[.slice a n c] w fun e w' => e = .returned (.tuple #[.pointer none, E]) ∧ Below w.heap.size w w' := by
  obtain ⟨k, rfl⟩ := hE
  replace hN := Lib.hid hN
  go_enter Tryz.func16, Tryz.ntmps16
  go_wp2_with fail
  refine hN.out.mono ?_; rintro e w1 ⟨rfl, hb1⟩
  go_wp2
  go_ret2
  exact ⟨rfl, hb1⟩
def LgS.new : LgS := ⟨[], [], 0, -1, false⟩
theorem LgP.new {M0 : List Int} (h : M0.length ≤ 12) : LgP M0 LgS.new :=
  ⟨DoneAll.nil M0, h, Nat.zero_le _, fun b hb => absurd hb List.not_mem_nil, Nat.zero_le _, fun _ => rfl, Int.le_refl _, Int.le_refl _, Int.le_refl _, by show (-1 : Int) ≤ _; decide⟩
set_option maxHeartbeats 4000000 in
theorem lnew_y (M0 : List Int) (a : Option Addr) (c : Nat) (w : World) (hn : M0.length ≤ 12) (hF : FarAt w) (hL : 0 < (M0.map qS).length → ∃ b o, a = some ⟨b, o, none⟩ ∧ SpotsAt w b o (M0.map qS)) :
    Calls Tryz.prog 16 #[.slice a M0.length c] w fun e w' => ∃ q h, e = .returned (.tuple #[.pointer (some ⟨q, 0, none⟩), .nilIface]) ∧ LgV w' w.heap.size q M0 h LgS.new ∧ Below w.heap.size w w' := by
  have hN := Lib.hid (bnew_y M0 a c w hn hF hL)
  have hC := Lib.hid (fun (w1 : World) (hb : Below w.heap.size w w1) => cloneS_c (M0.map qS) a c w1 (by rw [List.length_map]; omega) (fun h => by obtain ⟨b, o, e, hs⟩ := hL h; exact ⟨b, o, e, hs.below hb⟩))
  rw [List.length_map] at hC
  clear hL hF
  go_enter Tryz.func16, Tryz.ntmps16
  go_wp2_with fail
  refine hN.out.mono ?_; rintro e w1 ⟨p, rfl, hbk, hb1⟩
  replace hbk := Lib.hid hbk
  have hC1 := Lib.hid (hC.out _ hb1)
  replace hb1 := Lib.hid hb1
  clear hC hN
  go_wp2_with fail
  refine hC1.out.mono ?_; rintro e w2 ⟨v', rfl, hco, hb2⟩
  obtain ⟨ac, cc, rfl⟩ := own_slB hco
  have hB2 := Lib.hid (below_seq hb1.out hb2)
  obtain ⟨vc, vg, hbk1⟩ := hbk.out
  have hbk2 := hbk1.below hb2
  have hz1 := hb1.out.size
  have hz2 := hb2.size
  have hbkb := fun k hk => (hbk1.blk k hk).2
  have hV : LgV (w2.alloc (.cells #[.slice ac M0.length cc, .pointer (some ⟨p, 0, none⟩), .string ⟨#[]⟩, .int .i64 0, .int .i64 (-1), .bool false] 98)) w.heap.size w2.heap.size M0 ⟨ac, cc, p, vc, vg⟩ LgS.new := by
    refine ⟨⟨by go_simp, by go_simp, by go_simp; rfl, by go_simp; rfl, by go_simp; rfl, by go_simp; rfl, fun o => by simp, by simp⟩, own_base (hco.alloc _) (by omega), hbk2.below (below_alloc w2 _), by omega, fun h => ?_, fun k hk => ⟨?_, fun h => ?_⟩⟩
    · have := hbkb _ h; omega
    · have := (hco.lt k hk).2; omega
    · have := hbkb _ h; have := (hco.lt k hk).1; omega
  replace hV := Lib.hid hV
  clear hbkb hbk1 hbk2 hco hb2 hbk hC1
  go_wp2
  go_ret2
  exact ⟨_, _, rfl, hV.out, balloc hB2.out _⟩
/-- A log with another record. -/
theorem bS_half (R : List UInt8) (h : R.length ≤ 20000) : (bS R).extract 0 (R.length / 2) = bS (R.take (R.length / 2)) := bS_extract _ _ _ _ (by simp)
theorem DlAt.fresh2 (w : World) (g n : Value) (r : Sp) (s : Int) (t : TypeId) : DlAt (w.alloc (.cells #[g, n, .int .i64 r.x, .int .i64 r.y, .bool r.far, .int .i64 s] t)) w.heap.size g n r s := ⟨by simp, by simp, by simp, by simp, by simp, by simp, by simp, by simp, by simp, by simp, by simp, by simp, by simp⟩
theorem But.drew1 {S : Nat → Prop} {a b : World} (h : But S a.drew b) : But S a b := ⟨h.os, h.tape, h.output, h.size, h.block⟩
/-- The book has turned, and nothing else. -/
theorem LgV.book {w w' : World} {B q : Nat} {M0 : List Int} {h : LgH} {s : LgS} {vc' vg' : Value} (v : LgV w B q M0 h s) (hv : BkV w' B h.p vc' vg' (stN M0 s.ds) (stG M0 s.ds)) (hin : ∀ k, inB h.p vc' vg' k → inB h.p h.vc h.vg k ∨ w.heap.size ≤ k) (hb : But (inB h.p h.vc h.vg) w w') : LgDid w w' B q M0 h s := by
  refine ⟨{ h with vc := vc', vg := vg' }, ⟨v.Q.keep hb.size (hb.block q v.Q.lt v.nq), own_but v.co hb (fun k e => (v.nc k e).2), hv, v.qB, fun hq => ?_, fun k hk => ⟨(v.nc k hk).1, fun hq => ?_⟩⟩, fun k hk => ?_, ⟨hb.os, hb.tape, hb.output, hb.size, fun k hk hs => hb.block k hk (fun e => hs (.inr (.inr e)))⟩⟩
  · rcases hin q hq with h1 | h1
    · exact v.nq h1
    · have := v.Q.lt; omega
  · rcases hin k hq with h1 | h1
    · exact (v.nc k hk).2 h1
    · have := (v.co.lt k hk).2; omega
  · rcases hk with h1 | h1 | h1
    · exact .inl (.inl h1)
    · exact .inl (.inr (.inl h1))
    · exact (hin k h1).imp (fun h2 => .inr (.inr h2)) id
/-- Refused: it has stopped. -/
theorem LgV.do_st {w : World} {B q : Nat} {M0 : List Int} {h : LgH} {s : LgS} (v : LgV w B q M0 h s) (hs : s.st = true) (a0 a1 : Option Addr) (n m c0 c1 : Nat) (RS : Sp) (S : Int) :
    Calls Tryz.prog 18 #[.pointer (some ⟨q, 0, none⟩), dlV (.slice a0 n c0) (.slice a1 m c1) RS S] w fun e w' => e = .returned (errV 6) ∧ Below w.heap.size w w' := by
  have c5 := v.Q.c5
  have ql := v.Q.lt
  rw [hs] at c5
  clear v hs
  go_enter Tryz.func18, Tryz.ntmps18
  go_wp2
  go_ret
  exact ⟨rfl, below_alloc _ _⟩
set_option maxHeartbeats 4000000 in
/-- Refused by the book. -/
theorem LgV.do_no {w : World} {B q : Nat} {M0 : List Int} {h : LgH} {s : LgS} (v : LgV w B q M0 h s) (hs : s.st = false) (a0 a1 : Option Addr) (n m c0 c1 : Nat) (RS : Sp) (S E : Int) (hE : E ≠ 0)
    (hD : ∀ w1, Below w.heap.size w w1 → Calls Tryz.prog 38 #[.pointer (some ⟨h.p, 0, none⟩), dlV (.slice a0 n c0) (.slice a1 m c1) RS S] w1 fun e w' => e = .returned (errV E) ∧ Did w1 w' B h.p h.vc h.vg (stN M0 s.ds) (stG M0 s.ds)) :
    Calls Tryz.prog 18 #[.pointer (some ⟨q, 0, none⟩), dlV (.slice a0 n c0) (.slice a1 m c1) RS S] w fun e w' => e = .returned (errV E) ∧ LgDid w w' B q M0 h s := by
  have c5 := v.Q.c5
  have c1' := v.Q.c1
  have ql := v.Q.lt
  have hw0 := v.bk.blk h.p (.inl rfl)
  rw [hs] at c5
  rw [errVB_ne hE] at hD ⊢
  have kD := Lib.hid hD
  have v' := Lib.hid v
  have hb0 := Lib.hid (below_alloc w (.cells #[.slice a0 n c0, .slice a1 m c1, .int .i64 RS.x, .int .i64 RS.y, .bool RS.far, .int .i64 S] 46))
  clear v hs hE hD
  have hdn : ¬ inB h.p h.vc h.vg w.heap.size := fun h1 => by have := (v'.out.bk.blk _ h1).2; omega
  have hDl := Lib.hid (DlAt.fresh2 w (.slice a0 n c0) (.slice a1 m c1) RS S 46)
  go_enter Tryz.func18, Tryz.ntmps18
  go_upto_region 3 with fail
  go_cut [5] from 13 to 18 (fun s5 wx => s5 = .iface 94 (.int .i64 E) ∧ (∃ vc' vg', BkV wx B h.p vc' vg' (stN M0 s.ds) (stG M0 s.ds) ∧ (∀ k, inB h.p vc' vg' k → inB h.p h.vc h.vg k ∨ w.heap.size ≤ k) ∧ But (inB h.p h.vc h.vg) w wx) ∧ DlAt wx w.heap.size (.slice a0 n c0) (.slice a1 m c1) RS S)
  case first =>
    go_region_with (first | (go_at_call 38; refine (kD.out _ (by repeat (with_reducible first | exact Below.refl _ _ | exact hb0.out | refine balloc ?_ _ | refine Below.drew ?_))).mono ?_; rintro e w2 ⟨rfl, vc', vg', hv2, hin2, hbt2⟩) | fail)
    all_goals
      go_wp2_with fail
      go_meet
      exact ⟨rfl, ⟨vc', vg', hv2, fun k hk => (hin2 k hk).imp id (fun h1 => Nat.le_trans hb0.out.size h1), (But.of_below hb0.out).trans (But.drew1 hbt2)⟩, hDl.out.keep hbt2.size (hbt2.block _ (by show w.heap.size < _; simp) hdn)⟩
  case rest =>
  obtain ⟨rfl, ⟨vc', vg', hv2, hin2, hbt2⟩, hDl2⟩ := hcut
  obtain ⟨w2, hw2⟩ : ∃ x, x = wc := ⟨_, rfl⟩
  subst hw2
  clear hDl kD
  have hF := Lib.hid (v'.out.book hv2 hin2 hbt2)
  clear hDl2 hv2 hin2 hbt2
  go_wp2
  go_ret
  exact ⟨rfl, hF.out⟩
/-- The book has turned; a new string; the log's block. -/
theorem LgV.did2 {w w2 w3 w5 : World} {B q : Nat} {M0 : List Int} {h : LgH} {s s' : LgS} {vc' vg' : Value} (v : LgV w B q M0 h s) (hv : BkV w2 B h.p vc' vg' (stN M0 s'.ds) (stG M0 s'.ds)) (hin : ∀ k, inB h.p vc' vg' k → inB h.p h.vc h.vg k ∨ w.heap.size ≤ k) (hb : But (inB h.p h.vc h.vg) w w2) (hb3 : Below w2.heap.size w2 w3) (hb5 : But (fun k => k = q) w3 w5)
    (hQ : QAt w5 q (.slice h.ac M0.length h.cc) (.pointer (some ⟨h.p, 0, none⟩)) (.string (bS s'.bytes)) (.int .i64 s'.sf) (.int .i64 s'.lf) (.bool s'.st)) : LgDid w w5 B q M0 h s' := by
  have nq : ¬ inB h.p vc' vg' q := fun hq => by
    rcases hin q hq with h1 | h1
    · exact v.nq h1
    · have := v.Q.lt; omega
  have nc : ∀ k, (Value.slice h.ac M0.length h.cc).ownBlock = some k → ¬ inB h.p vc' vg' k := fun k hk hq => by
    rcases hin k hq with h1 | h1
    · exact (v.nc k hk).2 h1
    · have := (v.co.lt k hk).2; omega
  have hv3 := hv.below hb3
  have co3 := own_below (own_but v.co hb (fun k e => (v.nc k e).2)) hb3
  have hbT : But (inL M0 q h) w w5 := by
    refine (But.trans (b := w3) ?_ ?_)
    · exact ⟨hb3.os.trans hb.os, hb3.tape.trans hb.tape, hb3.output.trans hb.output, Nat.le_trans hb.size hb3.size, fun k hk hs => (hb3.block k (Nat.lt_of_lt_of_le hk hb.size)).trans (hb.block k hk (fun e => hs (.inr (.inr e))))⟩
    · exact ⟨hb5.os, hb5.tape, hb5.output, hb5.size, fun k hk hs => hb5.block k hk (fun e => hs (.inl e))⟩
  refine ⟨{ h with vc := vc', vg := vg' }, ⟨hQ, own_but co3 hb5 (fun k e => (v.nc k e).1), hv3.but hb5 (fun k hk e => nq (e ▸ hk)), v.qB, nq, fun k hk => ⟨(v.nc k hk).1, nc k hk⟩⟩, fun k hk => ?_, hbT⟩
  rcases hk with h1 | h1 | h1
  · exact .inl (.inl h1)
  · exact .inl (.inr (.inl h1))
  · exact (hin k h1).imp (fun h2 => .inr (.inr h2)) id
/-- Another book in its place. -/
theorem LgV.did3 {w w4 w6 : World} {B q p' : Nat} {M0 : List Int} {h : LgH} {s s' : LgS} {vc2 vg2 : Value} (v : LgV w B q M0 h s) (hb4 : But (inL M0 q h) w w4) (hco : w4.ownsRow B 28 3 (.slice h.ac M0.length h.cc) M0.length (spCells (M0.map qS))) {w5 : World}
    (hv5 : BkV w5 w4.heap.size p' vc2 vg2 (stN M0 s'.ds) (stG M0 s'.ds)) (hb6 : But (fun k => k = q) w4 w6) (hq4 : q < w4.heap.size) (hBw : B ≤ w4.heap.size) (hQ : QAt w6 q (.slice h.ac M0.length h.cc) (.pointer (some ⟨p', 0, none⟩)) (.string (bS s'.bytes)) (.int .i64 s'.sf) (.int .i64 s'.lf) (.bool s'.st)) (h56 : w5.heap.size ≤ w6.heap.size) (hk56 : ∀ k, k ≠ q → w6.heap[k]? = w5.heap[k]?) : LgDid w w6 B q M0 h s' := by
  have hnq : ¬ inB p' vc2 vg2 q := fun e => by have := (hv5.blk _ e).1; omega
  refine ⟨⟨h.ac, h.cc, p', vc2, vg2⟩, ⟨hQ, own_but hco hb6 (fun k e => (v.nc k e).1), (hv5.keep h56 (fun k hk => hk56 k (fun e => hnq (e ▸ hk)))).base hBw, v.qB, hnq, fun k hk => ⟨(v.nc k hk).1, fun e => ?_⟩⟩, fun k hk => ?_, hb4.trans (hb6.mono fun k _ hk => .inl hk)⟩
  · have := (hv5.blk _ e).1; have := (hco.lt k hk).2; omega
  · rcases hk with h1 | h1 | h1
    · exact .inl (.inl h1)
    · exact .inl (.inr (.inl h1))
    · exact .inr (Nat.le_trans hb4.size (hv5.blk _ h1).1)
/-- The listed variables lie as they should, whatever is written from B on. -/
def Glo (B : Nat) (w : World) : Prop := ∀ w1, Below B w w1 → FarAt w1 ∧ AscAt w1 ∧ TenAt w1
theorem Glo.below {B : Nat} {w w' : World} (h : Glo B w) (hb : Below B w w') : Glo B w' := fun w1 h1 => h w1 (hb.trans h1)
theorem Glo.of {B : Nat} {e w : World} (h1 : FarAt e) (h2 : AscAt e) (h3 : TenAt e) (hb : Below e.heap.size e w) (hB : e.heap.size ≤ B) : Glo B w := fun w1 h => by
  have := hb.trans (h.mono hB)
  exact ⟨h1.below this, h2.below this, h3.below this⟩
def LgS.done (s : LgS) (d : Rec) : LgS := ⟨s.ds ++ [d], [], s.sf, dec1 s.lf, false⟩
def LgS.halt (s : LgS) (d : Rec) : LgS := ⟨s.ds, (recX d).take ((recX d).length / 2), s.sf, dec1 s.lf, true⟩
theorem recsB_snoc (ds : List Rec) (d : Rec) : (recsB (ds ++ [d])).flatten = (recsB ds).flatten ++ recX d := by unfold recsB; rw [List.map_append, List.flatten_append]; simp
theorem LgP.bytes0 {M0 : List Int} {s : LgS} (h : LgP M0 s) (hs : s.st = false) : s.bytes = (recsB s.ds).flatten := by unfold LgS.bytes; rw [h.h0 hs, List.append_nil]
set_option maxHeartbeats 8000000 in
theorem LgV.do_y {w : World} {B q : Nat} {M0 : List Int} {h : LgH} {s : LgS} (v : LgV w B q M0 h s) (hP : LgP M0 s) (hB : B ≤ w.heap.size) (hg : Glo B w) (hs : s.st = false) (d : Rec) (hd : Done (stN M0 s.ds) (stG M0 s.ds) d) (a0 a1 : Option Addr) (c0 c1 : Nat)
    (hI : IntSl w (.slice a0 d.gl.length c0) d.G) (hIn : 0 < d.gl.length → ∀ b o, a0 = some ⟨b, o, none⟩ → ¬ inL M0 q h b) (hS : 0 < d.M.length → ∃ b o, a1 = some ⟨b, o, none⟩ ∧ SpotsAt w b o (d.M.map qS) ∧ ¬ inL M0 q h b)
    (hD : ∀ w1, Below w.heap.size w w1 → Calls Tryz.prog 38 #[.pointer (some ⟨h.p, 0, none⟩), dlV (.slice a0 d.gl.length c0) (.slice a1 d.M.length c1) d.R (d.s : Int)] w1 fun e w' => e = .returned .nilIface ∧ Did w1 w' B h.p h.vc h.vg (stN M0 (s.ds ++ [d])) (stG M0 (s.ds ++ [d]))) (h0 : s.lf ≠ 0) :
    Calls Tryz.prog 18 #[.pointer (some ⟨q, 0, none⟩), dlV (.slice a0 d.gl.length c0) (.slice a1 d.M.length c1) d.R (d.s : Int)] w fun e w' => e = .returned .nilIface ∧ LgDid w w' B q M0 h (s.done d) := by
  have hby := Lib.hid (hP.bytes0 hs)
  have hst0 := Lib.hid hs
  have hlB := hP.len
  have c5 := v.Q.c5
  have c1' := v.Q.c1
  have ql := v.Q.lt
  have hw0 := v.bk.blk h.p (.inl rfl)
  rw [hs] at c5
  have kD := Lib.hid hD
  have v' := Lib.hid v
  have ok := Lib.hid hd.ok
  have hst := lstep_c
  have hb0 := Lib.hid (below_alloc w (.cells #[.slice a0 d.gl.length c0, .slice a1 d.M.length c1, .int .i64 d.R.x, .int .i64 d.R.y, .bool d.R.far, .int .i64 (d.s : Int)] 46))
  have hI' : Hid (∀ w', But (inB h.p h.vc h.vg) w w' → IntSl w' (.slice a0 d.gl.length c0) d.G) := Lib.hid fun w' hb => by
    obtain ⟨a, c, e, hx⟩ := hI
    refine ⟨a, c, e, fun h0 => ?_⟩
    obtain ⟨b, o, rfl, hi⟩ := hx h0
    simp only [Value.slice.injEq] at e
    exact ⟨b, o, rfl, hi.but hb (fun hk => hIn (by have := h0; unfold Rec.G at this; rw [List.length_map] at this; exact this) b o e.1 (.inr (.inr hk)))⟩
  have hS' : Hid (∀ w', But (inB h.p h.vc h.vg) w w' → 0 < d.M.length → ∃ b o, a1 = some ⟨b, o, none⟩ ∧ SpotsAt w' b o (d.M.map qS)) := Lib.hid fun w' hb h0 => by
    obtain ⟨b, o, e, hsp, hn⟩ := hS h0
    exact ⟨b, o, e, hsp.but hb (fun hk => hn (.inr (.inr hk)))⟩
  obtain ⟨n, hn⟩ : ∃ n, d.gl.length = n := ⟨_, rfl⟩
  obtain ⟨m, hm⟩ : ∃ m, d.M.length = m := ⟨_, rfl⟩
  rw [hn, hm] at kD hb0
  rw [hn] at hI'
  rw [hn, hm]
  replace hn := Lib.hid hn
  replace hm := Lib.hid hm
  replace hP := Lib.hid hP
  replace hg := Lib.hid hg
  clear v hs hD hI hIn hS hst hd
  replace h0 := Lib.hid h0
  have hdn : ¬ inB h.p h.vc h.vg w.heap.size := fun h1 => by have := (v'.out.bk.blk _ h1).2; omega
  have hDl := Lib.hid (DlAt.fresh2 w (.slice a0 n c0) (.slice a1 m c1) d.R (d.s : Int) 46)
  go_enter Tryz.func18, Tryz.ntmps18
  go_upto_region 3 with fail
  go_cut [5] from 13 to 18 (fun s5 wx => s5 = .nilIface ∧ (∃ vc' vg', BkV wx B h.p vc' vg' (stN M0 (s.ds ++ [d])) (stG M0 (s.ds ++ [d])) ∧ (∀ k, inB h.p vc' vg' k → inB h.p h.vc h.vg k ∨ w.heap.size ≤ k) ∧ But (inB h.p h.vc h.vg) w wx) ∧ DlAt wx w.heap.size (.slice a0 n c0) (.slice a1 m c1) d.R (d.s : Int))
  case first =>
    go_region_with (first | (go_at_call 38; refine (kD.out _ (by repeat (with_reducible first | exact Below.refl _ _ | exact hb0.out | refine balloc ?_ _ | refine Below.drew ?_))).mono ?_; rintro e w2 ⟨rfl, vc', vg', hv2, hin2, hbt2⟩) | fail)
    all_goals
      go_wp2_with fail
      go_meet
      exact ⟨rfl, ⟨vc', vg', hv2, fun k hk => (hin2 k hk).imp id (fun h1 => Nat.le_trans hb0.out.size h1), (But.of_below hb0.out).trans (But.drew1 hbt2)⟩, hDl.out.keep hbt2.size (hbt2.block _ (by show w.heap.size < _; simp) hdn)⟩
  case rest =>
  obtain ⟨rfl, ⟨vc', vg', hv2, hin2, hbt2⟩, hDl2⟩ := hcut
  obtain ⟨w2, hw2⟩ : ∃ x, x = wc := ⟨_, rfl⟩
  subst hw2
  clear hDl kD
  have hBw : Below B w w2 := hbt2.below hB (fun k hk => (v'.out.bk.blk k hk).1)
  have hQ2 := v'.out.Q.keep hbt2.size (hbt2.block q ql v'.out.nq)
  have hz2 := hbt2.size
  have hRc := Lib.hid (lrec_c d.gl d.M d.R d.s a0 a1 c0 c1 w2 (hg.out w2 hBw).2.2 ok.out.g1 ok.out.gb ok.out.m ok.out.o ok.out.s1 (by rw [hn.out]; exact hI'.out w2 hbt2) (by exact hS'.out w2 hbt2))
  rw [hn.out, hm.out] at hRc
  have hrx : recD d.gl d.M d.R d.s = recX d := rfl
  rw [hrx] at hRc
  have hrl := ok.out.len
  obtain ⟨d0, d1, d2, d3, d4, d5, -, -, -, -, -, -, dl⟩ := hDl2
  replace hv2 := Lib.hid hv2
  replace hin2 := Lib.hid hin2
  replace hbt2 := Lib.hid hbt2
  replace hQ2 := Lib.hid hQ2
  replace hBw := Lib.hid hBw
  go_wp2_with fail
  refine hRc.out.mono ?_; rintro e w3 ⟨rfl, hb3⟩
  have hQ3 := hQ2.out.below hb3
  have hSt := Lib.hid (lstep_c q _ _ _ _ _ s.lf w3 hQ3 hP.out.l0 hP.out.l1)
  replace hb3 := Lib.hid hb3
  clear d0 d1 d2 d3 d4 d5 dl hRc
  rw [decide_eq_false h0.out] at hSt
  go_wp2_with fail
  refine hSt.out.mono ?_; rintro e w4 ⟨rfl, hQ4, hb4⟩
  have hz3 := hb3.out.size
  have hz4 := hb4.size
  have c2 := hQ4.c2
  have f2 := hQ4.f 2
  have ql4 := hQ4.lt
  have hQ5 := hQ4.set2 (.string (bS s.bytes ++ bS (recX d)))
  have e5 : bS s.bytes ++ bS (recX d) = bS (s.done d).bytes := by
    rw [bS_app]; unfold LgS.done LgS.bytes; rw [recsB_snoc]
    have := hP.out.h0 hst0.out
    rw [this]; simp
  have zb : ¬ (9223372036854775807 < (bS s.bytes).size + (bS (recX d)).size) := by rw [bS_size, bS_size]; omega
  have hbq : But (fun k => k = q) w3 (w4.setCell ⟨q, 2, none⟩ (.string (bS s.bytes ++ bS (recX d)))) := hb4.trans (But.setCell (S := fun k => k = q) (p := ⟨q, 2, none⟩) rfl _)
  have hFin := Lib.hid (v'.out.did2 (s' := s.done d) hv2.out hin2.out hbt2.out hb3.out hbq (by rw [← e5]; exact hQ5))
  replace e5 := Lib.hid e5
  clear hQ4 hQ5 hb4 hbq hSt
  generalize bS s.bytes = S1 at *
  generalize bS (recX d) = S2 at *
  go_wp2
  go_ret
  exact ⟨rfl, hFin.out⟩
theorem LgV.coins {w : World} {B q : Nat} {M0 : List Int} {h : LgH} {s : LgS} (v : LgV w B q M0 h s) : 0 < (M0.map qS).length → ∃ b o, h.ac = some ⟨b, o, none⟩ ∧ SpotsAt w b o (M0.map qS) := fun h0 => by
  obtain ⟨b, o, e, hs, -⟩ := own_lieS v.co (by rw [List.length_map]) h0
  exact ⟨b, o, e, hs⟩
set_option maxHeartbeats 8000000 in
theorem LgV.do_0 {w : World} {B q : Nat} {M0 : List Int} {h : LgH} {s : LgS} (v : LgV w B q M0 h s) (hP : LgP M0 s) (hB : B ≤ w.heap.size) (hg : Glo B w) (hs : s.st = false) (d : Rec) (hd : Done (stN M0 s.ds) (stG M0 s.ds) d) (a0 a1 : Option Addr) (c0 c1 : Nat)
    (hI : IntSl w (.slice a0 d.gl.length c0) d.G) (hIn : 0 < d.gl.length → ∀ b o, a0 = some ⟨b, o, none⟩ → ¬ inL M0 q h b) (hS : 0 < d.M.length → ∃ b o, a1 = some ⟨b, o, none⟩ ∧ SpotsAt w b o (d.M.map qS) ∧ ¬ inL M0 q h b)
    (hD : ∀ w1, Below w.heap.size w w1 → Calls Tryz.prog 38 #[.pointer (some ⟨h.p, 0, none⟩), dlV (.slice a0 d.gl.length c0) (.slice a1 d.M.length c1) d.R (d.s : Int)] w1 fun e w' => e = .returned .nilIface ∧ Did w1 w' B h.p h.vc h.vg (stN M0 (s.ds ++ [d])) (stG M0 (s.ds ++ [d]))) (h0 : s.lf = 0) :
    Calls Tryz.prog 18 #[.pointer (some ⟨q, 0, none⟩), dlV (.slice a0 d.gl.length c0) (.slice a1 d.M.length c1) d.R (d.s : Int)] w fun e w' => e = .returned (errV 6) ∧ LgDid w w' B q M0 h (s.halt d) := by
  have hby := Lib.hid (hP.bytes0 hs)
  have hst0 := Lib.hid hs
  have hlB := hP.len
  have c5 := v.Q.c5
  have c1' := v.Q.c1
  have ql := v.Q.lt
  have hw0 := v.bk.blk h.p (.inl rfl)
  rw [hs] at c5
  have kD := Lib.hid hD
  have v' := Lib.hid v
  have ok := Lib.hid hd.ok
  have hst := lstep_c
  have hb0 := Lib.hid (below_alloc w (.cells #[.slice a0 d.gl.length c0, .slice a1 d.M.length c1, .int .i64 d.R.x, .int .i64 d.R.y, .bool d.R.far, .int .i64 (d.s : Int)] 46))
  have hI' : Hid (∀ w', But (inB h.p h.vc h.vg) w w' → IntSl w' (.slice a0 d.gl.length c0) d.G) := Lib.hid fun w' hb => by
    obtain ⟨a, c, e, hx⟩ := hI
    refine ⟨a, c, e, fun h0 => ?_⟩
    obtain ⟨b, o, rfl, hi⟩ := hx h0
    simp only [Value.slice.injEq] at e
    exact ⟨b, o, rfl, hi.but hb (fun hk => hIn (by have := h0; unfold Rec.G at this; rw [List.length_map] at this; exact this) b o e.1 (.inr (.inr hk)))⟩
  have hS' : Hid (∀ w', But (inB h.p h.vc h.vg) w w' → 0 < d.M.length → ∃ b o, a1 = some ⟨b, o, none⟩ ∧ SpotsAt w' b o (d.M.map qS)) := Lib.hid fun w' hb h0 => by
    obtain ⟨b, o, e, hsp, hn⟩ := hS h0
    exact ⟨b, o, e, hsp.but hb (fun hk => hn (.inr (.inr hk)))⟩
  obtain ⟨n, hn⟩ : ∃ n, d.gl.length = n := ⟨_, rfl⟩
  obtain ⟨m, hm⟩ : ∃ m, d.M.length = m := ⟨_, rfl⟩
  rw [hn, hm] at kD hb0
  rw [hn] at hI'
  rw [hn, hm]
  replace hn := Lib.hid hn
  replace hm := Lib.hid hm
  replace hP := Lib.hid hP
  replace hg := Lib.hid hg
  clear v hs hD hI hIn hS hst hd
  replace h0 := Lib.hid h0
  have hdn : ¬ inB h.p h.vc h.vg w.heap.size := fun h1 => by have := (v'.out.bk.blk _ h1).2; omega
  have hDl := Lib.hid (DlAt.fresh2 w (.slice a0 n c0) (.slice a1 m c1) d.R (d.s : Int) 46)
  go_enter Tryz.func18, Tryz.ntmps18
  go_upto_region 3 with fail
  go_cut [5] from 13 to 18 (fun s5 wx => s5 = .nilIface ∧ (∃ vc' vg', BkV wx B h.p vc' vg' (stN M0 (s.ds ++ [d])) (stG M0 (s.ds ++ [d])) ∧ (∀ k, inB h.p vc' vg' k → inB h.p h.vc h.vg k ∨ w.heap.size ≤ k) ∧ But (inB h.p h.vc h.vg) w wx) ∧ DlAt wx w.heap.size (.slice a0 n c0) (.slice a1 m c1) d.R (d.s : Int))
  case first =>
    go_region_with (first | (go_at_call 38; refine (kD.out _ (by repeat (with_reducible first | exact Below.refl _ _ | exact hb0.out | refine balloc ?_ _ | refine Below.drew ?_))).mono ?_; rintro e w2 ⟨rfl, vc', vg', hv2, hin2, hbt2⟩) | fail)
    all_goals
      go_wp2_with fail
      go_meet
      exact ⟨rfl, ⟨vc', vg', hv2, fun k hk => (hin2 k hk).imp id (fun h1 => Nat.le_trans hb0.out.size h1), (But.of_below hb0.out).trans (But.drew1 hbt2)⟩, hDl.out.keep hbt2.size (hbt2.block _ (by show w.heap.size < _; simp) hdn)⟩
  case rest =>
  obtain ⟨rfl, ⟨vc', vg', hv2, hin2, hbt2⟩, hDl2⟩ := hcut
  obtain ⟨w2, hw2⟩ : ∃ x, x = wc := ⟨_, rfl⟩
  subst hw2
  clear hDl kD
  have hBw : Below B w w2 := hbt2.below hB (fun k hk => (v'.out.bk.blk k hk).1)
  have hQ2 := v'.out.Q.keep hbt2.size (hbt2.block q ql v'.out.nq)
  have hz2 := hbt2.size
  have hRc := Lib.hid (lrec_c d.gl d.M d.R d.s a0 a1 c0 c1 w2 (hg.out w2 hBw).2.2 ok.out.g1 ok.out.gb ok.out.m ok.out.o ok.out.s1 (by rw [hn.out]; exact hI'.out w2 hbt2) (by exact hS'.out w2 hbt2))
  rw [hn.out, hm.out] at hRc
  have hrx : recD d.gl d.M d.R d.s = recX d := rfl
  rw [hrx] at hRc
  have hrl := ok.out.len
  obtain ⟨d0, d1, d2, d3, d4, d5, -, -, -, -, -, -, dl⟩ := hDl2
  replace hv2 := Lib.hid hv2
  replace hin2 := Lib.hid hin2
  replace hbt2 := Lib.hid hbt2
  replace hQ2 := Lib.hid hQ2
  replace hBw := Lib.hid hBw
  go_wp2_with fail
  refine hRc.out.mono ?_; rintro e w3 ⟨rfl, hb3⟩
  have hQ3 := hQ2.out.below hb3
  have hSt := Lib.hid (lstep_c q _ _ _ _ _ s.lf w3 hQ3 hP.out.l0 hP.out.l1)
  replace hb3 := Lib.hid hb3
  clear d0 d1 d2 d3 d4 d5 dl hRc
  rw [decide_eq_true h0.out] at hSt
  have hco3 := own_below (own_but v'.out.co hbt2.out (fun k e => (v'.out.nc k e).2)) hb3.out
  go_wp2_with fail
  refine hSt.out.mono ?_; rintro e w4 ⟨rfl, hQ4, hb4⟩
  have hz3 := hb3.out.size
  have hz4 := hb4.size
  have hB4 : Below B w w4 := (hBw.out.trans (hb3.out.mono (by omega))).trans (hb4.below (by omega) (fun k hk => by have := v'.out.qB; omega))
  have hco4 := own_but hco3 hb4 (fun k e => (v'.out.nc k e).1)
  have hL4 : 0 < (M0.map qS).length → ∃ b o, h.ac = some ⟨b, o, none⟩ ∧ SpotsAt w4 b o (M0.map qS) := fun h0 => by
    obtain ⟨b, o, e, hs, -⟩ := own_lieS hco4 (by rw [List.length_map]) h0
    exact ⟨b, o, e, hs⟩
  have hQ4' := hQ4
  rw [hby.out] at hQ4'
  have c2 := hQ4'.c2
  have ql4 := hQ4.lt
  have hRd := Lib.hid (lredo_c M0 s.ds hP.out.all hP.out.m (by have := hP.out.n; omega) q h.ac h.cc _ _ _ _ _ w4 (hg.out w4 hB4).1 (hg.out w4 hB4).2.1 hQ4' hL4)
  replace hco4 := Lib.hid hco4
  replace hB4 := Lib.hid hB4
  replace hb4 := Lib.hid hb4
  clear hSt hL4 hQ4 hQ4' hco3
  go_wp2_with fail
  refine hRd.out.mono ?_; rintro e w5 ⟨rfl, p', vc2, vg2, hQ5, hv5, hb5⟩
  have hz5 := hb5.size
  have hbytes : (recsB s.ds).flatten.length ≤ 20000 * 501 := by have h1 := hby.out; rw [h1] at hlB; exact hlB
  obtain ⟨S1, hS1⟩ : ∃ S1, bS (recsB s.ds).flatten = S1 := ⟨_, rfl⟩
  obtain ⟨S2, hS2⟩ : ∃ S2, bS (recX d) = S2 := ⟨_, rfl⟩
  obtain ⟨S3, hS3⟩ : ∃ S3, bS ((recX d).take ((recX d).length / 2)) = S3 := ⟨_, rfl⟩
  have hx2 : S2.size = (recX d).length := by rw [← hS2, bS_size]
  have hx1 : S1.size = (recsB s.ds).flatten.length := by rw [← hS1, bS_size]
  have hx3 : S3.size ≤ (recX d).length := by rw [← hS3, bS_size, List.length_take]; omega
  have hex : S2.extract 0 (S2.size / 2) = S3 := by rw [← hS2, ← hS3, bS_size]; exact bS_half _ hrl.2
  obtain ⟨H2, hH2⟩ : ∃ H2, S2.size / 2 = H2 := ⟨_, rfl⟩
  have hh2 : H2 ≤ S2.size := by omega
  have hw2 : IntKind.i64.wrap ((S2.size : Int) / 2) = (H2 : Int) := by rw [IntKind.wrap_i64]; omega
  rw [hH2] at hex
  have zb : ¬ (9223372036854775807 < S1.size + S3.size) := by omega
  have c2' := hQ5.c2
  have f2' := hQ5.f 2
  have ql5 := hQ5.lt
  have hQ6 := hQ5.set2 (.string (S1 ++ S3))
  have e6 : S1 ++ S3 = bS (s.halt d).bytes := by rw [← hS1, ← hS3, bS_app]; rfl
  rw [hS1] at c2'
  rw [hS2]
  replace hS1 := Lib.hid hS1
  replace hS2 := Lib.hid hS2
  replace hS3 := Lib.hid hS3
  replace hx1 := Lib.hid hx1
  replace hx2 := Lib.hid hx2
  replace hx3 := Lib.hid hx3
  replace e6 := Lib.hid e6
  replace hH2 := Lib.hid hH2
  clear c2 hRd hbytes
  go_upto_region 9 with fail
  go_region
  have hFin := Lib.hid (v'.out.did3 (s' := s.halt d) (w4 := w4) (w6 := (w5.setCell ⟨q, 2, none⟩ (.string (S1 ++ S3))).drew) ((But.trans (hbt2.out.mono fun k _ hk => .inr (.inr hk)) (But.of_below hb3.out)).trans (hb4.out.mono fun k _ hk => .inl hk)) hco4.out hv5 ((hb5.trans (But.setCell (S := fun k => k = q) (p := ⟨q, 2, none⟩) rfl _)).trans (But.of_below (Below.refl _ _).drew)) (by have := v'.out.Q.lt; omega) (by omega) (by have := (hQ6.below (Below.refl _ _).drew); rw [← e6.out]; exact this) (by simp) (fun k hk => heap_setCell_other w5 ⟨q, 2, none⟩ k _ hk))
  clear hQ5 hQ6 hv5 hb5 hco4 hbt2 hin2 hv2 hb3 hb4
  go_wp2
  go_ret
  exact ⟨rfl, hFin.out⟩
end Go.Proofs.YtahgaccdeakmcaaGreatDoor
namespace Go.Proofs.YtahgaccdeakmcaaGreatDoor
open Go.RowKit
set_option maxRecDepth 100000
set_option linter.unusedVariables false
set_option linter.unusedSimpArgs false
attribute [local go_sem ↓] Go.wp_at_zero Go.wp_at_succ
/-- How far what is left reaches. -/
def cutAt (s : LgS) (keep : Int) : Nat := (s.sf + max 0 (min keep (s.bytes.length - s.sf))).toNat
def LgS.crash (s : LgS) (keep : Int) : LgS :=
  ⟨s.ds.take (keepN (recsB s.ds) (cutAt s keep)), [], ((recsB (s.ds.take (keepN (recsB s.ds) (cutAt s keep)))).flatten.length : Int), -1, false⟩
theorem recsB_take (ds : List Rec) (k : Nat) : recsB (ds.take k) = (recsB ds).take k := by unfold recsB; rw [List.map_take]
set_option maxHeartbeats 16000000 in
theorem LgV.crash_c {w : World} {B q : Nat} {M0 : List Int} {h : LgH} {s : LgS} (v : LgV w B q M0 h s) (hP : LgP M0 s) (hB : B ≤ w.heap.size) (hg : Glo B w) (keep : Int) (hk0 : -9223372036854775808 ≤ keep) (hk1 : keep ≤ 9223372036854775807) :
    Calls Tryz.prog 21 #[.pointer (some ⟨q, 0, none⟩), .int .i64 keep] w fun e w' => (∃ u, e = .returned u) ∧ LgDid w w' B q M0 h (s.crash keep) := by
  obtain ⟨N, hN⟩ : ∃ N, cutAt s keep = N := ⟨_, rfl⟩
  have hlen := hP.len
  have s0 := hP.s0
  have s1 := hP.s1
  have hNi : s.sf + max 0 (min keep ((s.bytes.length : Int) - s.sf)) = (N : Int) := by rw [← hN]; unfold cutAt; omega
  have hNl : N ≤ s.bytes.length := by omega
  obtain ⟨k, hk⟩ : ∃ k, keepN (recsB s.ds) N = k := ⟨_, rfl⟩
  obtain ⟨x1, x2⟩ := crash_cut (recsB s.ds) s.hf N (recsB_line s.ds) hP.nl
  rw [hk, ← recsB_take] at x1 x2
  have hfl : (recsB s.ds).flatten ++ s.hf = s.bytes := rfl
  rw [hfl] at x1 x2
  have hcr : s.crash keep = ⟨s.ds.take k, [], ((recsB (s.ds.take k)).flatten.length : Int), -1, false⟩ := by unfold LgS.crash; rw [hN, hk]
  rw [hcr]
  have hds : (s.ds.take k).length ≤ 1000 := by rw [List.length_take]; have := hP.n; omega
  have hRd := fun (w1 : World) (hb : Below w.heap.size w w1) (h1 : FarAt w1) (h2 : AscAt w1) => lredo_c M0 (s.ds.take k) (hP.all.take k) hP.m hds q h.ac h.cc _ _ _ _ _ w1 h1 h2 (v.Q.below hb) (fun h0 => by obtain ⟨b, o, e, hs⟩ := v.coins h0; exact ⟨b, o, e, hs.below hb⟩)
  obtain ⟨T, hT⟩ : ∃ T, recsB (s.ds.take k) = T := ⟨_, rfl⟩
  rw [hT] at x1 x2 hRd
  obtain ⟨F, hF⟩ : ∃ F, T.flatten = F := ⟨_, rfl⟩
  rw [hF] at x1 x2 hRd
  obtain ⟨S4, hS4⟩ : ∃ S4, bS (s.bytes.take N) = S4 := ⟨_, rfl⟩
  obtain ⟨S5, hS5⟩ : ∃ S5, bS F = S5 := ⟨_, rfl⟩
  obtain ⟨S, hS⟩ : ∃ S, bS s.bytes = S := ⟨_, rfl⟩
  have hSz : S.size = s.bytes.length := by rw [← hS, bS_size]
  have hFl : F.length ≤ s.bytes.length := by
    have := congrArg List.length x2
    rw [List.length_take, List.length_take] at this
    omega
  have h4z : S4.size = (s.bytes.take N).length := by rw [← hS4, bS_size]
  have h4l : F.length ≤ S4.size := by rw [h4z]; have := congrArg List.length x2; rw [List.length_take] at this; omega
  have hx4 : S.extract 0 N = S4 := by rw [← hS, ← hS4]; exact bS_extract _ _ _ _ (by simp)
  have hx5 : S4.extract 0 F.length = S5 := by rw [← hS4, ← hS5]; exact bS_extract _ _ _ _ (by rw [List.drop_zero, Nat.sub_zero]; exact x2)
  obtain ⟨LI, hLI⟩ : ∃ LI, Lib.lastIndex (s.bytes.take N) [10] = LI := ⟨_, rfl⟩
  rw [hLI] at x1
  have hLC := fun w1 : World => Tryz.strings_LastIndex S4 ⟨#[10]⟩ (by rw [h4z, List.length_take]; omega) w1
  have e10 : (⟨#[10]⟩ : ByteArray).data.toList = [10] := rfl
  rw [show S4.data.toList = s.bytes.take N by rw [← hS4, bS_list], e10, hLI] at hLC
  rw [hS5] at hRd
  have c2 := v.Q.c2
  have c3 := v.Q.c3
  have ql := v.Q.lt
  have v' := Lib.hid v
  rw [hS] at c2
  obtain ⟨FL, hFL⟩ : ∃ FL, F.length = FL := ⟨_, rfl⟩
  rw [hFL] at x1 hx5 h4l hFl
  rw [← hSz] at hNi hNl hlen s1 hFl
  have hLb : LI = (FL : Int) - 1 := by omega
  have hSb : S.size ≤ 20000000 := by omega
  have hS4b : S4.size ≤ 20000000 := by rw [h4z, List.length_take]; omega
  have hFLb : FL ≤ 20000000 := by omega
  replace hLb := Lib.hid hLb
  replace hRd := Lib.hid hRd
  replace hLC := Lib.hid hLC
  replace hT := Lib.hid hT
  replace hF := Lib.hid hF
  replace hS := Lib.hid hS
  replace hS4 := Lib.hid hS4
  replace hS5 := Lib.hid hS5
  replace hSz := Lib.hid hSz
  replace h4z := Lib.hid h4z
  replace hFL := Lib.hid hFL
  replace hP := Lib.hid hP
  replace hg := Lib.hid hg
  replace x2 := Lib.hid x2
  clear v hN hk hfl hcr hLI e10 hFl hlen
  go_enter Tryz.func21, Tryz.ntmps21
  go_upto_region 0 with fail
  go_region
  have hbd : Below w.heap.size w w.drew := (Below.refl _ _).drew
  have hgd := hg.out w.drew (Below.refl _ _).drew
  have hRd' := Lib.hid (hRd.out w.drew hbd hgd.1 hgd.2.1)
  clear c2 c3 hRd hbd hgd
  go_wp2_with fail
  refine (hLC.out _).mono ?_; rintro e w1 ⟨rfl, rfl⟩
  go_wp2_with fail
  refine hRd'.out.mono ?_; rintro e w5 ⟨rfl, p', vc2, vg2, hQ5, hv5, hb5⟩
  have hQ6 := (((hQ5.set2 (.string S5)).set3 (.int .i64 (S5.size : Int))).set4 (.int .i64 (-1))).set5 (.bool false)
  have hb6 : But (fun k => k = q) w5 ((((w5.setCell ⟨q, 2, none⟩ (.string S5)).setCell ⟨q, 3, none⟩ (.int .i64 (S5.size : Int))).setCell ⟨q, 4, none⟩ (.int .i64 (-1))).setCell ⟨q, 5, none⟩ (.bool false)) :=
    (((But.setCell (S := fun k => k = q) (p := ⟨q, 2, none⟩) rfl _).trans (But.setCell (S := fun k => k = q) (p := ⟨q, 3, none⟩) rfl _)).trans (But.setCell (S := fun k => k = q) (p := ⟨q, 4, none⟩) rfl _)).trans (But.setCell (S := fun k => k = q) (p := ⟨q, 5, none⟩) rfl _)
  have hkk : ∀ k, k ≠ q → ((((w5.setCell ⟨q, 2, none⟩ (.string S5)).setCell ⟨q, 3, none⟩ (.int .i64 (S5.size : Int))).setCell ⟨q, 4, none⟩ (.int .i64 (-1))).setCell ⟨q, 5, none⟩ (.bool false)).heap[k]? = w5.heap[k]? := fun k hk => by
    rw [heap_setCell_other _ ⟨q, 5, none⟩ k _ hk, heap_setCell_other _ ⟨q, 4, none⟩ k _ hk, heap_setCell_other _ ⟨q, 3, none⟩ k _ hk, heap_setCell_other _ ⟨q, 2, none⟩ k _ hk]
  have eS5 : S5 = bS (LgS.bytes ⟨s.ds.take k, [], (S5.size : Int), -1, false⟩) := by
    unfold LgS.bytes; rw [hT.out, hF.out, List.append_nil, hS5.out]
  have hzS : (S5.size : Int) = (F.length : Int) := by rw [← hS5.out, bS_size]
  have hFin := v'.out.did3 (s' := ⟨s.ds.take k, [], (S5.size : Int), -1, false⟩) (w4 := w.drew) (But.of_below (Below.refl _ _).drew) (own_below v'.out.co (Below.refl _ _).drew) hv5 (hb5.trans hb6) ql hB (by rw [← eS5]; exact hQ6) hb6.size hkk
  have c2 := hQ5.c2
  have c3 := hQ5.c3
  have c4 := hQ5.c4
  have c5 := hQ5.c5
  have f2 := hQ5.f 2
  have f3 := hQ5.f 3
  have f4 := hQ5.f 4
  have f5 := hQ5.f 5
  have ql5 := hQ5.lt
  replace hFin := Lib.hid hFin
  replace hzS := Lib.hid hzS
  clear hQ5 hQ6 hb6 hkk hv5 hb5 eS5 hRd'
  go_wp2
  go_end0
  refine ⟨⟨_, rfl⟩, ?_⟩
  rw [hT.out, hF.out, ← hzS.out]
  exact hFin.out
theorem LgP.done {M0 : List Int} {s : LgS} (h : LgP M0 s) (hs : s.st = false) (hn : s.ds.length < 500) {d : Rec} (hd : Done (stN M0 s.ds) (stG M0 s.ds) d) : LgP M0 (s.done d) := by
  have hb := h.bytes0 hs
  have h1 := h.s1
  have hl := dec1_bd h.l0 h.l1
  refine ⟨h.all.snoc hd, h.m, ?_, fun b hb => absurd hb List.not_mem_nil, Nat.zero_le _, fun _ => rfl, h.s0, ?_, hl.1, hl.2⟩
  · show (s.ds ++ [d]).length ≤ 500
    rw [List.length_append]; simp; omega
  · show s.sf ≤ ((LgS.bytes ⟨s.ds ++ [d], [], s.sf, dec1 s.lf, false⟩).length : Int)
    unfold LgS.bytes at hb ⊢
    rw [h.h0 hs, List.append_nil] at hb
    rw [LgS.bytes, h.h0 hs, List.append_nil] at h1
    rw [List.append_nil, recsB_snoc, List.length_append]
    omega
theorem LgP.halt {M0 : List Int} {s : LgS} (h : LgP M0 s) (hs : s.st = false) {d : Rec} (hd : RecOk d) : LgP M0 (s.halt d) := by
  have h1 := h.s1
  have hl := dec1_bd h.l0 h.l1
  obtain ⟨b, hb, hnl⟩ := recX_line d
  have hlen := hd.len
  refine ⟨h.all, h.m, h.n, fun x hx => ?_, ?_, fun e => (by cases e), h.s0, ?_, hl.1, hl.2⟩
  · have hx' : x ∈ (recX d).take ((recX d).length / 2) := hx
    have h2 : (recX d).length / 2 ≤ b.length := by rw [hb] at hlen ⊢; simp at hlen ⊢; omega
    rw [hb, List.take_append_of_le_length (by rw [← hb]; exact h2)] at hx'
    exact hnl x (List.mem_of_mem_take hx')
  · show ((recX d).take ((recX d).length / 2)).length ≤ 20000
    rw [List.length_take]; omega
  · show s.sf ≤ ((LgS.bytes ⟨s.ds, (recX d).take ((recX d).length / 2), s.sf, dec1 s.lf, true⟩).length : Int)
    unfold LgS.bytes at h1 ⊢
    rw [h.h0 hs, List.append_nil] at h1
    rw [List.length_append]
    dsimp only
    omega
theorem LgP.crash {M0 : List Int} {s : LgS} (h : LgP M0 s) (keep : Int) : LgP M0 (s.crash keep) := by
  refine ⟨h.all.take _, h.m, ?_, fun b hb => absurd hb List.not_mem_nil, Nat.zero_le _, fun _ => rfl, Int.natCast_nonneg _, ?_, by show -1 ≤ (-1 : Int); decide, by show (-1 : Int) ≤ _; decide⟩
  · show (s.ds.take _).length ≤ 500
    rw [List.length_take]; have := h.n; omega
  · show ((recsB (s.ds.take _)).flatten.length : Int) ≤ ((LgS.bytes ⟨s.ds.take _, [], _, -1, false⟩).length : Int)
    unfold LgS.bytes
    rw [List.append_nil]
    exact Int.le_refl _
theorem LgP.nums {M0 : List Int} {s : LgS} (h : LgP M0 s) (sf lf : Int) (st : Bool) (hs : st = false → s.st = false) (h0 : 0 ≤ sf) (h1 : sf ≤ s.bytes.length) (l0 : -1 ≤ lf) (l1 : lf ≤ 9223372036854775807) : LgP M0 { s with sf := sf, lf := lf, st := st } :=
  ⟨h.all, h.m, h.n, h.nl, h.hl, fun e => h.h0 (hs e), h0, h1, l0, l1⟩
theorem LgDid.glo {w w' : World} {B q : Nat} {M0 : List Int} {h : LgH} {s s' : LgS} (hd : LgDid w w' B q M0 h s') (v : LgV w B q M0 h s) (hB : B ≤ w.heap.size) : Below B w w' := by
  obtain ⟨h', -, -, hb⟩ := hd
  exact hb.below hB (fun k hk => (v.blk k hk).1)
end Go.Proofs.YtahgaccdeakmcaaGreatDoor
namespace Go.Proofs.YtahgaccdeakmcaaGreatDoor
open Go.RowKit Go.Extern.Stop Go.Stop Go.Extern
set_option maxRecDepth 100000
set_option linter.unusedVariables false
set_option linter.unusedSimpArgs false
/-- The variable errors.errorType reads as laid. -/
def ErrAt (w : World) : Prop := w.cell? ⟨2, 0, none⟩ = some (.iface 204 (.agg #[.pointer (some ⟨13, 30, none⟩)])) ∧ 2 < w.heap.size
theorem ErrAt.below {w w' : World} (h : ErrAt w) (hb : Below w.heap.size w w') : ErrAt w' := ⟨((bcell hb).1 _ _ h.2).trans h.1, Nat.lt_of_lt_of_le h.2 hb.size⟩
/-! The model's entries for reflectlite, at this program's types. -/
theorem rl_value (t : Addr) (w : World) : (ReflectliteValue.unpack (.iface 127 (.pointer (some t)))).run Tryz.prog w
    = .ok (.agg #[.pointer (some ⟨13, 127, none⟩), .pointer (some ⟨w.heap.size, 0, none⟩), .int .u64 150]) (w.alloc (.cells #[.pointer (some t)] 127)) := by kernel_rfl
theorem rl_type (a : Addr) (w : World) : (ReflectliteValue.methodAny (ReflectliteValue.valueError "reflectlite.Value.Type" 0) (fun t _ _ _ => ReflectliteType.toType t) #[.agg #[.pointer (some ⟨13, 127, none⟩), .pointer (some a), .int .u64 150]]).run Tryz.prog w
    = .ok (.iface 204 (.agg #[.pointer (some ⟨13, 127, none⟩)])) w := by kernel_rfl
theorem rl_kindm (h : Value) (w : World) : (Go.method 403 204 (.agg #[h]) "Kind").run Tryz.prog w = .ok (245, h) w := by kernel_rfl
theorem rl_kind (w : World) : ((ReflectliteType.abiMethod fun t => (fun a : Nat => Value.int IntKind.u8 (a : Int)) <$> Rtype.kind t) #[.pointer (some ⟨13, 127, none⟩)]).run Tryz.prog w = .ok (.int .u8 22) w := by kernel_rfl
theorem rl_kinde (w : World) : ((ReflectliteType.abiMethod fun t => (fun a : Nat => Value.int IntKind.u8 (a : Int)) <$> Rtype.kind t) #[.pointer (some ⟨13, 94, none⟩)]).run Tryz.prog w = .ok (.int .u8 2) w := by kernel_rfl
theorem rl_m (z : Sem Value) (f : TypeId → Addr → Nat → Nat → Sem Value) (v : Value) :
    ReflectliteValue.method z f #[v] = (do match ← ReflectliteValue.parts v with | none => z | some (t, a, fl) => f t a fl (fl % 32)) := rfl
theorem rl_parts (a : Addr) (w : World) : (ReflectliteValue.parts (.agg #[.pointer (some ⟨13, 127, none⟩), .pointer (some a), .int .u64 150])).run Tryz.prog w = .ok (some (127, a, 150)) w := by kernel_rfl
theorem rl_nil (a p : Addr) (W : World) (ha : W.cell? a = some (.pointer (some p))) :
    (ReflectliteValue.method (ReflectliteValue.valueError "reflectlite.Value.IsNil" 0) ReflectliteValue.isNil #[.agg #[.pointer (some ⟨13, 127, none⟩), .pointer (some a), .int .u64 150]]).run Tryz.prog W = .ok (.bool false) W := by
  rw [rl_m]
  simp only [Sem.run_bind, rl_parts, Result.andThen]
  simp [ReflectliteValue.isNil, loadVar, isAgg, underlying, Tryz.underlying127, ha, Result.andThen]
theorem rl_elemm (h : Value) (w : World) : (Go.method 403 204 (.agg #[h]) "Elem").run Tryz.prog w = .ok (256, .agg #[h]) w := by kernel_rfl
theorem rl_implm (h : Value) (w : World) : (Go.method 403 204 (.agg #[h]) "Implements").run Tryz.prog w = .ok (257, .agg #[h]) w := by kernel_rfl
theorem rl_assm (h : Value) (w : World) : (Go.method 403 204 (.agg #[h]) "AssignableTo").run Tryz.prog w = .ok (254, .agg #[h]) w := by kernel_rfl
theorem rl_elem (w : World) : (ReflectliteType.method ReflectliteType.elem #[.agg #[.pointer (some ⟨13, 127, none⟩)]]).run Tryz.prog w = .ok (.iface 204 (.agg #[.pointer (some ⟨13, 94, none⟩)])) w := by kernel_rfl
theorem rl_impl (w : World) : (ReflectliteType.relation "Implements" ReflectliteType.implements_ #[.agg #[.pointer (some ⟨13, 94, none⟩)], .iface 204 (.agg #[.pointer (some ⟨13, 30, none⟩)])]).run Tryz.prog w = .ok (.bool true) w := by kernel_rfl
theorem rl_typeof (v : Value) (w : World) : (ReflectliteType.typeOf #[.iface 94 v]).run Tryz.prog w = .ok (.iface 204 (.agg #[.pointer (some ⟨13, 94, none⟩)])) w := by kernel_rfl
theorem rl_ass (w : World) : (ReflectliteType.relation "AssignableTo" ReflectliteType.assignableTo #[.agg #[.pointer (some ⟨13, 94, none⟩)], .iface 204 (.agg #[.pointer (some ⟨13, 94, none⟩)])]).run Tryz.prog w = .ok (.bool true) w := by kernel_rfl
theorem rl_valuee (k : Int) (w : World) : (ReflectliteValue.unpack (.iface 94 (.int .i64 k))).run Tryz.prog w
    = .ok (.agg #[.pointer (some ⟨13, 94, none⟩), .pointer (some ⟨w.heap.size, 0, none⟩), .int .u64 130]) (w.alloc (.cells #[.int .i64 k] 94)) := by kernel_rfl
theorem rl_elemof (w : World) : (Rtype.elem? 127).run Tryz.prog w = .ok (some 94) w := by kernel_rfl
theorem rl_mk (p : Addr) (w : World) : (ReflectliteValue.mk 94 p ReflectliteValue.flagAddr).run Tryz.prog w = .ok (.agg #[.pointer (some ⟨13, 94, none⟩), .pointer (some p), .int .u64 386]) w := by kernel_rfl
theorem rl_elemv (a p : Addr) (W : World) (ha : W.cell? a = some (.pointer (some p))) :
    (ReflectliteValue.method (ReflectliteValue.valueError "reflectlite.Value.Elem" 0) ReflectliteValue.elem #[.agg #[.pointer (some ⟨13, 127, none⟩), .pointer (some a), .int .u64 150]]).run Tryz.prog W
      = .ok (.agg #[.pointer (some ⟨13, 94, none⟩), .pointer (some p), .int .u64 386]) W := by
  rw [rl_m]
  simp only [Sem.run_bind, rl_parts, Result.andThen]
  simp [ReflectliteValue.elem, loadVar, isAgg, underlying, Tryz.underlying127, ha, Result.andThen, rl_elemof, rl_mk]
theorem rl_s (v x : Value) : ReflectliteValue.set #[v, x] = (do
    let (some (dst, a, fl), some (src, b, _)) := (← ReflectliteValue.parts v, ← ReflectliteValue.parts x)
      | unsupported (.noEntry "extern/(internal/reflectlite.Value).Set.zeroValue")
    if fl / ReflectliteValue.flagAddr % 2 == 0 then unsupported (.noEntry "extern/(internal/reflectlite.Value).Set.unaddressable")
    let val ← loadVar src b
    if ← Rtype.directlyAssignable dst src then storeVar dst a val
    else if ← Rtype.implements dst src then
      if (← Rtype.kind src) == 20 then
        match val with
        | .nilIface => unsupported (.noEntry "extern/reflectlite: a nil value of one interface type handed on as a value of another")
        | _ => storeVar dst a val
      else storeVar dst a (.iface src val)
    else panicString ("reflectlite.Set: value of type " ++ (← Rtype.spelt src) ++ " is not assignable to type " ++ (← Rtype.spelt dst))
    pure (.tuple #[])) := rfl
theorem rl_partsa (a : Addr) (w : World) : (ReflectliteValue.parts (.agg #[.pointer (some ⟨13, 94, none⟩), .pointer (some a), .int .u64 386])).run Tryz.prog w = .ok (some (94, a, 386)) w := by kernel_rfl
theorem rl_partse (a : Addr) (w : World) : (ReflectliteValue.parts (.agg #[.pointer (some ⟨13, 94, none⟩), .pointer (some a), .int .u64 130])).run Tryz.prog w = .ok (some (94, a, 130)) w := by kernel_rfl
theorem rl_direct (w : World) : (Rtype.directlyAssignable 94 94).run Tryz.prog w = .ok true w := by kernel_rfl
theorem rl_set (ta b : Addr) (k : Int) (old : Value) (W : World) (hb : W.cell? b = some (.int .i64 k)) (ht : W.cell? ta = some old) (hf : W.frozen? ta = false) :
    (ReflectliteValue.set #[.agg #[.pointer (some ⟨13, 94, none⟩), .pointer (some ta), .int .u64 386], .agg #[.pointer (some ⟨13, 94, none⟩), .pointer (some b), .int .u64 130]]).run Tryz.prog W
      = .ok (.tuple #[]) (W.setCell ta (.int .i64 k)) := by
  rw [rl_s]
  simp only [Sem.run_bind, rl_partsa, rl_partse, Result.andThen]
  simp [ReflectliteValue.flagAddr, loadVar, isAgg, underlying, Tryz.underlying94, hb, Result.andThen, rl_direct, storeVar, Value.cells, storeCells, Addr.add]
  rw [run_store Tryz.prog W ta _ _ (by rfl)]
  simp [ht, hf]
set_option maxHeartbeats 4000000 in
theorem as_hit (k : Int) (t : Addr) (old : Value) (w : World) (hg : w.cell? ⟨2, 0, none⟩ = some (.iface 204 (.agg #[.pointer (some ⟨13, 30, none⟩)]))) (hgl : 2 < w.heap.size) (ht0 : w.cell? t = some old) (hf0 : w.frozen? t = false) :
    Calls Tryz.prog 83 #[.iface 94 (.int .i64 k), .iface 127 (.pointer (some t))] w fun ev w' => ev = .returned (.bool true) ∧ w' = ((((w.alloc (.cells #[.pointer (some t)] 127)).alloc (.cells #[.pointer (some ⟨13, 127, none⟩), .pointer (some ⟨w.heap.size, 0, none⟩), .int .u64 150] 166)).alloc (.cells #[.pointer (some ⟨13, 127, none⟩), .pointer (some ⟨w.heap.size, 0, none⟩), .int .u64 150] 166)).alloc (.cells #[.int .i64 k] 94)).setCell t (.int .i64 k) := by
  have h6 := @run_callFunc_extern Tryz.prog 131 _ (fun args => ReflectliteValue.unpack (args.getD 0 (.tuple #[]))) Tryz.func131 (by kernel_rfl) (by kernel_rfl) (by kernel_rfl) (by kernel_rfl)
  have h7 := @run_callFunc_extern Tryz.prog 132 _ (ReflectliteValue.methodAny (ReflectliteValue.valueError "reflectlite.Value.Type" 0) (fun t _ _ _ => ReflectliteType.toType t)) Tryz.func132 (by kernel_rfl) (by kernel_rfl) (by kernel_rfl) (by kernel_rfl)
  have h8 := @run_callFunc_extern Tryz.prog 133 _ (ReflectliteValue.method (ReflectliteValue.valueError "reflectlite.Value.IsNil" 0) ReflectliteValue.isNil) Tryz.func133 (by kernel_rfl) (by kernel_rfl) (by kernel_rfl) (by kernel_rfl)
  have h27 := @run_callFunc_extern Tryz.prog 245 _ (ReflectliteType.abiMethod fun t => do pure (.int .u8 (← Rtype.kind t))) Tryz.func245 (by kernel_rfl) (by kernel_rfl) (by kernel_rfl) (by kernel_rfl)
  have h37 := @run_callFunc_extern Tryz.prog 256 _ (ReflectliteType.method ReflectliteType.elem) Tryz.func256 (by kernel_rfl) (by kernel_rfl) (by kernel_rfl) (by kernel_rfl)
  have h38 := @run_callFunc_extern Tryz.prog 257 _ (ReflectliteType.relation "Implements" ReflectliteType.implements_) Tryz.func257 (by kernel_rfl) (by kernel_rfl) (by kernel_rfl) (by kernel_rfl)
  have h10 := @run_callFunc_extern Tryz.prog 175 _ (ReflectliteType.typeOf) Tryz.func175 (by kernel_rfl) (by kernel_rfl) (by kernel_rfl) (by kernel_rfl)
  have h35 := @run_callFunc_extern Tryz.prog 254 _ (ReflectliteType.relation "AssignableTo" ReflectliteType.assignableTo) Tryz.func254 (by kernel_rfl) (by kernel_rfl) (by kernel_rfl) (by kernel_rfl)
  have h11 := @run_callFunc_extern Tryz.prog 176 _ (ReflectliteValue.method (ReflectliteValue.valueError "reflectlite.Value.Elem" 0) ReflectliteValue.elem) Tryz.func176 (by kernel_rfl) (by kernel_rfl) (by kernel_rfl) (by kernel_rfl)
  have h12 := @run_callFunc_extern Tryz.prog 177 _ (ReflectliteValue.set) Tryz.func177 (by kernel_rfl) (by kernel_rfl) (by kernel_rfl) (by kernel_rfl)
  have tO := rl_typeof
  have mA := rl_assm
  have a25 := rl_ass
  have v25 := rl_valuee
  have f6 := rl_value
  have f7 := rl_type
  have mK := rl_kindm
  have mE := rl_elemm
  have mI := rl_implm
  have k27 := rl_kind
  have k25 := rl_kinde
  have e27 := rl_elem
  have i25 := rl_impl
  have n8 := rl_nil ⟨w.heap.size, 0, none⟩ t ((w.alloc (.cells #[.pointer (some t)] 127)).alloc (.cells #[.pointer (some ⟨13, 127, none⟩), .pointer (some ⟨w.heap.size, 0, none⟩), .int .u64 150] 166)) (by simp)
  have hg2 : ((w.alloc (.cells #[.pointer (some t)] 127)).alloc (.cells #[.pointer (some ⟨13, 127, none⟩), .pointer (some ⟨w.heap.size, 0, none⟩), .int .u64 150] 166)).cell? ⟨2, 0, none⟩ = some (.iface 204 (.agg #[.pointer (some ⟨13, 30, none⟩)])) := by
    rw [World.cell?_alloc_lt _ _ ⟨2, 0, none⟩ (by simp; omega), World.cell?_alloc_lt _ _ ⟨2, 0, none⟩ hgl]; exact hg
  have htl : t.block < w.heap.size := by
    rcases Nat.lt_or_ge t.block w.heap.size with h | h
    · exact h
    · simp [World.cell?, Array.getElem?_eq_none h] at ht0
  have el := rl_elemv ⟨w.heap.size, 0, none⟩ t (((w.alloc (.cells #[.pointer (some t)] 127)).alloc (.cells #[.pointer (some ⟨13, 127, none⟩), .pointer (some ⟨w.heap.size, 0, none⟩), .int .u64 150] 166)).alloc (.cells #[.pointer (some ⟨13, 127, none⟩), .pointer (some ⟨w.heap.size, 0, none⟩), .int .u64 150] 166)) (by rw [World.cell?_alloc_lt _ _ ⟨w.heap.size, 0, none⟩ (by simp; omega)]; simp)
  have st := rl_set t ⟨w.heap.size + 1 + 1 + 1, 0, none⟩ k old ((((w.alloc (.cells #[.pointer (some t)] 127)).alloc (.cells #[.pointer (some ⟨13, 127, none⟩), .pointer (some ⟨w.heap.size, 0, none⟩), .int .u64 150] 166)).alloc (.cells #[.pointer (some ⟨13, 127, none⟩), .pointer (some ⟨w.heap.size, 0, none⟩), .int .u64 150] 166)).alloc (.cells #[.int .i64 k] 94))
    (by rw [World.cell?_alloc_at _ _ _ _ (by simp)]; rfl)
    (by rw [World.cell?_alloc_lt _ _ t (by simp; omega), World.cell?_alloc_lt _ _ t (by simp; omega), World.cell?_alloc_lt _ _ t (by simp; omega), World.cell?_alloc_lt _ _ t htl]; exact ht0)
    (by rw [World.frozen?_alloc_old _ _ t (by simp; omega), World.frozen?_alloc_old _ _ t (by simp; omega), World.frozen?_alloc_old _ _ t (by simp; omega), World.frozen?_alloc_old _ _ t (Nat.ne_of_lt htl)]; exact hf0)
  go_enter Tryz.func83, Tryz.ntmps83
  go_wp2
  refine wp_loop_rounds 1 ?_
  rw [rounds_succ]
  go_wp2
  go_ret
  exact ⟨rfl, rfl⟩
/-- An error is told by its number. -/
theorem told_nil (w : World) : Calls Tryz.prog 60 #[.nilIface] w fun e w' => e = .returned (.int .i64 0) ∧ Below w.heap.size w w' := by
  go_enter Tryz.func60, Tryz.ntmps60
  go_wp2
  go_ret
  exact ⟨rfl, (by repeat (first | exact Below.refl _ _ | refine balloc ?_ _ | refine Below.drew ?_ | refine below_drewN ?_ _ | refine below_set ?_ (by first | omega | (dsimp only; omega)) _))⟩
set_option maxHeartbeats 4000000 in
theorem told_err (k : Int) (w : World) (hE : ErrAt w) : Calls Tryz.prog 60 #[.iface 94 (.int .i64 k)] w fun e w' => e = .returned (.int .i64 k) ∧ Below w.heap.size w w' := by
  go_enter Tryz.func60, Tryz.ntmps60
  go_wp2_with fail
  refine (as_hit k ⟨w.heap.size, 0, none⟩ (.int .i64 0) _ (by rw [World.cell?_alloc_lt _ _ ⟨2, 0, none⟩ hE.2]; exact hE.1) (by simp; have := hE.2; omega) (by simp) (by simp)).mono ?_; rintro e w1 ⟨rfl, hw⟩
  have hc : w1.cell? ⟨w.heap.size, 0, none⟩ = some (.int .i64 k) := by
    rw [hw]; refine World.cell?_setCell_same (u := .int .i64 0) _ _ _ ?_
    rw [World.cell?_alloc_lt _ _ ⟨w.heap.size, 0, none⟩ (by simp; omega), World.cell?_alloc_lt _ _ ⟨w.heap.size, 0, none⟩ (by simp; omega), World.cell?_alloc_lt _ _ ⟨w.heap.size, 0, none⟩ (by simp; omega), World.cell?_alloc_lt _ _ ⟨w.heap.size, 0, none⟩ (by simp)]; simp
  have hb : Below w.heap.size w w1 := by
    rw [hw]; exact below_set (balloc (balloc (balloc (balloc (below_alloc _ _) _) _) _) _) (Nat.le_refl _) _
  have hz := hb.size
  have hl : w.heap.size < w1.heap.size := by rw [hw]; simp; omega
  clear hw
  go_wp2
  go_ret
  exact ⟨rfl, hb⟩
theorem error_nil (n : Int) (w : World) (b : Bool) (h : Hid (((0 : Int) == n) = b)) : Calls Tryz.prog 19 #[.nilIface, .int .i64 n] w fun e w' => e = .returned (.bool b) ∧ Below w.heap.size w w' := by
  go_enter Tryz.func19, Tryz.ntmps19
  go_wp2_with fail
  refine (told_nil _).mono ?_; rintro e w1 ⟨rfl, hb⟩
  have he := h.out
  go_wp2
  go_ret
  exact ⟨rfl, hb⟩
theorem error_err (k n : Int) (w : World) (hE : ErrAt w) (b : Bool) (h : Hid ((k == n) = b)) : Calls Tryz.prog 19 #[.iface 94 (.int .i64 k), .int .i64 n] w fun e w' => e = .returned (.bool b) ∧ Below w.heap.size w w' := by
  go_enter Tryz.func19, Tryz.ntmps19
  go_wp2_with fail
  refine (told_err k _ hE).mono ?_; rintro e w1 ⟨rfl, hb⟩
  have he := h.out
  go_wp2
  go_ret
  exact ⟨rfl, hb⟩
/-- An error's value, by its number; it is told as that number. -/
theorem error_same (E : Value) (n : Int) (w : World) (hE : ErrAt w) (h : Hid (E = errV n)) : Calls Tryz.prog 19 #[E, .int .i64 n] w fun e w' => e = .returned (.bool true) ∧ Below w.heap.size w w' := by
  rw [h.out]; unfold errV
  split
  · next e => rw [e]; exact error_nil 0 w true rfl
  · exact error_err n n w hE true (by show _ = _; simp)
end Go.Proofs.YtahgaccdeakmcaaGreatDoor
namespace Go.Proofs.YtahgaccdeakmcaaGreatDoor
open Go.RowKit
set_option maxRecDepth 100000
set_option linter.unusedVariables false
set_option linter.unusedSimpArgs false
theorem done_of (N : List Int) (G : List Bool) (d : Rec) (hG : G.length = N.length) (ok : RecOk d) (hN : N.length + d.M.length ≤ 1000) (hgood : ∀ i (h : i < d.G.length), gErrB G (d.G.take i) d.G[i] = 0) (x : Int) (hx : outN N d.G + d.M.sum = x) (hq : Sp.beq (sq (4 * hJ * (d.s : Int))) (sSum d.R (sq (4 * x * bAsk d.R (qS x)))) = true) : Done N G d := by
  have hgl : d.G.length = d.gl.length := List.length_map _
  have hml : (d.M.map qS).length = d.M.length := List.length_map _
  have hg1 := ok.g1
  refine ⟨ok, hN, fun B p vc vg a0 a1 c0 c1 w hF hv hB g0 g1 hli => ?_⟩
  have hex := fun (w1 : World) (hb : Below w.heap.size w w1) => bex_core N G B p d.G (d.M.map qS) a0 a1 c0 c1 d.G.length 0 .nilIface (.tuple #[spV (qS x), .nilIface]) w1 (hF.below hb) ⟨_, _, hv.below hb⟩ (by omega) (by omega) (by omega) g1
    (fun h => by obtain ⟨b, o, e, hs, -⟩ := hli.g h; exact ⟨b, o, e, hs.below hb⟩) (fun h => by obtain ⟨b, o, e, hs, -⟩ := hli.n h; exact ⟨b, o, e, hs.below hb⟩) (by have := ok.m; omega) (Nat.le_refl _) (fun i h _ => hgood i h) (fun h => absurd h (Nat.lt_irrefl _))
    (Lib.hid fun w2 hb2 => bcheck_core (d.M.map qS) (d.M.map qS).length .nilIface a1 c1 w2 ((hF.below hb).below hb2) (by have := ok.m; omega) (fun h => by obtain ⟨b, o, e, hs, -⟩ := hli.n h; exact ⟨b, o, e, (hs.below hb).below hb2⟩) (Lib.hid fun k h1 _ => ⟨_, List.getElem_map _⟩) (Nat.le_refl _) (Lib.hid fun h => absurd h (Nat.lt_irrefl _)) (Lib.hid fun h => absurd h (Nat.lt_irrefl _)) (Lib.hid fun _ => rfl))
    (Lib.hid fun h => absurd h (Nat.lt_irrefl _)) (Lib.hid fun _ => .inr ⟨rfl, d.M, rfl, by rw [hx]⟩)
  rw [hgl, hml] at hex
  have h := bdo_y N d.M G B p vc vg d.G [] a0 a1 c0 c1 d.R (d.s : Int) (qS x) x w hF hv hB (by omega) (Lib.hid rfl) (by omega) hli.g hli.n (fun g hg => by
    obtain ⟨i, hi, rfl⟩ := List.getElem_of_mem hg
    have := gErrB_0 (hgood i hi)
    omega) (Lib.hid (by rw [hgl]; exact hex)) hN (Int.natCast_nonneg _) (by have := ok.s1; omega) ok.o (Lib.hid hq)
  rw [hgl] at h
  exact h
theorem stG_len (M0 : List Int) (ds : List Rec) : (stG M0 ds).length = (stN M0 ds).length := by
  suffices H : ∀ (ds : List Rec) (N : List Int) (G : List Bool), G.length = N.length → (ds.foldl stepG G).length = (ds.foldl (fun N d => N ++ d.M) N).length from H ds M0 _ List.length_replicate
  intro ds
  induction ds with
  | nil => intro N G h; exact h
  | cons d ds ih =>
    intro N G h
    refine ih _ _ ?_
    unfold stepG
    rw [List.length_append, goneL_len, List.length_replicate, List.length_append, h]
theorem DoneAll.bound {M0 : List Int} {ds : List Rec} (h : DoneAll M0 ds) (hM : M0.length ≤ 12) : (stN M0 ds).length ≤ 1000 := by
  rcases List.eq_nil_or_concat ds with rfl | ⟨L, d, rfl⟩
  · show M0.length ≤ 1000; omega
  · rw [List.concat_eq_append] at h ⊢
    have := (h L.length (by simp)).hN
    rw [List.take_left, List.getElem_append_right (Nat.le_refl _)] at this
    simp at this
    rw [stN_snoc, List.length_append]
    exact this
theorem error_e (E n : Int) (b : Bool) (w : World) (hE : ErrAt w) (h : Hid ((E == n) = b)) : Calls Tryz.prog 19 #[errV E, .int .i64 n] w fun e w' => e = .returned (.bool b) ∧ Below w.heap.size w w' := by
  by_cases h0 : E = 0
  · subst h0; exact error_nil n w b h
  · rw [errVB_ne h0]; exact error_err E n w hE b h
/-- The deal of nothing. -/
def d0 (P : Sp) : Rec := ⟨[], [], P, 1⟩
theorem d0_ok {P : Sp} (oP : Ok P) : RecOk (d0 P) := ⟨Nat.zero_le _, fun g h => absurd h List.not_mem_nil, Nat.zero_le _, oP, by show 1 < 1013; decide⟩
theorem d0_done {P : Sp} (hP : sq (4 * hJ * 1) = P) (N : List Int) (G : List Bool) (hG : G.length = N.length) (hN : N.length ≤ 1000) : Done N G (d0 P) := by
  have hq : Sp.beq (sq (4 * hJ * 1)) (sSum P (sq (4 * 0 * bAsk P (qS 0)))) = true := by
    have := close_ok 1 (bAsk P (qS 0)) 0 0 (by decide)
    rw [hP] at this
    rw [show (1 + bAsk P (qS 0) * ((0 : Int) % 1013)) % 1013 = 1 by rw [show (0 : Int) % 1013 = 0 from rfl, Int.mul_zero]; rfl, hP] at this
    rw [hP]; exact this
  exact done_of N G (d0 P) hG (d0_ok (by rw [← hP]; exact sq_ok _)) (by simpa [d0] using hN) (fun i h => absurd h (Nat.not_lt_zero _)) 0 rfl hq
end Go.Proofs.YtahgaccdeakmcaaGreatDoor
namespace Go.Proofs.YtahgaccdeakmcaaGreatDoor
open Go.RowKit
set_option maxRecDepth 100000
set_option linter.unusedVariables false
set_option linter.unusedSimpArgs false
/-- A whole slice of bools, appended to a row of one's own. -/
theorem AppRun.bools {w : World} {B : Nat} {v : Value} {G H : List Bool} {n : Nat} {a : Option Addr} {c : Nat} (hown : w.ownsRow B 4 1 v n (G.map Value.bool)) (hm : 0 < H.length → ∃ b o, a = some ⟨b, o, none⟩ ∧ BolsAt w b o H) (hB : B ≤ w.heap.size) (hn : n ≤ 1000000) (hml : H.length ≤ 1000000) :
    AppRun w 105 105 B 4 1 v (.slice a H.length c) (n + H.length) (G.map Value.bool ++ H.map Value.bool) := by
  intro ty
  obtain ⟨i0, hi, hz0, hz1, hz2⟩ := info_parts info_bool
  cases a with
  | none =>
    have h0 : H.length = 0 := by
      by_cases h0 : 0 < H.length
      · obtain ⟨b, o, e, -⟩ := hm h0; cases e
      · omega
    obtain rfl := List.length_eq_zero_iff.mp h0
    refine ⟨v, w, ?_, by simpa using hown, ⟨rfl, rfl, rfl, Nat.le_refl _, fun _ _ _ => rfl⟩, .inl rfl⟩
    have ht := Tryz.underlying105
    rcases hown.2 with ⟨rfl, rfl⟩ | ⟨g, cap, cur, rfl, _, _, hnc, _⟩
    · simp [Builtin.append_, run_underlying ht, sizeOf, typeInfo, hi, Builtin.lenOf, Builtin.firstCells]
    · simp [Builtin.append_, run_underlying ht, sizeOf, typeInfo, hi, Builtin.lenOf, Builtin.firstCells, hnc, storeCells]
  | some ad =>
    obtain ⟨v', w', h1, h2, h3, h4, h5⟩ := run_append_own_at w B 105 ty 4 i0 (.bool false) 1 1 Tryz.underlying105 hi hz0 hz1 hz2 rfl (by decide) v n (G.map Value.bool) hown ad H.length c (H.map Value.bool) (by simp) (fun j u hj => by
      obtain ⟨hjn, he⟩ := List.getElem?_eq_some_iff.1 hj
      rw [List.length_map] at hjn
      obtain ⟨b, o, e, hs⟩ := hm (by omega)
      cases e
      rw [add_none, hs.c j hjn, ← he, List.getElem_map]) (fun u hu => by rw [List.mem_map] at hu; obtain ⟨x, -, rfl⟩ := hu; rfl) (by unfold maxLen; omega) (by omega) hB
    exact ⟨v', w', h1, h2, h3, h5⟩
theorem SpSl.get {w : World} {a : Option Addr} {n c : Nat} {l : List Sp} (h : SpSl w (.slice a n c) l) (h0 : 0 < l.length) : ∃ b o, a = some ⟨b, o, none⟩ ∧ SpotsAt w b o l := by
  obtain ⟨a', c', e, h⟩ := h
  simp only [Value.slice.injEq] at e
  obtain ⟨rfl, -, -⟩ := e
  exact h h0
theorem BolSl.get {w : World} {a : Option Addr} {n c : Nat} {l : List Bool} (h : BolSl w (.slice a n c) l) (h0 : 0 < l.length) : ∃ b o, a = some ⟨b, o, none⟩ ∧ BolsAt w b o l := by
  obtain ⟨a', c', e, h⟩ := h
  simp only [Value.slice.injEq] at e
  obtain ⟨rfl, -, -⟩ := e
  exact h h0
set_option maxHeartbeats 8000000 in
theorem rcopy_c (N : List Int) (G : List Bool) (B p : Nat) (vc vg : Value) (w : World) (hBk : BkV w B p vc vg N G) (hN : N.length ≤ 1000) :
    Calls Tryz.prog 27 #[.pointer (some ⟨p, 0, none⟩)] w fun e w' => ∃ p', e = .returned (.pointer (some ⟨p', 0, none⟩)) ∧ BkAt w' w.heap.size p' N G ∧ Below w.heap.size w w' := by
  obtain ⟨ac, cc, rfl⟩ := own_slB hBk.rc
  obtain ⟨ag, cg, rfl⟩ := own_slB hBk.rg
  have hl : (N.map qS).length = N.length := List.length_map _
  have hG := hBk.ln
  have hBk' := Lib.hid hBk
  have hb1 : Below w.heap.size w (w.alloc (.cells #[.slice none 0 0, .slice none 0 0] 107)) := below_alloc _ _
  have p0 : (w.alloc (.cells #[.slice none 0 0, .slice none 0 0] 107)).cell? ⟨w.heap.size, 0, none⟩ = some (.slice none 0 0) := by go_simp
  have p1 : (w.alloc (.cells #[.slice none 0 0, .slice none 0 0] 107)).cell? ⟨w.heap.size, 1, none⟩ = some (.slice none 0 0) := by go_simp
  have f0 : (w.alloc (.cells #[.slice none 0 0, .slice none 0 0] 107)).frozen? ⟨w.heap.size, 0, none⟩ = false := by go_simp
  have f1 : (w.alloc (.cells #[.slice none 0 0, .slice none 0 0] 107)).frozen? ⟨w.heap.size, 1, none⟩ = false := by go_simp
  have pl : w.heap.size < (w.alloc (.cells #[.slice none 0 0, .slice none 0 0] 107)).heap.size := by simp
  have bk1 := hBk.below hb1
  have b0 := bk1.c0
  have bl := bk1.lt
  have bkD := bk1.below (Below.refl (w.alloc (.cells #[.slice none 0 0, .slice none 0 0] 107)).heap.size (w.alloc (.cells #[.slice none 0 0, .slice none 0 0] 107))).drew
  have hA := Lib.hid (AppRun.spots (w := (w.alloc (.cells #[.slice none 0 0, .slice none 0 0] 107)).drew) (B := w.heap.size) (v := .slice none 0 0) (l := []) (m := N.map qS) (n := 0) (a := ac) (c := cc) (World.ownsRow_nil _ _ _ _) (fun h => bkD.sp.get h) (Nat.le_of_lt pl) (by omega) (by omega))
  rw [hl, Nat.zero_add] at hA
  replace hb1 := Lib.hid hb1
  clear bk1 bkD hBk
  obtain ⟨P, hP⟩ : ∃ P, w.heap.size = P := ⟨_, rfl⟩
  go_enter Tryz.func27, Tryz.ntmps27
  go_upto_region 2 with fail
  rw [hP] at p0 p1 f0 f1 pl hb1 hA
  try rw [hP]
  generalize w.alloc (.cells #[.slice none 0 0, .slice none 0 0] 107) = w1 at *
  go_region_law (refine step_app (by rfl) _ _ (by rfl) hA.out (by rfl) (by rfl) ?_; intro v' w8 hrow hgr hloc; have hb8 : w8.heap[P]? = w1.drew.heap[P]? := hgr.block P pl (by simp [Value.ownBlock]); have k0 : w8.cell? ⟨P, 0, none⟩ = some (.slice none 0 0) := (World.cell?_of_block hb8).trans p0; have k1 : w8.cell? ⟨P, 1, none⟩ = some (.slice none 0 0) := (World.cell?_of_block hb8).trans p1; have k2 : w8.frozen? ⟨P, 0, none⟩ = false := (World.frozen?_of_block hb8).trans f0; have k3 : w8.frozen? ⟨P, 1, none⟩ = false := (World.frozen?_of_block hb8).trans f1; have k4 : P < w8.heap.size := Nat.lt_of_lt_of_le pl hgr.size; obtain ⟨av, cv, rfl⟩ := own_slB hrow; replace hrow := Lib.hid hrow; replace hgr := Lib.hid hgr; replace hloc := Lib.hid hloc)
  all_goals
    have hne : (Value.slice av N.length cv).ownBlock ≠ some P := fun e => by
      rcases hloc.out with e2 | e2
      · rw [e2] at e; cases e
      · rw [e2] at e; have e3 : w1.drew.heap.size = P := Option.some.inj e; have : w1.drew.heap.size = w1.heap.size := rfl; omega
    obtain ⟨y0, y1, y2, y3, -, y6⟩ := half (B := P) (ys := []) k0 k1 k2 k3 k4 (World.ownsRow_nil _ _ _ _) hrow.out hne (by simp [Value.ownBlock])
    have hB9 : Below P w (w8.setCell ⟨P, 0, none⟩ (.slice av N.length cv)) := (Below.grown hb1.out.drew hgr.out (Nat.le_of_lt pl) (fun k hk => by simp [Value.ownBlock] at hk)).setCell (p := ⟨P, 0, none⟩) (Nat.le_refl _) _
    have pl9 : P < (w8.setCell ⟨P, 0, none⟩ (.slice av N.length cv)).heap.size := by simpa using k4
    generalize w8.setCell ⟨P, 0, none⟩ (.slice av N.length cv) = w9 at *
    have bk9 := hBk'.out.below (by rw [hP]; exact hB9)
    have bkD := bk9.below (Below.refl w9.heap.size w9).drew
    have c1 := bk9.c1
    have cl := bk9.lt
    have hA2 := Lib.hid (AppRun.bools (w := w9.drew) (B := P) (v := .slice none 0 0) (G := []) (H := G) (n := 0) (a := ag) (c := cg) (World.ownsRow_nil _ _ _ _) (fun h => bkD.bo.get h) (Nat.le_of_lt pl9) (by omega) (by omega))
    rw [hG, Nat.zero_add] at hA2
    replace y6 := Lib.hid y6
    replace hB9 := Lib.hid hB9
    clear bk9 bkD k0 k1 k2 k3 k4 p0 p1 f0 f1 b0 bl
    go_wp2_with fail
    go_region_law (refine step_app (by rfl) _ _ (by rfl) hA2.out (by rfl) (by rfl) ?_; intro v2 w10 hrow2 hgr2 hloc2; have hb10 : w10.heap[P]? = w9.drew.heap[P]? := hgr2.block P pl9 (by simp [Value.ownBlock]); have k0 : w10.cell? ⟨P, 0, none⟩ = some (.slice av N.length cv) := (World.cell?_of_block hb10).trans y0; have k1 : w10.cell? ⟨P, 1, none⟩ = some (.slice none 0 0) := (World.cell?_of_block hb10).trans y1; have k2 : w10.frozen? ⟨P, 0, none⟩ = false := (World.frozen?_of_block hb10).trans y2; have k3 : w10.frozen? ⟨P, 1, none⟩ = false := (World.frozen?_of_block hb10).trans y3; have k4 : P < w10.heap.size := Nat.lt_of_lt_of_le pl9 hgr2.size; obtain ⟨av2, cv2, rfl⟩ := own_slB hrow2; replace hrow2 := Lib.hid hrow2; replace hgr2 := Lib.hid hgr2; replace hloc2 := Lib.hid hloc2)
    all_goals
      have hzd : w9.drew.heap.size = w9.heap.size := rfl
      have hng2 : (Value.slice av2 N.length cv2).ownBlock ≠ some P := fun e => by
        rcases hloc2.out with e2 | e2
        · rw [e2] at e; cases e
        · rw [e2] at e; have e3 : w9.drew.heap.size = P := Option.some.inj e; omega
      have i1 : w10.ownsRow P 28 3 (.slice av N.length cv) N.length (spCells [] ++ spCells (N.map qS)) := y6.out.drew.kept hgr2.out (by
        rcases hloc.out with e2 | e2
        · exact .inl e2
        · exact .inr (fun e => by rw [e2] at e; cases e))
      have i2 : Ap (Value.slice av N.length cv) (Value.slice av2 N.length cv2) := fun k h1 h2 => by
        have h3 := (y6.out.lt k h1).2
        rcases hloc2.out with e2 | e2
        · rw [e2] at h2; cases h2
        · rw [e2] at h2; have := Option.some.inj h2; omega
      have hr2 := hrow2.out
      have hfin := full (N := N) (G := G) (V := .slice av2 N.length cv2) k0 k1 k2 k3 k4 (Nat.le_refl _) (by simpa using hr2) (by simpa [spCells] using i1) hG i2 hne hng2
      have hBF : Below P w (w10.setCell ⟨P, 1, none⟩ (.slice av2 N.length cv2)) := (Below.grown hB9.out.drew hgr2.out (Nat.le_of_lt pl9) (fun k hk => by simp [Value.ownBlock] at hk)).setCell (p := ⟨P, 1, none⟩) (Nat.le_refl _) _
      replace hfin := Lib.hid hfin
      replace hBF := Lib.hid hBF
      go_wp2
      go_ret
      rw [hP]
      exact ⟨_, rfl, ⟨_, _, hfin.out⟩, hBF.out⟩
end Go.Proofs.YtahgaccdeakmcaaGreatDoor
namespace Go.Proofs.YtahgaccdeakmcaaGreatDoor
open Go.RowKit
set_option maxRecDepth 100000
set_option linter.unusedVariables false
set_option linter.unusedSimpArgs false
theorem info_bookp : (Tryz.prog.info? 55).map (fun i => (i.zero, i.size, i.bytes)) = some (some (.pointer none), 1, 8) := by kernel_rfl
def ptV (p : Nat) : Value := .pointer (some ⟨p, 0, none⟩)
theorem wpl_append_bookp {w : World} {ops : Array Oper} {rest : List Oper} {o : Oper} {a : Act} {Q : Exit → Act → World → Prop} (hgd : o.guard = none) (s x : Operand) (t : TypeId)
    (ho : o.op = .call { callee := .builtin .append, args := #[s, x], argTypes := #[t, t] }) (ht : Tryz.prog.underlying t = some (.slice 55)) (B : Nat) (v : Value) (l : List Nat) (n : Nat) (hs : a.eval s = v)
    (hown : w.ownsRow B 55 1 v n (l.map ptV)) (hn : l.length = n) (hl : n ≤ 1000000) (hB : B ≤ w.heap.size) (g : Nat) (c : Nat) (hx : a.eval x = .slice (some ⟨g, 0, none⟩) 1 1)
    (h0 : w.cell? ⟨g, 0, none⟩ = some (.pointer (some ⟨c, 0, none⟩)))
    (h : ∀ v' w', w'.ownsRow B 55 1 v' (n + 1) ((l ++ [c]).map ptV) → w.grownBy w' v.ownBlock → (∀ a, Below B a w → Below B a w') → (v'.ownBlock = v.ownBlock ∨ v'.ownBlock = some w.heap.size) → wpList Tryz.prog ops Q rest (a.put o.dst v') w') :
    wpList Tryz.prog ops Q (o :: rest) a w := by
  obtain ⟨i0, hi, hz0, hz1, hz2⟩ := info_parts info_bookp
  refine wpList_append_own_at _ hgd s x _ ho B _ i0 _ 1 8 ht hi hz0 hz1 hz2 rfl (by decide) v n _ hs hown ⟨g, 0, none⟩ 1 1 [ptV c] hx rfl ?_ ?_ (by unfold maxLen; omega) (by omega) hB ?_
  · intro j u hj
    have e : ∀ k, (⟨g, 0, none⟩ : Addr).add k = ⟨g, k, none⟩ := fun k => by rw [add_none, Nat.zero_add]
    rw [e]
    match j, hj with
    | 0, hj => cases hj; exact h0
  · intro u hu
    simp only [List.mem_cons, List.not_mem_nil, or_false] at hu
    subst hu; rfl
  · intro v' w' h3 h4 _ h6
    rw [show l.map ptV ++ [ptV c] = (l ++ [c]).map ptV by simp] at h3
    exact h v' w' h3 h4 (fun a hb => Below.grown hb h4 hB (fun k hk => (hown.lt k hk).1)) h6
/-- A row of one's own, shortened. -/
theorem own_cut {w : World} {B e n c m g : Nat} {xs : List Value} (h : w.ownsRow B e 1 (.slice (some ⟨g, 0, none⟩) n c) n xs) (hm : m ≤ n) : w.ownsRow B e 1 (.slice (some ⟨g, 0, none⟩) m c) m (xs.take m) := by
  obtain ⟨hl, h⟩ := h
  rcases h with ⟨h', _⟩ | ⟨g', cap', cur, h', hb, hg, hnc, hcm, hcs, htake⟩
  · simp at h'
  · simp only [Value.slice.injEq, Option.some.injEq, Addr.mk.injEq, and_true, true_and] at h'
    obtain ⟨rfl, rfl⟩ := h'
    refine ⟨by rw [List.length_take]; omega, .inr ⟨g, c, cur, rfl, hb, hg, by omega, hcm, hcs, ?_⟩⟩
    rw [← htake, List.take_take, Nat.mul_one, Nat.mul_one, Nat.min_eq_left hm]
/-- How far i records reach. -/
def endN (L : List (List UInt8)) (i : Nat) : Nat := (L.take i).flatten.length
theorem keepN_iff : ∀ (L : List (List UInt8)) (n i : Nat), (∀ l ∈ L, 0 < l.length) → i ≤ L.length → (endN L i ≤ n ↔ i ≤ keepN L n)
  | [], n, i, _, hi => by
    obtain rfl : i = 0 := by simpa using hi
    exact ⟨fun _ => Nat.zero_le _, fun _ => Nat.zero_le _⟩
  | l :: L, n, 0, hL, hi => ⟨fun _ => Nat.zero_le _, fun _ => Nat.zero_le _⟩
  | l :: L, n, i + 1, hL, hi => by
    have hl := hL l List.mem_cons_self
    have ih := keepN_iff L (n - l.length) i (fun x hx => hL x (List.mem_cons_of_mem _ hx)) (by simpa using hi)
    have he : endN (l :: L) (i + 1) = l.length + endN L i := by unfold endN; rw [List.take_succ_cons, List.flatten_cons, List.length_append]
    rw [he]
    unfold keepN
    split
    · omega
    · omega
def marksN (ds : List Rec) : List Int := (List.range (ds.length + 1)).map fun i => ((endN (recsB ds) i : Nat) : Int)
theorem marksN_len (ds : List Rec) : (marksN ds).length = ds.length + 1 := by unfold marksN; simp
theorem marksN_get (ds : List Rec) (i : Nat) (h : i < (marksN ds).length) : (marksN ds)[i] = ((endN (recsB ds) i : Nat) : Int) := by
  have h' : i < ((List.range (ds.length + 1)).map fun i => ((endN (recsB ds) i : Nat) : Int)).length := h
  show ((List.range (ds.length + 1)).map fun i => ((endN (recsB ds) i : Nat) : Int))[i]'h' = _
  simp
theorem endN_take (ds : List Rec) (k i : Nat) (h : i ≤ k) : endN (recsB (ds.take k)) i = endN (recsB ds) i := by
  unfold endN; rw [recsB_take, List.take_take, Nat.min_eq_left h]
theorem endN_all (ds : List Rec) : endN (recsB ds) ds.length = (recsB ds).flatten.length := by
  unfold endN; rw [List.take_of_length_le (by unfold recsB; simp)]
theorem marksN_snoc (ds : List Rec) (d : Rec) : marksN (ds ++ [d]) = marksN ds ++ [(((recsB (ds ++ [d])).flatten.length : Nat) : Int)] := by
  apply List.ext_getElem
  · simp [marksN_len]
  · intro i h1 h2
    rw [marksN_get]
    by_cases h : i < (marksN ds).length
    · rw [List.getElem_append_left h, marksN_get]
      have := endN_take (ds ++ [d]) ds.length i (by rw [marksN_len] at h; omega)
      rw [List.take_left] at this
      rw [this]
    · obtain rfl : i = ds.length + 1 := by rw [marksN_len] at h h1; simp at h1; omega
      rw [List.getElem_append_right (by rw [marksN_len]; exact Nat.le_refl _)]
      simp only [marksN_len, Nat.sub_self, List.getElem_cons_zero]
      rw [← endN_all]; simp
theorem marksN_take (ds : List Rec) (k : Nat) (h : k ≤ ds.length) : (marksN ds).take (k + 1) = marksN (ds.take k) := by
  apply List.ext_getElem
  · simp [marksN_len]
  · intro i h1 h2
    rw [List.getElem_take, marksN_get, marksN_get, endN_take ds k i (by rw [marksN_len, List.length_take] at h2; omega)]
/-- A book of the document that is kept. -/
structure RfB where
  p : Nat
  vc : Value
  vg : Value
structure LkR (w : World) (B q : Nat) (M0 : List Int) (h : LgH) (ds : List Rec) (rs : List RfB) (gd cd gm cm : Nat) : Prop where
  n : rs.length = ds.length + 1
  dn : w.ownsRow B 55 1 (.slice (some ⟨gd, 0, none⟩) (ds.length + 1) cd) (ds.length + 1) ((rs.map (·.p)).map ptV)
  mr : w.ownsRow B 3 1 (.slice (some ⟨gm, 0, none⟩) (ds.length + 1) cm) (ds.length + 1) ((marksN ds).map (Value.int .i64))
  bk : ∀ i (h : i < rs.length), BkV w B rs[i].p rs[i].vc rs[i].vg (stN M0 (ds.take i)) (stG M0 (ds.take i))
  ap : ∀ r ∈ rs, ∀ k, inB r.p r.vc r.vg k → ¬ inL M0 q h k ∧ k ≠ gd ∧ k ≠ gm
  ad : ¬ inL M0 q h gd
  am : ¬ inL M0 q h gm
  dm : gd ≠ gm
section
variable {w : World} {B q : Nat} {M0 : List Int} {h : LgH} {ds : List Rec} {rs : List RfB} {gd cd gm cm : Nat}
theorem LkR.dlt (r : LkR w B q M0 h ds rs gd cd gm cm) : B ≤ gd ∧ gd < w.heap.size := r.dn.lt gd rfl
theorem LkR.mlt (r : LkR w B q M0 h ds rs gd cd gm cm) : B ≤ gm ∧ gm < w.heap.size := r.mr.lt gm rfl
/-- What holds a row or a book. -/
def inR (rs : List RfB) (gd gm k : Nat) : Prop := k = gd ∨ k = gm ∨ ∃ r ∈ rs, inB r.p r.vc r.vg k
theorem LkR.blk (r : LkR w B q M0 h ds rs gd cd gm cm) (k : Nat) (hk : inR rs gd gm k) : B ≤ k ∧ k < w.heap.size := by
  rcases hk with rfl | rfl | ⟨x, hx, hk⟩
  · exact r.dlt
  · exact r.mlt
  · obtain ⟨i, hi, rfl⟩ := List.getElem_of_mem hx
    exact (r.bk i hi).blk k hk
theorem LkR.keep {w' : World} (r : LkR w B q M0 h ds rs gd cd gm cm) (hs : w.heap.size ≤ w'.heap.size) (hk : ∀ k, inR rs gd gm k → w'.heap[k]? = w.heap[k]?) : LkR w' B q M0 h ds rs gd cd gm cm :=
  ⟨r.n, own_keep r.dn (fun k e => hk k (.inl (by simpa [Value.ownBlock] using e.symm))), own_keep r.mr (fun k e => hk k (.inr (.inl (by simpa [Value.ownBlock] using e.symm)))), fun i hi => (r.bk i hi).keep hs (fun k e => hk k (.inr (.inr ⟨_, List.getElem_mem hi, e⟩))), r.ap, r.ad, r.am, r.dm⟩
theorem LkR.below {w' : World} (r : LkR w B q M0 h ds rs gd cd gm cm) (hb : Below w.heap.size w w') : LkR w' B q M0 h ds rs gd cd gm cm := r.keep hb.size (fun k hk => hb.block k (r.blk k hk).2)
theorem LkR.but {w' : World} {S : Nat → Prop} (r : LkR w B q M0 h ds rs gd cd gm cm) (hb : But S w w') (hS : ∀ k, inR rs gd gm k → ¬ S k) : LkR w' B q M0 h ds rs gd cd gm cm := r.keep hb.size (fun k hk => hb.block k (r.blk k hk).2 (hS k hk))
theorem LkR.apart (r : LkR w B q M0 h ds rs gd cd gm cm) (k : Nat) (hk : inR rs gd gm k) : ¬ inL M0 q h k := by
  rcases hk with rfl | rfl | ⟨x, hx, hk⟩
  · exact r.ad
  · exact r.am
  · exact (r.ap x hx k hk).1
/-- The log does a step. -/
theorem LkR.log {w' : World} {h' : LgH} (r : LkR w B q M0 h ds rs gd cd gm cm) (hin : ∀ k, inL M0 q h' k → inL M0 q h k ∨ w.heap.size ≤ k) (hb : But (inL M0 q h) w w') : LkR w' B q M0 h' ds rs gd cd gm cm := by
  have r' := r.but hb (fun k hk => r.apart k hk)
  have na : ∀ k, inR rs gd gm k → ¬ inL M0 q h' k := fun k hk hi => by
    rcases hin k hi with h1 | h1
    · exact r.apart k hk h1
    · have := (r.blk k hk).2; omega
  exact ⟨r'.n, r'.dn, r'.mr, r'.bk, fun x hx k hk => ⟨na k (.inr (.inr ⟨x, hx, hk⟩)), (r.ap x hx k hk).2⟩, na gd (.inl rfl), na gm (.inr (.inl rfl)), r.dm⟩
theorem LkR.ptr (r : LkR w B q M0 h ds rs gd cd gm cm) (i : Nat) (hi : i < rs.length) : w.cell? ⟨gd, i, none⟩ = some (.pointer (some ⟨rs[i].p, 0, none⟩)) := by
  have h1 := r.dn.cellAt i (by have := r.n; omega)
  rw [List.getElem?_map, List.getElem?_map, List.getElem?_eq_getElem hi] at h1
  exact h1
theorem LkR.mark (r : LkR w B q M0 h ds rs gd cd gm cm) (i : Nat) (hi : i ≤ ds.length) : w.cell? ⟨gm, i, none⟩ = some (.int .i64 ((endN (recsB ds) i : Nat) : Int)) := by
  have h1 := r.mr.cellAt i (by omega)
  have h2 : i < (marksN ds).length := by rw [marksN_len]; omega
  rw [List.getElem?_map, List.getElem?_eq_getElem h2, marksN_get] at h1
  exact h1
theorem LkR.last (r : LkR w B q M0 h ds rs gd cd gm cm) : ∃ x : RfB, w.cell? ⟨gd, ds.length, none⟩ = some (.pointer (some ⟨x.p, 0, none⟩)) ∧ x ∈ rs ∧ BkV w B x.p x.vc x.vg (stN M0 ds) (stG M0 ds) := by
  have hn := r.n
  have hi : ds.length < rs.length := by omega
  have hb := r.bk ds.length hi
  rw [List.take_length] at hb
  exact ⟨rs[ds.length], r.ptr _ hi, List.getElem_mem hi, hb⟩
theorem LkR.caps (r : LkR w B q M0 h ds rs gd cd gm cm) : ds.length + 1 ≤ cd ∧ ds.length + 1 ≤ cm ∧ cd ≤ maxLen ∧ cm ≤ maxLen := by
  rcases r.dn.2 with ⟨h', _⟩ | ⟨g, cap, cur, h', _, _, h1, h2, _⟩
  · simp at h'
  · rcases r.mr.2 with ⟨h3, _⟩ | ⟨g', cap', cur', h3, _, _, h4, h5, _⟩
    · simp at h3
    · simp only [Value.slice.injEq] at h' h3
      obtain ⟨-, -, rfl⟩ := h'
      obtain ⟨-, -, rfl⟩ := h3
      exact ⟨h1, h4, h2, h5⟩
/-- Shortened. -/
theorem LkR.cut (r : LkR w B q M0 h ds rs gd cd gm cm) (k : Nat) (hk : k ≤ ds.length) : LkR w B q M0 h (ds.take k) (rs.take (k + 1)) gd cd gm cm := by
  have hl : (ds.take k).length = k := by rw [List.length_take]; omega
  have hn := r.n
  refine ⟨by rw [hl, List.length_take]; omega, ?_, ?_, fun i hi => ?_, fun x hx => r.ap x (List.mem_of_mem_take hx), r.ad, r.am, r.dm⟩
  · have := own_cut (m := k + 1) r.dn (by omega)
    rw [hl, List.map_take, List.map_take]; exact this
  · have := own_cut (m := k + 1) r.mr (by omega)
    rw [← List.map_take, marksN_take ds k hk] at this
    rw [hl]; exact this
  · rw [List.length_take] at hi
    have := r.bk i (by omega)
    rw [List.getElem_take, List.take_take, Nat.min_eq_left (by omega)]
    exact this
end
/-- One more. -/
theorem LkR.push {w wa w1 wb w2 : World} {B q : Nat} {M0 : List Int} {h : LgH} {ds : List Rec} {rs : List RfB} {gd cd gm cm : Nat} {x : RfB} {d : Rec} {v1 v2 : Value} (r : LkR w B q M0 h ds rs gd cd gm cm) (v : ∀ k, inL M0 q h k → k < w.heap.size)
    (hx : BkV w B x.p x.vc x.vg (stN M0 (ds ++ [d])) (stG M0 (ds ++ [d]))) (hxa : ∀ k, inB x.p x.vc x.vg k → ¬ inL M0 q h k ∧ k ≠ gd ∧ k ≠ gm)
    (ha : Below w.heap.size w wa) (d1 : w1.ownsRow B 55 1 v1 (ds.length + 2) ((((rs ++ [x]).map (·.p))).map ptV)) (g1 : wa.grownBy w1 (some gd)) (l1 : v1.ownBlock = some gd ∨ v1.ownBlock = some wa.heap.size)
    (hb : Below w1.heap.size w1 wb) (d2 : w2.ownsRow B 3 1 v2 (ds.length + 2) ((marksN (ds ++ [d])).map (Value.int .i64))) (g2 : wb.grownBy w2 (some gm)) (l2 : v2.ownBlock = some gm ∨ v2.ownBlock = some wb.heap.size) :
    ∃ gd' cd' gm' cm', v1 = .slice (some ⟨gd', 0, none⟩) (ds.length + 2) cd' ∧ v2 = .slice (some ⟨gm', 0, none⟩) (ds.length + 2) cm' ∧ LkR w2 B q M0 h (ds ++ [d]) (rs ++ [x]) gd' cd' gm' cm' ∧ But (fun k => k = gd ∨ k = gm) w w2 := by
  have za := ha.size
  have z1 := g1.size
  have zb := hb.size
  have z2 := g2.size
  have b1 : But (fun k => k = gd ∨ k = gm) w w1 := (But.of_below ha).trans (But.of_grown g1 (fun k hk => .inl (Option.some.inj hk).symm))
  have bb : But (fun k => k = gd ∨ k = gm) w wb := b1.trans (But.of_below hb)
  have b2 : But (fun k => k = gd ∨ k = gm) w w2 := bb.trans (But.of_grown g2 (fun k hk => .inr (Option.some.inj hk).symm))
  have nd := r.dlt
  have nm := r.mlt
  obtain ⟨gd', cd', e1⟩ : ∃ gd' cd', v1 = .slice (some ⟨gd', 0, none⟩) (ds.length + 2) cd' := by
    rcases d1.2 with ⟨-, h0⟩ | ⟨g, cap, cur, h0, -⟩
    · omega
    · exact ⟨g, cap, h0⟩
  obtain ⟨gm', cm', e2⟩ : ∃ gm' cm', v2 = .slice (some ⟨gm', 0, none⟩) (ds.length + 2) cm' := by
    rcases d2.2 with ⟨-, h0⟩ | ⟨g, cap, cur, h0, -⟩
    · omega
    · exact ⟨g, cap, h0⟩
  subst e1 e2
  have l1' : gd' = gd ∨ gd' = wa.heap.size := by simpa [Value.ownBlock] using l1
  have l2' : gm' = gm ∨ gm' = wb.heap.size := by simpa [Value.ownBlock] using l2
  have z1' := (d1.lt gd' rfl).2
  have dm := r.dm
  have hdm : gd' ≠ gm := by omega
  have hdm2 : gd' ≠ gm' := by omega
  have hl : (ds ++ [d]).length + 1 = ds.length + 2 := by simp
  have hn := r.n
  refine ⟨gd', cd', gm', cm', rfl, rfl, ⟨by simp [r.n], ?_, ?_, fun i hi => ?_, fun y hy k hk => ?_, fun hi => ?_, fun hi => ?_, hdm2⟩, b2⟩
  · rw [hl]
    refine own_keep (own_below d1 hb) (fun k e => g2.block k ?_ (fun e2 => ?_))
    · have : gd' = k := by simpa [Value.ownBlock] using e
      omega
    · have : gd' = k := by simpa [Value.ownBlock] using e
      have := Option.some.inj e2; omega
  · rw [hl]; exact d2
  · by_cases h1 : i < rs.length
    · rw [List.getElem_append_left h1, List.take_append_of_le_length (by omega)]
      exact (r.bk i h1).but b2 (fun k hk hs => by have := (r.ap _ (List.getElem_mem h1) k hk).2; omega)
    · obtain rfl : i = rs.length := by simp at hi; omega
      rw [List.getElem_append_right (Nat.le_refl _)]
      simp only [Nat.sub_self, List.getElem_cons_zero]
      rw [List.take_of_length_le (by simp; omega)]
      exact hx.but b2 (fun k hk hs => by have := (hxa k hk).2; omega)
  · rcases List.mem_append.mp hy with h1 | h1
    · have := r.ap y h1 k hk
      have hz := (r.blk k (.inr (.inr ⟨y, h1, hk⟩))).2
      exact ⟨this.1, by omega, by omega⟩
    · obtain rfl : y = x := by simpa using h1
      have := hxa k hk
      have hz := (hx.blk k hk).2
      exact ⟨this.1, by omega, by omega⟩
  · have := v _ hi
    have h3 := r.ad
    rcases l1' with rfl | e
    · exact h3 hi
    · omega
  · have := v _ hi
    have h3 := r.am
    rcases l2' with rfl | e
    · exact h3 hi
    · omega
end Go.Proofs.YtahgaccdeakmcaaGreatDoor
namespace Go.Proofs.YtahgaccdeakmcaaGreatDoor
open Go.RowKit Go.WideShapes Go.ChangeShapes Go.Deep Go.Joins
set_option linter.unusedVariables false
/-- A deal as it lies: its two slices (address, content, room), its seal. -/
structure DealR where
  ag : Option Addr
  G : List Int
  cg : Nat
  an : Option Addr
  C : List Sp
  cn : Nat
  r : Sp
  s : Int
instance : Inhabited DealR := ⟨⟨none, [], 0, none, [], 0, ⟨0, 0, false⟩, 0⟩⟩
structure DealOk (w : World) (d : DealR) : Prop where
  g0 : d.G.length ≤ d.cg
  g1 : d.cg ≤ 9223372036854775807
  gi : 0 < d.G.length → ∃ b o, d.ag = some ⟨b, o, none⟩ ∧ IntsAt w b o d.G
  n1 : d.C.length ≤ 9223372036854775807
  ni : 0 < d.C.length → ∃ b o, d.an = some ⟨b, o, none⟩ ∧ SpotsAt w b o d.C
theorem DealOk.below {w w' : World} {d : DealR} (h : DealOk w d) (hb : Below w.heap.size w w') : DealOk w' d :=
  ⟨h.g0, h.g1, fun h0 => by obtain ⟨b, o, e, hs⟩ := h.gi h0; exact ⟨b, o, e, hs.below hb⟩, h.n1, fun h0 => by obtain ⟨b, o, e, hs⟩ := h.ni h0; exact ⟨b, o, e, hs.below hb⟩⟩
structure DealsAt (w : World) (b off : Nat) (l : List DealR) : Prop where
  lt : b < w.heap.size
  c0 : ∀ i (h : i < l.length), w.cell? ⟨b, off + i * 6, none⟩ = some (.slice l[i].ag l[i].G.length l[i].cg)
  c1 : ∀ i (h : i < l.length), w.cell? ⟨b, off + i * 6 + 1, none⟩ = some (.slice l[i].an l[i].C.length l[i].cn)
  c2 : ∀ i (h : i < l.length), w.cell? ⟨b, off + i * 6 + 2, none⟩ = some (.int .i64 l[i].r.x)
  c3 : ∀ i (h : i < l.length), w.cell? ⟨b, off + i * 6 + 3, none⟩ = some (.int .i64 l[i].r.y)
  c4 : ∀ i (h : i < l.length), w.cell? ⟨b, off + i * 6 + 4, none⟩ = some (.bool l[i].r.far)
  c5 : ∀ i (h : i < l.length), w.cell? ⟨b, off + i * 6 + 5, none⟩ = some (.int .i64 l[i].s)
  ok : ∀ i (h : i < l.length), DealOk w l[i]
theorem DealsAt.below {w w' : World} {b off : Nat} {l : List DealR} (h : DealsAt w b off l) (hb : Below w.heap.size w w') : DealsAt w' b off l :=
  ⟨Nat.lt_of_lt_of_le h.lt hb.size, fun i hi => ((bcell hb).1 _ _ h.lt).trans (h.c0 i hi), fun i hi => ((bcell hb).1 _ _ h.lt).trans (h.c1 i hi), fun i hi => ((bcell hb).1 _ _ h.lt).trans (h.c2 i hi), fun i hi => ((bcell hb).1 _ _ h.lt).trans (h.c3 i hi), fun i hi => ((bcell hb).1 _ _ h.lt).trans (h.c4 i hi), fun i hi => ((bcell hb).1 _ _ h.lt).trans (h.c5 i hi), fun i hi => (h.ok i hi).below hb⟩
/-- A value that is a slice of deals. -/
def DealsV (w : World) (v : Value) : Prop := ∃ (l : List DealR) (a : Option Addr) (cap : Nat), v = .slice a l.length cap ∧ (0 < l.length → ∃ b off, a = some ⟨b, off, none⟩ ∧ DealsAt w b off l) ∧ l.length ≤ 9223372036854775807
section
variable {H : Type} {enc : TypeId × Value → H} {P : Program} {w : World} {base : Nat} {spare : Nat → Bool} {held : Bool}
theorem trod_intl {t e : TypeId} {c : Value} {fuel : Nat} {y : DataW H × List MemPlace} (ht : P.underlying t = some (.slice e)) (he : P.underlying e = some (.int .i64)) (hc : P.cellsOf e = 1) (h : DataW.trod enc P w base spare held fuel t [c] = some y) :
    ∃ (a : Option Addr) (l : List Int) (cap : Nat), c = .slice a l.length cap ∧ l.length ≤ cap ∧ cap ≤ 9223372036854775807 ∧ (0 < l.length → ∃ b o, a = some ⟨b, o, none⟩ ∧ IntsAt w b o l) := by
  rcases ChangeShapes.open_ints ht he hc h with ⟨hn, -⟩ | ⟨a', len, cap, zs, hcs, hb, hl, hm, hzl, hx, hcell, hw⟩
  · simp at hn; subst hn
    exact ⟨none, [], 0, rfl, Nat.le_refl _, by decide, fun h => absurd h (Nat.lt_irrefl 0)⟩
  · simp at hcs; subst hcs
    have hlm : len ≤ zs.length := by rw [hzl]; split <;> omega
    have ht : (zs.take len).length = len := by rw [List.length_take]; omega
    refine ⟨some a', zs.take len, cap, by rw [ht], by omega, by unfold maxLen at hm; omega, fun h0 => ?_⟩
    obtain ⟨b, off, sp⟩ := a'
    obtain rfl : sp = none := spotless (b := b) (off := off) (by simpa [Addr.add] using hcell 0 (by omega))
    simp only [add_none] at hcell
    refine ⟨b, off, rfl, ⟨World.block_lt_of_cell? w _ (hcell 0 (by omega)), fun i hi => ?_⟩⟩
    have := hcell i (by omega)
    rw [this, List.getElem_take, List.getD_eq_getElem?_getD, List.getElem?_eq_getElem (by omega)]; rfl
theorem trod_spotl {t e : TypeId} {f0 f1 f2 : Field} {c : Value} {fuel : Nat} {y : DataW H × List MemPlace} (ht : P.underlying t = some (.slice e)) (he : P.underlying e = some (.struct #[f0, f1, f2]))
    (hone : oneCellFields P #[f0, f1, f2] = true) (hC : P.cellsOf e = 3) (h0 : P.underlying f0.type = some (.int .i64)) (h1 : P.underlying f1.type = some (.int .i64)) (h2 : P.underlying f2.type = some .bool) (h : DataW.trod enc P w base spare held fuel t [c] = some y) :
    ∃ (a : Option Addr) (l : List Sp) (cap : Nat), c = .slice a l.length cap ∧ l.length ≤ 9223372036854775807 ∧ (0 < l.length → ∃ b o, a = some ⟨b, o, none⟩ ∧ SpotsAt w b o l) := by
  rcases open_slice_fields ht he hone (by rw [hC]; rfl) h with ⟨hn, -⟩ | ⟨a', len, cap, m, D, Pl, hcs, hb, hl, hm, hmm, hx, hi⟩
  · simp at hn; subst hn
    exact ⟨none, [], 0, rfl, by decide, fun h => absurd h (Nat.lt_irrefl 0)⟩
  · simp at hcs; subst hcs
    have hlm : len ≤ m := by rw [hmm]; split <;> omega
    have each : ∀ i, i < len → ∃ s : Sp, w.cell? (a'.add (i * 3 + 0)) = some (.int .i64 s.x) ∧ w.cell? (a'.add (i * 3 + 1)) = some (.int .i64 s.y) ∧ w.cell? (a'.add (i * 3 + 2)) = some (.bool s.far) := by
      intro i hil
      obtain ⟨ys, n, -, -, -, hj⟩ := hi i (by omega)
      obtain ⟨v0, y0, c0, -, t0⟩ := hj 0 f0 rfl
      obtain ⟨v1, y1, c1, -, t1⟩ := hj 1 f1 rfl
      obtain ⟨v2, y2, c2, -, t2⟩ := hj 2 f2 rfl
      obtain ⟨x, e0, -, -⟩ := DataW.trod_int h0 t0
      obtain ⟨y, e1, -, -⟩ := DataW.trod_int h1 t1
      obtain ⟨f, e2, -⟩ := DataW.trod_bool h2 t2
      simp at e0 e1 e2
      subst e0 e1 e2
      exact ⟨⟨x, y, f⟩, c0, c1, c2⟩
    obtain ⟨S, hS⟩ := choose_lt each
    unfold maxLen at hm
    refine ⟨some a', (List.range len).map S, cap, by simp, by simp; omega, fun hp => ?_⟩
    simp only [List.length_map, List.length_range] at hp
    obtain ⟨b, off, sp⟩ := a'
    obtain rfl : sp = none := spotless (b := b) (off := off) (by simpa [Addr.add] using (hS 0 hp).1)
    simp only [add_none] at hS
    refine ⟨b, off, rfl, World.block_lt_of_cell? w _ (hS 0 hp).1, ?_, ?_, ?_⟩
    all_goals
      intro i hi
      simp only [List.length_map, List.length_range] at hi
      simp only [List.getElem_map, List.getElem_range]
    · exact (hS i hi).1
    · exact (hS i hi).2.1
    · exact (hS i hi).2.2
theorem open_deals {r : Reach} {b0 : Nat} {t e : TypeId} {f0 f1 f2 g0 g1 s0 s1 s2 : Field} {ei es : TypeId} {v : Value} {d : DataW H} {ps : List MemPlace} (ht : P.underlying t = some (.slice e)) (hs : P.underlying e = some (.struct #[f0, f1, f2])) (hC : P.cellsOf e = 6) (ho0 : f0.offset = 0) (ho1 : f1.offset = 1) (ho2 : f2.offset = 2) (hC0 : P.cellsOf f0.type = 1) (hC1 : P.cellsOf f1.type = 1) (hC2 : P.cellsOf f2.type = 4)
    (j0 : P.underlying f0.type = some (.slice ei)) (j1 : P.underlying ei = some (.int .i64)) (j2 : P.cellsOf ei = 1) (l0 : P.underlying f1.type = some (.slice es)) (l1 : P.underlying es = some (.struct #[s0, s1, s2])) (l2 : P.cellsOf es = 3)
    (m0 : P.underlying f2.type = some (.struct #[g0, g1])) (mo0 : g0.offset = 0) (mo1 : g1.offset = 3) (mC0 : P.cellsOf g0.type = 3) (mC1 : P.cellsOf g1.type = 1)
    (hs0 : P.underlying g0.type = some (.struct #[s0, s1, s2])) (hone : oneCellFields P #[s0, s1, s2] = true) (i0 : P.underlying s0.type = some (.int .i64)) (i1 : P.underlying s1.type = some (.int .i64)) (i2 : P.underlying s2.type = some .bool) (i3 : P.underlying g1.type = some (.int .i64))
    (hv : Value.okWide P w r b0 t v) (h : DataW.Trod enc P w base spare held t v d ps) :
    DealsV w v := by
  obtain ⟨a, len, cap, rfl⟩ := okWide_slice ht hv
  obtain ⟨fuel, hf⟩ := h
  rcases open_slice ht hf with ⟨hn, -⟩ | ⟨a', len', cap', m, n, D, Pl, hcs, hb, hl, hm, hmm, hx, hi⟩
  · simp [Value.cells] at hn; obtain ⟨rfl, rfl, rfl⟩ := hn
    exact ⟨[], none, 0, rfl, fun h => absurd h (Nat.lt_irrefl 0), by decide⟩
  · simp [Value.cells] at hcs; obtain ⟨rfl, rfl, rfl⟩ := hcs
    by_cases hz : len = 0
    · subst hz
      exact ⟨[], _, _, rfl, fun h => absurd h (Nat.lt_irrefl 0), by decide⟩
    have hlm : len ≤ m := by rw [hmm]; split <;> omega
    have each : ∀ i, i < len → ∃ x : DealR, w.cell? (a'.add (i * 6 + 0)) = some (.slice x.ag x.G.length x.cg) ∧ w.cell? (a'.add (i * 6 + 1)) = some (.slice x.an x.C.length x.cn) ∧ w.cell? (a'.add (i * 6 + 2)) = some (.int .i64 x.r.x) ∧ w.cell? (a'.add (i * 6 + 3)) = some (.int .i64 x.r.y) ∧ w.cell? (a'.add (i * 6 + 4)) = some (.bool x.r.far) ∧ w.cell? (a'.add (i * 6 + 5)) = some (.int .i64 x.s) ∧ DealOk w x := by
      intro i hil
      obtain ⟨cs', hc, ht'⟩ := hi i (by omega)
      rw [hC] at hc
      obtain ⟨_, hcl, hat⟩ := World.cells?_some hc
      obtain ⟨c0, c1, c2, c3, c4, c5, rfl⟩ : ∃ c0 c1 c2 c3 c4 c5, cs' = [c0, c1, c2, c3, c4, c5] := by
        match cs', hcl with
        | [c0, c1, c2, c3, c4, c5], _ => exact ⟨c0, c1, c2, c3, c4, c5, rfl⟩
      obtain ⟨y0, y1, y2, n', hx', _, k0, k1, k2⟩ := trod_struct3 hs ht'
      rw [ho0, hC0] at k0
      rw [ho1, hC1] at k1
      rw [ho2, hC2] at k2
      have k0' : DataW.trod enc P w base spare held n' f0.type [c0] = some y0 := by simpa using k0
      have k1' : DataW.trod enc P w base spare held n' f1.type [c1] = some y1 := by simpa using k1
      have k2' : DataW.trod enc P w base spare held n' f2.type [c2, c3, c4, c5] = some y2 := by simpa using k2
      obtain ⟨u0, u1, n2, hx2, _, q0, q1⟩ := trod_struct2 m0 k2'
      rw [mo0, mC0] at q0
      rw [mo1, mC1] at q1
      obtain ⟨z0, z1, z2, m', hx'', _, p0, p1, p2⟩ := trod_struct3 hs0 (cs := [c2, c3, c4]) (by simpa using q0)
      obtain ⟨o0, r0⟩ := hone_of hone 0 s0 rfl
      obtain ⟨o1, r1⟩ := hone_of hone 1 s1 rfl
      obtain ⟨o2, r2⟩ := hone_of hone 2 s2 rfl
      have p0' : DataW.trod enc P w base spare held m' s0.type [c2] = some z0 := by simpa [o0, r0] using p0
      have p1' : DataW.trod enc P w base spare held m' s1.type [c3] = some z1 := by simpa [o1, r1] using p1
      have p2' : DataW.trod enc P w base spare held m' s2.type [c4] = some z2 := by simpa [o2, r2] using p2
      have p3' : DataW.trod enc P w base spare held n2 g1.type [c5] = some u1 := by simpa using q1
      obtain ⟨a, e0, -, -⟩ := DataW.trod_int i0 p0'
      obtain ⟨b, e1, -, -⟩ := DataW.trod_int i1 p1'
      obtain ⟨f, e2, -⟩ := DataW.trod_bool i2 p2'
      obtain ⟨c, e3, -, -⟩ := DataW.trod_int i3 p3'
      obtain ⟨ag, G, cg, e4, t1, t2, t3⟩ := trod_intl j0 j1 j2 k0'
      obtain ⟨an, C, cn, e5, t4, t5⟩ := trod_spotl l0 l1 hone l2 i0 i1 i2 k1'
      simp at e0 e1 e2 e3
      subst e0 e1 e2 e3 e4 e5
      have h0 := hat (i := 0) (by decide)
      have h1 := hat (i := 1) (by decide)
      have h2 := hat (i := 2) (by decide)
      have h3 := hat (i := 3) (by decide)
      have h4 := hat (i := 4) (by decide)
      have h5 := hat (i := 5) (by decide)
      rw [Go.Deep.add_add] at h0 h1 h2 h3 h4 h5
      exact ⟨⟨ag, G, cg, an, C, cn, ⟨a, b, f⟩, c⟩, h0, h1, h2, h3, h4, h5, t1, t2, t3, t4, t5⟩
    obtain ⟨S, hS⟩ := choose_lt each
    obtain ⟨b, off, sp⟩ := a'
    obtain rfl : sp = none := spotless (b := b) (off := off) (by simpa [Addr.add] using (hS 0 (by omega)).1)
    simp only [add_none] at hS
    unfold maxLen at hm
    refine ⟨(List.range len).map S, _, cap, by simp, fun _ => ⟨b, off, rfl, World.block_lt_of_cell? w _ (hS 0 (by omega)).1, ?_, ?_, ?_, ?_, ?_, ?_, ?_⟩, by simp; omega⟩
    all_goals
      intro i hi
      simp only [List.length_map, List.length_range] at hi
      simp only [List.getElem_map, List.getElem_range]
    · exact (hS i hi).1
    · exact (hS i hi).2.1
    · exact (hS i hi).2.2.1
    · exact (hS i hi).2.2.2.1
    · exact (hS i hi).2.2.2.2.1
    · exact (hS i hi).2.2.2.2.2.1
    · exact (hS i hi).2.2.2.2.2.2
end
end Go.Proofs.YtahgaccdeakmcaaGreatDoor
namespace Go.Proofs.YtahgaccdeakmcaaGreatDoor
open Go.RowKit
set_option maxRecDepth 100000
set_option linter.unusedVariables false
set_option linter.unusedSimpArgs false
set_option maxHeartbeats 1000000 in
theorem refBytes_far (x y : Int) (w : World) : Calls Tryz.prog 153 #[.agg #[.int .i64 x, .int .i64 y, .bool true]] w fun e w' => e = .returned (.string ⟨#[0]⟩) ∧ Below w.heap.size w w' := by
  go_enter Tryz.func153, Tryz.ntmps153
  go_wp2
  go_ret
  exact ⟨rfl, (by repeat (first | exact Below.refl _ _ | refine balloc ?_ _ | refine Below.drew ?_ | refine below_drewN ?_ _ | refine below_set ?_ (by first | omega | (dsimp only; omega)) _))⟩
set_option maxHeartbeats 1000000 in
theorem refBytes_big (x y : Int) (w : World) (x0 : 0 ≤ x) (x1 : x < 4051) (y0 : 0 ≤ y) (y1 : y < 4051) (h : 4051 < 2 * y) : Calls Tryz.prog 153 #[.agg #[.int .i64 x, .int .i64 y, .bool false]] w fun e w' => e = .returned (.string (strOfNums [2, x / 256, x % 256])) ∧ Below w.heap.size w w' := by
  have hcv := conv3 ((w.alloc (.cells #[.int .i64 x, .int .i64 y, .bool false] 28)).alloc (.cells #[.int .u8 2, .int .u8 (x / 256), .int .u8 (x % 256)] 5)) (w.heap.size + 1) 2 (x / 256) (x % 256) (by go_simp) (by go_simp) (by go_simp)
  go_enter Tryz.func153, Tryz.ntmps153
  go_wp2
  go_ret
  exact ⟨rfl, balloc (below_alloc _ _) _⟩
set_option maxHeartbeats 1000000 in
theorem refBytes_small (x y : Int) (w : World) (x0 : 0 ≤ x) (x1 : x < 4051) (y0 : 0 ≤ y) (y1 : y < 4051) (h : ¬ 4051 < 2 * y) : Calls Tryz.prog 153 #[.agg #[.int .i64 x, .int .i64 y, .bool false]] w fun e w' => e = .returned (.string (strOfNums [1, x / 256, x % 256])) ∧ Below w.heap.size w w' := by
  have hcv := conv3 ((w.alloc (.cells #[.int .i64 x, .int .i64 y, .bool false] 28)).alloc (.cells #[.int .u8 1, .int .u8 (x / 256), .int .u8 (x % 256)] 5)) (w.heap.size + 1) 1 (x / 256) (x % 256) (by go_simp) (by go_simp) (by go_simp)
  go_enter Tryz.func153, Tryz.ntmps153
  go_wp2
  go_ret
  exact ⟨rfl, balloc (below_alloc _ _) _⟩
theorem big_iff {y : Int} (y0 : 0 ≤ y) (y1 : y < 4051) : pOf (-y) < y ↔ 4051 < 2 * y := by
  by_cases h : y = 0
  · subst h; unfold pOf; decide
  · have e : pOf (-y) = 4051 - y := by
      unfold pOf
      rw [show -y = (4051 - y) + 4051 * (-1) by omega, Int.add_mul_emod_self_left]
      exact Int.emod_eq_of_lt (by omega) (by omega)
    rw [e]; omega
theorem refBytes_c (s : Sp) (w : World) (h : Ok s) : Calls Tryz.prog 153 #[spV s] w fun e w' => e = .returned (.string (sBytes s)) ∧ Below w.heap.size w w' := by
  have x0 := h.x0; have x1 := h.x1; have y0 := h.y0; have y1 := h.y1
  obtain ⟨x, y, f⟩ := s
  simp only at x0 x1 y0 y1
  cases f
  · by_cases hy : pOf (-y) < y
    · have e : sBytes ⟨x, y, false⟩ = strOfNums [2, x / 256, x % 256] := by simp [sBytes, hy]
      rw [e]; exact refBytes_big x y w x0 x1 y0 y1 ((big_iff y0 y1).mp hy)
    · have e : sBytes ⟨x, y, false⟩ = strOfNums [1, x / 256, x % 256] := by simp [sBytes, hy]
      rw [e]; exact refBytes_small x y w x0 x1 y0 y1 (fun c => hy ((big_iff y0 y1).mpr c))
  · exact refBytes_far x y w
theorem refBytes_e (s : Sp) (B : ByteArray) (w : World) (h : Ok s) (hB : Hid (sBytes s = B)) : Calls Tryz.prog 153 #[spV s] w fun e w' => e = .returned (.string B) ∧ Below w.heap.size w w' := by
  have := refBytes_c s w h; rw [hB.out] at this; exact this
set_option maxHeartbeats 1000000 in
theorem refList_nil (a : Option Addr) (cap : Nat) (w : World) : Calls Tryz.prog 114 #[.slice a 0 cap] w fun e w' => e = .returned (.string (strOfNums [0])) ∧ Below w.heap.size w w' := by
  have hcv := conv1 (w.alloc (.cells #[.int .u8 0] 5)) w.heap.size 0 (by go_simp)
  go_enter Tryz.func114, Tryz.ntmps114
  go_wp2
  refine wp_loop_rounds 1 ?_
  rw [rounds_succ]
  go_wp2
  go_ret
  exact ⟨rfl, below_alloc _ _⟩
set_option maxHeartbeats 1000000 in
theorem refList_ok (l : List Sp) (b off cap : Nat) (w : World) (hl : l.length ≤ 12) (hs : SpotsAt w b off l) (h : Hid (∀ i (h : i < l.length), Ok l[i])) :
    Calls Tryz.prog 114 #[.slice (some ⟨b, off, none⟩) l.length cap] w fun e w' => e = .returned (.string (lsB l.length l)) ∧ Below w.heap.size w w' := by
  have hcv := conv1 (w.alloc (.cells #[.int .u8 l.length] 5)) w.heap.size l.length (by go_simp)
  go_enter Tryz.func114, Tryz.ntmps114
  go_wp2
  have hss := Lib.hid (hs.below (below_alloc w (.cells #[.int .u8 l.length] 5)))
  have hBs := Lib.hid (below_alloc w (.cells #[.int .u8 l.length] 5))
  clear hcv hs
  generalize w.alloc (.cells #[.int .u8 l.length] 5) = w0 at *
  go_loopw [4, 5] (fun o i wr => ∃ n : Nat, n ≤ l.length ∧ i = .int .i64 n ∧ o = .string (lsB l.length (l.take n)) ∧ Below w0.heap.size w0 wr) (fun _ i _ => l.length - (intOf i).toNat)
  case atStart => exact ⟨0, Nat.zero_le _, rfl, rfl, Below.refl _ _⟩
  case round =>
    obtain ⟨n, hn, rfl, rfl, hb⟩ := hrel
    have hsr := hss.out.below hb
    by_cases hlt : n < l.length
    · have h1 := hsr.cx n hlt
      have h2 := hsr.cy n hlt
      have h3 := hsr.cf n hlt
      clear hsr
      have ho := h.out n hlt
      have hsn := Lib.hid (lsB_snoc l.length l n hlt)
      go_wp2_with fail
      refine (refBytes_c l[n] _ ho).mono ?_; rintro e w1 ⟨rfl, hb1⟩
      clear h1 h2 h3 ho
      have hz1 := lsB_size l.length (l.take n)
      have hz2 := sBytes_size l[n]
      have hz3 : (l.take n).length ≤ 12 := by rw [List.length_take]; omega
      have hz4 : (lsB l.length (l.take n)).size ≤ 37 := by omega
      clear hz1 hz3
      go_wp2
      go_roundw
      case rel => exact ⟨n + 1, by omega, by go_num, by rw [hsn.out], below_seq hb hb1⟩
      case measure => simp [intOf]; omega
    · have ht : Hid (l.take n = l) := List.take_of_length_le (by omega)
      go_wp2
      go_ret
      exact ⟨ret_string (by rw [ht.out]), below_seq hBs.out hb⟩
end Go.Proofs.YtahgaccdeakmcaaGreatDoor
namespace Go.Proofs.YtahgaccdeakmcaaGreatDoor
structure Z where
  re : F
  im : F
theorem Z.ext' {a b : Z} (h1 : a.re = b.re) (h2 : a.im = b.im) : a = b := by cases a; cases b; simp only at h1 h2; subst h1 h2; rfl
def Z.one : Z := ⟨1, 0⟩
def Z.mul (a b : Z) : Z := ⟨a.re * b.re - a.im * b.im, a.re * b.im + a.im * b.re⟩
def Z.add (a b : Z) : Z := ⟨a.re + b.re, a.im + b.im⟩
def Z.conj (a : Z) : Z := ⟨a.re, -a.im⟩
def Z.norm (a : Z) : F := a.re * a.re + a.im * a.im
def Z.of (a : F) : Z := ⟨a, 0⟩
def Z.pow (a : Z) : Nat → Z
  | 0 => .one
  | n+1 => (a.pow n).mul a
theorem Z.mul_comm (a b : Z) : a.mul b = b.mul a := Z.ext' (by simp only [Z.mul]; grobner) (by simp only [Z.mul]; grobner)
theorem Z.mul_assoc (a b c : Z) : (a.mul b).mul c = a.mul (b.mul c) := Z.ext' (by simp only [Z.mul]; grobner) (by simp only [Z.mul]; grobner)
theorem Z.mul_left_comm (a b c : Z) : a.mul (b.mul c) = b.mul (a.mul c) := by rw [← Z.mul_assoc, Z.mul_comm a b, Z.mul_assoc]
theorem Z.mul_one (a : Z) : a.mul .one = a := Z.ext' (by simp only [Z.mul, Z.one]; grobner) (by simp only [Z.mul, Z.one]; grobner)
theorem Z.one_mul (a : Z) : Z.one.mul a = a := by rw [Z.mul_comm, Z.mul_one]
theorem Z.mul_add (a b c : Z) : a.mul (b.add c) = (a.mul b).add (a.mul c) := Z.ext' (by simp only [Z.mul, Z.add]; grobner) (by simp only [Z.mul, Z.add]; grobner)
theorem Z.conj_mul (a b : Z) : (a.mul b).conj = a.conj.mul b.conj := Z.ext' (by simp only [Z.mul, Z.conj]; grobner) (by simp only [Z.mul, Z.conj]; grobner)
theorem Z.conj_conj (a : Z) : a.conj.conj = a := Z.ext' rfl (by simp only [Z.conj]; grobner)
theorem Z.mul_conj (a : Z) : a.mul a.conj = .of a.norm := Z.ext' (by simp only [Z.mul, Z.conj, Z.norm, Z.of]; grobner) (by simp only [Z.mul, Z.conj, Z.of]; grobner)
theorem Z.norm_mul (a b : Z) : (a.mul b).norm = a.norm * b.norm := by simp only [Z.mul, Z.norm]; grobner
theorem Z.norm_conj (a : Z) : a.conj.norm = a.norm := by simp only [Z.conj, Z.norm]; grobner
theorem Z.norm_of (a : F) : (Z.of a).norm = a * a := by simp only [Z.of, Z.norm]; grobner
theorem Z.of_mul (a b : F) : (Z.of a).mul (.of b) = .of (a * b) := Z.ext' (by simp only [Z.mul, Z.of]; grobner) (by simp only [Z.mul, Z.of]; grobner)
theorem Z.norm_zero {a : Z} (h : a.norm = 0) : a.re = 0 ∧ a.im = 0 := by
  have key : ∀ x y : F, x * x + y * y = 0 → y = 0 := fun x y e => by
    by_cases hy : y = 0
    · exact hy
    · exfalso
      have h1 := mul_inv hy
      refine neg_one_nonsq (x * inv y) ?_
      have e2 : x * inv y * (x * inv y) = (x * x) * (inv y * inv y) := by grobner
      have e3 : x * x = - (y * y) := by grobner
      rw [e2, e3, show -(y*y) * (inv y * inv y) = -((y * inv y) * (y * inv y)) by grobner, h1]; grobner
  have h' : a.re * a.re + a.im * a.im = 0 := h
  exact ⟨key a.im a.re (by grobner), key a.re a.im h'⟩
theorem Z.pow_add (a : Z) (m : Nat) : ∀ n, a.pow (m + n) = (a.pow m).mul (a.pow n)
  | 0 => (Z.mul_one _).symm
  | n+1 => by show (a.pow (m + n)).mul a = _; rw [Z.pow_add a m n, Z.mul_assoc]; rfl
theorem Z.pow_mul (a : Z) (m : Nat) : ∀ n, a.pow (m * n) = (a.pow m).pow n
  | 0 => rfl
  | n+1 => by rw [Nat.mul_succ, Z.pow_add, Z.pow_mul a m n]; rfl
theorem Z.mul_pow (a b : Z) : ∀ n, (a.mul b).pow n = (a.pow n).mul (b.pow n)
  | 0 => (Z.mul_one _).symm
  | n+1 => by
    show ((a.mul b).pow n).mul (a.mul b) = ((a.pow n).mul a).mul ((b.pow n).mul b)
    rw [Z.mul_pow a b n]
    simp only [Z.mul_assoc, Z.mul_left_comm, Z.mul_comm]
theorem Z.one_pow : ∀ n, Z.one.pow n = .one
  | 0 => rfl
  | n+1 => by show (Z.one.pow n).mul .one = _; rw [Z.mul_one, Z.one_pow n]
theorem Z.conj_pow (a : Z) : ∀ n, (a.pow n).conj = a.conj.pow n
  | 0 => Z.ext' rfl (by show -(0 : F) = 0; decide)
  | n+1 => by show ((a.pow n).mul a).conj = _; rw [Z.conj_mul, Z.conj_pow a n]; rfl
theorem Z.of_pow (a : F) : ∀ n : Nat, (Z.of a).pow n = .of (a ^ n)
  | 0 => Z.ext' (by show (1 : F) = a ^ 0; grobner) rfl
  | n+1 => by show ((Z.of a).pow n).mul (.of a) = _; rw [Z.of_pow a n, Z.of_mul]; congr 1
theorem Z.norm_pow (a : Z) : ∀ n : Nat, (a.pow n).norm = a.norm ^ n
  | 0 => by show Z.one.norm = a.norm ^ 0; rw [show Z.one.norm = 1 by decide]; grobner
  | n+1 => by show ((a.pow n).mul a).norm = _; rw [Z.norm_mul, Z.norm_pow a n]; grobner

/-- t + i to the power 4052 is t t + 1, by the kernel, at each t. -/
def qm (a b c d : Nat) : Nat × Nat := ((a * c + (4051 - b) * d) % 4051, (a * d + b * c) % 4051)
def qsq (p : Nat × Nat) : Nat × Nat := qm p.1 p.2 p.1 p.2
def qmul (t : Nat) (p : Nat × Nat) : Nat × Nat := qm p.1 p.2 t 1
def qpow (t : Nat) : Nat × Nat :=
  -- 4052 = 111111010100
  qsq (qsq (qmul t (qsq (qsq (qmul t (qsq (qsq (qmul t (qsq (qmul t (qsq (qmul t (qsq (qmul t (qsq (qmul t (qsq (t, 1))))))))))))))))))
def qok (t : Nat) : Bool := match qpow t with | (a, b) => Nat.beq a ((t * t + 1) % 4051) && Nat.beq b 0
def qall : Nat → Bool
  | 0 => true
  | k+1 => qok k && qall k
theorem qall_ok : qall 4051 = true := by decide +kernel
def eNorm : Nat := 4052
def zn (p : Nat × Nat) : Z := ⟨fi p.1, fi p.2⟩
theorem qm_ok (a b c d : Nat) (hb : b ≤ 4051) : zn (qm a b c d) = (zn (a, b)).mul (zn (c, d)) := by
  have e : fi ((4051 - b : Nat) : Int) = - fi (b : Int) := by rw [← fi_neg]; exact fi_eq.mpr (by omega)
  apply Z.ext'
  · show fi (((a * c + (4051 - b) * d) % 4051 : Nat) : Int) = fi a * fi c - fi b * fi d
    rw [Int.natCast_emod, show ((4051 : Nat) : Int) = 4051 from rfl, fi_mod, Int.natCast_add, Int.natCast_mul, Int.natCast_mul, fi_add, fi_mul, fi_mul, e]; grobner
  · show fi (((a * d + b * c) % 4051 : Nat) : Int) = fi a * fi d + fi b * fi c
    rw [Int.natCast_emod, show ((4051 : Nat) : Int) = 4051 from rfl, fi_mod, Int.natCast_add, Int.natCast_mul, Int.natCast_mul, fi_add, fi_mul, fi_mul]
theorem qm_le (a b c d : Nat) : (qm a b c d).2 ≤ 4051 := by show (a * d + b * c) % 4051 ≤ 4051; omega
theorem qsq_ok (p : Nat × Nat) (n : Nat) (z : Z) (h : p.2 ≤ 4051 ∧ zn p = z.pow n) : (qsq p).2 ≤ 4051 ∧ zn (qsq p) = z.pow (n + n) :=
  ⟨qm_le _ _ _ _, by unfold qsq; rw [qm_ok _ _ _ _ h.1, Z.pow_add, ← h.2]⟩
theorem qmul_ok (t : Nat) (p : Nat × Nat) (n : Nat) (h : p.2 ≤ 4051 ∧ zn p = (zn (t, 1)).pow n) : (qmul t p).2 ≤ 4051 ∧ zn (qmul t p) = (zn (t, 1)).pow (n + 1) :=
  ⟨qm_le _ _ _ _, by unfold qmul; rw [qm_ok _ _ _ _ h.1]; show (zn p).mul _ = _; rw [h.2]; rfl⟩
theorem qpow_ok (t : Nat) : zn (qpow t) = (zn (t, 1)).pow eNorm := by
  have h0 : (t, 1).2 ≤ 4051 ∧ zn (t, 1) = (zn (t, 1)).pow 1 := ⟨(by show 1 ≤ 4051; decide), (Z.one_mul _).symm⟩
  have h1 := qmul_ok t _ _ (qsq_ok _ _ _ h0)
  have h2 := qmul_ok t _ _ (qsq_ok _ _ _ h1)
  have h3 := qmul_ok t _ _ (qsq_ok _ _ _ h2)
  have h4 := qmul_ok t _ _ (qsq_ok _ _ _ h3)
  have h5 := qmul_ok t _ _ (qsq_ok _ _ _ h4)
  have h6 := qmul_ok t _ _ (qsq_ok _ _ _ (qsq_ok _ _ _ h5))
  have h7 := qmul_ok t _ _ (qsq_ok _ _ _ (qsq_ok _ _ _ h6))
  exact (qsq_ok _ _ _ (qsq_ok _ _ _ h7)).2
theorem qall_at : ∀ n, qall n = true → ∀ k, k < n → qok k = true
  | 0, _, _, hk => absurd hk (Nat.not_lt_zero _)
  | n+1, h, k, hk => by
    simp only [qall, Bool.and_eq_true] at h
    rcases Nat.lt_succ_iff_lt_or_eq.mp hk with h1 | h1
    · exact qall_at n h.2 k h1
    · subst h1; exact h.1
theorem frob_ti (t : F) : (Z.mk t 1).pow eNorm = .of ((Z.mk t 1).norm) := by
  have h := qall_at 4051 qall_ok t.val t.isLt
  have e := qpow_ok t.val
  have et : fi (t.val : Int) = t := fi_fz t
  have e1 : zn (t.val, 1) = Z.mk t 1 := Z.ext' et rfl
  rw [e1] at e
  rw [← e]
  unfold qok at h
  generalize qpow t.val = p at *
  obtain ⟨a, b⟩ := p
  simp only [Bool.and_eq_true, Nat.beq_eq] at h
  obtain ⟨ha, hb⟩ := h
  subst ha hb
  apply Z.ext'
  · show fi (((t.val * t.val + 1) % 4051 : Nat) : Int) = t * t + 1 * 1
    rw [Int.natCast_emod, show ((4051 : Nat) : Int) = 4051 from rfl, fi_mod, Int.natCast_add, Int.natCast_mul, fi_add, fi_mul, et]; rfl
  · rfl
theorem fpow_inv {a : F} (h : a ≠ 0) : a ^ (eInv + 1) = 1 := by
  have h1 : a ^ (eInv + 1) = a ^ eInv * a := by grobner
  rw [h1, ← inv_pow]; exact inv_mul h
theorem fpow_4052 (a : F) : a ^ eNorm = a * a := by
  by_cases h : a = 0
  · subst h
    have : (0:F) ^ (eInv + 3) = 0 ^ (eInv + 2) * 0 := by grobner
    rw [show eNorm = eInv + 3 from rfl, this]; grobner
  · have : a ^ (eInv + 3) = a ^ (eInv + 1) * (a * a) := by grobner
    rw [show eNorm = eInv + 3 from rfl, this, fpow_inv h]; grobner
/-- z to the power 4052 is its norm. -/
theorem frob_norm (z : Z) : z.pow eNorm = .of z.norm := by
  by_cases hb : z.im = 0
  · have e : z = .of z.re := Z.ext' rfl hb
    rw [e, Z.of_pow, Z.norm_of, fpow_4052]
  · have e : z = (Z.of z.im).mul ⟨z.re * inv z.im, 1⟩ := by
      have := mul_inv hb
      apply Z.ext'
      · show z.re = z.im * (z.re * inv z.im) - 0 * 1
        rw [show z.im * (z.re * inv z.im) - 0 * 1 = z.re * (z.im * inv z.im) by grobner, this]; grobner
      · show z.im = z.im * 1 + 0 * (z.re * inv z.im); grobner
    generalize (z.re * inv z.im) = t at e
    rw [e, Z.mul_pow, frob_ti, Z.of_pow, Z.of_mul, Z.norm_mul, Z.norm_of, fpow_4052]
/-- The pair of two numbers. -/
def zi (a b : Int) : Z := ⟨fi a, fi b⟩
theorem zi_fz (z : Z) : zi (fz z.re) (fz z.im) = z := Z.ext' (fi_fz _) (fi_fz _)
theorem fz_eq {a : Int} {x : F} (h0 : 0 ≤ a ∧ a < 4051) (h : fi a = x) : a = fz x := by rw [← h, fz_fi]; omega
theorem fz_inj {x y : F} (h : fz x = fz y) : x = y := by rw [← fi_fz x, h, fi_fz]
theorem zmul_re (a b c d : Int) : pSub (pMul a c) (pMul b d) = fz ((zi a b).mul (zi c d)).re := fz_eq (r_pSub _ _) (by rw [fi_pSub, fi_pMul, fi_pMul]; rfl)
theorem zmul_im (a b c d : Int) : pAdd (pMul a d) (pMul b c) = fz ((zi a b).mul (zi c d)).im := fz_eq (r_pAdd _ _) (by rw [fi_pAdd, fi_pMul, fi_pMul]; rfl)
theorem zadd_re (a b c d : Int) : pAdd a c = fz ((zi a b).add (zi c d)).re := fz_eq (r_pAdd _ _) (by rw [fi_pAdd]; rfl)
theorem zadd_im (a b c d : Int) : pAdd b d = fz ((zi a b).add (zi c d)).im := fz_eq (r_pAdd _ _) (by rw [fi_pAdd]; rfl)
theorem zof_re (a b : Int) : pOf a = fz (zi a b).re := fz_eq (r_pOf _) (by rw [pOf, fi_mod]; rfl)
theorem zof_im (a b : Int) : pOf b = fz (zi a b).im := fz_eq (r_pOf _) (by rw [pOf, fi_mod]; rfl)
theorem zconj_im (a b : Int) : pSub 0 b = fz (zi a b).conj.im := fz_eq (r_pSub _ _) (by rw [fi_pSub, fi_zero]; show 0 - fi b = - fi b; grobner)
theorem zconj_re (a b : Int) : pOf a = fz (zi a b).conj.re := fz_eq (r_pOf _) (by rw [pOf, fi_mod]; rfl)
theorem znorm (a b : Int) : pAdd (pMul a a) (pMul b b) = fz (zi a b).norm := fz_eq (r_pAdd _ _) (by rw [fi_pAdd, fi_pMul, fi_pMul]; rfl)
theorem zpow_half (z : Z) (n : Int) (h : 0 ≤ n) : z.pow n.toNat = ((z.mul z).pow (n / 2).toNat).mul (z.pow (n % 2).toNat) := by
  have f : ∀ k : Nat, (z.mul z).pow k = z.pow (k + k) := fun k => by
    induction k with
    | zero => rfl
    | succ k ih => show ((z.mul z).pow k).mul (z.mul z) = _; rw [ih, show k + 1 + (k + 1) = k + k + 1 + 1 by omega]; show _ = ((z.pow (k + k)).mul z).mul z; rw [Z.mul_assoc]
  rw [f, ← Z.pow_add]; congr 1; omega
/-- What holds at the head of the loop of twin.Power. -/
def ZAt (s z o : Z) (n : Int) : Prop := 0 ≤ n ∧ n ≤ 9223372036854775807 ∧ o.mul (z.pow n.toNat) = s
theorem zAt_odd {s z o : Z} {n : Int} (h : ZAt s z o n) (hb : n % 2 = 1) : ZAt s (z.mul z) (o.mul z) (n / 2) := by
  obtain ⟨h1, h2, h3⟩ := h
  refine ⟨by omega, by omega, ?_⟩
  rw [← h3, zpow_half z n h1, hb, show (1 : Int).toNat = 1 from rfl, show z.pow 1 = z from Z.one_mul _, Z.mul_assoc, Z.mul_comm ((z.mul z).pow _) z]
theorem zAt_even {s z o : Z} {n : Int} (h : ZAt s z o n) (hb : n % 2 = 0) : ZAt s (z.mul z) o (n / 2) := by
  obtain ⟨h1, h2, h3⟩ := h
  refine ⟨by omega, by omega, ?_⟩
  rw [← h3, zpow_half z n h1, hb, show (0 : Int).toNat = 0 from rfl, show z.pow 0 = .one from rfl, Z.mul_one]
theorem zAt_end {s z o : Z} {n : Int} (h : ZAt s z o n) (hn : n ≤ 0) : o = s := by
  obtain ⟨h1, _, h3⟩ := h
  have : n = 0 := by omega
  rw [← h3, this, show (0 : Int).toNat = 0 from rfl, show z.pow 0 = .one from rfl, Z.mul_one]
theorem zAt_start (z : Z) (n : Int) (h : 0 ≤ n) (h2 : n ≤ 9223372036854775807) : ZAt (z.pow n.toNat) z .one n := ⟨h, h2, Z.one_mul _⟩
theorem zAt_bd {s z o : Z} {n : Int} (h : ZAt s z o n) : 0 ≤ n ∧ n ≤ 9223372036854775807 := ⟨h.1, h.2.1⟩
theorem zi_two : (zi 0 1).pow (2 : Int).toNat = ⟨4050, 0⟩ := Z.ext' (by decide +kernel) (by decide +kernel)
theorem zi_ii : (zi 0 1).mul (zi 0 1) = ⟨4050, 0⟩ := Z.ext' (by decide +kernel) (by decide +kernel)
theorem zpow_frob (z : Z) : z.pow (4051 : Int).toNat = z.conj := by
  by_cases h : z.norm = 0
  · obtain ⟨h1, h2⟩ := Z.norm_zero h
    have e : z = .of 0 := Z.ext' h1 h2
    rw [e, show (4051 : Int).toNat = eInv + 2 from rfl, Z.of_pow]
    have : (0 : F) ^ (eInv + 2) = 0 ^ (eInv + 1) * 0 := by grobner
    rw [this]; exact Z.ext' (by show (0 : F) ^ (eInv + 1) * 0 = 0; grobner) (by show (0 : F) = -0; decide)
  · have e := frob_norm z
    rw [← Z.mul_conj, show eNorm = (4051 : Int).toNat + 1 from rfl] at e
    have e2 : (z.pow (4051 : Int).toNat).mul z = z.mul z.conj := e
    have k : (z.mul z.conj).mul (.of (inv z.norm)) = .one := by rw [Z.mul_conj, Z.of_mul, mul_inv h]; rfl
    have e3 := congrArg (fun x => x.mul (z.conj.mul (.of (inv z.norm)))) e2
    have l : ∀ x : Z, (x.mul z).mul (z.conj.mul (.of (inv z.norm))) = x := fun x => by
      rw [Z.mul_assoc, ← Z.mul_assoc z, k, Z.mul_one]
    rw [Z.mul_comm z z.conj] at e3
    have e4 : ((z.pow (4051 : Int).toNat).mul z).mul (z.conj.mul (.of (inv z.norm))) = (z.conj.mul z).mul (z.conj.mul (.of (inv z.norm))) := e3
    rw [l, l] at e4; exact e4
theorem fz_zero_iff {x : F} : fz x = 0 ↔ x = 0 := ⟨fun h => fz_inj (h.trans (by decide)), fun h => by rw [h]; decide⟩
theorem znorm_mul (a b : Z) : fz (a.mul b).norm = pMul (fz a.norm) (fz b.norm) := (fz_eq (r_pMul _ _) (by rw [fi_pMul, fi_fz, fi_fz, Z.norm_mul])).symm
theorem zmul_conj_re (a : Z) : fz (a.mul a.conj).re = fz a.norm := by rw [Z.mul_conj]; rfl
theorem zmul_conj_im (a : Z) : fz (a.mul a.conj).im = 0 := by rw [Z.mul_conj]; show fz (0 : F) = 0; decide
theorem znorm_ne {a : Z} (h : a.norm ≠ 0) : pOf (fz a.norm) ≠ 0 := fun e => h (fz_zero_iff.mp (by
  have := fz_lt a.norm; unfold pOf at e; omega))
theorem zinv {a : Z} (h : a.norm ≠ 0) : a.mul (a.conj.mul (zi (pInv (fz a.norm)) 0)) = .one := by
  rw [← Z.mul_assoc, Z.mul_conj]
  have : zi (pInv (fz a.norm)) 0 = .of (inv a.norm) := Z.ext' (by show fi (pInv (fz a.norm)) = _; rw [fi_pInv, fi_fz]; rfl) rfl
  rw [this, Z.of_mul, mul_inv h]; rfl
theorem Z.pow_zero (a : Z) : a.pow 0 = .one := rfl
theorem Z.pow_succ (a : Z) (n : Nat) : a.pow (n + 1) = (a.pow n).mul a := rfl
theorem Z.pow_one (a : Z) : a.pow 1 = a := Z.one_mul _
attribute [irreducible] Z.pow
end Go.Proofs.YtahgaccdeakmcaaGreatDoor
namespace Go.Proofs.YtahgaccdeakmcaaGreatDoor
open Go.RowKit
/-- A number of the greater field, as the program has it. -/
abbrev twR (z : Z) : Value := .agg #[.int .i64 (fz z.re), .int .i64 (fz z.im)]
set_option maxRecDepth 100000 in
set_option maxHeartbeats 400000 in
theorem twinMul_c (a b c d : Int) (w : World) : Calls Tryz.prog 203 #[.agg #[.int .i64 a, .int .i64 b], .agg #[.int .i64 c, .int .i64 d]] w fun e w' => e = .returned (twR ((zi a b).mul (zi c d))) ∧ Below w.heap.size w w' := by
  go_enter Tryz.func203, Tryz.ntmps203
  go_wp2
  refine wp_region_st 23 Tryz.mixed (by kernel_rfl) ?_
  simp only [List.take_succ_cons, List.take_zero, List.drop_succ_cons, List.drop_zero]
  repeat (first | still_step | still_call (stl (primeMul_c _ _ _)) | still_call (stl (primeSub_c _ _ _)) | still_call (stl (primeAdd_c _ _ _)) | still_call (stl (primeOf_c _ _)))
  refine wpStill_nil ?_
  rw [zmul_re, zmul_im]
  go_wp2
  refine bodyPost_ret (v := twR ((zi a b).mul (zi c d))) (by simp [results, Tryz.results203, go_sem]) rfl ⟨rfl, ?_⟩
  repeat (first | exact Below.refl _ _ | refine Below.drew ?_ | refine balloc ?_ _)
structure TwMem (w wr : World) (za zb oa ob : Int) : Prop where
  a0 : wr.cell? ⟨w.heap.size, 0, none⟩ = some (.int .i64 za)
  a1 : wr.cell? ⟨w.heap.size, 1, none⟩ = some (.int .i64 zb)
  o0 : wr.cell? ⟨w.heap.size + 1 + 1, 0, none⟩ = some (.int .i64 oa)
  o1 : wr.cell? ⟨w.heap.size + 1 + 1, 1, none⟩ = some (.int .i64 ob)
  r0 : wr.cell? ⟨w.heap.size + 1, 0, none⟩ = some (.int .i64 0)
  r1 : wr.cell? ⟨w.heap.size + 1, 1, none⟩ = some (.int .i64 0)
  fa0 : wr.frozen? ⟨w.heap.size, 0, none⟩ = false
  fa1 : wr.frozen? ⟨w.heap.size, 1, none⟩ = false
  fo0 : wr.frozen? ⟨w.heap.size + 1 + 1, 0, none⟩ = false
  fo1 : wr.frozen? ⟨w.heap.size + 1 + 1, 1, none⟩ = false
  fr0 : wr.frozen? ⟨w.heap.size + 1, 0, none⟩ = false
  fr1 : wr.frozen? ⟨w.heap.size + 1, 1, none⟩ = false
  sz : w.heap.size + 1 + 1 < wr.heap.size
  bel : Below w.heap.size w wr
theorem TwMem.below {w wr w1 : World} {za zb oa ob : Int} (h : TwMem w wr za zb oa ob) (hb : Below wr.heap.size wr w1) : TwMem w w1 za zb oa ob := by
  obtain ⟨a0, a1, o0, o1, r0, r1, fa0, fa1, fo0, fo1, fr0, fr1, hsz, hbel⟩ := h
  obtain ⟨hc, hf⟩ := bcell hb
  have := hb.size
  exact ⟨(hc _ _ (by omega)).trans a0, (hc _ _ (by omega)).trans a1, (hc _ _ (by omega)).trans o0, (hc _ _ (by omega)).trans o1, (hc _ _ (by omega)).trans r0, (hc _ _ (by omega)).trans r1,
    (hf _ _ (by omega)).trans fa0, (hf _ _ (by omega)).trans fa1, (hf _ _ (by omega)).trans fo0, (hf _ _ (by omega)).trans fo1, (hf _ _ (by omega)).trans fr0, (hf _ _ (by omega)).trans fr1, by omega, hbel.trans (hb.mono hbel.size)⟩
theorem set2_cell {w : World} {b : Nat} {u v x y : Value} (h0 : w.cell? ⟨b, 0, none⟩ = some u) (h1 : w.cell? ⟨b, 1, none⟩ = some v) :
    ((w.setCell ⟨b, 0, none⟩ x).setCell ⟨b, 1, none⟩ y).cell? ⟨b, 0, none⟩ = some x ∧ ((w.setCell ⟨b, 0, none⟩ x).setCell ⟨b, 1, none⟩ y).cell? ⟨b, 1, none⟩ = some y := by
  constructor
  · rw [World.cell?_setCell_other (h := by simp)]; exact World.cell?_setCell_same _ _ _ h0
  · exact World.cell?_setCell_same _ _ _ (by rw [World.cell?_setCell_other (h := by simp)]; exact h1)
theorem set2_other {w : World} {b c k : Nat} {x y : Value} (h : b ≠ c) : ((w.setCell ⟨b, 0, none⟩ x).setCell ⟨b, 1, none⟩ y).cell? ⟨c, k, none⟩ = w.cell? ⟨c, k, none⟩ := by
  rw [World.cell?_setCell_other (h := fun e => h (congrArg Addr.block e)), World.cell?_setCell_other (h := fun e => h (congrArg Addr.block e))]
theorem set2_below {B : Nat} {a w : World} {b : Nat} {x y : Value} (h : Below B a w) (hb : B ≤ b) : Below B a ((w.setCell ⟨b, 0, none⟩ x).setCell ⟨b, 1, none⟩ y) := (h.setCell hb x).setCell hb y
theorem set2_size {w : World} {b : Nat} {x y : Value} : ((w.setCell ⟨b, 0, none⟩ x).setCell ⟨b, 1, none⟩ y).heap.size = w.heap.size := by simp [World.setCell]
theorem TwMem.setO {w wr : World} {za zb oa ob x y : Int} (h : TwMem w wr za zb oa ob) : TwMem w ((wr.setCell ⟨w.heap.size + 1 + 1, 0, none⟩ (.int .i64 x)).setCell ⟨w.heap.size + 1 + 1, 1, none⟩ (.int .i64 y)) za zb x y := by
  obtain ⟨a0, a1, o0, o1, r0, r1, fa0, fa1, fo0, fo1, fr0, fr1, hsz, hbel⟩ := h
  have k := set2_cell (x := .int .i64 x) (y := .int .i64 y) o0 o1
  refine ⟨?_, ?_, k.1, k.2, ?_, ?_, ?_, ?_, ?_, ?_, ?_, ?_, by rw [set2_size]; exact hsz, set2_below hbel (by omega)⟩
  · rw [set2_other (by omega)]; exact a0
  · rw [set2_other (by omega)]; exact a1
  · rw [set2_other (by omega)]; exact r0
  · rw [set2_other (by omega)]; exact r1
  all_goals simp only [World.frozen?_setCell]; assumption
theorem TwMem.setA {w wr : World} {za zb oa ob x y : Int} (h : TwMem w wr za zb oa ob) : TwMem w ((wr.setCell ⟨w.heap.size, 0, none⟩ (.int .i64 x)).setCell ⟨w.heap.size, 1, none⟩ (.int .i64 y)) x y oa ob := by
  obtain ⟨a0, a1, o0, o1, r0, r1, fa0, fa1, fo0, fo1, fr0, fr1, hsz, hbel⟩ := h
  have k := set2_cell (x := .int .i64 x) (y := .int .i64 y) a0 a1
  refine ⟨k.1, k.2, ?_, ?_, ?_, ?_, ?_, ?_, ?_, ?_, ?_, ?_, by rw [set2_size]; exact hsz, set2_below hbel (by omega)⟩
  · rw [set2_other (by omega)]; exact o0
  · rw [set2_other (by omega)]; exact o1
  · rw [set2_other (by omega)]; exact r0
  · rw [set2_other (by omega)]; exact r1
  all_goals simp only [World.frozen?_setCell]; assumption
theorem TwMem.start (w : World) (a b : Int) : TwMem w (((w.alloc (.cells #[.int .i64 a, .int .i64 b] 135)).alloc (.cells #[.int .i64 0, .int .i64 0] 135)).alloc (.cells #[.int .i64 1, .int .i64 0] 135)) a b 1 0 := by
  refine ⟨?_, ?_, ?_, ?_, ?_, ?_, ?_, ?_, ?_, ?_, ?_, ?_, ?_, balloc (balloc (below_alloc _ _) _) _⟩
  all_goals go_simp
set_option maxRecDepth 100000 in
set_option maxHeartbeats 1000000 in
theorem twinPower_c (a b n : Int) (w : World) (hn : 0 ≤ n) (hm : n ≤ 9223372036854775807) : Calls Tryz.prog 205 #[.agg #[.int .i64 a, .int .i64 b], .int .i64 n] w fun e w' => e = .returned (twR ((zi a b).pow n.toNat)) ∧ Below w.heap.size w w' := by
  go_enter Tryz.func205, Tryz.ntmps205
  go_wp2
  go_loopw [1] (fun m wr => ∃ (n' : Int) (z o : Z) (za zb : Int), m = .int .i64 n' ∧ ZAt ((zi a b).pow n.toNat) z o n' ∧ TwMem w wr za zb (fz o.re) (fz o.im) ∧ Hid (zi za zb = z)) (fun m _ => (intOf m).toNat)
  case atStart =>
    exact ⟨n, zi a b, .one, a, b, rfl, zAt_start _ _ hn hm, TwMem.start w a b, rfl⟩
  case round =>
    obtain ⟨n', z, o, za, zb, rfl, h, hm0, hz⟩ := hrel
    have h1 := (zAt_bd h).1
    have h2 := (zAt_bd h).2
    have hm' := hm0
    obtain ⟨a0, a1, o0, o1, r0, r1, fa0, fa1, fo0, fo1, fr0, fr1, hsz, hbel⟩ := hm'
    by_cases hpos : 0 < n'
    · by_cases hodd : n' % 2 = 1
      · have hb1 : (bits BinOp.and IntKind.i64 n' 1 == 1) = true := by rw [and_one64 n' h1 h2]; simpa using hodd
        go_wp2_with fail
        refine (twinMul_c _ _ _ _ _).mono ?_; rintro e w1 ⟨rfl, hb⟩
        have hm1 := hm0.below hb
        clear hm0 a0 a1 o0 o1 r0 r1 fa0 fa1 fo0 fo1 fr0 fr1 hsz hbel hb
        have hm2 := hm1
        obtain ⟨a0, a1, o0, o1, r0, r1, fa0, fa1, fo0, fo1, fr0, fr1, hsz, hbel⟩ := hm2
        go_wp2_with fail
        refine (twinMul_c _ _ _ _ _).mono ?_; rintro e w2 ⟨rfl, hb2⟩
        have hm3 := (hm1.setO (x := fz ((zi (fz o.re) (fz o.im)).mul (zi za zb)).re) (y := fz ((zi (fz o.re) (fz o.im)).mul (zi za zb)).im)).below hb2
        clear hm1 a0 a1 o0 o1 r0 r1 fa0 fa1 fo0 fo1 fr0 fr1 hsz hbel hb2
        have hm4 := hm3
        obtain ⟨a0, a1, o0, o1, r0, r1, fa0, fa1, fo0, fo1, fr0, fr1, hsz, hbel⟩ := hm4
        go_wp2
        clear a0 a1 o0 o1 r0 r1 fa0 fa1 fo0 fo1 fr0 fr1 hsz hbel
        have hz' := hz.out
        rw [zi_fz, hz'] at hm3
        rw [hz']
        go_roundw
        case rel => exact ⟨n' / 2, z.mul z, o.mul z, _, _, rfl, zAt_odd h hodd, hm3.setA, zi_fz _⟩
        case measure => simp [intOf]; omega
      · have hb1 : (bits BinOp.and IntKind.i64 n' 1 == 1) = false := by rw [and_one64 n' h1 h2]; simpa using hodd
        go_wp2_with fail
        refine (twinMul_c _ _ _ _ _).mono ?_; rintro e w2 ⟨rfl, hb2⟩
        have hm3 := hm0.below hb2
        clear hm0 a0 a1 o0 o1 r0 r1 fa0 fa1 fo0 fo1 fr0 fr1 hsz hbel hb2
        have hm4 := hm3
        obtain ⟨a0, a1, o0, o1, r0, r1, fa0, fa1, fo0, fo1, fr0, fr1, hsz, hbel⟩ := hm4
        go_wp2
        clear a0 a1 o0 o1 r0 r1 fa0 fa1 fo0 fo1 fr0 fr1 hsz hbel
        have hz' := hz.out
        rw [hz']
        go_roundw
        case rel => exact ⟨n' / 2, z.mul z, o, _, _, rfl, zAt_even h (by omega), hm3.setA, zi_fz _⟩
        case measure => simp [intOf]; omega
    · have ho := Lib.hid (zAt_end h (by omega))
      go_wp2
      have k := set2_cell (x := .int .i64 (fz o.re)) (y := .int .i64 (fz o.im)) r0 r1
      have ho := ho.out
      refine bodyPost_ret (v := twR o) (by simp [results, Tryz.results205, go_sem, k.1, k.2]) rfl ⟨by rw [ho], ?_⟩
      exact set2_below hbel (by omega)
end Go.Proofs.YtahgaccdeakmcaaGreatDoor
namespace Go.Proofs.YtahgaccdeakmcaaGreatDoor
open Go.RowKit
end Go.Proofs.YtahgaccdeakmcaaGreatDoor
namespace Go.Proofs.YtahgaccdeakmcaaGreatDoor
theorem recip_prod (x1 x2 x3 e1 e2 e3 a b c d : F) (h1 : x1+x2+x3 = e1) (h2 : x1*x2+x1*x3+x2*x3 = e2) (h3 : x1*x2*x3 = e3) :
    ((Z.mk (a*x1-c) (b*x1-d)).mul (Z.mk (a*x2-c) (b*x2-d))).mul (Z.mk (a*x3-c) (b*x3-d)) =
      ⟨(a*(a*a-b*b) - b*(2*a*b))*e3 - ((a*a-b*b)*c-2*a*b*d)*e2 + (a*(c*c-d*d) - b*(2*c*d))*e1 - (c*(c*c-d*d)-d*(2*c*d)),
       (a*(2*a*b)+b*(a*a-b*b))*e3 - ((a*a-b*b)*d+2*a*b*c)*e2 + (a*(2*c*d)+b*(c*c-d*d))*e1 - (c*(2*c*d)+d*(c*c-d*d))⟩ := by
  subst h1 h2 h3
  apply Z.ext'
  · simp only [Z.mul]; grobner
  · simp only [Z.mul]; grobner
/-- The value of a line with slope l, over the field, at the turned place of (x, y); of one with slope s, among the turned ones, at (t, u). -/
def lv (l v x y : F) : Z := ⟨l * x - v, y⟩
def mv (s n t u : F) : Z := ⟨u, s * t - n⟩
theorem recip (x1 x2 x3 s n t1 t2 t3 l v : F) (h1 : x1+x2+x3 = s*s) (h2 : x1*x2+x1*x3+x2*x3 = 1-2*s*n) (h3 : x1*x2*x3 = n*n)
    (k1 : t1+t2+t3 = l*l) (k2 : t1*t2+t1*t3+t2*t3 = 1-2*l*v) (k3 : t1*t2*t3 = v*v) :
    ((lv l v x1 (s*x1+n)).mul (lv l v x2 (s*x2+n))).mul (lv l v x3 (-(s*x3+n))).conj = ((mv s n t1 (l*t1+v)).mul (mv s n t2 (l*t2+v))).mul (mv s n t3 (-(l*t3+v))).conj := by
  have a := recip_prod x1 x2 x3 _ _ _ l s v (-n) h1 h2 h3
  have b := recip_prod t1 t2 t3 _ _ _ l s (-v) n k1 k2 k3
  have ea : ∀ x : F, lv l v x (s*x+n) = Z.mk (l*x-v) (s*x- -n) := fun x => Z.ext' rfl (by simp only [lv]; grobner)
  have ea3 : (lv l v x3 (-(s*x3+n))).conj = Z.mk (l*x3-v) (s*x3- -n) := Z.ext' rfl (by simp only [lv, Z.conj]; grobner)
  have eb : ∀ t : F, mv s n t (l*t+v) = Z.mk (l*t- -v) (s*t-n) := fun t => Z.ext' (by simp only [mv]; grobner) rfl
  have eb3 : (mv s n t3 (-(l*t3+v))).conj = (Z.of (-1)).mul (Z.mk (l*t3- -v) (s*t3-n)) := Z.ext' (by simp only [mv, Z.conj, Z.of, Z.mul]; grobner) (by simp only [mv, Z.conj, Z.of, Z.mul]; grobner)
  rw [ea x1, ea x2, ea3, a, eb, eb, eb3, Z.mul_left_comm, b]
  clear a b ea ea3 eb eb3 h1 h2 h3 k1 k2 k3
  apply Z.ext'
  · simp only [Z.mul, Z.of]; grobner
  · simp only [Z.mul, Z.of]; grobner
/-- What a slope says of two spots and their sum. -/
structure LineOf (a b : Sp) (l v : F) : Prop where
  ya : fi a.y = l * fi a.x + v
  yb : fi b.y = l * fi b.x + v
  yc : fi (sSum a b).y = -(l * fi (sSum a b).x + v)
  far : (sSum a b).far = false
  e1 : fi a.x + fi b.x + fi (sSum a b).x = l * l
  e2 : fi a.x * fi b.x + fi a.x * fi (sSum a b).x + fi b.x * fi (sSum a b).x = 1 - 2 * l * v
  e3 : fi a.x * fi b.x * fi (sSum a b).x = v * v
theorem third_line {a b : Sp} {s : Int} (hs : sSum a b = sThird a b s) (hl : fi s * (fi a.x - fi b.x) = fi a.y - fi b.y)
    (h : fi a.x*fi b.x+fi a.x*(fi s*fi s-(fi a.x+fi b.x))+fi b.x*(fi s*fi s-(fi a.x+fi b.x)) = 1-2*fi s*(fi a.y-fi s*fi a.x) ∧ fi a.x*fi b.x*(fi s*fi s-(fi a.x+fi b.x)) = (fi a.y-fi s*fi a.x)*(fi a.y-fi s*fi a.x)) :
    LineOf a b (fi s) (fi a.y - fi s * fi a.x) := by
  have ex : fi (sThird a b s).x = fi s*fi s-(fi a.x+fi b.x) := by
    show fi (pSub (pMul s s) (a.x + b.x)) = _
    rw [fi_pSub, fi_pMul, fi_add]
  have ey : fi (sThird a b s).y = -(fi s * (fi s*fi s-(fi a.x+fi b.x)) + (fi a.y - fi s * fi a.x)) := by
    show fi (pSub (pMul s (pSub a.x (sThird a b s).x)) a.y) = _
    rw [fi_pSub, fi_pMul, fi_pSub, ex]; grobner
  refine ⟨by grobner, by grobner, by rw [hs, ex, ey], by rw [hs]; rfl, by rw [hs, ex]; grobner, by rw [hs, ex]; exact h.1, by rw [hs, ex]; exact h.2⟩
theorem slope_line {a b : Sp} {s : Int} (ha : Ok a) (hb : Ok b) (fa : a.far = false) (fb : b.far = false) (hs : sSlope a b = some s) :
    LineOf a b (fi s) (fi a.y - fi s * fi a.x) := by
  have es : sSum a b = sThird a b s := by unfold sSum; rw [fa, fb, hs]; rfl
  have oa := ha.on fa; have ob := hb.on fb
  unfold sSlope at hs
  by_cases hx : a.x ≠ b.x
  · rw [if_pos hx] at hs
    have hne : fi a.x - fi b.x ≠ 0 := fun h => hx (fi_inj ⟨ha.x0, ha.x1⟩ ⟨hb.x0, hb.x1⟩ (by grobner))
    have e := Option.some.inj hs
    have hl : fi s * (fi a.x - fi b.x) = fi a.y - fi b.y := by
      rw [← e, fi_pMul, fi_pInv, fi_pSub, fi_pSub]
      have := inv_mul hne
      rw [show (fi a.y - fi b.y) * inv (fi a.x - fi b.x) * (fi a.x - fi b.x) = (fi a.y - fi b.y) * (inv (fi a.x - fi b.x) * (fi a.x - fi b.x)) by grobner, this]; grobner
    exact third_line es hl (chord_rel hne oa ob hl)
  · rw [if_neg hx] at hs
    by_cases hy : a.y ≠ b.y ∨ a.y = 0
    · rw [if_pos hy] at hs; cases hs
    · rw [if_neg hy] at hs
      have e := Option.some.inj hs
      have hy' : a.y = b.y ∧ a.y ≠ 0 := by omega
      have hne : 2 * fi a.y ≠ 0 := mul_ne two_ne (fun h => hy'.2 ((fi_zero_iff ⟨ha.y0, ha.y1⟩).mp h))
      have hl : fi s * (2 * fi a.y) = 3 * (fi a.x * fi a.x) + 1 := by
        rw [← e, fi_pMul, fi_pInv, fi_add, fi_pMul, fi_pMul, fi_mul]
        have h2 : fi 2 = 2 := rfl
        have h3 : fi 3 = 3 := rfl
        rw [h2, h3, fi_one]
        have := inv_mul hne
        rw [show (3 * (fi a.x * fi a.x) + 1) * inv (2 * fi a.y) * (2 * fi a.y) = (3 * (fi a.x * fi a.x) + 1) * (inv (2 * fi a.y) * (2 * fi a.y)) by grobner, this]; grobner
      have : b = a := Sp.ext' (Decidable.of_not_not hx).symm hy'.1.symm (fb.trans fa.symm)
      subst this
      exact third_line es (by grobner) (tangent_rel oa hl)
theorem slope_none {a b : Sp} (fa : a.far = false) (fb : b.far = false) (h : (sSum a b).far = false) : ∃ s, sSlope a b = some s := by
  cases e : sSlope a b with
  | none => exfalso; unfold sSum at h; rw [fa, fb, e] at h; cases h
  | some s => exact ⟨s, rfl⟩
/-- A line's value, as the program reckons it. -/
def zLine (a b t : Sp) : Z := match sSlope a b with
  | none => .one
  | some s => ⟨fi s * (fi t.x + fi a.x) - fi a.y, fi t.y⟩
theorem zLine_lv {a b t : Sp} {s : Int} (h : sSlope a b = some s) : zLine a b t = lv (fi s) (fi a.y - fi s * fi a.x) (fi t.x) (fi t.y) := by
  unfold zLine; rw [h]; exact Z.ext' (by simp only [lv]; grobner) rfl
/-- What one step of Miller's adds, of b, of c and of their sum. -/
theorem step_recip {a b T U : Sp} {s n : F} (hT : Ok T) (hU : Ok U) (fT : T.far = false) (fU : U.far = false) (fS : (sSum T U).far = false) (hl : LineOf a b s n) :
    ((zLine T U a).mul (zLine T U b)).mul (zLine T U (sSum a b)).conj =
      ((mv s n (fi T.x) (fi T.y)).mul (mv s n (fi U.x) (fi U.y))).mul (mv s n (fi (sSum T U).x) (fi (sSum T U).y)).conj := by
  obtain ⟨l, hs⟩ := slope_none fT fU fS
  have k := slope_line hT hU fT fU hs
  rw [zLine_lv hs, zLine_lv hs, zLine_lv hs, hl.ya, hl.yb, hl.yc, k.yb, k.yc]
  have := recip _ _ _ s n _ _ _ (fi l) (fi T.y - fi l * fi T.x) hl.e1 hl.e2 hl.e3 k.e1 k.e2 k.e3
  rw [this]
  have e : fi l * fi T.x + (fi T.y - fi l * fi T.x) = fi T.y := by grobner
  rw [e]
end Go.Proofs.YtahgaccdeakmcaaGreatDoor
