/- Numbers modulo 1013, and Lagrange's weights: what values at unlike places, times these, add up to. No program. -/
namespace Go.Proofs.YtebomakihdjllaaDoor
abbrev Q := Fin 1013
def qE : Nat := 1011
def qinv (a : Q) : Q := ⟨a.val ^ qE % 1013, Nat.mod_lt _ (by decide)⟩
def qchk : Nat → Bool
  | 0 => true
  | k+1 => (k == 0 || (k * (k ^ qE % 1013) % 1013 == 1)) && qchk k
theorem qchk_ok : qchk 1013 = true := by decide +kernel
theorem qchk_at : ∀ n, qchk n = true → ∀ k, k < n → k ≠ 0 → k * (k ^ qE % 1013) % 1013 = 1
  | 0, _, _, hk, _ => absurd hk (Nat.not_lt_zero _)
  | n+1, h, k, hk, h0 => by
    simp only [qchk, Bool.and_eq_true, Bool.or_eq_true, beq_iff_eq] at h
    rcases Nat.lt_succ_iff_lt_or_eq.mp hk with h1 | h1
    · exact qchk_at n h.2 k h1 h0
    · subst h1; rcases h.1 with h2 | h2
      · exact absurd h2 h0
      · exact h2
theorem qmul_inv {a : Q} (h : a ≠ 0) : a * qinv a = 1 := by
  apply Fin.ext
  have := qchk_at 1013 qchk_ok a.val a.isLt (fun e => h (Fin.ext e))
  simpa [Fin.mul_def, qinv] using this
theorem qzero_or {a b : Q} (h : a * b = 0) : a = 0 ∨ b = 0 := by
  by_cases ha : a = 0
  · exact .inl ha
  · right; have h1 := qmul_inv ha
    have : qinv a * (a * b) = qinv a * 0 := by rw [h]
    grobner
theorem qcancel {a b c : Q} (hc : c ≠ 0) (h : c * a = c * b) : a = b := by
  have h1 := qmul_inv hc
  have : qinv c * (c * a) = qinv c * (c * b) := by rw [h]
  grobner
def qi (z : Int) : Q := ⟨(z % 1013).toNat, by omega⟩
theorem qi_val (z : Int) : ((qi z).val : Int) = z % 1013 := by simp only [qi]; omega
theorem qi_eq {a b : Int} : qi a = qi b ↔ a % 1013 = b % 1013 := by
  constructor
  · intro h; have := congrArg (fun x : Q => (x.val : Int)) h; simpa only [qi_val] using this
  · intro h; simp only [qi, h]
theorem qi_ext {a : Q} {z : Int} (h : (a.val : Int) = z % 1013) : a = qi z := by
  apply Fin.ext; have := qi_val z; omega
theorem qi_mod (z : Int) : qi (z % 1013) = qi z := qi_eq.mpr (by omega)
theorem qi_add (a b : Int) : qi (a + b) = qi a + qi b := by
  symm; apply qi_ext; rw [Fin.val_add]; have ha := qi_val a; have hb := qi_val b; omega
theorem qi_mul (a b : Int) : qi (a * b) = qi a * qi b := by
  symm; apply qi_ext; rw [Fin.val_mul]; have ha := qi_val a; have hb := qi_val b
  rw [Int.mul_emod, ← ha, ← hb]; simp
theorem qi_zero : qi 0 = 0 := rfl
theorem qi_one : qi 1 = 1 := rfl
theorem qi_neg (a : Int) : qi (-a) = - qi a := by
  have : qi (-a + a) = qi (-a) + qi a := qi_add _ _
  rw [show -a + a = 0 by omega, qi_zero] at this; grobner
theorem qi_sub (a b : Int) : qi (a - b) = qi a - qi b := by
  have := qi_add a (-b); rw [qi_neg] at this; rw [show a - b = a + -b by omega, this]; grobner
theorem qi_pow (a : Int) : ∀ n : Nat, qi (a ^ n) = qi a ^ n
  | 0 => by simp [qi_one]
  | n+1 => by rw [Int.pow_succ, qi_mul, qi_pow a n]; grobner
theorem qval_pow (a : Q) : ∀ n : Nat, (a ^ n).val = a.val ^ n % 1013
  | 0 => rfl
  | n+1 => by
    have : a ^ (n+1) = a ^ n * a := by grobner
    rw [this, Fin.val_mul, qval_pow a n, Nat.pow_succ, Nat.mod_mul_mod]
theorem qpowv (a : Q) (n : Nat) (h : a.val ^ n % 1013 < 1013) : (⟨a.val ^ n % 1013, h⟩ : Q) = a ^ n := Fin.ext (qval_pow a n).symm
theorem qinv_pow (a : Q) : qinv a = a ^ qE := qpowv a qE _
theorem qi_inj {a b : Int} (ha : 0 ≤ a ∧ a < 1013) (hb : 0 ≤ b ∧ b < 1013) (h : qi a = qi b) : a = b := by have := qi_eq.mp h; omega
theorem qi_ne {a : Int} (h1 : 1 ≤ a) (h2 : a < 1013) : qi a ≠ 0 := fun h => by
  have := qi_inj (by omega) (by omega) (h.trans qi_zero.symm); omega

/-- The weight of a place x among some. -/
def wt (x : Q) : List Q → Q
  | [] => 1
  | y :: l => if y = x then wt x l else y * qinv (y - x) * wt x l
def qsum (f : Q → Q) : List Q → Q
  | [] => 0
  | y :: l => f y + qsum f l
/-- What values, times the weights, add up to. -/
def lag (xs : List Q) (f : Q → Q) : Q := qsum (fun x => wt x xs * f x) xs
/-- A polynomial's value: the coefficient of the power 0 first. -/
def ev : List Q → Q → Q
  | [], _ => 0
  | c :: l, t => c + t * ev l t
/-- The quotient by (t - r). -/
def quo (r : Q) : List Q → List Q
  | [] => []
  | _ :: l => match l with
    | [] => []
    | _ => ev l r :: quo r l
theorem qsum_congr {f g : Q → Q} : ∀ {l : List Q}, (∀ x ∈ l, f x = g x) → qsum f l = qsum g l
  | [], _ => rfl
  | y :: l, h => by
    simp only [qsum]; rw [h y (by simp), qsum_congr fun x hx => h x (by simp [hx])]
theorem qsum_add (f g : Q → Q) : ∀ l : List Q, qsum (fun x => f x + g x) l = qsum f l + qsum g l
  | [] => by simp only [qsum]; grobner
  | y :: l => by simp only [qsum]; rw [qsum_add f g l]; grobner
theorem qsum_mul (c : Q) (f : Q → Q) : ∀ l : List Q, qsum (fun x => c * f x) l = c * qsum f l
  | [] => by simp only [qsum]; grobner
  | y :: l => by simp only [qsum]; rw [qsum_mul c f l]; grobner
theorem lag_add (xs : List Q) (f g : Q → Q) : lag xs (fun x => f x + g x) = lag xs f + lag xs g := by
  unfold lag; rw [← qsum_add]; exact qsum_congr fun x _ => by grobner
theorem lag_mul (xs : List Q) (c : Q) (f : Q → Q) : lag xs (fun x => c * f x) = c * lag xs f := by
  unfold lag; rw [← qsum_mul]; exact qsum_congr fun x _ => by grobner
theorem lag_congr {xs : List Q} {f g : Q → Q} (h : ∀ x ∈ xs, f x = g x) : lag xs f = lag xs g :=
  qsum_congr fun x hx => by rw [h x hx]
/-- The first place out. -/
theorem lag_out {x1 : Q} {xs : List Q} (h1 : x1 ∉ xs) (f : Q → Q) : lag (x1 :: xs) (fun x => (x - x1) * f x) = - x1 * lag xs f := by
  unfold lag
  rw [← qsum_mul]
  simp only [qsum]
  rw [show wt x1 (x1 :: xs) * ((x1 - x1) * f x1) = 0 by grobner]
  have : qsum (fun x => wt x (x1 :: xs) * ((x - x1) * f x)) xs = qsum (fun x => -x1 * (wt x xs * f x)) xs := by
    apply qsum_congr
    intro x hx
    have hne : x1 ≠ x := fun e => h1 (e ▸ hx)
    have e : wt x (x1 :: xs) = x1 * qinv (x1 - x) * wt x xs := by simp only [wt]; rw [if_neg hne]
    have hd : x1 - x ≠ 0 := fun e => hne (by grobner)
    have k := qmul_inv hd
    rw [e]
    generalize qinv (x1 - x) = i at *
    clear e hd hne hx h1
    grobner
  rw [this]; grobner
theorem wt_swap (x a b : Q) (l : List Q) : wt x (a :: b :: l) = wt x (b :: a :: l) := by
  simp only [wt]; split <;> split <;> grobner
theorem lag_swap (a b : Q) (l : List Q) (f : Q → Q) : lag (a :: b :: l) f = lag (b :: a :: l) f := by
  unfold lag
  have : qsum (fun x => wt x (a :: b :: l) * f x) (a :: b :: l) = qsum (fun x => wt x (b :: a :: l) * f x) (a :: b :: l) := qsum_congr fun x _ => by rw [wt_swap]
  rw [this]; simp only [qsum]; grobner
theorem lag_one : ∀ (n : Nat) (xs : List Q), xs.length = n + 1 → xs.Nodup → lag xs (fun _ => 1) = 1
  | 0, xs, hl, _ => by
    match xs, hl with
    | [a], _ => simp only [lag, qsum, wt, if_true]; grobner
  | n+1, xs, hl, hd => by
    match xs, hl with
    | a :: b :: l, hl =>
      have hab : a ∉ b :: l := (List.nodup_cons.mp hd).1
      have hd2 : (b :: a :: l).Nodup := by
        have := (List.nodup_cons.mp hd).2
        have := (List.nodup_cons.mp this)
        simp only [List.mem_cons, not_or] at hab
        refine List.nodup_cons.mpr ⟨?_, List.nodup_cons.mpr ⟨hab.2, this.2⟩⟩
        simp only [List.mem_cons, not_or]; exact ⟨fun e => hab.1 e.symm, this.1⟩
      have i1 := lag_one n (b :: l) (by simpa using hl) (List.nodup_cons.mp hd).2
      have i2 := lag_one n (a :: l) (by simpa using hl) (List.nodup_cons.mp hd2).2
      have o1 := lag_out hab (fun _ => 1)
      have o2 := lag_out (List.nodup_cons.mp hd2).1 (fun _ => 1)
      rw [i1] at o1; rw [i2, lag_swap] at o2
      have d : lag (a :: b :: l) (fun _ => (b - a) * 1) = (b - a) * 1 := by
        have e : lag (a :: b :: l) (fun _ => (b - a) * 1) = lag (a :: b :: l) (fun x => (x - a) * 1 + (-1) * ((x - b) * 1)) := lag_congr fun x _ => by grobner
        rw [e, lag_add, lag_mul, o1, o2]; grobner
      rw [lag_mul] at d
      refine qcancel (fun e => ?_) d
      exact hab (by have : a = b := by grobner
                    rw [this]; simp)
theorem ev_quo (r t : Q) : ∀ p : List Q, ev p t = ev p r + (t - r) * ev (quo r p) t
  | [] => by simp only [ev, quo]; grobner
  | [c] => by simp only [ev, quo]; grobner
  | c :: d :: l => by
    have ih := ev_quo r t (d :: l)
    show c + t * ev (d :: l) t = c + r * ev (d :: l) r + (t - r) * (ev (d :: l) r + t * ev (quo r (d :: l)) t)
    generalize ev (d :: l) t = A at *
    generalize ev (d :: l) r = B at *
    generalize ev (quo r (d :: l)) t = C at *
    subst ih; grobner
theorem quo_len (r : Q) : ∀ p : List Q, (quo r p).length = p.length - 1
  | [] => rfl
  | [_] => rfl
  | _ :: d :: l => by
    have := quo_len r (d :: l)
    show (quo r (d :: l)).length + 1 = _
    rw [this]; simp
/-- Any so many of them tell it (Lagrange, Shamir): of a polynomial of no more coefficients than places the values tell its value at 0. -/
theorem lag_ev : ∀ (xs : List Q) (p : List Q), xs ≠ [] → xs.Nodup → p.length ≤ xs.length → lag xs (ev p) = ev p 0
  | [], _, h, _, _ => absurd rfl h
  | [a], p, _, _, hp => by
    match p, hp with
    | [], _ => simp only [lag, qsum, wt, ev, if_true]; grobner
    | [c], _ => simp only [lag, qsum, wt, ev, if_true]; grobner
  | a :: b :: l, p, _, hd, hp => by
    have ih := lag_ev (b :: l) (quo a p) (by simp) (List.nodup_cons.mp hd).2 (by rw [quo_len]; simp only [List.length_cons] at hp ⊢; omega)
    have e : lag (a :: b :: l) (ev p) = lag (a :: b :: l) (fun x => ev p a * 1 + (x - a) * ev (quo a p) x) := lag_congr fun x _ => by
      rw [ev_quo a x p]; grobner
    rw [e, lag_add, lag_mul, lag_one (l.length + 1) _ (by simp) hd, lag_out (List.nodup_cons.mp hd).1, ih, ev_quo a 0 p]; grobner
end Go.Proofs.YtebomakihdjllaaDoor
