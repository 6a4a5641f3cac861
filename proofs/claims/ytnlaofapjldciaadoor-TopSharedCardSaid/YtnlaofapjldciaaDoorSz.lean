/- Plain: what shares of a polynomial tell, by Lagrange's weights. -/
import Derived.Test.YtnlaofapjldciaaDoorSy
namespace Go.Proofs.YtnlaofapjldciaaDoor
open Go.RowKit
set_option linter.unusedVariables false
theorem wt_snoc (x y : Q) : ∀ l : List Q, wt x (l ++ [y]) = wt x l * (if y = x then 1 else y * qinv (y - x))
  | [] => by simp only [List.nil_append, wt]; split <;> grobner
  | z :: l => by simp only [List.cons_append, wt]; rw [wt_snoc x y l]; split <;> grobner
theorem qsum_snoc (f : Q → Q) (y : Q) : ∀ l : List Q, qsum f (l ++ [y]) = qsum f l + f y
  | [] => by simp only [List.nil_append, qsum]; grobner
  | z :: l => by simp only [List.cons_append, qsum]; rw [qsum_snoc f y l]; grobner
theorem qi_inj1 {a b : Int} (ha : 1 ≤ a ∧ a < 1013) (hb : 1 ≤ b ∧ b < 1013) (h : qi a = qi b) : a = b := qi_inj (by omega) (by omega) h
theorem qi_inv (z : Int) : qi ((z % 1013) ^ qE % 1013) = qinv (qi z) := by rw [qi_mod, qi_pow, qi_mod, qinv_pow]
theorem wpre_q (xs : List Int) (hs : ∀ i (h : i < xs.length), 1 ≤ xs[i] ∧ xs[i] < 1013) (hd : ∀ i j (hi : i < xs.length) (hj : j < xs.length), i < j → xs[i] ≠ xs[j]) (i : Nat) (hi : i < xs.length) : ∀ k, k ≤ xs.length → qi (wpre xs i k) = wt (qi xs[i]) ((xs.take k).map qi)
  | 0, _ => by rw [List.take_zero]; exact qi_one
  | k + 1, hk => by
    have ih := wpre_q xs hs hd i hi k (by omega)
    rw [take_snoc3 xs k (by omega), List.map_append, List.map_cons, List.map_nil, wt_snoc, ← ih]
    by_cases hki : k = i
    · subst hki
      rw [wpre_same rfl, if_pos rfl]; grobner
    · have hne : qi xs[k] ≠ qi xs[i] := fun e => by
        have := qi_inj1 (hs k (by omega)) (hs i hi) e
        rcases Nat.lt_or_ge k i with h | h
        · exact hd k i (by omega) hi h this
        · exact hd i k hi (by omega) (by omega) this.symm
      rw [wpre_step hki, if_neg hne, gD (show k < xs.length by omega), gD hi, qi_mod, qi_mul, qi_mod, qi_mul, qi_inv, qi_sub]
      grobner
theorem val_q (x : Int) : ∀ p : List Int, qi (val x p) = ev (p.map qi) (qi x)
  | [] => qi_zero
  | c :: p => by
    show qi ((val x p * x + c) % 1013) = qi c + qi x * ev (p.map qi) (qi x)
    rw [qi_mod, qi_add, qi_mul, val_q x p]; grobner
theorem csum_q (l : List (Int × Int)) (g : Q → Q) (hg : ∀ i (h : i < l.length) (h' : i < (wgts (l.map (·.1))).length), qi ((wgts (l.map (·.1)))[i] * l[i].2) = g (qi l[i].1)) : ∀ n, n ≤ l.length → qi (csum (wgts (l.map (·.1))) (l.map (·.2)) n) = qsum g (((l.map (·.1)).take n).map qi)
  | 0, _ => by rw [List.take_zero]; exact qi_zero
  | n + 1, hn => by
    have ih := csum_q l g hg n (by omega)
    have hw : n < (wgts (l.map (·.1))).length := by rw [wgts_len, List.length_map]; omega
    rw [csum, gD hw, gD (show n < (l.map (·.2)).length by rw [List.length_map]; omega), List.getElem_map, qi_mod, qi_add, ih, hg n (by omega) hw, take_snoc3 _ n (by rw [List.length_map]; omega), List.map_append, List.map_cons, List.map_nil, qsum_snoc, List.getElem_map]
/-- Shares of a polynomial, as many as it has coefficients or more, tell its first one. -/
theorem comb_tells (p : List Int) (l : List (Int × Int)) (h1 : 1 ≤ l.length) (hs : ∀ i (h : i < l.length), 1 ≤ l[i].1 ∧ l[i].1 < 1013 ∧ 0 ≤ l[i].2 ∧ l[i].2 < 1013) (hd : ∀ i j (hi : i < l.length) (hj : j < l.length), i < j → l[i].1 ≠ l[j].1)
    (hy : ∀ i (h : i < l.length), l[i].2 % 1013 = val l[i].1 p % 1013) (hp : p.length ≤ l.length) (c : Int) (c0 : 0 ≤ c) (c1 : c < 1013) (hc : p.getD 0 0 = c) : comb l = c := by
  have hl : (l.map (·.1)).length = l.length := List.length_map ..
  have hs' : ∀ i (h : i < (l.map (·.1)).length), 1 ≤ (l.map (·.1))[i] ∧ (l.map (·.1))[i] < 1013 := fun i h => by rw [List.getElem_map]; exact ⟨(hs i (by omega)).1, (hs i (by omega)).2.1⟩
  have hd' : ∀ i j (hi : i < (l.map (·.1)).length) (hj : j < (l.map (·.1)).length), i < j → (l.map (·.1))[i] ≠ (l.map (·.1))[j] := fun i j hi hj hij => by rw [List.getElem_map, List.getElem_map]; exact hd i j (by omega) (by omega) hij
  have hk := csum_q l (fun x => wt x ((l.map (·.1)).map qi) * ev (p.map qi) x) (fun i h h' => by
    rw [qi_mul, wgts_get, wpre_q _ hs' hd' i (by omega) _ (Nat.le_refl _), List.take_length, List.getElem_map, qi_eq.mpr (hy i h), val_q]) l.length (Nat.le_refl _)
  rw [← hl, List.take_length, hl] at hk
  have hlag := lag_ev ((l.map (·.1)).map qi) (p.map qi) (by intro e; have := congrArg List.length e; rw [List.length_map, List.length_map, List.length_nil] at this; omega)
    (List.pairwise_iff_getElem.mpr (fun i j hi hj hij e => by
      simp only [List.getElem_map] at e
      rw [List.length_map, List.length_map] at hi hj
      exact hd i j hi hj hij (qi_inj1 ⟨(hs i hi).1, (hs i hi).2.1⟩ ⟨(hs j hj).1, (hs j hj).2.1⟩ e))) (by simp; exact hp)
  have he : ev (p.map qi) 0 = qi c := by
    cases p with
    | nil => subst hc; exact qi_zero.symm
    | cons a q =>
      have : a = c := hc
      subst this
      simp only [List.map_cons, ev]; grobner
  have hfin : qi (comb l) = qi c := by rw [← he, ← hlag]; exact hk
  exact qi_inj (csum_bd _ _ _) ⟨c0, c1⟩ hfin
end Go.Proofs.YtnlaofapjldciaaDoor
