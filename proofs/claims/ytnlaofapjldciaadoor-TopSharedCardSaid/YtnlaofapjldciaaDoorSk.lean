/- Plain: weights that are not 0, shares with one more chosen at will, places picked. -/
import Derived.Test.YtnlaofapjldciaaDoorSz
import Derived.Test.YtnlaofapjldciaaDoorSpn
namespace Go.Proofs.YtnlaofapjldciaaDoor
open Go.RowKit
set_option linter.unusedVariables false
theorem qinv_ne {a : Q} (h : a ≠ 0) : qinv a ≠ 0 := fun e => by
  have h1 := qmul_inv h
  rw [e] at h1
  have h2 : (0 : Q) = 1 := by grobner
  exact absurd h2 (by decide)
theorem wt_ne (x : Q) : ∀ l : List Q, (∀ y ∈ l, y ≠ 0) → wt x l ≠ 0
  | [], _ => by simp only [wt]; decide
  | y :: l, h => fun e => by
    have ih := wt_ne x l (fun z hz => h z (List.mem_cons_of_mem _ hz))
    have hy := h y (List.mem_cons_self ..)
    simp only [wt] at e
    split at e
    · exact ih e
    · rename_i hne
      rcases qzero_or e with e1 | e1
      · rcases qzero_or e1 with e2 | e2
        · exact hy e2
        · exact qinv_ne (fun e3 => hne (by grobner)) e2
      · exact ih e1
theorem wpre_pos (xs : List Int) (hs : ∀ i (h : i < xs.length), 1 ≤ xs[i] ∧ xs[i] < 1013) (hd : ∀ i j (hi : i < xs.length) (hj : j < xs.length), i < j → xs[i] ≠ xs[j]) (i : Nat) (hi : i < xs.length) : 1 ≤ wpre xs i xs.length := by
  have hb := wpre_bd xs i xs.length
  have hq := wpre_q xs hs hd i hi xs.length (Nat.le_refl _)
  by_cases h : 1 ≤ wpre xs i xs.length
  · exact h
  · exfalso
    have h0 : wpre xs i xs.length = 0 := by omega
    rw [h0, List.take_length] at hq
    refine wt_ne (qi xs[i]) (xs.map qi) (fun y hy => ?_) hq.symm
    obtain ⟨z, hz, rfl⟩ := List.mem_map.mp hy
    obtain ⟨k, hk, rfl⟩ := List.mem_iff_getElem.mp hz
    exact qi_ne (hs k hk).1 (hs k hk).2
/-- What the shares so far add up to, not yet modulo Q. -/
def usum (ws ys : List Int) : Nat → Int
  | 0 => 0
  | n + 1 => usum ws ys n + ws.getD n 0 * ys.getD n 0
theorem usum_csum (ws ys : List Int) : ∀ n, csum ws ys n = usum ws ys n % 1013
  | 0 => rfl
  | n + 1 => by
    have ih := usum_csum ws ys n
    simp only [csum, usum]
    rw [ih]; omega
theorem csum_snoc (ws ys : List Int) (y : Int) : ∀ n, n ≤ ys.length → csum ws (ys ++ [y]) n = csum ws ys n
  | 0, _ => rfl
  | n + 1, h => by
    simp only [csum]
    rw [csum_snoc ws ys y n (by omega), gD (show n < (ys ++ [y]).length by simp; omega), gD (show n < ys.length by omega), List.getElem_append_left (by omega)]
theorem back_end (s o last t : Int) (h : t * last % 1013 = 1) (o0 : 0 ≤ o) (o1 : o < 1013) : (s % 1013 + last * (((o - s) % 1013 * t) % 1013)) % 1013 = o := by
  have k : qi ((s % 1013 + last * (((o - s) % 1013 * t) % 1013)) % 1013) = qi o := by
    have ht : qi t * qi last = 1 := by rw [← qi_mul, ← qi_one]; exact qi_eq.mpr (by rw [h]; rfl)
    rw [qi_mod, qi_add, qi_mod, qi_mul, qi_mod, qi_mul, qi_mod, qi_sub]
    grobner
  exact qi_inj ⟨Int.emod_nonneg _ (by decide), Int.emod_lt_of_pos _ (by decide)⟩ ⟨o0, o1⟩ k
/-- Shares, and one more that is chosen so: they tell what is wanted. -/
theorem comb_more (l : List (Int × Int)) (x y t last o : Int) (hlast : wpre (l.map (·.1) ++ [x]) l.length (l.length + 1) = last) (ht : t * last % 1013 = 1) (o0 : 0 ≤ o) (o1 : o < 1013)
    (hy : ((o - usum (wgts (l.map (·.1) ++ [x])) (l.map (·.2)) l.length) % 1013 * t) % 1013 = y) : comb (l ++ [(x, y)]) = o := by
  have hl : (l.map (·.1)).length = l.length := List.length_map ..
  have hl2 : (l.map (·.2)).length = l.length := List.length_map ..
  have hx : (l.map (·.1) ++ [x]).length = l.length + 1 := by simp
  unfold comb
  simp only [List.map_append, List.map_cons, List.map_nil, List.length_append, List.length_cons, List.length_nil, Nat.zero_add]
  rw [csum, csum_snoc _ _ _ _ (by omega), usum_csum, gD (show l.length < (wgts (l.map (·.1) ++ [x])).length by rw [wgts_len]; simp), wgts_get, hx, hlast,
    gD (show l.length < (l.map (·.2) ++ [y]).length by simp), List.getElem_append_right (by omega)]
  simp only [hl2, Nat.sub_self, List.getElem_cons_zero]
  subst hy
  exact back_end _ _ _ _ ht o0 o1
theorem usum_bd (ws ys : List Int) (hw : ∀ i (h : i < ws.length), 0 ≤ ws[i] ∧ ws[i] < 1013) (hy : ∀ i (h : i < ys.length), 0 ≤ ys[i] ∧ ys[i] < 1013) : ∀ n, n ≤ ws.length → n ≤ ys.length → 0 ≤ usum ws ys n ∧ usum ws ys n ≤ n * 1024144
  | 0, _, _ => ⟨Int.le_refl 0, by simp [usum]⟩
  | n + 1, h1, h2 => by
    obtain ⟨i1, i2⟩ := usum_bd ws ys hw hy n (by omega) (by omega)
    obtain ⟨m1, m2⟩ := mul_bq (hw n (by omega)).1 (hw n (by omega)).2 (hy n (by omega)).1 (hy n (by omega)).2
    simp only [usum]
    rw [gD (show n < ws.length by omega), gD (show n < ys.length by omega)]
    generalize ws[n] * ys[n] = m at *
    omega
/-- So many places there are at most. -/
theorem nodup_lt : ∀ (n : Nat) (l : List Nat), l.Nodup → (∀ x ∈ l, x < n) → l.length ≤ n
  | 0, l, _, h => by
    cases l with
    | nil => exact Nat.le_refl _
    | cons x l => exact absurd (h x (List.mem_cons_self ..)) (Nat.not_lt_zero _)
  | n + 1, l, hd, h => by
    have ih := nodup_lt n (l.erase n) (hd.erase n) (fun x hx => by
      have := (hd.mem_erase_iff).mp hx
      have := h x this.2
      omega)
    rw [List.length_erase] at ih
    split at ih <;> omega
/-- The shares at some places. -/
def pickL (l : List Int) (ps : List Nat) : List (Int × Int) := ps.map fun p => (((p + 1 : Nat) : Int), val ((p + 1 : Nat) : Int) l)
theorem pickL_len (l : List Int) (ps : List Nat) : (pickL l ps).length = ps.length := List.length_map ..
theorem pickL_get (l : List Int) (ps : List Nat) (i : Nat) (h : i < (pickL l ps).length) : (pickL l ps)[i] = (((ps[i]'(by rw [pickL_len] at h; exact h) + 1 : Nat) : Int), val ((ps[i]'(by rw [pickL_len] at h; exact h) + 1 : Nat) : Int) l) := by simp [pickL]
theorem pickL_snoc (l : List Int) (ps : List Nat) (p : Nat) : pickL l (ps ++ [p]) = pickL l ps ++ [(((p + 1 : Nat) : Int), val ((p + 1 : Nat) : Int) l)] := by simp [pickL]
theorem pickL_ok {l : List Int} {ps : List Nat} {n : Nat} (hn : n ≤ 12) (hp : ∀ p ∈ ps, p < n) : ∀ i (h : i < (pickL l ps).length), 1 ≤ (pickL l ps)[i].1 ∧ (pickL l ps)[i].1 < 1013 ∧ 0 ≤ (pickL l ps)[i].2 ∧ (pickL l ps)[i].2 < 1013 := by
  intro i h
  rw [pickL_get]
  have h' : i < ps.length := by rw [pickL_len] at h; exact h
  have := hp _ (List.getElem_mem h')
  have := val_bd ((ps[i] + 1 : Nat) : Int) l
  simp only
  omega
theorem pickL_ne {l : List Int} {ps : List Nat} (hd : ps.Nodup) : ∀ i j (hi : i < (pickL l ps).length) (hj : j < (pickL l ps).length), i < j → (pickL l ps)[i].1 ≠ (pickL l ps)[j].1 := by
  intro i j hi hj hij
  rw [pickL_get, pickL_get]
  have h1 : i < ps.length := by rw [pickL_len] at hi; exact hi
  have h2 : j < ps.length := by rw [pickL_len] at hj; exact hj
  have := List.pairwise_iff_getElem.mp hd i j h1 h2 hij
  simp only
  omega
theorem pickL_tells {l : List Int} {ps : List Nat} {n : Nat} (hn : n ≤ 12) (hp : ∀ p ∈ ps, p < n) (hd : ps.Nodup) (hl1 : 1 ≤ l.length) (hok : l.all okR = true) (hlen : l.length ≤ ps.length) : comb (pickL l ps) = l[0] := by
  have h0 := okR_y (all_okR hok 0 hl1)
  refine comb_tells l (pickL l ps) (by rw [pickL_len]; omega) (pickL_ok hn hp) (pickL_ne hd) (fun i h => ?_) (by rw [pickL_len]; exact hlen) _ h0.1 h0.2 (gD hl1)
  rw [pickL_get]
end Go.Proofs.YtnlaofapjldciaaDoor
