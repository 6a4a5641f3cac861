/- Texts of this claim, in one. -/
import Derived.Test.YtjjmelhhalomaaaGreatDoorM3RunAnswers
import Derived.Test.YtjjmelhhalomaaaGreatDoorM4RunAnswers
import Derived.Test.YtjjmelhhalomaaaGreatDoorM5RunAnswers
import Derived.Test.YtjjmelhhalomaaaGreatDoorRd
import Derived.Laws.Entries
import Derived.Test.YtjjmelhhalomaaaGreatDoorRo
import Derived.Deep.RegionWith
import Derived.Test.YtjjmelhhalomaaaGreatDoorRa
import Derived.Test.YtjjmelhhalomaaaGreatDoorGt
import Derived.Test.YtjjmelhhalomaaaGreatDoorWv
import Derived.Test.YtjjmelhhalomaaaGreatDoorFs
import Derived.Deep.DeepCutAuto
import Derived.WalkSpells
import Derived.Deep.QuietTactic
import Derived.BigQuiet
namespace Go.Proofs.YtjjmelhhalomaaaGreatDoor
open Go.RowKit
set_option maxRecDepth 100000
set_option linter.unusedVariables false
theorem index_onec : ∀ (w r : List UInt8) (c : UInt8), (∀ b ∈ w, b ≠ c) → Lib.index (w ++ c :: r) [c] = w.length
  | [], r, c, _ => by simp [Lib.index]
  | b :: w, r, c, h => by
    have ih := index_onec w r c (fun x hx => h x (List.mem_cons_of_mem _ hx))
    have hb := h b List.mem_cons_self
    rw [List.cons_append, Lib.index, if_neg (by simp [List.isPrefixOf]; exact fun e => hb e.symm), ih, if_neg (by simp)]
    simp
theorem index_noc : ∀ (w : List UInt8) (c : UInt8), (∀ b ∈ w, b ≠ c) → Lib.index w [c] = -1
  | [], c, _ => rfl
  | b :: w, c, h => by
    have ih := index_noc w c (fun x hx => h x (List.mem_cons_of_mem _ hx))
    have hb := h b List.mem_cons_self
    rw [Lib.index, if_neg (by simp [List.isPrefixOf]; exact fun e => hb e.symm), ih]
    rfl
theorem cutW_sp (w r : List UInt8) (h : ∀ b ∈ w, b ≠ 32) : cutW (w ++ 32 :: r) = (w, r, true) := by
  unfold cutW Lib.cut
  rw [index_onec w r 32 h, if_pos (by omega)]
  simp
theorem cutW_no (w : List UInt8) (h : ∀ b ∈ w, b ≠ 32) : cutW w = (w, [], false) := by
  unfold cutW Lib.cut
  rw [index_noc w 32 h, if_neg (by omega)]
theorem dec_dig (n : Nat) : ∀ b ∈ Lib.decDigits n, b ≠ 10 ∧ b ≠ 32 ∧ b ≠ 98 := fun b hb => by
  obtain ⟨d, rfl⟩ := dec_all n b hb
  have : ∀ d : Fin 10, UInt8.ofNat (48 + d.val) ≠ 10 ∧ UInt8.ofNat (48 + d.val) ≠ 32 ∧ UInt8.ofNat (48 + d.val) ≠ 98 := by decide +kernel
  exact this d
theorem trimL_nl (w : List UInt8) : trimL (w ++ [10]) = w := by
  unfold trimL Lib.trimSuffix
  rw [if_pos (by simp [Lib.hasSuffix])]
  simp
theorem trimL_no (w : List UInt8) (h : ∀ b ∈ w, b ≠ 10) : trimL w = w := by
  unfold trimL Lib.trimSuffix
  rw [if_neg]
  intro hs
  simp [Lib.hasSuffix] at hs
  exact h 10 (hs.subset (by simp)) rfl
theorem cutGo_word (c : UInt8) (l : List UInt8) : ∀ (w cur : List UInt8), (∀ b ∈ w, b ≠ c) → cutGo c cur (w ++ c :: l) = (cur ++ w) :: cutGo c [] l
  | [], cur, _ => by simp [cutGo]
  | b :: w, cur, hw => by
    rw [List.cons_append, cutGo, if_neg (hw b List.mem_cons_self), cutGo_word c l w (cur ++ [b]) (fun x hx => hw x (List.mem_cons_of_mem _ hx))]
    simp
theorem cutGo_last (c : UInt8) : ∀ (w cur : List UInt8), (∀ b ∈ w, b ≠ c) → cutGo c cur w = [cur ++ w]
  | [], cur, _ => by simp [cutGo]
  | b :: w, cur, hw => by
    rw [cutGo, if_neg (hw b List.mem_cons_self), cutGo_last c w (cur ++ [b]) (fun x hx => hw x (List.mem_cons_of_mem _ hx))]
    simp
theorem takeN_two (n m : Nat) (hn : n < 10000) (hm : m < 10000) : takeN 2 (Lib.decDigits n ++ 32 :: Lib.decDigits m) true = some ([n, m], [], false) := by
  have e1 : takeN 1 (Lib.decDigits n ++ 32 :: Lib.decDigits m) true = some ([n], Lib.decDigits m, true) := by
    show (if true = true then (match numF (cutW (Lib.decDigits n ++ 32 :: Lib.decDigits m)).1 with | none => none | some k => some ([] ++ [k], (cutW (Lib.decDigits n ++ 32 :: Lib.decDigits m)).2.1, (cutW (Lib.decDigits n ++ 32 :: Lib.decDigits m)).2.2)) else none) = _
    rw [if_pos rfl, cutW_sp _ _ (fun b hb => (dec_dig n b hb).2.1)]
    simp only
    rw [numF_dec n hn]
    rfl
  show (match takeN 1 (Lib.decDigits n ++ 32 :: Lib.decDigits m) true with | none => none | some (ns, r1, m1) => if m1 then (match numF (cutW r1).1 with | none => none | some k => some (ns ++ [k], (cutW r1).2.1, (cutW r1).2.2)) else none) = _
  rw [e1]
  simp only [if_true]
  rw [cutW_no _ (fun b hb => (dec_dig m b hb).2.1)]
  simp only
  rw [numF_dec m hm]
  rfl
theorem takeN_one (n : Nat) (hn : n < 10000) : takeN 1 (Lib.decDigits n) true = some ([n], [], false) := by
  show (if true = true then (match numF (cutW (Lib.decDigits n)).1 with | none => none | some k => some ([] ++ [k], (cutW (Lib.decDigits n)).2.1, (cutW (Lib.decDigits n)).2.2)) else none) = _
  rw [if_pos rfl, cutW_no _ (fun b hb => (dec_dig n b hb).2.1)]
  simp only
  rw [numF_dec n hn]
  rfl
theorem line_pair (n m : Nat) (hn : n < 10000) (hm : m < 10000) : lineF ([112, 97, 105, 114] ++ 32 :: (Lib.decDigits n ++ 32 :: Lib.decDigits m)) = A5 [n, m] [] := by
  unfold lineF
  rw [cutW_sp _ _ (by decide)]
  simp only
  rw [if_neg (by decide), if_neg (by decide), if_neg (by decide), if_neg (by decide), if_pos trivial]
  unfold deedF
  rw [takeN_two n m hn hm]
  rfl
theorem line_order (n : Nat) (hn : n < 10000) : lineF ([111, 114, 100, 101, 114] ++ 32 :: Lib.decDigits n) = A3 [n] [] := by
  unfold lineF
  rw [cutW_sp _ _ (by decide)]
  simp only
  rw [if_neg (by decide), if_neg (by decide), if_pos trivial]
  unfold deedF
  rw [takeN_one n hn]
  rfl
/-- The session of RunPairs. -/
def pairT (n m : Nat) : List UInt8 :=
  ([112, 97, 105, 114] ++ 32 :: (Lib.decDigits n ++ 32 :: Lib.decDigits m)) ++ 10 :: (([112, 97, 105, 114] ++ 32 :: (Lib.decDigits (n * m) ++ 32 :: Lib.decDigits 1)) ++ 10 :: (([112, 97, 105, 114] ++ 32 :: (Lib.decDigits m ++ 32 :: Lib.decDigits n)) ++ 10 :: (([111, 114, 100, 101, 114] ++ 32 :: Lib.decDigits n) ++ [10])))
theorem no10 {w : List UInt8} {n m : Nat} (hw : ∀ b ∈ w, b ≠ 10) : ∀ b ∈ w ++ 32 :: (Lib.decDigits n ++ 32 :: Lib.decDigits m), b ≠ 10 := fun b hb => by
  simp only [List.mem_append, List.mem_cons] at hb
  rcases hb with hb | rfl | hb | rfl | hb
  · exact hw b hb
  · decide
  · exact (dec_dig n b hb).1
  · decide
  · exact (dec_dig m b hb).1
theorem pair_outs (n m : Nat) (hn : n < 10000) (hm : m < 10000) (hnm : n * m < 10000) :
    outsF (linesL (pairT n m)) = A5 [n, m] [] ++ 10 :: (A5 [n * m, 1] [] ++ 10 :: (A5 [m, n] [] ++ 10 :: (A3 [n] [] ++ [10]))) := by
  unfold pairT
  have h5 : ∀ b ∈ ([112, 97, 105, 114] : List UInt8), b ≠ 10 := by decide
  have h6 : ∀ b ∈ [111, 114, 100, 101, 114] ++ 32 :: Lib.decDigits n, b ≠ 10 := fun b hb => by
    simp only [List.mem_append, List.mem_cons] at hb
    rcases hb with hb | rfl | hb
    · have : ∀ b ∈ ([111, 114, 100, 101, 114] : List UInt8), b ≠ 10 := by decide
      exact this b (by simpa using hb)
    · decide
    · exact (dec_dig n b hb).1
  rw [linesL_cons _ _ (no10 h5), linesL_cons _ _ (no10 h5), linesL_cons _ _ (no10 h5), linesL_cons _ [] h6]
  unfold outsF
  simp only [List.map_cons]
  rw [trimL_nl, trimL_nl, trimL_nl, trimL_nl, line_pair n m hn hm, line_pair (n * m) 1 hnm (by decide), line_pair m n hm hn, line_order n hn]
  simp [linesL, linesGo]
theorem joinN_two (a b : Nat) : joinN [a, b] = Lib.decDigits a ++ 32 :: Lib.decDigits b := by simp [joinN, Lib.join, List.intercalate]
theorem joinN_one (a : Nat) : joinN [a] = Lib.decDigits a := by simp [joinN, Lib.join, List.intercalate]
theorem joinN_no (a b : Nat) : ∀ x ∈ joinN [a, b], x ≠ 10 ∧ x ≠ 98 := fun x hx => by
  rw [joinN_two] at hx
  simp only [List.mem_append, List.mem_cons] at hx
  rcases hx with hx | rfl | hx
  · exact ⟨(dec_dig a x hx).1, (dec_dig a x hx).2.2⟩
  · decide
  · exact ⟨(dec_dig b x hx).1, (dec_dig b x hx).2.2⟩
theorem A5_no (ns : List Nat) (t : List UInt8) : ∀ x ∈ A5 ns t, x ≠ 10 ∧ x ≠ 98 := joinN_no _ _
theorem A5_bad (ns : List Nat) (t : List UInt8) : A5 ns t ≠ [98, 97, 100] := fun e => (A5_no ns t 98 (by rw [e]; simp)).2 rfl
theorem A5_one (n m : Nat) : A5 [n * m, 1] [] = A5 [n, m] [] := by
  show joinN [(fz (zp (((n * m % 1013 : Nat) : Int) * ((1 % 1013 : Nat) : Int))).re).toNat, (fz (zp (((n * m % 1013 : Nat) : Int) * ((1 % 1013 : Nat) : Int))).im).toNat] = joinN [(fz (zp (((n % 1013 : Nat) : Int) * ((m % 1013 : Nat) : Int))).re).toNat, (fz (zp (((n % 1013 : Nat) : Int) * ((m % 1013 : Nat) : Int))).im).toNat]
  rw [zp_eq (n := ((n * m % 1013 : Nat) : Int) * ((1 % 1013 : Nat) : Int)) (m := ((n % 1013 : Nat) : Int) * ((m % 1013 : Nat) : Int))]
  have e1 : ((n * m % 1013 : Nat) : Int) * ((1 % 1013 : Nat) : Int) = ((n * m % 1013 * (1 % 1013) : Nat) : Int) := by rw [Int.natCast_mul]
  have e2 : ((n % 1013 : Nat) : Int) * ((m % 1013 : Nat) : Int) = (((n % 1013) * (m % 1013) : Nat) : Int) := by rw [Int.natCast_mul]
  have e3 : (n * m % 1013 * (1 % 1013)) % 1013 = ((n % 1013) * (m % 1013)) % 1013 := by
    rw [← Nat.mul_mod]
    simp
  rw [e1, e2]
  omega
theorem A5_swap (n m : Nat) : A5 [m, n] [] = A5 [n, m] [] := by
  show joinN [(fz (zp (((m % 1013 : Nat) : Int) * ((n % 1013 : Nat) : Int))).re).toNat, (fz (zp (((m % 1013 : Nat) : Int) * ((n % 1013 : Nat) : Int))).im).toNat] = joinN [(fz (zp (((n % 1013 : Nat) : Int) * ((m % 1013 : Nat) : Int))).re).toNat, (fz (zp (((n % 1013 : Nat) : Int) * ((m % 1013 : Nat) : Int))).im).toNat]
  rw [Int.mul_comm]
theorem sq_far_n (a : Int) : (sq a).far = decide (a % 4052 = 0) := by
  cases h : (sq a).far
  · rw [eq_comm, decide_eq_false_iff_not]; exact fun e => by rw [sq_far.2 e] at h; cases h
  · rw [eq_comm, decide_eq_true_iff]; exact sq_far.1 h
theorem ord_small (n : Nat) (h0 : 1 ≤ n) (h1 : n ≤ 90) : ordOf (4 * (n : Int)) = 1013 := by
  unfold ordOf
  rw [sq_far_n, sq_far_n, sq_far_n, sq_far_n]
  rw [if_neg (by rw [decide_eq_true_iff]; omega), if_neg (by rw [decide_eq_true_iff]; omega), if_neg (by rw [decide_eq_true_iff]; omega), if_pos (by rw [decide_eq_true_iff]; omega)]
theorem A3_small (n : Nat) (h0 : 1 ≤ n) (h1 : n ≤ 90) : A3 [n] [] = [49, 48, 49, 51] := by
  show joinN [(ordOf (4 * (n : Int))).toNat] = _
  rw [ord_small n h0 h1, joinN_one]
  show Lib.decDigits 1013 = _
  rw [dec_big 1013 (by decide), dec_big (1013 / 10) (by decide), dec_big (1013 / 10 / 10) (by decide), dec_small (1013 / 10 / 10 / 10) (by decide)]
  rfl
/-- The pieces of the answer to the session of RunPairs. -/
theorem pair_cut (n m : Nat) (h0 : 1 ≤ n) (h1 : n ≤ 90) (h2 : m ≤ 90) :
    cutGo 10 [] (outsF (linesL (pairT n m))) = [A5 [n, m] [], A5 [n, m] [], A5 [n, m] [], [49, 48, 49, 51], []] := by
  have hnm : n * m ≤ 90 * 90 := Nat.mul_le_mul h1 h2
  rw [pair_outs n m (by omega) (by omega) (by omega), A5_one, A5_swap n m, A3_small n h0 h1]
  have hA : ∀ b ∈ A5 [n, m] [], b ≠ 10 := fun b hb => (A5_no _ _ b hb).1
  rw [cutGo_word 10 _ _ [] hA, cutGo_word 10 _ _ [] hA, cutGo_word 10 _ _ [] hA, cutGo_word 10 [] [49, 48, 49, 51] [] (by decide)]
  rfl
end Go.Proofs.YtjjmelhhalomaaaGreatDoor
namespace Go.Proofs.YtjjmelhhalomaaaGreatDoor
open Go.RowKit
set_option maxRecDepth 100000
set_option linter.unusedVariables false
def isDig (b : UInt8) : Prop := 48 ≤ b.toNat ∧ b.toNat ≤ 57
def valD (l : List UInt8) : Nat := l.foldl (fun a b => a * 10 + (b.toNat - 48)) 0
theorem valD_snoc (l : List UInt8) (b : UInt8) : valD (l ++ [b]) = valD l * 10 + (b.toNat - 48) := by unfold valD; rw [List.foldl_append]; rfl
theorem valD_bd : ∀ (k : Nat) (l : List UInt8), l.length = k → (∀ b ∈ l, isDig b) → valD l < 10 ^ k
  | 0, l, hl, h => by
    obtain rfl := List.eq_nil_of_length_eq_zero hl
    decide
  | k + 1, l, hl, h => by
    rcases List.eq_nil_or_concat l with rfl | ⟨d, x, rfl⟩
    · simp at hl
    · rw [List.concat_eq_append] at hl h ⊢
      have ih := valD_bd k d (by simp at hl; exact hl) (fun b hb => h b (List.mem_append_left _ hb))
      have hx := h x (by simp)
      unfold isDig at hx
      rw [valD_snoc, Nat.pow_succ]
      omega
theorem dig_of (b : UInt8) (h : isDig b) : UInt8.ofNat (48 + (b.toNat - 48)) = b := by
  unfold isDig at h
  rw [show 48 + (b.toNat - 48) = b.toNat by omega]
  exact UInt8.ofNat_toNat
theorem dec_val : ∀ (k : Nat) (l : List UInt8), l.length = k + 1 → (∀ b ∈ l, isDig b) → (l.head? ≠ some 48 ∨ k = 0) → Lib.decDigits (valD l) = l
  | 0, l, hl, h, h0 => by
    match l, hl with
    | [x], _ =>
      have hx := h x (by simp)
      have e : valD [x] = x.toNat - 48 := by unfold valD; simp
      unfold isDig at hx
      rw [e, dec_small _ (by omega), dig_of x hx]
  | k + 1, l, hl, h, h0 => by
    rcases List.eq_nil_or_concat l with rfl | ⟨d, x, rfl⟩
    · simp at hl
    · rw [List.concat_eq_append] at hl h h0 ⊢
      have hdl : d.length = k + 1 := by simp at hl; exact hl
      have hh : d.head? ≠ some 48 := by
        rcases h0 with h0 | h0
        · rw [List.head?_append] at h0
          match d, hdl with
          | y :: d, _ => simpa using h0
        · omega
      have ih := dec_val k d hdl (fun b hb => h b (List.mem_append_left _ hb)) (.inl hh)
      have hx := h x (by simp)
      have hv : 1 ≤ valD d := by
        rcases Nat.eq_zero_or_pos (valD d) with hz | hz
        · rw [hz, dec_small 0 (by decide)] at ih
          rw [← ih] at hh
          exact absurd rfl hh
        · exact hz
      have hx2 := hx
      unfold isDig at hx2
      rw [valD_snoc, dec_big _ (by omega), show (valD d * 10 + (x.toNat - 48)) / 10 = valD d by omega, show (valD d * 10 + (x.toNat - 48)) % 10 = x.toNat - 48 by omega, ih, dig_of x hx]
theorem dec_isDig (n : Nat) : ∀ b ∈ Lib.decDigits n, isDig b := fun b hb => by
  obtain ⟨d, rfl⟩ := dec_all n b hb
  have : ∀ d : Fin 10, 48 ≤ (UInt8.ofNat (48 + d.val)).toNat ∧ (UInt8.ofNat (48 + d.val)).toNat ≤ 57 := by decide +kernel
  exact this d
theorem dec_head : ∀ (k n : Nat), n ≤ k → 1 ≤ n → (Lib.decDigits n).head? ≠ some 48
  | 0, n, h, h1 => by omega
  | k + 1, n, h, h1 => by
    by_cases hs : n < 10
    · rw [dec_small n hs]
      have : ∀ d : Fin 10, 1 ≤ d.val → [UInt8.ofNat (48 + d.val)].head? ≠ some 48 := by decide +kernel
      exact this ⟨n, hs⟩ h1
    · rw [dec_big n hs]
      have ih := dec_head k (n / 10) (by omega) (by omega)
      rw [List.head?_append]
      cases hd : Lib.decDigits (n / 10) with
      | nil => exact absurd hd (dec_ne _)
      | cons a r => rw [hd] at ih; simpa using ih
/-- It has its number. -/
theorem numF_val (s : List UInt8) (h0 : s ≠ []) (h1 : s.length ≤ 4) (h2 : s.head? ≠ some 48 ∨ s.length ≤ 1) (h : ∀ b ∈ s, isDig b) : numF s = some (valD s) := by
  have hl : 1 ≤ s.length := List.length_pos_iff.2 h0
  have hd := dec_val (s.length - 1) s (by omega) h (by rcases h2 with h2 | h2; exact .inl h2; exact .inr (by omega))
  have hb := valD_bd s.length s rfl h
  have hb2 : valD s < 10000 := Nat.lt_of_lt_of_le hb (Nat.le_trans (Nat.pow_le_pow_right (by decide) h1) (by decide))
  have := numF_dec (valD s) hb2
  rw [hd] at this
  exact this
/-- It has none. -/
theorem numF_none (s : List UInt8) (h : s = [] ∨ 4 < s.length ∨ (s.head? = some 48 ∧ 1 < s.length) ∨ ∃ b ∈ s, ¬ isDig b) : numF s = none := by
  cases hn : numF s with
  | none => rfl
  | some n =>
    exfalso
    obtain ⟨h1, h2⟩ := numF_some hn
    rcases h with rfl | h | ⟨h, h3⟩ | ⟨b, hb, h⟩
    · exact dec_ne n h2
    · have hs := dec_len n (by omega)
      rw [← h2, Lib.decDigits_length] at h
      have := Lib.nDigits_pos n
      have h4 : Lib.nDigits n ≤ 4 := nDigits_le n 3 (by omega)
      omega
    · rcases Nat.eq_zero_or_pos n with rfl | hp
      · rw [dec_small 0 (by decide)] at h2
        rw [← h2] at h3
        simp at h3
      · rw [← h2] at h
        exact dec_head n n (Nat.le_refl _) hp h
    · rw [← h2] at hb
      exact h (dec_isDig n b hb)
/-- The first blank. -/
theorem cutW_at (s : List UInt8) (i : Nat) (hi : i < s.length) (h : ∀ b ∈ s.take i, b ≠ 32) (hc : s[i] = 32) : cutW s = (s.take i, s.drop (i + 1), true) := by
  have e : s = s.take i ++ 32 :: s.drop (i + 1) := by
    rw [← hc, ← List.drop_eq_getElem_cons hi, List.take_append_drop]
  have h2 := cutW_sp (s.take i) (s.drop (i + 1)) h
  rw [← e] at h2
  exact h2
theorem take_snoc_all {s : List UInt8} {i : Nat} (hi : i < s.length) {P : UInt8 → Prop} (h : ∀ b ∈ s.take i, P b) (hb : P s[i]) : ∀ b ∈ s.take (i + 1), P b := fun b hm => by
  rw [List.take_succ_eq_append_getElem hi, List.mem_append, List.mem_singleton] at hm
  rcases hm with hm | rfl
  · exact h b hm
  · exact hb
end Go.Proofs.YtjjmelhhalomaaaGreatDoor
namespace Go.Proofs.YtjjmelhhalomaaaGreatDoor
open Go.RowKit
set_option maxRecDepth 100000
set_option linter.unusedVariables false
set_option linter.unusedSimpArgs false
attribute [local go_sem ↓] Go.wp_at_zero Go.wp_at_succ
theorem bS_getE (s : List UInt8) (S : ByteArray) (hS : bS s = S) (i : Nat) (hi : i < s.length) (h : i < S.size) : S[i]'h = s[i] := by
  subst hS
  show (bS s).data[i]'(by simpa [bS] using hi) = s[i]
  simp [bS]
  rfl
theorem u8_blank (x : UInt8) : (((x.toNat : Nat) : Int) == 32) = decide (x = 32) := by
  rw [Bool.eq_iff_iff]
  simp only [beq_iff_eq, decide_eq_true_eq]
  constructor
  · intro h
    exact UInt8.toNat_inj.1 (by have : x.toNat = 32 := by omega
                                rw [this]; rfl)
  · rintro rfl; rfl
set_option maxHeartbeats 16000000 in
theorem word_c (s : List UInt8) (w : World) (hs : s.length ≤ 400000) : Calls Tryz.prog 33 #[.string (bS s)] w fun e w' => e = .returned (.tuple #[.string (bS (cutW s).1), .string (bS (cutW s).2.1), .bool (cutW s).2.2]) ∧ Below w.heap.size w w' := by
  have hz0 := bS_size s
  obtain ⟨S, hS⟩ : ∃ S, bS s = S := ⟨_, rfl⟩
  rw [hS] at hz0 ⊢
  have hS' := Lib.hid hS
  clear hS
  obtain ⟨A, B, C, hA, hB, hC⟩ : ∃ A B C, bS (cutW s).1 = A ∧ bS (cutW s).2.1 = B ∧ (cutW s).2.2 = C := ⟨_, _, _, rfl, rfl, rfl⟩
  rw [hA, hB, hC]
  replace hA := Lib.hid hA
  replace hB := Lib.hid hB
  replace hC := Lib.hid hC
  go_enter Tryz.func33, Tryz.ntmps33
  go_wp2_with fail
  go_loopw [5] (fun i wr => ∃ i' : Nat, i' ≤ s.length ∧ i = .int .i64 i' ∧ (∀ b ∈ s.take i', b ≠ 32) ∧ Below w.heap.size w wr) (fun i _ => s.length - (intOf i).toNat)
  case atStart => exact ⟨0, Nat.zero_le _, rfl, by simp, Below.refl _ _⟩
  case round =>
    obtain ⟨i, hi, rfl, hn, hB0⟩ := hrel
    replace hB0 := Lib.hid hB0
    replace hn := Lib.hid hn
    by_cases hlt : i < s.length
    · have hk1 := bS_getE s S hS'.out i hlt (by omega)
      by_cases h32 : s[i] = 32
      · have hcw := cutW_at s i hlt hn.out h32
        have g32 : (((S[i]'(by omega)).toNat : Int) == 32) = true := by rw [u8_blank, hk1, decide_eq_true_iff]; exact h32
        have eA : S.extract 0 i = A := by rw [← hS'.out, extract_bS2, List.drop_zero, Nat.sub_zero, ← hA.out, hcw]
        have eB : S.extract (i + 1) s.length = B := by rw [← hS'.out, extract_bS2, ← hB.out, hcw, List.take_of_length_le (by rw [List.length_drop]; omega)]
        obtain rfl : true = C := by rw [← hC.out, hcw]
        clear hk1 hcw h32
        go_wp2_with fail
        go_quiet (fail)
        go_wp2
        go_ret3
        exact ⟨rfl, below_drewN hB0.out _⟩
      · have g32 : (((S[i]'(by omega)).toNat : Int) == 32) = false := by rw [u8_blank, hk1, decide_eq_false_iff_not]; exact h32
        have hn2 := Lib.hid (take_snoc_all (P := fun b => b ≠ 32) hlt hn.out h32)
        clear hk1 h32
        go_wp2_with fail
        exact ⟨⟨i + 1, by omega, rfl, hn2.out, hB0.out⟩, by simp [intOf]; omega⟩
    · obtain rfl : i = s.length := by omega
      have hcw := cutW_no s (by have := hn.out; rw [List.take_length] at this; exact this)
      obtain rfl : S = A := by rw [← hS'.out, ← hA.out, hcw]
      obtain rfl : (⟨#[]⟩ : ByteArray) = B := by rw [← hB.out, hcw]; rfl
      obtain rfl : false = C := by rw [← hC.out, hcw]
      clear hcw
      go_wp2_with fail
      go_ret3
      exact ⟨rfl, hB0.out⟩
theorem headS (s : List UInt8) (h : s ≠ []) (h0 : 0 < s.length) : s.head? = some s[0] := by
  match s, h with
  | a :: l, _ => rfl
theorem u8_48 (x : UInt8) : (((x.toNat : Nat) : Int) == 48) = decide (x = 48) := by
  rw [Bool.eq_iff_iff]
  simp only [beq_iff_eq, decide_eq_true_eq]
  constructor
  · intro h
    exact UInt8.toNat_inj.1 (by have : x.toNat = 48 := by omega
                                rw [this]; rfl)
  · rintro rfl; rfl
set_option maxHeartbeats 16000000 in
theorem rnumber_no (s : List UInt8) (w : World) (hs : s.length ≤ 400000) (h : s = [] ∨ 4 < s.length ∨ (s.head? = some 48 ∧ 1 < s.length)) : Calls Tryz.prog 34 #[.string (bS s)] w fun e w' => e = .returned (.tuple #[.int .i64 0, .bool false]) ∧ Below w.heap.size w w' := by
  have hz0 := bS_size s
  have htl := bS_tl s
  obtain ⟨S, hS⟩ : ∃ S, bS s = S := ⟨_, rfl⟩
  rw [hS] at hz0 htl ⊢
  by_cases h0 : s = []
  · have e0 : (S.toList == []) = true := by rw [htl, h0]; rfl
    clear h htl hS
    go_enter Tryz.func34, Tryz.ntmps34
    go_wp2_with fail
    go_ret2
    exact ⟨rfl, Below.refl _ _⟩
  · have e0 : (S.toList == []) = false := by rw [htl, beq_eq_false_iff_ne]; exact h0
    by_cases h1 : 4 < s.length
    · clear h htl hS
      go_enter Tryz.func34, Tryz.ntmps34
      go_wp2_with fail
      go_ret2
      exact ⟨rfl, Below.refl _ _⟩
    · obtain ⟨h2, h3⟩ : s.head? = some 48 ∧ 1 < s.length := by
        rcases h with h | h | h
        · exact absurd h h0
        · exact absurd h h1
        · exact h
      have hk := bS_getE s S hS 0 (by omega) (by omega)
      have g48 : (((S[0]'(by omega)).toNat : Int) == 48) = true := by
        rw [u8_48, hk, decide_eq_true_iff]
        rw [headS s h0 (by omega)] at h2
        exact Option.some.inj h2
      clear hk h htl hS h2
      go_enter Tryz.func34, Tryz.ntmps34
      go_wp2_with fail
      go_ret2
      exact ⟨rfl, Below.refl _ _⟩
set_option maxHeartbeats 16000000 in
theorem rnumber_d (s : List UInt8) (w : World) (h0 : s ≠ []) (h1 : s.length ≤ 4) (h2 : ¬ (s.head? = some 48 ∧ 1 < s.length)) : Calls Tryz.prog 34 #[.string (bS s)] w fun e w' => (∃ v : Int, e = .returned (.tuple #[.int .i64 v, .bool (numF s).isSome]) ∧ ∀ n, numF s = some n → v = (n : Int)) ∧ Below w.heap.size w w' := by
  have hz0 := bS_size s
  have htl := bS_tl s
  have hl : 1 ≤ s.length := List.length_pos_iff.2 h0
  obtain ⟨NF, hNF⟩ : ∃ NF, numF s = NF := ⟨_, rfl⟩
  rw [hNF]
  obtain ⟨S, hS⟩ : ∃ S, bS s = S := ⟨_, rfl⟩
  rw [hS] at hz0 htl ⊢
  have e0 : (S.toList == []) = false := by rw [htl, beq_eq_false_iff_ne]; exact h0
  have hk := bS_getE s S hS 0 (by omega) (by omega)
  have g48 : (((S[0]'(by omega)).toNat : Int) == 48) = true → s.length ≤ 1 := by
    rw [u8_48, hk, decide_eq_true_iff]
    intro h
    rcases Nat.lt_or_ge 1 s.length with h3 | h3
    · exact absurd ⟨by rw [headS s h0 (by omega), h], h3⟩ h2
    · exact h3
  have hd : s.head? ≠ some 48 ∨ s.length ≤ 1 := by
    rcases Nat.lt_or_ge 1 s.length with h3 | h3
    · exact .inl fun h => h2 ⟨h, h3⟩
    · exact .inr h3
  have hS' := Lib.hid hS
  replace hNF := Lib.hid hNF
  replace hd := Lib.hid hd
  replace h0 := Lib.hid h0
  obtain ⟨C, hC⟩ : ∃ C, decide (s.length ≤ 1) = C := ⟨_, rfl⟩
  clear htl hS hk h2
  go_enter Tryz.func34, Tryz.ntmps34
  go_upto_region 1 with fail
  go_cut [22] from 6 to 21 (fun s22 wx => s22 = .bool false ∧ wx = w)
  case first =>
    have g4 : decide (4 < (s.length : Int)) = false := by rw [decide_eq_false_iff_not]; omega
    cases hg : (((S[0]'(by omega)).toNat : Int) == 48)
    · clear g48
      go_wp2_with fail
      go_meet
      exact ⟨rfl, rfl⟩
    · replace g48 := g48 hg
      have g5 : decide (1 < (s.length : Int)) = false := by rw [decide_eq_false_iff_not]; omega
      go_wp2_with fail
      go_meet
      exact ⟨rfl, rfl⟩
  case rest =>
  obtain ⟨rfl, hwx⟩ := hcut
  obtain rfl := hwx.symm
  clear g48
  go_wp2_with fail
  go_loopw [4, 5] (fun n i wr => ∃ i' : Nat, i' ≤ s.length ∧ i = .int .i64 i' ∧ n = .int .i64 (valD (s.take i') : Nat) ∧ (∀ b ∈ s.take i', isDig b) ∧ wr = w) (fun _ i _ => s.length - (intOf i).toNat)
  case atStart => exact ⟨0, Nat.zero_le _, rfl, rfl, by simp, rfl⟩
  case round =>
    obtain ⟨i, hi, rfl, rfl, hn, hwr⟩ := hrel
    obtain rfl := hwr.symm
    replace hn := Lib.hid hn
    by_cases hlt : i < s.length
    · have hk1 := bS_getE s S hS'.out i hlt (by omega)
      have hv := valD_bd i (s.take i) (by rw [List.length_take]; omega) hn.out
      have hv2 : valD (s.take i) < 10000 := Nat.lt_of_lt_of_le hv (Nat.le_trans (Nat.pow_le_pow_right (by decide) (show i ≤ 4 by omega)) (by decide))
      have hvs : valD (s.take (i + 1)) = valD (s.take i) * 10 + (s[i].toNat - 48) := by rw [List.take_succ_eq_append_getElem hlt, valD_snoc]
      have hub : s[i].toNat < 256 := UInt8.toNat_lt _
      by_cases hd1 : isDig s[i]
      · have hn2 := Lib.hid (take_snoc_all (P := isDig) hlt hn.out hd1)
        unfold isDig at hd1
        rw [← hk1] at hd1 hvs hub
        obtain ⟨ch, hch⟩ : ∃ c : Nat, (S[i]'(by omega)).toNat = c := ⟨_, rfl⟩
        rw [hch] at hd1 hvs hub
        have g1 : decide ((ch : Int) < 48) = false := by rw [decide_eq_false_iff_not]; omega
        have g2 : decide ((57 : Int) < (ch : Int)) = false := by rw [decide_eq_false_iff_not]; omega
        obtain ⟨v1, hv1⟩ : ∃ v, valD (s.take i) = v := ⟨_, rfl⟩
        rw [hv1] at hvs hv2 ⊢
        clear hk1 hv hv1
        replace hvs := Lib.hid hvs
        go_wp2_with fail
        refine ⟨⟨i + 1, by omega, rfl, ?_, hn2.out, trivial⟩, by simp [intOf]; omega⟩
        rw [hvs.out]
        congr 1
        omega
      · have hno := numF_none s (.inr (.inr (.inr ⟨s[i], List.getElem_mem hlt, hd1⟩)))
        obtain rfl : none = NF := by rw [← hNF.out, hno]
        unfold isDig at hd1
        rw [← hk1] at hd1 hub
        obtain ⟨ch, hch⟩ : ∃ c : Nat, (S[i]'(by omega)).toNat = c := ⟨_, rfl⟩
        rw [hch] at hd1 hub
        clear hk1 hv hvs hno
        by_cases g1 : ch < 48
        · have g2 : decide ((ch : Int) < 48) = true := by rw [decide_eq_true_iff]; omega
          clear hd1
          go_wp2_with fail
          go_ret2
          exact ⟨⟨_, rfl⟩, Below.refl _ _⟩
        · have g2 : decide ((ch : Int) < 48) = false := by rw [decide_eq_false_iff_not]; omega
          have g3 : decide ((57 : Int) < (ch : Int)) = true := by rw [decide_eq_true_iff]; omega
          clear hd1 g1
          go_wp2_with fail
          go_ret2
          exact ⟨⟨_, rfl⟩, Below.refl _ _⟩
    · obtain rfl : i = s.length := by omega
      have hn2 := hn.out
      rw [List.take_length] at hn2 ⊢
      have hy := numF_val s h0.out h1 hd.out hn2
      obtain rfl : some (valD s) = NF := by rw [← hNF.out, hy]
      clear hn2 hy
      go_wp2_with fail
      go_ret2
      exact ⟨rfl, Below.refl _ _⟩
theorem rnumber_c (s : List UInt8) (w : World) (hs : s.length ≤ 400000) : Calls Tryz.prog 34 #[.string (bS s)] w fun e w' => (∃ v : Int, e = .returned (.tuple #[.int .i64 v, .bool (numF s).isSome]) ∧ ∀ n, numF s = some n → v = (n : Int)) ∧ Below w.heap.size w w' := by
  by_cases h : s = [] ∨ 4 < s.length ∨ (s.head? = some 48 ∧ 1 < s.length)
  · refine (rnumber_no s w hs h).mono ?_
    rintro e w' ⟨rfl, hb⟩
    have hno := numF_none s (by rcases h with h | h | h; exact .inl h; exact .inr (.inl h); exact .inr (.inr (.inl h)))
    exact ⟨⟨0, by rw [hno]; rfl, fun n hn => by rw [hno] at hn; cases hn⟩, hb⟩
  · exact rnumber_d s w (fun e => h (.inl e)) (by rcases Nat.lt_or_ge 4 s.length with h4 | h4; exact absurd (.inr (.inl h4)) h; exact h4) (fun e => h (.inr (.inr e)))
set_option maxHeartbeats 4000000 in
theorem rtold_c (s : Sp) (w : World) (hs : Sm s) : Calls Tryz.prog 66 #[spV s] w fun e w' => e = .returned (.string (bS (toldB s))) ∧ Below w.heap.size w w' := by
  obtain ⟨x0, x1, y0, y1⟩ := hs
  cases hf : s.far
  · have d1 := Lib.hid (fun w => digits_c s.x.toNat w (by omega))
    have d2 := Lib.hid (fun w => digits_c s.y.toNat w (by omega))
    rw [show ((s.x.toNat : Nat) : Int) = s.x by omega] at d1
    rw [show ((s.y.toNat : Nat) : Int) = s.y by omega] at d2
    have l1 := dec_len s.x.toNat (by omega)
    have l2 := dec_len s.y.toNat (by omega)
    obtain ⟨T, hT⟩ : ∃ T, toldB s = T := ⟨_, rfl⟩
    rw [hT]
    have hT2 := hT
    unfold toldB at hT2
    rw [if_neg (by rw [hf]; simp), joinN_two] at hT2
    obtain ⟨A, hA⟩ : ∃ A, Lib.decDigits s.x.toNat = A := ⟨_, rfl⟩
    obtain ⟨B, hB⟩ : ∃ A, Lib.decDigits s.y.toNat = A := ⟨_, rfl⟩
    rw [hA] at d1 hT2 l1
    rw [hB] at d2 hT2 l2
    have z1 := bS_size A
    have z2 := bS_size B
    obtain ⟨T1, hT1⟩ : ∃ T1, A ++ [32] = T1 := ⟨_, rfl⟩
    have z3 := bS_size T1
    have z4 : T1.length ≤ 7 := by rw [← hT1, List.length_append]; simp only [List.length_cons, List.length_nil]; omega
    have c1 : bS A ++ (⟨#[32]⟩ : ByteArray) = bS T1 := by rw [← hT1]; exact bS_app A [32]
    have c2 : bS T1 ++ bS B = bS T := by rw [bS_app, ← hT1, ← hT2]; simp
    have y1 : ¬ (9223372036854775807 < (bS A).size + 1) := by omega
    have y2 : ¬ (9223372036854775807 < (bS T1).size + (bS B).size) := by omega
    replace hT := Lib.hid hT
    clear hT2 hT1 hA hB
    go_enter Tryz.func66, Tryz.ntmps66
    go_wp2_with fail
    refine (d1.out _).mono ?_; rintro e w1 ⟨rfl, hw⟩
    obtain rfl := hw.symm
    go_wp2_with fail
    refine (d2.out _).mono ?_; rintro e w1 ⟨rfl, hw⟩
    obtain rfl := hw.symm
    go_wp2
    go_ret
    exact ⟨rfl, balloc (Below.refl _ _) _⟩
  · have hT : toldB s = [102, 97, 114] := by unfold toldB; rw [if_pos hf]
    rw [hT]
    clear hT
    go_enter Tryz.func66, Tryz.ntmps66
    go_wp2_with fail
    go_ret
    exact ⟨rfl, balloc (Below.refl _ _) _⟩
set_option maxHeartbeats 4000000 in
theorem rname_c (k : Int) (w : World) (h : k = 1 ∨ k = 4 ∨ k = 5) : Calls Tryz.prog 68 #[.int .i64 k] w fun e w' => e = .returned (.string (bS (nameB k))) ∧ Below w.heap.size w w' := by
  rcases h with rfl | rfl | rfl
  all_goals
    go_enter Tryz.func68, Tryz.ntmps68
    go_wp2_with fail
    go_ret
    exact ⟨rfl, by repeat (first | exact Below.refl _ _ | refine balloc ?_ _ | refine Below.drew ?_ | refine below_drewN ?_ _)⟩
end Go.Proofs.YtjjmelhhalomaaaGreatDoor
namespace Go.Proofs.YtjjmelhhalomaaaGreatDoor
open Go.RowKit
set_option maxRecDepth 100000
set_option linter.unusedVariables false
set_option linter.unusedSimpArgs false
set_option maxHeartbeats 1000000 in
theorem refBytes_far (x y : Int) (w : World) : Calls Tryz.prog 157 #[.agg #[.int .i64 x, .int .i64 y, .bool true]] w fun e w' => e = .returned (.string ⟨#[0]⟩) ∧ Below w.heap.size w w' := by
  go_enter Tryz.func157, Tryz.ntmps157
  go_wp2
  go_ret
  exact ⟨rfl, (by repeat (first | exact Below.refl _ _ | refine balloc ?_ _ | refine Below.drew ?_ | refine below_drewN ?_ _ | refine below_set ?_ (by first | omega | (dsimp only; omega)) _))⟩
set_option maxHeartbeats 1000000 in
theorem refBytes_big (x y : Int) (w : World) (x0 : 0 ≤ x) (x1 : x < 4051) (y0 : 0 ≤ y) (y1 : y < 4051) (h : 4051 < 2 * y) : Calls Tryz.prog 157 #[.agg #[.int .i64 x, .int .i64 y, .bool false]] w fun e w' => e = .returned (.string (strOfNums [2, x / 256, x % 256])) ∧ Below w.heap.size w w' := by
  have hcv := conv3 ((w.alloc (.cells #[.int .i64 x, .int .i64 y, .bool false] 28)).alloc (.cells #[.int .u8 2, .int .u8 (x / 256), .int .u8 (x % 256)] 5)) (w.heap.size + 1) 2 (x / 256) (x % 256) (by go_simp) (by go_simp) (by go_simp)
  go_enter Tryz.func157, Tryz.ntmps157
  go_wp2
  go_ret
  exact ⟨rfl, balloc (below_alloc _ _) _⟩
set_option maxHeartbeats 1000000 in
theorem refBytes_small (x y : Int) (w : World) (x0 : 0 ≤ x) (x1 : x < 4051) (y0 : 0 ≤ y) (y1 : y < 4051) (h : ¬ 4051 < 2 * y) : Calls Tryz.prog 157 #[.agg #[.int .i64 x, .int .i64 y, .bool false]] w fun e w' => e = .returned (.string (strOfNums [1, x / 256, x % 256])) ∧ Below w.heap.size w w' := by
  have hcv := conv3 ((w.alloc (.cells #[.int .i64 x, .int .i64 y, .bool false] 28)).alloc (.cells #[.int .u8 1, .int .u8 (x / 256), .int .u8 (x % 256)] 5)) (w.heap.size + 1) 1 (x / 256) (x % 256) (by go_simp) (by go_simp) (by go_simp)
  go_enter Tryz.func157, Tryz.ntmps157
  go_wp2
  go_ret
  exact ⟨rfl, balloc (below_alloc _ _) _⟩
theorem big_iff {y : Int} (y0 : 0 ≤ y) (y1 : y < 4051) : pOf (-y) < y ↔ 4051 < 2 * y := by
  by_cases h : y = 0
  · subst h; unfold pOf; decide
  · have e : pOf (-y) = 4051 - y := by
      unfold pOf
      rw [show -y = (4051 - y) + 4051 * (-1) by omega, Int.add_mul_emod_self_left]
      exact Int.emod_eq_of_lt (by omega) (by omega)
    rw [e]; omega
theorem refBytes_c (s : Sp) (w : World) (h : Ok s) : Calls Tryz.prog 157 #[spV s] w fun e w' => e = .returned (.string (sBytes s)) ∧ Below w.heap.size w w' := by
  have x0 := h.x0; have x1 := h.x1; have y0 := h.y0; have y1 := h.y1
  obtain ⟨x, y, f⟩ := s
  simp only at x0 x1 y0 y1
  cases f
  · by_cases hy : pOf (-y) < y
    · have e : sBytes ⟨x, y, false⟩ = strOfNums [2, x / 256, x % 256] := by simp [sBytes, hy]
      rw [e]; exact refBytes_big x y w x0 x1 y0 y1 ((big_iff y0 y1).mp hy)
    · have e : sBytes ⟨x, y, false⟩ = strOfNums [1, x / 256, x % 256] := by simp [sBytes, hy]
      rw [e]; exact refBytes_small x y w x0 x1 y0 y1 (fun c => hy ((big_iff y0 y1).mpr c))
  · exact refBytes_far x y w
theorem refBytes_e (s : Sp) (B : ByteArray) (w : World) (h : Ok s) (hB : Hid (sBytes s = B)) : Calls Tryz.prog 157 #[spV s] w fun e w' => e = .returned (.string B) ∧ Below w.heap.size w w' := by
  have := refBytes_c s w h; rw [hB.out] at this; exact this
end Go.Proofs.YtjjmelhhalomaaaGreatDoor
namespace Go.Proofs.YtjjmelhhalomaaaGreatDoor
open Go.RowKit
set_option maxRecDepth 100000
set_option linter.unusedVariables false
set_option linter.unusedSimpArgs false
set_option maxHeartbeats 1000000 in
theorem refLong_c (s : ByteArray) (w : World) (hs : s.size ≤ 9223372036854775807) : Calls Tryz.prog 115 #[.string s] w fun e w' => e = .returned (.int .i64 (lng s.data.toList)) ∧ Below w.heap.size w w' := by
  have hlen : s.data.toList.length = s.size := rfl
  have HL := Lib.hid hlen; clear hlen
  go_enter Tryz.func115, Tryz.ntmps115
  go_wp2
  go_loop [3, 4] (fun n i => ∃ k : Nat, k ≤ s.size ∧ i = .int .i64 k ∧ n = .int .i64 (lng (s.data.toList.take k))) (fun _ i => s.size - (intOf i).toNat)
  case atStart => exact ⟨0, Nat.zero_le _, rfl, by rw [List.take_zero, lng_nil]⟩
  case round =>
    obtain ⟨k, hk, rfl, rfl⟩ := hrel
    have h1 := (lng_bd (s.data.toList.take k)).1
    have h2 := (lng_bd (s.data.toList.take k)).2
    by_cases hlt : k < s.size
    · have ht : Hid (lng (s.data.toList.take (k + 1)) = (lng (s.data.toList.take k) * 263 + ((s[k]'hlt).toNat : Int) + 1) % 1000003) := lng_take s.data.toList k (by have := HL.out; omega)
      have h3 : (s[k]'hlt).toNat < 256 := UInt8.toNat_lt _
      go_wp2
      go_round
      case rel => exact ⟨k + 1, by omega, by go_num, by rw [ht.out]⟩
      case measure => simp [intOf]; omega
    · go_wp2
      go_ret
      exact ⟨ret_int (by rw [List.take_of_length_le (by have := HL.out; omega)]), (by repeat (first | exact Below.refl _ _ | refine balloc ?_ _ | refine Below.drew ?_ | refine below_drewN ?_ _ | refine below_set ?_ (by first | omega | (dsimp only; omega)) _))⟩
theorem refNumber_c (s : ByteArray) (w : World) (hs : s.size ≤ 9223372036854775807) : Calls Tryz.prog 71 #[.string s] w fun e w' => e = .returned (.int .i64 (hnum s.data.toList)) ∧ Below w.heap.size w w' := by
  have h1 := (lng_bd s.data.toList).1
  have h2 := (lng_bd s.data.toList).2
  go_enter Tryz.func71, Tryz.ntmps71
  go_wp2_with fail
  refine (refLong_c s _ hs).mono ?_; rintro e w1 ⟨rfl, hb⟩
  obtain ⟨hc1, hf1⟩ := bcell hb
  have z1 := hb.size
  try simp only [World.size_alloc, World.size_setCell, World.size_drew] at z1
  have hB1 : Below w.heap.size w w1 := below_seq (by repeat (first | exact Below.refl _ _ | refine balloc ?_ _ | refine Below.drew ?_ | refine below_drewN ?_ _ | refine below_set ?_ (by first | omega | (dsimp only; omega)) _)) hb
  clear hb
  go_wp2
  go_ret
  exact ⟨rfl, (by repeat (first | exact hB1 | exact Below.refl _ _ | refine balloc ?_ _ | refine Below.drew ?_ | refine below_drewN ?_ _ | refine below_set ?_ (by first | omega | (dsimp only; omega)) _))⟩
set_option maxHeartbeats 1000000 in
theorem refOf_c (s : ByteArray) (w : World) (hF : FarAt w) (hs : s.size ≤ 140737488351232) : Calls Tryz.prog 75 #[.string s] w fun e w' => e = .returned (spV (hSpot s.data.toList)) ∧ Below w.heap.size w w' := by
  have hF' := Lib.hid hF
  clear hF
  go_enter Tryz.func75, Tryz.ntmps75
  go_wp2
  go_loopw [3] (fun i wr => ∃ k : Nat, k ≤ 256 ∧ i = .int .i64 k ∧ hGo s.data.toList (256 - k) k = hSpot s.data.toList ∧ SpAt wr w.heap.size ⟨0, 0, false⟩ ∧ Below w.heap.size w wr) (fun i _ => 256 - (intOf i).toNat)
  case atStart => exact ⟨0, by omega, rfl, rfl, SpAt.fresh _ _ _ _ _, below_alloc _ _⟩
  case round =>
    obtain ⟨k, hk, rfl, hgo, hr, hB⟩ := hrel
    have hgo := Lib.hid hgo
    by_cases hlt : k < 256
    · have hcv := conv1 (wr.alloc (.cells #[.int .u8 k] 5)) wr.heap.size k (by go_simp)
      have hsz := strOf1 (k : Int)
      have htb := Lib.hid (text_byte s k)
      have hl0 := (lng_bd (s.data.toList ++ [UInt8.ofNat k])).1
      have hl1 := (lng_bd (s.data.toList ++ [UInt8.ofNat k])).2
      go_wp2_with fail
      refine (refLong_c _ _ (by rw [ByteArray.size_append]; omega)).mono ?_; rintro e w1 ⟨rfl, hb⟩
      rw [htb.out]
      have hr1 := (hr.alloc _).below hb
      have hB1 := below_seq (balloc hB _) hb
      clear hr hb hB hcv
      go_wp2_with fail
      change Calls _ _ #[.int .i64 (hX s.data.toList k)] _ _
      cases hq : isSq (height (hX s.data.toList k))
      · refine (refLift_n _ _ (hX_in _ _) hq).mono ?_; rintro e w2 ⟨rfl, hb⟩
        have hr2 := hr1.below hb
        have hB2 := below_seq hB1 hb
        have hm := Lib.hid (hGo_miss hlt (Or.inl hq))
        clear hr1 hb hB1 hl0 hl1 hq
        go_wp2
        go_roundw
        case rel => exact ⟨k + 1, by omega, by go_num, by rw [← hm.out]; exact hgo.out, hr2.alloc _, balloc hB2 _⟩
        case measure => simp [intOf]; omega
      · refine (refLift_y _ (lifted (hX s.data.toList k)) _ (hX_in _ _) hq rfl).mono ?_; rintro e w2 ⟨rfl, hb⟩
        have hr2 := hr1.below hb
        have hB2 := below_seq hB1 hb
        have hok := lifted_ok (hX_in s.data.toList k) hq
        have hQ := Lib.hid hq
        clear hr1 hb hB1 hl0 hl1 hq
        generalize hL : lifted (hX s.data.toList k) = L at *
        have hL := Lib.hid hL
        go_wp2_with fail
        refine (refFour_c L _ hok).mono ?_; rintro e w3 ⟨rfl, hb⟩
        have hr3 := (hr2.alloc _).below hb
        have hB3 := below_seq (balloc hB2 _) hb
        clear hr2 hb hB2 hok
        cases hf : (sFour L).far
        · have hm : Hid (sFour L = hSpot s.data.toList) := by
            show _ = _
            rw [← hgo.out, hGo_hit hlt hQ.out (by rw [hL.out]; exact hf), hL.out]
          obtain ⟨r0, r1, r2, fr0, fr1, fr2, hrl⟩ := hr3
          generalize hS : sFour L = S at *
          have hS := Lib.hid hS
          go_wp2
          have k := set3_cell (w := w3) (x := .int .i64 S.x) (y := .int .i64 S.y) (z := .bool false) r0 r1 r2
          refine bodyPost_ret (v := spV S) (by simp [results, Tryz.results75, go_sem, k.1, k.2.1, k.2.2, hf, hrl]) rfl ⟨by rw [hm.out], balloc (set3_below hB3 (by omega)) _⟩
        · have hm := Lib.hid (hGo_miss hlt (Or.inr (by rw [hL.out]; exact hf)))
          go_wp2
          go_roundw
          case rel => exact ⟨k + 1, by omega, by go_num, by rw [← hm.out]; exact hgo.out, hr3.alloc _, balloc hB3 _⟩
          case measure => simp [intOf]; omega
    · obtain rfl : k = 256 := by omega
      have hm : Hid (sq 4 = hSpot s.data.toList) := by show _ = _; rw [← hgo.out, hGo_end]
      go_wp2_with fail
      refine (refBase_c _).mono ?_; rintro e w1 ⟨rfl, hb⟩
      have hr1 := hr.below hb
      have hB1 := below_seq hB hb
      clear hr hb hB
      obtain ⟨r0, r1, r2, fr0, fr1, fr2, hrl⟩ := hr1
      go_wp2
      have k := set3_cell (w := w1) (x := .int .i64 (sq 4).x) (y := .int .i64 (sq 4).y) (z := .bool (sq 4).far) r0 r1 r2
      refine bodyPost_ret (v := spV (sq 4)) (by simp [results, Tryz.results75, go_sem, k.1, k.2.1, k.2.2]) rfl ⟨by rw [hm.out], set3_below hB1 (by omega)⟩
end Go.Proofs.YtjjmelhhalomaaaGreatDoor
namespace Go.Proofs.YtjjmelhhalomaaaGreatDoor
open Go.RowKit
set_option maxRecDepth 100000
set_option linter.unusedVariables false
set_option linter.unusedSimpArgs false
set_option maxHeartbeats 400000 in
theorem rSecret_y (n : Int) (w : World) (h1 : 1 ≤ n) (h2 : n < 1013) : Calls Tryz.prog 64 #[.int .i64 n] w fun e w' => e = .returned (.bool true) ∧ w = w' := by
  go_enter Tryz.func64, Tryz.ntmps64
  go_wp2
  go_ret
  exact ⟨rfl, rfl⟩
set_option maxHeartbeats 400000 in
theorem rSecret_n (n : Int) (w : World) (h : ¬ (1 ≤ n ∧ n < 1013)) : Calls Tryz.prog 64 #[.int .i64 n] w fun e w' => e = .returned (.bool false) ∧ w = w' := by
  by_cases h1 : 1 ≤ n
  · have h2 : ¬ n < 1013 := fun c => h ⟨h1, c⟩
    clear h
    go_enter Tryz.func64, Tryz.ntmps64
    go_wp2
    go_ret
    exact ⟨rfl, rfl⟩
  · clear h
    go_enter Tryz.func64, Tryz.ntmps64
    go_wp2
    go_ret
    exact ⟨rfl, rfl⟩
set_option maxHeartbeats 400000 in
theorem rRest_y (n : Int) (w : World) (h1 : 0 ≤ n) (h2 : n < 1013) : Calls Tryz.prog 65 #[.int .i64 n] w fun e w' => e = .returned (.bool true) ∧ w = w' := by
  go_enter Tryz.func65, Tryz.ntmps65
  go_wp2
  go_ret
  exact ⟨rfl, rfl⟩
set_option maxHeartbeats 400000 in
theorem rRest_n (n : Int) (w : World) (h : ¬ (0 ≤ n ∧ n < 1013)) : Calls Tryz.prog 65 #[.int .i64 n] w fun e w' => e = .returned (.bool false) ∧ w = w' := by
  by_cases h1 : 0 ≤ n
  · have h2 : ¬ n < 1013 := fun c => h ⟨h1, c⟩
    clear h
    go_enter Tryz.func65, Tryz.ntmps65
    go_wp2
    go_ret
    exact ⟨rfl, rfl⟩
  · clear h
    go_enter Tryz.func65, Tryz.ntmps65
    go_wp2
    go_ret
    exact ⟨rfl, rfl⟩
/-- Both, as Booleans. -/
def secB (n : Int) : Bool := decide (1 ≤ n ∧ n < 1013)
def resB (n : Int) : Bool := decide (0 ≤ n ∧ n < 1013)
theorem rSecret_b (n : Int) (b : Bool) (w : World) (h : Hid (secB n = b)) : Calls Tryz.prog 64 #[.int .i64 n] w fun e w' => e = .returned (.bool b) ∧ w = w' := by
  rw [← h.out]; unfold secB
  by_cases c : 1 ≤ n ∧ n < 1013
  · rw [decide_eq_true c]; exact rSecret_y n w c.1 c.2
  · rw [decide_eq_false c]; exact rSecret_n n w c
theorem rRest_b (n : Int) (b : Bool) (w : World) (h : Hid (resB n = b)) : Calls Tryz.prog 65 #[.int .i64 n] w fun e w' => e = .returned (.bool b) ∧ w = w' := by
  rw [← h.out]; unfold resB
  by_cases c : 0 ≤ n ∧ n < 1013
  · rw [decide_eq_true c]; exact rRest_y n w c.1 c.2
  · rw [decide_eq_false c]; exact rRest_n n w c
theorem refTimes_b (n : Int) (c : Sp) (w : World) (n0 : -9223372036854775808 ≤ n) (n1 : n ≤ 9223372036854775807) (h : Hid (sq (4 * n) = c)) : Calls Tryz.prog 74 #[spV ⟨1189, 3667, false⟩, .int .i64 n] w fun e w' => e = .returned (spV c) ∧ Below w.heap.size w w' :=
  refTimes_e ⟨1189, 3667, false⟩ c 4 n w n0 n1 sq_4.symm h
set_option maxHeartbeats 1000000 in
theorem refBy_e (n : Int) (c : Sp) (w : World) (n0 : -9223372036854775808 ≤ n) (n1 : n ≤ 9223372036854775807) (h : Hid (sq (4 * n) = c)) : Calls Tryz.prog 67 #[.int .i64 n] w fun e w' => e = .returned (spV c) ∧ Below w.heap.size w w' := by
  go_enter Tryz.func67, Tryz.ntmps67
  go_wp2_with fail
  refine (refBase_k _).mono ?_; rintro e w1 ⟨rfl, hb⟩
  obtain ⟨hc1, hf1⟩ := bcell hb
  have z1 := hb.size
  try simp only [World.size_alloc, World.size_setCell, World.size_drew] at z1
  have s1_0 : w.heap.size < w1.heap.size := by omega
  have hB1 : Below w.heap.size w w1 := below_seq (by repeat (first | exact Below.refl _ _ | refine balloc ?_ _ | refine Below.drew ?_ | refine below_drewN ?_ _ | refine below_set ?_ (by first | omega | (dsimp only; omega)) _)) hb
  clear hb
  go_wp2_with fail
  refine (refTimes_b n c _ n0 n1 h).mono ?_; rintro e w2 ⟨rfl, hb⟩
  obtain ⟨hc2, hf2⟩ := bcell hb
  have z2 := hb.size
  try simp only [World.size_alloc, World.size_setCell, World.size_drew] at z2
  have s2_0 : w.heap.size < w2.heap.size := by omega
  have hB2 : Below w.heap.size w w2 := below_seq (by repeat (first | exact hB1 | exact Below.refl _ _ | refine balloc ?_ _ | refine Below.drew ?_ | refine below_drewN ?_ _ | refine below_set ?_ (by first | omega | (dsimp only; omega)) _)) hb
  clear hb
  have r0 : w2.cell? ⟨w.heap.size, 0, none⟩ = some (.int .i64 0) := by go_simp
  have r1 : w2.cell? ⟨w.heap.size, 1, none⟩ = some (.int .i64 0) := by go_simp
  have r2 : w2.cell? ⟨w.heap.size, 2, none⟩ = some (.bool false) := by go_simp
  go_wp2
  have k := set3_cell (w := w2) (x := .int .i64 (c).x) (y := .int .i64 (c).y) (z := .bool (c).far) r0 r1 r2
  refine bodyPost_ret (v := spV (c)) (by simp [results, Tryz.results67, go_sem, k.1, k.2.1, k.2.2]) rfl ⟨rfl, set3_below (by repeat (first | exact hB2 | exact Below.refl _ _ | refine balloc ?_ _ | refine Below.drew ?_ | refine below_drewN ?_ _ | refine below_set ?_ (by first | omega | (dsimp only; omega)) _)) (by omega)⟩
set_option maxHeartbeats 2000000 in
theorem refSum_e (n m u : Int) (s A B C : Sp) (w : World) (n0 : -9223372036854775808 ≤ n) (n1 : n ≤ 9223372036854775807) (m0 : -9223372036854775808 ≤ m) (m1 : m ≤ 9223372036854775807) (hs : Hid (s = sq u)) (hA : Hid (sq (4 * n) = A)) (hB' : Hid (sq (u * m) = B)) (oA : Ok A) (oB : Ok B) (hC : Hid (sSum A B = C)) : Calls Tryz.prog 119 #[.int .i64 n, .int .i64 m, spV s] w fun e w' => e = .returned (spV C) ∧ Below w.heap.size w w' := by
  go_enter Tryz.func119, Tryz.ntmps119
  go_wp2_with fail
  refine (refBase_k _).mono ?_; rintro e w1 ⟨rfl, hb⟩
  obtain ⟨hc1, hf1⟩ := bcell hb
  have z1 := hb.size
  try simp only [World.size_alloc, World.size_setCell, World.size_drew] at z1
  have s1_0 : w.heap.size < w1.heap.size := by omega
  have s1_1 : w.heap.size + 1 < w1.heap.size := by omega
  have hB1 : Below w.heap.size w w1 := below_seq (by repeat (first | exact Below.refl _ _ | refine balloc ?_ _ | refine Below.drew ?_ | refine below_drewN ?_ _ | refine below_set ?_ (by first | omega | (dsimp only; omega)) _)) hb
  clear hb
  go_wp2_with fail
  refine (refTimes_b n A _ n0 n1 hA).mono ?_; rintro e w2 ⟨rfl, hb⟩
  obtain ⟨hc2, hf2⟩ := bcell hb
  have z2 := hb.size
  try simp only [World.size_alloc, World.size_setCell, World.size_drew] at z2
  have s2_0 : w.heap.size < w2.heap.size := by omega
  have s2_1 : w.heap.size + 1 < w2.heap.size := by omega
  have hB2 : Below w.heap.size w w2 := below_seq (by repeat (first | exact hB1 | exact Below.refl _ _ | refine balloc ?_ _ | refine Below.drew ?_ | refine below_drewN ?_ _ | refine below_set ?_ (by first | omega | (dsimp only; omega)) _)) hb
  clear hb
  go_wp2_with fail
  refine (refTimes_e s B u m _ m0 m1 hs hB').mono ?_; rintro e w3 ⟨rfl, hb⟩
  obtain ⟨hc3, hf3⟩ := bcell hb
  have z3 := hb.size
  try simp only [World.size_alloc, World.size_setCell, World.size_drew] at z3
  have s3_0 : w.heap.size < w3.heap.size := by omega
  have s3_1 : w.heap.size + 1 < w3.heap.size := by omega
  have s3_2 : w2.heap.size < w3.heap.size := by omega
  have hB3 : Below w.heap.size w w3 := below_seq (by repeat (first | exact hB2 | exact Below.refl _ _ | refine balloc ?_ _ | refine Below.drew ?_ | refine below_drewN ?_ _ | refine below_set ?_ (by first | omega | (dsimp only; omega)) _)) hb
  clear hb
  have m3_0_0 : w3.cell? ⟨w2.heap.size, 0, none⟩ = some (.int .i64 A.x) := by go_simp
  have m3_0_1 : w3.cell? ⟨w2.heap.size, 1, none⟩ = some (.int .i64 A.y) := by go_simp
  have m3_0_2 : w3.cell? ⟨w2.heap.size, 2, none⟩ = some (.bool A.far) := by go_simp
  go_wp2_with fail
  refine (refAdd_e A B C _ oA oB hC).mono ?_; rintro e w4 ⟨rfl, hb⟩
  obtain ⟨hc4, hf4⟩ := bcell hb
  have z4 := hb.size
  try simp only [World.size_alloc, World.size_setCell, World.size_drew] at z4
  have s4_0 : w.heap.size < w4.heap.size := by omega
  have s4_1 : w.heap.size + 1 < w4.heap.size := by omega
  have s4_2 : w2.heap.size < w4.heap.size := by omega
  have s4_3 : w3.heap.size < w4.heap.size := by omega
  have hB4 : Below w.heap.size w w4 := below_seq (by repeat (first | exact hB3 | exact Below.refl _ _ | refine balloc ?_ _ | refine Below.drew ?_ | refine below_drewN ?_ _ | refine below_set ?_ (by first | omega | (dsimp only; omega)) _)) hb
  clear hb
  have m4_0_0 : w4.cell? ⟨w2.heap.size, 0, none⟩ = some (.int .i64 A.x) := by go_simp
  have m4_0_1 : w4.cell? ⟨w2.heap.size, 1, none⟩ = some (.int .i64 A.y) := by go_simp
  have m4_0_2 : w4.cell? ⟨w2.heap.size, 2, none⟩ = some (.bool A.far) := by go_simp
  have m4_1_0 : w4.cell? ⟨w3.heap.size, 0, none⟩ = some (.int .i64 B.x) := by go_simp
  have m4_1_1 : w4.cell? ⟨w3.heap.size, 1, none⟩ = some (.int .i64 B.y) := by go_simp
  have m4_1_2 : w4.cell? ⟨w3.heap.size, 2, none⟩ = some (.bool B.far) := by go_simp
  clear m3_0_0 m3_0_1 m3_0_2
  have r0 : w4.cell? ⟨w.heap.size + 1, 0, none⟩ = some (.int .i64 0) := by go_simp
  have r1 : w4.cell? ⟨w.heap.size + 1, 1, none⟩ = some (.int .i64 0) := by go_simp
  have r2 : w4.cell? ⟨w.heap.size + 1, 2, none⟩ = some (.bool false) := by go_simp
  go_wp2
  have k := set3_cell (w := w4) (x := .int .i64 (C).x) (y := .int .i64 (C).y) (z := .bool (C).far) r0 r1 r2
  refine bodyPost_ret (v := spV (C)) (by simp [results, Tryz.results119, go_sem, k.1, k.2.1, k.2.2]) rfl ⟨rfl, set3_below (by repeat (first | exact hB4 | exact Below.refl _ _ | refine balloc ?_ _ | refine Below.drew ?_ | refine below_drewN ?_ _ | refine below_set ?_ (by first | omega | (dsimp only; omega)) _)) (by omega)⟩
set_option maxHeartbeats 1000000 in
theorem rAsk_e (r key : Sp) (t : ByteArray) (c : Int) (w : World) (hr : Ok r) (hk : Ok key) (hz : t.size ≤ 60) (h : Hid (askN r key t.data.toList = c)) : Calls Tryz.prog 121 #[spV r, spV key, .string t] w fun e w' => e = .returned (.int .i64 c) ∧ Below w.heap.size w w' := by
  rw [← h.out]
  have z1 := sBytes_size r
  have z2 := sBytes_size key
  have n1 : ¬ (9223372036854775807 < (sBytes r).size + (sBytes key).size) := by omega
  have n2 : ¬ (9223372036854775807 < (sBytes r).size + (sBytes key).size + t.size) := by omega
  have z4 : Hid ((sBytes r ++ sBytes key ++ t).size ≤ 9223372036854775807) := by show _ ≤ _; rw [ByteArray.size_append, ByteArray.size_append]; omega
  go_enter Tryz.func121, Tryz.ntmps121
  go_wp2_with fail
  refine wp_region_grow Tryz.mixed (by kernel_rfl) ?_
  repeat (quiet_step ((first | (go_at_call 157; exact grow_of (refBytes_c _ _ (by assumption))) | (go_at_call 71; exact grow_of (refNumber_c _ _ z4.out)))))
  refine wpQuiet_nil ?_
  intro _ hw'
  obtain ⟨x, rfl⟩ := hw'
  go_wp2
  go_ret
  exact ⟨rfl, below_seq (balloc (below_alloc _ _) _) x.h⟩
set_option maxHeartbeats 2000000 in
theorem rSign_e (x k : Int) (t : ByteArray) (R K : Sp) (c S : Int) (w : World) (x1 : 1 ≤ x) (x2 : x < 1013) (k1 : 1 ≤ k) (k2 : k < 1013) (hz : t.size ≤ 60) (hR : Hid (sq (4 * k) = R)) (hK : Hid (sq (4 * x) = K)) (oR : Ok R) (oK : Ok K) (hc : Hid (askN R K t.data.toList = c)) (m0 : 0 ≤ c * x) (m1 : c * x ≤ 1024144) (hS : Hid ((k + c * x) % 1013 = S)) :
    Calls Tryz.prog 76 #[.int .i64 x, .int .i64 k, .string t] w fun e w' => e = .returned (slV R S) ∧ Below w.heap.size w w' := by
  go_enter Tryz.func76, Tryz.ntmps76
  go_wp2_with fail
  refine (refBy_e k R _ (by omega) (by omega) hR).mono ?_; rintro e w1 ⟨rfl, hb⟩
  obtain ⟨hc1, hf1⟩ := bcell hb
  have z1 := hb.size
  try simp only [World.size_alloc, World.size_setCell, World.size_drew] at z1
  have s1_0 : w.heap.size < w1.heap.size := by omega
  have hB1 : Below w.heap.size w w1 := below_seq (by repeat (first | exact Below.refl _ _ | refine balloc ?_ _ | refine Below.drew ?_ | refine below_drewN ?_ _ | refine below_set ?_ (by first | omega | (dsimp only; omega)) _)) hb
  clear hb
  have m1_0_0 : w1.cell? ⟨w.heap.size, 0, none⟩ = some (.int .i64 0) := by go_simp
  have m1_0_1 : w1.cell? ⟨w.heap.size, 1, none⟩ = some (.int .i64 0) := by go_simp
  have m1_0_2 : w1.cell? ⟨w.heap.size, 2, none⟩ = some (.bool false) := by go_simp
  have m1_0_3 : w1.cell? ⟨w.heap.size, 3, none⟩ = some (.int .i64 0) := by go_simp
  go_wp2_with fail
  refine (refBy_e x K _ (by omega) (by omega) hK).mono ?_; rintro e w2 ⟨rfl, hb⟩
  obtain ⟨hc2, hf2⟩ := bcell hb
  have z2 := hb.size
  try simp only [World.size_alloc, World.size_setCell, World.size_drew] at z2
  have s2_0 : w.heap.size < w2.heap.size := by omega
  have s2_1 : w1.heap.size < w2.heap.size := by omega
  have hB2 : Below w.heap.size w w2 := below_seq (by repeat (first | exact hB1 | exact Below.refl _ _ | refine balloc ?_ _ | refine Below.drew ?_ | refine below_drewN ?_ _ | refine below_set ?_ (by first | omega | (dsimp only; omega)) _)) hb
  clear hb
  have m2_0_0 : w2.cell? ⟨w.heap.size, 0, none⟩ = some (.int .i64 0) := by go_simp
  have m2_0_1 : w2.cell? ⟨w.heap.size, 1, none⟩ = some (.int .i64 0) := by go_simp
  have m2_0_2 : w2.cell? ⟨w.heap.size, 2, none⟩ = some (.bool false) := by go_simp
  have m2_0_3 : w2.cell? ⟨w.heap.size, 3, none⟩ = some (.int .i64 0) := by go_simp
  have m2_1_0 : w2.cell? ⟨w1.heap.size, 0, none⟩ = some (.int .i64 R.x) := by go_simp
  have m2_1_1 : w2.cell? ⟨w1.heap.size, 1, none⟩ = some (.int .i64 R.y) := by go_simp
  have m2_1_2 : w2.cell? ⟨w1.heap.size, 2, none⟩ = some (.bool R.far) := by go_simp
  clear m1_0_0 m1_0_1 m1_0_2 m1_0_3
  go_wp2_with fail
  refine (rAsk_e R K t c _ oR oK hz hc).mono ?_; rintro e w3 ⟨rfl, hb⟩
  obtain ⟨hc3, hf3⟩ := bcell hb
  have z3 := hb.size
  try simp only [World.size_alloc, World.size_setCell, World.size_drew] at z3
  have s3_0 : w.heap.size < w3.heap.size := by omega
  have s3_1 : w1.heap.size < w3.heap.size := by omega
  have s3_2 : w2.heap.size < w3.heap.size := by omega
  have hB3 : Below w.heap.size w w3 := below_seq (by repeat (first | exact hB2 | exact Below.refl _ _ | refine balloc ?_ _ | refine Below.drew ?_ | refine below_drewN ?_ _ | refine below_set ?_ (by first | omega | (dsimp only; omega)) _)) hb
  clear hb
  have m3_0_0 : w3.cell? ⟨w.heap.size, 0, none⟩ = some (.int .i64 0) := by go_simp
  have m3_0_1 : w3.cell? ⟨w.heap.size, 1, none⟩ = some (.int .i64 0) := by go_simp
  have m3_0_2 : w3.cell? ⟨w.heap.size, 2, none⟩ = some (.bool false) := by go_simp
  have m3_0_3 : w3.cell? ⟨w.heap.size, 3, none⟩ = some (.int .i64 0) := by go_simp
  have m3_1_0 : w3.cell? ⟨w1.heap.size, 0, none⟩ = some (.int .i64 R.x) := by go_simp
  have m3_1_1 : w3.cell? ⟨w1.heap.size, 1, none⟩ = some (.int .i64 R.y) := by go_simp
  have m3_1_2 : w3.cell? ⟨w1.heap.size, 2, none⟩ = some (.bool R.far) := by go_simp
  have m3_2_0 : w3.cell? ⟨w2.heap.size, 0, none⟩ = some (.int .i64 K.x) := by go_simp
  have m3_2_1 : w3.cell? ⟨w2.heap.size, 1, none⟩ = some (.int .i64 K.y) := by go_simp
  have m3_2_2 : w3.cell? ⟨w2.heap.size, 2, none⟩ = some (.bool K.far) := by go_simp
  clear m2_0_0 m2_0_1 m2_0_2 m2_0_3 m2_1_0 m2_1_1 m2_1_2
  go_wp2
  have k := set4_cell (w := w3) (x := .int .i64 R.x) (y := .int .i64 R.y) (z := .bool R.far) (p := .int .i64 ((k + c * x) % 1013)) m3_0_0 m3_0_1 m3_0_2 m3_0_3
  rw [hS.out] at k
  refine bodyPost_ret (v := slV R S) (by simp [results, Tryz.results76, go_sem, k.1, k.2.1, k.2.2.1, k.2.2.2, hS.out]) rfl ⟨rfl, set4_below (by repeat (first | exact hB3 | exact Below.refl _ _ | refine balloc ?_ _ | refine Below.drew ?_ | refine below_drewN ?_ _ | refine below_set ?_ (by first | omega | (dsimp only; omega)) _)) (by omega)⟩
end Go.Proofs.YtjjmelhhalomaaaGreatDoor
namespace Go.Proofs.YtjjmelhhalomaaaGreatDoor
open Go.RowKit
set_option maxRecDepth 100000
set_option linter.unusedVariables false
set_option linter.unusedSimpArgs false
set_option maxHeartbeats 1000000 in
theorem rSecond_c (w : World) (hF : FarAt w) : Calls Tryz.prog 120 #[] w fun e w' => e = .returned (spV (sq (4 * hJ))) ∧ Below w.heap.size w w' := by
  go_enter Tryz.func120, Tryz.ntmps120
  go_wp2_with fail
  refine (refOf_c ⟨#[115, 101, 99, 111, 110, 100]⟩ _ (hF.below (by repeat (first | exact Below.refl _ _ | refine balloc ?_ _ | refine Below.drew ?_ | refine below_drewN ?_ _ | refine below_set ?_ (by first | omega | (dsimp only; omega)) _))) (by show 6 ≤ _; omega)).mono ?_; rintro e w1 ⟨rfl, hb⟩
  rw [show hSpot (⟨#[115, 101, 99, 111, 110, 100]⟩ : ByteArray).data.toList = sq (4 * hJ) from hJ_spec.2.2]
  obtain ⟨hc1, hf1⟩ := bcell hb
  have z1 := hb.size
  try simp only [World.size_alloc, World.size_setCell, World.size_drew] at z1
  have s1_0 : w.heap.size < w1.heap.size := by omega
  have hB1 : Below w.heap.size w w1 := below_seq (by repeat (first | exact Below.refl _ _ | refine balloc ?_ _ | refine Below.drew ?_ | refine below_drewN ?_ _ | refine below_set ?_ (by first | omega | (dsimp only; omega)) _)) hb
  clear hb
  have r0 : w1.cell? ⟨w.heap.size, 0, none⟩ = some (.int .i64 0) := by go_simp
  have r1 : w1.cell? ⟨w.heap.size, 1, none⟩ = some (.int .i64 0) := by go_simp
  have r2 : w1.cell? ⟨w.heap.size, 2, none⟩ = some (.bool false) := by go_simp
  go_wp2
  have k := set3_cell (w := w1) (x := .int .i64 (sq (4 * hJ)).x) (y := .int .i64 (sq (4 * hJ)).y) (z := .bool (sq (4 * hJ)).far) r0 r1 r2
  refine bodyPost_ret (v := spV (sq (4 * hJ))) (by simp [results, Tryz.results120, go_sem, k.1, k.2.1, k.2.2]) rfl ⟨rfl, set3_below (by repeat (first | exact hB1 | exact Below.refl _ _ | refine balloc ?_ _ | refine Below.drew ?_ | refine below_drewN ?_ _ | refine below_set ?_ (by first | omega | (dsimp only; omega)) _)) (by omega)⟩
set_option maxHeartbeats 1000000 in
theorem rHide_e (v r : Int) (C : Sp) (w : World) (hF : FarAt w) (v0 : 0 ≤ v) (v1 : v < 1013) (r0 : 0 ≤ r) (r1 : r < 1013) (hC : Hid (sq (4 * v + 4 * hJ * r) = C)) : Calls Tryz.prog 73 #[.int .i64 v, .int .i64 r] w fun e w' => e = .returned (spV C) ∧ Below w.heap.size w w' := by
  have hs : Hid (sSum (sq (4 * v)) (sq (4 * hJ * r)) = C) := by show _ = _; rw [sq_add, hC.out]
  have v2 : -9223372036854775808 ≤ v := by omega
  have v3 : v ≤ 9223372036854775807 := by omega
  have r2 : -9223372036854775808 ≤ r := by omega
  have r3 : r ≤ 9223372036854775807 := by omega
  clear v0 v1 r0 r1 hC
  go_enter Tryz.func73, Tryz.ntmps73
  go_wp2_with fail
  refine (rSecond_c _ (hF.below (by repeat (first | exact Below.refl _ _ | refine balloc ?_ _ | refine Below.drew ?_ | refine below_drewN ?_ _ | refine below_set ?_ (by first | omega | (dsimp only; omega)) _)))).mono ?_; rintro e w1 ⟨rfl, hb⟩
  obtain ⟨hc1, hf1⟩ := bcell hb
  have z1 := hb.size
  try simp only [World.size_alloc, World.size_setCell, World.size_drew] at z1
  have s1_0 : w.heap.size < w1.heap.size := by omega
  have hB1 : Below w.heap.size w w1 := below_seq (by repeat (first | exact Below.refl _ _ | refine balloc ?_ _ | refine Below.drew ?_ | refine below_drewN ?_ _ | refine below_set ?_ (by first | omega | (dsimp only; omega)) _)) hb
  clear hb
  go_wp2_with fail
  refine (refSum_e v r (4 * hJ) (sq (4 * hJ)) _ _ C _ v2 v3 r2 r3 rfl rfl rfl (sq_ok _) (sq_ok _) hs).mono ?_; rintro e w2 ⟨rfl, hb⟩
  obtain ⟨hc2, hf2⟩ := bcell hb
  have z2 := hb.size
  try simp only [World.size_alloc, World.size_setCell, World.size_drew] at z2
  have s2_0 : w.heap.size < w2.heap.size := by omega
  have hB2 : Below w.heap.size w w2 := below_seq (by repeat (first | exact hB1 | exact Below.refl _ _ | refine balloc ?_ _ | refine Below.drew ?_ | refine below_drewN ?_ _ | refine below_set ?_ (by first | omega | (dsimp only; omega)) _)) hb
  clear hb
  have r0 : w2.cell? ⟨w.heap.size, 0, none⟩ = some (.int .i64 0) := by go_simp
  have r1 : w2.cell? ⟨w.heap.size, 1, none⟩ = some (.int .i64 0) := by go_simp
  have r2 : w2.cell? ⟨w.heap.size, 2, none⟩ = some (.bool false) := by go_simp
  go_wp2
  have k := set3_cell (w := w2) (x := .int .i64 (C).x) (y := .int .i64 (C).y) (z := .bool (C).far) r0 r1 r2
  refine bodyPost_ret (v := spV (C)) (by simp [results, Tryz.results73, go_sem, k.1, k.2.1, k.2.2]) rfl ⟨rfl, set3_below (by repeat (first | exact hB2 | exact Below.refl _ _ | refine balloc ?_ _ | refine Below.drew ?_ | refine below_drewN ?_ _ | refine below_set ?_ (by first | omega | (dsimp only; omega)) _)) (by omega)⟩
end Go.Proofs.YtjjmelhhalomaaaGreatDoor
namespace Go.Proofs.YtjjmelhhalomaaaGreatDoor
open Go.RowKit
set_option maxRecDepth 100000
set_option linter.unusedVariables false
set_option linter.unusedSimpArgs false
theorem take_snoc {α : Type} (l : List α) (n : Nat) (h : n < l.length) : l.take (n + 1) = l.take n ++ [l[n]] := by
  rw [List.take_add_one, List.getElem?_eq_getElem h]; rfl
end Go.Proofs.YtjjmelhhalomaaaGreatDoor
namespace Go.Proofs.YtjjmelhhalomaaaGreatDoor
open Go.RowKit
set_option maxRecDepth 100000
set_option linter.unusedVariables false
set_option linter.unusedSimpArgs false
/-- The error, as nothing or something. -/
theorem errV_0 : errV 0 = .nilIface := rfl
theorem groupF_0 {xs ks : List Int} {n : Nat} (h : groupF xs ks n = 0) : xs.length ≤ 12 ∧ ks.length = xs.length ∧ (∀ i (h : i < xs.length), 1 ≤ xs[i] ∧ xs[i] < 1013) ∧ (∀ i (h : i < ks.length), 1 ≤ ks[i] ∧ ks[i] < 1013) ∧ n ≤ 60 := by
  unfold groupF at h
  split at h
  · exact absurd h (by decide)
  split at h
  · exact absurd h (by decide)
  split at h
  · rename_i g1 g2 g3
    rw [Bool.and_eq_true] at g3
    split at h
    · exact absurd h (by decide)
    · exact ⟨by omega, by omega, fun i hi => okB_y (all_get g3.1 i hi), fun i hi => okB_y (all_get g3.2 i hi), by omega⟩
  · exact absurd h (by decide)
/-- A block of four cells, a seal's, all zero. -/
structure Z4 (w : World) (b : Nat) : Prop where
  c0 : w.cell? ⟨b, 0, none⟩ = some (.int .i64 0)
  c1 : w.cell? ⟨b, 1, none⟩ = some (.int .i64 0)
  c2 : w.cell? ⟨b, 2, none⟩ = some (.bool false)
  c3 : w.cell? ⟨b, 3, none⟩ = some (.int .i64 0)
  f0 : w.frozen? ⟨b, 0, none⟩ = false
  f1 : w.frozen? ⟨b, 1, none⟩ = false
  f2 : w.frozen? ⟨b, 2, none⟩ = false
  f3 : w.frozen? ⟨b, 3, none⟩ = false
  lt : b < w.heap.size
theorem Z4.below {w w' : World} {b : Nat} (h : Z4 w b) (hb : Below w.heap.size w w') : Z4 w' b := by
  obtain ⟨k, k'⟩ := bcell hb
  exact ⟨(k _ _ h.lt).trans h.c0, (k _ _ h.lt).trans h.c1, (k _ _ h.lt).trans h.c2, (k _ _ h.lt).trans h.c3, (k' _ _ h.lt).trans h.f0, (k' _ _ h.lt).trans h.f1, (k' _ _ h.lt).trans h.f2, (k' _ _ h.lt).trans h.f3, Nat.lt_of_lt_of_le h.lt hb.size⟩
theorem Z4.fresh (w : World) (t : TypeId) : Z4 (w.alloc (.cells #[.int .i64 0, .int .i64 0, .bool false, .int .i64 0] t)) w.heap.size := ⟨by simp, by simp, by simp, by simp, by simp, by simp, by simp, by simp, by simp⟩
theorem mul_1 {a b : Int} (h0 : 0 ≤ a) (h1 : a < 1013) (k0 : 0 ≤ b) (k1 : b < 1013) : 0 ≤ a * b ∧ a * b ≤ 1024144 :=
  ⟨Int.mul_nonneg h0 k0, Int.le_trans (Int.mul_le_mul (show a ≤ 1012 by omega) (show b ≤ 1012 by omega) k0 (by decide)) (by decide)⟩
end Go.Proofs.YtjjmelhhalomaaaGreatDoor
namespace Go.Proofs.YtjjmelhhalomaaaGreatDoor
open Go.RowKit
set_option maxRecDepth 100000
set_option linter.unusedVariables false
set_option linter.unusedSimpArgs false
theorem refNumber_n (s : ByteArray) (n : Int) (w : World) (hs : s.size ≤ 9223372036854775807) (h : Hid (hnum s.data.toList = n)) : Calls Tryz.prog 71 #[.string s] w fun e w' => e = .returned (.int .i64 n) ∧ Below w.heap.size w w' := by
  rw [← h.out]; exact refNumber_c s w hs
end Go.Proofs.YtjjmelhhalomaaaGreatDoor
namespace Go.Proofs.YtjjmelhhalomaaaGreatDoor
attribute [local semireducible] Z.pow
/-- The document's steps: the first is a doubling (twice the spot itself), then addings. -/
def refOps : List Bool := false :: List.replicate 1010 true
theorem refOps_good : cgood 1 refOps = true := by decide +kernel
theorem refOps_a : agood 1 refOps = true := by decide +kernel
def xK (k : Nat) : Nat := Nat.mod (Nat.shiftRight tabC (Nat.mul 24 k)) 4096
def yK (k : Nat) : Nat := Nat.mod (Nat.shiftRight tabC (Nat.add (Nat.mul 24 k) 12)) 4096
/-- One adding, packed: p + 4096 q. -/
def aPack (xm ym p q x y : Nat) : Nat :=
  (fun d => (fun c e => Nat.add (Nat.mod (Nat.add (Nat.mul p c) (Nat.mul (Nat.sub 4051 q) e)) 4051) (Nat.mul 4096 (Nat.mod (Nat.add (Nat.mul p e) (Nat.mul q c)) 4051)))
    (Nat.mod (Nat.add (Nat.mul (Nat.add y (Nat.sub 4051 ym)) (Nat.add 1189 x)) (Nat.mul (Nat.sub 4051 y) d)) 4051) (Nat.mod (Nat.mul d 3667) 4051)) (Nat.add x (Nat.sub 4051 xm))
def aRun (a xm ym : Nat) (n : Nat) : Nat → Nat → Nat := Nat.rec (motive := fun _ => Nat → Nat → Nat) (fun _ s => s) (fun _ ih k s => ih (Nat.mod (Nat.add k a) 4052) (aPack xm ym (Nat.mod s 4096) (Nat.div s 4096) (xK k) (yK k))) n
theorem aRun_succ (a xm ym n k s : Nat) : aRun a xm ym (n + 1) k s = aRun a xm ym n ((k + a) % 4052) (aPack xm ym (s % 4096) (s / 4096) (cx k) (cy k)) := rfl
theorem aPack_e (a p q k : Nat) : aPack (cx a) (cy a) p q (cx k) (cy k) = (qm2 (p, q) (nlA k a)).1 + 4096 * (qm2 (p, q) (nlA k a)).2 := rfl
theorem aRun_ok (a : Nat) : ∀ (n k p q : Nat), p < 4096 → q < 4096 → ((List.replicate n true).foldl (nstep a) ((p, q), k)).1 = (aRun a (cx a) (cy a) n k (p + 4096 * q) % 4096, aRun a (cx a) (cy a) n k (p + 4096 * q) / 4096)
  | 0, k, p, q, hp, hq => by
    show (p, q) = ((p + 4096 * q) % 4096, (p + 4096 * q) / 4096)
    exact Prod.ext (by show p = _; omega) (by show q = _; omega)
  | n + 1, k, p, q, hp, hq => by
    rw [List.replicate_succ, List.foldl_cons, aRun_succ, show (p + 4096 * q) % 4096 = p by omega, show (p + 4096 * q) / 4096 = q by omega, aPack_e]
    have h1 : (qm2 (p, q) (nlA k a)).1 < 4096 := Nat.lt_trans (Nat.mod_lt _ (by decide)) (by decide : 4051 < 4096)
    have h2 : (qm2 (p, q) (nlA k a)).2 < 4096 := Nat.lt_trans (Nat.mod_lt _ (by decide)) (by decide : 4051 < 4096)
    rw [← aRun_ok a n ((k + a) % 4052) _ _ h1 h2]
    rfl
def aStart (a : Nat) : Nat := (qm2 (qm2 (1, 0) (1, 0)) (nlD a)).1 + 4096 * (qm2 (qm2 (1, 0) (1, 0)) (nlD a)).2
def fastF (a : Nat) : Nat := aRun a (xK a) (yK a) 1010 (Nat.mod (Nat.add a a) 4052) (aStart a)
def fastAt (a : Nat) (z : Nat × Nat) : Bool := (fun f => eqP (fourth (f % 4096, (4051 - f / 4096) % 4051)) (qm2 (fourth (f % 4096, f / 4096)) z)) (fastF a)
theorem nrun_ref (a : Nat) : (nrun a refOps).1 = (fastF a % 4096, fastF a / 4096) := by
  have h1 : (qm2 (qm2 (1, 0) (1, 0)) (nlD a)).1 < 4096 := Nat.lt_trans (Nat.mod_lt _ (by decide)) (by decide : 4051 < 4096)
  have h2 : (qm2 (qm2 (1, 0) (1, 0)) (nlD a)).2 < 4096 := Nat.lt_trans (Nat.mod_lt _ (by decide)) (by decide : 4051 < 4096)
  have h := aRun_ok a 1010 ((a + a) % 4052) _ _ h1 h2
  show (refOps.foldl (nstep a) ((1, 0), a)).1 = _
  rw [refOps, List.foldl_cons]
  exact h
theorem fastAt_e (a : Nat) (z : Nat × Nat) : pairAt refOps a z = fastAt a z := by
  unfold pairAt fastAt
  rw [nrun_ref]
def chkF : Nat → Nat → Nat × Nat → Nat × Nat → Bool
  | 0, _, z, y => eqP z y
  | n + 1, i, z, y => fastAt (4 * i) z && chkF n (i + 1) (qm2 z (2824, 4013)) y
/-- What is known of one multiple of the base. -/
def RefAt (i : Nat) : Prop := ∃ y : Nat × Nat, pairAt refOps (4 * i) y = true ∧ zn y = zeta.pow i
theorem chkF_at : ∀ (n i : Nat) (z y : Nat × Nat), z.2 ≤ 4051 → zn z = zeta.pow i → chkF n i z y = true → (∀ j, j < n → RefAt (i + j)) ∧ zn y = zeta.pow (i + n)
  | 0, i, z, y, hz, he, h => ⟨fun j hj => absurd hj (Nat.not_lt_zero _), by rw [← eqP_ok h]; exact he⟩
  | n + 1, i, z, y, hz, he, h => by
    simp only [chkF, Bool.and_eq_true] at h
    have q := qm2_ok z (2824, 4013) hz
    have hs : zn (qm2 z (2824, 4013)) = zeta.pow (i + 1) := by rw [q.2, he]; rfl
    obtain ⟨h1, h2⟩ := chkF_at n (i + 1) _ y q.1 hs h.2
    refine ⟨fun j hj => ?_, by rw [h2]; congr 1; omega⟩
    match j with
    | 0 => exact ⟨z, by rw [fastAt_e]; exact h.1, he⟩
    | j + 1 => have := h1 j (by omega); rw [show i + 1 + j = i + (j + 1) by omega] at this; exact this
/- One after the other: side by side they take too much memory. -/
set_option maxHeartbeats 40000000 in
theorem rk_all : (chkF 92 1 (2824, 4013) (2375, 2063) = true) ∧ (chkF 92 93 (2375, 2063) (755, 2717) = true) ∧ (chkF 92 185 (755, 2717) (2140, 3749) = true) ∧ (chkF 92 277 (2140, 3749) (3860, 3579) = true) ∧ (chkF 92 369 (3860, 3579) (581, 1745) = true) ∧ (chkF 92 461 (581, 1745) (2646, 364) = true) ∧ (chkF 92 553 (2646, 364) (1131, 3356) = true) ∧ (chkF 92 645 (1131, 3356) (2642, 1838) = true) ∧ (chkF 92 737 (2642, 1838) (3374, 3504) = true) ∧ (chkF 92 829 (3374, 3504) (1170, 2349) = true) ∧ (chkF 92 921 (1170, 2349) (1, 0) = true) := ⟨by decide +kernel, by decide +kernel, by decide +kernel, by decide +kernel, by decide +kernel, by decide +kernel, by decide +kernel, by decide +kernel, by decide +kernel, by decide +kernel, by decide +kernel⟩
theorem rk0 : chkF 92 1 (2824, 4013) (2375, 2063) = true := rk_all.1
theorem rk1 : chkF 92 93 (2375, 2063) (755, 2717) = true := rk_all.2.1
theorem rk2 : chkF 92 185 (755, 2717) (2140, 3749) = true := rk_all.2.2.1
theorem rk3 : chkF 92 277 (2140, 3749) (3860, 3579) = true := rk_all.2.2.2.1
theorem rk4 : chkF 92 369 (3860, 3579) (581, 1745) = true := rk_all.2.2.2.2.1
theorem rk5 : chkF 92 461 (581, 1745) (2646, 364) = true := rk_all.2.2.2.2.2.1
theorem rk6 : chkF 92 553 (2646, 364) (1131, 3356) = true := rk_all.2.2.2.2.2.2.1
theorem rk7 : chkF 92 645 (1131, 3356) (2642, 1838) = true := rk_all.2.2.2.2.2.2.2.1
theorem rk8 : chkF 92 737 (2642, 1838) (3374, 3504) = true := rk_all.2.2.2.2.2.2.2.2.1
theorem rk9 : chkF 92 829 (3374, 3504) (1170, 2349) = true := rk_all.2.2.2.2.2.2.2.2.2.1
theorem rk10 : chkF 92 921 (1170, 2349) (1, 0) = true := rk_all.2.2.2.2.2.2.2.2.2.2
theorem ref_all {i : Nat} (h1 : 1 ≤ i) (h2 : i ≤ 1012) : RefAt i := by
  have e0 : zn (2824, 4013) = zeta.pow 1 := (Z.one_mul _).symm
  obtain ⟨a0, e1⟩ := chkF_at 92 1 (2824, 4013) _ (by decide) e0 rk0
  obtain ⟨a1, e2⟩ := chkF_at 92 93 (2375, 2063) _ (by decide) e1 rk1
  obtain ⟨a2, e3⟩ := chkF_at 92 185 (755, 2717) _ (by decide) e2 rk2
  obtain ⟨a3, e4⟩ := chkF_at 92 277 (2140, 3749) _ (by decide) e3 rk3
  obtain ⟨a4, e5⟩ := chkF_at 92 369 (3860, 3579) _ (by decide) e4 rk4
  obtain ⟨a5, e6⟩ := chkF_at 92 461 (581, 1745) _ (by decide) e5 rk5
  obtain ⟨a6, e7⟩ := chkF_at 92 553 (2646, 364) _ (by decide) e6 rk6
  obtain ⟨a7, e8⟩ := chkF_at 92 645 (1131, 3356) _ (by decide) e7 rk7
  obtain ⟨a8, e9⟩ := chkF_at 92 737 (2642, 1838) _ (by decide) e8 rk8
  obtain ⟨a9, e10⟩ := chkF_at 92 829 (3374, 3504) _ (by decide) e9 rk9
  obtain ⟨a10, e11⟩ := chkF_at 92 921 (1170, 2349) _ (by decide) e10 rk10
  by_cases c0 : i < 93
  · have := a0 (i - 1) (by omega); rw [show 1 + (i - 1) = i by omega] at this; exact this
  by_cases c1 : i < 185
  · have := a1 (i - 93) (by omega); rw [show 93 + (i - 93) = i by omega] at this; exact this
  by_cases c2 : i < 277
  · have := a2 (i - 185) (by omega); rw [show 185 + (i - 185) = i by omega] at this; exact this
  by_cases c3 : i < 369
  · have := a3 (i - 277) (by omega); rw [show 277 + (i - 277) = i by omega] at this; exact this
  by_cases c4 : i < 461
  · have := a4 (i - 369) (by omega); rw [show 369 + (i - 369) = i by omega] at this; exact this
  by_cases c5 : i < 553
  · have := a5 (i - 461) (by omega); rw [show 461 + (i - 461) = i by omega] at this; exact this
  by_cases c6 : i < 645
  · have := a6 (i - 553) (by omega); rw [show 553 + (i - 553) = i by omega] at this; exact this
  by_cases c7 : i < 737
  · have := a7 (i - 645) (by omega); rw [show 645 + (i - 645) = i by omega] at this; exact this
  by_cases c8 : i < 829
  · have := a8 (i - 737) (by omega); rw [show 737 + (i - 737) = i by omega] at this; exact this
  by_cases c9 : i < 921
  · have := a9 (i - 829) (by omega); rw [show 829 + (i - 829) = i by omega] at this; exact this
  by_cases c10 : i < 1013
  · have := a10 (i - 921) (by omega); rw [show 921 + (i - 921) = i by omega] at this; exact this
  omega
theorem zR_base {i : Nat} (h1 : 1 ≤ i) (h2 : i ≤ 1012) : zP refOps (sq (4 * (i : Int))) (sq 4) = zeta.pow i := by
  obtain ⟨y, y1, y2⟩ := ref_all h1 h2
  have e : 4 * i % 4052 = 4 * i := Nat.mod_eq_of_lt (by omega)
  rw [← e] at y1
  rw [pairAt_ok (by omega) refOps_good refOps_a y1, y2]
theorem zR_all {i j : Nat} (h1 : 1 ≤ i) (h2 : i ≤ 1012) (h3 : 1 ≤ j) (h4 : j ≤ 1012) : zP refOps (sq (4 * (i : Int))) (sq (4 * (j : Int))) = zeta.pow (i * j) := by
  rw [zP_lin (by omega) refOps_good j h3 h4, zR_base h1 h2, Z.pow_mul]
/-- The document's loop. -/
theorem mrun_ref (a b : Sp) : (mrun a b (List.replicate 1012 true)).1 = zM refOps a b := by
  have e : mstep a b (.one, a) true = mstep a b (.one, a) false := by simp only [mstep, if_true, Bool.false_eq_true, if_false, Z.one_mul]
  have l : refOps ++ [true] = false :: List.replicate 1011 true := by
    rw [show (List.replicate 1011 true : List Bool) = List.replicate 1010 true ++ [true] from List.replicate_succ']; rfl
  unfold zM mrun
  rw [l, List.replicate_succ, List.foldl_cons, List.foldl_cons, e]
end Go.Proofs.YtjjmelhhalomaaaGreatDoor
namespace Go.Proofs.YtjjmelhhalomaaaGreatDoor
open Go.RowKit
set_option maxRecDepth 100000
set_option linter.unusedVariables false
set_option linter.unusedSimpArgs false
set_option maxHeartbeats 1000000 in
theorem refTwin_e (a b A B : Int) (w : World) (a0 : -9223372036854775808 ≤ a) (a1 : a ≤ 9223372036854775807) (b0 : -9223372036854775808 ≤ b) (b1 : b ≤ 9223372036854775807) (hA : Hid (a % 4051 = A)) (hB : Hid (b % 4051 = B)) : Calls Tryz.prog 156 #[.agg #[.int .i64 a, .int .i64 b]] w fun e w' => e = .returned (.agg #[.int .i64 A, .int .i64 B]) ∧ Below w.heap.size w w' := by
  go_enter Tryz.func156, Tryz.ntmps156
  go_wp2_with fail
  refine wp_region_grow_tail 7 Tryz.mixed (by kernel_rfl) ?_
  simp only [List.take_succ_cons, List.take_zero, List.drop_succ_cons, List.drop_zero]
  repeat (quiet_step ((first | (go_at_call_of 19 (Value.int .i64 a); exact grow_same (refMod_e a 4051 A _ a0 a1 (by omega) (by omega) hA)) | (go_at_call 19; exact grow_same (refMod_e b 4051 B _ b0 b1 (by omega) (by omega) hB)))))
  refine wpQuiet_nil ?_
  intro _ hw'
  obtain ⟨x1, rfl⟩ := hw'
  have z1 := x1.h.size
  try simp only [World.size_alloc, World.size_setCell, World.size_drew] at z1
  have s1_0 : w.heap.size < x1.w.heap.size := by omega
  have s1_1 : w.heap.size + 1 < x1.w.heap.size := by omega
  have hB1 : Below w.heap.size w x1.w := below_seq (by repeat (first | exact Below.refl _ _ | refine balloc ?_ _ | refine Below.drew ?_ | refine below_drewN ?_ _ | refine below_set ?_ (by first | omega | (dsimp only; omega)) _)) x1.h
  have r0 : x1.w.cell? ⟨w.heap.size + 1, 0, none⟩ = some (.int .i64 0) := by go_simp
  have r1 : x1.w.cell? ⟨w.heap.size + 1, 1, none⟩ = some (.int .i64 0) := by go_simp
  go_wp2
  have k := set2_cell (w := x1.w) (x := .int .i64 A) (y := .int .i64 B) r0 r1
  refine bodyPost_ret (v := .agg #[.int .i64 A, .int .i64 B]) (by simp [results, Tryz.results156, go_sem, k.1, k.2]) rfl ⟨rfl, set2_below (by repeat (first | exact hB1 | exact Below.refl _ _ | refine balloc ?_ _ | refine Below.drew ?_ | refine below_drewN ?_ _ | refine below_set ?_ (by first | omega | (dsimp only; omega)) _)) (by omega)⟩
set_option maxHeartbeats 2000000 in
theorem refTwinMul_core (a b c d R I : Int) (w : World) (a0 : 0 ≤ a) (a1 : a < 4051) (b0 : 0 ≤ b) (b1 : b < 4051) (u0 : 0 ≤ c) (u1 : c < 4051) (v0 : 0 ≤ d) (v1 : d < 4051) (p0 : 0 ≤ a * c) (p1 : a * c ≤ 16402500) (q0 : 0 ≤ b * d) (q1 : b * d ≤ 16402500) (r2 : 0 ≤ a * d) (r3 : a * d ≤ 16402500) (t0 : 0 ≤ b * c) (t1 : b * c ≤ 16402500) (ha : Hid (a % 4051 = a)) (hb2 : Hid (b % 4051 = b)) (hc : Hid (c % 4051 = c)) (hd : Hid (d % 4051 = d)) (hR : Hid ((a * c - b * d) % 4051 = R)) (hI : Hid ((a * d + b * c) % 4051 = I)) : Calls Tryz.prog 117 #[.agg #[.int .i64 a, .int .i64 b], .agg #[.int .i64 c, .int .i64 d]] w fun e w' => e = .returned (.agg #[.int .i64 R, .int .i64 I]) ∧ Below w.heap.size w w' := by
  have e0 : IntKind.i64.wrap (a * c) = a * c := IntWalk.i64_in _ (by omega)
  have e1 : IntKind.i64.wrap (b * d) = b * d := IntWalk.i64_in _ (by omega)
  have e2 : IntKind.i64.wrap (a * c - b * d) = a * c - b * d := IntWalk.i64_in _ (by omega)
  have e3 : IntKind.i64.wrap (a * d) = a * d := IntWalk.i64_in _ (by omega)
  have e4 : IntKind.i64.wrap (b * c) = b * c := IntWalk.i64_in _ (by omega)
  have e5 : IntKind.i64.wrap (a * d + b * c) = a * d + b * c := IntWalk.i64_in _ (by omega)
  go_enter Tryz.func117, Tryz.ntmps117
  go_wp2_with fail
  refine (refTwin_e a b a b _ (by omega) (by omega) (by omega) (by omega) ha hb2).mono ?_; rintro e w1 ⟨rfl, hb⟩
  obtain ⟨hc1, hf1⟩ := bcell hb
  have z1 := hb.size
  try simp only [World.size_alloc, World.size_setCell, World.size_drew] at z1
  have s1_0 : w.heap.size < w1.heap.size := by omega
  have s1_1 : w.heap.size + 1 < w1.heap.size := by omega
  have s1_2 : w.heap.size + 1 + 1 < w1.heap.size := by omega
  have hB1 : Below w.heap.size w w1 := below_seq (by repeat (first | exact Below.refl _ _ | refine balloc ?_ _ | refine Below.drew ?_ | refine below_drewN ?_ _ | refine below_set ?_ (by first | omega | (dsimp only; omega)) _)) hb
  clear hb
  go_wp2_with fail
  refine (refTwin_e c d c d _ (by omega) (by omega) (by omega) (by omega) hc hd).mono ?_; rintro e w2 ⟨rfl, hb⟩
  obtain ⟨hc2, hf2⟩ := bcell hb
  have z2 := hb.size
  try simp only [World.size_alloc, World.size_setCell, World.size_drew] at z2
  have s2_0 : w.heap.size < w2.heap.size := by omega
  have s2_1 : w.heap.size + 1 < w2.heap.size := by omega
  have s2_2 : w.heap.size + 1 + 1 < w2.heap.size := by omega
  have s2_3 : w1.heap.size < w2.heap.size := by omega
  have hB2 : Below w.heap.size w w2 := below_seq (by repeat (first | exact hB1 | exact Below.refl _ _ | refine balloc ?_ _ | refine Below.drew ?_ | refine below_drewN ?_ _ | refine below_set ?_ (by first | omega | (dsimp only; omega)) _)) hb
  clear hb
  go_wp2_with fail
  refine wp_region_grow_tail 25 Tryz.mixed (by kernel_rfl) ?_
  simp only [List.take_succ_cons, List.take_zero, List.drop_succ_cons, List.drop_zero]
  repeat (quiet_step ((first | (go_at_call_of 19 (Value.int .i64 (a * c - b * d)); exact grow_same (refMod_e (a * c - b * d) 4051 R _ (by omega) (by omega) (by omega) (by omega) hR)) | (go_at_call 19; exact grow_same (refMod_e (a * d + b * c) 4051 I _ (by omega) (by omega) (by omega) (by omega) hI)))))
  refine wpQuiet_nil ?_
  intro _ hw'
  obtain ⟨x3, rfl⟩ := hw'
  have z3 := x3.h.size
  try simp only [World.size_alloc, World.size_setCell, World.size_drew] at z3
  have s3_0 : w.heap.size < x3.w.heap.size := by omega
  have s3_1 : w.heap.size + 1 < x3.w.heap.size := by omega
  have s3_2 : w.heap.size + 1 + 1 < x3.w.heap.size := by omega
  have s3_3 : w1.heap.size < x3.w.heap.size := by omega
  have s3_4 : w2.heap.size < x3.w.heap.size := by omega
  have hB3 : Below w.heap.size w x3.w := below_seq (by repeat (first | exact hB2 | exact Below.refl _ _ | refine balloc ?_ _ | refine Below.drew ?_ | refine below_drewN ?_ _ | refine below_set ?_ (by first | omega | (dsimp only; omega)) _)) x3.h
  have m0 : x3.w.cell? ⟨w.heap.size + 1 + 1, 0, none⟩ = some (.int .i64 0) := by go_simp
  have m1 : x3.w.cell? ⟨w.heap.size + 1 + 1, 1, none⟩ = some (.int .i64 0) := by go_simp
  go_wp2
  have k := set2_cell (w := x3.w) (x := .int .i64 R) (y := .int .i64 I) m0 m1
  refine bodyPost_ret (v := .agg #[.int .i64 R, .int .i64 I]) (by simp [results, Tryz.results117, go_sem, k.1, k.2]) rfl ⟨rfl, set2_below (by repeat (first | exact hB3 | exact Below.refl _ _ | refine balloc ?_ _ | refine Below.drew ?_ | refine below_drewN ?_ _ | refine below_set ?_ (by first | omega | (dsimp only; omega)) _)) (by omega)⟩
theorem refTwinMul_c (y z : Z) (w : World) : Calls Tryz.prog 117 #[twR y, twR z] w fun e w' => e = .returned (twR (y.mul z)) ∧ Below w.heap.size w w' := by
  have ha := fz_lt y.re; have hb := fz_lt y.im; have hc := fz_lt z.re; have hd := fz_lt z.im
  have m1 := mul_bd ha hc; have m2 := mul_bd hb hd; have m3 := mul_bd ha hd; have m4 := mul_bd hb hc
  refine refTwinMul_core _ _ _ _ _ _ w ha.1 ha.2 hb.1 hb.2 hc.1 hc.2 hd.1 hd.2 m1.1 m1.2 m2.1 m2.2 m3.1 m3.2 m4.1 m4.2 (Int.emod_eq_of_lt ha.1 ha.2) (Int.emod_eq_of_lt hb.1 hb.2) (Int.emod_eq_of_lt hc.1 hc.2) (Int.emod_eq_of_lt hd.1 hd.2) ?_ ?_
  · show _ = fz (y.mul z).re
    refine fi_inj ⟨Int.emod_nonneg _ (by decide), Int.emod_lt_of_pos _ (by decide)⟩ (fz_lt _) ?_
    rw [fi_mod, fi_sub, fi_mul, fi_mul, fi_fz, fi_fz, fi_fz, fi_fz, fi_fz]; rfl
  · show _ = fz (y.mul z).im
    refine fi_inj ⟨Int.emod_nonneg _ (by decide), Int.emod_lt_of_pos _ (by decide)⟩ (fz_lt _) ?_
    rw [fi_mod, fi_add, fi_mul, fi_mul, fi_fz, fi_fz, fi_fz, fi_fz, fi_fz]; rfl
end Go.Proofs.YtjjmelhhalomaaaGreatDoor
namespace Go.Proofs.YtjjmelhhalomaaaGreatDoor
open Go.RowKit
set_option maxRecDepth 100000
set_option linter.unusedVariables false
set_option linter.unusedSimpArgs false
theorem refTwinMul_e (y z v : Z) (w : World) (h : Hid (y.mul z = v)) : Calls Tryz.prog 117 #[twR y, twR z] w fun e w' => e = .returned (twR v) ∧ Below w.heap.size w w' := by
  have := refTwinMul_c y z w; rw [h.out] at this; exact this
set_option maxHeartbeats 1000000 in
theorem refTwinPower_0 (a : Z) (w : World) : Calls Tryz.prog 118 #[twR a, .int .i64 0] w fun e w' => e = .returned (.agg #[.int .i64 1, .int .i64 0]) ∧ Below w.heap.size w w' := by
  go_enter Tryz.func118, Tryz.ntmps118
  go_wp2
  refine bodyPost_ret (v := .agg #[.int .i64 1, .int .i64 0]) (by simp [results, Tryz.results118, go_sem]) rfl ⟨rfl, ?_⟩
  repeat (first | exact Below.refl _ _ | refine Below.drew ?_ | refine balloc ?_ _ | refine below_set ?_ (by simp) _)
set_option maxHeartbeats 2000000 in
theorem refTwinPower_even (a H V : Z) (k : Int) (w : World) (k0 : 0 < k) (k1 : k ≤ 9223372036854775807) (hp : (k % 2 == 1) = false)
    (hr : Hid (∀ w : World, Calls Tryz.prog 118 #[twR a, .int .i64 (k / 2)] w fun e w' => e = .returned (twR H) ∧ Below w.heap.size w w')) (hV : Hid (H.mul H = V)) : Calls Tryz.prog 118 #[twR a, .int .i64 k] w fun e w' => e = .returned (twR V) ∧ Below w.heap.size w w' := by
  go_enter Tryz.func118, Tryz.ntmps118
  go_wp2_with fail
  refine (hr.out _).mono ?_; rintro e w1 ⟨rfl, hb⟩
  obtain ⟨hc1, hf1⟩ := bcell hb
  have z1 := hb.size
  try simp only [World.size_alloc, World.size_setCell, World.size_drew] at z1
  have s1_0 : w.heap.size < w1.heap.size := by omega
  have s1_1 : w.heap.size + 1 < w1.heap.size := by omega
  have hB1 : Below w.heap.size w w1 := below_seq (by repeat (first | exact Below.refl _ _ | refine balloc ?_ _ | refine Below.drew ?_ | refine below_drewN ?_ _ | refine below_set ?_ (by first | omega | (dsimp only; omega)) _)) hb
  clear hb
  have m1_0_0 : w1.cell? ⟨w.heap.size, 0, none⟩ = some (.int .i64 (fz a.re)) := by go_simp
  have m1_0_1 : w1.cell? ⟨w.heap.size, 1, none⟩ = some (.int .i64 (fz a.im)) := by go_simp
  have m1_1_0 : w1.cell? ⟨w.heap.size + 1, 0, none⟩ = some (.int .i64 0) := by go_simp
  have m1_1_1 : w1.cell? ⟨w.heap.size + 1, 1, none⟩ = some (.int .i64 0) := by go_simp
  go_wp2_with fail
  refine (refTwinMul_e H H V _ hV).mono ?_; rintro e w2 ⟨rfl, hb⟩
  obtain ⟨hc2, hf2⟩ := bcell hb
  have z2 := hb.size
  try simp only [World.size_alloc, World.size_setCell, World.size_drew] at z2
  have s2_0 : w.heap.size < w2.heap.size := by omega
  have s2_1 : w.heap.size + 1 < w2.heap.size := by omega
  have s2_2 : w1.heap.size < w2.heap.size := by omega
  have hB2 : Below w.heap.size w w2 := below_seq (by repeat (first | exact hB1 | exact Below.refl _ _ | refine balloc ?_ _ | refine Below.drew ?_ | refine below_drewN ?_ _ | refine below_set ?_ (by first | omega | (dsimp only; omega)) _)) hb
  clear hb
  have m2_0_0 : w2.cell? ⟨w.heap.size, 0, none⟩ = some (.int .i64 (fz a.re)) := by go_simp
  have m2_0_1 : w2.cell? ⟨w.heap.size, 1, none⟩ = some (.int .i64 (fz a.im)) := by go_simp
  have m2_1_0 : w2.cell? ⟨w.heap.size + 1, 0, none⟩ = some (.int .i64 0) := by go_simp
  have m2_1_1 : w2.cell? ⟨w.heap.size + 1, 1, none⟩ = some (.int .i64 0) := by go_simp
  have m2_2_0 : w2.cell? ⟨w1.heap.size, 0, none⟩ = some (.int .i64 (fz H.re)) := by go_simp
  have m2_2_1 : w2.cell? ⟨w1.heap.size, 1, none⟩ = some (.int .i64 (fz H.im)) := by go_simp
  clear m1_0_0 m1_0_1 m1_1_0 m1_1_1
  go_wp2
  have q0 := (set2_other (w := w2) (b := w1.heap.size) (c := w.heap.size + 1) (k := 0) (x := .int .i64 (fz V.re)) (y := .int .i64 (fz V.im)) (by omega)).trans m2_1_0
  have q1 := (set2_other (w := w2) (b := w1.heap.size) (c := w.heap.size + 1) (k := 1) (x := .int .i64 (fz V.re)) (y := .int .i64 (fz V.im)) (by omega)).trans m2_1_1
  have k := set2_cell (x := .int .i64 (fz V.re)) (y := .int .i64 (fz V.im)) q0 q1
  refine bodyPost_ret (v := twR V) (by simp [results, Tryz.results118, go_sem, k.1, k.2]) rfl ⟨rfl, set2_below (set2_below hB2 (by omega)) (by omega)⟩
set_option maxHeartbeats 2000000 in
theorem refTwinPower_odd (a H G V : Z) (k : Int) (w : World) (k0 : 0 < k) (k1 : k ≤ 9223372036854775807) (hp : (k % 2 == 1) = true)
    (hr : Hid (∀ w : World, Calls Tryz.prog 118 #[twR a, .int .i64 (k / 2)] w fun e w' => e = .returned (twR H) ∧ Below w.heap.size w w')) (hG : Hid (H.mul H = G)) (hV : Hid (G.mul a = V)) : Calls Tryz.prog 118 #[twR a, .int .i64 k] w fun e w' => e = .returned (twR V) ∧ Below w.heap.size w w' := by
  go_enter Tryz.func118, Tryz.ntmps118
  go_wp2_with fail
  refine (hr.out _).mono ?_; rintro e w1 ⟨rfl, hb⟩
  obtain ⟨hc1, hf1⟩ := bcell hb
  have z1 := hb.size
  try simp only [World.size_alloc, World.size_setCell, World.size_drew] at z1
  have s1_0 : w.heap.size < w1.heap.size := by omega
  have s1_1 : w.heap.size + 1 < w1.heap.size := by omega
  have hB1 : Below w.heap.size w w1 := below_seq (by repeat (first | exact Below.refl _ _ | refine balloc ?_ _ | refine Below.drew ?_ | refine below_drewN ?_ _ | refine below_set ?_ (by first | omega | (dsimp only; omega)) _)) hb
  clear hb
  have m1_0_0 : w1.cell? ⟨w.heap.size, 0, none⟩ = some (.int .i64 (fz a.re)) := by go_simp
  have m1_0_1 : w1.cell? ⟨w.heap.size, 1, none⟩ = some (.int .i64 (fz a.im)) := by go_simp
  have m1_1_0 : w1.cell? ⟨w.heap.size + 1, 0, none⟩ = some (.int .i64 0) := by go_simp
  have m1_1_1 : w1.cell? ⟨w.heap.size + 1, 1, none⟩ = some (.int .i64 0) := by go_simp
  go_wp2_with fail
  refine (refTwinMul_e H H G _ hG).mono ?_; rintro e w2 ⟨rfl, hb⟩
  obtain ⟨hc2, hf2⟩ := bcell hb
  have z2 := hb.size
  try simp only [World.size_alloc, World.size_setCell, World.size_drew] at z2
  have s2_0 : w.heap.size < w2.heap.size := by omega
  have s2_1 : w.heap.size + 1 < w2.heap.size := by omega
  have s2_2 : w1.heap.size < w2.heap.size := by omega
  have hB2 : Below w.heap.size w w2 := below_seq (by repeat (first | exact hB1 | exact Below.refl _ _ | refine balloc ?_ _ | refine Below.drew ?_ | refine below_drewN ?_ _ | refine below_set ?_ (by first | omega | (dsimp only; omega)) _)) hb
  clear hb
  have m2_0_0 : w2.cell? ⟨w.heap.size, 0, none⟩ = some (.int .i64 (fz a.re)) := by go_simp
  have m2_0_1 : w2.cell? ⟨w.heap.size, 1, none⟩ = some (.int .i64 (fz a.im)) := by go_simp
  have m2_1_0 : w2.cell? ⟨w.heap.size + 1, 0, none⟩ = some (.int .i64 0) := by go_simp
  have m2_1_1 : w2.cell? ⟨w.heap.size + 1, 1, none⟩ = some (.int .i64 0) := by go_simp
  have m2_2_0 : w2.cell? ⟨w1.heap.size, 0, none⟩ = some (.int .i64 (fz H.re)) := by go_simp
  have m2_2_1 : w2.cell? ⟨w1.heap.size, 1, none⟩ = some (.int .i64 (fz H.im)) := by go_simp
  clear m1_0_0 m1_0_1 m1_1_0 m1_1_1
  have kG := set2_cell (w := w2) (x := .int .i64 (fz G.re)) (y := .int .i64 (fz G.im)) m2_2_0 m2_2_1
  go_wp2_with fail
  refine (refTwinMul_e G a V _ hV).mono ?_; rintro e w3 ⟨rfl, hb⟩
  obtain ⟨hc3, hf3⟩ := bcell hb
  have z3 := hb.size
  try simp only [World.size_alloc, World.size_setCell, World.size_drew] at z3
  have s3_0 : w.heap.size < w3.heap.size := by omega
  have s3_1 : w.heap.size + 1 < w3.heap.size := by omega
  have s3_2 : w1.heap.size < w3.heap.size := by omega
  have hB3 : Below w.heap.size w w3 := below_seq (by repeat (first | exact hB2 | exact Below.refl _ _ | refine balloc ?_ _ | refine Below.drew ?_ | refine below_drewN ?_ _ | refine below_set ?_ (by first | omega | (dsimp only; omega)) _)) hb
  clear hb
  have m3_0_0 : w3.cell? ⟨w.heap.size, 0, none⟩ = some (.int .i64 (fz a.re)) := by go_simp
  have m3_0_1 : w3.cell? ⟨w.heap.size, 1, none⟩ = some (.int .i64 (fz a.im)) := by go_simp
  have m3_1_0 : w3.cell? ⟨w.heap.size + 1, 0, none⟩ = some (.int .i64 0) := by go_simp
  have m3_1_1 : w3.cell? ⟨w.heap.size + 1, 1, none⟩ = some (.int .i64 0) := by go_simp
  clear m2_0_0 m2_0_1 m2_1_0 m2_1_1 m2_2_0 m2_2_1
  have g0 := (hc3 w1.heap.size 0 (by simp only [set2_size]; omega)).trans kG.1
  have g1 := (hc3 w1.heap.size 1 (by simp only [set2_size]; omega)).trans kG.2
  go_wp2
  have q0 := (set2_other (w := w3) (b := w1.heap.size) (c := w.heap.size + 1) (k := 0) (x := .int .i64 (fz V.re)) (y := .int .i64 (fz V.im)) (by omega)).trans m3_1_0
  have q1 := (set2_other (w := w3) (b := w1.heap.size) (c := w.heap.size + 1) (k := 1) (x := .int .i64 (fz V.re)) (y := .int .i64 (fz V.im)) (by omega)).trans m3_1_1
  have k := set2_cell (x := .int .i64 (fz V.re)) (y := .int .i64 (fz V.im)) q0 q1
  refine bodyPost_ret (v := twR V) (by simp [results, Tryz.results118, go_sem, k.1, k.2]) rfl ⟨rfl, set2_below (set2_below hB3 (by omega)) (by omega)⟩
theorem zp_even (z : Z) (k : Int) (h0 : 0 ≤ k) (h : k % 2 = 0) : (z.pow (k / 2).toNat).mul (z.pow (k / 2).toNat) = z.pow k.toNat := by
  rw [← Z.pow_add]; congr 1; omega
theorem zp_odd (z : Z) (k : Int) (h0 : 0 ≤ k) (h : k % 2 = 1) : ((z.pow (k / 2).toNat).mul (z.pow (k / 2).toNat)).mul z = z.pow k.toNat := by
  rw [← Z.pow_add, ← Z.pow_succ]; congr 1; omega
theorem refTwinPower_n (a : Z) : ∀ (N : Nat) (k : Int) (w : World), k.toNat ≤ N → 0 ≤ k → k ≤ 9223372036854775807 → Calls Tryz.prog 118 #[twR a, .int .i64 k] w fun e w' => e = .returned (twR (a.pow k.toNat)) ∧ Below w.heap.size w w' := by
  have zero : ∀ w : World, Calls Tryz.prog 118 #[twR a, .int .i64 0] w fun e w' => e = .returned (twR (a.pow (0 : Int).toNat)) ∧ Below w.heap.size w w' := fun w => by
    have e : twR (a.pow (0 : Int).toNat) = .agg #[.int .i64 1, .int .i64 0] := by
      rw [show (0 : Int).toNat = 0 from rfl, Z.pow_zero]
      show Value.agg #[.int .i64 (fz Z.one.re), .int .i64 (fz Z.one.im)] = _
      have h1 : fz Z.one.re = 1 := by decide
      have h2 : fz Z.one.im = 0 := by decide
      rw [h1, h2]
    rw [e]; exact refTwinPower_0 a w
  intro N
  induction N with
  | zero =>
    intro k w hN k0 k1
    obtain rfl : k = 0 := by omega
    exact zero w
  | succ N ih =>
    intro k w hN k0 k1
    by_cases h0 : k = 0
    · subst h0; exact zero w
    · have r : ∀ w : World, Calls Tryz.prog 118 #[twR a, .int .i64 (k / 2)] w fun e w' => e = .returned (twR (a.pow (k / 2).toNat)) ∧ Below w.heap.size w w' := fun w => ih (k / 2) w (by omega) (by omega) (by omega)
      cases hp : (k % 2 == 1)
      · have hp' : k % 2 = 0 := by have : ¬ k % 2 = 1 := by simpa using hp
                                   omega
        exact refTwinPower_even a _ _ k w (by omega) k1 hp r (zp_even a k k0 hp')
      · have hp' : k % 2 = 1 := by simpa using hp
        exact refTwinPower_odd a _ _ _ k w (by omega) k1 hp r rfl (zp_odd a k k0 hp')
theorem refTwinPower_e (a V : Z) (k : Int) (w : World) (k0 : 0 ≤ k) (k1 : k ≤ 9223372036854775807) (h : Hid (a.pow k.toNat = V)) : Calls Tryz.prog 118 #[twR a, .int .i64 k] w fun e w' => e = .returned (twR V) ∧ Below w.heap.size w w' := by
  have := refTwinPower_n a _ k w (Nat.le_refl _) k0 k1; rw [h.out] at this; exact this
end Go.Proofs.YtjjmelhhalomaaaGreatDoor
namespace Go.Proofs.YtjjmelhhalomaaaGreatDoor
open Go.RowKit
set_option maxRecDepth 100000
set_option linter.unusedVariables false
set_option linter.unusedSimpArgs false
theorem zR_cnt {a b : Sp} {i j : Int} (ha : Cnt a i) (hb : Cnt b j) (fa : a.far = false) (fb : b.far = false) : zP refOps a b = zeta.pow (i * j).toNat := by
  obtain ⟨rfl, i0, i1⟩ := ha
  obtain ⟨rfl, j0, j1⟩ := hb
  have hi : i ≠ 0 := fun e => by rw [e] at fa; rw [sq_far.mpr (by decide)] at fa; cases fa
  have hj : j ≠ 0 := fun e => by rw [e] at fb; rw [sq_far.mpr (by decide)] at fb; cases fb
  have := zR_all (i := i.toNat) (j := j.toNat) (by omega) (by omega) (by omega) (by omega)
  rw [show ((i.toNat : Nat) : Int) = i by omega, show ((j.toNat : Nat) : Int) = j by omega] at this
  rw [this]; congr 1
  have e : ((i.toNat * j.toNat : Nat) : Int) = i * j := by rw [Int.natCast_mul, show ((i.toNat : Nat) : Int) = i by omega, show ((j.toNat : Nat) : Int) = j by omega]
  omega
set_option maxHeartbeats 1000000 in
theorem refPair_farl (a b : Sp) (w : World) (h : a.far = true) : Calls Tryz.prog 72 #[spV a, spV b] w fun e w' => e = .returned (.agg #[.int .i64 1, .int .i64 0]) ∧ Below w.heap.size w w' := by
  obtain ⟨x, y, f⟩ := a; obtain ⟨u, v, g⟩ := b
  subst h
  go_enter Tryz.func72, Tryz.ntmps72
  go_wp2
  refine bodyPost_ret (v := .agg #[.int .i64 1, .int .i64 0]) (by simp [results, Tryz.results72, go_sem]) rfl ⟨rfl, (by repeat (first | exact Below.refl _ _ | refine balloc ?_ _ | refine Below.drew ?_ | refine below_drewN ?_ _ | refine below_set ?_ (by first | omega | (dsimp only; omega)) _))⟩
set_option maxHeartbeats 1000000 in
theorem refPair_farr (a b : Sp) (w : World) (h0 : a.far = false) (h : b.far = true) : Calls Tryz.prog 72 #[spV a, spV b] w fun e w' => e = .returned (.agg #[.int .i64 1, .int .i64 0]) ∧ Below w.heap.size w w' := by
  obtain ⟨x, y, f⟩ := a; obtain ⟨u, v, g⟩ := b
  subst h; subst h0
  go_enter Tryz.func72, Tryz.ntmps72
  go_wp2
  refine bodyPost_ret (v := .agg #[.int .i64 1, .int .i64 0]) (by simp [results, Tryz.results72, go_sem]) rfl ⟨rfl, (by repeat (first | exact Below.refl _ _ | refine balloc ?_ _ | refine Below.drew ?_ | refine below_drewN ?_ _ | refine below_set ?_ (by first | omega | (dsimp only; omega)) _))⟩
/-- The number of a line, as the document reckons it. -/
theorem ref_line {t a b : Sp} {s : Int} (hs : sSlope t a = some s) (hb : 0 ≤ b.y ∧ b.y < 4051) : (s * (b.x + t.x) - t.y) % 4051 = fz (zLine t a b).re ∧ b.y = fz (zLine t a b).im := by
  have h := line_alg t b s hb
  have e : zLine t a b = ⟨fi s * (fi b.x + fi t.x) - fi t.y, fi b.y⟩ := by unfold zLine; rw [hs]
  rw [e]
  refine ⟨?_, h.2⟩
  rw [← h.1]
  unfold pSub pMul
  omega
theorem mrun_snoc (a b : Sp) (n : Nat) : mrun a b (List.replicate (n + 1) true) = mstep a b (mrun a b (List.replicate n true)) true := by
  unfold mrun
  rw [List.replicate_succ', List.foldl_append]; rfl
theorem mrun_sp {i : Int} {b : Sp} : ∀ n : Nat, (mrun (sq (4 * i)) b (List.replicate n true)).2 = sq (4 * i * ((n + 1 : Nat) : Int))
  | 0 => by show sq (4 * i) = _; congr 1; simp
  | n + 1 => by
    rw [mrun_snoc]
    show sSum (mrun (sq (4 * i)) b (List.replicate n true)).2 (sq (4 * i)) = _
    rw [mrun_sp n, sq_add]; congr 1
    rw [Int.natCast_add, Int.natCast_add, Int.natCast_add, Int.mul_add, Int.mul_add, Int.mul_add]; simp
set_option maxHeartbeats 8000000 in
theorem refPair_c (a b : Sp) (i : Int) (w : World) (hi : i % 1013 ≠ 0) (hai : Hid (a = sq (4 * i))) (ha : Ok a) (hb : Ok b) (fa : a.far = false) (fb : b.far = false) : Calls Tryz.prog 72 #[spV a, spV b] w fun e w' => e = .returned (twR (zP refOps a b)) ∧ Below w.heap.size w w' := by
  have hstep := Lib.hid (mrun_snoc a b)
  have hT : Hid (∀ n, (mrun a b (List.replicate n true)).2 = sq (4 * i * ((n + 1 : Nat) : Int))) := Lib.hid (fun n => by rw [hai.out]; exact mrun_sp n)
  have h0 : Hid (mrun a b (List.replicate 0 true) = (.one, a)) := Lib.hid rfl
  have hend : Hid ((mrun a b (List.replicate 1012 true)).1.pow (16200 : Int).toNat = zP refOps a b) := Lib.hid (by rw [mrun_ref]; rfl)
  have hfar : Hid (∀ n : Nat, n < 1012 → (mrun a b (List.replicate n true)).2.far = false) := Lib.hid (fun n hn => by rw [hT.out]; exact far_k hi (by omega) (by omega))
  have hok : Hid (∀ n : Nat, Ok (mrun a b (List.replicate n true)).2) := Lib.hid (fun n => by rw [hT.out]; exact sq_ok _)
  obtain ⟨M, hM⟩ : ∃ M : Nat → Z × Sp, ∀ n, mrun a b (List.replicate n true) = M n := ⟨_, fun n => rfl⟩
  simp only [hM] at hstep h0 hend hfar hok
  clear hM hai hT
  obtain ⟨ax, ay, af⟩ := a
  obtain ⟨bx, by', bf⟩ := b
  simp only at fa fb
  subst fa fb
  go_enter Tryz.func72, Tryz.ntmps72
  go_wp2_with fail
  have m0 : PMem w (((((w.alloc (.cells #[.int .i64 ax, .int .i64 ay, .bool false] 28)).alloc (.cells #[.int .i64 bx, .int .i64 by', .bool false] 28)).alloc (.cells #[.int .i64 0, .int .i64 0] 116)).alloc (.cells #[.int .i64 1, .int .i64 0] 116)).alloc (.cells #[.int .i64 ax, .int .i64 ay, .bool false] 28)) (w.heap.size + 1 + 1 + 1) (w.heap.size + 1 + 1 + 1 + 1) ⟨ax, ay, false⟩ ⟨bx, by', false⟩ .one ⟨ax, ay, false⟩ := by
    refine ⟨?_, ?_, ?_, TwAt.zero_of (by go_simp) (by go_simp) (by go_simp) (by go_simp) (by simp only [World.size_alloc]; omega), TwAt.one_of (by go_simp) (by go_simp) (by go_simp) (by go_simp) (by simp only [World.size_alloc]; omega), ?_, by omega, by omega, by omega⟩
    · exact balloc (balloc (balloc (balloc (below_alloc _ _) _) _) _) _
    · exact ⟨by go_simp, by go_simp, by go_simp, by go_simp, by go_simp, by go_simp, by simp only [World.size_alloc]; omega⟩
    · exact ⟨by go_simp, by go_simp, by go_simp, by go_simp, by go_simp, by go_simp, by simp only [World.size_alloc]; omega⟩
    · exact ⟨by go_simp, by go_simp, by go_simp, by go_simp, by go_simp, by go_simp, by simp only [World.size_alloc]; omega⟩
  replace m0 := Lib.hid m0
  generalize ((((w.alloc (.cells #[.int .i64 ax, .int .i64 ay, .bool false] 28)).alloc (.cells #[.int .i64 bx, .int .i64 by', .bool false] 28)).alloc (.cells #[.int .i64 0, .int .i64 0] 116)).alloc (.cells #[.int .i64 1, .int .i64 0] 116)).alloc (.cells #[.int .i64 ax, .int .i64 ay, .bool false] 28) = w0 at *
  have ha' := Lib.hid ha
  have hb' := Lib.hid hb
  clear ha hb
  go_loopw [7, 8, 9] (fun s7 s8 s9 wr => ∃ n : Nat, n ≤ 1012 ∧ s7 = .int .i64 ((n : Int) + 1) ∧ PMem w wr (w.heap.size + 1 + 1 + 1) (w.heap.size + 1 + 1 + 1 + 1) ⟨ax, ay, false⟩ ⟨bx, by', false⟩ (M n).1 (M n).2) (fun s7 _ _ _ => (1013 - intOf s7).toNat)
  case atStart => exact ⟨0, by omega, rfl, by rw [h0.out]; exact m0.out⟩
  case round =>
    clear m0 h0
    obtain ⟨n, hn, rfl, m⟩ := hrel
    have m := Lib.hid m
    by_cases hlt : n < 1012
    · have ht := hok.out n
      have ft := hfar.out n hlt
      have hst := hstep.out n
      clear hstep hok hfar hend
      generalize hMn : M n = mn at *
      obtain ⟨f, tx, ty, tf⟩ := mn
      simp only at ft ht
      subst ft
      replace m : Hid (PMem w wr (w.heap.size + 1 + 1 + 1) (w.heap.size + 1 + 1 + 1 + 1) ⟨ax, ay, false⟩ ⟨bx, by', false⟩ f ⟨tx, ty, false⟩) := m
      replace hst := Lib.hid hst
      clear hMn
      cases hs : sSlope ⟨tx, ty, false⟩ ⟨ax, ay, false⟩ with
      | none =>
        have hM1 : Hid (M (n + 1) = (f, sSum ⟨tx, ty, false⟩ ⟨ax, ay, false⟩)) := Lib.hid (by
          rw [hst.out]
          show (f.mul (zLine ⟨tx, ty, false⟩ ⟨ax, ay, false⟩ ⟨bx, by', false⟩), _) = _
          rw [show zLine ⟨tx, ty, false⟩ ⟨ax, ay, false⟩ ⟨bx, by', false⟩ = .one by unfold zLine; rw [hs], Z.mul_one])
        obtain ⟨bel, ⟨a0, a1, a2, fa0, fa1, fa2, al⟩, ⟨b0, b1, b2, fb0, fb1, fb2, bl⟩, ⟨r0, r1, fr0, fr1, rl⟩, ⟨g0, g1, fg0, fg1, gl⟩, ⟨h0', h1', h2', fh0, fh1, fh2, hl⟩, hg, hh, ne⟩ := m.out
        go_wp2_with fail
        refine (refSlope_n ⟨tx, ty, false⟩ ⟨ax, ay, false⟩ ht ha'.out hs _).mono ?_; rintro e w1 ⟨rfl, hb1⟩
        have m1 := m.out.below hb1
        have n1 := Lib.hid m1
        clear bel a0 a1 a2 fa0 fa1 fa2 al b0 b1 b2 fb0 fb1 fb2 bl r0 r1 fr0 fr1 rl g0 g1 fg0 fg1 gl h0' h1' h2' fh0 fh1 fh2 hl hg hh ne
        clear hb1 m
        obtain ⟨bel, ⟨a0, a1, a2, fa0, fa1, fa2, al⟩, ⟨b0, b1, b2, fb0, fb1, fb2, bl⟩, ⟨r0, r1, fr0, fr1, rl⟩, ⟨g0, g1, fg0, fg1, gl⟩, ⟨h0', h1', h2', fh0, fh1, fh2, hl⟩, hg, hh, ne⟩ := m1
        go_wp2_with fail
        refine (refAdd_e ⟨tx, ty, false⟩ ⟨ax, ay, false⟩ _ _ ht ha'.out (Lib.hid rfl)).mono ?_; rintro e w3 ⟨rfl, hb3⟩
        have m3 := n1.out.below hb3
        have n3 := Lib.hid m3
        clear bel a0 a1 a2 fa0 fa1 fa2 al b0 b1 b2 fb0 fb1 fb2 bl r0 r1 fr0 fr1 rl g0 g1 fg0 fg1 gl h0' h1' h2' fh0 fh1 fh2 hl hg hh ne
        clear hb3 n1
        generalize hS : sSum ⟨tx, ty, false⟩ ⟨ax, ay, false⟩ = S at *
        obtain ⟨bel, ⟨a0, a1, a2, fa0, fa1, fa2, al⟩, ⟨b0, b1, b2, fb0, fb1, fb2, bl⟩, ⟨r0, r1, fr0, fr1, rl⟩, ⟨g0, g1, fg0, fg1, gl⟩, ⟨h0', h1', h2', fh0, fh1, fh2, hl⟩, hg, hh, ne⟩ := m3
        go_wp2
        go_roundw
        case rel => exact ⟨n + 1, by omega, by go_num, by rw [hM1.out]; exact n3.out.setH S⟩
        case measure => simp [intOf]; omega
      | some sl =>
        obtain ⟨V, hV⟩ : ∃ V, f.mul (zLine ⟨tx, ty, false⟩ ⟨ax, ay, false⟩ ⟨bx, by', false⟩) = V := ⟨_, rfl⟩
        have hM1 : Hid (M (n + 1) = (V, sSum ⟨tx, ty, false⟩ ⟨ax, ay, false⟩)) := Lib.hid (by rw [hst.out, ← hV]; rfl)
        have hl := ref_line (b := ⟨bx, by', false⟩) hs ⟨hb'.out.y0, hb'.out.y1⟩
        obtain ⟨s0, s1⟩ := slope_bd _ _ _ hs
        have t0 := ht.x0
        have t1 := ht.x1
        have t2 := ht.y0
        have t3 := ht.y1
        have u0 := hb'.out.x0
        have u1 := hb'.out.x1
        simp only at hl t0 t1 t2 t3 u0 u1
        have p0 : 0 ≤ sl * (bx + tx) := Int.mul_nonneg s0 (by omega)
        have p1 : sl * (bx + tx) ≤ 4050 * 8100 := Int.mul_le_mul (by omega) (by omega) (by omega) (by omega)
        have v0 : IntKind.i64.wrap (bx + tx) = bx + tx := IntWalk.i64_in _ (by omega)
        have v1 : IntKind.i64.wrap (sl * (bx + tx)) = sl * (bx + tx) := IntWalk.i64_in _ (by omega)
        have v2 : IntKind.i64.wrap (sl * (bx + tx) - ty) = sl * (bx + tx) - ty := IntWalk.i64_in _ (by omega)
        obtain ⟨V1, hV1⟩ : ∃ v, (sl * (bx + tx) - ty) % 4051 = v := ⟨_, rfl⟩
        rw [hV1] at hl
        have hMod := Lib.hid (fun (w : World) => ((refMod_e (sl * (bx + tx) - ty) 4051 V1 w (by omega) (by omega) (by omega) (by omega) (Lib.hid hV1)).mono fun e w' h => (⟨h.1, h.2 ▸ Below.refl _ _⟩ : e = .returned (.int .i64 V1) ∧ Below w.heap.size w w')))
        have hTM : Hid (∀ w : World, Calls Tryz.prog 117 #[.agg #[.int .i64 (fz f.re), .int .i64 (fz f.im)], .agg #[.int .i64 V1, .int .i64 by']] w fun e w' => e = .returned (twR V) ∧ Below w.heap.size w w') := Lib.hid (fun w => by
          have h := refTwinMul_e f (zLine ⟨tx, ty, false⟩ ⟨ax, ay, false⟩ ⟨bx, by', false⟩) V w (Lib.hid hV)
          rw [show twR (zLine ⟨tx, ty, false⟩ ⟨ax, ay, false⟩ ⟨bx, by', false⟩) = .agg #[.int .i64 V1, .int .i64 by'] by unfold twR; rw [← hl.1, ← hl.2]] at h
          exact h)
        replace hl := Lib.hid hl
        replace hV := Lib.hid hV
        replace hV1 := Lib.hid hV1
        obtain ⟨bel, ⟨a0, a1, a2, fa0, fa1, fa2, al⟩, ⟨b0, b1, b2, fb0, fb1, fb2, bl⟩, ⟨r0, r1, fr0, fr1, rl⟩, ⟨g0, g1, fg0, fg1, gl⟩, ⟨h0', h1', h2', fh0, fh1, fh2, hl⟩, hg, hh, ne⟩ := m.out
        go_wp2_with fail
        refine (refSlope_y ⟨tx, ty, false⟩ ⟨ax, ay, false⟩ sl ht ha'.out hs _).mono ?_; rintro e w1 ⟨rfl, hb1⟩
        have m1 := m.out.below hb1
        have n1 := Lib.hid m1
        clear bel a0 a1 a2 fa0 fa1 fa2 al b0 b1 b2 fb0 fb1 fb2 bl r0 r1 fr0 fr1 rl g0 g1 fg0 fg1 gl h0' h1' h2' fh0 fh1 fh2 hl hg hh ne
        clear hb1 m
        obtain ⟨bel, ⟨a0, a1, a2, fa0, fa1, fa2, al⟩, ⟨b0, b1, b2, fb0, fb1, fb2, bl⟩, ⟨r0, r1, fr0, fr1, rl⟩, ⟨g0, g1, fg0, fg1, gl⟩, ⟨h0', h1', h2', fh0, fh1, fh2, hl⟩, hg, hh, ne⟩ := m1
        go_wp2_with fail
        refine wp_region_grow_tail 16 Tryz.mixed (by kernel_rfl) ?_
        simp only [List.take_succ_cons, List.take_zero, List.drop_succ_cons, List.drop_zero]
        repeat (quiet_step ((first | (go_at_call 19; exact grow_of (hMod.out _)) | (go_at_call 117; exact grow_of (hTM.out _)))))
        refine wpQuiet_nil ?_
        intro _ hw'
        obtain ⟨x2, rfl⟩ := hw'
        have m2 := n1.out.below x2.h
        have n2 := Lib.hid (m2.setG V)
        clear bel a0 a1 a2 fa0 fa1 fa2 al b0 b1 b2 fb0 fb1 fb2 bl r0 r1 fr0 fr1 rl g0 g1 fg0 fg1 gl h0' h1' h2' fh0 fh1 fh2 hl hg hh ne
        clear n1
        obtain ⟨bel, ⟨a0, a1, a2, fa0, fa1, fa2, al⟩, ⟨b0, b1, b2, fb0, fb1, fb2, bl⟩, ⟨r0, r1, fr0, fr1, rl⟩, ⟨g0, g1, fg0, fg1, gl⟩, ⟨h0', h1', h2', fh0, fh1, fh2, hl⟩, hg, hh, ne⟩ := m2
        go_wp2_with fail
        refine (refAdd_e ⟨tx, ty, false⟩ ⟨ax, ay, false⟩ _ _ ht ha'.out (Lib.hid rfl)).mono ?_; rintro e w3 ⟨rfl, hb3⟩
        have m3 := n2.out.below hb3
        have n3 := Lib.hid m3
        clear bel a0 a1 a2 fa0 fa1 fa2 al b0 b1 b2 fb0 fb1 fb2 bl r0 r1 fr0 fr1 rl g0 g1 fg0 fg1 gl h0' h1' h2' fh0 fh1 fh2 hl hg hh ne
        clear hb3 n2
        generalize hS : sSum ⟨tx, ty, false⟩ ⟨ax, ay, false⟩ = S at *
        obtain ⟨bel, ⟨a0, a1, a2, fa0, fa1, fa2, al⟩, ⟨b0, b1, b2, fb0, fb1, fb2, bl⟩, ⟨r0, r1, fr0, fr1, rl⟩, ⟨g0, g1, fg0, fg1, gl⟩, ⟨h0', h1', h2', fh0, fh1, fh2, hl⟩, hg, hh, ne⟩ := m3
        go_wp2
        go_roundw
        case rel => exact ⟨n + 1, by omega, by go_num, by rw [hM1.out]; exact n3.out.setH S⟩
        case measure => simp [intOf]; omega
    · obtain rfl : n = 1012 := by omega
      have he := hend
      generalize hf : (M 1012).1 = f at *
      generalize (M 1012).2 = t at *
      obtain ⟨bel, ⟨a0, a1, a2, fa0, fa1, fa2, al⟩, ⟨b0, b1, b2, fb0, fb1, fb2, bl⟩, ⟨r0, r1, fr0, fr1, rl⟩, ⟨g0, g1, fg0, fg1, gl⟩, ⟨h0', h1', h2', fh0, fh1, fh2, hl⟩, hg, hh, ne⟩ := m.out
      go_wp2_with fail
      refine (refTwinPower_e f _ 16200 _ (by omega) (by omega) he).mono ?_; rintro e w1 ⟨rfl, hb1⟩
      have m1 := m.out.below hb1
      clear bel a0 a1 a2 fa0 fa1 fa2 al b0 b1 b2 fb0 fb1 fb2 bl r0 r1 fr0 fr1 rl g0 g1 fg0 fg1 gl h0' h1' h2' fh0 fh1 fh2 hl hg hh ne
      clear hb1
      obtain ⟨bel, ⟨a0, a1, a2, fa0, fa1, fa2, al⟩, ⟨b0, b1, b2, fb0, fb1, fb2, bl⟩, ⟨r0, r1, fr0, fr1, rl⟩, ⟨g0, g1, fg0, fg1, gl⟩, ⟨h0', h1', h2', fh0, fh1, fh2, hl⟩, hg, hh, ne⟩ := m1
      generalize hV : zP refOps ⟨ax, ay, false⟩ ⟨bx, by', false⟩ = V at *
      go_wp2
      have k := set2_cell (w := w1) (x := .int .i64 (fz V.re)) (y := .int .i64 (fz V.im)) r0 r1
      refine bodyPost_ret (v := twR V) (by simp [results, Tryz.results72, go_sem, k.1, k.2]) rfl ⟨by rw [hV], set2_below bel (by omega)⟩
end Go.Proofs.YtjjmelhhalomaaaGreatDoor
namespace Go.Proofs.YtjjmelhhalomaaaGreatDoor
open Go.RowKit
set_option maxRecDepth 100000
set_option linter.unusedVariables false
set_option linter.unusedSimpArgs false
theorem of_z (a b : Sp) (i j : Int) (z : Z) (w : World) (hF : FarAt w) (hO : OneAt w) (ha : Hid (Cnt a i)) (hb : Hid (Cnt b j)) (hz : Hid (zp (i * j) = z)) : Calls Tryz.prog 166 #[spV a, spV b] w fun e w' => e = .returned (twR z) ∧ Below w.heap.size w w' := by
  have := pairOf_z a b i j w hF hO ha.out hb.out
  rw [zp_nat (Int.mul_nonneg ha.out.2.1 hb.out.2.1), hz.out] at this; exact this
theorem TwAt.fresh (w : World) (z : Z) (t : TypeId) : TwAt (w.alloc (.cells #[.int .i64 (fz z.re), .int .i64 (fz z.im)] t)) w.heap.size z := ⟨by go_simp, by go_simp, by go_simp, by go_simp, by simp⟩
def prodN (e : Nat → Int) : Nat → Int
  | 0 => 0
  | k+1 => prodN e k + e k
theorem prod_next (f g : Nat → Int) (k : Nat) : (zp (prodN (fun k => f k * g k) k)).mul (zp (f k * g k)) = zp (prodN (fun k => f k * g k) (k + 1)) := zp_mul _ _
theorem zp_zero : zp 0 = .one := by rw [← zp_nat (by omega)]; exact Z.pow_zero _
end Go.Proofs.YtjjmelhhalomaaaGreatDoor
namespace Go.Proofs.YtjjmelhhalomaaaGreatDoor
open Go.RowKit
set_option maxRecDepth 100000
set_option linter.unusedVariables false
set_option linter.unusedSimpArgs false
/-- Two numbers of the greater field held against each other by ==. -/
def twB (x y u v : Int) : Bool := x == u && y == v
theorem twin_if (x y u v : Int) (w : World) : (if x = u then if y = v then Result.ok (Value.bool true) w else Result.ok (Value.bool false) w else Result.ok (Value.bool false) w) = .ok (.bool (twB x y u v)) w := by
  unfold twB
  by_cases hx : x = u <;> by_cases hy : y = v <;> simp [hx, hy]
set_option maxHeartbeats 1000000 in
theorem eql_twin (x y u v : Int) (w : World) : (Go.binOp .eql 116 (.agg #[.int .i64 x, .int .i64 y]) (.agg #[.int .i64 u, .int .i64 v])).run Tryz.prog w = .ok (.bool (twB x y u v)) w := by
  go_simp
  exact twin_if x y u v w
attribute [go_sem ↓] eql_twin
@[go_sem] theorem twB_self (x y : Int) : twB x y x y = true := by unfold twB; simp
theorem twB_z {z z' : Z} {b : Bool} (h : twB (fz z.re) (fz z.im) (fz z'.re) (fz z'.im) = b) : b = true ↔ z = z' := by
  subst h
  constructor
  · intro h
    simp only [twB, Bool.and_eq_true, beq_iff_eq] at h
    rw [← zi_fz z, ← zi_fz z', h.1, h.2]
  · rintro rfl
    exact twB_self _ _
theorem refPair_e (a b : Sp) (i j : Int) (z : Z) (w : World) (ha : Hid (Cnt a i)) (hb : Hid (Cnt b j)) (hz : Hid (zp (i * j) = z)) : Calls Tryz.prog 72 #[spV a, spV b] w fun e w' => e = .returned (twR z) ∧ Below w.heap.size w w' := by
  have hz1 := hz.out
  rw [← zp_nat (Int.mul_nonneg ha.out.2.1 hb.out.2.1)] at hz1
  rw [← hz1]
  cases fa : a.far
  · cases fb : b.far
    · rw [← zR_cnt ha.out hb.out fa fb]
      have hi : i % 1013 ≠ 0 := fun e => by
        have := ha.out.1; rw [this, sq_far.mpr (by omega)] at fa; cases fa
      exact refPair_c a b i w hi (Lib.hid ha.out.1) (ok_of ha.out.1) (ok_of hb.out.1) fa fb
    · have : j = 0 := by have := hb.out.1; rw [this] at fb; have := sq_far.mp fb; have := hb.out.2; omega
      rw [this, Int.mul_zero, show (0 : Int).toNat = 0 from rfl, Z.pow_zero, twR_one]
      exact refPair_farr a b w fa fb
  · have : i = 0 := by have := ha.out.1; rw [this] at fa; have := sq_far.mp fa; have := ha.out.2; omega
    rw [this, Int.zero_mul, show (0 : Int).toNat = 0 from rfl, Z.pow_zero, twR_one]
    exact refPair_farl a b w fa
/- Two and two, refused. -/
end Go.Proofs.YtjjmelhhalomaaaGreatDoor
namespace Go.Proofs.YtjjmelhhalomaaaGreatDoor
open Go.RowKit
set_option maxRecDepth 100000
set_option linter.unusedVariables false
set_option linter.unusedSimpArgs false
theorem mul_bq {a b : Int} (h0 : 0 ≤ a) (h1 : a < 1013) (k0 : 0 ≤ b) (k1 : b < 1013) : 0 ≤ a * b ∧ a * b ≤ 1024144 :=
  ⟨Int.mul_nonneg h0 k0, Int.le_trans (Int.mul_le_mul (show a ≤ 1012 by omega) (show b ≤ 1012 by omega) k0 (by decide)) (by decide)⟩
/-- What holds at the head of the loop that squares and multiplies modulo Q. -/
def QowAt (s a n o : Int) : Prop := 0 ≤ n ∧ n ≤ 9223372036854775807 ∧ (o * a ^ n.toNat) % 1013 = s ∧ 0 ≤ o ∧ o < 1013 ∧ 0 ≤ a ∧ a < 1013
theorem qowAt_odd {s a n o : Int} (h : QowAt s a n o) (hb : (bits BinOp.and IntKind.i64 n 1 == 1) = true) : QowAt s ((a * a) % 1013) (n / 2) ((o * a) % 1013) := by
  obtain ⟨h1, h2, h3, -⟩ := h
  rw [and_one64 n h1 h2] at hb
  have hb' : n % 2 = 1 := by simpa using hb
  refine ⟨by omega, by omega, ?_, by omega, by omega, by omega, by omega⟩
  rw [pow_half a n h1, hb'] at h3
  rw [← h3]
  have e : o * ((a * a) ^ (n / 2).toNat * a ^ (1 : Int).toNat) = (o * a) * (a * a) ^ (n / 2).toNat := by
    rw [show (1 : Int).toNat = 1 from rfl, Int.pow_one]; simp only [Int.mul_comm, Int.mul_left_comm, Int.mul_assoc]
  rw [e]
  exact emod_mul_congr (by omega) (pow_congr (by omega) _)
theorem qowAt_even {s a n o : Int} (h : QowAt s a n o) (hb : (bits BinOp.and IntKind.i64 n 1 == 1) = false) : QowAt s ((a * a) % 1013) (n / 2) o := by
  obtain ⟨h1, h2, h3, h4, h5, -⟩ := h
  rw [and_one64 n h1 h2] at hb
  have hb' : n % 2 = 0 := by have : n % 2 ≠ 1 := by simpa using hb
                             omega
  refine ⟨by omega, by omega, ?_, h4, h5, by omega, by omega⟩
  rw [pow_half a n h1, hb'] at h3
  rw [← h3]
  have e : o * ((a * a) ^ (n / 2).toNat * a ^ (0 : Int).toNat) = o * (a * a) ^ (n / 2).toNat := by
    rw [show (0 : Int).toNat = 0 from rfl]; simp
  rw [e]
  exact emod_mul_congr rfl (pow_congr (by omega) _)
theorem qowAt_end {s a n o : Int} (h : QowAt s a n o) (hn : n ≤ 0) : o = s := by
  obtain ⟨h1, h2, h3, h4, h5, -⟩ := h
  have : n = 0 := by omega
  subst this
  have e : o * a ^ (0 : Int).toNat = o := by rw [show (0 : Int).toNat = 0 from rfl]; simp
  rw [e] at h3; omega
theorem tmod_s (n : Int) : -1012 ≤ n.tmod 1013 ∧ n.tmod 1013 ≤ 1012 := by
  have h1 := Int.tmod_lt_of_pos n (b := 1013) (by decide)
  have h2 := Int.lt_tmod_of_pos n (b := 1013) (by decide)
  omega
theorem tmod_se (n : Int) : n.tmod 1013 % 1013 = n % 1013 := by
  have := Int.mul_tdiv_add_tmod n 1013; omega
set_option maxHeartbeats 2000000 in
theorem idxI (l : List Int) (x : Int) (a : Option Addr) (cap : Nat) (w : World) (hl : l.length ≤ 9223372036854775807) (h0 : 0 < l.length → ∃ b off, a = some ⟨b, off, none⟩ ∧ IntsAt w b off l) (R : Value)
    (hfirst : Hid (∀ i (h : i < l.length), (∀ j (hj : j < l.length), j < i → l[j] ≠ x) → l[i] = x → R = .int .i64 i)) (hend : Hid ((∀ i (h : i < l.length), l[i] ≠ x) → R = .int .i64 (-1))) :
    Calls Tryz.prog 88 #[.slice a l.length cap, .int .i64 x] w fun e w' => e = .returned R ∧ w = w' := by
  have h0' := Lib.hid h0
  clear h0
  go_enter Tryz.func88, Tryz.ntmps88
  go_wp2
  go_loop [8] (fun i => ∃ n : Nat, n ≤ l.length ∧ i = .int .i64 n ∧ (∀ j (hj : j < l.length), j < n → l[j] ≠ x)) (fun i => l.length - (intOf i).toNat)
  case atStart => exact ⟨0, Nat.zero_le _, rfl, fun _ _ h => absurd h (Nat.not_lt_zero _)⟩
  case round =>
    obtain ⟨n, hn, rfl, k1⟩ := hrel
    replace k1 := Lib.hid k1
    by_cases hlt : n < l.length
    · obtain ⟨b, off, rfl, l1⟩ := h0'.out (by omega)
      have m1 := l1.c n hlt
      clear l1
      by_cases e1 : l[n] = x
      · have hR := Lib.hid (hfirst.out n hlt k1.out e1)
        have hb : (x == l[n]) = true := by rw [beq_iff_eq]; exact e1.symm
        clear e1
        generalize l[n] = y at *
        go_wp2
        go_ret
        exact ⟨ret_eq hR.out.symm, rfl⟩
      · have j1 : ∀ j (hj : j < l.length), j < n + 1 → l[j] ≠ x := by
          intro j hj h
          by_cases hjn : j < n
          · exact k1.out j hj hjn
          · obtain rfl : j = n := by omega
            exact e1
        have hb : (x == l[n]) = false := by rw [beq_eq_false_iff_ne]; exact fun e => e1 e.symm
        replace j1 := Lib.hid j1
        clear e1
        generalize l[n] = y at *
        go_wp2
        go_round
        case rel => exact ⟨n + 1, by omega, by go_num, j1.out⟩
        case measure => simp [intOf]; omega
    · have hR := Lib.hid (hend.out (fun i hi => k1.out i hi (by omega)))
      go_wp2
      go_ret
      exact ⟨ret_eq hR.out.symm, rfl⟩
theorem contI_n (l : List Int) (x : Int) (v : Value) (w : World) (hl : l.length ≤ 9223372036854775807) (h : IntSl w v l) (hx : ∀ i (h : i < l.length), l[i] ≠ x) :
    Calls Tryz.prog 46 #[v, .int .i64 x] w fun e w' => e = .returned (.bool false) ∧ w = w' := by
  obtain ⟨a, cap, rfl, h0⟩ := h
  have hI := idxI l x a cap w hl h0 (.int .i64 (-1)) (Lib.hid fun i hi _ hb => absurd hb (hx i hi)) (Lib.hid fun _ => rfl)
  clear h0
  replace hx := Lib.hid hx
  replace hI := Lib.hid hI
  go_enter Tryz.func46, Tryz.ntmps46
  go_wp2_with fail
  refine hI.out.mono ?_; rintro e w' ⟨rfl, rfl⟩
  go_wp2
  go_ret
  exact ⟨rfl, rfl⟩
theorem first_at (l : List Int) (x : Int) : ∀ n, (h : n < l.length) → l[n] = x → ∃ (i : Nat) (h : i < l.length), l[i] = x ∧ ∀ j (hj : j < l.length), j < i → l[j] ≠ x := by
  intro n
  induction n using Nat.strongRecOn with
  | _ n ih =>
    intro h e
    by_cases hex : ∃ m, ∃ h' : m < l.length, m < n ∧ l[m] = x
    · obtain ⟨m, h', hmn, hm⟩ := hex
      exact ih m hmn h' hm
    · exact ⟨n, h, e, fun j hj hjn hjx => hex ⟨j, hj, hjn, hjx⟩⟩
theorem contI_y (l : List Int) (x : Int) (v : Value) (w : World) (hl : l.length ≤ 9223372036854775807) (h : IntSl w v l) (n : Nat) (hn : n < l.length) (hx : l[n] = x) :
    Calls Tryz.prog 46 #[v, .int .i64 x] w fun e w' => e = .returned (.bool true) ∧ w = w' := by
  obtain ⟨a, cap, rfl, h0⟩ := h
  obtain ⟨i, hi, h1, h2⟩ := first_at l x n hn hx
  have hI := idxI l x a cap w hl h0 (.int .i64 i) (Lib.hid fun j hj hlt hb => by
    have : i = j := by
      rcases Nat.lt_trichotomy i j with h | h | h
      · exact absurd h1 (hlt i hi h)
      · exact h
      · exact absurd hb (h2 j hj h)
    rw [this]) (Lib.hid fun h => absurd h1 (h i hi))
  clear h0 h1 h2 hx hn
  have hi0 : (0 : Int) ≤ (i : Int) := by omega
  replace hI := Lib.hid hI
  go_enter Tryz.func46, Tryz.ntmps46
  go_wp2_with fail
  refine hI.out.mono ?_; rintro e w' ⟨rfl, rfl⟩
  go_wp2
  go_ret
  exact ⟨rfl, rfl⟩
end Go.Proofs.YtjjmelhhalomaaaGreatDoor
namespace Go.Proofs.YtjjmelhhalomaaaGreatDoor
open Go.RowKit
set_option maxRecDepth 100000
set_option linter.unusedVariables false
set_option linter.unusedSimpArgs false
/-- The part of a place's weight that comes of the first k places. -/
def wpre (xs : List Int) (i : Nat) : Nat → Int
  | 0 => 1
  | k + 1 => if k = i then wpre xs i k else ((wpre xs i k * xs.getD k 0) % 1013 * (((xs.getD k 0 - xs.getD i 0) % 1013) ^ qE % 1013)) % 1013
theorem wpre_bd (xs : List Int) (i : Nat) : ∀ k, 0 ≤ wpre xs i k ∧ wpre xs i k < 1013
  | 0 => ⟨Int.zero_le_ofNat 1, by show (1 : Int) < 1013; decide⟩
  | k + 1 => by
    unfold wpre
    split
    · exact wpre_bd xs i k
    · exact ⟨Int.emod_nonneg _ (by decide), Int.emod_lt_of_pos _ (by decide)⟩
/-- The weights. -/
def wgts (xs : List Int) : List Int := (List.range xs.length).map fun i => wpre xs i xs.length
theorem wgts_len (xs : List Int) : (wgts xs).length = xs.length := by simp [wgts]
theorem wgts_get (xs : List Int) (i : Nat) (h : i < (wgts xs).length) : (wgts xs)[i] = wpre xs i xs.length := by simp [wgts]
theorem take_snoc3 {α : Type} (l : List α) (n : Nat) (h : n < l.length) : l.take (n + 1) = l.take n ++ [l[n]] := by
  rw [List.take_add_one, List.getElem?_eq_getElem h]; rfl
theorem wpre_same {xs : List Int} {i k : Nat} (h : k = i) : wpre xs i (k + 1) = wpre xs i k := by rw [wpre, if_pos h]
theorem wpre_step {xs : List Int} {i k : Nat} (h : ¬ k = i) : wpre xs i (k + 1) = ((wpre xs i k * xs.getD k 0) % 1013 * (((xs.getD k 0 - xs.getD i 0) % 1013) ^ qE % 1013)) % 1013 := by rw [wpre, if_neg h]
theorem qE_nat : (1011 : Int).toNat = qE := rfl
/-- A slice holds no more than it has room for. -/
def CapOk (v : Value) : Prop := ∀ a n cap, v = .slice a n cap → n ≤ cap
end Go.Proofs.YtjjmelhhalomaaaGreatDoor
namespace Go.Proofs.YtjjmelhhalomaaaGreatDoor
open Go.RowKit
set_option maxRecDepth 100000
set_option linter.unusedVariables false
set_option linter.unusedSimpArgs false
/-- What the shares so far add up to. -/
def csum (ws ys : List Int) : Nat → Int
  | 0 => 0
  | n + 1 => (csum ws ys n + ws.getD n 0 * ys.getD n 0) % 1013
theorem csum_bd (ws ys : List Int) : ∀ n, 0 ≤ csum ws ys n ∧ csum ws ys n < 1013
  | 0 => ⟨Int.le_refl 0, by show (0 : Int) < 1013; decide⟩
  | n + 1 => ⟨Int.emod_nonneg _ (by decide), Int.emod_lt_of_pos _ (by decide)⟩
/-- What the shares tell. -/
def comb (l : List (Int × Int)) : Int := csum (wgts (l.map (·.1))) (l.map (·.2)) l.length
theorem own_cap {w : World} {B e size n : Nat} {v : Value} {xs : List Value} (h : w.ownsRow B e size v n xs) : CapOk v := by
  intro a m cap hv
  rcases h.2 with ⟨rfl, -⟩ | ⟨g, cap', cur, rfl, -, -, hnc, -⟩
  · cases hv; exact Nat.le_refl _
  · cases hv; exact hnc
theorem wgts_bd (xs : List Int) (i : Nat) (h : i < (wgts xs).length) : 0 ≤ (wgts xs)[i] ∧ (wgts xs)[i] < 1013 := by rw [wgts_get]; exact wpre_bd xs i xs.length
theorem gD {l : List Int} {i : Nat} (h : i < l.length) : l.getD i 0 = l[i] := by rw [List.getD_eq_getElem?_getD, List.getElem?_eq_getElem h]; rfl
end Go.Proofs.YtjjmelhhalomaaaGreatDoor
namespace Go.Proofs.YtjjmelhhalomaaaGreatDoor
open Go.RowKit
set_option linter.unusedVariables false
theorem wt_snoc (x y : Q) : ∀ l : List Q, wt x (l ++ [y]) = wt x l * (if y = x then 1 else y * qinv (y - x))
  | [] => by simp only [List.nil_append, wt]; split <;> grobner
  | z :: l => by simp only [List.cons_append, wt]; rw [wt_snoc x y l]; split <;> grobner
theorem qsum_snoc (f : Q → Q) (y : Q) : ∀ l : List Q, qsum f (l ++ [y]) = qsum f l + f y
  | [] => by simp only [List.nil_append, qsum]; grobner
  | z :: l => by simp only [List.cons_append, qsum]; rw [qsum_snoc f y l]; grobner
theorem qi_inj1 {a b : Int} (ha : 1 ≤ a ∧ a < 1013) (hb : 1 ≤ b ∧ b < 1013) (h : qi a = qi b) : a = b := qi_inj (by omega) (by omega) h
theorem qi_inv (z : Int) : qi ((z % 1013) ^ qE % 1013) = qinv (qi z) := by rw [qi_mod, qi_pow, qi_mod, qinv_pow]
theorem wpre_q (xs : List Int) (hs : ∀ i (h : i < xs.length), 1 ≤ xs[i] ∧ xs[i] < 1013) (hd : ∀ i j (hi : i < xs.length) (hj : j < xs.length), i < j → xs[i] ≠ xs[j]) (i : Nat) (hi : i < xs.length) : ∀ k, k ≤ xs.length → qi (wpre xs i k) = wt (qi xs[i]) ((xs.take k).map qi)
  | 0, _ => by rw [List.take_zero]; exact qi_one
  | k + 1, hk => by
    have ih := wpre_q xs hs hd i hi k (by omega)
    rw [take_snoc3 xs k (by omega), List.map_append, List.map_cons, List.map_nil, wt_snoc, ← ih]
    by_cases hki : k = i
    · subst hki
      rw [wpre_same rfl, if_pos rfl]; grobner
    · have hne : qi xs[k] ≠ qi xs[i] := fun e => by
        have := qi_inj1 (hs k (by omega)) (hs i hi) e
        rcases Nat.lt_or_ge k i with h | h
        · exact hd k i (by omega) hi h this
        · exact hd i k hi (by omega) (by omega) this.symm
      rw [wpre_step hki, if_neg hne, gD (show k < xs.length by omega), gD hi, qi_mod, qi_mul, qi_mod, qi_mul, qi_inv, qi_sub]
      grobner
theorem val_q (x : Int) : ∀ p : List Int, qi (val x p) = ev (p.map qi) (qi x)
  | [] => qi_zero
  | c :: p => by
    show qi ((val x p * x + c) % 1013) = qi c + qi x * ev (p.map qi) (qi x)
    rw [qi_mod, qi_add, qi_mul, val_q x p]; grobner
theorem csum_q (l : List (Int × Int)) (g : Q → Q) (hg : ∀ i (h : i < l.length) (h' : i < (wgts (l.map (·.1))).length), qi ((wgts (l.map (·.1)))[i] * l[i].2) = g (qi l[i].1)) : ∀ n, n ≤ l.length → qi (csum (wgts (l.map (·.1))) (l.map (·.2)) n) = qsum g (((l.map (·.1)).take n).map qi)
  | 0, _ => by rw [List.take_zero]; exact qi_zero
  | n + 1, hn => by
    have ih := csum_q l g hg n (by omega)
    have hw : n < (wgts (l.map (·.1))).length := by rw [wgts_len, List.length_map]; omega
    rw [csum, gD hw, gD (show n < (l.map (·.2)).length by rw [List.length_map]; omega), List.getElem_map, qi_mod, qi_add, ih, hg n (by omega) hw, take_snoc3 _ n (by rw [List.length_map]; omega), List.map_append, List.map_cons, List.map_nil, qsum_snoc, List.getElem_map]
/-- Shares of a polynomial, as many as it has coefficients or more, tell its first one. -/
theorem comb_tells (p : List Int) (l : List (Int × Int)) (h1 : 1 ≤ l.length) (hs : ∀ i (h : i < l.length), 1 ≤ l[i].1 ∧ l[i].1 < 1013 ∧ 0 ≤ l[i].2 ∧ l[i].2 < 1013) (hd : ∀ i j (hi : i < l.length) (hj : j < l.length), i < j → l[i].1 ≠ l[j].1)
    (hy : ∀ i (h : i < l.length), l[i].2 % 1013 = val l[i].1 p % 1013) (hp : p.length ≤ l.length) (c : Int) (c0 : 0 ≤ c) (c1 : c < 1013) (hc : p.getD 0 0 = c) : comb l = c := by
  have hl : (l.map (·.1)).length = l.length := List.length_map ..
  have hs' : ∀ i (h : i < (l.map (·.1)).length), 1 ≤ (l.map (·.1))[i] ∧ (l.map (·.1))[i] < 1013 := fun i h => by rw [List.getElem_map]; exact ⟨(hs i (by omega)).1, (hs i (by omega)).2.1⟩
  have hd' : ∀ i j (hi : i < (l.map (·.1)).length) (hj : j < (l.map (·.1)).length), i < j → (l.map (·.1))[i] ≠ (l.map (·.1))[j] := fun i j hi hj hij => by rw [List.getElem_map, List.getElem_map]; exact hd i j (by omega) (by omega) hij
  have hk := csum_q l (fun x => wt x ((l.map (·.1)).map qi) * ev (p.map qi) x) (fun i h h' => by
    rw [qi_mul, wgts_get, wpre_q _ hs' hd' i (by omega) _ (Nat.le_refl _), List.take_length, List.getElem_map, qi_eq.mpr (hy i h), val_q]) l.length (Nat.le_refl _)
  rw [← hl, List.take_length, hl] at hk
  have hlag := lag_ev ((l.map (·.1)).map qi) (p.map qi) (by intro e; have := congrArg List.length e; rw [List.length_map, List.length_map, List.length_nil] at this; omega)
    (List.pairwise_iff_getElem.mpr (fun i j hi hj hij e => by
      simp only [List.getElem_map] at e
      rw [List.length_map, List.length_map] at hi hj
      exact hd i j hi hj hij (qi_inj1 ⟨(hs i hi).1, (hs i hi).2.1⟩ ⟨(hs j hj).1, (hs j hj).2.1⟩ e))) (by simp; exact hp)
  have he : ev (p.map qi) 0 = qi c := by
    cases p with
    | nil => subst hc; exact qi_zero.symm
    | cons a q =>
      have : a = c := hc
      subst this
      simp only [List.map_cons, ev]; grobner
  have hfin : qi (comb l) = qi c := by rw [← he, ← hlag]; exact hk
  exact qi_inj (csum_bd _ _ _) ⟨c0, c1⟩ hfin
end Go.Proofs.YtjjmelhhalomaaaGreatDoor
namespace Go.Proofs.YtjjmelhhalomaaaGreatDoor
open Go.RowKit
set_option linter.unusedVariables false
theorem qinv_ne {a : Q} (h : a ≠ 0) : qinv a ≠ 0 := fun e => by
  have h1 := qmul_inv h
  rw [e] at h1
  have h2 : (0 : Q) = 1 := by grobner
  exact absurd h2 (by decide)
theorem wt_ne (x : Q) : ∀ l : List Q, (∀ y ∈ l, y ≠ 0) → wt x l ≠ 0
  | [], _ => by simp only [wt]; decide
  | y :: l, h => fun e => by
    have ih := wt_ne x l (fun z hz => h z (List.mem_cons_of_mem _ hz))
    have hy := h y (List.mem_cons_self ..)
    simp only [wt] at e
    split at e
    · exact ih e
    · rename_i hne
      rcases qzero_or e with e1 | e1
      · rcases qzero_or e1 with e2 | e2
        · exact hy e2
        · exact qinv_ne (fun e3 => hne (by grobner)) e2
      · exact ih e1
theorem wpre_pos (xs : List Int) (hs : ∀ i (h : i < xs.length), 1 ≤ xs[i] ∧ xs[i] < 1013) (hd : ∀ i j (hi : i < xs.length) (hj : j < xs.length), i < j → xs[i] ≠ xs[j]) (i : Nat) (hi : i < xs.length) : 1 ≤ wpre xs i xs.length := by
  have hb := wpre_bd xs i xs.length
  have hq := wpre_q xs hs hd i hi xs.length (Nat.le_refl _)
  by_cases h : 1 ≤ wpre xs i xs.length
  · exact h
  · exfalso
    have h0 : wpre xs i xs.length = 0 := by omega
    rw [h0, List.take_length] at hq
    refine wt_ne (qi xs[i]) (xs.map qi) (fun y hy => ?_) hq.symm
    obtain ⟨z, hz, rfl⟩ := List.mem_map.mp hy
    obtain ⟨k, hk, rfl⟩ := List.mem_iff_getElem.mp hz
    exact qi_ne (hs k hk).1 (hs k hk).2
/-- What the shares so far add up to, not yet modulo Q. -/
def usum (ws ys : List Int) : Nat → Int
  | 0 => 0
  | n + 1 => usum ws ys n + ws.getD n 0 * ys.getD n 0
theorem usum_csum (ws ys : List Int) : ∀ n, csum ws ys n = usum ws ys n % 1013
  | 0 => rfl
  | n + 1 => by
    have ih := usum_csum ws ys n
    simp only [csum, usum]
    rw [ih]; omega
theorem csum_snoc (ws ys : List Int) (y : Int) : ∀ n, n ≤ ys.length → csum ws (ys ++ [y]) n = csum ws ys n
  | 0, _ => rfl
  | n + 1, h => by
    simp only [csum]
    rw [csum_snoc ws ys y n (by omega), gD (show n < (ys ++ [y]).length by simp; omega), gD (show n < ys.length by omega), List.getElem_append_left (by omega)]
theorem back_end (s o last t : Int) (h : t * last % 1013 = 1) (o0 : 0 ≤ o) (o1 : o < 1013) : (s % 1013 + last * (((o - s) % 1013 * t) % 1013)) % 1013 = o := by
  have k : qi ((s % 1013 + last * (((o - s) % 1013 * t) % 1013)) % 1013) = qi o := by
    have ht : qi t * qi last = 1 := by rw [← qi_mul, ← qi_one]; exact qi_eq.mpr (by rw [h]; rfl)
    rw [qi_mod, qi_add, qi_mod, qi_mul, qi_mod, qi_mul, qi_mod, qi_sub]
    grobner
  exact qi_inj ⟨Int.emod_nonneg _ (by decide), Int.emod_lt_of_pos _ (by decide)⟩ ⟨o0, o1⟩ k
/-- Shares, and one more that is chosen so: they tell what is wanted. -/
theorem comb_more (l : List (Int × Int)) (x y t last o : Int) (hlast : wpre (l.map (·.1) ++ [x]) l.length (l.length + 1) = last) (ht : t * last % 1013 = 1) (o0 : 0 ≤ o) (o1 : o < 1013)
    (hy : ((o - usum (wgts (l.map (·.1) ++ [x])) (l.map (·.2)) l.length) % 1013 * t) % 1013 = y) : comb (l ++ [(x, y)]) = o := by
  have hl : (l.map (·.1)).length = l.length := List.length_map ..
  have hl2 : (l.map (·.2)).length = l.length := List.length_map ..
  have hx : (l.map (·.1) ++ [x]).length = l.length + 1 := by simp
  unfold comb
  simp only [List.map_append, List.map_cons, List.map_nil, List.length_append, List.length_cons, List.length_nil, Nat.zero_add]
  rw [csum, csum_snoc _ _ _ _ (by omega), usum_csum, gD (show l.length < (wgts (l.map (·.1) ++ [x])).length by rw [wgts_len]; simp), wgts_get, hx, hlast,
    gD (show l.length < (l.map (·.2) ++ [y]).length by simp), List.getElem_append_right (by omega)]
  simp only [hl2, Nat.sub_self, List.getElem_cons_zero]
  subst hy
  exact back_end _ _ _ _ ht o0 o1
theorem usum_bd (ws ys : List Int) (hw : ∀ i (h : i < ws.length), 0 ≤ ws[i] ∧ ws[i] < 1013) (hy : ∀ i (h : i < ys.length), 0 ≤ ys[i] ∧ ys[i] < 1013) : ∀ n, n ≤ ws.length → n ≤ ys.length → 0 ≤ usum ws ys n ∧ usum ws ys n ≤ n * 1024144
  | 0, _, _ => ⟨Int.le_refl 0, by simp [usum]⟩
  | n + 1, h1, h2 => by
    obtain ⟨i1, i2⟩ := usum_bd ws ys hw hy n (by omega) (by omega)
    obtain ⟨m1, m2⟩ := mul_bq (hw n (by omega)).1 (hw n (by omega)).2 (hy n (by omega)).1 (hy n (by omega)).2
    simp only [usum]
    rw [gD (show n < ws.length by omega), gD (show n < ys.length by omega)]
    generalize ws[n] * ys[n] = m at *
    omega
/-- So many places there are at most. -/
theorem nodup_lt : ∀ (n : Nat) (l : List Nat), l.Nodup → (∀ x ∈ l, x < n) → l.length ≤ n
  | 0, l, _, h => by
    cases l with
    | nil => exact Nat.le_refl _
    | cons x l => exact absurd (h x (List.mem_cons_self ..)) (Nat.not_lt_zero _)
  | n + 1, l, hd, h => by
    have ih := nodup_lt n (l.erase n) (hd.erase n) (fun x hx => by
      have := (hd.mem_erase_iff).mp hx
      have := h x this.2
      omega)
    rw [List.length_erase] at ih
    split at ih <;> omega
/-- The shares at some places. -/
def pickL (l : List Int) (ps : List Nat) : List (Int × Int) := ps.map fun p => (((p + 1 : Nat) : Int), val ((p + 1 : Nat) : Int) l)
theorem pickL_len (l : List Int) (ps : List Nat) : (pickL l ps).length = ps.length := List.length_map ..
theorem pickL_get (l : List Int) (ps : List Nat) (i : Nat) (h : i < (pickL l ps).length) : (pickL l ps)[i] = (((ps[i]'(by rw [pickL_len] at h; exact h) + 1 : Nat) : Int), val ((ps[i]'(by rw [pickL_len] at h; exact h) + 1 : Nat) : Int) l) := by simp [pickL]
theorem pickL_snoc (l : List Int) (ps : List Nat) (p : Nat) : pickL l (ps ++ [p]) = pickL l ps ++ [(((p + 1 : Nat) : Int), val ((p + 1 : Nat) : Int) l)] := by simp [pickL]
theorem pickL_ok {l : List Int} {ps : List Nat} {n : Nat} (hn : n ≤ 12) (hp : ∀ p ∈ ps, p < n) : ∀ i (h : i < (pickL l ps).length), 1 ≤ (pickL l ps)[i].1 ∧ (pickL l ps)[i].1 < 1013 ∧ 0 ≤ (pickL l ps)[i].2 ∧ (pickL l ps)[i].2 < 1013 := by
  intro i h
  rw [pickL_get]
  have h' : i < ps.length := by rw [pickL_len] at h; exact h
  have := hp _ (List.getElem_mem h')
  have := val_bd ((ps[i] + 1 : Nat) : Int) l
  simp only
  omega
theorem pickL_ne {l : List Int} {ps : List Nat} (hd : ps.Nodup) : ∀ i j (hi : i < (pickL l ps).length) (hj : j < (pickL l ps).length), i < j → (pickL l ps)[i].1 ≠ (pickL l ps)[j].1 := by
  intro i j hi hj hij
  rw [pickL_get, pickL_get]
  have h1 : i < ps.length := by rw [pickL_len] at hi; exact hi
  have h2 : j < ps.length := by rw [pickL_len] at hj; exact hj
  have := List.pairwise_iff_getElem.mp hd i j h1 h2 hij
  simp only
  omega
theorem pickL_tells {l : List Int} {ps : List Nat} {n : Nat} (hn : n ≤ 12) (hp : ∀ p ∈ ps, p < n) (hd : ps.Nodup) (hl1 : 1 ≤ l.length) (hok : l.all okR = true) (hlen : l.length ≤ ps.length) : comb (pickL l ps) = l[0] := by
  have h0 := okR_y (all_okR hok 0 hl1)
  refine comb_tells l (pickL l ps) (by rw [pickL_len]; omega) (pickL_ok hn hp) (pickL_ne hd) (fun i h => ?_) (by rw [pickL_len]; exact hlen) _ h0.1 h0.2 (gD hl1)
  rw [pickL_get]
end Go.Proofs.YtjjmelhhalomaaaGreatDoor
namespace Go.Proofs.YtjjmelhhalomaaaGreatDoor
open Go.RowKit
set_option linter.unusedVariables false
/-- The value so far, power by power. -/
def fwd (x : Int) (l : List Int) : Nat → Int × Int
  | 0 => (0, 1)
  | n + 1 => (((fwd x l n).1 + l.getD n 0 * (fwd x l n).2) % 1013, (fwd x l n).2 * x % 1013)
theorem fwd_bd (x : Int) (l : List Int) : ∀ n, (0 ≤ (fwd x l n).1 ∧ (fwd x l n).1 < 1013) ∧ (0 ≤ (fwd x l n).2 ∧ (fwd x l n).2 < 1013)
  | 0 => ⟨⟨Int.le_refl 0, by show (0 : Int) < 1013; decide⟩, ⟨by show (0 : Int) ≤ 1; decide, by show (1 : Int) < 1013; decide⟩⟩
  | n + 1 => ⟨⟨Int.emod_nonneg _ (by decide), Int.emod_lt_of_pos _ (by decide)⟩, ⟨Int.emod_nonneg _ (by decide), Int.emod_lt_of_pos _ (by decide)⟩⟩
theorem fwd_q (x : Int) : ∀ (l : List Int) (n : Nat), n ≤ l.length → qi (fwd x l n).2 = qi x ^ n ∧ qi (fwd x l n).1 = ev ((l.take n).map qi) (qi x)
  | l, 0, _ => ⟨by show qi 1 = _; rw [qi_one]; grobner, by rw [List.take_zero]; exact qi_zero⟩
  | l, n + 1, h => by
    obtain ⟨i1, i2⟩ := fwd_q x l n (by omega)
    refine ⟨?_, ?_⟩
    · show qi ((fwd x l n).2 * x % 1013) = _
      rw [qi_mod, qi_mul, i1]; grobner
    · show qi (((fwd x l n).1 + l.getD n 0 * (fwd x l n).2) % 1013) = _
      rw [qi_mod, qi_add, qi_mul, i1, i2, gD (by omega), take_snoc3 l n (by omega), List.map_append, List.map_cons, List.map_nil, ev_snoc, List.length_map, List.length_take, Nat.min_eq_left (by omega)]
where
  ev_snoc (t c : Q) : ∀ l : List Q, ev (l ++ [c]) t = ev l t + c * t ^ l.length
    | [] => by simp only [List.nil_append, ev, List.length_nil]; grobner
    | a :: l => by
      have := fwd_q.ev_snoc t c l
      simp only [List.cons_append, ev, List.length_cons, this]; grobner
theorem fwd_val (x : Int) (l : List Int) : (fwd x l l.length).1 = val x l := by
  have h := (fwd_q x l l.length (Nat.le_refl _)).2
  rw [List.take_length, ← val_q] at h
  exact qi_inj (fwd_bd x l l.length).1 (val_bd x l) h
/-- The numbers above and below the line, so far. -/
def upd (xs : List Int) (i : Nat) : Nat → Int × Int
  | 0 => (1, 1)
  | k + 1 => if k = i then upd xs i k else ((upd xs i k).1 * xs.getD k 0 % 1013, (upd xs i k).2 * ((xs.getD k 0 - xs.getD i 0) % 1013) % 1013)
theorem upd_same {xs : List Int} {i k : Nat} (h : k = i) : upd xs i (k + 1) = upd xs i k := by rw [upd, if_pos h]
theorem upd_step {xs : List Int} {i k : Nat} (h : ¬ k = i) : upd xs i (k + 1) = ((upd xs i k).1 * xs.getD k 0 % 1013, (upd xs i k).2 * ((xs.getD k 0 - xs.getD i 0) % 1013) % 1013) := by rw [upd, if_neg h]
theorem upd_bd (xs : List Int) (i : Nat) : ∀ n, (0 ≤ (upd xs i n).1 ∧ (upd xs i n).1 < 1013) ∧ (0 ≤ (upd xs i n).2 ∧ (upd xs i n).2 < 1013)
  | 0 => ⟨⟨by show (0 : Int) ≤ 1; decide, by show (1 : Int) < 1013; decide⟩, ⟨by show (0 : Int) ≤ 1; decide, by show (1 : Int) < 1013; decide⟩⟩
  | k + 1 => by
    by_cases h : k = i
    · rw [upd_same h]; exact upd_bd xs i k
    · rw [upd_step h]; exact ⟨⟨Int.emod_nonneg _ (by decide), Int.emod_lt_of_pos _ (by decide)⟩, ⟨Int.emod_nonneg _ (by decide), Int.emod_lt_of_pos _ (by decide)⟩⟩
theorem qmul_ne {a b : Q} (ha : a ≠ 0) (hb : b ≠ 0) : a * b ≠ 0 := fun h => by
  rcases qzero_or h with e | e
  · exact ha e
  · exact hb e
/-- What stands above, over what stands below, is the weight. -/
theorem upd_q (xs : List Int) (hs : ∀ i (h : i < xs.length), 1 ≤ xs[i] ∧ xs[i] < 1013) (hd : ∀ i j (hi : i < xs.length) (hj : j < xs.length), i < j → xs[i] ≠ xs[j]) (i : Nat) (hi : i < xs.length) : ∀ k, k ≤ xs.length → qi (upd xs i k).2 ≠ 0 ∧ qi (upd xs i k).1 = qi (upd xs i k).2 * qi (wpre xs i k)
  | 0, _ => by
    refine ⟨?_, ?_⟩
    · show qi 1 ≠ 0; rw [qi_one]; decide
    · show qi 1 = qi 1 * qi 1; rw [qi_one]; grobner
  | k + 1, hk => by
    obtain ⟨i1, i2⟩ := upd_q xs hs hd i hi k (by omega)
    by_cases h : k = i
    · rw [upd_same h, wpre_same h]; exact ⟨i1, i2⟩
    · have hne : qi xs[k] ≠ qi xs[i] := fun e => by
        have := qi_inj1 (hs k (by omega)) (hs i hi) e
        rcases Nat.lt_or_ge k i with h' | h'
        · exact hd k i (by omega) hi h' this
        · exact hd i k hi (by omega) (by omega) this.symm
      have hd' : qi xs[k] - qi xs[i] ≠ 0 := fun e => hne (by grobner)
      have hv := qmul_inv hd'
      rw [upd_step h, wpre_step h, gD (show k < xs.length by omega), gD hi]
      have e1 : qi ((upd xs i k).1 * xs[k] % 1013) = qi (upd xs i k).1 * qi xs[k] := by rw [qi_mod, qi_mul]
      have e2 : qi ((upd xs i k).2 * ((xs[k] - xs[i]) % 1013) % 1013) = qi (upd xs i k).2 * (qi xs[k] - qi xs[i]) := by rw [qi_mod, qi_mul, qi_mod, qi_sub]
      have e3 : qi (wpre xs i k * xs[k] % 1013 * (((xs[k] - xs[i]) % 1013) ^ qE % 1013) % 1013) = qi (wpre xs i k) * qi xs[k] * qinv (qi xs[k] - qi xs[i]) := by rw [qi_mod, qi_mul, qi_mod, qi_mul, qi_inv, qi_sub]
      dsimp only
      rw [e1, e2, e3]
      refine ⟨qmul_ne i1 hd', ?_⟩
      rw [i2]
      generalize qinv (qi xs[k] - qi xs[i]) = v at *
      generalize qi (upd xs i k).2 = D at *
      generalize qi (wpre xs i k) = W at *
      generalize qi xs[k] = Y at *
      generalize qi xs[i] = X at *
      clear hd' hne i1 i2 e1 e2 e3
      grobner
theorem upd_turn (xs : List Int) (hs : ∀ i (h : i < xs.length), 1 ≤ xs[i] ∧ xs[i] < 1013) (hd : ∀ i j (hi : i < xs.length) (hj : j < xs.length), i < j → xs[i] ≠ xs[j]) (i : Nat) (hi : i < xs.length) (t : Int) (ht : t * (upd xs i xs.length).2 % 1013 = 1) : (upd xs i xs.length).1 * t % 1013 = wpre xs i xs.length := by
  obtain ⟨h1, h2⟩ := upd_q xs hs hd i hi xs.length (Nat.le_refl _)
  have ht' : qi t * qi (upd xs i xs.length).2 = 1 := by rw [← qi_mul, ← qi_one]; exact qi_eq.mpr (by rw [ht]; rfl)
  refine qi_inj ⟨Int.emod_nonneg _ (by decide), Int.emod_lt_of_pos _ (by decide)⟩ (wpre_bd xs i _) ?_
  rw [qi_mod, qi_mul, h2]
  generalize qi (upd xs i xs.length).2 = d at *
  generalize qi (wpre xs i xs.length) = v at *
  clear h1 h2
  grobner
theorem upd_pos (xs : List Int) (hs : ∀ i (h : i < xs.length), 1 ≤ xs[i] ∧ xs[i] < 1013) (hd : ∀ i j (hi : i < xs.length) (hj : j < xs.length), i < j → xs[i] ≠ xs[j]) (i : Nat) (hi : i < xs.length) : 1 ≤ (upd xs i xs.length).2 := by
  have h1 := (upd_q xs hs hd i hi xs.length (Nat.le_refl _)).1
  have hb := (upd_bd xs i xs.length).2
  by_cases h : 1 ≤ (upd xs i xs.length).2
  · exact h
  · exfalso
    have : (upd xs i xs.length).2 = 0 := by omega
    exact h1 (by rw [this]; exact qi_zero)
/-- The fault of places. -/
def plF (xs : List Int) : Nat → Int
  | 0 => 0
  | n + 1 => if plF xs n ≠ 0 then plF xs n else if ¬ (1 ≤ xs.getD n 0 ∧ xs.getD n 0 < 1013) then 1 else if xs.getD n 0 ∈ xs.take n then 7 else 0
def placesF (xs : List Int) : Int := if 12 < xs.length then 4 else if xs.length = 0 then 5 else plF xs xs.length
end Go.Proofs.YtjjmelhhalomaaaGreatDoor
namespace Go.Proofs.YtjjmelhhalomaaaGreatDoor
open Go.RowKit
set_option maxRecDepth 100000
set_option linter.unusedVariables false
set_option linter.unusedSimpArgs false
theorem secB_ok (n : Int) : secB n = okB n := rfl
theorem turn_go2 {s K a D x d : Int} (h : s % 1013 = (K + a * D) % 1013) : (s + a * (d * x % 1013)) % 1013 = (K + a * (D + x * d)) % 1013 := by
  have e : (a * (d * x % 1013)) % 1013 = (a * (d * x)) % 1013 := by rw [Int.mul_emod, Int.emod_emod, ← Int.mul_emod]
  rw [Int.mul_add, Int.mul_comm x d]
  generalize a * (d * x % 1013) = p at *
  generalize a * (d * x) = q at *
  generalize a * D = r at *
  omega
end Go.Proofs.YtjjmelhhalomaaaGreatDoor
namespace Go.Proofs.YtjjmelhhalomaaaGreatDoor
open Go.RowKit
set_option maxRecDepth 100000
set_option linter.unusedVariables false
set_option linter.unusedSimpArgs false
/-- A slice of these ints, in a block that is not older than B. -/
def IntF (B : Nat) (w : World) (v : Value) (l : List Int) : Prop := ∃ a cap, v = .slice a l.length cap ∧ (0 < l.length → ∃ b off, a = some ⟨b, off, none⟩ ∧ B ≤ b ∧ IntsAt w b off l)
theorem IntF.sl {B : Nat} {w : World} {v : Value} {l : List Int} (h : IntF B w v l) : IntSl w v l := by
  obtain ⟨a, cap, rfl, h⟩ := h
  exact ⟨a, cap, rfl, fun h0 => by obtain ⟨b, off, e, -, hs⟩ := h h0; exact ⟨b, off, e, hs⟩⟩
theorem IntF.below {B : Nat} {w w' : World} {v : Value} {l : List Int} (h : IntF B w v l) (hb : Below w.heap.size w w') : IntF B w' v l := by
  obtain ⟨a, cap, rfl, h⟩ := h
  exact ⟨a, cap, rfl, fun h0 => by obtain ⟨b, off, e, hB, hs⟩ := h h0; exact ⟨b, off, e, hB, hs.below hb⟩⟩
theorem IntF.set {B : Nat} {w : World} {v u : Value} {p : Addr} {l : List Int} (h : IntF B w v l) (hp : p.block < B) : IntF B (w.setCell p u) v l := by
  obtain ⟨a, cap, rfl, h⟩ := h
  refine ⟨a, cap, rfl, fun h0 => ?_⟩
  obtain ⟨b, off, e, hB, hs⟩ := h h0
  refine ⟨b, off, e, hB, by rw [World.size_setCell]; exact hs.lt, fun i hi => ?_⟩
  rw [World.cell?_setCell_other (h := fun e => by subst e; exact absurd hp (Nat.not_lt.mpr hB))]
  exact hs.c i hi
theorem own_intf {w0 w : World} {B e : Nat} {v : Value} {l : List Int} {n : Nat} (h0 : w0.heap.size ≤ B) (h : w.ownsRow B e 1 v n (l.map (Value.int .i64))) (hn : n = l.length) : IntF w0.heap.size w v l := by
  subst hn
  obtain ⟨hl, h | ⟨g, cap, cur, rfl, hb, hg, hc, -, -, ht⟩⟩ := h
  · obtain ⟨rfl, h0⟩ := h
    exact ⟨none, 0, by rw [h0], fun hp => absurd h0 (by omega)⟩
  · refine ⟨_, _, rfl, fun _ => ⟨g, 0, rfl, Nat.le_trans h0 hb, (Array.getElem?_eq_some_iff.1 hg).1, fun i hi => ?_⟩⟩
    have k1 : (l.map (Value.int .i64))[i]? = some (.int .i64 l[i]) := by simp [hi]
    rw [cell_of_row w g _ cur e (0, 0) hg]
    simp only [Nat.zero_add]
    rw [← ht, List.getElem?_take, if_pos (by omega), Array.getElem?_toList] at k1
    assumption
end Go.Proofs.YtjjmelhhalomaaaGreatDoor
