/- Walks of layer group: check, Coefs, Joint. -/
import Derived.Test.YtnlaofapjldciaaDoorOw
import Derived.Test.YtnlaofapjldciaaDoorGp
import Derived.Test.YtnlaofapjldciaaDoorSf
import Derived.Deep.DeepCutAuto
namespace Go.Proofs.YtnlaofapjldciaaDoor
open Go.RowKit
set_option maxRecDepth 100000
set_option linter.unusedVariables false
set_option linter.unusedSimpArgs false
theorem okB_y {n : Int} (h : okB n = true) : 1 ≤ n ∧ n < 1013 := of_decide_eq_true h
theorem okB_n {n : Int} (h : okB n = false) : ¬ (1 ≤ n ∧ n < 1013) := of_decide_eq_false h
theorem list_sl (l : List Sp) (v : Value) (w : World) (hF : FarAt w) (hl : l.length ≤ 12) (hs : SpSl w v l) (hok : ∀ z ∈ l, Ok z) :
    Calls Tryd.prog 114 #[v] w fun e w' => e = .returned (.tuple #[.string (lsB l.length l), .nilIface]) ∧ Below w.heap.size w w' := by
  obtain ⟨a, cap, rfl, hs⟩ := hs
  cases l with
  | nil => exact list_zero a cap w
  | cons s l =>
    obtain ⟨b, off, rfl, hs'⟩ := hs (Nat.succ_pos _)
    exact list_ok (s :: l) b off cap w hF hl hs' (fun i h => hok _ (List.getElem_mem h))
theorem hashNumber_n (s : ByteArray) (n : Int) (w : World) (hs : s.size ≤ 9223372036854775807) (h : Hid (hnum s.data.toList = n)) : Calls Tryd.prog 89 #[.string s] w fun e w' => e = .returned (.int .i64 n) ∧ Below w.heap.size w w' := by
  rw [← h.out]; exact hashNumber_c s w hs
set_option maxHeartbeats 1000000 in
theorem gcheck_full (xs ks : List Int) (a1 a2 : Option Addr) (c1 c2 : Nat) (t : ByteArray) (w : World) (h : 12 < xs.length) (hm : xs.length ≤ 9223372036854775807) :
    Calls Tryd.prog 115 #[.slice a1 xs.length c1, .slice a2 ks.length c2, .string t] w fun e w' => e = .returned (.iface 125 (.int .i64 4)) ∧ Below w.heap.size w w' := by
  go_enter Tryd.func115, Tryd.ntmps115
  go_wp2
  go_ret
  exact ⟨rfl, Below.refl _ _⟩
set_option maxHeartbeats 1000000 in
theorem gcheck_shape (xs ks : List Int) (a1 a2 : Option Addr) (c1 c2 : Nat) (t : ByteArray) (w : World) (h : xs.length ≤ 12) (hm : ks.length ≤ 9223372036854775807) (hn : xs.length ≠ ks.length) :
    Calls Tryd.prog 115 #[.slice a1 xs.length c1, .slice a2 ks.length c2, .string t] w fun e w' => e = .returned (.iface 125 (.int .i64 3)) ∧ Below w.heap.size w w' := by
  have hd : decide ((12 : Int) < (xs.length : Int)) = false := by rw [decide_eq_false_iff_not]; omega
  have hd2 : ((xs.length : Int) != (ks.length : Int)) = true := by rw [bne_iff_ne]; omega
  go_enter Tryd.func115, Tryd.ntmps115
  go_wp2
  go_ret
  exact ⟨rfl, Below.refl _ _⟩
set_option maxHeartbeats 4000000 in
theorem gcheck_core (xs ks : List Int) (a1 a2 : Option Addr) (c1 c2 : Nat) (t : ByteArray) (w : World) (h : xs.length ≤ 12) (hn : ks.length = xs.length) (hz : t.size ≤ 140737488351232)
    (h1 : 0 < xs.length → ∃ b off, a1 = some ⟨b, off, none⟩ ∧ IntsAt w b off xs) (h2 : 0 < ks.length → ∃ b off, a2 = some ⟨b, off, none⟩ ∧ IntsAt w b off ks) (R : Value)
    (hbad : Hid (∀ i (h1 : i < xs.length) (h2 : i < ks.length), okB xs[i] = false ∨ okB ks[i] = false → R = .iface 125 (.int .i64 1)))
    (hend : Hid ((∀ i (h1 : i < xs.length), okB xs[i] = true) → (∀ i (h1 : i < ks.length), okB ks[i] = true) → R = if 60 < t.size then .iface 125 (.int .i64 4) else .nilIface)) :
    Calls Tryd.prog 115 #[.slice a1 xs.length c1, .slice a2 ks.length c2, .string t] w fun e w' => e = .returned R ∧ Below w.heap.size w w' := by
  have hd : decide ((12 : Int) < (xs.length : Int)) = false := by rw [decide_eq_false_iff_not]; omega
  have h1' := Lib.hid h1
  have h2' := Lib.hid h2
  have hn' := Lib.hid hn
  clear h1 h2
  rw [hn]
  clear hn
  go_enter Tryd.func115, Tryd.ntmps115
  go_wp2
  go_loopw [23] (fun i wr => ∃ n : Nat, n ≤ xs.length ∧ i = .int .i64 n ∧ (∀ i (h1 : i < xs.length), i < n → okB xs[i] = true) ∧ (∀ i (h1 : i < ks.length), i < n → okB ks[i] = true) ∧ wr = w) (fun i _ => xs.length - (intOf i).toNat)
  case atStart => exact ⟨0, Nat.zero_le _, rfl, fun i _ h => absurd h (Nat.not_lt_zero _), fun i _ h => absurd h (Nat.not_lt_zero _), rfl⟩
  case round =>
    obtain ⟨n, hn, rfl, k1, k2, rfl⟩ := hrel
    replace k1 := Lib.hid k1
    replace k2 := Lib.hid k2
    by_cases hlt : n < xs.length
    · obtain ⟨b1, o1, rfl, l1⟩ := h1'.out (by omega)
      obtain ⟨b2, o2, rfl, l2⟩ := h2'.out (by rw [hn'.out]; omega)
      have hlt2 : n < ks.length := by rw [hn'.out]; exact hlt
      have m1 := l1.c n hlt
      have m2 := l2.c n hlt2
      clear l1 l2
      cases e1 : okB xs[n] with
      | false =>
        have hb := okB_n e1
        have hR := hbad.out n hlt hlt2 (.inl e1)
        clear e1
        generalize xs[n] = x at *
        generalize ks[n] = k at *
        go_wp2_with fail
        refine (secret_n x _ hb).mono ?_; rintro e w' ⟨rfl, rfl⟩
        go_wp2
        go_ret
        exact ⟨ret_eq hR.symm, Below.refl _ _⟩
      | true =>
        have hx := okB_y e1
        cases e2 : okB ks[n] with
        | false =>
          have hb := okB_n e2
          have hR := hbad.out n hlt hlt2 (.inr e2)
          clear e1 e2
          generalize xs[n] = x at *
          generalize ks[n] = k at *
          obtain ⟨x1, x2⟩ := hx
          go_wp2_with fail
          refine (secret_y x _ x1 x2).mono ?_; rintro e w' ⟨rfl, rfl⟩
          go_wp2_with fail
          refine (secret_n k _ hb).mono ?_; rintro e w' ⟨rfl, rfl⟩
          go_wp2
          go_ret
          exact ⟨ret_eq hR.symm, Below.refl _ _⟩
        | true =>
          have hk := okB_y e2
          have e1 := Lib.hid e1
          have e2 := Lib.hid e2
          generalize hxe : xs[n] = x at *
          generalize hke : ks[n] = k at *
          replace hxe := Lib.hid hxe
          replace hke := Lib.hid hke
          obtain ⟨x1, x2⟩ := hx
          obtain ⟨y1, y2⟩ := hk
          go_wp2_with fail
          refine (secret_y x _ x1 x2).mono ?_; rintro e w' ⟨rfl, rfl⟩
          go_wp2_with fail
          refine (secret_y k _ y1 y2).mono ?_; rintro e w' ⟨rfl, rfl⟩
          go_wp2
          have j1 : ∀ i (h1 : i < xs.length), i < n + 1 → okB xs[i] = true := by
            intro i hi h
            by_cases hin : i < n
            · exact k1.out i hi hin
            · obtain rfl : i = n := by omega
              rw [hxe.out]; exact e1.out
          have j2 : ∀ i (h1 : i < ks.length), i < n + 1 → okB ks[i] = true := by
            intro i hi h
            by_cases hin : i < n
            · exact k2.out i hi hin
            · obtain rfl : i = n := by omega
              rw [hke.out]; exact e2.out
          go_roundw
          case rel => exact ⟨n + 1, by omega, by go_num, j1, j2, by first | rfl | trivial⟩
          case measure => simp [intOf]; omega
    · have hR := Lib.hid (hend.out (fun i hi => k1.out i hi (by omega)) (fun i hi => k2.out i hi (by rw [hn'.out] at hi; omega)))
      clear h1' h2'
      by_cases hs : t.size ≤ 60
      · go_wp2_with fail
        refine (text_y t _ hs).mono ?_; rintro e w' ⟨rfl, rfl⟩
        go_wp2
        go_ret
        exact ⟨ret_eq (by rw [hR.out, if_neg (by omega)]; rfl), Below.refl _ _⟩
      · have hs : 60 < t.size := by omega
        go_wp2_with fail
        refine (text_n t _ hs hz).mono ?_; rintro e w' ⟨rfl, rfl⟩
        go_wp2
        go_ret
        exact ⟨ret_eq (by rw [hR.out, if_pos hs]; rfl), Below.refl _ _⟩
theorem gcheck_e (xs ks : List Int) (v1 v2 : Value) (t : ByteArray) (E : Int) (w : World) (h1 : IntSl w v1 xs) (h2 : IntSl w v2 ks) (m1 : xs.length ≤ 9223372036854775807) (m2 : ks.length ≤ 9223372036854775807) (hz : t.size ≤ 140737488351232) (hE : Hid (groupF xs ks t.size = E)) :
    Calls Tryd.prog 115 #[v1, v2, .string t] w fun e w' => e = .returned (errV E) ∧ Below w.heap.size w w' := by
  obtain ⟨a1, c1, rfl, h1⟩ := h1
  obtain ⟨a2, c2, rfl, h2⟩ := h2
  have hE := hE.out
  unfold groupF at hE
  split at hE
  · subst hE; exact gcheck_full xs ks a1 a2 c1 c2 t w (by assumption) m1
  split at hE
  · subst hE; exact gcheck_shape xs ks a1 a2 c1 c2 t w (by omega) m2 (by assumption)
  rename_i g1 g2
  refine gcheck_core xs ks a1 a2 c1 c2 t w (by omega) (by omega) hz h1 h2 (errV E) (Lib.hid ?_) (Lib.hid ?_)
  · intro i i1 i2 hb
    have : (xs.all okB && ks.all okB) = false := by
      rcases hb with hb | hb
      · rw [not_all i1 hb]; rfl
      · rw [not_all i2 hb, Bool.and_false]
    rw [this] at hE
    subst hE; rfl
  · intro k1 k2
    rw [all_at k1, all_at k2] at hE
    simp only [Bool.and_self, if_true] at hE
    subst hE
    split <;> rfl
end Go.Proofs.YtnlaofapjldciaaDoor
