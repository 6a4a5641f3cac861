/- Texts of this claim, in one. -/
import Derived.Test.YtnlaofapjldciaaDoorSe
import Derived.Test.YtnlaofapjldciaaDoorOw
import Derived.Test.YtnlaofapjldciaaDoorSf
import Derived.Deep.DeepCutAuto
import Derived.Test.YtnlaofapjldciaaDoorWb
import Derived.Test.YtnlaofapjldciaaDoorTw
import Derived.Test.YtnlaofapjldciaaDoorPairD
import Derived.Deep.RegionWith
import Derived.Test.YtnlaofapjldciaaDoorRd
import Derived.Laws.Entries
import Derived.Test.YtnlaofapjldciaaDoorWr
import Derived.Test.YtnlaofapjldciaaDoorKe
import Derived.Test.YtnlaofapjldciaaDoorTn
import Derived.Test.YtnlaofapjldciaaDoorRf
namespace Go.Proofs.YtnlaofapjldciaaDoor
/-- Of two lists the sum of the products. -/
def dot : List Int → List Int → Int
  | u :: us, c :: cs => u * c + dot us cs
  | _, _ => 0
theorem dot_nil (cs : List Int) : dot [] cs = 0 := by cases cs <;> rfl
theorem dot_snoc : ∀ (us cs : List Int) (n : Nat) (h1 : n < us.length) (h2 : n < cs.length), dot (us.take (n + 1)) cs = dot (us.take n) cs + us[n] * cs[n]
  | [], _, _, h, _ => absurd h (Nat.not_lt_zero _)
  | _ :: _, [], _, _, h => absurd h (Nat.not_lt_zero _)
  | u :: us, c :: cs, 0, _, _ => by simp [dot, dot_nil]
  | u :: us, c :: cs, n + 1, h1, h2 => by
    have := dot_snoc us cs n (by simpa using h1) (by simpa using h2)
    simp only [List.take_succ_cons, dot, List.getElem_cons_succ] at this ⊢
    omega
theorem dot_four : ∀ us cs : List Int, dot (us.map (4 * ·)) cs = 4 * dot us cs
  | [], cs => by simp [dot_nil]
  | _ :: _, [] => by simp [dot]
  | u :: us, c :: cs => by simp only [List.map_cons, dot, dot_four us cs, Int.mul_add, Int.mul_assoc]
/-- The number of each key. -/
def cfs (l : List Sp) : List Int := l.map fun k => hnum (lsB l.length l ++ sBytes k).data.toList
theorem cfs_len (l : List Sp) : (cfs l).length = l.length := by simp [cfs]
theorem cfs_bd (l : List Sp) (i : Nat) (h : i < (cfs l).length) : 0 ≤ (cfs l)[i] ∧ (cfs l)[i] < 1013 := by simp only [cfs, List.getElem_map]; exact hnum_bd _
theorem cfs_get (l : List Sp) (i : Nat) (h : i < l.length) : (cfs l)[i]'(by rw [cfs_len]; exact h) = hnum (lsB l.length l ++ sBytes l[i]).data.toList := by simp only [cfs, List.getElem_map]
/-- Is it a number to sign with. -/
def okB (n : Int) : Bool := decide (1 ≤ n ∧ n < 1013)
/-- What is wrong with those that sign; 0: nothing. -/
def groupF (xs ks : List Int) (n : Nat) : Int := if 12 < xs.length then 4 else if xs.length ≠ ks.length then 3 else if xs.all okB && ks.all okB then (if 60 < n then 4 else 0) else 1
theorem all_at {l : List Int} (h : ∀ i (h : i < l.length), okB l[i] = true) : l.all okB = true := by
  rw [List.all_eq_true]
  intro x hx
  obtain ⟨i, hi, rfl⟩ := List.mem_iff_getElem.mp hx
  exact h i hi
theorem not_all {l : List Int} {i : Nat} (h : i < l.length) (hb : okB l[i] = false) : l.all okB = false := by
  rw [List.all_eq_false]
  exact ⟨l[i], List.getElem_mem h, by rw [hb]; decide⟩
theorem all_get {l : List Int} (h : l.all okB = true) (i : Nat) (hi : i < l.length) : okB l[i] = true := List.all_eq_true.mp h _ (List.getElem_mem hi)
theorem sum_snoc : ∀ (l : List Int) (n : Nat) (h : n < l.length), (l.take (n + 1)).sum = (l.take n).sum + l[n]
  | [], _, h => absurd h (Nat.not_lt_zero _)
  | a :: l, 0, _ => by simp
  | a :: l, n + 1, h => by
    have := sum_snoc l n (by simpa using h)
    simp only [List.take_succ_cons, List.sum_cons, List.getElem_cons_succ] at this ⊢
    omega
theorem sum_bd (l : List Int) (h : ∀ i (h : i < l.length), 1 ≤ l[i] ∧ l[i] < 1013) : ∀ n, n ≤ l.length → 0 ≤ (l.take n).sum ∧ (l.take n).sum ≤ 1012 * n
  | 0, _ => by simp
  | n + 1, hn => by
    have := sum_bd l h n (by omega)
    have := h n (by omega)
    rw [sum_snoc l n (by omega)]
    omega
theorem turn_step (s a c x : Int) : (s + a * c % 1013 * x) % 1013 = (s + a * (x * c)) % 1013 := by
  rw [Int.add_emod, Int.mul_emod (a * c % 1013) x, Int.emod_emod, ← Int.mul_emod, ← Int.add_emod, Int.mul_assoc, Int.mul_comm c x]
/-- One round more of the sum. -/
theorem turn_go {s K a D x c : Int} (h : s % 1013 = (K + a * D) % 1013) : (s + a * c % 1013 * x) % 1013 = (K + a * (D + x * c)) % 1013 := by
  rw [turn_step, Int.mul_add]
  omega
end Go.Proofs.YtnlaofapjldciaaDoor
namespace Go.Proofs.YtnlaofapjldciaaDoor
open Go.RowKit
set_option maxRecDepth 100000
set_option linter.unusedVariables false
set_option linter.unusedSimpArgs false
theorem okB_y {n : Int} (h : okB n = true) : 1 ≤ n ∧ n < 1013 := of_decide_eq_true h
theorem okB_n {n : Int} (h : okB n = false) : ¬ (1 ≤ n ∧ n < 1013) := of_decide_eq_false h
theorem list_sl (l : List Sp) (v : Value) (w : World) (hF : FarAt w) (hl : l.length ≤ 12) (hs : SpSl w v l) (hok : ∀ z ∈ l, Ok z) :
    Calls Tryd.prog 114 #[v] w fun e w' => e = .returned (.tuple #[.string (lsB l.length l), .nilIface]) ∧ Below w.heap.size w w' := by
  obtain ⟨a, cap, rfl, hs⟩ := hs
  cases l with
  | nil => exact list_zero a cap w
  | cons s l =>
    obtain ⟨b, off, rfl, hs'⟩ := hs (Nat.succ_pos _)
    exact list_ok (s :: l) b off cap w hF hl hs' (fun i h => hok _ (List.getElem_mem h))
theorem hashNumber_n (s : ByteArray) (n : Int) (w : World) (hs : s.size ≤ 9223372036854775807) (h : Hid (hnum s.data.toList = n)) : Calls Tryd.prog 89 #[.string s] w fun e w' => e = .returned (.int .i64 n) ∧ Below w.heap.size w w' := by
  rw [← h.out]; exact hashNumber_c s w hs
set_option maxHeartbeats 1000000 in
theorem gcheck_full (xs ks : List Int) (a1 a2 : Option Addr) (c1 c2 : Nat) (t : ByteArray) (w : World) (h : 12 < xs.length) (hm : xs.length ≤ 9223372036854775807) :
    Calls Tryd.prog 115 #[.slice a1 xs.length c1, .slice a2 ks.length c2, .string t] w fun e w' => e = .returned (.iface 125 (.int .i64 4)) ∧ Below w.heap.size w w' := by
  go_enter Tryd.func115, Tryd.ntmps115
  go_wp2
  go_ret
  exact ⟨rfl, Below.refl _ _⟩
set_option maxHeartbeats 1000000 in
theorem gcheck_shape (xs ks : List Int) (a1 a2 : Option Addr) (c1 c2 : Nat) (t : ByteArray) (w : World) (h : xs.length ≤ 12) (hm : ks.length ≤ 9223372036854775807) (hn : xs.length ≠ ks.length) :
    Calls Tryd.prog 115 #[.slice a1 xs.length c1, .slice a2 ks.length c2, .string t] w fun e w' => e = .returned (.iface 125 (.int .i64 3)) ∧ Below w.heap.size w w' := by
  have hd : decide ((12 : Int) < (xs.length : Int)) = false := by rw [decide_eq_false_iff_not]; omega
  have hd2 : ((xs.length : Int) != (ks.length : Int)) = true := by rw [bne_iff_ne]; omega
  go_enter Tryd.func115, Tryd.ntmps115
  go_wp2
  go_ret
  exact ⟨rfl, Below.refl _ _⟩
set_option maxHeartbeats 4000000 in
theorem gcheck_core (xs ks : List Int) (a1 a2 : Option Addr) (c1 c2 : Nat) (t : ByteArray) (w : World) (h : xs.length ≤ 12) (hn : ks.length = xs.length) (hz : t.size ≤ 140737488351232)
    (h1 : 0 < xs.length → ∃ b off, a1 = some ⟨b, off, none⟩ ∧ IntsAt w b off xs) (h2 : 0 < ks.length → ∃ b off, a2 = some ⟨b, off, none⟩ ∧ IntsAt w b off ks) (R : Value)
    (hbad : Hid (∀ i (h1 : i < xs.length) (h2 : i < ks.length), okB xs[i] = false ∨ okB ks[i] = false → R = .iface 125 (.int .i64 1)))
    (hend : Hid ((∀ i (h1 : i < xs.length), okB xs[i] = true) → (∀ i (h1 : i < ks.length), okB ks[i] = true) → R = if 60 < t.size then .iface 125 (.int .i64 4) else .nilIface)) :
    Calls Tryd.prog 115 #[.slice a1 xs.length c1, .slice a2 ks.length c2, .string t] w fun e w' => e = .returned R ∧ Below w.heap.size w w' := by
  have hd : decide ((12 : Int) < (xs.length : Int)) = false := by rw [decide_eq_false_iff_not]; omega
  have h1' := Lib.hid h1
  have h2' := Lib.hid h2
  have hn' := Lib.hid hn
  clear h1 h2
  rw [hn]
  clear hn
  go_enter Tryd.func115, Tryd.ntmps115
  go_wp2
  go_loopw [23] (fun i wr => ∃ n : Nat, n ≤ xs.length ∧ i = .int .i64 n ∧ (∀ i (h1 : i < xs.length), i < n → okB xs[i] = true) ∧ (∀ i (h1 : i < ks.length), i < n → okB ks[i] = true) ∧ wr = w) (fun i _ => xs.length - (intOf i).toNat)
  case atStart => exact ⟨0, Nat.zero_le _, rfl, fun i _ h => absurd h (Nat.not_lt_zero _), fun i _ h => absurd h (Nat.not_lt_zero _), rfl⟩
  case round =>
    obtain ⟨n, hn, rfl, k1, k2, rfl⟩ := hrel
    replace k1 := Lib.hid k1
    replace k2 := Lib.hid k2
    by_cases hlt : n < xs.length
    · obtain ⟨b1, o1, rfl, l1⟩ := h1'.out (by omega)
      obtain ⟨b2, o2, rfl, l2⟩ := h2'.out (by rw [hn'.out]; omega)
      have hlt2 : n < ks.length := by rw [hn'.out]; exact hlt
      have m1 := l1.c n hlt
      have m2 := l2.c n hlt2
      clear l1 l2
      cases e1 : okB xs[n] with
      | false =>
        have hb := okB_n e1
        have hR := hbad.out n hlt hlt2 (.inl e1)
        clear e1
        generalize xs[n] = x at *
        generalize ks[n] = k at *
        go_wp2_with fail
        refine (secret_n x _ hb).mono ?_; rintro e w' ⟨rfl, rfl⟩
        go_wp2
        go_ret
        exact ⟨ret_eq hR.symm, Below.refl _ _⟩
      | true =>
        have hx := okB_y e1
        cases e2 : okB ks[n] with
        | false =>
          have hb := okB_n e2
          have hR := hbad.out n hlt hlt2 (.inr e2)
          clear e1 e2
          generalize xs[n] = x at *
          generalize ks[n] = k at *
          obtain ⟨x1, x2⟩ := hx
          go_wp2_with fail
          refine (secret_y x _ x1 x2).mono ?_; rintro e w' ⟨rfl, rfl⟩
          go_wp2_with fail
          refine (secret_n k _ hb).mono ?_; rintro e w' ⟨rfl, rfl⟩
          go_wp2
          go_ret
          exact ⟨ret_eq hR.symm, Below.refl _ _⟩
        | true =>
          have hk := okB_y e2
          have e1 := Lib.hid e1
          have e2 := Lib.hid e2
          generalize hxe : xs[n] = x at *
          generalize hke : ks[n] = k at *
          replace hxe := Lib.hid hxe
          replace hke := Lib.hid hke
          obtain ⟨x1, x2⟩ := hx
          obtain ⟨y1, y2⟩ := hk
          go_wp2_with fail
          refine (secret_y x _ x1 x2).mono ?_; rintro e w' ⟨rfl, rfl⟩
          go_wp2_with fail
          refine (secret_y k _ y1 y2).mono ?_; rintro e w' ⟨rfl, rfl⟩
          go_wp2
          have j1 : ∀ i (h1 : i < xs.length), i < n + 1 → okB xs[i] = true := by
            intro i hi h
            by_cases hin : i < n
            · exact k1.out i hi hin
            · obtain rfl : i = n := by omega
              rw [hxe.out]; exact e1.out
          have j2 : ∀ i (h1 : i < ks.length), i < n + 1 → okB ks[i] = true := by
            intro i hi h
            by_cases hin : i < n
            · exact k2.out i hi hin
            · obtain rfl : i = n := by omega
              rw [hke.out]; exact e2.out
          go_roundw
          case rel => exact ⟨n + 1, by omega, by go_num, j1, j2, by first | rfl | trivial⟩
          case measure => simp [intOf]; omega
    · have hR := Lib.hid (hend.out (fun i hi => k1.out i hi (by omega)) (fun i hi => k2.out i hi (by rw [hn'.out] at hi; omega)))
      clear h1' h2'
      by_cases hs : t.size ≤ 60
      · go_wp2_with fail
        refine (text_y t _ hs).mono ?_; rintro e w' ⟨rfl, rfl⟩
        go_wp2
        go_ret
        exact ⟨ret_eq (by rw [hR.out, if_neg (by omega)]; rfl), Below.refl _ _⟩
      · have hs : 60 < t.size := by omega
        go_wp2_with fail
        refine (text_n t _ hs hz).mono ?_; rintro e w' ⟨rfl, rfl⟩
        go_wp2
        go_ret
        exact ⟨ret_eq (by rw [hR.out, if_pos hs]; rfl), Below.refl _ _⟩
theorem gcheck_e (xs ks : List Int) (v1 v2 : Value) (t : ByteArray) (E : Int) (w : World) (h1 : IntSl w v1 xs) (h2 : IntSl w v2 ks) (m1 : xs.length ≤ 9223372036854775807) (m2 : ks.length ≤ 9223372036854775807) (hz : t.size ≤ 140737488351232) (hE : Hid (groupF xs ks t.size = E)) :
    Calls Tryd.prog 115 #[v1, v2, .string t] w fun e w' => e = .returned (errV E) ∧ Below w.heap.size w w' := by
  obtain ⟨a1, c1, rfl, h1⟩ := h1
  obtain ⟨a2, c2, rfl, h2⟩ := h2
  have hE := hE.out
  unfold groupF at hE
  split at hE
  · subst hE; exact gcheck_full xs ks a1 a2 c1 c2 t w (by assumption) m1
  split at hE
  · subst hE; exact gcheck_shape xs ks a1 a2 c1 c2 t w (by omega) m2 (by assumption)
  rename_i g1 g2
  refine gcheck_core xs ks a1 a2 c1 c2 t w (by omega) (by omega) hz h1 h2 (errV E) (Lib.hid ?_) (Lib.hid ?_)
  · intro i i1 i2 hb
    have : (xs.all okB && ks.all okB) = false := by
      rcases hb with hb | hb
      · rw [not_all i1 hb]; rfl
      · rw [not_all i2 hb, Bool.and_false]
    rw [this] at hE
    subst hE; rfl
  · intro k1 k2
    rw [all_at k1, all_at k2] at hE
    simp only [Bool.and_self, if_true] at hE
    subst hE
    split <;> rfl
end Go.Proofs.YtnlaofapjldciaaDoor
namespace Go.Proofs.YtnlaofapjldciaaDoor
open Go.RowKit
/-- A number of the greater field, as the program has it. -/
abbrev twR (z : Z) : Value := .agg #[.int .i64 (fz z.re), .int .i64 (fz z.im)]
set_option maxRecDepth 100000 in
set_option maxHeartbeats 400000 in
theorem twinMul_c (a b c d : Int) (w : World) : Calls Tryd.prog 128 #[.agg #[.int .i64 a, .int .i64 b], .agg #[.int .i64 c, .int .i64 d]] w fun e w' => e = .returned (twR ((zi a b).mul (zi c d))) ∧ Below w.heap.size w w' := by
  go_enter Tryd.func128, Tryd.ntmps128
  go_wp2
  refine wp_region_st 23 Tryd.mixed (by kernel_rfl) ?_
  simp only [List.take_succ_cons, List.take_zero, List.drop_succ_cons, List.drop_zero]
  repeat (first | still_step | still_call (stl (primeMul_c _ _ _)) | still_call (stl (primeSub_c _ _ _)) | still_call (stl (primeAdd_c _ _ _)) | still_call (stl (primeOf_c _ _)))
  refine wpStill_nil ?_
  rw [zmul_re, zmul_im]
  go_wp2
  refine bodyPost_ret (v := twR ((zi a b).mul (zi c d))) (by simp [results, Tryd.results128, go_sem]) rfl ⟨rfl, ?_⟩
  repeat (first | exact Below.refl _ _ | refine Below.drew ?_ | refine balloc ?_ _)
structure TwMem (w wr : World) (za zb oa ob : Int) : Prop where
  a0 : wr.cell? ⟨w.heap.size, 0, none⟩ = some (.int .i64 za)
  a1 : wr.cell? ⟨w.heap.size, 1, none⟩ = some (.int .i64 zb)
  o0 : wr.cell? ⟨w.heap.size + 1 + 1, 0, none⟩ = some (.int .i64 oa)
  o1 : wr.cell? ⟨w.heap.size + 1 + 1, 1, none⟩ = some (.int .i64 ob)
  r0 : wr.cell? ⟨w.heap.size + 1, 0, none⟩ = some (.int .i64 0)
  r1 : wr.cell? ⟨w.heap.size + 1, 1, none⟩ = some (.int .i64 0)
  fa0 : wr.frozen? ⟨w.heap.size, 0, none⟩ = false
  fa1 : wr.frozen? ⟨w.heap.size, 1, none⟩ = false
  fo0 : wr.frozen? ⟨w.heap.size + 1 + 1, 0, none⟩ = false
  fo1 : wr.frozen? ⟨w.heap.size + 1 + 1, 1, none⟩ = false
  fr0 : wr.frozen? ⟨w.heap.size + 1, 0, none⟩ = false
  fr1 : wr.frozen? ⟨w.heap.size + 1, 1, none⟩ = false
  sz : w.heap.size + 1 + 1 < wr.heap.size
  bel : Below w.heap.size w wr
theorem TwMem.below {w wr w1 : World} {za zb oa ob : Int} (h : TwMem w wr za zb oa ob) (hb : Below wr.heap.size wr w1) : TwMem w w1 za zb oa ob := by
  obtain ⟨a0, a1, o0, o1, r0, r1, fa0, fa1, fo0, fo1, fr0, fr1, hsz, hbel⟩ := h
  obtain ⟨hc, hf⟩ := bcell hb
  have := hb.size
  exact ⟨(hc _ _ (by omega)).trans a0, (hc _ _ (by omega)).trans a1, (hc _ _ (by omega)).trans o0, (hc _ _ (by omega)).trans o1, (hc _ _ (by omega)).trans r0, (hc _ _ (by omega)).trans r1,
    (hf _ _ (by omega)).trans fa0, (hf _ _ (by omega)).trans fa1, (hf _ _ (by omega)).trans fo0, (hf _ _ (by omega)).trans fo1, (hf _ _ (by omega)).trans fr0, (hf _ _ (by omega)).trans fr1, by omega, hbel.trans (hb.mono hbel.size)⟩
theorem set2_cell {w : World} {b : Nat} {u v x y : Value} (h0 : w.cell? ⟨b, 0, none⟩ = some u) (h1 : w.cell? ⟨b, 1, none⟩ = some v) :
    ((w.setCell ⟨b, 0, none⟩ x).setCell ⟨b, 1, none⟩ y).cell? ⟨b, 0, none⟩ = some x ∧ ((w.setCell ⟨b, 0, none⟩ x).setCell ⟨b, 1, none⟩ y).cell? ⟨b, 1, none⟩ = some y := by
  constructor
  · rw [World.cell?_setCell_other (h := by simp)]; exact World.cell?_setCell_same _ _ _ h0
  · exact World.cell?_setCell_same _ _ _ (by rw [World.cell?_setCell_other (h := by simp)]; exact h1)
theorem set2_other {w : World} {b c k : Nat} {x y : Value} (h : b ≠ c) : ((w.setCell ⟨b, 0, none⟩ x).setCell ⟨b, 1, none⟩ y).cell? ⟨c, k, none⟩ = w.cell? ⟨c, k, none⟩ := by
  rw [World.cell?_setCell_other (h := fun e => h (congrArg Addr.block e)), World.cell?_setCell_other (h := fun e => h (congrArg Addr.block e))]
theorem set2_below {B : Nat} {a w : World} {b : Nat} {x y : Value} (h : Below B a w) (hb : B ≤ b) : Below B a ((w.setCell ⟨b, 0, none⟩ x).setCell ⟨b, 1, none⟩ y) := (h.setCell hb x).setCell hb y
theorem set2_size {w : World} {b : Nat} {x y : Value} : ((w.setCell ⟨b, 0, none⟩ x).setCell ⟨b, 1, none⟩ y).heap.size = w.heap.size := by simp [World.setCell]
theorem TwMem.setO {w wr : World} {za zb oa ob x y : Int} (h : TwMem w wr za zb oa ob) : TwMem w ((wr.setCell ⟨w.heap.size + 1 + 1, 0, none⟩ (.int .i64 x)).setCell ⟨w.heap.size + 1 + 1, 1, none⟩ (.int .i64 y)) za zb x y := by
  obtain ⟨a0, a1, o0, o1, r0, r1, fa0, fa1, fo0, fo1, fr0, fr1, hsz, hbel⟩ := h
  have k := set2_cell (x := .int .i64 x) (y := .int .i64 y) o0 o1
  refine ⟨?_, ?_, k.1, k.2, ?_, ?_, ?_, ?_, ?_, ?_, ?_, ?_, by rw [set2_size]; exact hsz, set2_below hbel (by omega)⟩
  · rw [set2_other (by omega)]; exact a0
  · rw [set2_other (by omega)]; exact a1
  · rw [set2_other (by omega)]; exact r0
  · rw [set2_other (by omega)]; exact r1
  all_goals simp only [World.frozen?_setCell]; assumption
theorem TwMem.setA {w wr : World} {za zb oa ob x y : Int} (h : TwMem w wr za zb oa ob) : TwMem w ((wr.setCell ⟨w.heap.size, 0, none⟩ (.int .i64 x)).setCell ⟨w.heap.size, 1, none⟩ (.int .i64 y)) x y oa ob := by
  obtain ⟨a0, a1, o0, o1, r0, r1, fa0, fa1, fo0, fo1, fr0, fr1, hsz, hbel⟩ := h
  have k := set2_cell (x := .int .i64 x) (y := .int .i64 y) a0 a1
  refine ⟨k.1, k.2, ?_, ?_, ?_, ?_, ?_, ?_, ?_, ?_, ?_, ?_, by rw [set2_size]; exact hsz, set2_below hbel (by omega)⟩
  · rw [set2_other (by omega)]; exact o0
  · rw [set2_other (by omega)]; exact o1
  · rw [set2_other (by omega)]; exact r0
  · rw [set2_other (by omega)]; exact r1
  all_goals simp only [World.frozen?_setCell]; assumption
theorem TwMem.start (w : World) (a b : Int) : TwMem w (((w.alloc (.cells #[.int .i64 a, .int .i64 b] 102)).alloc (.cells #[.int .i64 0, .int .i64 0] 102)).alloc (.cells #[.int .i64 1, .int .i64 0] 102)) a b 1 0 := by
  refine ⟨?_, ?_, ?_, ?_, ?_, ?_, ?_, ?_, ?_, ?_, ?_, ?_, ?_, balloc (balloc (below_alloc _ _) _) _⟩
  all_goals go_simp
set_option maxRecDepth 100000 in
set_option maxHeartbeats 1000000 in
theorem twinPower_c (a b n : Int) (w : World) (hn : 0 ≤ n) (hm : n ≤ 9223372036854775807) : Calls Tryd.prog 147 #[.agg #[.int .i64 a, .int .i64 b], .int .i64 n] w fun e w' => e = .returned (twR ((zi a b).pow n.toNat)) ∧ Below w.heap.size w w' := by
  go_enter Tryd.func147, Tryd.ntmps147
  go_wp2
  go_loopw [1] (fun m wr => ∃ (n' : Int) (z o : Z) (za zb : Int), m = .int .i64 n' ∧ ZAt ((zi a b).pow n.toNat) z o n' ∧ TwMem w wr za zb (fz o.re) (fz o.im) ∧ Hid (zi za zb = z)) (fun m _ => (intOf m).toNat)
  case atStart =>
    exact ⟨n, zi a b, .one, a, b, rfl, zAt_start _ _ hn hm, TwMem.start w a b, rfl⟩
  case round =>
    obtain ⟨n', z, o, za, zb, rfl, h, hm0, hz⟩ := hrel
    have h1 := (zAt_bd h).1
    have h2 := (zAt_bd h).2
    have hm' := hm0
    obtain ⟨a0, a1, o0, o1, r0, r1, fa0, fa1, fo0, fo1, fr0, fr1, hsz, hbel⟩ := hm'
    by_cases hpos : 0 < n'
    · by_cases hodd : n' % 2 = 1
      · have hb1 : (bits BinOp.and IntKind.i64 n' 1 == 1) = true := by rw [and_one64 n' h1 h2]; simpa using hodd
        go_wp2_with fail
        refine (twinMul_c _ _ _ _ _).mono ?_; rintro e w1 ⟨rfl, hb⟩
        have hm1 := hm0.below hb
        clear hm0 a0 a1 o0 o1 r0 r1 fa0 fa1 fo0 fo1 fr0 fr1 hsz hbel hb
        have hm2 := hm1
        obtain ⟨a0, a1, o0, o1, r0, r1, fa0, fa1, fo0, fo1, fr0, fr1, hsz, hbel⟩ := hm2
        go_wp2_with fail
        refine (twinMul_c _ _ _ _ _).mono ?_; rintro e w2 ⟨rfl, hb2⟩
        have hm3 := (hm1.setO (x := fz ((zi (fz o.re) (fz o.im)).mul (zi za zb)).re) (y := fz ((zi (fz o.re) (fz o.im)).mul (zi za zb)).im)).below hb2
        clear hm1 a0 a1 o0 o1 r0 r1 fa0 fa1 fo0 fo1 fr0 fr1 hsz hbel hb2
        have hm4 := hm3
        obtain ⟨a0, a1, o0, o1, r0, r1, fa0, fa1, fo0, fo1, fr0, fr1, hsz, hbel⟩ := hm4
        go_wp2
        clear a0 a1 o0 o1 r0 r1 fa0 fa1 fo0 fo1 fr0 fr1 hsz hbel
        have hz' := hz.out
        rw [zi_fz, hz'] at hm3
        rw [hz']
        go_roundw
        case rel => exact ⟨n' / 2, z.mul z, o.mul z, _, _, rfl, zAt_odd h hodd, hm3.setA, zi_fz _⟩
        case measure => simp [intOf]; omega
      · have hb1 : (bits BinOp.and IntKind.i64 n' 1 == 1) = false := by rw [and_one64 n' h1 h2]; simpa using hodd
        go_wp2_with fail
        refine (twinMul_c _ _ _ _ _).mono ?_; rintro e w2 ⟨rfl, hb2⟩
        have hm3 := hm0.below hb2
        clear hm0 a0 a1 o0 o1 r0 r1 fa0 fa1 fo0 fo1 fr0 fr1 hsz hbel hb2
        have hm4 := hm3
        obtain ⟨a0, a1, o0, o1, r0, r1, fa0, fa1, fo0, fo1, fr0, fr1, hsz, hbel⟩ := hm4
        go_wp2
        clear a0 a1 o0 o1 r0 r1 fa0 fa1 fo0 fo1 fr0 fr1 hsz hbel
        have hz' := hz.out
        rw [hz']
        go_roundw
        case rel => exact ⟨n' / 2, z.mul z, o, _, _, rfl, zAt_even h (by omega), hm3.setA, zi_fz _⟩
        case measure => simp [intOf]; omega
    · have ho := Lib.hid (zAt_end h (by omega))
      go_wp2
      have k := set2_cell (x := .int .i64 (fz o.re)) (y := .int .i64 (fz o.im)) r0 r1
      have ho := ho.out
      refine bodyPost_ret (v := twR o) (by simp [results, Tryd.results147, go_sem, k.1, k.2]) rfl ⟨by rw [ho], ?_⟩
      exact set2_below hbel (by omega)
end Go.Proofs.YtnlaofapjldciaaDoor
namespace Go.Proofs.YtnlaofapjldciaaDoor
open Go.RowKit
end Go.Proofs.YtnlaofapjldciaaDoor
namespace Go.Proofs.YtnlaofapjldciaaDoor
open Go.RowKit
set_option maxRecDepth 100000
set_option linter.unusedVariables false
set_option linter.unusedSimpArgs false
/-- The package's variable one, where it lies. -/
structure OneAt (w : World) : Prop where
  c0 : w.cell? ⟨1, 0, none⟩ = some (.int .i64 1)
  c1 : w.cell? ⟨1, 1, none⟩ = some (.int .i64 0)
  lt : 1 < w.heap.size
theorem OneAt.below {w w' : World} (h : OneAt w) (hb : Below w.heap.size w w') : OneAt w' :=
  ⟨(hb.cell (p := ⟨1, 0, none⟩) h.lt).trans h.c0, (hb.cell (p := ⟨1, 1, none⟩) h.lt).trans h.c1, Nat.lt_of_lt_of_le h.lt hb.size⟩
/-- A number of the greater field in memory. -/
structure TwAt (w : World) (b : Nat) (z : Z) : Prop where
  c0 : w.cell? ⟨b, 0, none⟩ = some (.int .i64 (fz z.re))
  c1 : w.cell? ⟨b, 1, none⟩ = some (.int .i64 (fz z.im))
  f0 : w.frozen? ⟨b, 0, none⟩ = false
  f1 : w.frozen? ⟨b, 1, none⟩ = false
  lt : b < w.heap.size
theorem TwAt.below {w w' : World} {b : Nat} {z : Z} (h : TwAt w b z) (hb : Below w.heap.size w w') : TwAt w' b z :=
  ⟨(hb.cell (p := ⟨b, 0, none⟩) h.lt).trans h.c0, (hb.cell (p := ⟨b, 1, none⟩) h.lt).trans h.c1, (hb.frozen (p := ⟨b, 0, none⟩) h.lt).trans h.f0, (hb.frozen (p := ⟨b, 1, none⟩) h.lt).trans h.f1, Nat.lt_of_lt_of_le h.lt hb.size⟩
theorem TwAt.set2 {w : World} {b : Nat} {z : Z} (h : TwAt w b z) (v : Z) : TwAt ((w.setCell ⟨b, 0, none⟩ (.int .i64 (fz v.re))).setCell ⟨b, 1, none⟩ (.int .i64 (fz v.im))) b v := by
  have k := set2_cell (x := .int .i64 (fz v.re)) (y := .int .i64 (fz v.im)) h.c0 h.c1
  exact ⟨k.1, k.2, by simp only [World.frozen?_setCell]; exact h.f0, by simp only [World.frozen?_setCell]; exact h.f1, by simpa [World.setCell] using h.lt⟩
theorem cell_else {w : World} {b c o k : Nat} (x : Value) (h : c ≠ b) : (w.setCell ⟨c, o, none⟩ x).cell? ⟨b, k, none⟩ = w.cell? ⟨b, k, none⟩ :=
  by rw [World.cell?_setCell_other (h := fun e => h (congrArg Addr.block e))]
theorem TwAt.other {w : World} {b c o : Nat} {z : Z} (h : TwAt w b z) (x : Value) (hne : c ≠ b) : TwAt (w.setCell ⟨c, o, none⟩ x) b z :=
  ⟨(cell_else x hne).trans h.c0, (cell_else x hne).trans h.c1, by simp only [World.frozen?_setCell]; exact h.f0, by simp only [World.frozen?_setCell]; exact h.f1, by simpa [World.setCell] using h.lt⟩
theorem SpAt.other {w : World} {b c o : Nat} {s : Sp} (h : SpAt w b s) (x : Value) (hne : c ≠ b) : SpAt (w.setCell ⟨c, o, none⟩ x) b s :=
  ⟨(cell_else x hne).trans h.c0, (cell_else x hne).trans h.c1, (cell_else x hne).trans h.c2, by simp only [World.frozen?_setCell]; exact h.f0, by simp only [World.frozen?_setCell]; exact h.f1, by simp only [World.frozen?_setCell]; exact h.f2, by simpa [World.setCell] using h.lt⟩
theorem mul_z (y z : Z) (w : World) : Calls Tryd.prog 128 #[twR y, twR z] w fun e w' => e = .returned (twR (y.mul z)) ∧ Below w.heap.size w w' := by
  have := twinMul_c (fz y.re) (fz y.im) (fz z.re) (fz z.im) w; rw [zi_fz, zi_fz] at this; exact this
theorem power_z (z : Z) (n : Int) (w : World) (h0 : 0 ≤ n) (h1 : n ≤ 9223372036854775807) : Calls Tryd.prog 147 #[twR z, .int .i64 n] w fun e w' => e = .returned (twR (z.pow n.toNat)) ∧ Below w.heap.size w w' := by
  have := twinPower_c (fz z.re) (fz z.im) n w h0 h1; rw [zi_fz] at this; exact this
theorem slope_n (a b : Sp) (w : World) (h : sSlope a b = none) : Calls Tryd.prog 141 #[spV a, spV b] w fun e w' => e = .returned (.tuple #[.int .i64 0, .bool false]) ∧ Below w.heap.size w w' := by
  obtain ⟨x, y, f⟩ := a; obtain ⟨u, v, g⟩ := b
  unfold sSlope at h
  split at h
  · cases h
  · rename_i hx
    have hx' : x = u := Decidable.of_not_not hx
    split at h
    · rename_i hy
      by_cases e : y = v
      · have e0 : y = 0 := by rcases hy with h | h; exact absurd e h; exact h
        exact slope_upright2 x y u v f g w (by simpa using hx') (by simpa using e) (by simpa using e0)
      · exact slope_upright1 x y u v f g w (by simpa using hx') (by simpa using e)
    · cases h
theorem slope_s (a b : Sp) (s : Int) (w : World) (h : sSlope a b = some s) (ha : Ok a) : Calls Tryd.prog 141 #[spV a, spV b] w fun e w' => e = .returned (.tuple #[.int .i64 s, .bool true]) ∧ Below w.heap.size w w' := by
  have y0 := ha.y0; have y1 := ha.y1
  obtain ⟨x, y, f⟩ := a; obtain ⟨u, v, g⟩ := b
  unfold sSlope at h
  split at h
  · rename_i hx
    cases h
    exact slope_unlike x y u v f g w (by simpa using hx)
  · rename_i hx
    have hx' : x = u := Decidable.of_not_not hx
    split at h
    · cases h
    · rename_i hy
      cases h
      exact slope_same x y u v f g w (by simpa using hx') (by simp only [not_or] at hy; simpa using hy.1) (by simp only [not_or] at hy; simpa using hy.2) y0 y1
theorem twR_one : twR .one = .agg #[.int .i64 1, .int .i64 0] := rfl
set_option maxHeartbeats 1000000 in
theorem line_n (a b t : Sp) (w : World) (hO : OneAt w) (h : sSlope a b = none) : Calls Tryd.prog 146 #[spV a, spV b, spV t] w fun e w' => e = .returned (.agg #[.int .i64 1, .int .i64 0]) ∧ Below w.heap.size w w' := by
  go_enter Tryd.func146, Tryd.ntmps146
  go_wp2_with fail
  refine (slope_n a b _ h).mono ?_; rintro e w1 ⟨rfl, hb⟩
  obtain ⟨hc1, hf1⟩ := bcell hb
  have z1 := hb.size
  try simp only [World.size_alloc, World.size_setCell, World.size_drew] at z1
  have s1_0 : w.heap.size < w1.heap.size := by omega
  have s1_1 : w.heap.size + 1 < w1.heap.size := by omega
  have s1_2 : w.heap.size + 1 + 1 < w1.heap.size := by omega
  have s1_3 : w.heap.size + 1 + 1 + 1 < w1.heap.size := by omega
  have hB1 : Below w.heap.size w w1 := below_seq (by repeat (first | exact Below.refl _ _ | refine balloc ?_ _ | refine Below.drew ?_ | refine below_drewN ?_ _ | refine below_set ?_ (by first | omega | (dsimp only; omega)) _)) hb
  clear hb
  have hO1 := hO.below hB1
  obtain ⟨q0, q1, ql⟩ := hO
  have q2 : 0 < w.heap.size := Nat.lt_of_le_of_lt (Nat.zero_le _) ql
  obtain ⟨o0, o1, ol⟩ := hO1
  have r0 : w1.cell? ⟨w.heap.size + 1 + 1 + 1, 0, none⟩ = some (.int .i64 0) := by go_simp
  have r1 : w1.cell? ⟨w.heap.size + 1 + 1 + 1, 1, none⟩ = some (.int .i64 0) := by go_simp
  go_wp2
  have k := set2_cell (w := w1) (x := .int .i64 1) (y := .int .i64 0) r0 r1
  refine bodyPost_ret (v := .agg #[.int .i64 1, .int .i64 0]) (by simp [results, Tryd.results146, go_sem, k.1, k.2]) rfl ⟨rfl, set2_below (by repeat (first | exact hB1 | exact Below.refl _ _ | refine balloc ?_ _ | refine Below.drew ?_ | refine below_drewN ?_ _ | refine below_set ?_ (by first | omega | (dsimp only; omega)) _)) (by omega)⟩
theorem agg2_eq {a b c d : Int} (h : a = c) (k : b = d) : Ending.returned (.agg #[.int .i64 a, .int .i64 b]) = .returned (.agg #[.int .i64 c, .int .i64 d]) := by rw [h, k]
theorem line_alg (a t : Sp) (s : Int) (ht : 0 ≤ t.y ∧ t.y < 4051) : pSub (pMul s (t.x + a.x)) a.y = fz (⟨fi s * (fi t.x + fi a.x) - fi a.y, fi t.y⟩ : Z).re ∧ t.y = fz (⟨fi s * (fi t.x + fi a.x) - fi a.y, fi t.y⟩ : Z).im :=
  ⟨fz_eq (r_pSub _ _) (by rw [fi_pSub, fi_pMul, fi_add]), fz_eq ht rfl⟩
set_option maxHeartbeats 1000000 in
theorem line_s (a b t : Sp) (s : Int) (w : World) (h : sSlope a b = some s) (ha : Ok a) (ht : Ok t) : Calls Tryd.prog 146 #[spV a, spV b, spV t] w fun e w' => e = .returned (twR (zLine a b t)) ∧ Below w.heap.size w w' := by
  have hz : Hid (zLine a b t = ⟨fi s * (fi t.x + fi a.x) - fi a.y, fi t.y⟩) := by show _ = _; unfold zLine; rw [h]
  have hl := Lib.hid (line_alg a t s ⟨ht.y0, ht.y1⟩)
  have e1 : IntKind.i64.wrap (t.x + a.x) = t.x + a.x := IntWalk.i64_in _ (by have := ha.x0; have := ha.x1; have := ht.x0; have := ht.x1; omega)
  go_enter Tryd.func146, Tryd.ntmps146
  go_wp2_with fail
  refine (slope_s a b s _ h ha).mono ?_; rintro e w1 ⟨rfl, hb⟩
  obtain ⟨hc1, hf1⟩ := bcell hb
  have z1 := hb.size
  try simp only [World.size_alloc, World.size_setCell, World.size_drew] at z1
  have s1_0 : w.heap.size < w1.heap.size := by omega
  have s1_1 : w.heap.size + 1 < w1.heap.size := by omega
  have s1_2 : w.heap.size + 1 + 1 < w1.heap.size := by omega
  have s1_3 : w.heap.size + 1 + 1 + 1 < w1.heap.size := by omega
  have hB1 : Below w.heap.size w w1 := below_seq (by repeat (first | exact Below.refl _ _ | refine balloc ?_ _ | refine Below.drew ?_ | refine below_drewN ?_ _ | refine below_set ?_ (by first | omega | (dsimp only; omega)) _)) hb
  clear hb
  go_wp2_with fail
  refine wp_region_grow_tail 13 Tryd.mixed (by kernel_rfl) ?_
  simp only [List.take_succ_cons, List.take_zero, List.drop_succ_cons, List.drop_zero]
  repeat (quiet_step ((first | (go_at_call 140; exact grow_same (primeMul_c _ _ _)) | (go_at_call 142; exact grow_same (primeSub_c _ _ _)))))
  refine wpQuiet_nil ?_
  intro _ hw'
  obtain ⟨x2, rfl⟩ := hw'
  have z2 := x2.h.size
  try simp only [World.size_alloc, World.size_setCell, World.size_drew] at z2
  have s2_0 : w.heap.size < x2.w.heap.size := by omega
  have s2_1 : w.heap.size + 1 < x2.w.heap.size := by omega
  have s2_2 : w.heap.size + 1 + 1 < x2.w.heap.size := by omega
  have s2_3 : w.heap.size + 1 + 1 + 1 < x2.w.heap.size := by omega
  have hB2 : Below w.heap.size w x2.w := below_seq (by repeat (first | exact hB1 | exact Below.refl _ _ | refine balloc ?_ _ | refine Below.drew ?_ | refine below_drewN ?_ _ | refine below_set ?_ (by first | omega | (dsimp only; omega)) _)) x2.h
  have r0 : x2.w.cell? ⟨w.heap.size + 1 + 1 + 1, 0, none⟩ = some (.int .i64 0) := by go_simp
  have r1 : x2.w.cell? ⟨w.heap.size + 1 + 1 + 1, 1, none⟩ = some (.int .i64 0) := by go_simp
  clear e1
  go_wp2
  have k := set2_cell (w := x2.w) (x := .int .i64 (pSub (pMul s (t.x + a.x)) a.y)) (y := .int .i64 t.y) r0 r1
  refine bodyPost_ret (v := .agg #[.int .i64 (pSub (pMul s (t.x + a.x)) a.y), .int .i64 t.y]) (by simp [results, Tryd.results146, go_sem, k.1, k.2]) rfl ⟨?_, set2_below (by repeat (first | exact hB2 | exact Below.refl _ _ | refine balloc ?_ _ | refine Below.drew ?_ | refine below_drewN ?_ _ | refine below_set ?_ (by first | omega | (dsimp only; omega)) _)) (by omega)⟩
  rw [hz.out]
  exact agg2_eq hl.out.1 hl.out.2
theorem line_c (a b t : Sp) (w : World) (hO : OneAt w) (ha : Ok a) (ht : Ok t) : Calls Tryd.prog 146 #[spV a, spV b, spV t] w fun e w' => e = .returned (twR (zLine a b t)) ∧ Below w.heap.size w w' := by
  cases h : sSlope a b with
  | none =>
    have e : zLine a b t = .one := by unfold zLine; rw [h]
    rw [e]; exact line_n a b t w hO h
  | some s => exact line_s a b t s w h ha ht
set_option maxHeartbeats 1000000 in
theorem len_c (w : World) : Calls Tryd.prog 145 #[.int .u64 1013] w fun e w' => e = .returned (.int .i64 10) ∧ Below w.heap.size w w' := by
  go_enter Tryd.func145, Tryd.ntmps145
  go_wp2
  go_ret
  exact ⟨by kernel_rfl, Below.refl _ _⟩
end Go.Proofs.YtnlaofapjldciaaDoor
namespace Go.Proofs.YtnlaofapjldciaaDoor
open Go.RowKit
set_option maxRecDepth 100000
set_option linter.unusedVariables false
set_option linter.unusedSimpArgs false
theorem take_snoc {α : Type} (l : List α) (n : Nat) (h : n < l.length) : l.take (n + 1) = l.take n ++ [l[n]] := by
  rw [List.take_add_one, List.getElem?_eq_getElem h]; rfl
set_option maxHeartbeats 4000000 in
theorem coefs_c (l : List Sp) (v : Value) (w : World) (hF : FarAt w) (hl : l.length ≤ 12) (hs : SpSl w v l) (hok : ∀ z ∈ l, Ok z) :
    Calls Tryd.prog 47 #[v] w fun e w' => ∃ v', e = .returned (.tuple #[v', .nilIface]) ∧ IntSl w' v' (cfs l) ∧ Below w.heap.size w w' := by
  have hL := fun w hF hs => list_sl l v w hF hl hs hok
  obtain ⟨a, cap, rfl, h0⟩ := hs
  have hL := Lib.hid (hL w hF ⟨a, cap, rfl, h0⟩)
  have hok' := Lib.hid hok
  have hlen := cfs_len l
  have hcf : Hid (∀ i (h : i < l.length) (h2 : i < (cfs l).length), (cfs l)[i] = hnum (lsB l.length l ++ sBytes l[i]).data.toList) := Lib.hid (fun i h _ => cfs_get l i h)
  have hz := lsB_size l.length l
  generalize hcs : cfs l = cs at *
  clear hok
  go_enter Tryd.func47, Tryd.ntmps47
  go_wp2_with fail
  refine hL.out.mono ?_; rintro e w0 ⟨rfl, hb0⟩
  clear hL
  have hs0 : Hid (0 < l.length → ∃ b off, a = some ⟨b, off, none⟩ ∧ SpotsAt w0 b off l) := Lib.hid (fun hp => by obtain ⟨b, off, e, hs⟩ := h0 hp; exact ⟨b, off, e, hs.below hb0⟩)
  clear h0 hF
  replace hb0 := Lib.hid hb0
  generalize hall : lsB l.length l = all at *
  replace hall := Lib.hid hall
  go_wp2
  go_loopw [6, 19] (fun o i wr => ∃ (n : Nat) (u : Value), n ≤ l.length ∧ i = .int .i64 n ∧ u = o ∧ wr.ownsRow w0.heap.size 3 1 u n ((cs.take n).map (Value.int .i64)) ∧ Below w0.heap.size w0 wr) (fun _ i _ => l.length - (intOf i).toNat)
  case atStart => exact ⟨0, _, Nat.zero_le _, rfl, rfl, World.ownsRow_nil _ _ _ _, Below.refl _ _⟩
  case round =>
    obtain ⟨n, u, hn, rfl, rfl, hown, hb⟩ := hrel
    replace hown := Lib.hid hown
    replace hb := Lib.hid hb
    by_cases hlt : n < l.length
    · obtain ⟨b, off, rfl, hsr⟩ := hs0.out (by omega)
      have hsr := hsr.below hb.out
      have h1 := hsr.cx n hlt
      have h2 := hsr.cy n hlt
      have h3 := hsr.cf n hlt
      have ho := hok'.out _ (List.getElem_mem hlt)
      have hc := hcf.out n hlt (by omega)
      have hsn := take_snoc cs n (by omega)
      have hz2 := sBytes_size l[n]
      rw [hc] at hsn
      have hlr := hb.out.size
      have htl : (cs.take n).length = n := by rw [List.length_take]; omega
      clear hsr hs0 hok' hcf hc
      generalize hA : l[n] = A at *
      clear hA
      obtain ⟨c, hc⟩ : ∃ c, hnum (all ++ sBytes A).data.toList = c := ⟨_, rfl⟩
      rw [hc] at hsn
      replace hsn := Lib.hid hsn
      replace hc := Lib.hid hc
      replace htl := Lib.hid htl
      go_wp2_with fail
      refine (bytesOf_c A _ ho).mono ?_; rintro e w1 ⟨rfl, hb1⟩
      have ow1 := Lib.hid (own_below (hown.out.alloc _) hb1)
      have hB1 := Lib.hid (below_seq (balloc hb.out _) hb1)
      have hs1 := hb1.size
      simp only [World.size_alloc] at hs1
      clear hown hb hb1
      go_wp2_with fail
      refine (hashNumber_n (all ++ sBytes A) c _ (by rw [ByteArray.size_append]; omega) hc).mono ?_; rintro e w2 ⟨rfl, hb2⟩
      have ow2 := Lib.hid (own_below ow1.out hb2)
      have hB2 := Lib.hid (below_seq hB1.out hb2)
      have hs2 := hb2.size
      clear ow1 hB1 hb2
      go_wp2_with (first | (at_builtin; refine wpl_append_int rfl _ _ _ rfl (by kernel_rfl) w0.heap.size _ (cs.take n) n rfl (ow2.out.alloc _) htl.out (by omega) (by simp only [World.size_alloc]; omega) w2.heap.size c rfl (by go_simp) ?_; intro v' w3 hown' hgrow hbel hloc; replace hown' := Lib.hid hown'; replace hbel := Lib.hid (hbel w0 (balloc hB2.out _)); clear hgrow hloc ow2 hB2) | fail)
      go_wp2
      go_roundw
      case rel => exact ⟨n + 1, _, by omega, by go_num, rfl, by rw [hsn.out]; exact hown'.out, hbel.out⟩
      case measure => simp [intOf]; omega
    · obtain rfl : n = l.length := by omega
      have hI : Hid (IntSl wr u cs) := Lib.hid (own_ints (by have := hown.out; rw [List.take_of_length_le (by omega)] at this; exact this) hlen.symm)
      go_wp2
      go_ret2
      exact ⟨_, rfl, hI.out, below_seq hb0.out hb.out⟩
set_option maxHeartbeats 4000000 in
theorem joint_c (us : List Int) (l : List Sp) (v : Value) (J : Sp) (w : World) (hF : FarAt w) (hl : l.length ≤ 12) (hs : SpSl w v l) (hu : Hid (l = us.map sq)) (hJ : Hid (sq (dot us (cfs l)) = J)) :
    Calls Tryd.prog 48 #[v] w fun e w' => e = .returned (.tuple #[spV J, .nilIface]) ∧ Below w.heap.size w w' := by
  have hok : ∀ z ∈ l, Ok z := by rw [hu.out]; intro z hz; obtain ⟨u, -, rfl⟩ := List.mem_map.mp hz; exact sq_ok u
  have hC := Lib.hid (fun (w : World) hF hs => coefs_c l v w hF hl hs hok)
  clear hok
  have hul : us.length = l.length := by rw [hu.out, List.length_map]
  have hue : ∀ i (h1 : i < l.length) (h2 : i < us.length), l[i] = sq us[i] := by
    intro i h1 h2
    have := hu.out
    subst this
    rw [List.getElem_map]
  replace hue := Lib.hid hue
  have hlen := cfs_len l
  have hbd := Lib.hid (cfs_bd l)
  generalize cfs l = cs at *
  obtain ⟨a, cap, rfl, h0⟩ := hs
  replace h0 := Lib.hid h0
  clear hu
  go_enter Tryd.func48, Tryd.ntmps48
  go_wp2_with fail
  refine (hC.out _ (hF.below (below_alloc _ _)) ⟨a, cap, rfl, fun hp => by obtain ⟨b, off, e, hs⟩ := h0.out hp; exact ⟨b, off, e, hs.below (below_alloc _ _)⟩⟩).mono ?_; rintro e w1 ⟨v', rfl, hi, hb1⟩
  obtain ⟨ac, cc, rfl, hi⟩ := hi
  clear hC
  have hR := Lib.hid ((SpAt.fresh w 0 0 false 24).below hb1)
  have hB1 := Lib.hid (below_seq (below_alloc w (.cells #[.int .i64 0, .int .i64 0, .bool false] 24)) hb1)
  have hF1 := Lib.hid (hF.below hB1.out)
  have h1 : Hid (0 < l.length → ∃ b off, a = some ⟨b, off, none⟩ ∧ SpotsAt w1 b off l) := Lib.hid (fun hp => by obtain ⟨b, off, e, hs⟩ := h0.out hp; exact ⟨b, off, e, hs.below hB1.out⟩)
  replace hi := Lib.hid hi
  clear h0 hF hb1
  obtain ⟨q0, q1, q2, ql⟩ := hF1.out
  go_wp2
  clear q0 q1 q2 ql
  have hO := Lib.hid (SpAt.fresh w1 0 0 true 24)
  have hB2 := Lib.hid (below_alloc w1 (.cells #[.int .i64 0, .int .i64 0, .bool true] 24))
  generalize w1.alloc (.cells #[.int .i64 0, .int .i64 0, .bool true] 24) = w2 at *
  go_loopw [21] (fun i wr => ∃ n : Nat, n ≤ l.length ∧ i = .int .i64 n ∧ SpAt wr w1.heap.size (sq (dot (us.take n) cs)) ∧ Below w1.heap.size w1 wr) (fun i _ => l.length - (intOf i).toNat)
  case atStart => exact ⟨0, Nat.zero_le _, rfl, by rw [List.take_zero, dot_nil, sq_zero]; exact hO.out, hB2.out⟩
  case round =>
    clear hO hB2
    obtain ⟨n, hn, rfl, hP, hb⟩ := hrel
    replace hP := Lib.hid hP
    replace hb := Lib.hid hb
    by_cases hlt : n < l.length
    · obtain ⟨b, off, rfl, hsr⟩ := h1.out (by omega)
      obtain ⟨bc, oc, rfl, hic⟩ := hi.out (by omega)
      have hsr := hsr.below hb.out
      have l1 := hsr.cx n hlt
      have l2 := hsr.cy n hlt
      have l3 := hsr.cf n hlt
      have hic := hic.below hb.out
      have l4 := hic.c n (by omega)
      have l5 := hic.lt
      have hA := hue.out n hlt (by omega)
      have hd := dot_snoc us cs n (by omega) (by omega)
      have hlw := hb.out.size
      have hlr := hP.out.lt
      clear hsr hic
      generalize l[n] = A at *
      generalize us[n] = u at *
      generalize cs[n] = c at *
      replace hd := Lib.hid hd
      replace hA := Lib.hid hA
      obtain ⟨C, hCe⟩ : ∃ C, sq (u * c) = C := ⟨_, rfl⟩
      obtain ⟨D, hD⟩ : ∃ D, sSum (sq (dot (us.take n) cs)) C = D := ⟨_, rfl⟩
      have oP := sq_ok (dot (us.take n) cs)
      have hDe : Hid (sq (dot (us.take (n + 1)) cs) = D) := by rw [hd.out, ← sq_add, hCe]; exact hD
      generalize sq (dot (us.take n) cs) = P at *
      have oC : Ok C := by rw [← hCe]; exact sq_ok _
      replace hCe := Lib.hid hCe
      replace hD := Lib.hid hD
      obtain ⟨p0, p1, p2, p3, p4, p5, -⟩ := hP.out
      have hFr := Lib.hid (hF1.out.below hb.out)
      have hBr := Lib.hid (below_seq hB1.out hb.out)
      go_wp2_with fail
      refine wp_region_grow_tail 8 Tryd.mixed (by kernel_rfl) ?_
      simp only [List.take_succ_cons, List.take_zero, List.drop_succ_cons, List.drop_zero]
      repeat (quiet_step (first | (go_at_call 102; exact grow_of (of_e A C u c _ (hFr.out.below (below_seq (below_alloc _ _) (Grew.h _))) hA hCe)) | (go_at_call 107; exact grow_of (sum_e P C D _ (hFr.out.below (below_seq (below_alloc _ _) (Grew.h _))) oP oC hD))))
      refine wpQuiet_nil ?_
      intro _ hw'
      obtain ⟨x, rfl⟩ := hw'
      have hx := Lib.hid (below_seq (below_alloc _ _) x.h)
      have hP2 := hP.out.below hx.out
      clear p0 p1 p2 p3 p4 p5 l1 l2 l3 l4 l5
      obtain ⟨p0, p1, p2, p3, p4, p5, p6⟩ := hP2
      go_wp2
      go_roundw
      case rel => exact ⟨n + 1, by omega, by go_num, by rw [hDe.out]; exact (hP.out.below hx.out).set3 D, set3_below (below_seq hb.out hx.out) (Nat.le_refl _)⟩
      case measure => simp [intOf]; omega
    · obtain rfl : n = l.length := by omega
      have hPJ : sq (dot (us.take l.length) cs) = J := by rw [List.take_of_length_le (by omega)]; exact hJ.out
      rw [hPJ] at hP
      obtain ⟨p0, p1, p2, p3, p4, p5, -⟩ := hP.out
      have hR2 := hR.out.below hb.out
      obtain ⟨r0, r1, r2, f0, f1, f2, -⟩ := hR2
      have hBr := Lib.hid (below_seq hB1.out hb.out)
      go_wp2
      have k := set3_cell (w := wr) (x := .int .i64 J.x) (y := .int .i64 J.y) (z := .bool J.far) r0 r1 r2
      refine bodyPost_ret (v := .tuple #[spV J, .nilIface]) (by simp [results, Tryd.results48, go_sem, k.1, k.2.1, k.2.2]) rfl ⟨rfl, set3_below hBr.out (Nat.le_refl _)⟩
end Go.Proofs.YtnlaofapjldciaaDoor
namespace Go.Proofs.YtnlaofapjldciaaDoor
open Go.RowKit
set_option maxRecDepth 100000
set_option linter.unusedVariables false
set_option linter.unusedSimpArgs false
/-- The error, as nothing or something. -/
theorem errV_0 : errV 0 = .nilIface := rfl
theorem groupF_0 {xs ks : List Int} {n : Nat} (h : groupF xs ks n = 0) : xs.length ≤ 12 ∧ ks.length = xs.length ∧ (∀ i (h : i < xs.length), 1 ≤ xs[i] ∧ xs[i] < 1013) ∧ (∀ i (h : i < ks.length), 1 ≤ ks[i] ∧ ks[i] < 1013) ∧ n ≤ 60 := by
  unfold groupF at h
  split at h
  · exact absurd h (by decide)
  split at h
  · exact absurd h (by decide)
  split at h
  · rename_i g1 g2 g3
    rw [Bool.and_eq_true] at g3
    split at h
    · exact absurd h (by decide)
    · exact ⟨by omega, by omega, fun i hi => okB_y (all_get g3.1 i hi), fun i hi => okB_y (all_get g3.2 i hi), by omega⟩
  · exact absurd h (by decide)
/-- A block of four cells, a seal's, all zero. -/
structure Z4 (w : World) (b : Nat) : Prop where
  c0 : w.cell? ⟨b, 0, none⟩ = some (.int .i64 0)
  c1 : w.cell? ⟨b, 1, none⟩ = some (.int .i64 0)
  c2 : w.cell? ⟨b, 2, none⟩ = some (.bool false)
  c3 : w.cell? ⟨b, 3, none⟩ = some (.int .i64 0)
  f0 : w.frozen? ⟨b, 0, none⟩ = false
  f1 : w.frozen? ⟨b, 1, none⟩ = false
  f2 : w.frozen? ⟨b, 2, none⟩ = false
  f3 : w.frozen? ⟨b, 3, none⟩ = false
  lt : b < w.heap.size
theorem Z4.below {w w' : World} {b : Nat} (h : Z4 w b) (hb : Below w.heap.size w w') : Z4 w' b := by
  obtain ⟨k, k'⟩ := bcell hb
  exact ⟨(k _ _ h.lt).trans h.c0, (k _ _ h.lt).trans h.c1, (k _ _ h.lt).trans h.c2, (k _ _ h.lt).trans h.c3, (k' _ _ h.lt).trans h.f0, (k' _ _ h.lt).trans h.f1, (k' _ _ h.lt).trans h.f2, (k' _ _ h.lt).trans h.f3, Nat.lt_of_lt_of_le h.lt hb.size⟩
theorem Z4.fresh (w : World) (t : TypeId) : Z4 (w.alloc (.cells #[.int .i64 0, .int .i64 0, .bool false, .int .i64 0] t)) w.heap.size := ⟨by simp, by simp, by simp, by simp, by simp, by simp, by simp, by simp, by simp⟩
theorem mul_1 {a b : Int} (h0 : 0 ≤ a) (h1 : a < 1013) (k0 : 0 ≤ b) (k1 : b < 1013) : 0 ≤ a * b ∧ a * b ≤ 1024144 :=
  ⟨Int.mul_nonneg h0 k0, Int.le_trans (Int.mul_le_mul (show a ≤ 1012 by omega) (show b ≤ 1012 by omega) k0 (by decide)) (by decide)⟩
set_option maxHeartbeats 4000000 in
theorem gsign_n (xs ks : List Int) (v1 v2 : Value) (t : ByteArray) (E : Int) (w : World) (h1 : IntSl w v1 xs) (h2 : IntSl w v2 ks) (m1 : xs.length ≤ 9223372036854775807) (m2 : ks.length ≤ 9223372036854775807) (hz : t.size ≤ 140737488351232) (hE : Hid (groupF xs ks t.size = E)) (h0 : E ≠ 0) :
    Calls Tryd.prog 51 #[v1, v2, .string t] w fun e w' => e = .returned (.tuple #[slV ⟨0, 0, false⟩ 0, .iface 125 (.int .i64 E)]) ∧ Below w.heap.size w w' := by
  have hK := Lib.hid (fun (w : World) h1 h2 => gcheck_e xs ks v1 v2 t E w h1 h2 m1 m2 hz hE)
  simp only [errV, if_neg h0] at hK
  replace h1 := Lib.hid h1
  replace h2 := Lib.hid h2
  clear hE m1 m2
  go_enter Tryd.func51, Tryd.ntmps51
  go_wp2_with fail
  refine (hK.out _ (h1.out.below (by repeat (first | exact Below.refl _ _ | refine balloc ?_ _ | refine Below.drew ?_ | refine below_drewN ?_ _ | refine below_set ?_ (by first | omega | (dsimp only; omega)) _))) (h2.out.below (by repeat (first | exact Below.refl _ _ | refine balloc ?_ _ | refine Below.drew ?_ | refine below_drewN ?_ _ | refine below_set ?_ (by first | omega | (dsimp only; omega)) _)))).mono ?_; rintro e w1 ⟨rfl, hb⟩
  obtain ⟨hc1, hf1⟩ := bcell hb
  have z1 := hb.size
  try simp only [World.size_alloc, World.size_setCell, World.size_drew] at z1
  have s1_0 : w.heap.size < w1.heap.size := by omega
  have hB1 : Below w.heap.size w w1 := below_seq (by repeat (first | exact Below.refl _ _ | refine balloc ?_ _ | refine Below.drew ?_ | refine below_drewN ?_ _ | refine below_set ?_ (by first | omega | (dsimp only; omega)) _)) hb
  clear hb
  have r0 : w1.cell? ⟨w.heap.size, 0, none⟩ = some (.int .i64 0) := by go_simp
  have r1 : w1.cell? ⟨w.heap.size, 1, none⟩ = some (.int .i64 0) := by go_simp
  have r2 : w1.cell? ⟨w.heap.size, 2, none⟩ = some (.bool false) := by go_simp
  have r3 : w1.cell? ⟨w.heap.size, 3, none⟩ = some (.int .i64 0) := by go_simp
  go_wp2
  have k := set4_cell (w := w1) (x := .int .i64 0) (y := .int .i64 0) (z := .bool false) (p := .int .i64 0) r0 r1 r2 r3
  refine bodyPost_ret (v := .tuple #[slV ⟨0, 0, false⟩ 0, .iface 125 (.int .i64 E)]) (by simp [results, Tryd.results51, go_sem, k.1, k.2.1, k.2.2.1, k.2.2.2]) rfl ⟨rfl, set4_below (by repeat (first | exact hB1 | exact Below.refl _ _ | refine balloc ?_ _ | refine Below.drew ?_ | refine below_drewN ?_ _ | refine below_set ?_ (by first | omega | (dsimp only; omega)) _)) (by omega)⟩
set_option maxHeartbeats 8000000 in
theorem gsign_e (xs ks : List Int) (v1 v2 : Value) (t : ByteArray) (l : List Sp) (J R : Sp) (c S : Int) (w : World) (hF : FarAt w) (h1 : IntSl w v1 xs) (h2 : IntSl w v2 ks) (hz : t.size ≤ 140737488351232) (hE : groupF xs ks t.size = 0)
    (hl : Hid (xs.map (fun x => sq (4 * x)) = l)) (hJ : Hid (sq (4 * dot xs (cfs l)) = J)) (hR : Hid (sq (4 * ks.sum) = R)) (hc : Hid (askN R J t.data.toList = c)) (hS : Hid ((ks.sum + c * dot xs (cfs l)) % 1013 = S)) :
    Calls Tryd.prog 51 #[v1, v2, .string t] w fun e w' => e = .returned (.tuple #[slV R S, .nilIface]) ∧ Below w.heap.size w w' := by
  obtain ⟨m1, m2, hx, hk, hz6⟩ := groupF_0 hE
  have hK := Lib.hid (fun (w : World) h1 h2 => gcheck_e xs ks v1 v2 t 0 w h1 h2 (by omega) (by omega) hz hE)
  have hll : l.length = xs.length := by rw [← hl.out, List.length_map]
  have hlu : l = (xs.map (4 * ·)).map sq := by rw [← hl.out, List.map_map]; rfl
  have hok : ∀ z ∈ l, Ok z := by rw [hlu]; intro z hz; obtain ⟨u, -, rfl⟩ := List.mem_map.mp hz; exact sq_ok u
  have hle : Hid (∀ i (h1 : i < xs.length) (h2 : i < l.length), sq (4 * xs[i]) = l[i]) := Lib.hid (by
    intro i h1 h2
    have := hl.out
    subst this
    rw [List.getElem_map])
  have hC := Lib.hid (fun (w : World) v hF hs => coefs_c l v w hF (by omega) hs hok)
  have hJc := Lib.hid (fun (w : World) v hF hs => joint_c (xs.map (4 * ·)) l v J w hF (by omega) hs hlu (by rw [dot_four]; exact hJ.out))
  have oJ : Ok J := by rw [← hJ.out]; exact sq_ok _
  have oR : Ok R := by rw [← hR.out]; exact sq_ok _
  have hcl := cfs_len l
  have hcb := Lib.hid (cfs_bd l)
  have hsb := Lib.hid (sum_bd ks hk)
  have hc0 := hnum_bd ((sBytes R).data.toList ++ ((sBytes J).data.toList ++ t.data.toList))
  rw [show hnum ((sBytes R).data.toList ++ ((sBytes J).data.toList ++ t.data.toList)) = c from hc.out] at hc0
  generalize cfs l = cs at *
  obtain ⟨a1, c1, rfl, h1⟩ := h1
  obtain ⟨a2, c2, rfl, h2⟩ := h2
  replace h1 := Lib.hid h1
  replace h2 := Lib.hid h2
  replace hx := Lib.hid hx
  replace hk := Lib.hid hk
  replace m2 := Lib.hid m2
  clear hE hok hlu hl hz
  obtain ⟨s0, s1⟩ := hsb.out ks.length (Nat.le_refl _)
  rw [List.take_length] at s0 s1
  rw [m2.out] at s1
  obtain ⟨K, hKe⟩ : ∃ K, ks.sum = K := ⟨_, rfl⟩
  rw [hKe] at s0 s1 hR hS
  replace hKe := Lib.hid hKe
  have hF' := Lib.hid hF
  go_enter Tryd.func51, Tryd.ntmps51
  go_wp2_with fail
  refine (hK.out _ ⟨a1, c1, rfl, fun hp => by obtain ⟨b, off, e, hs⟩ := h1.out hp; exact ⟨b, off, e, hs.below (below_alloc _ _)⟩⟩ ⟨a2, c2, rfl, fun hp => by obtain ⟨b, off, e, hs⟩ := h2.out hp; exact ⟨b, off, e, hs.below (below_alloc _ _)⟩⟩).mono ?_; rintro e w1 ⟨rfl, hb⟩
  rw [errV_0]
  have hq1 := Lib.hid ((Z4.fresh w 80).below hb)
  have hB1 := Lib.hid (below_seq (below_alloc w _) hb)
  have hF1 := Lib.hid (hF.below hB1.out)
  have i1 : Hid (0 < xs.length → ∃ b off, a1 = some ⟨b, off, none⟩ ∧ IntsAt w1 b off xs) := Lib.hid (fun hp => by obtain ⟨b, off, e, hs⟩ := h1.out hp; exact ⟨b, off, e, hs.below hB1.out⟩)
  have i2 : Hid (0 < ks.length → ∃ b off, a2 = some ⟨b, off, none⟩ ∧ IntsAt w1 b off ks) := Lib.hid (fun hp => by obtain ⟨b, off, e, hs⟩ := h2.out hp; exact ⟨b, off, e, hs.below hB1.out⟩)
  clear h1 h2 hF hK hb
  go_wp2
  go_loopw [9, 10, 30] (fun o s i wr => ∃ (n : Nat) (u : Value), n ≤ xs.length ∧ i = .int .i64 n ∧ s = .int .i64 ((ks.take n).sum) ∧ u = o ∧ wr.ownsRow w1.heap.size 24 3 u n (spCells (l.take n)) ∧ Below w1.heap.size w1 wr) (fun _ _ i _ => xs.length - (intOf i).toNat)
  case atStart => exact ⟨0, _, Nat.zero_le _, rfl, rfl, rfl, World.ownsRow_nil _ _ _ _, Below.refl _ _⟩
  case round =>
    obtain ⟨n, u, hn, rfl, rfl, rfl, hown, hb⟩ := hrel
    replace hown := Lib.hid hown
    replace hb := Lib.hid hb
    by_cases hlt : n < xs.length
    · obtain ⟨b1, o1, rfl, l1⟩ := i1.out (by omega)
      obtain ⟨b2, o2, rfl, l2⟩ := i2.out (by rw [m2.out]; omega)
      have hlt2 : n < ks.length := by rw [m2.out]; exact hlt
      have m3 := (l1.below hb.out).c n hlt
      have hlw := hb.out.size
      have hcell := Lib.hid (fun w' (hb' : Below w1.heap.size w1 w') => (l2.below hb').c n hlt2)
      have hsn := Lib.hid (sum_snoc ks n hlt2)
      have hln := Lib.hid (take_snoc l n (by omega))
      have hA := Lib.hid (hle.out n hlt (by omega))
      obtain ⟨y1, y2⟩ := hk.out n hlt2
      obtain ⟨g1, g2⟩ := hsb.out n (by omega)
      have htl : Hid ((l.take n).length = n) := Lib.hid (by rw [List.length_take]; omega)
      clear l1 l2
      generalize xs[n] = x at *
      generalize ks[n] = k at *
      generalize l[n] = A at *
      generalize (ks.take n).sum = s at *
      have hFr := Lib.hid (hF1.out.below hb.out)
      go_wp2_with fail
      refine (by_e x A _ hFr.out hA).mono ?_; rintro e w2 ⟨rfl, hb2⟩
      have ow2 := Lib.hid (own_below hown.out hb2)
      have hB2 := Lib.hid (below_seq hb.out hb2)
      have hs2 := hb2.size
      clear hown hb2 m3
      go_wp2_with (first | (at_builtin; refine wpl_append_spot rfl _ _ _ rfl (by kernel_rfl) w1.heap.size _ (l.take n) n rfl (ow2.out.alloc _) htl.out (by omega) (by simp only [World.size_alloc]; omega) w2.heap.size A rfl (by go_simp) (by go_simp) (by go_simp) ?_; intro v' w3 hown' hgrow hbel hloc; replace hown' := Lib.hid hown'; replace hbel := Lib.hid (hbel w1 (balloc hB2.out _)); have hc3 := hcell.out w3 hbel.out; clear hgrow hloc ow2 hB2) | fail)
      go_wp2
      go_roundw
      case rel => exact ⟨n + 1, _, by omega, by go_num, by rw [hsn.out], rfl, by rw [hln.out]; exact hown'.out, hbel.out⟩
      case measure => simp [intOf]; omega
    · obtain rfl : n = xs.length := by omega
      have hSp : Hid (SpSl wr u l) := Lib.hid (own_spots (by have := hown.out; rw [List.take_of_length_le (by omega)] at this; exact this) hll.symm)
      have hse : (ks.take xs.length).sum = K := by rw [← m2.out, List.take_length]; exact hKe.out
      rw [hse]
      have hqr := Lib.hid (hq1.out.below hb.out)
      have hFr := Lib.hid (hF1.out.below hb.out)
      have hBr := Lib.hid (below_seq hB1.out hb.out)
      have ir : Hid (0 < xs.length → ∃ b off, a1 = some ⟨b, off, none⟩ ∧ IntsAt wr b off xs) := Lib.hid (fun hp => by obtain ⟨b, off, e, hs⟩ := i1.out hp; exact ⟨b, off, e, hs.below hb.out⟩)
      clear hown hb hse i1 i2 hq1 hF1 hB1 hsb hk m2 hle hKe
      go_wp2_with fail
      refine (hC.out wr u hFr.out hSp.out).mono ?_; rintro e w2 ⟨cv, rfl, hi, hb2⟩
      have hSp2 := Lib.hid (hSp.out.below hb2)
      have hq2 := Lib.hid (hqr.out.below hb2)
      have hF2 := Lib.hid (hFr.out.below hb2)
      have hB2 := Lib.hid (below_seq hBr.out hb2)
      have i2 : Hid (0 < xs.length → ∃ b off, a1 = some ⟨b, off, none⟩ ∧ IntsAt w2 b off xs) := Lib.hid (fun hp => by obtain ⟨b, off, e, hs⟩ := ir.out hp; exact ⟨b, off, e, hs.below hb2⟩)
      obtain ⟨a3, c3, rfl, i3⟩ := hi
      replace i3 := Lib.hid i3
      clear hSp hqr hFr hBr ir hb2 hC
      go_wp2_with fail
      refine (hJc.out w2 u hF2.out hSp2.out).mono ?_; rintro e w3 ⟨rfl, hb3⟩
      have hb3 := Lib.hid hb3
      have hj := Lib.hid (SpAt.fresh w3 J.x J.y J.far 24)
      have hb3a := Lib.hid (balloc hb3.out (.cells #[.int .i64 J.x, .int .i64 J.y, .bool J.far] 24))
      clear hJc hSp2
      go_wp2_with fail
      refine (by_e K R _ (hF2.out.below hb3a.out) hR).mono ?_; rintro e w4 ⟨rfl, hb4⟩
      have hj4 := hj.out.below hb4
      have hb4 := Lib.hid (below_seq hb3a.out hb4)
      obtain ⟨j0, j1, j2, -, -, -, jl⟩ := hj4
      have hr := Lib.hid (SpAt.fresh w4 R.x R.y R.far 24)
      have hb4a := Lib.hid (balloc hb4.out (.cells #[.int .i64 R.x, .int .i64 R.y, .bool R.far] 24))
      clear hj hb3 hb3a
      go_wp2_with fail
      refine (ask_e R J t c _ oR oJ hz6 hc).mono ?_; rintro e w5 ⟨rfl, hb5⟩
      have hr5 := Lib.hid (hr.out.below hb5)
      have hb5 := Lib.hid (below_seq hb4a.out hb5)
      have hq5 := Lib.hid (hq2.out.below hb5.out)
      have hB5 := Lib.hid (below_seq hB2.out hb5.out)
      have i5 : Hid (0 < xs.length → ∃ b off, a1 = some ⟨b, off, none⟩ ∧ IntsAt w5 b off xs) := Lib.hid (fun hp => by obtain ⟨b, off, e, hs⟩ := i2.out hp; exact ⟨b, off, e, hs.below hb5.out⟩)
      have i6 : Hid (0 < cs.length → ∃ b off, a3 = some ⟨b, off, none⟩ ∧ IntsAt w5 b off cs) := Lib.hid (fun hp => by obtain ⟨b, off, e, hs⟩ := i3.out hp; exact ⟨b, off, e, hs.below hb5.out⟩)
      clear hr hb4 hb4a hb5 hq2 hB2 i2 i3 hF2 j0 j1 j2 jl oR oJ
      go_wp2
      go_loopw [10, 73] (fun s i wr => ∃ (n : Nat) (m : Int), n ≤ xs.length ∧ i = .int .i64 n ∧ s = .int .i64 m ∧ 0 ≤ m ∧ m ≤ 12144 ∧ m % 1013 = (K + c * dot (xs.take n) cs) % 1013 ∧ wr = w5) (fun _ i _ => xs.length - (intOf i).toNat)
      case atStart => exact ⟨0, K, Nat.zero_le _, rfl, rfl, s0, by omega, by rw [List.take_zero, dot_nil, Int.mul_zero, Int.add_zero], rfl⟩
      case round =>
        obtain ⟨n, m, hn, rfl, rfl, m0, m4, hm, hwr⟩ := hrel
        subst hwr
        replace hm := Lib.hid hm
        by_cases hlt : n < xs.length
        · obtain ⟨b1, o1, rfl, l1⟩ := i5.out (by omega)
          obtain ⟨b3, o3, rfl, l3⟩ := i6.out (by omega)
          have k1 := l1.c n hlt
          have k3 := l3.c n (by omega)
          obtain ⟨x1, x2⟩ := hx.out n hlt
          obtain ⟨d1, d2⟩ := hcb.out n (by omega)
          have hd := Lib.hid (dot_snoc xs cs n hlt (by omega))
          clear l1 l3
          generalize xs[n] = x at *
          generalize cs[n] = d at *
          obtain ⟨g1, g2⟩ := mul_1 hc0.1 hc0.2 d1 d2
          have g3 : 0 ≤ c * d % 1013 ∧ c * d % 1013 < 1013 := by omega
          obtain ⟨g4, g5⟩ := mul_1 g3.1 g3.2 (show 0 ≤ x by omega) x2
          have e1 : IntKind.i64.wrap (c * d) = c * d := IntWalk.i64_in _ (by omega)
          have e2 : (c * d).tmod 1013 = c * d % 1013 := Int.tmod_eq_emod_of_nonneg g1
          have e3 : IntKind.i64.wrap (c * d % 1013 * x) = c * d % 1013 * x := IntWalk.i64_in _ (by omega)
          have e4 : IntKind.i64.wrap (m + c * d % 1013 * x) = m + c * d % 1013 * x := IntWalk.i64_in _ (by omega)
          have e5 : (m + c * d % 1013 * x).tmod 1013 = (m + c * d % 1013 * x) % 1013 := Int.tmod_eq_emod_of_nonneg (by omega)
          have hm2 := Lib.hid (turn_go (x := x) (c := d) hm.out)
          go_wp2
          go_roundw
          case rel => exact ⟨n + 1, _, by omega, by go_num, rfl, by omega, by omega, by rw [Int.emod_emod_of_dvd _ (Int.dvd_refl _), hm2.out, hd.out], by first | rfl | trivial⟩
          case measure => simp [intOf]; omega
        · obtain rfl : n = xs.length := by omega
          have hms : m.tmod 1013 = S := by rw [Int.tmod_eq_emod_of_nonneg m0, hm.out, List.take_length]; exact hS.out
          obtain ⟨r0, r1, r2, r3, f0, f1, f2, f3, fl⟩ := hq5.out
          obtain ⟨k0, k1, k2, -, -, -, kl⟩ := hr5.out
          clear hm hx hcb
          go_wp2
          have k := set4_cell (w := wr) (x := .int .i64 R.x) (y := .int .i64 R.y) (z := .bool R.far) (p := .int .i64 S) r0 r1 r2 r3
          refine bodyPost_ret (v := .tuple #[slV R S, .nilIface]) (by simp [results, Tryd.results51, go_sem, k.1, k.2.1, k.2.2.1, k.2.2.2]) rfl ⟨rfl, set4_below hB5.out (Nat.le_refl _)⟩
end Go.Proofs.YtnlaofapjldciaaDoor
namespace Go.Proofs.YtnlaofapjldciaaDoor
open Go.RowKit
set_option maxRecDepth 100000
set_option linter.unusedVariables false
set_option linter.unusedSimpArgs false
set_option maxHeartbeats 1000000 in
theorem refLong_c (s : ByteArray) (w : World) (hs : s.size ≤ 9223372036854775807) : Calls Tryd.prog 109 #[.string s] w fun e w' => e = .returned (.int .i64 (lng s.data.toList)) ∧ Below w.heap.size w w' := by
  have hlen : s.data.toList.length = s.size := rfl
  have HL := Lib.hid hlen; clear hlen
  go_enter Tryd.func109, Tryd.ntmps109
  go_wp2
  go_loop [3, 4] (fun n i => ∃ k : Nat, k ≤ s.size ∧ i = .int .i64 k ∧ n = .int .i64 (lng (s.data.toList.take k))) (fun _ i => s.size - (intOf i).toNat)
  case atStart => exact ⟨0, Nat.zero_le _, rfl, by rw [List.take_zero, lng_nil]⟩
  case round =>
    obtain ⟨k, hk, rfl, rfl⟩ := hrel
    have h1 := (lng_bd (s.data.toList.take k)).1
    have h2 := (lng_bd (s.data.toList.take k)).2
    by_cases hlt : k < s.size
    · have ht : Hid (lng (s.data.toList.take (k + 1)) = (lng (s.data.toList.take k) * 263 + ((s[k]'hlt).toNat : Int) + 1) % 1000003) := lng_take s.data.toList k (by have := HL.out; omega)
      have h3 : (s[k]'hlt).toNat < 256 := UInt8.toNat_lt _
      go_wp2
      go_round
      case rel => exact ⟨k + 1, by omega, by go_num, by rw [ht.out]⟩
      case measure => simp [intOf]; omega
    · go_wp2
      go_ret
      exact ⟨ret_int (by rw [List.take_of_length_le (by have := HL.out; omega)]), (by repeat (first | exact Below.refl _ _ | refine balloc ?_ _ | refine Below.drew ?_ | refine below_drewN ?_ _ | refine below_set ?_ (by first | omega | (dsimp only; omega)) _))⟩
theorem refNumber_c (s : ByteArray) (w : World) (hs : s.size ≤ 9223372036854775807) : Calls Tryd.prog 112 #[.string s] w fun e w' => e = .returned (.int .i64 (hnum s.data.toList)) ∧ Below w.heap.size w w' := by
  have h1 := (lng_bd s.data.toList).1
  have h2 := (lng_bd s.data.toList).2
  go_enter Tryd.func112, Tryd.ntmps112
  go_wp2_with fail
  refine (refLong_c s _ hs).mono ?_; rintro e w1 ⟨rfl, hb⟩
  obtain ⟨hc1, hf1⟩ := bcell hb
  have z1 := hb.size
  try simp only [World.size_alloc, World.size_setCell, World.size_drew] at z1
  have hB1 : Below w.heap.size w w1 := below_seq (by repeat (first | exact Below.refl _ _ | refine balloc ?_ _ | refine Below.drew ?_ | refine below_drewN ?_ _ | refine below_set ?_ (by first | omega | (dsimp only; omega)) _)) hb
  clear hb
  go_wp2
  go_ret
  exact ⟨rfl, (by repeat (first | exact hB1 | exact Below.refl _ _ | refine balloc ?_ _ | refine Below.drew ?_ | refine below_drewN ?_ _ | refine below_set ?_ (by first | omega | (dsimp only; omega)) _))⟩
set_option maxHeartbeats 1000000 in
theorem refOf_c (s : ByteArray) (w : World) (hF : FarAt w) (hs : s.size ≤ 140737488351232) : Calls Tryd.prog 36 #[.string s] w fun e w' => e = .returned (spV (hSpot s.data.toList)) ∧ Below w.heap.size w w' := by
  have hF' := Lib.hid hF
  clear hF
  go_enter Tryd.func36, Tryd.ntmps36
  go_wp2
  go_loopw [3] (fun i wr => ∃ k : Nat, k ≤ 256 ∧ i = .int .i64 k ∧ hGo s.data.toList (256 - k) k = hSpot s.data.toList ∧ SpAt wr w.heap.size ⟨0, 0, false⟩ ∧ Below w.heap.size w wr) (fun i _ => 256 - (intOf i).toNat)
  case atStart => exact ⟨0, by omega, rfl, rfl, SpAt.fresh _ _ _ _ _, below_alloc _ _⟩
  case round =>
    obtain ⟨k, hk, rfl, hgo, hr, hB⟩ := hrel
    have hgo := Lib.hid hgo
    by_cases hlt : k < 256
    · have hcv := conv1 (wr.alloc (.cells #[.int .u8 k] 5)) wr.heap.size k (by go_simp)
      have hsz := strOf1 (k : Int)
      have htb := Lib.hid (text_byte s k)
      have hl0 := (lng_bd (s.data.toList ++ [UInt8.ofNat k])).1
      have hl1 := (lng_bd (s.data.toList ++ [UInt8.ofNat k])).2
      go_wp2_with fail
      refine (refLong_c _ _ (by rw [ByteArray.size_append]; omega)).mono ?_; rintro e w1 ⟨rfl, hb⟩
      rw [htb.out]
      have hr1 := (hr.alloc _).below hb
      have hB1 := below_seq (balloc hB _) hb
      clear hr hb hB hcv
      go_wp2_with fail
      change Calls _ _ #[.int .i64 (hX s.data.toList k)] _ _
      cases hq : isSq (height (hX s.data.toList k))
      · refine (refLift_n _ _ (hX_in _ _) hq).mono ?_; rintro e w2 ⟨rfl, hb⟩
        have hr2 := hr1.below hb
        have hB2 := below_seq hB1 hb
        have hm := Lib.hid (hGo_miss hlt (Or.inl hq))
        clear hr1 hb hB1 hl0 hl1 hq
        go_wp2
        go_roundw
        case rel => exact ⟨k + 1, by omega, by go_num, by rw [← hm.out]; exact hgo.out, hr2.alloc _, balloc hB2 _⟩
        case measure => simp [intOf]; omega
      · refine (refLift_y _ (lifted (hX s.data.toList k)) _ (hX_in _ _) hq rfl).mono ?_; rintro e w2 ⟨rfl, hb⟩
        have hr2 := hr1.below hb
        have hB2 := below_seq hB1 hb
        have hok := lifted_ok (hX_in s.data.toList k) hq
        have hQ := Lib.hid hq
        clear hr1 hb hB1 hl0 hl1 hq
        generalize hL : lifted (hX s.data.toList k) = L at *
        have hL := Lib.hid hL
        go_wp2_with fail
        refine (refFour_c L _ hok).mono ?_; rintro e w3 ⟨rfl, hb⟩
        have hr3 := (hr2.alloc _).below hb
        have hB3 := below_seq (balloc hB2 _) hb
        clear hr2 hb hB2 hok
        cases hf : (sFour L).far
        · have hm : Hid (sFour L = hSpot s.data.toList) := by
            show _ = _
            rw [← hgo.out, hGo_hit hlt hQ.out (by rw [hL.out]; exact hf), hL.out]
          obtain ⟨r0, r1, r2, fr0, fr1, fr2, hrl⟩ := hr3
          generalize hS : sFour L = S at *
          have hS := Lib.hid hS
          go_wp2
          have k := set3_cell (w := w3) (x := .int .i64 S.x) (y := .int .i64 S.y) (z := .bool false) r0 r1 r2
          refine bodyPost_ret (v := spV S) (by simp [results, Tryd.results36, go_sem, k.1, k.2.1, k.2.2, hf, hrl]) rfl ⟨by rw [hm.out], balloc (set3_below hB3 (by omega)) _⟩
        · have hm := Lib.hid (hGo_miss hlt (Or.inr (by rw [hL.out]; exact hf)))
          go_wp2
          go_roundw
          case rel => exact ⟨k + 1, by omega, by go_num, by rw [← hm.out]; exact hgo.out, hr3.alloc _, balloc hB3 _⟩
          case measure => simp [intOf]; omega
    · obtain rfl : k = 256 := by omega
      have hm : Hid (sq 4 = hSpot s.data.toList) := by show _ = _; rw [← hgo.out, hGo_end]
      go_wp2_with fail
      refine (refBase_c _).mono ?_; rintro e w1 ⟨rfl, hb⟩
      have hr1 := hr.below hb
      have hB1 := below_seq hB hb
      clear hr hb hB
      obtain ⟨r0, r1, r2, fr0, fr1, fr2, hrl⟩ := hr1
      go_wp2
      have k := set3_cell (w := w1) (x := .int .i64 (sq 4).x) (y := .int .i64 (sq 4).y) (z := .bool (sq 4).far) r0 r1 r2
      refine bodyPost_ret (v := spV (sq 4)) (by simp [results, Tryd.results36, go_sem, k.1, k.2.1, k.2.2]) rfl ⟨by rw [hm.out], set3_below hB1 (by omega)⟩
end Go.Proofs.YtnlaofapjldciaaDoor
namespace Go.Proofs.YtnlaofapjldciaaDoor
open Go.RowKit
set_option maxRecDepth 100000
set_option linter.unusedVariables false
set_option linter.unusedSimpArgs false
theorem ord_dvd {u n : Int} (d : Int) (h1 : 1 ≤ n) (hn : (sq (u * n)).far = true) (hm : ∀ j : Int, 1 ≤ j → j < n → (sq (u * j)).far = false) : (sq (u * d)).far = true ↔ d % n = 0 := by
  have a := sq_far.mp hn
  constructor
  · intro h
    have b := sq_far.mp h
    by_cases e : d % n = 0
    · exact e
    · exfalso
      have r0 : 0 ≤ d % n := Int.emod_nonneg _ (by omega)
      have r1 : d % n < n := Int.emod_lt_of_pos _ (by omega)
      have k := hm (d % n) (by omega) r1
      have e3 : (u * (d % n)) % 4052 = 0 := by
        have e2 : u * (d % n) = u * d - u * n * (d / n) := by rw [Int.emod_def, Int.mul_sub, Int.mul_assoc]
        obtain ⟨x, hx⟩ := Int.dvd_of_emod_eq_zero a
        obtain ⟨y, hy⟩ := Int.dvd_of_emod_eq_zero b
        rw [e2, hx, hy, Int.mul_assoc, ← Int.mul_sub]; exact Int.mul_emod_right _ _
      rw [sq_far.mpr e3] at k; exact Bool.noConfusion k
  · intro h
    apply sq_far.mpr
    obtain ⟨x, hx⟩ := Int.dvd_of_emod_eq_zero a
    obtain ⟨y, hy⟩ := Int.dvd_of_emod_eq_zero h
    rw [hy, ← Int.mul_assoc, hx, Int.mul_assoc]; exact Int.mul_emod_right _ _
def dNat (m : Nat) : Bool := 4052 % m != 0 || m == 1 || m == 2 || m == 4 || m == 1013 || m == 2026 || m == 4052
theorem d_0 : allB dNat 0 2000 = true := by decide +kernel
theorem d_1 : allB dNat 2000 2053 = true := by decide +kernel
theorem div_52 {n : Int} (h1 : 1 ≤ n) (h : 4052 % n = 0) : n = 1 ∨ n = 2 ∨ n = 4 ∨ n = 1013 ∨ n = 2026 ∨ n = 4052 := by
  have hd : n ≤ 4052 := Int.le_of_dvd (by decide) (Int.dvd_of_emod_eq_zero h)
  have key : dNat n.toNat = true := by
    by_cases c : n < 2000
    · exact allB_at dNat 0 2000 d_0 n.toNat (by omega) (by omega)
    · exact allB_at dNat 2000 2053 d_1 n.toNat (by omega) (by omega)
  have hz : (4052 % n.toNat : Nat) = 0 := by
    have : ((4052 % n.toNat : Nat) : Int) = 0 := by rw [Int.natCast_emod, Int.toNat_of_nonneg (by omega)]; exact h
    omega
  unfold dNat at key
  rw [hz] at key
  simp at key
  omega
theorem ord_is {u n : Int} (h1 : 1 ≤ n) (hn : (sq (u * n)).far = true) (hm : ∀ j : Int, 1 ≤ j → j < n → (sq (u * j)).far = false) : n = ordOf u := by
  have dv := fun d => ord_dvd (u := u) d h1 hn hm
  have full : (sq (u * 4052)).far = true := sq_far.mpr (Int.mul_emod_left _ _)
  have six := div_52 h1 ((dv 4052).mp full)
  unfold ordOf
  simp only [dv]
  rcases six with rfl | rfl | rfl | rfl | rfl | rfl <;> decide
set_option maxHeartbeats 1000000 in
theorem refIn_e (a : Sp) (u : Int) (b : Bool) (w : World) (ha : Hid (a = sq u)) (h : Hid ((sq (u * 1013)).far = b)) : Calls Tryd.prog 123 #[spV a] w fun e w' => e = .returned (.bool b) ∧ Below w.heap.size w w' := by
  subst h
  go_enter Tryd.func123, Tryd.ntmps123
  go_wp2_with fail
  refine (refTimes_e a _ u 1013 _ (by omega) (by omega) ha rfl).mono ?_; rintro e w1 ⟨rfl, hb⟩
  obtain ⟨hc1, hf1⟩ := bcell hb
  have z1 := hb.size
  try simp only [World.size_alloc, World.size_setCell, World.size_drew] at z1
  have s1_0 : w.heap.size < w1.heap.size := by omega
  have hB1 : Below w.heap.size w w1 := below_seq (by repeat (first | exact Below.refl _ _ | refine balloc ?_ _ | refine Below.drew ?_ | refine below_drewN ?_ _ | refine below_set ?_ (by first | omega | (dsimp only; omega)) _)) hb
  clear hb
  go_wp2
  go_ret
  exact ⟨rfl, (by repeat (first | exact hB1 | exact Below.refl _ _ | refine balloc ?_ _ | refine Below.drew ?_ | refine below_drewN ?_ _ | refine below_set ?_ (by first | omega | (dsimp only; omega)) _))⟩
theorem refBase_k (w : World) : Calls Tryd.prog 76 #[] w fun e w' => e = .returned (spV ⟨1189, 3667, false⟩) ∧ Below w.heap.size w w' := by
  have := refBase_c w; rw [sq_4] at this; exact this
end Go.Proofs.YtnlaofapjldciaaDoor
namespace Go.Proofs.YtnlaofapjldciaaDoor
open Go.RowKit
set_option maxRecDepth 100000
set_option linter.unusedVariables false
set_option linter.unusedSimpArgs false
@[go_sem] theorem field_far4 (x y : Value) (f : Bool) (w : World) : Sem.run Tryd.prog (Instr.field 24 (.agg #[x, y, .bool f]) 2) w = .ok (.bool f) w := by kernel_rfl
set_option maxHeartbeats 1000000 in
theorem sealCheck_ok (key R : Sp) (S : Int) (t : ByteArray) (w : World) (hF : FarAt w) (hk : Ok key) (hR : Ok R) (hz : t.size ≤ 60) (s0 : 0 ≤ S) (s1 : S < 1013) :
    Calls Tryd.prog 117 #[spV key, .string t, slV R S] w fun e w' => e = .returned .nilIface ∧ Below w.heap.size w w' := by
  go_enter Tryd.func117, Tryd.ntmps117
  go_wp2_with fail
  refine (text_y t _ hz).mono ?_; rintro e w' ⟨rfl, rfl⟩
  go_wp2_with fail
  refine (all_ok [key, R] _ 0 2 _ (hF.below (by repeat (first | exact Below.refl _ _ | refine balloc ?_ _ | refine Below.drew ?_ | refine below_drewN ?_ _ | refine below_set ?_ (by first | omega | (dsimp only; omega)) _))) (by simp) (spots_two key R _ _ (by simp) (by go_simp) (by go_simp) (by go_simp) (by go_simp) (by go_simp) (by go_simp)) (ok_two hk hR)).mono ?_; rintro e w1 ⟨rfl, hb⟩
  obtain ⟨hc1, hf1⟩ := bcell hb
  have z1 := hb.size
  try simp only [World.size_alloc, World.size_setCell, World.size_drew] at z1
  have s1_0 : w.heap.size < w1.heap.size := by omega
  have s1_1 : w.heap.size + 1 < w1.heap.size := by omega
  have s1_2 : w.heap.size + 1 + 1 < w1.heap.size := by omega
  have hB1 : Below w.heap.size w w1 := below_seq (by repeat (first | exact Below.refl _ _ | refine balloc ?_ _ | refine Below.drew ?_ | refine below_drewN ?_ _ | refine below_set ?_ (by first | omega | (dsimp only; omega)) _)) hb
  clear hb
  go_wp2_with fail
  refine (rest_y S _ s0 s1).mono ?_; rintro e w' ⟨rfl, rfl⟩
  go_wp2
  go_ret
  exact ⟨rfl, (by repeat (first | exact hB1 | exact Below.refl _ _ | refine balloc ?_ _ | refine Below.drew ?_ | refine below_drewN ?_ _ | refine below_set ?_ (by first | omega | (dsimp only; omega)) _))⟩
set_option maxHeartbeats 2000000 in
theorem sealOff_ok (key R B C D E Z : Sp) (a c S : Int) (t : ByteArray) (w : World) (hF : FarAt w) (hk : Ok key) (hR : Ok R) (hz : t.size ≤ 60) (hc : Hid (askN R key t.data.toList = c)) (ha : Hid (key = sq a))
    (hB : Hid (sq (4 * S) = B)) (hC : Hid (sq (a * c) = C)) (hD : Hid (sSum R C = D)) (hE : Hid (sTurned D = E)) (hZ : Hid (sSum B E = Z)) (oB : Ok B) (oC : Ok C) (oD : Ok D) (oE : Ok E) :
    Calls Tryd.prog 118 #[spV key, .string t, slV R S] w fun e w' => e = .returned (spV Z) ∧ Below w.heap.size w w' := by
  go_enter Tryd.func118, Tryd.ntmps118
  go_wp2_with fail
  refine (ask_e R key t c _ hR hk hz hc).mono ?_; rintro e w1 ⟨rfl, hb⟩
  obtain ⟨hc1, hf1⟩ := bcell hb
  have z1 := hb.size
  try simp only [World.size_alloc, World.size_setCell, World.size_drew] at z1
  have s1_0 : w.heap.size < w1.heap.size := by omega
  have s1_1 : w.heap.size + 1 < w1.heap.size := by omega
  have s1_2 : w.heap.size + 1 + 1 < w1.heap.size := by omega
  have hB1 : Below w.heap.size w w1 := below_seq (by repeat (first | exact Below.refl _ _ | refine balloc ?_ _ | refine Below.drew ?_ | refine below_drewN ?_ _ | refine below_set ?_ (by first | omega | (dsimp only; omega)) _)) hb
  clear hb
  go_wp2_with fail
  refine wp_region_grow_tail 11 Tryd.mixed (by kernel_rfl) ?_
  simp only [List.take_succ_cons, List.take_zero, List.drop_succ_cons, List.drop_zero]
  repeat (quiet_step ((first | (go_at_call 83; exact grow_of (by_e S B _ (hF.below (below_seq (by repeat (first | exact hB1 | exact Below.refl _ _ | refine balloc ?_ _ | refine Below.drew ?_ | refine below_drewN ?_ _ | refine below_set ?_ (by first | omega | (dsimp only; omega)) _)) (Grew.h _))) hB)) | (go_at_call 102; exact grow_of (of_e key C a c _ (hF.below (below_seq (by repeat (first | exact hB1 | exact Below.refl _ _ | refine balloc ?_ _ | refine Below.drew ?_ | refine below_drewN ?_ _ | refine below_set ?_ (by first | omega | (dsimp only; omega)) _)) (Grew.h _))) ha hC)) | (go_at_call 131; exact grow_of (turned_e D E _ oD hE)) | (go_at_call_of 107 R.x; exact grow_of (sum_e R C D _ (hF.below (below_seq (by repeat (first | exact hB1 | exact Below.refl _ _ | refine balloc ?_ _ | refine Below.drew ?_ | refine below_drewN ?_ _ | refine below_set ?_ (by first | omega | (dsimp only; omega)) _)) (Grew.h _))) hR oC hD)) | (go_at_call 107; exact grow_of (sum_e B E Z _ (hF.below (below_seq (by repeat (first | exact hB1 | exact Below.refl _ _ | refine balloc ?_ _ | refine Below.drew ?_ | refine below_drewN ?_ _ | refine below_set ?_ (by first | omega | (dsimp only; omega)) _)) (Grew.h _))) oB oE hZ)))))
  refine wpQuiet_nil ?_
  intro _ hw'
  obtain ⟨x2, rfl⟩ := hw'
  have z2 := x2.h.size
  try simp only [World.size_alloc, World.size_setCell, World.size_drew] at z2
  have s2_0 : w.heap.size < x2.w.heap.size := by omega
  have s2_1 : w.heap.size + 1 < x2.w.heap.size := by omega
  have s2_2 : w.heap.size + 1 + 1 < x2.w.heap.size := by omega
  have hB2 : Below w.heap.size w x2.w := below_seq (by repeat (first | exact hB1 | exact Below.refl _ _ | refine balloc ?_ _ | refine Below.drew ?_ | refine below_drewN ?_ _ | refine below_set ?_ (by first | omega | (dsimp only; omega)) _)) x2.h
  have r0 : x2.w.cell? ⟨w.heap.size + 1 + 1, 0, none⟩ = some (.int .i64 0) := by go_simp
  have r1 : x2.w.cell? ⟨w.heap.size + 1 + 1, 1, none⟩ = some (.int .i64 0) := by go_simp
  have r2 : x2.w.cell? ⟨w.heap.size + 1 + 1, 2, none⟩ = some (.bool false) := by go_simp
  go_wp2
  have k := set3_cell (w := x2.w) (x := .int .i64 (Z).x) (y := .int .i64 (Z).y) (z := .bool (Z).far) r0 r1 r2
  refine bodyPost_ret (v := spV (Z)) (by simp [results, Tryd.results118, go_sem, k.1, k.2.1, k.2.2]) rfl ⟨rfl, set3_below (by repeat (first | exact hB2 | exact Below.refl _ _ | refine balloc ?_ _ | refine Below.drew ?_ | refine below_drewN ?_ _ | refine below_set ?_ (by first | omega | (dsimp only; omega)) _)) (by omega)⟩
set_option maxHeartbeats 1000000 in
theorem sealVerify_ok (key R Z : Sp) (S : Int) (b : Bool) (t : ByteArray) (w : World) (hF : FarAt w) (hk : Ok key) (hR : Ok R) (hz : t.size ≤ 60) (s0 : 0 ≤ S) (s1 : S < 1013)
    (hO : Hid (∀ w1 : World, FarAt w1 → Calls Tryd.prog 118 #[spV key, .string t, slV R S] w1 fun e w' => e = .returned (spV Z) ∧ Below w1.heap.size w1 w')) (hb : Z.far = b) :
    Calls Tryd.prog 122 #[spV key, .string t, slV R S] w fun e w' => e = .returned (.tuple #[.bool b, .nilIface]) ∧ Below w.heap.size w w' := by
  subst hb
  go_enter Tryd.func122, Tryd.ntmps122
  go_wp2_with fail
  refine (sealCheck_ok key R S t _ (hF.below (by repeat (first | exact Below.refl _ _ | refine balloc ?_ _ | refine Below.drew ?_ | refine below_drewN ?_ _ | refine below_set ?_ (by first | omega | (dsimp only; omega)) _))) hk hR hz s0 s1).mono ?_; rintro e w1 ⟨rfl, hb⟩
  obtain ⟨hc1, hf1⟩ := bcell hb
  have z1 := hb.size
  try simp only [World.size_alloc, World.size_setCell, World.size_drew] at z1
  have s1_0 : w.heap.size < w1.heap.size := by omega
  have s1_1 : w.heap.size + 1 < w1.heap.size := by omega
  have hB1 : Below w.heap.size w w1 := below_seq (by repeat (first | exact Below.refl _ _ | refine balloc ?_ _ | refine Below.drew ?_ | refine below_drewN ?_ _ | refine below_set ?_ (by first | omega | (dsimp only; omega)) _)) hb
  clear hb
  go_wp2_with fail
  refine (hO.out _ (hF.below (by repeat (first | exact hB1 | exact Below.refl _ _ | refine balloc ?_ _ | refine Below.drew ?_ | refine below_drewN ?_ _ | refine below_set ?_ (by first | omega | (dsimp only; omega)) _)))).mono ?_; rintro e w2 ⟨rfl, hb⟩
  obtain ⟨hc2, hf2⟩ := bcell hb
  have z2 := hb.size
  try simp only [World.size_alloc, World.size_setCell, World.size_drew] at z2
  have s2_0 : w.heap.size < w2.heap.size := by omega
  have s2_1 : w.heap.size + 1 < w2.heap.size := by omega
  have hB2 : Below w.heap.size w w2 := below_seq (by repeat (first | exact hB1 | exact Below.refl _ _ | refine balloc ?_ _ | refine Below.drew ?_ | refine below_drewN ?_ _ | refine below_set ?_ (by first | omega | (dsimp only; omega)) _)) hb
  clear hb
  go_wp2
  go_ret2
  exact ⟨rfl, (by repeat (first | exact hB2 | exact Below.refl _ _ | refine balloc ?_ _ | refine Below.drew ?_ | refine below_drewN ?_ _ | refine below_set ?_ (by first | omega | (dsimp only; omega)) _))⟩
/-- What a seal comes to: of the key sq a and the spot sq r. -/
theorem verify_e (key R : Sp) (a r c S : Int) (b : Bool) (t : ByteArray) (w : World) (hF : FarAt w) (hz : t.size ≤ 60) (s0 : 0 ≤ S) (s1 : S < 1013) (ha : Hid (key = sq a)) (hr : Hid (R = sq r)) (hc : Hid (askN R key t.data.toList = c)) (hb : Hid ((sq (4 * S + -(r + a * c))).far = b)) :
    Calls Tryd.prog 122 #[spV key, .string t, slV R S] w fun e w' => e = .returned (.tuple #[.bool b, .nilIface]) ∧ Below w.heap.size w w' := by
  have oR : Ok R := ok_of hr.out
  have oK : Ok key := ok_of ha.out
  refine sealVerify_ok key R _ S b t w hF oK oR hz s0 s1 (fun w1 hF1 => sealOff_ok key R _ _ (sq (r + a * c)) _ (sq (4 * S + -(r + a * c))) a c S t w1 hF1 oK oR hz hc ha rfl rfl ?_ rfl ?_ (sq_ok _) (sq_ok _) (sq_ok _) (turned_ok (sq_ok _)).1) hb.out
  · show _ = _; rw [hr.out, sq_add]
  · show _ = _; rw [sq_neg, sq_add]
end Go.Proofs.YtnlaofapjldciaaDoor
namespace Go.Proofs.YtnlaofapjldciaaDoor
open Go.RowKit
set_option maxRecDepth 100000
set_option linter.unusedVariables false
set_option linter.unusedSimpArgs false
set_option maxHeartbeats 400000 in
theorem rSecret_y (n : Int) (w : World) (h1 : 1 ≤ n) (h2 : n < 1013) : Calls Tryd.prog 52 #[.int .i64 n] w fun e w' => e = .returned (.bool true) ∧ w = w' := by
  go_enter Tryd.func52, Tryd.ntmps52
  go_wp2
  go_ret
  exact ⟨rfl, rfl⟩
set_option maxHeartbeats 400000 in
theorem rSecret_n (n : Int) (w : World) (h : ¬ (1 ≤ n ∧ n < 1013)) : Calls Tryd.prog 52 #[.int .i64 n] w fun e w' => e = .returned (.bool false) ∧ w = w' := by
  by_cases h1 : 1 ≤ n
  · have h2 : ¬ n < 1013 := fun c => h ⟨h1, c⟩
    clear h
    go_enter Tryd.func52, Tryd.ntmps52
    go_wp2
    go_ret
    exact ⟨rfl, rfl⟩
  · clear h
    go_enter Tryd.func52, Tryd.ntmps52
    go_wp2
    go_ret
    exact ⟨rfl, rfl⟩
set_option maxHeartbeats 400000 in
theorem rRest_y (n : Int) (w : World) (h1 : 0 ≤ n) (h2 : n < 1013) : Calls Tryd.prog 19 #[.int .i64 n] w fun e w' => e = .returned (.bool true) ∧ w = w' := by
  go_enter Tryd.func19, Tryd.ntmps19
  go_wp2
  go_ret
  exact ⟨rfl, rfl⟩
set_option maxHeartbeats 400000 in
theorem rRest_n (n : Int) (w : World) (h : ¬ (0 ≤ n ∧ n < 1013)) : Calls Tryd.prog 19 #[.int .i64 n] w fun e w' => e = .returned (.bool false) ∧ w = w' := by
  by_cases h1 : 0 ≤ n
  · have h2 : ¬ n < 1013 := fun c => h ⟨h1, c⟩
    clear h
    go_enter Tryd.func19, Tryd.ntmps19
    go_wp2
    go_ret
    exact ⟨rfl, rfl⟩
  · clear h
    go_enter Tryd.func19, Tryd.ntmps19
    go_wp2
    go_ret
    exact ⟨rfl, rfl⟩
/-- Both, as Booleans. -/
def secB (n : Int) : Bool := decide (1 ≤ n ∧ n < 1013)
def resB (n : Int) : Bool := decide (0 ≤ n ∧ n < 1013)
theorem rSecret_b (n : Int) (b : Bool) (w : World) (h : Hid (secB n = b)) : Calls Tryd.prog 52 #[.int .i64 n] w fun e w' => e = .returned (.bool b) ∧ w = w' := by
  rw [← h.out]; unfold secB
  by_cases c : 1 ≤ n ∧ n < 1013
  · rw [decide_eq_true c]; exact rSecret_y n w c.1 c.2
  · rw [decide_eq_false c]; exact rSecret_n n w c
theorem rRest_b (n : Int) (b : Bool) (w : World) (h : Hid (resB n = b)) : Calls Tryd.prog 19 #[.int .i64 n] w fun e w' => e = .returned (.bool b) ∧ w = w' := by
  rw [← h.out]; unfold resB
  by_cases c : 0 ≤ n ∧ n < 1013
  · rw [decide_eq_true c]; exact rRest_y n w c.1 c.2
  · rw [decide_eq_false c]; exact rRest_n n w c
theorem refTimes_b (n : Int) (c : Sp) (w : World) (n0 : -9223372036854775808 ≤ n) (n1 : n ≤ 9223372036854775807) (h : Hid (sq (4 * n) = c)) : Calls Tryd.prog 35 #[spV ⟨1189, 3667, false⟩, .int .i64 n] w fun e w' => e = .returned (spV c) ∧ Below w.heap.size w w' :=
  refTimes_e ⟨1189, 3667, false⟩ c 4 n w n0 n1 sq_4.symm h
set_option maxHeartbeats 1000000 in
theorem refBy_e (n : Int) (c : Sp) (w : World) (n0 : -9223372036854775808 ≤ n) (n1 : n ≤ 9223372036854775807) (h : Hid (sq (4 * n) = c)) : Calls Tryd.prog 39 #[.int .i64 n] w fun e w' => e = .returned (spV c) ∧ Below w.heap.size w w' := by
  go_enter Tryd.func39, Tryd.ntmps39
  go_wp2_with fail
  refine (refBase_k _).mono ?_; rintro e w1 ⟨rfl, hb⟩
  obtain ⟨hc1, hf1⟩ := bcell hb
  have z1 := hb.size
  try simp only [World.size_alloc, World.size_setCell, World.size_drew] at z1
  have s1_0 : w.heap.size < w1.heap.size := by omega
  have hB1 : Below w.heap.size w w1 := below_seq (by repeat (first | exact Below.refl _ _ | refine balloc ?_ _ | refine Below.drew ?_ | refine below_drewN ?_ _ | refine below_set ?_ (by first | omega | (dsimp only; omega)) _)) hb
  clear hb
  go_wp2_with fail
  refine (refTimes_b n c _ n0 n1 h).mono ?_; rintro e w2 ⟨rfl, hb⟩
  obtain ⟨hc2, hf2⟩ := bcell hb
  have z2 := hb.size
  try simp only [World.size_alloc, World.size_setCell, World.size_drew] at z2
  have s2_0 : w.heap.size < w2.heap.size := by omega
  have hB2 : Below w.heap.size w w2 := below_seq (by repeat (first | exact hB1 | exact Below.refl _ _ | refine balloc ?_ _ | refine Below.drew ?_ | refine below_drewN ?_ _ | refine below_set ?_ (by first | omega | (dsimp only; omega)) _)) hb
  clear hb
  have r0 : w2.cell? ⟨w.heap.size, 0, none⟩ = some (.int .i64 0) := by go_simp
  have r1 : w2.cell? ⟨w.heap.size, 1, none⟩ = some (.int .i64 0) := by go_simp
  have r2 : w2.cell? ⟨w.heap.size, 2, none⟩ = some (.bool false) := by go_simp
  go_wp2
  have k := set3_cell (w := w2) (x := .int .i64 (c).x) (y := .int .i64 (c).y) (z := .bool (c).far) r0 r1 r2
  refine bodyPost_ret (v := spV (c)) (by simp [results, Tryd.results39, go_sem, k.1, k.2.1, k.2.2]) rfl ⟨rfl, set3_below (by repeat (first | exact hB2 | exact Below.refl _ _ | refine balloc ?_ _ | refine Below.drew ?_ | refine below_drewN ?_ _ | refine below_set ?_ (by first | omega | (dsimp only; omega)) _)) (by omega)⟩
set_option maxHeartbeats 2000000 in
theorem refSum_e (n m u : Int) (s A B C : Sp) (w : World) (n0 : -9223372036854775808 ≤ n) (n1 : n ≤ 9223372036854775807) (m0 : -9223372036854775808 ≤ m) (m1 : m ≤ 9223372036854775807) (hs : Hid (s = sq u)) (hA : Hid (sq (4 * n) = A)) (hB' : Hid (sq (u * m) = B)) (oA : Ok A) (oB : Ok B) (hC : Hid (sSum A B = C)) : Calls Tryd.prog 53 #[.int .i64 n, .int .i64 m, spV s] w fun e w' => e = .returned (spV C) ∧ Below w.heap.size w w' := by
  go_enter Tryd.func53, Tryd.ntmps53
  go_wp2_with fail
  refine (refBase_k _).mono ?_; rintro e w1 ⟨rfl, hb⟩
  obtain ⟨hc1, hf1⟩ := bcell hb
  have z1 := hb.size
  try simp only [World.size_alloc, World.size_setCell, World.size_drew] at z1
  have s1_0 : w.heap.size < w1.heap.size := by omega
  have s1_1 : w.heap.size + 1 < w1.heap.size := by omega
  have hB1 : Below w.heap.size w w1 := below_seq (by repeat (first | exact Below.refl _ _ | refine balloc ?_ _ | refine Below.drew ?_ | refine below_drewN ?_ _ | refine below_set ?_ (by first | omega | (dsimp only; omega)) _)) hb
  clear hb
  go_wp2_with fail
  refine (refTimes_b n A _ n0 n1 hA).mono ?_; rintro e w2 ⟨rfl, hb⟩
  obtain ⟨hc2, hf2⟩ := bcell hb
  have z2 := hb.size
  try simp only [World.size_alloc, World.size_setCell, World.size_drew] at z2
  have s2_0 : w.heap.size < w2.heap.size := by omega
  have s2_1 : w.heap.size + 1 < w2.heap.size := by omega
  have hB2 : Below w.heap.size w w2 := below_seq (by repeat (first | exact hB1 | exact Below.refl _ _ | refine balloc ?_ _ | refine Below.drew ?_ | refine below_drewN ?_ _ | refine below_set ?_ (by first | omega | (dsimp only; omega)) _)) hb
  clear hb
  go_wp2_with fail
  refine (refTimes_e s B u m _ m0 m1 hs hB').mono ?_; rintro e w3 ⟨rfl, hb⟩
  obtain ⟨hc3, hf3⟩ := bcell hb
  have z3 := hb.size
  try simp only [World.size_alloc, World.size_setCell, World.size_drew] at z3
  have s3_0 : w.heap.size < w3.heap.size := by omega
  have s3_1 : w.heap.size + 1 < w3.heap.size := by omega
  have s3_2 : w2.heap.size < w3.heap.size := by omega
  have hB3 : Below w.heap.size w w3 := below_seq (by repeat (first | exact hB2 | exact Below.refl _ _ | refine balloc ?_ _ | refine Below.drew ?_ | refine below_drewN ?_ _ | refine below_set ?_ (by first | omega | (dsimp only; omega)) _)) hb
  clear hb
  have m3_0_0 : w3.cell? ⟨w2.heap.size, 0, none⟩ = some (.int .i64 A.x) := by go_simp
  have m3_0_1 : w3.cell? ⟨w2.heap.size, 1, none⟩ = some (.int .i64 A.y) := by go_simp
  have m3_0_2 : w3.cell? ⟨w2.heap.size, 2, none⟩ = some (.bool A.far) := by go_simp
  go_wp2_with fail
  refine (refAdd_e A B C _ oA oB hC).mono ?_; rintro e w4 ⟨rfl, hb⟩
  obtain ⟨hc4, hf4⟩ := bcell hb
  have z4 := hb.size
  try simp only [World.size_alloc, World.size_setCell, World.size_drew] at z4
  have s4_0 : w.heap.size < w4.heap.size := by omega
  have s4_1 : w.heap.size + 1 < w4.heap.size := by omega
  have s4_2 : w2.heap.size < w4.heap.size := by omega
  have s4_3 : w3.heap.size < w4.heap.size := by omega
  have hB4 : Below w.heap.size w w4 := below_seq (by repeat (first | exact hB3 | exact Below.refl _ _ | refine balloc ?_ _ | refine Below.drew ?_ | refine below_drewN ?_ _ | refine below_set ?_ (by first | omega | (dsimp only; omega)) _)) hb
  clear hb
  have m4_0_0 : w4.cell? ⟨w2.heap.size, 0, none⟩ = some (.int .i64 A.x) := by go_simp
  have m4_0_1 : w4.cell? ⟨w2.heap.size, 1, none⟩ = some (.int .i64 A.y) := by go_simp
  have m4_0_2 : w4.cell? ⟨w2.heap.size, 2, none⟩ = some (.bool A.far) := by go_simp
  have m4_1_0 : w4.cell? ⟨w3.heap.size, 0, none⟩ = some (.int .i64 B.x) := by go_simp
  have m4_1_1 : w4.cell? ⟨w3.heap.size, 1, none⟩ = some (.int .i64 B.y) := by go_simp
  have m4_1_2 : w4.cell? ⟨w3.heap.size, 2, none⟩ = some (.bool B.far) := by go_simp
  clear m3_0_0 m3_0_1 m3_0_2
  have r0 : w4.cell? ⟨w.heap.size + 1, 0, none⟩ = some (.int .i64 0) := by go_simp
  have r1 : w4.cell? ⟨w.heap.size + 1, 1, none⟩ = some (.int .i64 0) := by go_simp
  have r2 : w4.cell? ⟨w.heap.size + 1, 2, none⟩ = some (.bool false) := by go_simp
  go_wp2
  have k := set3_cell (w := w4) (x := .int .i64 (C).x) (y := .int .i64 (C).y) (z := .bool (C).far) r0 r1 r2
  refine bodyPost_ret (v := spV (C)) (by simp [results, Tryd.results53, go_sem, k.1, k.2.1, k.2.2]) rfl ⟨rfl, set3_below (by repeat (first | exact hB4 | exact Below.refl _ _ | refine balloc ?_ _ | refine Below.drew ?_ | refine below_drewN ?_ _ | refine below_set ?_ (by first | omega | (dsimp only; omega)) _)) (by omega)⟩
set_option maxHeartbeats 1000000 in
theorem rAsk_e (r key : Sp) (t : ByteArray) (c : Int) (w : World) (hr : Ok r) (hk : Ok key) (hz : t.size ≤ 60) (h : Hid (askN r key t.data.toList = c)) : Calls Tryd.prog 54 #[spV r, spV key, .string t] w fun e w' => e = .returned (.int .i64 c) ∧ Below w.heap.size w w' := by
  rw [← h.out]
  have z1 := sBytes_size r
  have z2 := sBytes_size key
  have n1 : ¬ (9223372036854775807 < (sBytes r).size + (sBytes key).size) := by omega
  have n2 : ¬ (9223372036854775807 < (sBytes r).size + (sBytes key).size + t.size) := by omega
  have z4 : Hid ((sBytes r ++ sBytes key ++ t).size ≤ 9223372036854775807) := by show _ ≤ _; rw [ByteArray.size_append, ByteArray.size_append]; omega
  go_enter Tryd.func54, Tryd.ntmps54
  go_wp2_with fail
  refine wp_region_grow Tryd.mixed (by kernel_rfl) ?_
  repeat (quiet_step ((first | (go_at_call 113; exact grow_of (refBytes_c _ _ (by assumption))) | (go_at_call 112; exact grow_of (refNumber_c _ _ z4.out)))))
  refine wpQuiet_nil ?_
  intro _ hw'
  obtain ⟨x, rfl⟩ := hw'
  go_wp2
  go_ret
  exact ⟨rfl, below_seq (balloc (below_alloc _ _) _) x.h⟩
end Go.Proofs.YtnlaofapjldciaaDoor
namespace Go.Proofs.YtnlaofapjldciaaDoor
open Go.RowKit
set_option maxRecDepth 100000
set_option linter.unusedVariables false
set_option linter.unusedSimpArgs false
theorem rlist_sl (l : List Sp) (v : Value) (w : World) (hl : l.length ≤ 12) (hs : SpSl w v l) (hok : ∀ z ∈ l, Ok z) :
    Calls Tryd.prog 111 #[v] w fun e w' => e = .returned (.string (lsB l.length l)) ∧ Below w.heap.size w w' := by
  obtain ⟨a, cap, rfl, hs⟩ := hs
  cases l with
  | nil => exact refList_nil a cap w
  | cons s l =>
    obtain ⟨b, off, rfl, hs'⟩ := hs (Nat.succ_pos _)
    exact refList_ok (s :: l) b off cap w hl hs' (Lib.hid fun i h => hok _ (List.getElem_mem h))
theorem refNumber_n (s : ByteArray) (n : Int) (w : World) (hs : s.size ≤ 9223372036854775807) (h : Hid (hnum s.data.toList = n)) : Calls Tryd.prog 112 #[.string s] w fun e w' => e = .returned (.int .i64 n) ∧ Below w.heap.size w w' := by
  rw [← h.out]; exact refNumber_c s w hs
set_option maxHeartbeats 4000000 in
theorem rcoefs_c (l : List Sp) (v : Value) (w : World) (hl : l.length ≤ 12) (hs : SpSl w v l) (hok : ∀ z ∈ l, Ok z) :
    Calls Tryd.prog 45 #[v] w fun e w' => ∃ v', e = .returned v' ∧ IntSl w' v' (cfs l) ∧ Below w.heap.size w w' := by
  have hL := fun w hs => rlist_sl l v w hl hs hok
  obtain ⟨a, cap, rfl, h0⟩ := hs
  have hL := Lib.hid (hL w ⟨a, cap, rfl, h0⟩)
  have hok' := Lib.hid hok
  have hlen := cfs_len l
  have hcf : Hid (∀ i (h : i < l.length) (h2 : i < (cfs l).length), (cfs l)[i] = hnum (lsB l.length l ++ sBytes l[i]).data.toList) := Lib.hid (fun i h _ => cfs_get l i h)
  have hz := lsB_size l.length l
  generalize hcs : cfs l = cs at *
  clear hok
  go_enter Tryd.func45, Tryd.ntmps45
  go_wp2_with fail
  refine hL.out.mono ?_; rintro e w0 ⟨rfl, hb0⟩
  clear hL
  have hs0 : Hid (0 < l.length → ∃ b off, a = some ⟨b, off, none⟩ ∧ SpotsAt w0 b off l) := Lib.hid (fun hp => by obtain ⟨b, off, e, hs⟩ := h0 hp; exact ⟨b, off, e, hs.below hb0⟩)
  clear h0
  replace hb0 := Lib.hid hb0
  generalize hall : lsB l.length l = all at *
  replace hall := Lib.hid hall
  go_wp2
  go_loopw [4, 5] (fun o i wr => ∃ (n : Nat) (u : Value), n ≤ l.length ∧ i = .int .i64 n ∧ u = o ∧ wr.ownsRow w0.heap.size 3 1 u n ((cs.take n).map (Value.int .i64)) ∧ Below w0.heap.size w0 wr) (fun _ i _ => l.length - (intOf i).toNat)
  case atStart => exact ⟨0, _, Nat.zero_le _, rfl, rfl, World.ownsRow_nil _ _ _ _, Below.refl _ _⟩
  case round =>
    obtain ⟨n, u, hn, rfl, rfl, hown, hb⟩ := hrel
    replace hown := Lib.hid hown
    replace hb := Lib.hid hb
    by_cases hlt : n < l.length
    · obtain ⟨b, off, rfl, hsr⟩ := hs0.out (by omega)
      have hsr := hsr.below hb.out
      have h1 := hsr.cx n hlt
      have h2 := hsr.cy n hlt
      have h3 := hsr.cf n hlt
      have h4 := hsr.lt
      have ho := hok'.out _ (List.getElem_mem hlt)
      have hc := hcf.out n hlt (by omega)
      have hsn := take_snoc cs n (by omega)
      have hz2 := sBytes_size l[n]
      rw [hc] at hsn
      have hlr := hb.out.size
      have htl : (cs.take n).length = n := by rw [List.length_take]; omega
      clear hsr hs0 hok' hcf hc
      generalize hA : l[n] = A at *
      clear hA
      obtain ⟨c, hc⟩ : ∃ c, hnum (all ++ sBytes A).data.toList = c := ⟨_, rfl⟩
      rw [hc] at hsn
      replace hsn := Lib.hid hsn
      replace hc := Lib.hid hc
      replace htl := Lib.hid htl
      go_wp2_with fail
      refine (refBytes_c A _ ho).mono ?_; rintro e w1 ⟨rfl, hb1⟩
      have ow1 := Lib.hid (own_below hown.out hb1)
      have hB1 := Lib.hid (below_seq hb.out hb1)
      have hs1 := hb1.size
      clear hown hb hb1 h1 h2 h3 h4
      go_wp2_with fail
      refine (refNumber_n (all ++ sBytes A) c _ (by rw [ByteArray.size_append]; omega) hc).mono ?_; rintro e w2 ⟨rfl, hb2⟩
      have ow2 := Lib.hid (own_below ow1.out hb2)
      have hB2 := Lib.hid (below_seq hB1.out hb2)
      have hs2 := hb2.size
      clear ow1 hB1 hb2
      go_wp2_with (first | (at_builtin; refine wpl_append_int rfl _ _ _ rfl (by kernel_rfl) w0.heap.size _ (cs.take n) n rfl (ow2.out.alloc _) htl.out (by omega) (by simp only [World.size_alloc]; omega) w2.heap.size c rfl (by go_simp) ?_; intro v' w3 hown' hgrow hbel hloc; replace hown' := Lib.hid hown'; replace hbel := Lib.hid (hbel w0 (balloc hB2.out _)); clear hgrow hloc ow2 hB2) | fail)
      go_wp2
      go_roundw
      case rel => exact ⟨n + 1, _, by omega, by go_num, rfl, by rw [hsn.out]; exact hown'.out, hbel.out⟩
      case measure => simp [intOf]; omega
    · obtain rfl : n = l.length := by omega
      have hI : Hid (IntSl wr u cs) := Lib.hid (own_ints (by have := hown.out; rw [List.take_of_length_le (by omega)] at this; exact this) hlen.symm)
      go_wp2
      go_ret
      exact ⟨_, rfl, hI.out, below_seq hb0.out hb.out⟩
set_option maxHeartbeats 4000000 in
theorem rjoint_c (us : List Int) (l : List Sp) (v : Value) (J : Sp) (w : World) (hl : l.length ≤ 12) (hs : SpSl w v l) (hu : Hid (l = us.map sq)) (hJ : Hid (sq (dot us (cfs l)) = J)) :
    Calls Tryd.prog 46 #[v] w fun e w' => e = .returned (spV J) ∧ Below w.heap.size w w' := by
  have hok : ∀ z ∈ l, Ok z := by rw [hu.out]; intro z hz; obtain ⟨u, -, rfl⟩ := List.mem_map.mp hz; exact sq_ok u
  have hC := Lib.hid (fun (w : World) hs => rcoefs_c l v w hl hs hok)
  clear hok
  have hul : us.length = l.length := by rw [hu.out, List.length_map]
  have hue : ∀ i (h1 : i < l.length) (h2 : i < us.length), l[i] = sq us[i] := by
    intro i h1 h2
    have := hu.out
    subst this
    rw [List.getElem_map]
  replace hue := Lib.hid hue
  have hlen := cfs_len l
  have hbd := Lib.hid (cfs_bd l)
  generalize cfs l = cs at *
  obtain ⟨a, cap, rfl, h0⟩ := hs
  replace h0 := Lib.hid h0
  clear hu
  go_enter Tryd.func46, Tryd.ntmps46
  go_wp2_with fail
  refine (hC.out _ ⟨a, cap, rfl, fun hp => by obtain ⟨b, off, e, hs⟩ := h0.out hp; exact ⟨b, off, e, hs.below (below_alloc _ _)⟩⟩).mono ?_; rintro e w1 ⟨v', rfl, hi, hb1⟩
  obtain ⟨ac, cc, rfl, hi⟩ := hi
  clear hC
  have hR := Lib.hid ((SpAt.fresh w 0 0 false 24).below hb1)
  have hB1 := Lib.hid (below_seq (below_alloc w (.cells #[.int .i64 0, .int .i64 0, .bool false] 24)) hb1)
  have h1 : Hid (0 < l.length → ∃ b off, a = some ⟨b, off, none⟩ ∧ SpotsAt w1 b off l) := Lib.hid (fun hp => by obtain ⟨b, off, e, hs⟩ := h0.out hp; exact ⟨b, off, e, hs.below hB1.out⟩)
  replace hi := Lib.hid hi
  clear h0 hb1
  go_wp2
  have hO := Lib.hid (SpAt.fresh w1 0 0 true 24)
  have hB2 := Lib.hid (below_alloc w1 (.cells #[.int .i64 0, .int .i64 0, .bool true] 24))
  generalize w1.alloc (.cells #[.int .i64 0, .int .i64 0, .bool true] 24) = w2 at *
  go_loopw [5] (fun i wr => ∃ n : Nat, n ≤ l.length ∧ i = .int .i64 n ∧ SpAt wr w1.heap.size (sq (dot (us.take n) cs)) ∧ Below w1.heap.size w1 wr) (fun i _ => l.length - (intOf i).toNat)
  case atStart => exact ⟨0, Nat.zero_le _, rfl, by rw [List.take_zero, dot_nil, sq_zero]; exact hO.out, hB2.out⟩
  case round =>
    clear hO hB2
    obtain ⟨n, hn, rfl, hP, hb⟩ := hrel
    replace hP := Lib.hid hP
    replace hb := Lib.hid hb
    by_cases hlt : n < l.length
    · obtain ⟨b, off, rfl, hsr⟩ := h1.out (by omega)
      obtain ⟨bc, oc, rfl, hic⟩ := hi.out (by omega)
      have hsr := hsr.below hb.out
      have l1 := hsr.cx n hlt
      have l2 := hsr.cy n hlt
      have l3 := hsr.cf n hlt
      have l6 := hsr.lt
      have hic := hic.below hb.out
      have l4 := hic.c n (by omega)
      have l5 := hic.lt
      obtain ⟨b1', b2'⟩ := hbd.out n (by omega)
      have hA := hue.out n hlt (by omega)
      have hd := dot_snoc us cs n (by omega) (by omega)
      have hlw := hb.out.size
      have hlr := hP.out.lt
      clear hsr hic
      generalize l[n] = A at *
      generalize us[n] = u at *
      generalize cs[n] = c at *
      replace hd := Lib.hid hd
      replace hA := Lib.hid hA
      obtain ⟨C, hCe⟩ : ∃ C, sq (u * c) = C := ⟨_, rfl⟩
      obtain ⟨D, hD⟩ : ∃ D, sSum (sq (dot (us.take n) cs)) C = D := ⟨_, rfl⟩
      have oP := sq_ok (dot (us.take n) cs)
      have hDe : Hid (sq (dot (us.take (n + 1)) cs) = D) := by rw [hd.out, ← sq_add, hCe]; exact hD
      generalize sq (dot (us.take n) cs) = P at *
      have oC : Ok C := by rw [← hCe]; exact sq_ok _
      replace hCe := Lib.hid hCe
      replace hD := Lib.hid hD
      obtain ⟨p0, p1, p2, p3, p4, p5, -⟩ := hP.out
      go_wp2_with fail
      refine wp_region_grow_tail 11 Tryd.mixed (by kernel_rfl) ?_
      simp only [List.take_succ_cons, List.take_zero, List.drop_succ_cons, List.drop_zero]
      repeat (quiet_step (first | (go_at_call 35; exact grow_of (refTimes_e A C u c _ (by omega) (by omega) hA hCe)) | (go_at_call 38; exact grow_of (refAdd_e P C D _ oP oC hD))))
      refine wpQuiet_nil ?_
      intro _ hw'
      obtain ⟨x, rfl⟩ := hw'
      have hx := Lib.hid x.h
      have hP2 := hP.out.below hx.out
      clear p0 p1 p2 p3 p4 p5 l1 l2 l3 l4 l5 l6
      obtain ⟨p0, p1, p2, p3, p4, p5, p6⟩ := hP2
      go_wp2
      go_roundw
      case rel => exact ⟨n + 1, by omega, by go_num, by rw [hDe.out]; exact (hP.out.below hx.out).set3 D, set3_below (below_seq hb.out hx.out) (Nat.le_refl _)⟩
      case measure => simp [intOf]; omega
    · obtain rfl : n = l.length := by omega
      have hPJ : sq (dot (us.take l.length) cs) = J := by rw [List.take_of_length_le (by omega)]; exact hJ.out
      rw [hPJ] at hP
      obtain ⟨p0, p1, p2, p3, p4, p5, -⟩ := hP.out
      have hR2 := hR.out.below hb.out
      obtain ⟨r0, r1, r2, f0, f1, f2, -⟩ := hR2
      have hBr := Lib.hid (below_seq hB1.out hb.out)
      go_wp2
      have k := set3_cell (w := wr) (x := .int .i64 J.x) (y := .int .i64 J.y) (z := .bool J.far) r0 r1 r2
      refine bodyPost_ret (v := spV J) (by simp [results, Tryd.results46, go_sem, k.1, k.2.1, k.2.2]) rfl ⟨rfl, set3_below hBr.out (Nat.le_refl _)⟩
set_option maxHeartbeats 4000000 in
theorem ints_same (l : List Int) (v1 v2 : Value) (w : World) (hl : l.length ≤ 1000000) (h1 : IntSl w v1 l) (h2 : IntSl w v2 l) :
    Calls Tryd.prog 27 #[v1, v2] w fun e w' => e = .returned (.bool true) ∧ Below w.heap.size w w' := by
  obtain ⟨a1, c1, rfl, i1⟩ := h1
  obtain ⟨a2, c2, rfl, i2⟩ := h2
  replace i1 := Lib.hid i1
  replace i2 := Lib.hid i2
  have g1 : ((l.length : Int) != (l.length : Int)) = false := by simp
  go_enter Tryd.func27, Tryd.ntmps27
  go_wp2
  go_loopw [5] (fun i wr => ∃ n : Nat, n ≤ l.length ∧ i = .int .i64 n ∧ Below w.heap.size w wr) (fun i _ => l.length - (intOf i).toNat)
  case atStart => exact ⟨0, Nat.zero_le _, rfl, Below.refl _ _⟩
  case round =>
    obtain ⟨n, hn, rfl, hb⟩ := hrel
    replace hb := Lib.hid hb
    by_cases hlt : n < l.length
    · obtain ⟨b1, o1, rfl, l1⟩ := i1.out (by omega)
      obtain ⟨b2, o2, rfl, l2⟩ := i2.out (by omega)
      have k1 := (l1.below hb.out).c n hlt
      have k2 := (l2.below hb.out).c n hlt
      have k3 := (l1.below hb.out).lt
      have k4 := (l2.below hb.out).lt
      clear l1 l2
      generalize l[n] = x at *
      go_wp2_with fail
      go_quiet (fail)
      go_wp2
      go_roundw
      case rel => exact ⟨n + 1, by omega, by go_num, (by repeat (first | exact hb.out | refine below_drewN ?_ _ | refine Below.drew ?_))⟩
      case measure => simp [intOf]; omega
    · obtain rfl : n = l.length := by omega
      go_wp2
      go_ret
      exact ⟨rfl, hb.out⟩
set_option maxHeartbeats 4000000 in
theorem coefs_n (v : Value) (E : Int) (w : World) (hL : Hid (∀ w', Below w.heap.size w w' → Calls Tryd.prog 114 #[v] w' fun e w'' => e = .returned (.tuple #[.string ⟨#[]⟩, .iface 125 (.int .i64 E)]) ∧ Below w'.heap.size w' w'')) :
    Calls Tryd.prog 47 #[v] w fun e w' => e = .returned (.tuple #[.slice none 0 0, .iface 125 (.int .i64 E)]) ∧ Below w.heap.size w w' := by
  go_enter Tryd.func47, Tryd.ntmps47
  go_wp2_with fail
  refine (hL.out _ (by repeat (first | exact Below.refl _ _ | refine balloc ?_ _ | refine Below.drew ?_ | refine below_drewN ?_ _ | refine below_set ?_ (by first | omega | (dsimp only; omega)) _))).mono ?_; rintro e w1 ⟨rfl, hb⟩
  obtain ⟨hc1, hf1⟩ := bcell hb
  have z1 := hb.size
  try simp only [World.size_alloc, World.size_setCell, World.size_drew] at z1
  have hB1 : Below w.heap.size w w1 := below_seq (by repeat (first | exact Below.refl _ _ | refine balloc ?_ _ | refine Below.drew ?_ | refine below_drewN ?_ _ | refine below_set ?_ (by first | omega | (dsimp only; omega)) _)) hb
  clear hb
  go_wp2
  go_ret2
  exact ⟨rfl, (by repeat (first | exact hB1 | exact Below.refl _ _ | refine balloc ?_ _ | refine Below.drew ?_ | refine below_drewN ?_ _ | refine below_set ?_ (by first | omega | (dsimp only; omega)) _))⟩
set_option maxHeartbeats 4000000 in
theorem joint_n (v : Value) (E : Int) (w : World) (hL : Hid (∀ w', Below w.heap.size w w' → Calls Tryd.prog 114 #[v] w' fun e w'' => e = .returned (.tuple #[.string ⟨#[]⟩, .iface 125 (.int .i64 E)]) ∧ Below w'.heap.size w' w'')) :
    Calls Tryd.prog 48 #[v] w fun e w' => e = .returned (.tuple #[spV ⟨0, 0, false⟩, .iface 125 (.int .i64 E)]) ∧ Below w.heap.size w w' := by
  have hC : Hid (∀ w', Below w.heap.size w w' → Calls Tryd.prog 47 #[v] w' fun e w'' => e = .returned (.tuple #[.slice none 0 0, .iface 125 (.int .i64 E)]) ∧ Below w'.heap.size w' w'') := Lib.hid (fun w' hb => coefs_n v E w' (Lib.hid fun w'' hb' => hL.out w'' (below_seq hb hb')))
  go_enter Tryd.func48, Tryd.ntmps48
  go_wp2_with fail
  refine (hC.out _ (by repeat (first | exact Below.refl _ _ | refine balloc ?_ _ | refine Below.drew ?_ | refine below_drewN ?_ _ | refine below_set ?_ (by first | omega | (dsimp only; omega)) _))).mono ?_; rintro e w1 ⟨rfl, hb⟩
  obtain ⟨hc1, hf1⟩ := bcell hb
  have z1 := hb.size
  try simp only [World.size_alloc, World.size_setCell, World.size_drew] at z1
  have s1_0 : w.heap.size < w1.heap.size := by omega
  have hB1 : Below w.heap.size w w1 := below_seq (by repeat (first | exact Below.refl _ _ | refine balloc ?_ _ | refine Below.drew ?_ | refine below_drewN ?_ _ | refine below_set ?_ (by first | omega | (dsimp only; omega)) _)) hb
  clear hb
  have r0 : w1.cell? ⟨w.heap.size, 0, none⟩ = some (.int .i64 0) := by go_simp
  have r1 : w1.cell? ⟨w.heap.size, 1, none⟩ = some (.int .i64 0) := by go_simp
  have r2 : w1.cell? ⟨w.heap.size, 2, none⟩ = some (.bool false) := by go_simp
  go_wp2
  have k := set3_cell (w := w1) (x := .int .i64 0) (y := .int .i64 0) (z := .bool false) r0 r1 r2
  refine bodyPost_ret (v := .tuple #[spV ⟨0, 0, false⟩, .iface 125 (.int .i64 E)]) (by simp [results, Tryd.results48, go_sem, k.1, k.2.1, k.2.2]) rfl ⟨rfl, set3_below (by repeat (first | exact hB1 | exact Below.refl _ _ | refine balloc ?_ _ | refine Below.drew ?_ | refine below_drewN ?_ _ | refine below_set ?_ (by first | omega | (dsimp only; omega)) _)) (by omega)⟩
end Go.Proofs.YtnlaofapjldciaaDoor
namespace Go.Proofs.YtnlaofapjldciaaDoor
open Go.RowKit
set_option maxRecDepth 100000
set_option linter.unusedVariables false
set_option linter.unusedSimpArgs false
theorem secB_ok (n : Int) : secB n = okB n := rfl
set_option maxHeartbeats 4000000 in
theorem rgroup_core (xs ks : List Int) (a1 a2 : Option Addr) (c1 c2 : Nat) (t : ByteArray) (w : World) (h : xs.length ≤ 12) (hn : ks.length = xs.length) (hz : t.size ≤ 140737488351232)
    (h1 : 0 < xs.length → ∃ b off, a1 = some ⟨b, off, none⟩ ∧ IntsAt w b off xs) (h2 : 0 < ks.length → ∃ b off, a2 = some ⟨b, off, none⟩ ∧ IntsAt w b off ks) (R : Int)
    (hbad : Hid (∀ i (h1 : i < xs.length) (h2 : i < ks.length), okB xs[i] = false ∨ okB ks[i] = false → R = 1))
    (hend : Hid ((∀ i (h1 : i < xs.length), okB xs[i] = true) → (∀ i (h1 : i < ks.length), okB ks[i] = true) → R = if 60 < t.size then 4 else 0)) :
    Calls Tryd.prog 49 #[.slice a1 xs.length c1, .slice a2 ks.length c2, .string t] w fun e w' => e = .returned (.int .i64 R) ∧ Below w.heap.size w w' := by
  have hd : decide ((12 : Int) < (xs.length : Int)) = false := by rw [decide_eq_false_iff_not]; omega
  have h1' := Lib.hid h1
  have h2' := Lib.hid h2
  have hn' := Lib.hid hn
  clear h1 h2
  rw [hn]
  clear hn
  go_enter Tryd.func49, Tryd.ntmps49
  go_wp2
  go_loopw [7] (fun i wr => ∃ n : Nat, n ≤ xs.length ∧ i = .int .i64 n ∧ (∀ i (h1 : i < xs.length), i < n → okB xs[i] = true) ∧ (∀ i (h1 : i < ks.length), i < n → okB ks[i] = true) ∧ wr = w) (fun i _ => xs.length - (intOf i).toNat)
  case atStart => exact ⟨0, Nat.zero_le _, rfl, fun i _ h => absurd h (Nat.not_lt_zero _), fun i _ h => absurd h (Nat.not_lt_zero _), rfl⟩
  case round =>
    obtain ⟨n, hn, rfl, k1, k2, hwr⟩ := hrel
    subst hwr
    replace k1 := Lib.hid k1
    replace k2 := Lib.hid k2
    by_cases hlt : n < xs.length
    · obtain ⟨b1, o1, rfl, l1⟩ := h1'.out (by omega)
      obtain ⟨b2, o2, rfl, l2⟩ := h2'.out (by rw [hn'.out]; omega)
      have hlt2 : n < ks.length := by rw [hn'.out]; exact hlt
      have m1 := l1.c n hlt
      have m2 := l2.c n hlt2
      clear l1 l2
      have hB := Lib.hid (hbad.out n hlt hlt2)
      have hx : Hid (secB xs[n] = okB xs[n]) := Lib.hid rfl
      have hk : Hid (secB ks[n] = okB ks[n]) := Lib.hid rfl
      have j1 : Hid (okB xs[n] = true → ∀ i (h1 : i < xs.length), i < n + 1 → okB xs[i] = true) := Lib.hid (fun e i hi h => by
        by_cases hin : i < n
        · exact k1.out i hi hin
        · obtain rfl : i = n := by omega
          exact e)
      have j2 : Hid (okB ks[n] = true → ∀ i (h1 : i < ks.length), i < n + 1 → okB ks[i] = true) := Lib.hid (fun e i hi h => by
        by_cases hin : i < n
        · exact k2.out i hi hin
        · obtain rfl : i = n := by omega
          exact e)
      generalize okB xs[n] = p at *
      generalize okB ks[n] = q at *
      generalize xs[n] = x at *
      generalize ks[n] = k at *
      go_wp2_with fail
      refine (rSecret_b x p _ hx).mono ?_; rintro e w' ⟨rfl, rfl⟩
      go_wp2_with fail
      refine (rSecret_b k q _ hk).mono ?_; rintro e w' ⟨rfl, rfl⟩
      cases p with
      | false =>
        have hR := hB.out (.inl rfl)
        go_wp2
        go_ret
        exact ⟨ret_int hR.symm, Below.refl _ _⟩
      | true =>
        cases q with
        | false =>
          have hR := hB.out (.inr rfl)
          go_wp2
          go_ret
          exact ⟨ret_int hR.symm, Below.refl _ _⟩
        | true =>
          have j3 := Lib.hid (j1.out rfl)
          have j4 := Lib.hid (j2.out rfl)
          go_wp2
          go_roundw
          case rel => exact ⟨n + 1, by omega, by go_num, j3.out, j4.out, by first | rfl | trivial⟩
          case measure => simp [intOf]; omega
    · have hR := Lib.hid (hend.out (fun i hi => k1.out i hi (by omega)) (fun i hi => k2.out i hi (by rw [hn'.out] at hi; omega)))
      clear h1' h2'
      by_cases hs : t.size ≤ 60
      · have hs2 : ¬ 60 < t.size := by omega
        go_wp2
        go_ret
        exact ⟨ret_int (by rw [hR.out, if_neg (by omega)]), Below.refl _ _⟩
      · have hs : 60 < t.size := by omega
        go_wp2
        go_ret
        exact ⟨ret_int (by rw [hR.out, if_pos hs]), Below.refl _ _⟩
set_option maxHeartbeats 2000000 in
theorem rgroup_full (xs ks : List Int) (a1 a2 : Option Addr) (c1 c2 : Nat) (t : ByteArray) (w : World) (h : 12 < xs.length) (hm : xs.length ≤ 9223372036854775807) :
    Calls Tryd.prog 49 #[.slice a1 xs.length c1, .slice a2 ks.length c2, .string t] w fun e w' => e = .returned (.int .i64 4) ∧ Below w.heap.size w w' := by
  go_enter Tryd.func49, Tryd.ntmps49
  go_wp2
  go_ret
  exact ⟨rfl, Below.refl _ _⟩
set_option maxHeartbeats 2000000 in
theorem rgroup_shape (xs ks : List Int) (a1 a2 : Option Addr) (c1 c2 : Nat) (t : ByteArray) (w : World) (h : xs.length ≤ 12) (hm : ks.length ≤ 9223372036854775807) (hn : xs.length ≠ ks.length) :
    Calls Tryd.prog 49 #[.slice a1 xs.length c1, .slice a2 ks.length c2, .string t] w fun e w' => e = .returned (.int .i64 3) ∧ Below w.heap.size w w' := by
  have hd : decide ((12 : Int) < (xs.length : Int)) = false := by rw [decide_eq_false_iff_not]; omega
  have hd2 : ((xs.length : Int) != (ks.length : Int)) = true := by rw [bne_iff_ne]; omega
  go_enter Tryd.func49, Tryd.ntmps49
  go_wp2
  go_ret
  exact ⟨rfl, Below.refl _ _⟩
theorem rgroup_e (xs ks : List Int) (v1 v2 : Value) (t : ByteArray) (E : Int) (w : World) (h1 : IntSl w v1 xs) (h2 : IntSl w v2 ks) (m1 : xs.length ≤ 9223372036854775807) (m2 : ks.length ≤ 9223372036854775807) (hz : t.size ≤ 140737488351232) (hE : Hid (groupF xs ks t.size = E)) :
    Calls Tryd.prog 49 #[v1, v2, .string t] w fun e w' => e = .returned (.int .i64 E) ∧ Below w.heap.size w w' := by
  obtain ⟨a1, c1, rfl, h1⟩ := h1
  obtain ⟨a2, c2, rfl, h2⟩ := h2
  have hE := hE.out
  unfold groupF at hE
  split at hE
  · subst hE; exact rgroup_full xs ks a1 a2 c1 c2 t w (by assumption) m1
  split at hE
  · subst hE; exact rgroup_shape xs ks a1 a2 c1 c2 t w (by omega) m2 (by assumption)
  rename_i g1 g2
  refine rgroup_core xs ks a1 a2 c1 c2 t w (by omega) (by omega) hz h1 h2 E (Lib.hid ?_) (Lib.hid ?_)
  · intro i i1 i2 hb
    have : (xs.all okB && ks.all okB) = false := by
      rcases hb with hb | hb
      · rw [not_all i1 hb]; rfl
      · rw [not_all i2 hb, Bool.and_false]
    rw [this] at hE
    exact hE.symm
  · intro k1 k2
    rw [all_at k1, all_at k2] at hE
    simp only [Bool.and_self, if_true] at hE
    exact hE.symm
theorem turn_go2 {s K a D x d : Int} (h : s % 1013 = (K + a * D) % 1013) : (s + a * (d * x % 1013)) % 1013 = (K + a * (D + x * d)) % 1013 := by
  have e : (a * (d * x % 1013)) % 1013 = (a * (d * x)) % 1013 := by rw [Int.mul_emod, Int.emod_emod, ← Int.mul_emod]
  rw [Int.mul_add, Int.mul_comm x d]
  generalize a * (d * x % 1013) = p at *
  generalize a * (d * x) = q at *
  generalize a * D = r at *
  omega
set_option maxHeartbeats 8000000 in
theorem rgsign_e (xs ks : List Int) (v1 v2 : Value) (t : ByteArray) (l : List Sp) (J R : Sp) (c S : Int) (w : World) (h1 : IntSl w v1 xs) (h2 : IntSl w v2 ks) (hE : groupF xs ks t.size = 0)
    (hl : Hid (xs.map (fun x => sq (4 * x)) = l)) (hJ : Hid (sq (4 * dot xs (cfs l)) = J)) (hR : Hid (sq (4 * ks.sum) = R)) (hc : Hid (askN R J t.data.toList = c)) (hS : Hid ((ks.sum + c * dot xs (cfs l)) % 1013 = S)) :
    Calls Tryd.prog 50 #[v1, v2, .string t] w fun e w' => e = .returned (slV R S) ∧ Below w.heap.size w w' := by
  obtain ⟨m1, m2, hx, hk, hz6⟩ := groupF_0 hE
  have hll : l.length = xs.length := by rw [← hl.out, List.length_map]
  have hlu : l = (xs.map (4 * ·)).map sq := by rw [← hl.out, List.map_map]; rfl
  have hok : ∀ z ∈ l, Ok z := by rw [hlu]; intro z hz; obtain ⟨u, -, rfl⟩ := List.mem_map.mp hz; exact sq_ok u
  have hle : Hid (∀ i (h1 : i < xs.length) (h2 : i < l.length), sq (4 * xs[i]) = l[i]) := Lib.hid (by
    intro i h1 h2
    have := hl.out
    subst this
    rw [List.getElem_map])
  have hC := Lib.hid (fun (w : World) v hs => rcoefs_c l v w (by omega) hs hok)
  have hJc := Lib.hid (fun (w : World) v hs => rjoint_c (xs.map (4 * ·)) l v J w (by omega) hs hlu (by rw [dot_four]; exact hJ.out))
  have oJ : Ok J := by rw [← hJ.out]; exact sq_ok _
  have oR : Ok R := by rw [← hR.out]; exact sq_ok _
  have hcl := cfs_len l
  have hcb := Lib.hid (cfs_bd l)
  have hsb := Lib.hid (sum_bd ks hk)
  have hc0 := hnum_bd ((sBytes R).data.toList ++ ((sBytes J).data.toList ++ t.data.toList))
  rw [show hnum ((sBytes R).data.toList ++ ((sBytes J).data.toList ++ t.data.toList)) = c from hc.out] at hc0
  generalize cfs l = cs at *
  obtain ⟨a1, c1, rfl, h1⟩ := h1
  obtain ⟨a2, c2, rfl, h2⟩ := h2
  replace h1 := Lib.hid h1
  replace h2 := Lib.hid h2
  replace hx := Lib.hid hx
  replace hk := Lib.hid hk
  replace m2 := Lib.hid m2
  clear hE hok hlu hl
  obtain ⟨s0, s1⟩ := hsb.out ks.length (Nat.le_refl _)
  rw [List.take_length] at s0 s1
  rw [m2.out] at s1
  obtain ⟨K, hKe⟩ : ∃ K, ks.sum = K := ⟨_, rfl⟩
  rw [hKe] at s0 s1 hR hS
  replace hKe := Lib.hid hKe
  go_enter Tryd.func50, Tryd.ntmps50
  go_wp2
  have hq1 := Lib.hid (Z4.fresh w 80)
  have hB1 := Lib.hid (below_alloc w (.cells #[.int .i64 0, .int .i64 0, .bool false, .int .i64 0] 80))
  generalize w.alloc (.cells #[.int .i64 0, .int .i64 0, .bool false, .int .i64 0] 80) = w1 at *
  have i1 : Hid (0 < xs.length → ∃ b off, a1 = some ⟨b, off, none⟩ ∧ IntsAt w1 b off xs) := Lib.hid (fun hp => by obtain ⟨b, off, e, hs⟩ := h1.out hp; exact ⟨b, off, e, hs.below hB1.out⟩)
  have i2 : Hid (0 < ks.length → ∃ b off, a2 = some ⟨b, off, none⟩ ∧ IntsAt w1 b off ks) := Lib.hid (fun hp => by obtain ⟨b, off, e, hs⟩ := h2.out hp; exact ⟨b, off, e, hs.below hB1.out⟩)
  clear h1 h2
  go_loopw [7, 8, 9] (fun o s i wr => ∃ (n : Nat) (u : Value), n ≤ xs.length ∧ i = .int .i64 n ∧ s = .int .i64 ((ks.take n).sum) ∧ u = o ∧ wr.ownsRow w1.heap.size 24 3 u n (spCells (l.take n)) ∧ Below w1.heap.size w1 wr) (fun _ _ i _ => xs.length - (intOf i).toNat)
  case atStart => exact ⟨0, _, Nat.zero_le _, rfl, rfl, rfl, World.ownsRow_nil _ _ _ _, Below.refl _ _⟩
  case round =>
    obtain ⟨n, u, hn, rfl, rfl, rfl, hown, hb⟩ := hrel
    replace hown := Lib.hid hown
    replace hb := Lib.hid hb
    by_cases hlt : n < xs.length
    · obtain ⟨b1, o1, rfl, l1⟩ := i1.out (by omega)
      obtain ⟨b2, o2, rfl, l2⟩ := i2.out (by rw [m2.out]; omega)
      have hlt2 : n < ks.length := by rw [m2.out]; exact hlt
      have m3 := (l1.below hb.out).c n hlt
      have m4 := (l1.below hb.out).lt
      have hlw := hb.out.size
      have hcell := Lib.hid (fun w' (hb' : Below w1.heap.size w1 w') => (l2.below hb').c n hlt2)
      have hcl2 := Lib.hid (fun w' (hb' : Below w1.heap.size w1 w') => (l2.below hb').lt)
      have hsn := Lib.hid (sum_snoc ks n hlt2)
      have hln := Lib.hid (take_snoc l n (by omega))
      have hA := Lib.hid (hle.out n hlt (by omega))
      obtain ⟨y1, y2⟩ := hk.out n hlt2
      obtain ⟨g1, g2⟩ := hsb.out n (by omega)
      obtain ⟨x1, x2⟩ := hx.out n hlt
      have htl : Hid ((l.take n).length = n) := Lib.hid (by rw [List.length_take]; omega)
      clear l1 l2
      generalize xs[n] = x at *
      generalize ks[n] = k at *
      generalize l[n] = A at *
      generalize (ks.take n).sum = s at *
      go_wp2_with fail
      refine (refBy_e x A _ (by omega) (by omega) hA).mono ?_; rintro e w2 ⟨rfl, hb2⟩
      have ow2 := Lib.hid (own_below hown.out hb2)
      have hB2 := Lib.hid (below_seq hb.out hb2)
      have hs2 := hb2.size
      clear hown hb2 m3 m4
      go_wp2_with (first | (at_builtin; refine wpl_append_spot rfl _ _ _ rfl (by kernel_rfl) w1.heap.size _ (l.take n) n rfl ((ow2.out.alloc _).alloc _) htl.out (by omega) (by simp only [World.size_alloc]; omega) (w2.heap.size + 1) A rfl (by go_simp) (by go_simp) (by go_simp) ?_; intro v' w3 hown' hgrow hbel hloc; replace hown' := Lib.hid hown'; replace hbel := Lib.hid (hbel w1 (balloc (balloc hB2.out _) _)); have hc3 := hcell.out w3 hbel.out; have hc4 := hcl2.out w3 hbel.out; clear hgrow hloc ow2 hB2) | fail)
      go_wp2
      go_roundw
      case rel => exact ⟨n + 1, _, by omega, by go_num, by rw [hsn.out], rfl, by rw [hln.out]; exact hown'.out, hbel.out⟩
      case measure => simp [intOf]; omega
    · obtain rfl : n = xs.length := by omega
      have hSp : Hid (SpSl wr u l) := Lib.hid (own_spots (by have := hown.out; rw [List.take_of_length_le (by omega)] at this; exact this) hll.symm)
      have hse : (ks.take xs.length).sum = K := by rw [← m2.out, List.take_length]; exact hKe.out
      rw [hse]
      have hqr := Lib.hid (hq1.out.below hb.out)
      have hBr := Lib.hid (below_seq hB1.out hb.out)
      have ir : Hid (0 < xs.length → ∃ b off, a1 = some ⟨b, off, none⟩ ∧ IntsAt wr b off xs) := Lib.hid (fun hp => by obtain ⟨b, off, e, hs⟩ := i1.out hp; exact ⟨b, off, e, hs.below hb.out⟩)
      clear hown hb hse i1 i2 hq1 hB1 hsb hk m2 hle hKe
      go_wp2_with fail
      refine (hC.out wr u hSp.out).mono ?_; rintro e w2 ⟨cv, rfl, hi, hb2⟩
      have hSp2 := Lib.hid (hSp.out.below hb2)
      have hq2 := Lib.hid (hqr.out.below hb2)
      have hB2 := Lib.hid (below_seq hBr.out hb2)
      have i2 : Hid (0 < xs.length → ∃ b off, a1 = some ⟨b, off, none⟩ ∧ IntsAt w2 b off xs) := Lib.hid (fun hp => by obtain ⟨b, off, e, hs⟩ := ir.out hp; exact ⟨b, off, e, hs.below hb2⟩)
      obtain ⟨a3, c3, rfl, i3⟩ := hi
      replace i3 := Lib.hid i3
      clear hSp hqr hBr ir hb2 hC
      go_wp2_with fail
      refine (refBy_e K R _ (by omega) (by omega) hR).mono ?_; rintro e w3 ⟨rfl, hb3⟩
      have hr := Lib.hid (SpAt.fresh w3 R.x R.y R.far 24)
      have hb3a := Lib.hid (balloc hb3 (.cells #[.int .i64 R.x, .int .i64 R.y, .bool R.far] 24))
      have hSp3 := Lib.hid (hSp2.out.below hb3a.out)
      clear hb3
      go_wp2_with fail
      refine wp_region_grow Tryd.mixed (by kernel_rfl) ?_
      repeat (quiet_step (first | (go_at_call 46; exact grow_of (hJc.out _ u (hSp3.out.below (Grew.h _)))) | (go_at_call 54; exact grow_of (rAsk_e R J t c _ oR oJ hz6 hc))))
      refine wpQuiet_nil ?_
      intro _ hw'
      obtain ⟨y, rfl⟩ := hw'
      have hr5 := Lib.hid (hr.out.below y.h)
      have hb5 := Lib.hid (below_seq hb3a.out y.h)
      generalize hyw : y.w = w5 at *
      clear hyw y
      have hq5 := Lib.hid (hq2.out.below hb5.out)
      have hB5 := Lib.hid (below_seq hB2.out hb5.out)
      have i5 : Hid (0 < xs.length → ∃ b off, a1 = some ⟨b, off, none⟩ ∧ IntsAt w5 b off xs) := Lib.hid (fun hp => by obtain ⟨b, off, e, hs⟩ := i2.out hp; exact ⟨b, off, e, hs.below hb5.out⟩)
      have i6 : Hid (0 < cs.length → ∃ b off, a3 = some ⟨b, off, none⟩ ∧ IntsAt w5 b off cs) := Lib.hid (fun hp => by obtain ⟨b, off, e, hs⟩ := i3.out hp; exact ⟨b, off, e, hs.below hb5.out⟩)
      clear hr hb3a hb5 hq2 hB2 i2 i3 oR oJ hSp2 hSp3 hJc
      go_wp2
      go_loopw [8, 14] (fun s i wr => ∃ (n : Nat) (m : Int), n ≤ xs.length ∧ i = .int .i64 n ∧ s = .int .i64 m ∧ 0 ≤ m ∧ m ≤ 12144 + n * 1024144 ∧ m % 1013 = (K + c * dot (xs.take n) cs) % 1013 ∧ Below w5.heap.size w5 wr) (fun _ i _ => xs.length - (intOf i).toNat)
      case atStart => exact ⟨0, K, Nat.zero_le _, rfl, rfl, s0, by omega, by rw [List.take_zero, dot_nil, Int.mul_zero, Int.add_zero], Below.refl _ _⟩
      case round =>
        obtain ⟨n, m, hn, rfl, rfl, m0, m4, hm, hbr⟩ := hrel
        replace hbr := Lib.hid hbr
        replace hm := Lib.hid hm
        by_cases hlt : n < xs.length
        · obtain ⟨b1, o1, rfl, l1⟩ := i5.out (by omega)
          obtain ⟨b3, o3, rfl, l3⟩ := i6.out (by omega)
          have k1 := (l1.below hbr.out).c n hlt
          have k3 := (l3.below hbr.out).c n (by omega)
          have k4 := (l1.below hbr.out).lt
          have k5 := (l3.below hbr.out).lt
          obtain ⟨x1, x2⟩ := hx.out n hlt
          obtain ⟨d1, d2⟩ := hcb.out n (by omega)
          have hd := Lib.hid (dot_snoc xs cs n hlt (by omega))
          clear l1 l3
          generalize xs[n] = x at *
          generalize cs[n] = d at *
          obtain ⟨g1, g2⟩ := mul_1 d1 d2 (show 0 ≤ x by omega) x2
          have g3 : 0 ≤ d * x % 1013 ∧ d * x % 1013 < 1013 := by omega
          obtain ⟨g4, g5⟩ := mul_1 hc0.1 hc0.2 g3.1 g3.2
          have e1 : IntKind.i64.wrap (d * x) = d * x := IntWalk.i64_in _ (by omega)
          have e2 : (d * x).tmod 1013 = d * x % 1013 := Int.tmod_eq_emod_of_nonneg g1
          have e3 : IntKind.i64.wrap (c * (d * x % 1013)) = c * (d * x % 1013) := IntWalk.i64_in _ (by omega)
          have e4 : IntKind.i64.wrap (m + c * (d * x % 1013)) = m + c * (d * x % 1013) := IntWalk.i64_in _ (by omega)
          have hm2 := Lib.hid (turn_go2 (x := x) (d := d) hm.out)
          go_wp2_with fail
          go_quiet (fail)
          go_wp2
          go_roundw
          case rel => exact ⟨n + 1, _, by omega, by go_num, rfl, by omega, by omega, by rw [hm2.out, hd.out], (by repeat (first | exact hbr.out | refine below_drewN ?_ _ | refine Below.drew ?_))⟩
          case measure => simp [intOf]; omega
        · obtain rfl : n = xs.length := by omega
          have hms : m.tmod 1013 = S := by rw [Int.tmod_eq_emod_of_nonneg m0, hm.out, List.take_length]; exact hS.out
          obtain ⟨r0, r1, r2, r3, f0, f1, f2, f3, fl⟩ := hq5.out.below hbr.out
          obtain ⟨k0, k1, k2, -, -, -, kl⟩ := hr5.out.below hbr.out
          clear hm hx hcb
          go_wp2
          have k := set4_cell (w := wr) (x := .int .i64 R.x) (y := .int .i64 R.y) (z := .bool R.far) (p := .int .i64 S) r0 r1 r2 r3
          refine bodyPost_ret (v := slV R S) (by simp [results, Tryd.results50, go_sem, k.1, k.2.1, k.2.2.1, k.2.2.2]) rfl ⟨rfl, set4_below (below_seq hB5.out hbr.out) (Nat.le_refl _)⟩
end Go.Proofs.YtnlaofapjldciaaDoor
namespace Go.Proofs.YtnlaofapjldciaaDoor
open Go.RowKit
set_option maxRecDepth 100000
set_option linter.unusedVariables false
set_option linter.unusedSimpArgs false
/-- A slice of these ints, in a block that is not older than B. -/
def IntF (B : Nat) (w : World) (v : Value) (l : List Int) : Prop := ∃ a cap, v = .slice a l.length cap ∧ (0 < l.length → ∃ b off, a = some ⟨b, off, none⟩ ∧ B ≤ b ∧ IntsAt w b off l)
theorem IntF.sl {B : Nat} {w : World} {v : Value} {l : List Int} (h : IntF B w v l) : IntSl w v l := by
  obtain ⟨a, cap, rfl, h⟩ := h
  exact ⟨a, cap, rfl, fun h0 => by obtain ⟨b, off, e, -, hs⟩ := h h0; exact ⟨b, off, e, hs⟩⟩
theorem IntF.below {B : Nat} {w w' : World} {v : Value} {l : List Int} (h : IntF B w v l) (hb : Below w.heap.size w w') : IntF B w' v l := by
  obtain ⟨a, cap, rfl, h⟩ := h
  exact ⟨a, cap, rfl, fun h0 => by obtain ⟨b, off, e, hB, hs⟩ := h h0; exact ⟨b, off, e, hB, hs.below hb⟩⟩
theorem IntF.set {B : Nat} {w : World} {v u : Value} {p : Addr} {l : List Int} (h : IntF B w v l) (hp : p.block < B) : IntF B (w.setCell p u) v l := by
  obtain ⟨a, cap, rfl, h⟩ := h
  refine ⟨a, cap, rfl, fun h0 => ?_⟩
  obtain ⟨b, off, e, hB, hs⟩ := h h0
  refine ⟨b, off, e, hB, by rw [World.size_setCell]; exact hs.lt, fun i hi => ?_⟩
  rw [World.cell?_setCell_other (h := fun e => by subst e; exact absurd hp (Nat.not_lt.mpr hB))]
  exact hs.c i hi
theorem own_intf {w0 w : World} {B e : Nat} {v : Value} {l : List Int} {n : Nat} (h0 : w0.heap.size ≤ B) (h : w.ownsRow B e 1 v n (l.map (Value.int .i64))) (hn : n = l.length) : IntF w0.heap.size w v l := by
  subst hn
  obtain ⟨hl, h | ⟨g, cap, cur, rfl, hb, hg, hc, -, -, ht⟩⟩ := h
  · obtain ⟨rfl, h0⟩ := h
    exact ⟨none, 0, by rw [h0], fun hp => absurd h0 (by omega)⟩
  · refine ⟨_, _, rfl, fun _ => ⟨g, 0, rfl, Nat.le_trans h0 hb, (Array.getElem?_eq_some_iff.1 hg).1, fun i hi => ?_⟩⟩
    have k1 : (l.map (Value.int .i64))[i]? = some (.int .i64 l[i]) := by simp [hi]
    rw [cell_of_row w g _ cur e (0, 0) hg]
    simp only [Nat.zero_add]
    rw [← ht, List.getElem?_take, if_pos (by omega), Array.getElem?_toList] at k1
    assumption
set_option maxHeartbeats 4000000 in
theorem rcoefs_f (l : List Sp) (v : Value) (w : World) (hl : l.length ≤ 12) (hs : SpSl w v l) (hok : ∀ z ∈ l, Ok z) :
    Calls Tryd.prog 45 #[v] w fun e w' => ∃ v', e = .returned v' ∧ IntF w.heap.size w' v' (cfs l) ∧ Below w.heap.size w w' := by
  have hL := fun w hs => rlist_sl l v w hl hs hok
  obtain ⟨a, cap, rfl, h0⟩ := hs
  have hL := Lib.hid (hL w ⟨a, cap, rfl, h0⟩)
  have hok' := Lib.hid hok
  have hlen := cfs_len l
  have hcf : Hid (∀ i (h : i < l.length) (h2 : i < (cfs l).length), (cfs l)[i] = hnum (lsB l.length l ++ sBytes l[i]).data.toList) := Lib.hid (fun i h _ => cfs_get l i h)
  have hz := lsB_size l.length l
  generalize hcs : cfs l = cs at *
  clear hok
  go_enter Tryd.func45, Tryd.ntmps45
  go_wp2_with fail
  refine hL.out.mono ?_; rintro e w0 ⟨rfl, hb0⟩
  clear hL
  have hs0 : Hid (0 < l.length → ∃ b off, a = some ⟨b, off, none⟩ ∧ SpotsAt w0 b off l) := Lib.hid (fun hp => by obtain ⟨b, off, e, hs⟩ := h0 hp; exact ⟨b, off, e, hs.below hb0⟩)
  clear h0
  replace hb0 := Lib.hid hb0
  generalize hall : lsB l.length l = all at *
  replace hall := Lib.hid hall
  go_wp2
  go_loopw [4, 5] (fun o i wr => ∃ (n : Nat) (u : Value), n ≤ l.length ∧ i = .int .i64 n ∧ u = o ∧ wr.ownsRow w0.heap.size 3 1 u n ((cs.take n).map (Value.int .i64)) ∧ Below w0.heap.size w0 wr) (fun _ i _ => l.length - (intOf i).toNat)
  case atStart => exact ⟨0, _, Nat.zero_le _, rfl, rfl, World.ownsRow_nil _ _ _ _, Below.refl _ _⟩
  case round =>
    obtain ⟨n, u, hn, rfl, rfl, hown, hb⟩ := hrel
    replace hown := Lib.hid hown
    replace hb := Lib.hid hb
    by_cases hlt : n < l.length
    · obtain ⟨b, off, rfl, hsr⟩ := hs0.out (by omega)
      have hsr := hsr.below hb.out
      have h1 := hsr.cx n hlt
      have h2 := hsr.cy n hlt
      have h3 := hsr.cf n hlt
      have h4 := hsr.lt
      have ho := hok'.out _ (List.getElem_mem hlt)
      have hc := hcf.out n hlt (by omega)
      have hsn := take_snoc cs n (by omega)
      have hz2 := sBytes_size l[n]
      rw [hc] at hsn
      have hlr := hb.out.size
      have htl : (cs.take n).length = n := by rw [List.length_take]; omega
      clear hsr hs0 hok' hcf hc
      generalize hA : l[n] = A at *
      clear hA
      obtain ⟨c, hc⟩ : ∃ c, hnum (all ++ sBytes A).data.toList = c := ⟨_, rfl⟩
      rw [hc] at hsn
      replace hsn := Lib.hid hsn
      replace hc := Lib.hid hc
      replace htl := Lib.hid htl
      go_wp2_with fail
      refine (refBytes_c A _ ho).mono ?_; rintro e w1 ⟨rfl, hb1⟩
      have ow1 := Lib.hid (own_below hown.out hb1)
      have hB1 := Lib.hid (below_seq hb.out hb1)
      have hs1 := hb1.size
      clear hown hb hb1 h1 h2 h3 h4
      go_wp2_with fail
      refine (refNumber_n (all ++ sBytes A) c _ (by rw [ByteArray.size_append]; omega) hc).mono ?_; rintro e w2 ⟨rfl, hb2⟩
      have ow2 := Lib.hid (own_below ow1.out hb2)
      have hB2 := Lib.hid (below_seq hB1.out hb2)
      have hs2 := hb2.size
      clear ow1 hB1 hb2
      go_wp2_with (first | (at_builtin; refine wpl_append_int rfl _ _ _ rfl (by kernel_rfl) w0.heap.size _ (cs.take n) n rfl (ow2.out.alloc _) htl.out (by omega) (by simp only [World.size_alloc]; omega) w2.heap.size c rfl (by go_simp) ?_; intro v' w3 hown' hgrow hbel hloc; replace hown' := Lib.hid hown'; replace hbel := Lib.hid (hbel w0 (balloc hB2.out _)); clear hgrow hloc ow2 hB2) | fail)
      go_wp2
      go_roundw
      case rel => exact ⟨n + 1, _, by omega, by go_num, rfl, by rw [hsn.out]; exact hown'.out, hbel.out⟩
      case measure => simp [intOf]; omega
    · obtain rfl : n = l.length := by omega
      have hI : Hid (IntF w.heap.size wr u cs) := Lib.hid (own_intf hb0.out.size (by have := hown.out; rw [List.take_of_length_le (by omega)] at this; exact this) hlen.symm)
      go_wp2
      go_ret
      exact ⟨_, rfl, hI.out, below_seq hb0.out hb.out⟩
end Go.Proofs.YtnlaofapjldciaaDoor
