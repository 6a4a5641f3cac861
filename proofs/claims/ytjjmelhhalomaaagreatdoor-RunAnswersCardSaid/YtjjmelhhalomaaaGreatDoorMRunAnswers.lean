/- Texts of this claim, in one. -/
import Derived.Test.YtjjmelhhalomaaaGreatDoorM2RunAnswers
import Derived.Test.YtjjmelhhalomaaaGreatDoorM4RunAnswers
import Derived.Test.YtjjmelhhalomaaaGreatDoorM3RunAnswers
import Derived.Deep.CutBlock
import Derived.RangeFuncNested
import Derived.RangeFuncBound
import Derived.RangeFuncCalls
import Derived.RangeFuncLeaves
import Derived.Test.YtjjmelhhalomaaaGreatDoorM5RunAnswers
import Derived.Shelf.Abstract
import Derived.Shelf.RegionOpen
import Derived.WalkKit
import Derived.OwnWalkIn
import Derived.TacticsInMore
import Derived.LoopNIn
import Derived.LoopIn
namespace Go.Proofs.YtjjmelhhalomaaaGreatDoor
open Go.RowKit
set_option maxRecDepth 100000
set_option linter.unusedVariables false
set_option linter.unusedSimpArgs false
theorem refTurn_q (n : Int) (w : World) (h1 : 1 ≤ n) (h2 : n < 1013) : Calls Tryz.prog 155 #[.int .i64 n, .int .i64 1013] w fun e w' => (∃ v : Int, e = .returned (.int .i64 v) ∧ 0 ≤ v ∧ v < 1013 ∧ v * n % 1013 = 1) ∧ w = w' :=
  refTurn_c n 1013 w ⟨20, turn_q h1 h2⟩ (by omega) (by omega) (by omega) (by omega)
/-- Places that are right and unlike, below k. -/
def PlOk (xs : List Int) (k : Nat) : Prop := (∀ i (h : i < xs.length), i < k → 1 ≤ xs[i] ∧ xs[i] < 1013) ∧ (∀ i j (hi : i < xs.length) (hj : j < xs.length), i < j → j < k → xs[i] ≠ xs[j])
/-- The fault at place k. -/
def PlBad (xs : List Int) (k : Nat) (R : Int) : Prop := ∃ h : k < xs.length, (¬ (1 ≤ xs[k] ∧ xs[k] < 1013) ∧ R = 1) ∨ ((1 ≤ xs[k] ∧ xs[k] < 1013) ∧ (∃ (m : Nat) (hm : m < xs.length), m < k ∧ xs[m] = xs[k]) ∧ R = 7)
theorem pl_upto (xs : List Int) : ∀ n, n ≤ xs.length → PlOk xs n ∨ ∃ k R, k < n ∧ PlOk xs k ∧ PlBad xs k R
  | 0, _ => .inl ⟨fun i _ h => absurd h (Nat.not_lt_zero _), fun i j _ _ _ h => absurd h (Nat.not_lt_zero _)⟩
  | n + 1, hn => by
    rcases pl_upto xs n (by omega) with h | ⟨k, R, h1, h2, h3⟩
    · have hlt : n < xs.length := by omega
      by_cases hx : 1 ≤ xs[n] ∧ xs[n] < 1013
      · by_cases hm : ∃ (m : Nat) (hm : m < xs.length), m < n ∧ xs[m] = xs[n]
        · exact .inr ⟨n, 7, by omega, h, hlt, .inr ⟨hx, hm, rfl⟩⟩
        · refine .inl ⟨fun i hi hik => ?_, fun i j hi hj hij hjk => ?_⟩
          · by_cases e : i = n
            · subst e; exact hx
            · exact h.1 i hi (by omega)
          · by_cases e : j = n
            · subst e; exact fun e2 => hm ⟨i, hi, hij, e2⟩
            · exact h.2 i j hi hj hij (by omega)
      · exact .inr ⟨n, 1, by omega, h, hlt, .inl ⟨hx, rfl⟩⟩
    · exact .inr ⟨k, R, by omega, h2, h3⟩
/-- What is wrong with some places: four ways. -/
theorem pl_cases (xs : List Int) : 12 < xs.length ∨ xs.length = 0 ∨ (1 ≤ xs.length ∧ xs.length ≤ 12 ∧ PlOk xs xs.length) ∨ (1 ≤ xs.length ∧ xs.length ≤ 12 ∧ ∃ k R, k < xs.length ∧ PlOk xs k ∧ PlBad xs k R) := by
  by_cases h1 : 12 < xs.length
  · exact .inl h1
  · by_cases h2 : xs.length = 0
    · exact .inr (.inl h2)
    · rcases pl_upto xs xs.length (Nat.le_refl _) with h | h
      · exact .inr (.inr (.inl ⟨by omega, by omega, h⟩))
      · exact .inr (.inr (.inr ⟨by omega, by omega, h⟩))
theorem PlOk.s {xs : List Int} (h : PlOk xs xs.length) : ∀ i (h : i < xs.length), 1 ≤ xs[i] ∧ xs[i] < 1013 := fun i hi => h.1 i hi hi
theorem PlOk.d {xs : List Int} (h : PlOk xs xs.length) : ∀ i j (hi : i < xs.length) (hj : j < xs.length), i < j → xs[i] ≠ xs[j] := fun i j hi hj hij => h.2 i j hi hj hij hj
end Go.Proofs.YtjjmelhhalomaaaGreatDoor
namespace Go.Proofs.YtjjmelhhalomaaaGreatDoor
open Go.RowKit
set_option maxRecDepth 100000
set_option linter.unusedVariables false
set_option linter.unusedSimpArgs false
theorem wpl_append_intb {w : World} {ops : Array Oper} {rest : List Oper} {o : Oper} {a : Act} {Q : Exit → Act → World → Prop} (hgd : o.guard = none) (s x : Operand) (t : TypeId)
    (ho : o.op = .call { callee := .builtin .append, args := #[s, x], argTypes := #[t, t] }) (ht : Tryz.prog.underlying t = some (.slice 3)) (B : Nat) (v : Value) (l : List Int) (n : Nat) (hs : a.eval s = v)
    (hown : w.ownsRow B 3 1 v n (l.map (Value.int .i64))) (hn : l.length = n) (hl : (n + 1) * 8 ≤ 140737488355328) (hB : B ≤ w.heap.size) (g : Nat) (c : Int) (hx : a.eval x = .slice (some ⟨g, 0, none⟩) 1 1)
    (h0 : w.cell? ⟨g, 0, none⟩ = some (.int .i64 c))
    (h : ∀ v' w', w'.ownsRow B 3 1 v' (n + 1) ((l ++ [c]).map (Value.int .i64)) → w.grownBy w' v.ownBlock → (∀ a, Below B a w → Below B a w') → (v'.ownBlock = v.ownBlock ∨ v'.ownBlock = some w.heap.size) → wpList Tryz.prog ops Q rest (a.put o.dst v') w') :
    wpList Tryz.prog ops Q (o :: rest) a w := by
  obtain ⟨i0, hi, hz0, hz1, hz2⟩ := info_parts info_int
  refine wpList_append_own_at _ hgd s x _ ho B _ i0 _ 1 8 ht hi hz0 hz1 hz2 rfl (by decide) v n _ hs hown ⟨g, 0, none⟩ 1 1 [.int .i64 c] hx rfl ?_ ?_ (by unfold maxLen; omega) hl hB ?_
  · intro j u hj
    have e : ∀ k, (⟨g, 0, none⟩ : Addr).add k = ⟨g, k, none⟩ := fun k => by rw [add_none, Nat.zero_add]
    rw [e]
    match j, hj with
    | 0, hj => cases hj; exact h0
  · intro u hu
    simp only [List.mem_cons, List.not_mem_nil, or_false] at hu
    subst hu; rfl
  · intro v' w' h3 h4 _ h6
    rw [show l.map (Value.int .i64) ++ [.int .i64 c] = (l ++ [c]).map (Value.int .i64) by simp] at h3
    exact h v' w' h3 h4 (fun a hb => Below.grown hb h4 hB (fun k hk => (hown.lt k hk).1)) h6
set_option maxHeartbeats 4000000 in
theorem rvalue_c (l : List Int) (v : Value) (x V : Int) (w : World) (h2 : l.length ≤ 12) (hok : l.all okR = true) (x0 : 0 ≤ x) (x1 : x < 1013) (h : IntSl w v l) (hV : Hid (val x l = V)) :
    Calls Tryz.prog 77 #[v, .int .i64 x] w fun e w' => e = .returned (.int .i64 V) ∧ w = w' := by
  obtain ⟨a, cap, rfl, h0⟩ := h
  have hbd := Lib.hid (fwd_bd x l)
  have hend : Hid ((fwd x l l.length).1 = V) := by rw [fwd_val]; exact hV
  have hst : Hid (∀ n (h : n < l.length), fwd x l (n + 1) = (((fwd x l n).1 + l[n] * (fwd x l n).2) % 1013, (fwd x l n).2 * x % 1013)) := Lib.hid fun n h => by rw [fwd, gD h]
  have hu0 : Hid (fwd x l 0 = (0, 1)) := Lib.hid rfl
  have hall := Lib.hid (fun i (hi : i < l.length) => okR_y (all_okR hok i hi))
  generalize fwd x l = fw at *
  replace h0 := Lib.hid h0
  clear hV hok
  go_enter Tryz.func77, Tryz.ntmps77
  go_wp2
  go_loop [5, 6, 7] (fun p q k => ∃ m : Nat, m ≤ l.length ∧ k = .int .i64 m ∧ p = .int .i64 (fw m).1 ∧ q = .int .i64 (fw m).2) (fun _ _ k => l.length - (intOf k).toNat)
  case atStart => exact ⟨0, Nat.zero_le _, rfl, by rw [hu0.out], by rw [hu0.out]⟩
  case round =>
    obtain ⟨m, hm, rfl, rfl, rfl⟩ := hrel
    by_cases hlt : m < l.length
    · obtain ⟨b, off, rfl, hI⟩ := h0.out (by omega)
      have m1 := hI.c m hlt
      have m2 := hI.lt
      have hstep := hst.out m hlt
      obtain ⟨c0, c1⟩ := hall.out m hlt
      obtain ⟨⟨q0, q1⟩, d0, d1⟩ := hbd.out m
      clear hI
      generalize (fw m).1 = q at *
      generalize (fw m).2 = d at *
      generalize l[m] = c at *
      obtain ⟨p1, p2⟩ := mul_bq c0 c1 d0 d1
      obtain ⟨p3, p4⟩ := mul_bq d0 d1 x0 x1
      have f1 : IntKind.i64.wrap (c * d) = c * d := IntWalk.i64_in _ (by omega)
      have f2 : IntKind.i64.wrap (q + c * d) = q + c * d := IntWalk.i64_in _ (by omega)
      have f3 : (q + c * d).tmod 1013 = (q + c * d) % 1013 := Int.tmod_eq_emod_of_nonneg (by omega)
      have f4 : IntKind.i64.wrap (d * x) = d * x := IntWalk.i64_in _ (by omega)
      have f5 : (d * x).tmod 1013 = (d * x) % 1013 := Int.tmod_eq_emod_of_nonneg p3
      replace hstep := Lib.hid hstep
      go_wp2
      go_round
      case rel => exact ⟨m + 1, by omega, by go_num, by rw [hstep.out], by rw [hstep.out]⟩
      case measure => simp [intOf]; omega
    · obtain rfl : m = l.length := by omega
      go_wp2
      go_ret
      exact ⟨ret_int hend.out, rfl⟩
end Go.Proofs.YtjjmelhhalomaaaGreatDoor
namespace Go.Proofs.YtjjmelhhalomaaaGreatDoor
open Go.RowKit
set_option maxRecDepth 100000
set_option linter.unusedVariables false
set_option linter.unusedSimpArgs false
attribute [local go_sem ↓] Go.wp_at_zero Go.wp_at_succ
def arrV (a b c : Nat) : Value := .agg #[.int .i64 (a : Int), .int .i64 (b : Int), .int .i64 (c : Int)]
/-- What a word's answer is. -/
def AnsC (W : ByteArray) (n0 n1 n2 : Nat) (t : List UInt8) (w : World) (out : List UInt8) : Prop :=
  Calls Tryz.prog 35 #[.string W, arrV n0 n1 n2, .string (bS t)] w fun e w' => e = .returned (.string (bS out)) ∧ Below w.heap.size w w'
theorem beqF {W : ByteArray} {l m : List UInt8} (h : W.toList = l) (hn : l ≠ m) : (W.toList == m) = false := by rw [h, beq_eq_false_iff_ne]; exact hn
theorem beqT {W : ByteArray} {l : List UInt8} (h : W.toList = l) : (W.toList == l) = true := by rw [h]; simp
theorem jT_hid (t : List UInt8) : Hid (hSpot t = sq (4 * jT t)) := Lib.hid (jT_spec t).2.2
set_option maxHeartbeats 8000000 in
theorem ans_base (W : ByteArray) (hW : W.toList = [98, 97, 115, 101]) (n0 n1 n2 : Nat) (t : List UInt8) (w : World) (hF : FarAt w) (h0 : n0 < 10000) (h1 : n1 < 10000) (h2 : n2 < 10000) (ht : t.length ≤ 3000) : AnsC W n0 n1 n2 t w (toldB (sq (4 * (n0 : Int)))) := by
  unfold AnsC arrV
  have hz := bS_size t
  have hF' := Lib.hid hF
  clear hF
  have e0 : (W.toList == [98, 97, 115, 101]) = true := beqT hW
  clear hW
  obtain ⟨a, ha⟩ : ∃ x, secB (n0 : Int) = x := ⟨_, rfl⟩
  obtain ⟨b, hb⟩ : ∃ x, secB (n1 : Int) = x := ⟨_, rfl⟩
  obtain ⟨c, hc⟩ : ∃ x, resB (n0 : Int) = x := ⟨_, rfl⟩
  obtain ⟨d, hd⟩ : ∃ x, resB (n1 : Int) = x := ⟨_, rfl⟩
  obtain ⟨P, hP⟩ : ∃ P, sq (4 * (n0 : Int)) = P := ⟨_, rfl⟩
  have oP : Sm P := Sm.of_ok (by rw [← hP]; exact sq_ok _)
  rw [hP]
  replace hP := Lib.hid hP
  replace oP := Lib.hid oP
  replace ha := Lib.hid ha
  replace hb := Lib.hid hb
  replace hc := Lib.hid hc
  replace hd := Lib.hid hd
  go_enter Tryz.func35, Tryz.ntmps35
  go_wp2_with fail
  refine (rSecret_b _ a _ ha).mono ?_; rintro e w1 ⟨rfl, rfl⟩
  go_wp2_with fail
  refine (rSecret_b _ b _ hb).mono ?_; rintro e w1 ⟨rfl, rfl⟩
  go_wp2_with fail
  refine (rRest_b _ c _ hc).mono ?_; rintro e w1 ⟨rfl, rfl⟩
  go_wp2_with fail
  refine (rRest_b _ d _ hd).mono ?_; rintro e w1 ⟨rfl, rfl⟩
  go_wp2_with fail
  refine (refBy_e (n0 : Int) P _ (by omega) (by omega) hP).mono ?_; rintro e w1 ⟨rfl, hb⟩
  have hB1 := Lib.hid (below_seq (below_alloc w (.cells #[.int .i64 (n0 : Int), .int .i64 (n1 : Int), .int .i64 (n2 : Int)] 74)) hb)
  clear hb
  go_wp2_with fail
  refine (rtold_c P _ oP.out).mono ?_; rintro e w2 ⟨rfl, hb⟩
  have hB2 := Lib.hid (below_seq hB1.out hb)
  clear hb
  go_wp2
  go_ret
  exact ⟨rfl, hB2.out⟩
set_option maxHeartbeats 8000000 in
theorem ans_lift_1 (W : ByteArray) (hW : W.toList = [108, 105, 102, 116]) (n0 n1 n2 : Nat) (t : List UInt8) (w : World) (hF : FarAt w) (h0 : n0 < 10000) (h1 : n1 < 10000) (h2 : n2 < 10000) (ht : t.length ≤ 3000) (hn : 4051 ≤ n0) : AnsC W n0 n1 n2 t w (nameB 1) := by
  unfold AnsC arrV
  have hz := bS_size t
  have hF' := Lib.hid hF
  clear hF
  have e0 : (W.toList == [98, 97, 115, 101]) = false := beqF hW (by decide)
  have e1 : (W.toList == [108, 105, 102, 116]) = true := beqT hW
  clear hW
  obtain ⟨a, ha⟩ : ∃ x, secB (n0 : Int) = x := ⟨_, rfl⟩
  obtain ⟨b, hb⟩ : ∃ x, secB (n1 : Int) = x := ⟨_, rfl⟩
  obtain ⟨c, hc⟩ : ∃ x, resB (n0 : Int) = x := ⟨_, rfl⟩
  obtain ⟨d, hd⟩ : ∃ x, resB (n1 : Int) = x := ⟨_, rfl⟩
  have g0 : decide ((4051 : Int) ≤ (n0 : Int)) = true := by rw [decide_eq_true_iff]; omega
  replace ha := Lib.hid ha
  replace hb := Lib.hid hb
  replace hc := Lib.hid hc
  replace hd := Lib.hid hd
  go_enter Tryz.func35, Tryz.ntmps35
  go_wp2_with fail
  refine (rSecret_b _ a _ ha).mono ?_; rintro e w1 ⟨rfl, rfl⟩
  go_wp2_with fail
  refine (rSecret_b _ b _ hb).mono ?_; rintro e w1 ⟨rfl, rfl⟩
  go_wp2_with fail
  refine (rRest_b _ c _ hc).mono ?_; rintro e w1 ⟨rfl, rfl⟩
  go_wp2_with fail
  refine (rRest_b _ d _ hd).mono ?_; rintro e w1 ⟨rfl, rfl⟩
  go_wp2_with fail
  refine (rname_c 1 _ (by decide)).mono ?_; rintro e w1 ⟨rfl, hb⟩
  have hB1 := Lib.hid (below_seq (below_alloc w (.cells #[.int .i64 (n0 : Int), .int .i64 (n1 : Int), .int .i64 (n2 : Int)] 74)) hb)
  clear hb
  go_wp2
  go_ret
  exact ⟨rfl, hB1.out⟩
set_option maxHeartbeats 8000000 in
theorem ans_lift_5 (W : ByteArray) (hW : W.toList = [108, 105, 102, 116]) (n0 n1 n2 : Nat) (t : List UInt8) (w : World) (hF : FarAt w) (h0 : n0 < 10000) (h1 : n1 < 10000) (h2 : n2 < 10000) (ht : t.length ≤ 3000) (hn : n0 < 4051) (hs : isSq (height (n0 : Int)) = false) : AnsC W n0 n1 n2 t w (nameB 5) := by
  unfold AnsC arrV
  have hz := bS_size t
  have hF' := Lib.hid hF
  clear hF
  have e0 : (W.toList == [98, 97, 115, 101]) = false := beqF hW (by decide)
  have e1 : (W.toList == [108, 105, 102, 116]) = true := beqT hW
  clear hW
  obtain ⟨a, ha⟩ : ∃ x, secB (n0 : Int) = x := ⟨_, rfl⟩
  obtain ⟨b, hb⟩ : ∃ x, secB (n1 : Int) = x := ⟨_, rfl⟩
  obtain ⟨c, hc⟩ : ∃ x, resB (n0 : Int) = x := ⟨_, rfl⟩
  obtain ⟨d, hd⟩ : ∃ x, resB (n1 : Int) = x := ⟨_, rfl⟩
  have g0 : decide ((4051 : Int) ≤ (n0 : Int)) = false := by rw [decide_eq_false_iff_not]; omega
  have hi : inside (n0 : Int) = true := ins_iff.mpr ⟨by omega, by omega⟩
  have kL := Lib.hid (fun w => refLift_n (n0 : Int) w hi hs)
  clear hs hi
  replace ha := Lib.hid ha
  replace hb := Lib.hid hb
  replace hc := Lib.hid hc
  replace hd := Lib.hid hd
  go_enter Tryz.func35, Tryz.ntmps35
  go_wp2_with fail
  refine (rSecret_b _ a _ ha).mono ?_; rintro e w1 ⟨rfl, rfl⟩
  go_wp2_with fail
  refine (rSecret_b _ b _ hb).mono ?_; rintro e w1 ⟨rfl, rfl⟩
  go_wp2_with fail
  refine (rRest_b _ c _ hc).mono ?_; rintro e w1 ⟨rfl, rfl⟩
  go_wp2_with fail
  refine (rRest_b _ d _ hd).mono ?_; rintro e w1 ⟨rfl, rfl⟩
  go_wp2_with fail
  refine (kL.out _).mono ?_; rintro e w1 ⟨rfl, hb⟩
  have hB1 := Lib.hid (below_seq (below_alloc w (.cells #[.int .i64 (n0 : Int), .int .i64 (n1 : Int), .int .i64 (n2 : Int)] 74)) hb)
  clear hb
  go_wp2_with fail
  refine (rname_c 5 _ (by decide)).mono ?_; rintro e w2 ⟨rfl, hb⟩
  have hB2 := Lib.hid (below_seq (balloc hB1.out _) hb)
  clear hb
  go_wp2
  go_ret
  exact ⟨rfl, hB2.out⟩
set_option maxHeartbeats 8000000 in
theorem ans_lift_y (W : ByteArray) (hW : W.toList = [108, 105, 102, 116]) (n0 n1 n2 : Nat) (t : List UInt8) (w : World) (hF : FarAt w) (h0 : n0 < 10000) (h1 : n1 < 10000) (h2 : n2 < 10000) (ht : t.length ≤ 3000) (hn : n0 < 4051) (hs : isSq (height (n0 : Int)) = true) : AnsC W n0 n1 n2 t w (toldB (lifted (n0 : Int))) := by
  unfold AnsC arrV
  have hz := bS_size t
  have hF' := Lib.hid hF
  clear hF
  have e0 : (W.toList == [98, 97, 115, 101]) = false := beqF hW (by decide)
  have e1 : (W.toList == [108, 105, 102, 116]) = true := beqT hW
  clear hW
  obtain ⟨a, ha⟩ : ∃ x, secB (n0 : Int) = x := ⟨_, rfl⟩
  obtain ⟨b, hb⟩ : ∃ x, secB (n1 : Int) = x := ⟨_, rfl⟩
  obtain ⟨c, hc⟩ : ∃ x, resB (n0 : Int) = x := ⟨_, rfl⟩
  obtain ⟨d, hd⟩ : ∃ x, resB (n1 : Int) = x := ⟨_, rfl⟩
  have g0 : decide ((4051 : Int) ≤ (n0 : Int)) = false := by rw [decide_eq_false_iff_not]; omega
  have hi : inside (n0 : Int) = true := ins_iff.mpr ⟨by omega, by omega⟩
  obtain ⟨P, hP⟩ : ∃ P, lifted (n0 : Int) = P := ⟨_, rfl⟩
  have oP : Sm P := Sm.of_ok (by rw [← hP]; exact lifted_ok hi hs)
  rw [hP]
  have kL := Lib.hid (fun w => refLift_y (n0 : Int) P w hi hs (Lib.hid hP))
  replace oP := Lib.hid oP
  clear hs hi hP
  replace ha := Lib.hid ha
  replace hb := Lib.hid hb
  replace hc := Lib.hid hc
  replace hd := Lib.hid hd
  go_enter Tryz.func35, Tryz.ntmps35
  go_wp2_with fail
  refine (rSecret_b _ a _ ha).mono ?_; rintro e w1 ⟨rfl, rfl⟩
  go_wp2_with fail
  refine (rSecret_b _ b _ hb).mono ?_; rintro e w1 ⟨rfl, rfl⟩
  go_wp2_with fail
  refine (rRest_b _ c _ hc).mono ?_; rintro e w1 ⟨rfl, rfl⟩
  go_wp2_with fail
  refine (rRest_b _ d _ hd).mono ?_; rintro e w1 ⟨rfl, rfl⟩
  go_wp2_with fail
  refine (kL.out _).mono ?_; rintro e w1 ⟨rfl, hb⟩
  have hB1 := Lib.hid (below_seq (below_alloc w (.cells #[.int .i64 (n0 : Int), .int .i64 (n1 : Int), .int .i64 (n2 : Int)] 74)) hb)
  clear hb
  go_wp2_with fail
  refine (rtold_c P _ oP.out).mono ?_; rintro e w2 ⟨rfl, hb⟩
  have hB2 := Lib.hid (below_seq (balloc hB1.out _) hb)
  clear hb
  go_wp2
  go_ret
  exact ⟨rfl, hB2.out⟩
set_option maxHeartbeats 8000000 in
theorem ans_order (W : ByteArray) (hW : W.toList = [111, 114, 100, 101, 114]) (n0 n1 n2 : Nat) (t : List UInt8) (w : World) (hF : FarAt w) (h0 : n0 < 10000) (h1 : n1 < 10000) (h2 : n2 < 10000) (ht : t.length ≤ 3000) : AnsC W n0 n1 n2 t w (joinN [(ordOf (4 * (n0 : Int))).toNat]) := by
  unfold AnsC arrV
  have hz := bS_size t
  have hF' := Lib.hid hF
  clear hF
  have e0 : (W.toList == [98, 97, 115, 101]) = false := beqF hW (by decide)
  have e1 : (W.toList == [108, 105, 102, 116]) = false := beqF hW (by decide)
  have e2 : (W.toList == [111, 114, 100, 101, 114]) = true := beqT hW
  clear hW
  obtain ⟨a, ha⟩ : ∃ x, secB (n0 : Int) = x := ⟨_, rfl⟩
  obtain ⟨b, hb⟩ : ∃ x, secB (n1 : Int) = x := ⟨_, rfl⟩
  obtain ⟨c, hc⟩ : ∃ x, resB (n0 : Int) = x := ⟨_, rfl⟩
  obtain ⟨d, hd⟩ : ∃ x, resB (n1 : Int) = x := ⟨_, rfl⟩
  obtain ⟨P, hP⟩ : ∃ P, sq (4 * (n0 : Int)) = P := ⟨_, rfl⟩
  obtain ⟨k, hk, hk2⟩ : ∃ k : Nat, ordOf (4 * (n0 : Int)) = (k : Int) ∧ k < 1000000 := ⟨(ordOf (4 * (n0 : Int))).toNat, by have := ordOf_bd (4 * (n0 : Int)); omega, by have := ordOf_bd (4 * (n0 : Int)); omega⟩
  rw [hk, Int.toNat_natCast, joinN_one]
  replace hP := Lib.hid hP
  have hP2 : Hid (P = sq (4 * (n0 : Int))) := Lib.hid hP.out.symm
  replace hk := Lib.hid hk
  replace ha := Lib.hid ha
  replace hb := Lib.hid hb
  replace hc := Lib.hid hc
  replace hd := Lib.hid hd
  go_enter Tryz.func35, Tryz.ntmps35
  go_wp2_with fail
  refine (rSecret_b _ a _ ha).mono ?_; rintro e w1 ⟨rfl, rfl⟩
  go_wp2_with fail
  refine (rSecret_b _ b _ hb).mono ?_; rintro e w1 ⟨rfl, rfl⟩
  go_wp2_with fail
  refine (rRest_b _ c _ hc).mono ?_; rintro e w1 ⟨rfl, rfl⟩
  go_wp2_with fail
  refine (rRest_b _ d _ hd).mono ?_; rintro e w1 ⟨rfl, rfl⟩
  go_wp2_with fail
  refine (refBy_e (n0 : Int) P _ (by omega) (by omega) hP).mono ?_; rintro e w1 ⟨rfl, hb⟩
  have hB1 := Lib.hid (below_seq (below_alloc w (.cells #[.int .i64 (n0 : Int), .int .i64 (n1 : Int), .int .i64 (n2 : Int)] 74)) hb)
  clear hb
  go_wp2_with fail
  refine (refOrder_e P _ (k : Int) _ hP2 hk).mono ?_; rintro e w2 ⟨rfl, hb⟩
  have hB2 := Lib.hid (below_seq hB1.out hb)
  clear hb
  go_wp2_with fail
  refine (digits_c k _ hk2).mono ?_; rintro e w3 ⟨rfl, hw⟩
  obtain rfl := hw.symm
  go_wp2
  go_ret
  exact ⟨rfl, hB2.out⟩
set_option maxHeartbeats 8000000 in
theorem ans_hash (W : ByteArray) (hW : W.toList = [104, 97, 115, 104]) (n0 n1 n2 : Nat) (t : List UInt8) (w : World) (hF : FarAt w) (h0 : n0 < 10000) (h1 : n1 < 10000) (h2 : n2 < 10000) (ht : t.length ≤ 3000) : AnsC W n0 n1 n2 t w (joinN [(hnum t).toNat]) := by
  unfold AnsC arrV
  have hz := bS_size t
  have hF' := Lib.hid hF
  clear hF
  have e0 : (W.toList == [98, 97, 115, 101]) = false := beqF hW (by decide)
  have e1 : (W.toList == [108, 105, 102, 116]) = false := beqF hW (by decide)
  have e2 : (W.toList == [111, 114, 100, 101, 114]) = false := beqF hW (by decide)
  have e3 : (W.toList == [104, 97, 115, 104]) = true := beqT hW
  clear hW
  obtain ⟨a, ha⟩ : ∃ x, secB (n0 : Int) = x := ⟨_, rfl⟩
  obtain ⟨b, hb⟩ : ∃ x, secB (n1 : Int) = x := ⟨_, rfl⟩
  obtain ⟨c, hc⟩ : ∃ x, resB (n0 : Int) = x := ⟨_, rfl⟩
  obtain ⟨d, hd⟩ : ∃ x, resB (n1 : Int) = x := ⟨_, rfl⟩
  obtain ⟨k, hk, hk2⟩ : ∃ k : Nat, hnum t = (k : Int) ∧ k < 1000000 := ⟨(hnum t).toNat, by have := hnum_bd t; omega, by have := hnum_bd t; omega⟩
  rw [hk, Int.toNat_natCast, joinN_one]
  have kN := Lib.hid (fun w => refNumber_n (bS t) (k : Int) w (by rw [hz]; omega) (Lib.hid (by rw [bS_list]; exact hk)))
  clear hk
  replace ha := Lib.hid ha
  replace hb := Lib.hid hb
  replace hc := Lib.hid hc
  replace hd := Lib.hid hd
  go_enter Tryz.func35, Tryz.ntmps35
  go_wp2_with fail
  refine (rSecret_b _ a _ ha).mono ?_; rintro e w1 ⟨rfl, rfl⟩
  go_wp2_with fail
  refine (rSecret_b _ b _ hb).mono ?_; rintro e w1 ⟨rfl, rfl⟩
  go_wp2_with fail
  refine (rRest_b _ c _ hc).mono ?_; rintro e w1 ⟨rfl, rfl⟩
  go_wp2_with fail
  refine (rRest_b _ d _ hd).mono ?_; rintro e w1 ⟨rfl, rfl⟩
  go_wp2_with fail
  refine (kN.out _).mono ?_; rintro e w1 ⟨rfl, hb⟩
  have hB1 := Lib.hid (below_seq (below_alloc w (.cells #[.int .i64 (n0 : Int), .int .i64 (n1 : Int), .int .i64 (n2 : Int)] 74)) hb)
  clear hb
  go_wp2_with fail
  refine (digits_c k _ hk2).mono ?_; rintro e w3 ⟨rfl, hw⟩
  obtain rfl := hw.symm
  go_wp2
  go_ret
  exact ⟨rfl, hB1.out⟩
set_option maxHeartbeats 8000000 in
theorem ans_hide_1 (W : ByteArray) (hW : W.toList = [104, 105, 100, 101]) (n0 n1 n2 : Nat) (t : List UInt8) (w : World) (hF : FarAt w) (h0 : n0 < 10000) (h1 : n1 < 10000) (h2 : n2 < 10000) (ht : t.length ≤ 3000) (hn : ¬ n0 < 1013) : AnsC W n0 n1 n2 t w (nameB 1) := by
  unfold AnsC arrV
  have hz := bS_size t
  have hF' := Lib.hid hF
  clear hF
  have e0 : (W.toList == [98, 97, 115, 101]) = false := beqF hW (by decide)
  have e1 : (W.toList == [108, 105, 102, 116]) = false := beqF hW (by decide)
  have e2 : (W.toList == [111, 114, 100, 101, 114]) = false := beqF hW (by decide)
  have e3 : (W.toList == [104, 97, 115, 104]) = false := beqF hW (by decide)
  have e4 : (W.toList == [112, 97, 105, 114]) = false := beqF hW (by decide)
  have e5 : (W.toList == [104, 105, 100, 101]) = true := beqT hW
  clear hW
  obtain ⟨a, ha⟩ : ∃ x, secB (n0 : Int) = x := ⟨_, rfl⟩
  obtain ⟨b, hb⟩ : ∃ x, secB (n1 : Int) = x := ⟨_, rfl⟩
  have hc : resB (n0 : Int) = false := decide_eq_false (by omega)
  obtain ⟨d, hd⟩ : ∃ x, resB (n1 : Int) = x := ⟨_, rfl⟩
  replace ha := Lib.hid ha
  replace hb := Lib.hid hb
  replace hc := Lib.hid hc
  replace hd := Lib.hid hd
  go_enter Tryz.func35, Tryz.ntmps35
  go_wp2_with fail
  refine (rSecret_b _ a _ ha).mono ?_; rintro e w1 ⟨rfl, rfl⟩
  go_wp2_with fail
  refine (rSecret_b _ b _ hb).mono ?_; rintro e w1 ⟨rfl, rfl⟩
  go_wp2_with fail
  refine (rRest_b _ false _ hc).mono ?_; rintro e w1 ⟨rfl, rfl⟩
  go_wp2_with fail
  refine (rRest_b _ d _ hd).mono ?_; rintro e w1 ⟨rfl, rfl⟩
  go_wp2_with fail
  refine (rname_c 1 _ (by decide)).mono ?_; rintro e w1 ⟨rfl, hb⟩
  have hB1 := Lib.hid (below_seq (below_alloc w (.cells #[.int .i64 (n0 : Int), .int .i64 (n1 : Int), .int .i64 (n2 : Int)] 74)) hb)
  clear hb
  go_wp2
  go_ret
  exact ⟨rfl, hB1.out⟩
set_option maxHeartbeats 8000000 in
theorem ans_hide_2 (W : ByteArray) (hW : W.toList = [104, 105, 100, 101]) (n0 n1 n2 : Nat) (t : List UInt8) (w : World) (hF : FarAt w) (h0 : n0 < 10000) (h1 : n1 < 10000) (h2 : n2 < 10000) (ht : t.length ≤ 3000) (hn : n0 < 1013) (hm : ¬ n1 < 1013) : AnsC W n0 n1 n2 t w (nameB 1) := by
  unfold AnsC arrV
  have hz := bS_size t
  have hF' := Lib.hid hF
  clear hF
  have e0 : (W.toList == [98, 97, 115, 101]) = false := beqF hW (by decide)
  have e1 : (W.toList == [108, 105, 102, 116]) = false := beqF hW (by decide)
  have e2 : (W.toList == [111, 114, 100, 101, 114]) = false := beqF hW (by decide)
  have e3 : (W.toList == [104, 97, 115, 104]) = false := beqF hW (by decide)
  have e4 : (W.toList == [112, 97, 105, 114]) = false := beqF hW (by decide)
  have e5 : (W.toList == [104, 105, 100, 101]) = true := beqT hW
  clear hW
  obtain ⟨a, ha⟩ : ∃ x, secB (n0 : Int) = x := ⟨_, rfl⟩
  obtain ⟨b, hb⟩ : ∃ x, secB (n1 : Int) = x := ⟨_, rfl⟩
  have hc : resB (n0 : Int) = true := decide_eq_true (by omega)
  have hd : resB (n1 : Int) = false := decide_eq_false (by omega)
  replace ha := Lib.hid ha
  replace hb := Lib.hid hb
  replace hc := Lib.hid hc
  replace hd := Lib.hid hd
  go_enter Tryz.func35, Tryz.ntmps35
  go_wp2_with fail
  refine (rSecret_b _ a _ ha).mono ?_; rintro e w1 ⟨rfl, rfl⟩
  go_wp2_with fail
  refine (rSecret_b _ b _ hb).mono ?_; rintro e w1 ⟨rfl, rfl⟩
  go_wp2_with fail
  refine (rRest_b _ true _ hc).mono ?_; rintro e w1 ⟨rfl, rfl⟩
  go_wp2_with fail
  refine (rRest_b _ false _ hd).mono ?_; rintro e w1 ⟨rfl, rfl⟩
  go_wp2_with fail
  refine (rname_c 1 _ (by decide)).mono ?_; rintro e w1 ⟨rfl, hb⟩
  have hB1 := Lib.hid (below_seq (below_alloc w (.cells #[.int .i64 (n0 : Int), .int .i64 (n1 : Int), .int .i64 (n2 : Int)] 74)) hb)
  clear hb
  go_wp2
  go_ret
  exact ⟨rfl, hB1.out⟩
set_option maxHeartbeats 8000000 in
theorem ans_hide_y (W : ByteArray) (hW : W.toList = [104, 105, 100, 101]) (n0 n1 n2 : Nat) (t : List UInt8) (w : World) (hF : FarAt w) (h0 : n0 < 10000) (h1 : n1 < 10000) (h2 : n2 < 10000) (ht : t.length ≤ 3000) (hn : n0 < 1013) (hm : n1 < 1013) : AnsC W n0 n1 n2 t w (toldB (sq (4 * (n0 : Int) + 4 * hJ * (n1 : Int)))) := by
  unfold AnsC arrV
  have hz := bS_size t
  have hF' := Lib.hid hF
  clear hF
  have e0 : (W.toList == [98, 97, 115, 101]) = false := beqF hW (by decide)
  have e1 : (W.toList == [108, 105, 102, 116]) = false := beqF hW (by decide)
  have e2 : (W.toList == [111, 114, 100, 101, 114]) = false := beqF hW (by decide)
  have e3 : (W.toList == [104, 97, 115, 104]) = false := beqF hW (by decide)
  have e4 : (W.toList == [112, 97, 105, 114]) = false := beqF hW (by decide)
  have e5 : (W.toList == [104, 105, 100, 101]) = true := beqT hW
  clear hW
  obtain ⟨a, ha⟩ : ∃ x, secB (n0 : Int) = x := ⟨_, rfl⟩
  obtain ⟨b, hb⟩ : ∃ x, secB (n1 : Int) = x := ⟨_, rfl⟩
  have hc : resB (n0 : Int) = true := decide_eq_true (by omega)
  have hd : resB (n1 : Int) = true := decide_eq_true (by omega)
  obtain ⟨P, hP⟩ : ∃ P, sq (4 * (n0 : Int) + 4 * hJ * (n1 : Int)) = P := ⟨_, rfl⟩
  have oP : Sm P := Sm.of_ok (by rw [← hP]; exact sq_ok _)
  rw [hP]
  replace hP := Lib.hid hP
  replace oP := Lib.hid oP
  have hF2 := Lib.hid (hF'.out.below (below_alloc w (.cells #[.int .i64 (n0 : Int), .int .i64 (n1 : Int), .int .i64 (n2 : Int)] 74)))
  replace ha := Lib.hid ha
  replace hb := Lib.hid hb
  replace hc := Lib.hid hc
  replace hd := Lib.hid hd
  go_enter Tryz.func35, Tryz.ntmps35
  go_wp2_with fail
  refine (rSecret_b _ a _ ha).mono ?_; rintro e w1 ⟨rfl, rfl⟩
  go_wp2_with fail
  refine (rSecret_b _ b _ hb).mono ?_; rintro e w1 ⟨rfl, rfl⟩
  go_wp2_with fail
  refine (rRest_b _ true _ hc).mono ?_; rintro e w1 ⟨rfl, rfl⟩
  go_wp2_with fail
  refine (rRest_b _ true _ hd).mono ?_; rintro e w1 ⟨rfl, rfl⟩
  go_wp2_with fail
  refine (rHide_e (n0 : Int) (n1 : Int) P _ hF2.out (by omega) (by omega) (by omega) (by omega) hP).mono ?_; rintro e w1 ⟨rfl, hb⟩
  have hB1 := Lib.hid (below_seq (below_alloc w (.cells #[.int .i64 (n0 : Int), .int .i64 (n1 : Int), .int .i64 (n2 : Int)] 74)) hb)
  clear hb
  go_wp2_with fail
  refine (rtold_c P _ oP.out).mono ?_; rintro e w2 ⟨rfl, hb⟩
  have hB2 := Lib.hid (below_seq hB1.out hb)
  clear hb
  go_wp2
  go_ret
  exact ⟨rfl, hB2.out⟩
set_option maxHeartbeats 8000000 in
theorem ans_short_1 (W : ByteArray) (hW : W.toList = [115, 104, 111, 114, 116]) (n0 n1 n2 : Nat) (t : List UInt8) (w : World) (hF : FarAt w) (h0 : n0 < 10000) (h1 : n1 < 10000) (h2 : n2 < 10000) (ht : t.length ≤ 3000) (hn : ¬ (1 ≤ n0 ∧ n0 < 1013)) : AnsC W n0 n1 n2 t w (nameB 1) := by
  unfold AnsC arrV
  have hz := bS_size t
  have hF' := Lib.hid hF
  clear hF
  have e0 : (W.toList == [98, 97, 115, 101]) = false := beqF hW (by decide)
  have e1 : (W.toList == [108, 105, 102, 116]) = false := beqF hW (by decide)
  have e2 : (W.toList == [111, 114, 100, 101, 114]) = false := beqF hW (by decide)
  have e3 : (W.toList == [104, 97, 115, 104]) = false := beqF hW (by decide)
  have e4 : (W.toList == [112, 97, 105, 114]) = false := beqF hW (by decide)
  have e5 : (W.toList == [104, 105, 100, 101]) = false := beqF hW (by decide)
  have e6 : (W.toList == [115, 104, 111, 114, 116]) = true := beqT hW
  clear hW
  have ha : secB (n0 : Int) = false := decide_eq_false (by omega)
  obtain ⟨b, hb⟩ : ∃ x, secB (n1 : Int) = x := ⟨_, rfl⟩
  obtain ⟨c, hc⟩ : ∃ x, resB (n0 : Int) = x := ⟨_, rfl⟩
  obtain ⟨d, hd⟩ : ∃ x, resB (n1 : Int) = x := ⟨_, rfl⟩
  replace ha := Lib.hid ha
  replace hb := Lib.hid hb
  replace hc := Lib.hid hc
  replace hd := Lib.hid hd
  go_enter Tryz.func35, Tryz.ntmps35
  go_wp2_with fail
  refine (rSecret_b _ false _ ha).mono ?_; rintro e w1 ⟨rfl, rfl⟩
  go_wp2_with fail
  refine (rSecret_b _ b _ hb).mono ?_; rintro e w1 ⟨rfl, rfl⟩
  go_wp2_with fail
  refine (rRest_b _ c _ hc).mono ?_; rintro e w1 ⟨rfl, rfl⟩
  go_wp2_with fail
  refine (rRest_b _ d _ hd).mono ?_; rintro e w1 ⟨rfl, rfl⟩
  go_wp2_with fail
  refine (rname_c 1 _ (by decide)).mono ?_; rintro e w1 ⟨rfl, hb⟩
  have hB1 := Lib.hid (below_seq (below_alloc w (.cells #[.int .i64 (n0 : Int), .int .i64 (n1 : Int), .int .i64 (n2 : Int)] 74)) hb)
  clear hb
  go_wp2
  go_ret
  exact ⟨rfl, hB1.out⟩
set_option maxHeartbeats 8000000 in
theorem ans_short_4 (W : ByteArray) (hW : W.toList = [115, 104, 111, 114, 116]) (n0 n1 n2 : Nat) (t : List UInt8) (w : World) (hF : FarAt w) (h0 : n0 < 10000) (h1 : n1 < 10000) (h2 : n2 < 10000) (ht : t.length ≤ 3000) (hn : 1 ≤ n0 ∧ n0 < 1013) (hl : 60 < t.length) : AnsC W n0 n1 n2 t w (nameB 4) := by
  unfold AnsC arrV
  have hz := bS_size t
  have hF' := Lib.hid hF
  clear hF
  have e0 : (W.toList == [98, 97, 115, 101]) = false := beqF hW (by decide)
  have e1 : (W.toList == [108, 105, 102, 116]) = false := beqF hW (by decide)
  have e2 : (W.toList == [111, 114, 100, 101, 114]) = false := beqF hW (by decide)
  have e3 : (W.toList == [104, 97, 115, 104]) = false := beqF hW (by decide)
  have e4 : (W.toList == [112, 97, 105, 114]) = false := beqF hW (by decide)
  have e5 : (W.toList == [104, 105, 100, 101]) = false := beqF hW (by decide)
  have e6 : (W.toList == [115, 104, 111, 114, 116]) = true := beqT hW
  clear hW
  have ha : secB (n0 : Int) = true := decide_eq_true (by omega)
  obtain ⟨b, hb⟩ : ∃ x, secB (n1 : Int) = x := ⟨_, rfl⟩
  obtain ⟨c, hc⟩ : ∃ x, resB (n0 : Int) = x := ⟨_, rfl⟩
  obtain ⟨d, hd⟩ : ∃ x, resB (n1 : Int) = x := ⟨_, rfl⟩
  replace ha := Lib.hid ha
  replace hb := Lib.hid hb
  replace hc := Lib.hid hc
  replace hd := Lib.hid hd
  go_enter Tryz.func35, Tryz.ntmps35
  go_wp2_with fail
  refine (rSecret_b _ true _ ha).mono ?_; rintro e w1 ⟨rfl, rfl⟩
  go_wp2_with fail
  refine (rSecret_b _ b _ hb).mono ?_; rintro e w1 ⟨rfl, rfl⟩
  go_wp2_with fail
  refine (rRest_b _ c _ hc).mono ?_; rintro e w1 ⟨rfl, rfl⟩
  go_wp2_with fail
  refine (rRest_b _ d _ hd).mono ?_; rintro e w1 ⟨rfl, rfl⟩
  go_wp2_with fail
  refine (rname_c 4 _ (by decide)).mono ?_; rintro e w1 ⟨rfl, hb⟩
  have hB1 := Lib.hid (below_seq (below_alloc w (.cells #[.int .i64 (n0 : Int), .int .i64 (n1 : Int), .int .i64 (n2 : Int)] 74)) hb)
  clear hb
  go_wp2
  go_ret
  exact ⟨rfl, hB1.out⟩
set_option maxHeartbeats 8000000 in
theorem ans_sign_1 (W : ByteArray) (hW : W.toList = [115, 105, 103, 110]) (n0 n1 n2 : Nat) (t : List UInt8) (w : World) (hF : FarAt w) (h0 : n0 < 10000) (h1 : n1 < 10000) (h2 : n2 < 10000) (ht : t.length ≤ 3000) (hn : ¬ (1 ≤ n0 ∧ n0 < 1013)) : AnsC W n0 n1 n2 t w (nameB 1) := by
  unfold AnsC arrV
  have hz := bS_size t
  have hF' := Lib.hid hF
  clear hF
  have e0 : (W.toList == [98, 97, 115, 101]) = false := beqF hW (by decide)
  have e1 : (W.toList == [108, 105, 102, 116]) = false := beqF hW (by decide)
  have e2 : (W.toList == [111, 114, 100, 101, 114]) = false := beqF hW (by decide)
  have e3 : (W.toList == [104, 97, 115, 104]) = false := beqF hW (by decide)
  have e4 : (W.toList == [112, 97, 105, 114]) = false := beqF hW (by decide)
  have e5 : (W.toList == [104, 105, 100, 101]) = false := beqF hW (by decide)
  have e6 : (W.toList == [115, 104, 111, 114, 116]) = false := beqF hW (by decide)
  have e7 : (W.toList == [115, 105, 103, 110]) = true := beqT hW
  clear hW
  have ha : secB (n0 : Int) = false := decide_eq_false (by omega)
  obtain ⟨b, hb⟩ : ∃ x, secB (n1 : Int) = x := ⟨_, rfl⟩
  obtain ⟨c, hc⟩ : ∃ x, resB (n0 : Int) = x := ⟨_, rfl⟩
  obtain ⟨d, hd⟩ : ∃ x, resB (n1 : Int) = x := ⟨_, rfl⟩
  replace ha := Lib.hid ha
  replace hb := Lib.hid hb
  replace hc := Lib.hid hc
  replace hd := Lib.hid hd
  go_enter Tryz.func35, Tryz.ntmps35
  go_wp2_with fail
  refine (rSecret_b _ false _ ha).mono ?_; rintro e w1 ⟨rfl, rfl⟩
  go_wp2_with fail
  refine (rSecret_b _ b _ hb).mono ?_; rintro e w1 ⟨rfl, rfl⟩
  go_wp2_with fail
  refine (rRest_b _ c _ hc).mono ?_; rintro e w1 ⟨rfl, rfl⟩
  go_wp2_with fail
  refine (rRest_b _ d _ hd).mono ?_; rintro e w1 ⟨rfl, rfl⟩
  go_wp2_with fail
  refine (rname_c 1 _ (by decide)).mono ?_; rintro e w1 ⟨rfl, hb⟩
  have hB1 := Lib.hid (below_seq (below_alloc w (.cells #[.int .i64 (n0 : Int), .int .i64 (n1 : Int), .int .i64 (n2 : Int)] 74)) hb)
  clear hb
  go_wp2
  go_ret
  exact ⟨rfl, hB1.out⟩
set_option maxHeartbeats 8000000 in
theorem ans_sign_2 (W : ByteArray) (hW : W.toList = [115, 105, 103, 110]) (n0 n1 n2 : Nat) (t : List UInt8) (w : World) (hF : FarAt w) (h0 : n0 < 10000) (h1 : n1 < 10000) (h2 : n2 < 10000) (ht : t.length ≤ 3000) (hn : 1 ≤ n0 ∧ n0 < 1013) (hm : ¬ (1 ≤ n1 ∧ n1 < 1013)) : AnsC W n0 n1 n2 t w (nameB 1) := by
  unfold AnsC arrV
  have hz := bS_size t
  have hF' := Lib.hid hF
  clear hF
  have e0 : (W.toList == [98, 97, 115, 101]) = false := beqF hW (by decide)
  have e1 : (W.toList == [108, 105, 102, 116]) = false := beqF hW (by decide)
  have e2 : (W.toList == [111, 114, 100, 101, 114]) = false := beqF hW (by decide)
  have e3 : (W.toList == [104, 97, 115, 104]) = false := beqF hW (by decide)
  have e4 : (W.toList == [112, 97, 105, 114]) = false := beqF hW (by decide)
  have e5 : (W.toList == [104, 105, 100, 101]) = false := beqF hW (by decide)
  have e6 : (W.toList == [115, 104, 111, 114, 116]) = false := beqF hW (by decide)
  have e7 : (W.toList == [115, 105, 103, 110]) = true := beqT hW
  clear hW
  have ha : secB (n0 : Int) = true := decide_eq_true (by omega)
  have hb : secB (n1 : Int) = false := decide_eq_false (by omega)
  obtain ⟨c, hc⟩ : ∃ x, resB (n0 : Int) = x := ⟨_, rfl⟩
  obtain ⟨d, hd⟩ : ∃ x, resB (n1 : Int) = x := ⟨_, rfl⟩
  replace ha := Lib.hid ha
  replace hb := Lib.hid hb
  replace hc := Lib.hid hc
  replace hd := Lib.hid hd
  go_enter Tryz.func35, Tryz.ntmps35
  go_wp2_with fail
  refine (rSecret_b _ true _ ha).mono ?_; rintro e w1 ⟨rfl, rfl⟩
  go_wp2_with fail
  refine (rSecret_b _ false _ hb).mono ?_; rintro e w1 ⟨rfl, rfl⟩
  go_wp2_with fail
  refine (rRest_b _ c _ hc).mono ?_; rintro e w1 ⟨rfl, rfl⟩
  go_wp2_with fail
  refine (rRest_b _ d _ hd).mono ?_; rintro e w1 ⟨rfl, rfl⟩
  go_wp2_with fail
  refine (rname_c 1 _ (by decide)).mono ?_; rintro e w1 ⟨rfl, hb⟩
  have hB1 := Lib.hid (below_seq (below_alloc w (.cells #[.int .i64 (n0 : Int), .int .i64 (n1 : Int), .int .i64 (n2 : Int)] 74)) hb)
  clear hb
  go_wp2
  go_ret
  exact ⟨rfl, hB1.out⟩
set_option maxHeartbeats 8000000 in
theorem ans_sign_4 (W : ByteArray) (hW : W.toList = [115, 105, 103, 110]) (n0 n1 n2 : Nat) (t : List UInt8) (w : World) (hF : FarAt w) (h0 : n0 < 10000) (h1 : n1 < 10000) (h2 : n2 < 10000) (ht : t.length ≤ 3000) (hn : 1 ≤ n0 ∧ n0 < 1013) (hm : 1 ≤ n1 ∧ n1 < 1013) (hl : 60 < t.length) : AnsC W n0 n1 n2 t w (nameB 4) := by
  unfold AnsC arrV
  have hz := bS_size t
  have hF' := Lib.hid hF
  clear hF
  have e0 : (W.toList == [98, 97, 115, 101]) = false := beqF hW (by decide)
  have e1 : (W.toList == [108, 105, 102, 116]) = false := beqF hW (by decide)
  have e2 : (W.toList == [111, 114, 100, 101, 114]) = false := beqF hW (by decide)
  have e3 : (W.toList == [104, 97, 115, 104]) = false := beqF hW (by decide)
  have e4 : (W.toList == [112, 97, 105, 114]) = false := beqF hW (by decide)
  have e5 : (W.toList == [104, 105, 100, 101]) = false := beqF hW (by decide)
  have e6 : (W.toList == [115, 104, 111, 114, 116]) = false := beqF hW (by decide)
  have e7 : (W.toList == [115, 105, 103, 110]) = true := beqT hW
  clear hW
  have ha : secB (n0 : Int) = true := decide_eq_true (by omega)
  have hb : secB (n1 : Int) = true := decide_eq_true (by omega)
  obtain ⟨c, hc⟩ : ∃ x, resB (n0 : Int) = x := ⟨_, rfl⟩
  obtain ⟨d, hd⟩ : ∃ x, resB (n1 : Int) = x := ⟨_, rfl⟩
  replace ha := Lib.hid ha
  replace hb := Lib.hid hb
  replace hc := Lib.hid hc
  replace hd := Lib.hid hd
  go_enter Tryz.func35, Tryz.ntmps35
  go_wp2_with fail
  refine (rSecret_b _ true _ ha).mono ?_; rintro e w1 ⟨rfl, rfl⟩
  go_wp2_with fail
  refine (rSecret_b _ true _ hb).mono ?_; rintro e w1 ⟨rfl, rfl⟩
  go_wp2_with fail
  refine (rRest_b _ c _ hc).mono ?_; rintro e w1 ⟨rfl, rfl⟩
  go_wp2_with fail
  refine (rRest_b _ d _ hd).mono ?_; rintro e w1 ⟨rfl, rfl⟩
  go_wp2_with fail
  refine (rname_c 4 _ (by decide)).mono ?_; rintro e w1 ⟨rfl, hb⟩
  have hB1 := Lib.hid (below_seq (below_alloc w (.cells #[.int .i64 (n0 : Int), .int .i64 (n1 : Int), .int .i64 (n2 : Int)] 74)) hb)
  clear hb
  go_wp2
  go_ret
  exact ⟨rfl, hB1.out⟩
set_option maxHeartbeats 8000000 in
theorem ans_shares_1 (W : ByteArray) (hW : W.toList = [115, 104, 97, 114, 101, 115]) (n0 n1 n2 : Nat) (t : List UInt8) (w : World) (hF : FarAt w) (h0 : n0 < 10000) (h1 : n1 < 10000) (h2 : n2 < 10000) (ht : t.length ≤ 3000) (hn : ¬ n0 < 1013) : AnsC W n0 n1 n2 t w (nameB 1) := by
  unfold AnsC arrV
  have hz := bS_size t
  have hF' := Lib.hid hF
  clear hF
  have e0 : (W.toList == [98, 97, 115, 101]) = false := beqF hW (by decide)
  have e1 : (W.toList == [108, 105, 102, 116]) = false := beqF hW (by decide)
  have e2 : (W.toList == [111, 114, 100, 101, 114]) = false := beqF hW (by decide)
  have e3 : (W.toList == [104, 97, 115, 104]) = false := beqF hW (by decide)
  have e4 : (W.toList == [112, 97, 105, 114]) = false := beqF hW (by decide)
  have e5 : (W.toList == [104, 105, 100, 101]) = false := beqF hW (by decide)
  have e6 : (W.toList == [115, 104, 111, 114, 116]) = false := beqF hW (by decide)
  have e7 : (W.toList == [115, 105, 103, 110]) = false := beqF hW (by decide)
  clear hW
  obtain ⟨a, ha⟩ : ∃ x, secB (n0 : Int) = x := ⟨_, rfl⟩
  obtain ⟨b, hb⟩ : ∃ x, secB (n1 : Int) = x := ⟨_, rfl⟩
  have hc : resB (n0 : Int) = false := decide_eq_false (by omega)
  obtain ⟨d, hd⟩ : ∃ x, resB (n1 : Int) = x := ⟨_, rfl⟩
  replace ha := Lib.hid ha
  replace hb := Lib.hid hb
  replace hc := Lib.hid hc
  replace hd := Lib.hid hd
  go_enter Tryz.func35, Tryz.ntmps35
  go_wp2_with fail
  refine (rSecret_b _ a _ ha).mono ?_; rintro e w1 ⟨rfl, rfl⟩
  go_wp2_with fail
  refine (rSecret_b _ b _ hb).mono ?_; rintro e w1 ⟨rfl, rfl⟩
  go_wp2_with fail
  refine (rRest_b _ false _ hc).mono ?_; rintro e w1 ⟨rfl, rfl⟩
  go_wp2_with fail
  refine (rRest_b _ d _ hd).mono ?_; rintro e w1 ⟨rfl, rfl⟩
  go_wp2_with fail
  refine (rname_c 1 _ (by decide)).mono ?_; rintro e w1 ⟨rfl, hb⟩
  have hB1 := Lib.hid (below_seq (below_alloc w (.cells #[.int .i64 (n0 : Int), .int .i64 (n1 : Int), .int .i64 (n2 : Int)] 74)) hb)
  clear hb
  go_wp2
  go_ret
  exact ⟨rfl, hB1.out⟩
set_option maxHeartbeats 8000000 in
theorem ans_shares_2 (W : ByteArray) (hW : W.toList = [115, 104, 97, 114, 101, 115]) (n0 n1 n2 : Nat) (t : List UInt8) (w : World) (hF : FarAt w) (h0 : n0 < 10000) (h1 : n1 < 10000) (h2 : n2 < 10000) (ht : t.length ≤ 3000) (hn : n0 < 1013) (hm : ¬ n1 < 1013) : AnsC W n0 n1 n2 t w (nameB 1) := by
  unfold AnsC arrV
  have hz := bS_size t
  have hF' := Lib.hid hF
  clear hF
  have e0 : (W.toList == [98, 97, 115, 101]) = false := beqF hW (by decide)
  have e1 : (W.toList == [108, 105, 102, 116]) = false := beqF hW (by decide)
  have e2 : (W.toList == [111, 114, 100, 101, 114]) = false := beqF hW (by decide)
  have e3 : (W.toList == [104, 97, 115, 104]) = false := beqF hW (by decide)
  have e4 : (W.toList == [112, 97, 105, 114]) = false := beqF hW (by decide)
  have e5 : (W.toList == [104, 105, 100, 101]) = false := beqF hW (by decide)
  have e6 : (W.toList == [115, 104, 111, 114, 116]) = false := beqF hW (by decide)
  have e7 : (W.toList == [115, 105, 103, 110]) = false := beqF hW (by decide)
  clear hW
  obtain ⟨a, ha⟩ : ∃ x, secB (n0 : Int) = x := ⟨_, rfl⟩
  obtain ⟨b, hb⟩ : ∃ x, secB (n1 : Int) = x := ⟨_, rfl⟩
  have hc : resB (n0 : Int) = true := decide_eq_true (by omega)
  have hd : resB (n1 : Int) = false := decide_eq_false (by omega)
  replace ha := Lib.hid ha
  replace hb := Lib.hid hb
  replace hc := Lib.hid hc
  replace hd := Lib.hid hd
  go_enter Tryz.func35, Tryz.ntmps35
  go_wp2_with fail
  refine (rSecret_b _ a _ ha).mono ?_; rintro e w1 ⟨rfl, rfl⟩
  go_wp2_with fail
  refine (rSecret_b _ b _ hb).mono ?_; rintro e w1 ⟨rfl, rfl⟩
  go_wp2_with fail
  refine (rRest_b _ true _ hc).mono ?_; rintro e w1 ⟨rfl, rfl⟩
  go_wp2_with fail
  refine (rRest_b _ false _ hd).mono ?_; rintro e w1 ⟨rfl, rfl⟩
  go_wp2_with fail
  refine (rname_c 1 _ (by decide)).mono ?_; rintro e w1 ⟨rfl, hb⟩
  have hB1 := Lib.hid (below_seq (below_alloc w (.cells #[.int .i64 (n0 : Int), .int .i64 (n1 : Int), .int .i64 (n2 : Int)] 74)) hb)
  clear hb
  go_wp2
  go_ret
  exact ⟨rfl, hB1.out⟩
set_option maxHeartbeats 8000000 in
theorem ans_shares_3 (W : ByteArray) (hW : W.toList = [115, 104, 97, 114, 101, 115]) (n0 n1 n2 : Nat) (t : List UInt8) (w : World) (hF : FarAt w) (h0 : n0 < 10000) (h1 : n1 < 10000) (h2 : n2 < 10000) (ht : t.length ≤ 3000) (hn : n0 < 1013) (hm : n1 < 1013) (hk : n2 < 1) : AnsC W n0 n1 n2 t w (nameB 1) := by
  unfold AnsC arrV
  have hz := bS_size t
  have hF' := Lib.hid hF
  clear hF
  have e0 : (W.toList == [98, 97, 115, 101]) = false := beqF hW (by decide)
  have e1 : (W.toList == [108, 105, 102, 116]) = false := beqF hW (by decide)
  have e2 : (W.toList == [111, 114, 100, 101, 114]) = false := beqF hW (by decide)
  have e3 : (W.toList == [104, 97, 115, 104]) = false := beqF hW (by decide)
  have e4 : (W.toList == [112, 97, 105, 114]) = false := beqF hW (by decide)
  have e5 : (W.toList == [104, 105, 100, 101]) = false := beqF hW (by decide)
  have e6 : (W.toList == [115, 104, 111, 114, 116]) = false := beqF hW (by decide)
  have e7 : (W.toList == [115, 105, 103, 110]) = false := beqF hW (by decide)
  clear hW
  obtain ⟨a, ha⟩ : ∃ x, secB (n0 : Int) = x := ⟨_, rfl⟩
  obtain ⟨b, hb⟩ : ∃ x, secB (n1 : Int) = x := ⟨_, rfl⟩
  have hc : resB (n0 : Int) = true := decide_eq_true (by omega)
  have hd : resB (n1 : Int) = true := decide_eq_true (by omega)
  replace ha := Lib.hid ha
  replace hb := Lib.hid hb
  replace hc := Lib.hid hc
  replace hd := Lib.hid hd
  go_enter Tryz.func35, Tryz.ntmps35
  go_wp2_with fail
  refine (rSecret_b _ a _ ha).mono ?_; rintro e w1 ⟨rfl, rfl⟩
  go_wp2_with fail
  refine (rSecret_b _ b _ hb).mono ?_; rintro e w1 ⟨rfl, rfl⟩
  go_wp2_with fail
  refine (rRest_b _ true _ hc).mono ?_; rintro e w1 ⟨rfl, rfl⟩
  go_wp2_with fail
  refine (rRest_b _ true _ hd).mono ?_; rintro e w1 ⟨rfl, rfl⟩
  go_wp2_with fail
  refine (rname_c 1 _ (by decide)).mono ?_; rintro e w1 ⟨rfl, hb⟩
  have hB1 := Lib.hid (below_seq (below_alloc w (.cells #[.int .i64 (n0 : Int), .int .i64 (n1 : Int), .int .i64 (n2 : Int)] 74)) hb)
  clear hb
  go_wp2
  go_ret
  exact ⟨rfl, hB1.out⟩
set_option maxHeartbeats 8000000 in
theorem ans_shares_4 (W : ByteArray) (hW : W.toList = [115, 104, 97, 114, 101, 115]) (n0 n1 n2 : Nat) (t : List UInt8) (w : World) (hF : FarAt w) (h0 : n0 < 10000) (h1 : n1 < 10000) (h2 : n2 < 10000) (ht : t.length ≤ 3000) (hn : n0 < 1013) (hm : n1 < 1013) (hk : 12 < n2) : AnsC W n0 n1 n2 t w (nameB 1) := by
  unfold AnsC arrV
  have hz := bS_size t
  have hF' := Lib.hid hF
  clear hF
  have e0 : (W.toList == [98, 97, 115, 101]) = false := beqF hW (by decide)
  have e1 : (W.toList == [108, 105, 102, 116]) = false := beqF hW (by decide)
  have e2 : (W.toList == [111, 114, 100, 101, 114]) = false := beqF hW (by decide)
  have e3 : (W.toList == [104, 97, 115, 104]) = false := beqF hW (by decide)
  have e4 : (W.toList == [112, 97, 105, 114]) = false := beqF hW (by decide)
  have e5 : (W.toList == [104, 105, 100, 101]) = false := beqF hW (by decide)
  have e6 : (W.toList == [115, 104, 111, 114, 116]) = false := beqF hW (by decide)
  have e7 : (W.toList == [115, 105, 103, 110]) = false := beqF hW (by decide)
  clear hW
  obtain ⟨a, ha⟩ : ∃ x, secB (n0 : Int) = x := ⟨_, rfl⟩
  obtain ⟨b, hb⟩ : ∃ x, secB (n1 : Int) = x := ⟨_, rfl⟩
  have hc : resB (n0 : Int) = true := decide_eq_true (by omega)
  have hd : resB (n1 : Int) = true := decide_eq_true (by omega)
  replace ha := Lib.hid ha
  replace hb := Lib.hid hb
  replace hc := Lib.hid hc
  replace hd := Lib.hid hd
  go_enter Tryz.func35, Tryz.ntmps35
  go_wp2_with fail
  refine (rSecret_b _ a _ ha).mono ?_; rintro e w1 ⟨rfl, rfl⟩
  go_wp2_with fail
  refine (rSecret_b _ b _ hb).mono ?_; rintro e w1 ⟨rfl, rfl⟩
  go_wp2_with fail
  refine (rRest_b _ true _ hc).mono ?_; rintro e w1 ⟨rfl, rfl⟩
  go_wp2_with fail
  refine (rRest_b _ true _ hd).mono ?_; rintro e w1 ⟨rfl, rfl⟩
  go_wp2_with fail
  refine (rname_c 1 _ (by decide)).mono ?_; rintro e w1 ⟨rfl, hb⟩
  have hB1 := Lib.hid (below_seq (below_alloc w (.cells #[.int .i64 (n0 : Int), .int .i64 (n1 : Int), .int .i64 (n2 : Int)] 74)) hb)
  clear hb
  go_wp2
  go_ret
  exact ⟨rfl, hB1.out⟩
end Go.Proofs.YtjjmelhhalomaaaGreatDoor
namespace Go.Proofs.YtjjmelhhalomaaaGreatDoor
open Go.RowKit
set_option maxRecDepth 100000
set_option linter.unusedVariables false
set_option linter.unusedSimpArgs false
attribute [local go_sem ↓] Go.wp_at_zero Go.wp_at_succ
theorem joinN_three (a b c : Nat) : joinN [a, b, c] = Lib.decDigits a ++ 32 :: (Lib.decDigits b ++ 32 :: Lib.decDigits c) := by simp [joinN, Lib.join, List.intercalate]
set_option maxHeartbeats 8000000 in
theorem ans_short_y (W : ByteArray) (hW : W.toList = [115, 104, 111, 114, 116]) (n0 n1 n2 : Nat) (t : List UInt8) (w : World) (hF : FarAt w) (h0 : n0 < 10000) (h1 : n1 < 10000) (h2 : n2 < 10000) (ht : t.length ≤ 3000) (hn : 1 ≤ n0 ∧ n0 < 1013) (hl : ¬ 60 < t.length) : AnsC W n0 n1 n2 t w (toldB (sq (4 * jT t * (n0 : Int)))) := by
  unfold AnsC arrV
  have hz := bS_size t
  have hF' := Lib.hid hF
  clear hF
  have e0 : (W.toList == [98, 97, 115, 101]) = false := beqF hW (by decide)
  have e1 : (W.toList == [108, 105, 102, 116]) = false := beqF hW (by decide)
  have e2 : (W.toList == [111, 114, 100, 101, 114]) = false := beqF hW (by decide)
  have e3 : (W.toList == [104, 97, 115, 104]) = false := beqF hW (by decide)
  have e4 : (W.toList == [112, 97, 105, 114]) = false := beqF hW (by decide)
  have e5 : (W.toList == [104, 105, 100, 101]) = false := beqF hW (by decide)
  have e6 : (W.toList == [115, 104, 111, 114, 116]) = true := beqT hW
  clear hW
  have ha : secB (n0 : Int) = true := decide_eq_true (by omega)
  obtain ⟨b, hb⟩ : ∃ x, secB (n1 : Int) = x := ⟨_, rfl⟩
  obtain ⟨c, hc⟩ : ∃ x, resB (n0 : Int) = x := ⟨_, rfl⟩
  obtain ⟨d, hd⟩ : ∃ x, resB (n1 : Int) = x := ⟨_, rfl⟩
  obtain ⟨P, hP⟩ : ∃ P, sq (4 * jT t * (n0 : Int)) = P := ⟨_, rfl⟩
  have oP : Sm P := Sm.of_ok (by rw [← hP]; exact sq_ok _)
  rw [hP]
  replace hP := Lib.hid hP
  replace oP := Lib.hid oP
  obtain ⟨Q, hQ⟩ : ∃ Q, hSpot t = Q := ⟨_, rfl⟩
  have hQ2 : Hid (Q = sq (4 * jT t)) := Lib.hid (by rw [← hQ]; exact (jT_spec t).2.2)
  have kO : Hid (∀ w1, FarAt w1 → Calls Tryz.prog 75 #[.string (bS t)] w1 fun e w' => e = .returned (spV Q) ∧ Below w1.heap.size w1 w') := Lib.hid fun w1 hF => by
    have h := refOf_c (bS t) w1 hF (by rw [hz]; omega)
    rw [bS_list, hQ] at h
    exact h
  have kT : Hid (∀ w1, Calls Tryz.prog 74 #[spV Q, .int .i64 (n0 : Int)] w1 fun e w' => e = .returned (spV P) ∧ Below w1.heap.size w1 w') := Lib.hid fun w1 => refTimes_e Q P _ (n0 : Int) w1 (by omega) (by omega) hQ2 hP
  have kS : Hid (∀ w1, Calls Tryz.prog 66 #[spV P] w1 fun e w' => e = .returned (.string (bS (toldB P))) ∧ Below w1.heap.size w1 w') := Lib.hid fun w1 => rtold_c P w1 oP.out
  clear hP hQ hQ2 oP
  have hb0 := below_alloc w (.cells #[.int .i64 (n0 : Int), .int .i64 (n1 : Int), .int .i64 (n2 : Int)] 74)
  have F0 := Lib.hid (hF'.out.below hb0)
  have k0 : (w.alloc (.cells #[.int .i64 (n0 : Int), .int .i64 (n1 : Int), .int .i64 (n2 : Int)] 74)).cell? ⟨w.heap.size, 0, none⟩ = some (.int .i64 (n0 : Int)) := by rw [World.cell?_alloc_at _ _ _ _ (by simp)]; rfl
  have k4 : w.heap.size < (w.alloc (.cells #[.int .i64 (n0 : Int), .int .i64 (n1 : Int), .int .i64 (n2 : Int)] 74)).heap.size := by simp
  replace hb0 := Lib.hid hb0
  clear hF'
  replace ha := Lib.hid ha
  replace hb := Lib.hid hb
  replace hc := Lib.hid hc
  replace hd := Lib.hid hd
  go_enter Tryz.func35, Tryz.ntmps35
  go_wp2_with fail
  refine (rSecret_b _ true _ ha).mono ?_; rintro e w1 ⟨rfl, rfl⟩
  go_wp2_with fail
  refine (rSecret_b _ b _ hb).mono ?_; rintro e w1 ⟨rfl, rfl⟩
  go_wp2_with fail
  refine (rRest_b _ c _ hc).mono ?_; rintro e w1 ⟨rfl, rfl⟩
  go_wp2_with fail
  refine (rRest_b _ d _ hd).mono ?_; rintro e w1 ⟨rfl, rfl⟩
  go_upto_region 33 with fail
  generalize w.alloc (.cells #[.int .i64 (n0 : Int), .int .i64 (n1 : Int), .int .i64 (n2 : Int)] 74) = w0 at *
  have hS : Hid (∀ w', Below w0.heap.size w0 w' → w'.cell? ⟨w.heap.size, 0, none⟩ = some (.int .i64 (n0 : Int)) ∧ w.heap.size < w'.heap.size ∧ Below w0.heap.size w0 w') := Lib.hid fun w' h => ⟨((bcell h).1 _ _ k4).trans k0, Nat.lt_of_lt_of_le k4 h.size, h⟩
  clear k0 k4
  go_region_held3 (fun w' => w'.cell? ⟨w.heap.size, 0, none⟩ = some (.int .i64 (n0 : Int)) ∧ w.heap.size < w'.heap.size ∧ Below w0.heap.size w0 w') (first | (refine hS.out _ ?_; repeat (with_reducible first | exact Below.refl _ _ | exact hwt.out | exact hwu.out | exact hwv.out | refine Below.drew ?_))) (first | (go_at_call 75; refine (kO.out _ (F0.out.below (by repeat (with_reducible first | exact Below.refl _ _ | refine Below.drew ?_)))).mono ?_; rintro e wb ⟨rfl, hbb⟩; have hwt := Lib.hid (show Below w0.heap.size w0 wb from below_seq (by repeat (with_reducible first | exact Below.refl _ _ | refine Below.drew ?_)) hbb); clear hbb) | (go_at_call 74; refine (kT.out _).mono ?_; rintro e wd ⟨rfl, hbd⟩; have hwu := Lib.hid (show Below w0.heap.size w0 wd from below_seq (by repeat (with_reducible first | exact hwt.out | refine Below.drew ?_)) hbd); clear hbd) | (go_at_call 66; refine (kS.out _).mono ?_; rintro e wg ⟨rfl, hbg⟩; have hwv := Lib.hid (show Below w0.heap.size w0 wg from below_seq (by repeat (with_reducible first | exact hwu.out | refine Below.drew ?_)) hbg); clear hbg) | fail)
  all_goals
    go_wp2_with fail
    go_ret
    exact ⟨rfl, hb0.out.trans ((show Below w0.heap.size w0 _ from (by repeat (with_reducible first | exact hwv.out | refine Below.drew ?_ | refine below_drewN ?_ _))).mono hb0.out.size)⟩
set_option maxHeartbeats 8000000 in
theorem ans_pair (W : ByteArray) (hW : W.toList = [112, 97, 105, 114]) (n0 n1 n2 : Nat) (t : List UInt8) (w : World) (hF : FarAt w) (h0 : n0 < 10000) (h1 : n1 < 10000) (h2 : n2 < 10000) (ht : t.length ≤ 3000) : AnsC W n0 n1 n2 t w (joinN [(fz (zp (((n0 % 1013 : Nat) : Int) * ((n1 % 1013 : Nat) : Int))).re).toNat, (fz (zp (((n0 % 1013 : Nat) : Int) * ((n1 % 1013 : Nat) : Int))).im).toNat]) := by
  unfold AnsC arrV
  have hz := bS_size t
  have hF' := Lib.hid hF
  clear hF
  have e0 : (W.toList == [98, 97, 115, 101]) = false := beqF hW (by decide)
  have e1 : (W.toList == [108, 105, 102, 116]) = false := beqF hW (by decide)
  have e2 : (W.toList == [111, 114, 100, 101, 114]) = false := beqF hW (by decide)
  have e3 : (W.toList == [104, 97, 115, 104]) = false := beqF hW (by decide)
  have e4 : (W.toList == [112, 97, 105, 114]) = true := beqT hW
  clear hW
  obtain ⟨a, ha⟩ : ∃ x, secB (n0 : Int) = x := ⟨_, rfl⟩
  obtain ⟨b, hb⟩ : ∃ x, secB (n1 : Int) = x := ⟨_, rfl⟩
  obtain ⟨c, hc⟩ : ∃ x, resB (n0 : Int) = x := ⟨_, rfl⟩
  obtain ⟨d, hd⟩ : ∃ x, resB (n1 : Int) = x := ⟨_, rfl⟩
  obtain ⟨z, hzz⟩ : ∃ z, zp (((n0 % 1013 : Nat) : Int) * ((n1 % 1013 : Nat) : Int)) = z := ⟨_, rfl⟩
  rw [hzz]
  obtain ⟨P, hP⟩ : ∃ P, sq (4 * (n0 : Int)) = P := ⟨_, rfl⟩
  obtain ⟨Q, hQ⟩ : ∃ Q, sq (4 * (n1 : Int)) = Q := ⟨_, rfl⟩
  have cP : Hid (Cnt P ((n0 % 1013 : Nat) : Int)) := Lib.hid ⟨by rw [← hP]; exact sq_eq_iff.mpr (by omega), by omega, by omega⟩
  have cQ : Hid (Cnt Q ((n1 % 1013 : Nat) : Int)) := Lib.hid ⟨by rw [← hQ]; exact sq_eq_iff.mpr (by omega), by omega, by omega⟩
  have kB : Hid (∀ (x : Int) (w1 : World), -9223372036854775808 ≤ x → x ≤ 9223372036854775807 → Calls Tryz.prog 67 #[.int .i64 x] w1 fun e w' => e = .returned (spV (sq (4 * x))) ∧ Below w1.heap.size w1 w') := Lib.hid fun x w1 x0 x1 => refBy_e x _ w1 x0 x1 (Lib.hid rfl)
  have kP : Hid (∀ w1, Calls Tryz.prog 72 #[spV (sq (4 * (n0 : Int))), spV (sq (4 * (n1 : Int)))] w1 fun e w' => e = .returned (twR z) ∧ Below w1.heap.size w1 w') := Lib.hid fun w1 => by
    rw [hP, hQ]
    exact refPair_e P Q _ _ z w1 cP cQ (Lib.hid hzz)
  obtain ⟨x, hx, x1⟩ := fz_nat z.re
  obtain ⟨y, hy, y1⟩ := fz_nat z.im
  have lX := dec_len x (by omega)
  have lY := dec_len y (by omega)
  rw [hx, hy, Int.toNat_natCast, Int.toNat_natCast, joinN_two]
  clear cP cQ hP hQ hzz
  obtain ⟨A, hA⟩ : ∃ A, Lib.decDigits x = A := ⟨_, rfl⟩
  obtain ⟨B, hB⟩ : ∃ A, Lib.decDigits y = A := ⟨_, rfl⟩
  have d1 := Lib.hid (fun w => digits_c x w (by omega))
  have d2 := Lib.hid (fun w => digits_c y w (by omega))
  rw [hA] at d1 lX ⊢
  rw [hB] at d2 lY ⊢
  have z1 := bS_size A
  have z2 := bS_size B
  obtain ⟨T1, hT1⟩ : ∃ T1, A ++ [32] = T1 := ⟨_, rfl⟩
  have z3 := bS_size T1
  have z4 : T1.length ≤ 7 := by rw [← hT1, List.length_append]; simp only [List.length_cons, List.length_nil]; omega
  have q1 : bS A ++ (⟨#[32]⟩ : ByteArray) = bS T1 := by rw [← hT1]; exact bS_app A [32]
  have q2 : bS T1 ++ bS B = bS (A ++ 32 :: B) := by rw [bS_app, ← hT1]; simp
  have v1 : ¬ (9223372036854775807 < (bS A).size + 1) := by omega
  have v2 : ¬ (9223372036854775807 < (bS T1).size + (bS B).size) := by omega
  clear hA hB hT1
  have hb0 := below_alloc w (.cells #[.int .i64 (n0 : Int), .int .i64 (n1 : Int), .int .i64 (n2 : Int)] 74)
  have k0 : (w.alloc (.cells #[.int .i64 (n0 : Int), .int .i64 (n1 : Int), .int .i64 (n2 : Int)] 74)).cell? ⟨w.heap.size, 0, none⟩ = some (.int .i64 (n0 : Int)) := by rw [World.cell?_alloc_at _ _ _ _ (by simp)]; rfl
  have k1 : (w.alloc (.cells #[.int .i64 (n0 : Int), .int .i64 (n1 : Int), .int .i64 (n2 : Int)] 74)).cell? ⟨w.heap.size, 1, none⟩ = some (.int .i64 (n1 : Int)) := by rw [World.cell?_alloc_at _ _ _ _ (by simp)]; rfl
  have k4 : w.heap.size < (w.alloc (.cells #[.int .i64 (n0 : Int), .int .i64 (n1 : Int), .int .i64 (n2 : Int)] 74)).heap.size := by simp
  replace hb0 := Lib.hid hb0
  clear hF'
  replace ha := Lib.hid ha
  replace hb := Lib.hid hb
  replace hc := Lib.hid hc
  replace hd := Lib.hid hd
  go_enter Tryz.func35, Tryz.ntmps35
  go_wp2_with fail
  refine (rSecret_b _ a _ ha).mono ?_; rintro e w1 ⟨rfl, rfl⟩
  go_wp2_with fail
  refine (rSecret_b _ b _ hb).mono ?_; rintro e w1 ⟨rfl, rfl⟩
  go_wp2_with fail
  refine (rRest_b _ c _ hc).mono ?_; rintro e w1 ⟨rfl, rfl⟩
  go_wp2_with fail
  refine (rRest_b _ d _ hd).mono ?_; rintro e w1 ⟨rfl, rfl⟩
  go_upto_region 20 with fail
  generalize w.alloc (.cells #[.int .i64 (n0 : Int), .int .i64 (n1 : Int), .int .i64 (n2 : Int)] 74) = w0 at *
  have hS : Hid (∀ w', Below w0.heap.size w0 w' → w'.cell? ⟨w.heap.size, 0, none⟩ = some (.int .i64 (n0 : Int)) ∧ w'.cell? ⟨w.heap.size, 1, none⟩ = some (.int .i64 (n1 : Int)) ∧ w.heap.size < w'.heap.size ∧ Below w0.heap.size w0 w') := Lib.hid fun w' h => ⟨((bcell h).1 _ _ k4).trans k0, ((bcell h).1 _ _ k4).trans k1, Nat.lt_of_lt_of_le k4 h.size, h⟩
  clear k0 k1 k4
  go_cut [13] from 73 to 79 (fun s13 wx => ∃ g : Nat, s13 = .pointer (some ⟨g, 0, none⟩) ∧ (wx.cell? ⟨g, 0, none⟩ = some (.int .i64 (x : Int)) ∧ wx.cell? ⟨g, 1, none⟩ = some (.int .i64 (y : Int)) ∧ g < wx.heap.size) ∧ Below w0.heap.size w0 wx)
  case first =>
    go_region_held3 (fun w' => w'.cell? ⟨w.heap.size, 0, none⟩ = some (.int .i64 (n0 : Int)) ∧ w'.cell? ⟨w.heap.size, 1, none⟩ = some (.int .i64 (n1 : Int)) ∧ w.heap.size < w'.heap.size ∧ Below w0.heap.size w0 w') (first | (refine hS.out _ ?_; repeat (with_reducible first | exact Below.refl _ _ | exact hwt.out | refine balloc ?_ _ | refine Below.drew ?_ | refine below_set ?_ (by first | omega | (dsimp only; omega)) _))) (first | (go_at_call 67; refine (kB.out _ _ (by omega) (by omega)).mono ?_; rintro e wb ⟨rfl, hbb⟩; have hwt := Lib.hid (show Below w0.heap.size w0 wb from below_seq (by repeat (with_reducible first | exact Below.refl _ _ | exact hwt.out | refine balloc ?_ _ | refine Below.drew ?_)) hbb); (first | (have kC2 := TwAt.below kC (below_seq (by repeat (with_reducible first | exact Below.refl _ _ | refine balloc ?_ _ | refine Below.drew ?_)) hbb); replace kC := kC2) | (have kC := TwAt.below (twZ _) hbb) | (have kC := TwAt.below (TwAt.drew' (twZ _)) hbb) | skip); (first | (obtain ⟨c0, c1, c2, c3, c4⟩ := id kC; try simp only [World.size_drew] at c0 c1 c2 c3 c4) | skip); have hza := hwt.out.size; clear hbb) | (go_at_call 72; refine (kP.out _).mono ?_; rintro e wd ⟨rfl, hbb⟩; have hwt := Lib.hid (show Below w0.heap.size w0 wd from below_seq (by repeat (with_reducible first | exact hwt.out | refine balloc ?_ _ | refine Below.drew ?_)) hbb); (first | (have kC2 := TwAt.below kC (below_seq (by repeat (with_reducible first | exact Below.refl _ _ | refine balloc ?_ _ | refine Below.drew ?_)) hbb); replace kC := kC2) | (have kC := TwAt.below (twZ _) hbb) | (have kC := TwAt.below (TwAt.drew' (twZ _)) hbb) | skip); (first | (obtain ⟨c0, c1, c2, c3, c4⟩ := id kC; try simp only [World.size_drew] at c0 c1 c2 c3 c4) | skip); have hza := hwt.out.size) | fail)
    all_goals
      go_wp2_with fail
      go_meet
      first
      | exact ⟨_, rfl, ⟨by simp [hx], by simp [hy], by simp⟩, balloc hwt.out _⟩
      | exact ⟨_, rfl, ⟨by rw [← hx]; exact (set2_cell c0 c1).1, by rw [← hy]; exact (set2_cell c0 c1).2, by simpa using c4⟩, below_set (below_set hwt.out (by omega) _) (by omega) _⟩
      | exact ⟨_, rfl, ⟨by rw [← hx]; exact (set2_cell c0 c1).1, by rw [← hy]; exact (set2_cell c0 c1).2, by simpa using c4⟩, below_set (below_set hwt.out (by dsimp only; omega) _) (by dsimp only; omega) _⟩
  case rest =>
  obtain ⟨g, rfl, ⟨g0, g1, gl⟩, hbx⟩ := hcut
  obtain ⟨wx, hwx⟩ : ∃ x : World, x = wc := ⟨_, rfl⟩
  rw [← hwx] at g0 g1 gl hbx ⊢
  replace hbx := Lib.hid hbx
  clear hwx hS kB kP hx hy
  go_wp2_with fail
  refine (d1.out _).mono ?_; rintro e w1 ⟨rfl, hw⟩
  obtain rfl := hw.symm
  go_wp2_with fail
  refine (d2.out _).mono ?_; rintro e w1 ⟨rfl, hw⟩
  obtain rfl := hw.symm
  go_wp2
  go_ret
  exact ⟨rfl, hb0.out.trans (hbx.out.mono hb0.out.size)⟩
set_option maxHeartbeats 8000000 in
theorem ans_sign_y (W : ByteArray) (hW : W.toList = [115, 105, 103, 110]) (n0 n1 n2 : Nat) (t : List UInt8) (w : World) (hF : FarAt w) (h0 : n0 < 10000) (h1 : n1 < 10000) (h2 : n2 < 10000) (ht : t.length ≤ 3000) (hn : 1 ≤ n0 ∧ n0 < 1013) (hm : 1 ≤ n1 ∧ n1 < 1013) (hl : ¬ 60 < t.length) : AnsC W n0 n1 n2 t w (joinN [(sq (4 * (n1 : Int))).x.toNat, (sq (4 * (n1 : Int))).y.toNat, (rgS n0 n1 t).toNat]) := by
  unfold AnsC arrV
  have hz := bS_size t
  have hF' := Lib.hid hF
  clear hF
  have e0 : (W.toList == [98, 97, 115, 101]) = false := beqF hW (by decide)
  have e1 : (W.toList == [108, 105, 102, 116]) = false := beqF hW (by decide)
  have e2 : (W.toList == [111, 114, 100, 101, 114]) = false := beqF hW (by decide)
  have e3 : (W.toList == [104, 97, 115, 104]) = false := beqF hW (by decide)
  have e4 : (W.toList == [112, 97, 105, 114]) = false := beqF hW (by decide)
  have e5 : (W.toList == [104, 105, 100, 101]) = false := beqF hW (by decide)
  have e6 : (W.toList == [115, 104, 111, 114, 116]) = false := beqF hW (by decide)
  have e7 : (W.toList == [115, 105, 103, 110]) = true := beqT hW
  clear hW
  have ha : secB (n0 : Int) = true := decide_eq_true (by omega)
  have hb : secB (n1 : Int) = true := decide_eq_true (by omega)
  obtain ⟨c, hc⟩ : ∃ x, resB (n0 : Int) = x := ⟨_, rfl⟩
  obtain ⟨d, hd⟩ : ∃ x, resB (n1 : Int) = x := ⟨_, rfl⟩
  obtain ⟨R, hR⟩ : ∃ R, sq (4 * (n1 : Int)) = R := ⟨_, rfl⟩
  obtain ⟨Q, hQ⟩ : ∃ Q, sq (4 * (n0 : Int)) = Q := ⟨_, rfl⟩
  obtain ⟨C, hC⟩ : ∃ C, askN R Q t = C := ⟨_, rfl⟩
  have hS : rgS n0 n1 t = ((n1 : Int) + C * (n0 : Int)) % 1013 := by unfold rgS; rw [hR, hQ, hC]
  have oR : Ok R := by rw [← hR]; exact sq_ok _
  have oQ : Ok Q := by rw [← hQ]; exact sq_ok _
  have hC2 : 0 ≤ C ∧ C < 1013 := by rw [← hC]; exact hnum_bd _
  have hm0 : 0 ≤ C * (n0 : Int) := Int.mul_nonneg hC2.1 (by omega)
  have hm1 : C * (n0 : Int) ≤ 1024144 := Int.le_trans (Int.mul_le_mul (show C ≤ 1012 by omega) (show (n0 : Int) ≤ 1012 by omega) (by omega) (by omega)) (by decide)
  obtain ⟨k, hk, hk2⟩ : ∃ k : Nat, ((n1 : Int) + C * (n0 : Int)) % 1013 = (k : Int) ∧ k < 1000000 := ⟨(((n1 : Int) + C * (n0 : Int)) % 1013).toNat, by omega, by omega⟩
  rw [hS, hR, hk, Int.toNat_natCast]
  have kS : Hid (∀ w1, Calls Tryz.prog 76 #[.int .i64 (n0 : Int), .int .i64 (n1 : Int), .string (bS t)] w1 fun e w' => e = .returned (slV R (k : Int)) ∧ Below w1.heap.size w1 w') := Lib.hid fun w1 =>
    rSign_e (n0 : Int) (n1 : Int) (bS t) R Q C (k : Int) w1 (by omega) (by omega) (by omega) (by omega) (by rw [hz]; omega) (Lib.hid hR) (Lib.hid hQ) oR oQ (Lib.hid (by rw [bS_list]; exact hC)) hm0 hm1 (Lib.hid hk)
  obtain ⟨px, py, pf⟩ := R
  have x0 := oR.x0
  have x1 := oR.x1
  have y0 := oR.y0
  have y1 := oR.y1
  simp only at x0 x1 y0 y1 ⊢
  obtain ⟨x, rfl⟩ : ∃ x : Nat, px = (x : Int) := ⟨px.toNat, by omega⟩
  obtain ⟨y, rfl⟩ : ∃ y : Nat, py = (y : Int) := ⟨py.toNat, by omega⟩
  rw [Int.toNat_natCast, Int.toNat_natCast, joinN_three]
  clear hR hQ hC hS oR oQ hC2 hm0 hm1 hk
  have lX := dec_len x (by omega)
  have lY := dec_len y (by omega)
  have lZ := dec_len k (by omega)
  obtain ⟨A, hA⟩ : ∃ A, Lib.decDigits x = A := ⟨_, rfl⟩
  obtain ⟨B, hB⟩ : ∃ A, Lib.decDigits y = A := ⟨_, rfl⟩
  obtain ⟨D, hD⟩ : ∃ A, Lib.decDigits k = A := ⟨_, rfl⟩
  have d1 := Lib.hid (fun w => digits_c x w (by omega))
  have d2 := Lib.hid (fun w => digits_c y w (by omega))
  have d3 := Lib.hid (fun w => digits_c k w (by omega))
  rw [hA] at d1 lX ⊢
  rw [hB] at d2 lY ⊢
  rw [hD] at d3 lZ ⊢
  have z1 := bS_size A
  have z2 := bS_size B
  have z5 := bS_size D
  obtain ⟨T1, hT1⟩ : ∃ T1, A ++ [32] = T1 := ⟨_, rfl⟩
  obtain ⟨T2, hT2⟩ : ∃ T1', T1 ++ B = T1' := ⟨_, rfl⟩
  obtain ⟨T3, hT3⟩ : ∃ T1', T2 ++ [32] = T1' := ⟨_, rfl⟩
  have z3 := bS_size T1
  have z6 := bS_size T2
  have z7 := bS_size T3
  have z4 : T1.length ≤ 7 := by rw [← hT1, List.length_append]; simp only [List.length_cons, List.length_nil]; omega
  have z8 : T2.length ≤ 13 := by rw [← hT2, List.length_append]; omega
  have z9 : T3.length ≤ 14 := by rw [← hT3, List.length_append]; simp only [List.length_cons, List.length_nil]; omega
  have c1 : bS A ++ (⟨#[32]⟩ : ByteArray) = bS T1 := by rw [← hT1]; exact bS_app A [32]
  have c2 : bS T1 ++ bS B = bS T2 := by rw [bS_app, hT2]
  have c3 : bS T2 ++ (⟨#[32]⟩ : ByteArray) = bS T3 := by rw [← hT3]; exact bS_app T2 [32]
  have c4 : bS T3 ++ bS D = bS (A ++ 32 :: (B ++ 32 :: D)) := by rw [bS_app, ← hT3, ← hT2, ← hT1]; simp
  have v1 : ¬ (9223372036854775807 < (bS A).size + 1) := by omega
  have v2 : ¬ (9223372036854775807 < (bS T1).size + (bS B).size) := by omega
  have v3 : ¬ (9223372036854775807 < (bS T2).size + 1) := by omega
  have v4 : ¬ (9223372036854775807 < (bS T3).size + (bS D).size) := by omega
  clear hA hB hD hT1 hT2 hT3
  replace ha := Lib.hid ha
  replace hb := Lib.hid hb
  replace hc := Lib.hid hc
  replace hd := Lib.hid hd
  go_enter Tryz.func35, Tryz.ntmps35
  go_wp2_with fail
  refine (rSecret_b _ true _ ha).mono ?_; rintro e w1 ⟨rfl, rfl⟩
  go_wp2_with fail
  refine (rSecret_b _ true _ hb).mono ?_; rintro e w1 ⟨rfl, rfl⟩
  go_wp2_with fail
  refine (rRest_b _ c _ hc).mono ?_; rintro e w1 ⟨rfl, rfl⟩
  go_wp2_with fail
  refine (rRest_b _ d _ hd).mono ?_; rintro e w1 ⟨rfl, rfl⟩
  go_wp2_with fail
  refine (kS.out _).mono ?_; rintro e w1 ⟨rfl, hb⟩
  have hB1 := Lib.hid (below_seq (below_alloc w (.cells #[.int .i64 (n0 : Int), .int .i64 (n1 : Int), .int .i64 (n2 : Int)] 74)) hb)
  clear hb
  go_wp2_with fail
  refine (d1.out _).mono ?_; rintro e w2 ⟨rfl, hw⟩
  obtain rfl := hw.symm
  go_wp2_with fail
  refine (d2.out _).mono ?_; rintro e w2 ⟨rfl, hw⟩
  obtain rfl := hw.symm
  go_wp2_with fail
  refine (d3.out _).mono ?_; rintro e w2 ⟨rfl, hw⟩
  obtain rfl := hw.symm
  go_wp2
  go_ret
  exact ⟨rfl, balloc hB1.out _⟩
end Go.Proofs.YtjjmelhhalomaaaGreatDoor
namespace Go.Proofs.YtjjmelhhalomaaaGreatDoor
open Go.RowKit
set_option maxRecDepth 100000
set_option linter.unusedVariables false
set_option linter.unusedSimpArgs false
attribute [local go_sem ↓] Go.wp_at_zero Go.wp_at_succ
/-- So many values. -/
def shL (n m j : Nat) : List Nat := (List.range j).map fun k => (val ((k + 1 : Nat) : Int) [(n : Int), (m : Int)]).toNat
theorem shL_succ (n m j : Nat) : shL n m (j + 1) = shL n m j ++ [(val ((j + 1 : Nat) : Int) [(n : Int), (m : Int)]).toNat] := by unfold shL; rw [List.range_succ, List.map_append]; rfl
theorem shL_len (n m j : Nat) : (shL n m j).length = j := by simp [shL]
theorem shL_bd (n m j : Nat) : ∀ x ∈ shL n m j, x < 1000000 := fun x hx => by
  unfold shL at hx
  obtain ⟨k, -, rfl⟩ := List.mem_map.1 hx
  have := val_bd ((k + 1 : Nat) : Int) [(n : Int), (m : Int)]
  omega
theorem joinN_snoc (l : List Nat) (x : Nat) (h : l ≠ []) : joinN (l ++ [x]) = (joinN l ++ [32]) ++ Lib.decDigits x := by
  induction l with
  | nil => exact absurd rfl h
  | cons a l ih =>
    cases l with
    | nil => simp [joinN, Lib.join, List.intercalate]
    | cons b r =>
      have ih := ih (by simp)
      have e : ∀ (y : List Nat), joinN (a :: b :: y) = Lib.decDigits a ++ 32 :: joinN (b :: y) := fun y => by simp [joinN, Lib.join, List.intercalate]
      show joinN (a :: b :: (r ++ [x])) = joinN (a :: b :: r) ++ [32] ++ Lib.decDigits x
      rw [e, e]
      have ih2 : joinN (b :: (r ++ [x])) = joinN (b :: r) ++ [32] ++ Lib.decDigits x := ih
      rw [ih2]
      simp
set_option maxHeartbeats 16000000 in
theorem ans_shares_y (W : ByteArray) (hW : W.toList = [115, 104, 97, 114, 101, 115]) (n0 n1 n2 : Nat) (t : List UInt8) (w : World) (hn : n0 < 1013) (hm : n1 < 1013) (k1 : 1 ≤ n2) (k2 : n2 ≤ 12) : AnsC W n0 n1 n2 t w (joinN (shL n0 n1 n2)) := by
  unfold AnsC arrV
  have e0 : (W.toList == [98, 97, 115, 101]) = false := beqF hW (by decide)
  have e1 : (W.toList == [108, 105, 102, 116]) = false := beqF hW (by decide)
  have e2 : (W.toList == [111, 114, 100, 101, 114]) = false := beqF hW (by decide)
  have e3 : (W.toList == [104, 97, 115, 104]) = false := beqF hW (by decide)
  have e4 : (W.toList == [112, 97, 105, 114]) = false := beqF hW (by decide)
  have e5 : (W.toList == [104, 105, 100, 101]) = false := beqF hW (by decide)
  have e6 : (W.toList == [115, 104, 111, 114, 116]) = false := beqF hW (by decide)
  have e7 : (W.toList == [115, 105, 103, 110]) = false := beqF hW (by decide)
  clear hW
  obtain ⟨a, ha⟩ : ∃ x, secB (n0 : Int) = x := ⟨_, rfl⟩
  obtain ⟨b, hb⟩ : ∃ x, secB (n1 : Int) = x := ⟨_, rfl⟩
  have hc : resB (n0 : Int) = true := decide_eq_true (by omega)
  have hd : resB (n1 : Int) = true := decide_eq_true (by omega)
  replace ha := Lib.hid ha
  replace hb := Lib.hid hb
  replace hc := Lib.hid hc
  replace hd := Lib.hid hd
  have hb0 := below_alloc w (.cells #[.int .i64 (n0 : Int), .int .i64 (n1 : Int), .int .i64 (n2 : Int)] 74)
  have c0 : (w.alloc (.cells #[.int .i64 (n0 : Int), .int .i64 (n1 : Int), .int .i64 (n2 : Int)] 74)).cell? ⟨w.heap.size, 0, none⟩ = some (.int .i64 (n0 : Int)) := by rw [World.cell?_alloc_at _ _ _ _ (by simp)]; rfl
  have c1 : (w.alloc (.cells #[.int .i64 (n0 : Int), .int .i64 (n1 : Int), .int .i64 (n2 : Int)] 74)).cell? ⟨w.heap.size, 1, none⟩ = some (.int .i64 (n1 : Int)) := by rw [World.cell?_alloc_at _ _ _ _ (by simp)]; rfl
  have c2 : (w.alloc (.cells #[.int .i64 (n0 : Int), .int .i64 (n1 : Int), .int .i64 (n2 : Int)] 74)).cell? ⟨w.heap.size, 2, none⟩ = some (.int .i64 (n2 : Int)) := by rw [World.cell?_alloc_at _ _ _ _ (by simp)]; rfl
  have c4 : w.heap.size < (w.alloc (.cells #[.int .i64 (n0 : Int), .int .i64 (n1 : Int), .int .i64 (n2 : Int)] 74)).heap.size := by simp
  replace hb0 := Lib.hid hb0
  go_enter Tryz.func35, Tryz.ntmps35
  go_wp2_with fail
  refine (rSecret_b _ a _ ha).mono ?_; rintro e w1 ⟨rfl, rfl⟩
  go_wp2_with fail
  refine (rSecret_b _ b _ hb).mono ?_; rintro e w1 ⟨rfl, rfl⟩
  go_wp2_with fail
  refine (rRest_b _ true _ hc).mono ?_; rintro e w1 ⟨rfl, rfl⟩
  go_wp2_with fail
  refine (rRest_b _ true _ hd).mono ?_; rintro e w1 ⟨rfl, rfl⟩
  generalize w.alloc (.cells #[.int .i64 (n0 : Int), .int .i64 (n1 : Int), .int .i64 (n2 : Int)] 74) = w0 at *
  have hS : Hid (∀ w', Below w0.heap.size w0 w' → w'.cell? ⟨w.heap.size, 0, none⟩ = some (.int .i64 (n0 : Int)) ∧ w'.cell? ⟨w.heap.size, 1, none⟩ = some (.int .i64 (n1 : Int)) ∧ w'.cell? ⟨w.heap.size, 2, none⟩ = some (.int .i64 (n2 : Int)) ∧ w.heap.size < w'.heap.size) := Lib.hid fun w' h => ⟨((bcell h).1 _ _ c4).trans c0, ((bcell h).1 _ _ c4).trans c1, ((bcell h).1 _ _ c4).trans c2, Nat.lt_of_lt_of_le c4 h.size⟩
  have g1 : decide ((n2 : Int) < 1) = false := by rw [decide_eq_false_iff_not]; omega
  have g2 : decide ((12 : Int) < (n2 : Int)) = false := by rw [decide_eq_false_iff_not]; omega
  go_wp2_with fail
  go_loopw [20, 21, 22] (fun o i y wr => ∃ j : Nat, j ≤ n2 ∧ i = .int .i64 ((j + 1 : Nat) : Int) ∧ o = .string (bS (joinN (shL n0 n1 j))) ∧ Below w0.heap.size w0 wr) (fun _ i _ _ => n2 + 1 - (intOf i).toNat)
  case atStart => exact ⟨0, Nat.zero_le _, rfl, rfl, Below.refl _ _⟩
  case round =>
    obtain ⟨j, hj, rfl, rfl, hB⟩ := hrel
    replace hB := Lib.hid hB
    clear g1 g2 c0 c1 c2
    obtain ⟨r0, r1, r2, r3⟩ := hS.out _ hB.out
    by_cases hlt : j < n2
    · obtain ⟨v, hv, hv2⟩ : ∃ v : Nat, val ((j + 1 : Nat) : Int) [(n0 : Int), (n1 : Int)] = (v : Int) ∧ v < 1013 := ⟨(val ((j + 1 : Nat) : Int) [(n0 : Int), (n1 : Int)]).toNat, by have := val_bd ((j + 1 : Nat) : Int) [(n0 : Int), (n1 : Int)]; omega, by have := val_bd ((j + 1 : Nat) : Int) [(n0 : Int), (n1 : Int)]; omega⟩
      have hsh := shL_succ n0 n1 j
      rw [hv, Int.toNat_natCast] at hsh
      have hjl := joinN_len (shL n0 n1 j) (shL_bd n0 n1 j)
      rw [shL_len] at hjl
      have lv := dec_len v (by omega)
      have kV := Lib.hid (fun w1 u hu => rvalue_c [(n0 : Int), (n1 : Int)] u ((j + 1 : Nat) : Int) (v : Int) w1 (by show 2 ≤ 12; decide) (by simp [okR]; omega) (by omega) (by omega) hu (Lib.hid hv))
      have kI := Lib.hid (IntSl.made wr [(n0 : Int), (n1 : Int)] wr.heap.size 2 2 #[.int .i64 (n0 : Int), .int .i64 (n1 : Int)] 3 rfl rfl rfl)
      have kD := Lib.hid (fun w => digits_c v w (by omega))
      obtain ⟨X, hX⟩ : ∃ X, joinN (shL n0 n1 j) = X := ⟨_, rfl⟩
      obtain ⟨Y, hY⟩ : ∃ X, joinN (shL n0 n1 (j + 1)) = X := ⟨_, rfl⟩
      obtain ⟨D, hD⟩ : ∃ X, Lib.decDigits v = X := ⟨_, rfl⟩
      rw [hX] at hjl
      have zX := bS_size X
      have zD := bS_size D
      rw [hD] at kD lv
      replace hv := Lib.hid hv
      by_cases hj0 : j = 0
      · subst hj0
        have e9 : X = [] := by rw [← hX]; rfl
        have e10 : bS X ++ bS D = bS Y := by
          rw [e9, ← hY, hsh, ← hD]
          show bS [] ++ _ = bS (joinN ([] ++ [v]))
          rw [List.nil_append, joinN_one, bS_app, List.nil_append]
        have y1 : ¬ (9223372036854775807 < (bS X).size + (bS D).size) := by omega
        replace hY := Lib.hid hY
        rw [hX]
        clear hsh hX hD e9 hj
        go_wp2_with fail
        refine (kV.out _ _ kI.out).mono ?_; rintro e wv ⟨rfl, hw⟩
        obtain rfl := hw.symm
        go_wp2_with fail
        refine (kD.out _).mono ?_; rintro e wv ⟨rfl, hw⟩
        obtain rfl := hw.symm
        clear kD kV kI
        go_wp2_with fail
        refine ⟨⟨1, hlt, rfl, by rw [← hY.out], balloc hB.out _⟩, by simp [intOf]; omega⟩
      · have hne : shL n0 n1 j ≠ [] := fun e => by have := shL_len n0 n1 j; rw [e] at this; exact hj0 this.symm
        have e9 : (X ++ [32]) ++ D = Y := by rw [← hX, ← hD, ← hY, hsh, joinN_snoc _ _ hne]
        obtain ⟨X1, hX1⟩ : ∃ X1, X ++ [32] = X1 := ⟨_, rfl⟩
        have zX1 := bS_size X1
        have lX1 : X1.length ≤ 7 * j + 1 := by rw [← hX1, List.length_append]; simp only [List.length_cons, List.length_nil]; omega
        have e10 : bS X ++ (⟨#[32]⟩ : ByteArray) = bS X1 := by rw [← hX1]; exact bS_app X [32]
        have e11 : bS X1 ++ bS D = bS Y := by rw [bS_app, hX1.symm, e9]
        have y1 : ¬ (9223372036854775807 < (bS X).size + 1) := by omega
        have y2 : ¬ (9223372036854775807 < (bS X1).size + (bS D).size) := by omega
        have g3 : decide ((1 : Int) < ((j + 1 : Nat) : Int)) = true := by rw [decide_eq_true_iff]; omega
        replace hY := Lib.hid hY
        rw [hX]
        clear hsh hX hD e9 hX1 hne
        go_wp2_with fail
        refine (kV.out _ _ kI.out).mono ?_; rintro e wv ⟨rfl, hw⟩
        obtain rfl := hw.symm
        go_wp2_with fail
        refine (kD.out _).mono ?_; rintro e wv ⟨rfl, hw⟩
        obtain rfl := hw.symm
        clear kD kV kI
        go_wp2_with fail
        refine ⟨⟨j + 1, hlt, by go_num, by rw [← hY.out], balloc hB.out _⟩, by simp [intOf]; omega⟩
    · obtain rfl : j = n2 := by omega
      go_wp2_with fail
      go_ret
      exact ⟨rfl, hb0.out.trans (hB.out.mono hb0.out.size)⟩
end Go.Proofs.YtjjmelhhalomaaaGreatDoor
namespace Go.Proofs.YtjjmelhhalomaaaGreatDoor
open Go.RowKit
set_option maxRecDepth 100000
set_option linter.unusedVariables false
set_option linter.unusedSimpArgs false
attribute [local go_sem ↓] Go.wp_at_zero Go.wp_at_succ
/-- The numbers of a line, in their row of three. -/
def ArrAt (w : World) (g : Nat) (ns : List Nat) : Prop := w.heap[g]? = some (.cells #[.int .i64 (nAt ns 0 : Int), .int .i64 (nAt ns 1 : Int), .int .i64 (nAt ns 2 : Int)] 74 (0, 0))
theorem ArrAt.lt {w : World} {g : Nat} {ns : List Nat} (h : ArrAt w g ns) : g < w.heap.size := (Array.getElem?_eq_some_iff.1 h).1
theorem ArrAt.below {w w' : World} {g : Nat} {ns : List Nat} (h : ArrAt w g ns) (hb : Below w.heap.size w w') : ArrAt w' g ns := (hb.block g h.lt).trans h
theorem ArrAt.set {w : World} {g : Nat} {ns : List Nat} (h : ArrAt w g ns) (hl : ns.length < 3) (n : Nat) : ArrAt (w.setCell ⟨g, ns.length, none⟩ (.int .i64 (n : Int))) g (ns ++ [n]) := by
  unfold ArrAt at h ⊢
  match ns, hl with
  | [], _ => simp [World.setCell, Array.getElem?_modify, h, nAt]
  | [a], _ => simp [World.setCell, Array.getElem?_modify, h, nAt]
  | [a, b], _ => simp [World.setCell, Array.getElem?_modify, h, nAt]
theorem ArrAt.cells {w : World} {g : Nat} {ns : List Nat} (h : ArrAt w g ns) : w.cell? ⟨g, 0, none⟩ = some (.int .i64 (nAt ns 0 : Int)) ∧ w.cell? ⟨g, 1, none⟩ = some (.int .i64 (nAt ns 1 : Int)) ∧ w.cell? ⟨g, 2, none⟩ = some (.int .i64 (nAt ns 2 : Int)) :=
  ⟨by rw [Lib.cell_of_heap h]; rfl, by rw [Lib.cell_of_heap h]; rfl, by rw [Lib.cell_of_heap h]; rfl⟩
theorem ArrAt.cell {w : World} {g : Nat} {ns : List Nat} (h : ArrAt w g ns) (j : Nat) (hj : j < 3) : ∃ u, w.cell? ⟨g, j, none⟩ = some u := by
  obtain ⟨c0, c1, c2⟩ := h.cells
  have : j = 0 ∨ j = 1 ∨ j = 2 := by omega
  rcases this with rfl | rfl | rfl
  · exact ⟨_, c0⟩
  · exact ⟨_, c1⟩
  · exact ⟨_, c2⟩
/-- A word, how many numbers it has, and whether a text. -/
def KindW (X : List UInt8) (K : Nat) (B : Bool) : Prop :=
  (X = [98, 97, 115, 101] ∧ K = 1 ∧ B = false) ∨ (X = [108, 105, 102, 116] ∧ K = 1 ∧ B = false) ∨ (X = [111, 114, 100, 101, 114] ∧ K = 1 ∧ B = false) ∨ (X = [112, 97, 105, 114] ∧ K = 2 ∧ B = false) ∨ (X = [104, 105, 100, 101] ∧ K = 2 ∧ B = false) ∨ (X = [115, 104, 97, 114, 101, 115] ∧ K = 3 ∧ B = false) ∨ (X = [104, 97, 115, 104] ∧ K = 0 ∧ B = true) ∨ (X = [115, 104, 111, 114, 116] ∧ K = 1 ∧ B = true) ∨ (X = [115, 105, 103, 110] ∧ K = 2 ∧ B = true)
theorem KindW.le {X : List UInt8} {K : Nat} {B : Bool} (h : KindW X K B) : K ≤ 3 := by
  unfold KindW at h; omega
theorem beqD {W : ByteArray} {l : List UInt8} (h : W.toList = l) (m : List UInt8) : (W.toList == m) = decide (l = m) := by
  rw [h]
  by_cases e : l = m
  · subst e; simp
  · rw [decide_eq_false e, beq_eq_false_iff_ne]; exact e
theorem takeN_step (j : Nat) (R : List UInt8) (M : Bool) (ns : List Nat) (r1 : List UInt8) (n : Nat) (h : takeN j R M = some (ns, r1, true)) (hn : numF (cutW r1).1 = some n) : takeN (j + 1) R M = some (ns ++ [n], (cutW r1).2.1, (cutW r1).2.2) := by
  show (match takeN j R M with | none => none | some (ns, r1, m1) => if m1 then (match numF (cutW r1).1 with | none => none | some k => some (ns ++ [k], (cutW r1).2.1, (cutW r1).2.2)) else none) = _
  rw [h]
  simp only [if_true]
  rw [hn]
theorem takeN_stop (j : Nat) (R : List UInt8) (M : Bool) (ns : List Nat) (r1 : List UInt8) (m1 : Bool) (h : takeN j R M = some (ns, r1, m1)) (hn : m1 = false ∨ numF (cutW r1).1 = none) : takeN (j + 1) R M = none := by
  show (match takeN j R M with | none => none | some (ns, r1, m1) => if m1 then (match numF (cutW r1).1 with | none => none | some k => some (ns ++ [k], (cutW r1).2.1, (cutW r1).2.2)) else none) = _
  rw [h]
  cases m1
  · rfl
  · rcases hn with hn | hn
    · cases hn
    · simp only [if_true]
      rw [hn]
set_option maxHeartbeats 16000000 in
theorem rline_y (s : List UInt8) (K : Nat) (B : Bool) (A : List Nat → List UInt8 → List UInt8) (w : World) (hF : FarAt w) (hs : s.length ≤ 3000) (hW : KindW (cutW s).1 K B)
    (hA : ∀ ns t w1, FarAt w1 → ns.length = K → (∀ n ∈ ns, n < 10000) → t.length ≤ 3000 → AnsC (bS (cutW s).1) (nAt ns 0) (nAt ns 1) (nAt ns 2) t w1 (A ns t)) :
    Calls Tryz.prog 9 #[.string (bS s)] w fun e w' => e = .returned (.string (bS (deedF K B A (cutW s).2.1 (cutW s).2.2))) ∧ Below w.heap.size w w' := by
  have hK := hW.le
  have kW := Lib.hid (word_c s w (by omega))
  have hr := Nat.le_trans (cutW_len s).2 hs
  obtain ⟨X, R, M, hX⟩ : ∃ X R M, cutW s = (X, R, M) := ⟨_, _, _, rfl⟩
  rw [hX] at kW hr hW hA ⊢
  simp only at kW hr hW hA ⊢
  obtain ⟨out, ho⟩ : ∃ o, deedF K B A R M = o := ⟨_, rfl⟩
  rw [ho]
  obtain ⟨XS, hXS⟩ : ∃ x, bS X = x := ⟨_, rfl⟩
  have hXL : XS.toList = X := by rw [← hXS, bS_tl]
  rw [hXS] at kW hA
  replace hA := Lib.hid hA
  replace ho := Lib.hid ho
  have hF' := Lib.hid hF
  clear hX hXS hF
  replace hXL := Lib.hid hXL
  replace hW := Lib.hid hW
  go_enter Tryz.func9, Tryz.ntmps9
  go_wp2_with fail
  refine kW.out.mono ?_; rintro e w1 ⟨rfl, hb⟩
  have hB1 := Lib.hid hb
  clear hb kW
  go_upto_block 0 with fail
  go_cut [6, 7] from 21 to 36 (fun s6 s7 wx => s6 = .int .i64 (K : Int) ∧ s7 = .bool B ∧ wx = w1)
  case first =>
    have hk := hW.out
    unfold KindW at hk
    have hX2 := hXL.out
    rcases hk with ⟨rfl, rfl, rfl⟩ | ⟨rfl, rfl, rfl⟩ | ⟨rfl, rfl, rfl⟩ | ⟨rfl, rfl, rfl⟩ | ⟨rfl, rfl, rfl⟩ | ⟨rfl, rfl, rfl⟩ | ⟨rfl, rfl, rfl⟩ | ⟨rfl, rfl, rfl⟩ | ⟨rfl, rfl, rfl⟩
    all_goals
      have f7 := beqD hX2 [98, 97, 115, 101]
      have f8 := beqD hX2 [108, 105, 102, 116]
      have f9 := beqD hX2 [111, 114, 100, 101, 114]
      have f1 := beqD hX2 [112, 97, 105, 114]
      have f2 := beqD hX2 [104, 105, 100, 101]
      have f3 := beqD hX2 [115, 104, 97, 114, 101, 115]
      have f4 := beqD hX2 [104, 97, 115, 104]
      have f5 := beqD hX2 [115, 104, 111, 114, 116]
      have f6 := beqD hX2 [115, 105, 103, 110]
      clear hX2
      go_wp2_with fail
      go_meet
      exact ⟨rfl, rfl, rfl⟩
  case rest =>
  obtain ⟨rfl, rfl, hwx⟩ := hcut
  obtain rfl := hwx.symm
  have g0 : decide ((K : Int) < 0) = false := by rw [decide_eq_false_iff_not]; omega
  clear hW hXL
  go_wp2_with fail
  obtain ⟨g, hg⟩ : ∃ g, w1.heap.size = g := ⟨_, rfl⟩
  have hgw : w.heap.size ≤ g := by have := hB1.out.size; omega
  have hA0 : ArrAt (w1.alloc (.cells #[.int .i64 0, .int .i64 0, .int .i64 0] 74)) g [] := by
    unfold ArrAt
    rw [← hg]
    show (w1.heap.push _)[w1.heap.size]? = _
    rw [Array.getElem?_push_size]
    rfl
  have hB2 : Below w.heap.size w (w1.alloc (.cells #[.int .i64 0, .int .i64 0, .int .i64 0] 74)) := balloc hB1.out _
  rw [hg]
  generalize w1.alloc (.cells #[.int .i64 0, .int .i64 0, .int .i64 0] 74) = w2 at *
  replace hA0 := Lib.hid hA0
  replace hB2 := Lib.hid hB2
  clear hB1 hg g0
  go_loopw [4, 5, 9, 10, 11, 12, 13, 14] (fun r m i _ _ _ _ _ wr => ∃ (j : Nat) (ns : List Nat) (r1 : List UInt8) (m1 : Bool), j ≤ K ∧ i = .int .i64 (j : Int) ∧ ns.length = j ∧ takeN j R M = some (ns, r1, m1) ∧ r = .string (bS r1) ∧ m = .bool m1 ∧ ArrAt wr g ns ∧ Below w.heap.size w wr) (fun _ _ i _ _ _ _ _ _ => K - (intOf i).toNat)
  case atStart => exact ⟨0, [], R, M, Nat.zero_le _, rfl, rfl, rfl, rfl, rfl, hA0.out, hB2.out⟩
  case round =>
    obtain ⟨j, ns, r1, m1, hj, rfl, hns, hT, rfl, rfl, hAr, hB⟩ := hrel
    clear hA0 hB2
    replace hAr := Lib.hid hAr
    replace hB := Lib.hid hB
    replace hns := Lib.hid hns
    obtain ⟨-, hr1, hbd⟩ := takeN_spec _ _ _ _ _ _ hT
    replace hbd := Lib.hid hbd
    by_cases hlt : j < K
    · cases m1
      · have hstop := takeN_none (takeN_stop j R M ns r1 false hT (.inl rfl)) K hlt
        obtain rfl : badB = out := by rw [← ho.out]; unfold deedF; rw [hstop]
        clear hT hstop ho
        go_wp2_with fail
        go_ret
        exact ⟨rfl, hB.out⟩
      · have kW := Lib.hid (fun w => word_c r1 w (by omega))
        have hcl := cutW_len r1
        have hst := takeN_step j R M ns r1
        have hsp := takeN_stop j R M ns r1 true hT
        replace hst := fun n => hst n hT
        obtain ⟨Y, r2, m2, hX⟩ : ∃ X R M, cutW r1 = (X, R, M) := ⟨_, _, _, rfl⟩
        rw [hX] at kW hcl hst hsp
        simp only at kW hcl hst hsp
        have kN := Lib.hid (fun w => rnumber_c Y w (by omega))
        have hst' := Lib.hid hst
        have hsp' := Lib.hid hsp
        clear hX hst hsp hT
        go_wp2_with fail
        refine (kW.out _).mono ?_; rintro e w3 ⟨rfl, hb⟩
        have hAr2 := Lib.hid (hAr.out.below hb)
        have hB3 := Lib.hid (below_seq hB.out hb)
        clear hb hAr hB kW
        go_wp2_with fail
        refine (kN.out _).mono ?_; rintro e w4 ⟨⟨v, rfl, hv⟩, hb⟩
        have hAr3 := Lib.hid (hAr2.out.below hb)
        have hB4 := Lib.hid (below_seq hB3.out hb)
        clear hb hAr2 hB3 kN
        replace hv := Lib.hid hv
        cases hN : numF Y with
        | none =>
          have hstop := takeN_none (hsp'.out (.inr hN)) K hlt
          obtain rfl : badB = out := by rw [← ho.out]; unfold deedF; rw [hstop]
          clear hstop ho hst' hsp' hN
          go_wp2_with fail
          go_ret
          exact ⟨rfl, hB4.out⟩
        | some n =>
          have hTn := hst'.out n hN
          obtain rfl := hv.out n hN
          have hA4 := Lib.hid (hAr3.out.set (by rw [hns.out]; omega) n)
          have hB5 := Lib.hid (below_set hB4.out (show w.heap.size ≤ (⟨g, ns.length, none⟩ : Addr).block from hgw) (.int .i64 (n : Int)))
          rw [hns.out] at hA4 hB5
          have hfz : w4.frozen? ⟨g, j, none⟩ = false := Lib.frozen_of_heap hAr3.out j
          have hgl := hAr3.out.lt
          have hls := Lib.hid (show (ns ++ [n]).length = j + 1 by rw [List.length_append, hns.out]; rfl)
          replace hTn := Lib.hid hTn
          have hj3 : j < 3 := by omega
          obtain ⟨u, hu⟩ := hAr3.out.cell j hj3
          clear hst' hsp' hN hv
          go_wp2_with fail
          refine ⟨⟨j + 1, ns ++ [n], r2, m2, by omega, rfl, hls.out, hTn.out, rfl, rfl, hA4.out, hB5.out⟩, by simp [intOf]; omega⟩
    · obtain rfl : j = K := by omega
      have hdf : out = if m1 = B then A ns r1 else badB := by rw [← ho.out]; unfold deedF; rw [hT]
      have kA := Lib.hid (fun w5 hF5 => hA.out ns r1 w5 hF5 hns.out hbd.out (by omega))
      have hFr := Lib.hid (hF'.out.below hB.out)
      have hgl := hAr.out.lt
      clear hT ho hA hns hbd
      by_cases hmB : m1 = B
      · rw [if_pos hmB] at hdf
        subst hmB
        rw [← hdf] at kA
        unfold AnsC arrV at kA
        clear hdf
        obtain ⟨c0, c1, c2⟩ := hAr.out.cells
        cases m1
        all_goals
          go_wp2_with fail
          refine (kA.out _ hFr.out).mono ?_; rintro e w5 ⟨rfl, hb⟩
          have hB5 := Lib.hid (below_seq hB.out hb)
          clear hb
          go_wp2
          go_ret
          exact ⟨rfl, hB5.out⟩
      · rw [if_neg hmB] at hdf
        subst hdf
        clear kA
        cases m1 <;> cases B
        · exact absurd rfl hmB
        · clear hmB
          go_wp2_with fail
          go_ret
          exact ⟨rfl, hB.out⟩
        · clear hmB
          go_wp2_with fail
          go_ret
          exact ⟨rfl, hB.out⟩
        · exact absurd rfl hmB
end Go.Proofs.YtjjmelhhalomaaaGreatDoor
namespace Go.Proofs.YtjjmelhhalomaaaGreatDoor
open Go.RowKit
set_option maxRecDepth 100000
set_option linter.unusedVariables false
set_option linter.unusedSimpArgs false
attribute [local go_sem ↓] Go.wp_at_zero Go.wp_at_succ
set_option maxHeartbeats 4000000 in
theorem rline_no (s : List UInt8) (w : World) (hs : s.length ≤ 3000) (h : (cutW s).1 ∉ ([[98, 97, 115, 101], [108, 105, 102, 116], [111, 114, 100, 101, 114], [104, 97, 115, 104], [112, 97, 105, 114], [115, 105, 103, 110], [115, 104, 111, 114, 116], [104, 105, 100, 101], [115, 104, 97, 114, 101, 115]] : List (List UInt8))) :
    Calls Tryz.prog 9 #[.string (bS s)] w fun e w' => e = .returned (.string (bS badB)) ∧ Below w.heap.size w w' := by
  have kW := Lib.hid (word_c s w (by omega))
  obtain ⟨X, R, M, hX⟩ : ∃ X R M, cutW s = (X, R, M) := ⟨_, _, _, rfl⟩
  rw [hX] at kW h
  simp only at kW h
  simp only [List.mem_cons, List.not_mem_nil, or_false, not_or] at h
  obtain ⟨h1, h2, h3, h4, h5, h6, h7, h8, h9⟩ := h
  obtain ⟨XS, hXS⟩ : ∃ x, bS X = x := ⟨_, rfl⟩
  have hXL : XS.toList = X := by rw [← hXS, bS_tl]
  rw [hXS] at kW
  have e1 : (XS.toList == [98, 97, 115, 101]) = false := beqF hXL h1
  have e2 : (XS.toList == [108, 105, 102, 116]) = false := beqF hXL h2
  have e3 : (XS.toList == [111, 114, 100, 101, 114]) = false := beqF hXL h3
  have e4 : (XS.toList == [104, 97, 115, 104]) = false := beqF hXL h4
  have e5 : (XS.toList == [112, 97, 105, 114]) = false := beqF hXL h5
  have e6 : (XS.toList == [115, 105, 103, 110]) = false := beqF hXL h6
  have e7 : (XS.toList == [115, 104, 111, 114, 116]) = false := beqF hXL h7
  have e8 : (XS.toList == [104, 105, 100, 101]) = false := beqF hXL h8
  have e9 : (XS.toList == [115, 104, 97, 114, 101, 115]) = false := beqF hXL h9
  clear hX hXS hXL h1 h2 h3 h4 h5 h6 h7 h8 h9
  go_enter Tryz.func9, Tryz.ntmps9
  go_wp2_with fail
  refine kW.out.mono ?_; rintro e w1 ⟨rfl, hb⟩
  have hB1 := Lib.hid hb
  clear hb kW
  go_wp2_with fail
  go_ret
  exact ⟨rfl, hB1.out⟩
theorem nAt_bd {ns : List Nat} (h : ∀ n ∈ ns, n < 10000) (i : Nat) : nAt ns i < 10000 := by
  unfold nAt
  rw [List.getD_eq_getElem?_getD]
  rcases hg : ns[i]? with _ | x
  · decide
  · exact h x (List.mem_of_getElem? hg)
theorem rline_c (s : List UInt8) (w : World) (hF : FarAt w) (hs : s.length ≤ 3000) :
    Calls Tryz.prog 9 #[.string (bS s)] w fun e w' => e = .returned (.string (bS (lineF s))) ∧ Below w.heap.size w w' := by
  unfold lineF
  split
  · rename_i h
    refine rline_y s 1 false A1 w hF hs (by rw [h]; unfold KindW; simp) fun ns t w1 F hl hn ht => ?_
    exact ans_base _ (by rw [bS_tl, h]) _ _ _ t w1 F (nAt_bd hn 0) (nAt_bd hn 1) (nAt_bd hn 2) ht
  split
  · rename_i h
    refine rline_y s 1 false A2 w hF hs (by rw [h]; unfold KindW; simp) fun ns t w1 F hl hn ht => ?_
    have h0 := nAt_bd hn 0
    unfold A2
    cases h1 : inside (nAt ns 0 : Int) with
    | false =>
      rw [if_pos rfl]
      have h3 : 4051 ≤ nAt ns 0 := by
        rcases Nat.lt_or_ge (nAt ns 0) 4051 with h4 | h4
        · rw [ins_iff.mpr ⟨by omega, by omega⟩] at h1; cases h1
        · exact h4
      exact ans_lift_1 _ (by rw [bS_tl, h]) _ _ _ t w1 F h0 (nAt_bd hn 1) (nAt_bd hn 2) ht h3
    | true =>
      rw [if_neg (by decide)]
      have h3 : nAt ns 0 < 4051 := by have := ins_iff.mp h1; omega
      cases h2 : isSq (height (nAt ns 0 : Int)) with
      | false => rw [if_pos rfl]; exact ans_lift_5 _ (by rw [bS_tl, h]) _ _ _ t w1 F h0 (nAt_bd hn 1) (nAt_bd hn 2) ht h3 h2
      | true => rw [if_neg (by decide)]; exact ans_lift_y _ (by rw [bS_tl, h]) _ _ _ t w1 F h0 (nAt_bd hn 1) (nAt_bd hn 2) ht h3 h2
  split
  · rename_i h
    refine rline_y s 1 false A3 w hF hs (by rw [h]; unfold KindW; simp) fun ns t w1 F hl hn ht => ?_
    exact ans_order _ (by rw [bS_tl, h]) _ _ _ t w1 F (nAt_bd hn 0) (nAt_bd hn 1) (nAt_bd hn 2) ht
  split
  · rename_i h
    refine rline_y s 0 true A4 w hF hs (by rw [h]; unfold KindW; simp) fun ns t w1 F hl hn ht => ?_
    exact ans_hash _ (by rw [bS_tl, h]) _ _ _ t w1 F (nAt_bd hn 0) (nAt_bd hn 1) (nAt_bd hn 2) ht
  split
  · rename_i h
    refine rline_y s 2 false A5 w hF hs (by rw [h]; unfold KindW; simp) fun ns t w1 F hl hn ht => ?_
    exact ans_pair _ (by rw [bS_tl, h]) _ _ _ t w1 F (nAt_bd hn 0) (nAt_bd hn 1) (nAt_bd hn 2) ht
  split
  · rename_i h
    refine rline_y s 2 true A6 w hF hs (by rw [h]; unfold KindW; simp) fun ns t w1 F hl hn ht => ?_
    have h0 := nAt_bd hn 0
    have h1 := nAt_bd hn 1
    have h2 := nAt_bd hn 2
    unfold A6
    by_cases q1 : 1 ≤ nAt ns 0 ∧ nAt ns 0 < 1013
    · by_cases q2 : 1 ≤ nAt ns 1 ∧ nAt ns 1 < 1013
      · rw [if_neg (by omega)]
        by_cases q3 : 60 < t.length
        · rw [if_pos q3]; exact ans_sign_4 _ (by rw [bS_tl, h]) _ _ _ t w1 F h0 h1 h2 ht q1 q2 q3
        · rw [if_neg q3]; exact ans_sign_y _ (by rw [bS_tl, h]) _ _ _ t w1 F h0 h1 h2 ht q1 q2 q3
      · rw [if_pos (by omega)]; exact ans_sign_2 _ (by rw [bS_tl, h]) _ _ _ t w1 F h0 h1 h2 ht q1 q2
    · rw [if_pos (by omega)]; exact ans_sign_1 _ (by rw [bS_tl, h]) _ _ _ t w1 F h0 h1 h2 ht q1
  split
  · rename_i h
    refine rline_y s 1 true A7 w hF hs (by rw [h]; unfold KindW; simp) fun ns t w1 F hl hn ht => ?_
    have h0 := nAt_bd hn 0
    have h1 := nAt_bd hn 1
    have h2 := nAt_bd hn 2
    unfold A7
    by_cases q1 : 1 ≤ nAt ns 0 ∧ nAt ns 0 < 1013
    · rw [if_neg (fun q => q q1)]
      by_cases q3 : 60 < t.length
      · rw [if_pos q3]; exact ans_short_4 _ (by rw [bS_tl, h]) _ _ _ t w1 F h0 h1 h2 ht q1 q3
      · rw [if_neg q3]; exact ans_short_y _ (by rw [bS_tl, h]) _ _ _ t w1 F h0 h1 h2 ht q1 q3
    · rw [if_pos q1]; exact ans_short_1 _ (by rw [bS_tl, h]) _ _ _ t w1 F h0 h1 h2 ht q1
  split
  · rename_i h
    refine rline_y s 2 false A8 w hF hs (by rw [h]; unfold KindW; simp) fun ns t w1 F hl hn ht => ?_
    have h0 := nAt_bd hn 0
    have h1 := nAt_bd hn 1
    have h2 := nAt_bd hn 2
    unfold A8
    by_cases q1 : nAt ns 0 < 1013
    · by_cases q2 : nAt ns 1 < 1013
      · rw [if_pos ⟨q1, q2⟩]; exact ans_hide_y _ (by rw [bS_tl, h]) _ _ _ t w1 F h0 h1 h2 ht q1 q2
      · rw [if_neg (fun q => q2 q.2)]; exact ans_hide_2 _ (by rw [bS_tl, h]) _ _ _ t w1 F h0 h1 h2 ht q1 q2
    · rw [if_neg (fun q => q1 q.1)]; exact ans_hide_1 _ (by rw [bS_tl, h]) _ _ _ t w1 F h0 h1 h2 ht q1
  split
  · rename_i h
    refine rline_y s 3 false A9 w hF hs (by rw [h]; unfold KindW; simp) fun ns t w1 F hl hn ht => ?_
    have h0 := nAt_bd hn 0
    have h1 := nAt_bd hn 1
    have h2 := nAt_bd hn 2
    unfold A9
    by_cases q1 : nAt ns 0 < 1013
    · by_cases q2 : nAt ns 1 < 1013
      · by_cases q3 : 1 ≤ nAt ns 2
        · by_cases q4 : nAt ns 2 ≤ 12
          · rw [if_pos ⟨q1, q2, q3, q4⟩]; exact ans_shares_y _ (by rw [bS_tl, h]) _ _ _ t w1 q1 q2 q3 q4
          · rw [if_neg (by omega)]; exact ans_shares_4 _ (by rw [bS_tl, h]) _ _ _ t w1 F h0 h1 h2 ht q1 q2 (by omega)
        · rw [if_neg (by omega)]; exact ans_shares_3 _ (by rw [bS_tl, h]) _ _ _ t w1 F h0 h1 h2 ht q1 q2 (by omega)
      · rw [if_neg (by omega)]; exact ans_shares_2 _ (by rw [bS_tl, h]) _ _ _ t w1 F h0 h1 h2 ht q1 q2
    · rw [if_neg (by omega)]; exact ans_shares_1 _ (by rw [bS_tl, h]) _ _ _ t w1 F h0 h1 h2 ht q1
  · rename_i h1 h2 h3 h4 h5 h6 h7 h8 h9
    exact rline_no s w hs (by simp only [List.mem_cons, List.not_mem_nil, or_false, not_or]; exact ⟨h1, h2, h3, h4, h5, h6, h7, h8, h9⟩)
end Go.Proofs.YtjjmelhhalomaaaGreatDoor
namespace Go.Proofs.YtjjmelhhalomaaaGreatDoor
open Go Go.RowKit
/-- An iterator that hands out xs, all of them, and steps by St on the heap between two rounds; Kp: what a round keeps. -/
def Goes {α : Type} (F : Fence) (n : Nat) (P : Program) (g : Nat) (lb : Array Value) (encs : α → Array Value) (Kp St : World → World → Prop) (xs : List α) (w : World) : Prop :=
  ∀ (l : Nat) (J : List α → World → Prop) (W : World), Below w.heap.size w W → (∀ pre A B, J pre A → St A B → J pre B) →
    (∀ pre x W1, J pre W1 → (pre ++ [x]) <+: xs → YieldAt F (n - 1) P l (encs x) W1 fun e W' => e = .returned (.bool true) ∧ J (pre ++ [x]) W' ∧ Kp W1 W') →
    J [] W → CallsIn F n P g (#[.func (.yield l) #[] #[]] ++ lb) W fun e W' => (∃ v, e = .returned v) ∧ J xs W'
/-- A round's end where no round leaves. -/
def goesPost {α : Type} (B : Nat) (Kp : World → World → Prop) (I : List α → World → Prop) (xs : List α) (W : World) : Exit → Act → World → Prop
  | .normal, _, W' => KeepsFrom B W W' ∧ Kp W W' ∧ I xs W'
  | _, _, _ => False
theorem wpIn_goes {F : Fence} {n : Nat} {P : Program} {α : Type} {g : Operand} {ps : Array Tmp} {assign body : Code} {Q : Exit → Act → World → Prop} {a : Act} {w : World}
    (hro : F.round = none) (h1 : 1 ≤ n) {gf : Nat} {lb : Array Value} (hg : a.eval g = .func (.func gf) #[] lb) (hFg : F.fn gf) (eg : ∀ args w, (callFunc gf args).run P w = .ok (.enter gf args) w)
    {encs : α → Array Value} {Kp St : World → World → Prop} {xs : List α} {w0 : World} (hseq : Goes F (n - 1) P gf lb encs Kp St xs w0)
    (hKt : ∀ A B C, Kp A B → Kp B C → Kp A C) (hKb : ∀ (W : World) (l : Nat) (o o' : Obj), w.heap.size ≤ l → W.heap[l]? = some o → o.isCells = false → o.isWalk = false → Kp W (W.putObj l o')) (hb0 : Below w0.heap.size w0 w) (hps : ∀ x, (encs x).size = ps.size)
    (I : List α → World → Prop) (hI : OwnFrom w.heap.size I) (hIS : ∀ pre A B, I pre A → St A B → I pre B) (hSt : ∀ (A B : World) (k : Nat) (o : Obj), St A B → A.heap[k]? = some o → o.isCells = false → B.heap[k]? = some o) (h0 : I [] w) (a₁ : α → Act)
    (hassign : ∀ (l : Nat) (x : α) (W : World) (K : Act → World → Prop), K (a₁ x) W →
      assign.wpIn (F.inRound l) (n - 1 - 1) P (Exit.then K (fun _ _ _ => False)) { tmps := (ps.zip (encs x)).foldl (fun t (p, v) => t.setIfInBounds p v) a.tmps, defers := [] } W)
    (hbody : ∀ (l : Nat) (pre : List α) (x : α) (W : World), I pre W → (pre ++ [x]) <+: xs → body.wpIn (F.inRound l) (n - 1 - 1) P (goesPost w.heap.size Kp I (pre ++ [x]) W) (a₁ x) W)
    (hdone : ∀ (D : Nat) (W : World), w.heap.size ≤ D → I xs W → W.heap[D]? = some (.deferred (some [])) → Q .normal { a with defers := { target := .collected D, args := #[] } :: a.defers } W) :
    (Code.rangeFunc g ps assign body).wpIn F n P Q a w := by
  refine wpIn_rangeFunc fun fn hfn => ?_
  rw [hro]
  -- the record of the loop, by its state
  let rec' : LoopState → Loop := fun st => { state := st, pending := none, fn, tmps := a.tmps, params := ps, assign, body, defers := w.heap.size }
  obtain ⟨rc, hrc⟩ : ∃ rc, rc = rec' := ⟨_, rfl⟩
  have rst : ∀ st, (rc st).state = st := fun st => by rw [hrc]
  have rpe : ∀ st, (rc st).pending = none := fun st => by rw [hrc]
  have rset : ∀ st st', { rc st with state := st' } = rc st' := fun st st' => by rw [hrc]
  have rset2 : ∀ st st', { rc st with state := st', pending := none } = rc st' := fun st st' => by rw [hrc]
  have rfn : ∀ st, (rc st).fn = fn ∧ (rc st).tmps = a.tmps ∧ (rc st).params = ps ∧ (rc st).assign = assign ∧ (rc st).body = body := fun st => by rw [hrc]; exact ⟨rfl, rfl, rfl, rfl, rfl⟩
  obtain ⟨S, hS⟩ : ∃ S, w.heap.size = S := ⟨_, rfl⟩
  obtain ⟨W1, hW1⟩ : ∃ W1, (w.alloc (.deferred (some []))).alloc (.loop (rc .ready)) = W1 := ⟨_, rfl⟩
  -- both blocks of book-keeping, in a world
  let Bk : LoopState → World → Prop := fun st W => W.heap[S + 1]? = some (.loop (rc st)) ∧ W.heap[S]? = some (.deferred (some []))
  have hBk1 : Bk .ready W1 := by
    refine ⟨?_, ?_⟩
    · rw [← hW1, ← hS]; have := World.alloc_heap_new (w.alloc (.deferred (some []))) (.loop (rc .ready)); rwa [World.size_alloc] at this
    · rw [← hW1, ← hS]; exact (Below.heap_alloc _ _ _ (by simp)).trans (World.alloc_heap_new w _)
  have hb1 : Below w0.heap.size w0 W1 := by
    rw [← hW1]; exact hb0.trans ((((Below.refl _ w).alloc (Nat.le_refl _) _).alloc (by simp) _).mono hb0.size)
  have put : ∀ st st' W, Bk st W → Bk st' (W.putObj (S + 1) (.loop (rc st'))) := fun st st' W h =>
    ⟨World.putObj_heap_same (Array.getElem?_eq_some_iff.1 h.1).1, (World.putObj_heap_other (by omega)).trans h.2⟩
  refine ⟨S + 1, [{ target := .collected S, args := #[] }], W1, { target := .fn (.func gf) lb, args := #[.func (.yield (S + 1)) #[] #[]] }, W1, gf, #[.func (.yield (S + 1)) #[] #[]] ++ lb, W1, ?_, ?_, ?_, ?_, fun _ => h1, ?_⟩
  · rw [← hW1, hrc, ← hS]; exact run_enterLoop_outer _ _ _ _ _
  · simp only [resolve, hg]
    simp [go_sem]
  · intro f' hf'; simp [Target.leads] at hf'; subst hf'; exact hFg
  · simp [invoke, go_sem, eg]
  · refine (hseq (S + 1) (fun pre W => I pre W ∧ Bk .ready W) W1 hb1 (fun pre A B h hst => ⟨hIS pre A B h.1 hst, hSt A B _ _ hst h.2.1 rfl, hSt A B _ _ hst h.2.2 rfl⟩) ?_ ⟨by rw [← hW1]; exact hI.alloc _ (hI.alloc _ h0), hBk1⟩).mono ?_
    · rintro pre x W ⟨hi, hb⟩ hpre
      have hy := run_yield (P := P) (args := encs x) hb.1 (by rw [(rfn _).2.2.1]; exact hps x)
      obtain ⟨e1, e2, e3, e4, e5⟩ := rfn .ready
      rw [e1, e2, e3, e4, e5] at hy
      refine ⟨fn, _, assign, body, hy, roundIn_of_wpIn hfn (hassign _ x W _ ⟨_, run_beginRound hb.1 (rst _), ?_⟩)⟩
      rw [rset]
      have hb2 := put _ .busy W hb
      have hk2 : Kp W (W.putObj (S + 1) (.loop (rc .busy))) := hKb _ _ _ _ (by omega) hb.1 rfl rfl
      refine wpIn_mono (hbody _ pre x _ (hI.putObj _ hi (by omega) hb.1 rfl) hpre) ?_
      rintro e a3 W3 hp
      cases e with
      | normal =>
        obtain ⟨hk3, hkp3, hi3⟩ := hp
        have hb3 : Bk .busy W3 := ⟨hk3.same _ _ (by omega) hb2.1 rfl, hk3.same _ _ (by omega) hb2.2 rfl⟩
        have he := run_endRound (P := P) none hb3.1
        simp only [Option.isNone_none, if_true, rset2] at he
        exact ⟨_, _, he, rfl, ⟨hI.putObj _ hi3 (by omega) hb3.1 rfl, put _ .ready W3 hb3⟩, hKt _ _ _ (hKt _ _ _ hk2 hkp3) (hKb _ _ _ _ (by omega) hb3.1 rfl rfl)⟩
      | ret => exact hp.elim
      | exit id => exact hp.elim
      | goto t => exact hp.elim
      | panic ch => exact hp.elim
      | outgrown => exact hp.elim
    · rintro e W2 ⟨⟨v, rfl⟩, hi, hb⟩
      have he := run_endLoop (P := P) hb.1 (by rw [rst]; simp)
      rw [rset, rpe] at he
      refine ⟨none, _, he, ?_⟩
      have := hdone S _ (by omega) (hI.putObj (.loop (rc .exhausted)) hi (by omega) hb.1 rfl) ((World.putObj_heap_other (by omega)).trans hb.2)
      exact this
end Go.Proofs.YtjjmelhhalomaaaGreatDoor
namespace Go.Proofs.YtjjmelhhalomaaaGreatDoor
open Go.RowKit Go.Shelf
set_option maxRecDepth 100000
set_option linter.unusedVariables false
set_option linter.unusedSimpArgs false
attribute [local go_sem] Oper.semAt_some
theorem nl_split : ∀ r : List UInt8, (∀ b ∈ r, b ≠ 10) ∨ ∃ a c, r = a ++ 10 :: c ∧ ∀ b ∈ a, b ≠ 10
  | [] => .inl fun b h => absurd h List.not_mem_nil
  | x :: r => by
    by_cases hx : x = 10
    · exact .inr ⟨[], r, by rw [hx]; rfl, fun b h => absurd h List.not_mem_nil⟩
    · rcases nl_split r with h | ⟨a, c, e, h⟩
      · exact .inl fun b hb => by
          rcases List.mem_cons.1 hb with rfl | hb
          · exact hx
          · exact h b hb
      · exact .inr ⟨x :: a, c, by rw [e]; rfl, fun b hb => by
          rcases List.mem_cons.1 hb with rfl | hb
          · exact hx
          · exact h b hb⟩
theorem index_pre : ∀ (a c : List UInt8), (∀ b ∈ a, b ≠ 10) → Lib.indexByte (a ++ 10 :: c) 10 = (a.length : Int)
  | [], c, _ => by simp [Lib.indexByte]
  | x :: a, c, h => by
    have ih := index_pre a c (fun b hb => h b (List.mem_cons_of_mem _ hb))
    have hx := h x List.mem_cons_self
    rw [List.cons_append, Lib.indexByte, if_neg (by simpa using hx), ih, if_neg (by simp <;> omega), List.length_cons]
    rfl
theorem index_no : ∀ (a : List UInt8), (∀ b ∈ a, b ≠ 10) → Lib.indexByte a 10 = -1
  | [], _ => rfl
  | x :: a, h => by
    have ih := index_no a (fun b hb => h b (List.mem_cons_of_mem _ hb))
    have hx := h x List.mem_cons_self
    rw [Lib.indexByte, if_neg (by simpa using hx), ih]
    exact if_pos rfl
theorem sindex_c (s : List UInt8) (w : World) : Calls Tryz.prog 58 #[.string (bS s), .int .u8 10] w fun e w' => e = .returned (.int .i64 (Lib.indexByte s 10)) ∧ w' = w := by
  have hI := Tryz.stringslite_IndexByte (bS s) 10 w
  rw [bS_list] at hI
  replace hI := Lib.hid hI
  go_enter Tryz.func58, Tryz.ntmps58
  go_wp2_with fail
  refine hI.out.mono ?_; rintro e w' ⟨rfl, rfl⟩
  go_wp2
  go_ret
  exact ⟨rfl, rfl⟩
theorem lines_c (s : ByteArray) (w : World) :
    Calls Tryz.prog 28 #[.string s] w fun e w' => e = .returned (.func (.func 57) #[] #[.pointer (some ⟨w.heap.size, 0, none⟩)]) ∧ w' = w.alloc (.cells #[.string s] 9) := by
  go_enter Tryz.func28, Tryz.ntmps28
  go_wp2
  go_ret
  exact ⟨rfl, rfl⟩
theorem bS_extract (l m : List UInt8) (i j : Nat) (h : (l.drop i).take (j - i) = m) : (bS l).extract i j = bS m := by
  have : ((bS l).extract i j).data = (bS m).data := by
    apply Array.ext'
    rw [Lib.extract_data, bS_list, bS_list]; exact h
  exact ByteArray.ext this
/-- A step of the iterator: what is left is stored. -/
def LnSt (Bs : Nat) (A B : World) : Prop := ∃ u : Value, B = A.setCell ⟨Bs, 0, none⟩ u ∨ B = (A.setCell ⟨Bs, 0, none⟩ u).drew
/-- What a round keeps: the box of what is left. -/
def LnKp (Bs : Nat) (W W' : World) : Prop := W'.heap[Bs]? = W.heap[Bs]?
set_option maxHeartbeats 2000000 in
theorem lines1_in (l Bs : Nat) (t : List UInt8) (ht : t.length ≤ 9223372036854775807) (J : List (List UInt8) → World → Prop) (hJ : ∀ pre A B, J pre A → LnSt Bs A B → J pre B)
    (hY : ∀ pre x W1, J pre W1 → (pre ++ [x]) <+: linesL t → YieldAt Fence.wide 3 Tryz.prog l #[.string (bS x)] W1 fun e W' => e = .returned (.bool true) ∧ J (pre ++ [x]) W' ∧ LnKp Bs W1 W')
    (W : World) (hBs : W.cell? ⟨Bs, 0, none⟩ = some (.string (bS t))) (hBf : W.frozen? ⟨Bs, 0, none⟩ = false) (h0 : J [] W) :
    CallsIn Fence.wide 4 Tryz.prog 57 #[.func (.yield l) #[] #[], .pointer (some ⟨Bs, 0, none⟩)] W fun e W' => (∃ v, e = .returned v) ∧ J (linesL t) W' := by
  refine callsIn_of_wp Tryz.func57 rfl trivial ?_ rfl
  simp only [Tryz.ntmps57, List.size_toArray, List.length_cons, List.length_nil, Nat.reduceAdd, Nat.reduceSub, Array.replicate_succ, Array.replicate_zero, List.push_toArray, List.append_toArray, List.nil_append, List.cons_append]
  gi_wp2
  gi_loopw [] (fun wr => ∃ (pre : List (List UInt8)) (r : List UInt8), linesL t = pre ++ linesL r ∧ r.length ≤ t.length ∧ wr.cell? ⟨Bs, 0, none⟩ = some (.string (bS r)) ∧ wr.frozen? ⟨Bs, 0, none⟩ = false ∧ J pre wr)
    (fun wr => match wr.cell? ⟨Bs, 0, none⟩ with | some (.string s) => s.size | _ => 0)
  case atStart => exact ⟨[], t, rfl, Nat.le_refl _, hBs, hBf, h0⟩
  case round =>
    obtain ⟨pre, r, hr, hl, hc, hf, hj⟩ := hrel
    by_cases hr0 : r = []
    · subst hr0
      have hz : (bS []).size = 0 := rfl
      have e : linesL t = pre := by rw [hr]; exact List.append_nil _
      have hj' : J (linesL t) wr := by rw [e]; exact hj
      clear hr e hj
      gi_wp2
      go_end0
      exact ⟨⟨_, rfl⟩, hj'⟩
    · have hp : 0 < (bS r).size := by rw [bS_size]; exact List.length_pos_iff.2 hr0
      have hz2 : (bS r).size = r.length := bS_size r
      replace hz2 := Lib.hid hz2
      rcases nl_split r with hn | ⟨a, c, he, ha⟩
      · have hx : Lib.indexByte r 10 = -1 := index_no r hn
        have hI := sindex_c r wr
        rw [hx] at hI
        have hl1 : linesL r = [r] := linesL_last r hn hr0
        rw [hl1] at hr
        replace hI := Lib.hid hI
        clear hl1 hx hn hr0
        have hj2 := hJ pre wr (wr.setCell ⟨Bs, 0, none⟩ (.string ⟨#[]⟩)) hj ⟨_, .inl rfl⟩
        obtain ⟨fn, tmps, assign, body, hy, hR⟩ := hY pre r _ hj2 (by rw [hr]; exact List.prefix_refl _)
        replace hr := Lib.hid hr
        replace hR := Lib.hid hR
        gi_wp2_with (refine ⟨trivial, ?_⟩; gi_at_call 58; refine (callsIn_wide.2 hI.out).mono ?_; rintro e w' ⟨rfl, rfl⟩)
        refine hR.out.mono ?_
        rintro e W3 ⟨rfl, hJ3, hk3⟩
        have hc3 : W3.cell? ⟨Bs, 0, none⟩ = some (.string (bS [])) := (World.cell?_of_block (a := ⟨Bs, 0, none⟩) hk3).trans (World.cell?_setCell_same _ _ _ hc)
        have hf3 : W3.frozen? ⟨Bs, 0, none⟩ = false := (World.frozen?_of_block (a := ⟨Bs, 0, none⟩) hk3).trans (by simpa using hf)
        have hp' := Lib.hid hp
        have hc' := Lib.hid hc
        clear hp hc hf hy hR hI hj hj2
        gi_wp2
        go_roundw
        case rel => exact ⟨pre ++ [r], [], by rw [hr.out]; simp [linesL, linesGo], Nat.zero_le _, hc3, hf3, hJ3⟩
        case measure => rw [hc3, hc'.out]; exact hp'.out
      · subst he
        have hx : Lib.indexByte (a ++ 10 :: c) 10 = (a.length : Int) := index_pre a c ha
        have hI := sindex_c (a ++ 10 :: c) wr
        rw [hx] at hI
        have hl1 : linesL (a ++ 10 :: c) = (a ++ [10]) :: linesL c := linesL_cons a c ha
        rw [hl1] at hr
        replace hI := Lib.hid hI
        have hs1 : (bS (a ++ 10 :: c)).extract 0 (a.length + 1) = bS (a ++ [10]) := bS_extract _ _ _ _ (by rw [List.drop_zero, Nat.sub_zero, show a ++ 10 :: c = (a ++ [10]) ++ c by simp]; exact List.take_left' (by simp))
        have hs2 : (bS (a ++ 10 :: c)).extract (a.length + 1) (bS (a ++ 10 :: c)).size = bS c := bS_extract _ _ _ _ (by rw [show a ++ 10 :: c = (a ++ [10]) ++ c by simp, List.drop_left' (by simp)]; exact List.take_of_length_le (by rw [bS_size]; simp; omega))
        have hla : a.length + 1 ≤ (bS (a ++ 10 :: c)).size := by rw [bS_size]; simp
        have hlb : (bS (a ++ 10 :: c)).size ≤ 9223372036854775807 := by rw [bS_size]; omega
        clear hl1 hx hr0
        generalize hR0 : bS (a ++ 10 :: c) = R at *
        replace hR0 := Lib.hid hR0
        gi_wp2_with (refine ⟨trivial, ?_⟩; gi_at_call 58; refine (callsIn_wide.2 hI.out).mono ?_; rintro e w' ⟨rfl, rfl⟩)
        gi_region
        have hj2 := hJ pre w' (w'.setCell ⟨Bs, 0, none⟩ (.string (bS c))).drew hj ⟨_, .inr rfl⟩
        obtain ⟨fn, tmps, assign, body, hy, hR⟩ := hY pre (a ++ [10]) _ hj2 (by rw [hr]; exact ⟨linesL c, by simp⟩)
        replace hr := Lib.hid hr
        replace hR := Lib.hid hR
        gi_wp2
        refine hR.out.mono ?_
        rintro e W3 ⟨rfl, hJ3, hk3⟩
        have hc3 : W3.cell? ⟨Bs, 0, none⟩ = some (.string (bS c)) := (World.cell?_of_block (a := ⟨Bs, 0, none⟩) hk3).trans (World.cell?_setCell_same _ _ _ hc)
        have hf3 : W3.frozen? ⟨Bs, 0, none⟩ = false := (World.frozen?_of_block (a := ⟨Bs, 0, none⟩) hk3).trans (by rw [frozen_drew_own]; simpa using hf)
        have hms : Hid ((bS c).size < R.size) := Lib.hid (by rw [hz2.out, bS_size]; simp; omega)
        have hc' := Lib.hid hc
        clear hp hc hf hy hR hI hj hj2 hs1 hs2 hla hlb
        gi_wp2
        go_roundw
        case rel => exact ⟨pre ++ [a ++ [10]], c, by rw [hr.out]; simp, by simp at hl; omega, hc3, hf3, hJ3⟩
        case measure => rw [hc3, hc'.out]; exact hms.out
theorem lines_goes (Bs : Nat) (t : List UInt8) (ht : t.length ≤ 9223372036854775807) (w : World) (hB : Bs < w.heap.size) (hc : w.cell? ⟨Bs, 0, none⟩ = some (.string (bS t))) (hf : w.frozen? ⟨Bs, 0, none⟩ = false) :
    Goes Fence.wide 4 Tryz.prog 57 #[.pointer (some ⟨Bs, 0, none⟩)] (fun x : List UInt8 => #[Value.string (bS x)]) (LnKp Bs) (LnSt Bs) (linesL t) w := fun l J W hW hJ hY h0 =>
  lines1_in l Bs t ht J hJ hY W ((hW.cell (p := ⟨Bs, 0, none⟩) hB).trans hc) ((hW.frozen (p := ⟨Bs, 0, none⟩) hB).trans hf) h0
end Go.Proofs.YtjjmelhhalomaaaGreatDoor
namespace Go.Proofs.YtjjmelhhalomaaaGreatDoor
open Go.RowKit
set_option maxRecDepth 100000
set_option linter.unusedVariables false
set_option linter.unusedSimpArgs false
theorem but_freeze {S : Nat → Prop} {a w : World} (h : But S a w) {p : Addr} (hp : S p.block) (n : Nat) : But S a (w.freeze p n) := by
  refine h.trans ?_
  unfold World.freeze
  split
  · exact But.refl _ _
  · refine ⟨rfl, rfl, rfl, by simp, fun k hk hs => ?_⟩
    simp only [Array.getElem?_modify]
    rw [if_neg]
    intro e
    exact hs (by rw [← e]; exact hp)
theorem cells_byte : Tryz.prog.cellsOf 5 = 1 := by kernel_rfl
set_option maxHeartbeats 2000000 in
theorem bstring_y (B1 b : Nat) (v : Value) (l : List UInt8) (w : World) (h : BdV w B1 b v (Lib.byteCells l)) (h0 : l ≠ []) (hl9 : l.length ≤ 1000000000) :
    Calls Tryz.prog 32 #[.pointer (some ⟨b, 0, none⟩)] w fun e w' => e = .returned (.string (bS l)) ∧ But (fun k => v.ownBlock = some k) w w' := by
  obtain ⟨p, hbk, -, hown⟩ := h
  have hl0 : l.length ≠ 0 := by simpa using h0
  rw [Lib.byteCells_length] at hown
  obtain ⟨g, cap, cur, rfl, hbg, hg, hnc, hcm, hcs, htake⟩ : ∃ g cap cur, v = .slice (some ⟨g, 0, none⟩) l.length cap ∧ B1 ≤ g ∧ w.heap[g]? = some (.cells cur 5 (0, 0)) ∧ l.length ≤ cap ∧ cap ≤ maxLen ∧ cur.size = cap * 1 ∧ cur.toList.take (l.length * 1) = Lib.byteCells l := by
    rcases hown.2 with ⟨_, hz⟩ | ⟨g, cap, cur, hv, r⟩
    · exact absurd hz hl0
    · exact ⟨g, cap, cur, hv, r⟩
  have c1 : w.drew.cell? ⟨b, 1, none⟩ = some (.slice (some ⟨g, 0, none⟩) l.length cap) := by
    have : w.drew.heap[b]? = some (.cells #[p, .slice (some ⟨g, 0, none⟩) l.length cap] 64 (0, 0)) := hbk
    rw [Lib.cell_of_heap this]; rfl
  have hSD : (Builtin.unsafeSliceData_ #[62] 108 #[.slice (some ⟨g, 0, none⟩) l.length cap]).run Tryz.prog w.drew = .ok (.pointer (some ⟨g, 0, none⟩)) w.drew := Lib.run_unsafeSliceData_row _ _ _ _ _ _ (by omega)
  have hUS : (Builtin.unsafeString_ #[108, 3] 9 #[.pointer (some ⟨g, 0, none⟩), .int .i64 l.length]).run Tryz.prog w.drew = .ok (.string (bS l)) (w.drew.freeze ⟨g, 0, none⟩ l.length) := by
    refine Lib.run_unsafeString_row w.drew 108 3 9 5 Tryz.underlying108 cells_byte g cur.size (by have hg' : w.drew.heap[g]? = some (.cells cur 5 (0, 0)) := hg; simp [World.shape?, hg']) l h0 (by omega) (by omega) ?_
    intro j x hx
    exact hown.cells (g := g) rfl j (.int .u8 x.toNat) (by simp [Lib.byteCells, hx])
  have hbt : But (fun k => (Value.slice (some ⟨g, 0, none⟩) l.length cap).ownBlock = some k) w (w.drew.freeze ⟨g, 0, none⟩ l.length) := but_freeze (S := fun k => (Value.slice (some ⟨g, 0, none⟩) l.length cap).ownBlock = some k) (But.of_below (Below.refl _ _).drew) (p := ⟨g, 0, none⟩) (show (Value.slice (some ⟨g, 0, none⟩) l.length cap).ownBlock = some g from rfl) _
  replace hbt := Lib.hid hbt
  go_enter Tryz.func32, Tryz.ntmps32
  go_wp2
  go_region
  all_goals
    go_wp2
    go_ret
    exact ⟨rfl, hbt.out⟩
set_option maxHeartbeats 2000000 in
theorem bstring_0 (B1 b : Nat) (w : World) (h : BdV w B1 b (.slice none 0 0) []) :
    Calls Tryz.prog 32 #[.pointer (some ⟨b, 0, none⟩)] w fun e w' => e = .returned (.string (bS [])) ∧ But (fun k => False) w w' := by
  obtain ⟨p, hbk, -, -⟩ := h
  have hUS := fun (W : World) (q : Option Addr) => Lib.run_unsafeString_none (P := Tryz.prog) W 108 3 9 q
  have c1 : w.drew.cell? ⟨b, 1, none⟩ = some (.slice none 0 0) := by
    have : w.drew.heap[b]? = some (.cells #[p, .slice none 0 0] 64 (0, 0)) := hbk
    rw [Lib.cell_of_heap this]; rfl
  have hSD : (Builtin.unsafeSliceData_ #[62] 108 #[.slice none 0 0]).run Tryz.prog w.drew = .ok (.pointer none) w.drew := rfl
  go_enter Tryz.func32, Tryz.ntmps32
  go_wp2
  go_region
  all_goals
    go_wp2
    go_ret
    exact ⟨rfl, But.of_below (Below.refl _ _).drew⟩
/-- The lines of a text. -/
theorem linesL_facts : ∀ (n : Nat) (t : List UInt8), t.length ≤ n → (linesL t).flatten = t ∧ (linesL t).length ≤ t.length ∧ ∀ l ∈ linesL t, l.length ≤ t.length
  | 0, t, h => by
    obtain rfl : t = [] := List.eq_nil_of_length_eq_zero (by omega)
    exact ⟨rfl, Nat.le_refl _, fun l hl => by simp [linesL, linesGo] at hl⟩
  | n + 1, t, h => by
    rcases nl_split t with hn | ⟨a, c, rfl, ha⟩
    · by_cases h0 : t = []
      · subst h0
        exact ⟨rfl, Nat.le_refl _, fun l hl => by simp [linesL, linesGo] at hl⟩
      · rw [linesL_last t hn h0]
        have : 1 ≤ t.length := List.length_pos_iff.mpr h0
        exact ⟨by simp, by simp; omega, fun l hl => by obtain rfl := List.mem_singleton.1 hl; exact Nat.le_refl _⟩
    · rw [linesL_cons a c ha]
      have hl : (a ++ 10 :: c).length = a.length + c.length + 1 := by simp; omega
      obtain ⟨h1, h2, h3⟩ := linesL_facts n c (by omega)
      refine ⟨by simp [h1], by simp; omega, fun l hl' => ?_⟩
      rcases List.mem_cons.1 hl' with rfl | hl'
      · simp
      · have := h3 l hl'; omega
end Go.Proofs.YtjjmelhhalomaaaGreatDoor
namespace Go.Proofs.YtjjmelhhalomaaaGreatDoor
open Go.RowKit
set_option maxRecDepth 100000
set_option linter.unusedVariables false
theorem cutGo_ne (c : UInt8) : ∀ (l cur : List UInt8), cutGo c cur l ≠ []
  | [], cur => by simp [cutGo]
  | b :: l, cur => by
    unfold cutGo
    split
    · simp
    · exact cutGo_ne c l _
/-- The pieces of a text, without an empty last one. -/
def partsL (t : List UInt8) : List (List UInt8) := if (cutGo 10 [] t).getLast? = some [] then (cutGo 10 [] t).dropLast else cutGo 10 [] t
theorem parts_eq : ∀ (n : Nat) (t : List UInt8), t.length ≤ n → (linesL t).map trimL = partsL t
  | 0, t, h => by
    obtain rfl : t = [] := List.eq_nil_of_length_eq_zero (by omega)
    rfl
  | n + 1, t, h => by
    rcases nl_split t with hn | ⟨a, c, rfl, ha⟩
    · have e := cutGo_last 10 t [] hn
      rw [List.nil_append] at e
      unfold partsL
      rw [e]
      by_cases h0 : t = []
      · subst h0; rfl
      · rw [linesL_last t hn h0, if_neg (by simpa using h0)]
        simp [trimL_no t hn]
    · rw [linesL_cons a c ha]
      have ih := parts_eq n c (by simp at h; omega)
      have e := cutGo_word 10 c a [] ha
      rw [List.nil_append] at e
      have hne := cutGo_ne 10 c []
      unfold partsL at ih ⊢
      rw [e, List.map_cons, trimL_nl, ih]
      obtain ⟨y, l, hl⟩ := List.exists_cons_of_ne_nil hne
      rw [hl]
      have e2 : (a :: y :: l).getLast? = (y :: l).getLast? := rfl
      rw [e2]
      split
      · rfl
      · rfl
/-- The answers to pieces, one behind the other. -/
noncomputable def outP (ps : List (List UInt8)) : List UInt8 := (ps.map fun x => lineF x ++ [10]).flatten
theorem outP_eq (t : List UInt8) : outsF (linesL t) = outP (partsL t) := by
  rw [← parts_eq _ t (Nat.le_refl _)]
  unfold outsF outP
  rw [List.map_map]
  rfl
theorem outP_snoc (ps : List (List UInt8)) (x : List UInt8) : outP (ps ++ [x]) = (outP ps ++ lineF x) ++ [10] := by unfold outP; rw [List.map_append, List.flatten_append]; simp
theorem outP_len : ∀ ps : List (List UInt8), (outP ps).length ≤ 101 * ps.length
  | [] => Nat.zero_le _
  | x :: ps => by
    have h1 := outP_len ps
    have h2 := lineF_len x
    unfold outP at h1 ⊢
    simp only [List.map_cons, List.flatten_cons, List.length_append, List.length_cons, List.length_nil] at h1 ⊢
    omega
theorem cutGo_part (c : UInt8) : ∀ (l cur : List UInt8), ∀ x ∈ cutGo c cur l, x.length ≤ cur.length + l.length
  | [], cur, x, h => by
    simp [cutGo] at h; subst h; simp
  | b :: l, cur, x, h => by
    unfold cutGo at h
    split at h
    · rcases List.mem_cons.1 h with rfl | h
      · omega
      · have := cutGo_part c l [] x h; simp at this ⊢; omega
    · have := cutGo_part c l _ x h; simp at this ⊢; omega
end Go.Proofs.YtjjmelhhalomaaaGreatDoor
namespace Go.Proofs.YtjjmelhhalomaaaGreatDoor
open Go.RowKit Go.Shelf
set_option maxRecDepth 100000
set_option linter.unusedVariables false
set_option linter.unusedSimpArgs false
attribute [local go_sem] Oper.semAt_some
/-- Between two rounds: the builder with so many answers. -/
def RnI (w : World) (pre : List (List UInt8)) (W : World) : Prop :=
  ∃ v, BdV W (w.heap.size + 2) w.heap.size v (Lib.byteCells (outsF pre)) ∧ (pre = [] → v = .slice none 0 0) ∧ w.heap.size + 1 < W.heap.size ∧ Below w.heap.size w W
theorem RnI.own (w : World) (B : Nat) (hB : w.heap.size ≤ B) : OwnFrom B (RnI w) := fun pre A W row hI hg hr => by
  obtain ⟨v, hb, hv, hl, h5⟩ := hI
  refine ⟨v, hb.keep (fun k hk => hg.block k (hb.blk k hk) (fun e => ?_)), hv, Nat.lt_of_lt_of_le hl hg.size, h5.grown hg h5.size (fun k e => Nat.le_trans hB (hr k e).1)⟩
  obtain ⟨o, h1, h2⟩ := hb.cells k hk
  obtain ⟨-, o', h3, h4⟩ := hr k e.symm
  rw [h1] at h3; cases h3; rw [h2] at h4; cases h4
theorem RnI.step (w : World) : ∀ pre A W, RnI w pre A → LnSt (w.heap.size + 1) A W → RnI w pre W := fun pre A W hI hst => by
  obtain ⟨v, hb, hv, hl, h5⟩ := hI
  have hne : ∀ k, k = w.heap.size ∨ v.ownBlock = some k → k ≠ w.heap.size + 1 := fun k hk e => by
    obtain ⟨p, -, -, ho⟩ := hb
    rcases hk with rfl | hk
    · omega
    · have := (ho.lt k hk).1; omega
  have key : ∀ u, RnI w pre (A.setCell ⟨w.heap.size + 1, 0, none⟩ u) := fun u =>
    ⟨v, hb.keep (fun k hk => heap_setCell_other A ⟨w.heap.size + 1, 0, none⟩ k u (hne k hk)), hv, by simpa using hl, h5.setCell (p := ⟨w.heap.size + 1, 0, none⟩) (by show w.heap.size ≤ w.heap.size + 1; omega) u⟩
  obtain ⟨u, rfl | rfl⟩ := hst
  · exact key u
  · obtain ⟨v, hb, hv, hl, h5⟩ := key u
    exact ⟨v, hb.below (Below.refl _ _).drew, hv, hl, h5.drew⟩
theorem strCells_bS (l : List UInt8) : Lib.strCells (bS l) = Lib.byteCells l := by unfold Lib.strCells Lib.byteCells; rw [bS_list]
theorem byteCells_app (a b : List UInt8) : Lib.byteCells a ++ Lib.byteCells b = Lib.byteCells (a ++ b) := by unfold Lib.byteCells; rw [List.map_append]
theorem trim_c (l : List UInt8) (hl : l.length ≤ 3000) (w : World) : Calls Tryz.prog 31 #[.string (bS l), .string (bS [10])] w fun e w' => e = .returned (.string (bS (trimL l))) ∧ w' = w := by
  refine (Tryz.strings_TrimSuffix (bS l) (bS [10]) w (by rw [bS_size]; omega)).mono ?_
  rintro e w' ⟨rfl, rfl⟩
  refine ⟨?_, rfl⟩
  rw [bS_list, bS_list]; rfl
set_option maxHeartbeats 16000000 in
theorem run_c (t : List UInt8) (w : World) (R : RunAt w) (ht : t.length ≤ 3000) :
    Calls Tryz.prog 7 #[.string (bS t)] w fun e w' => e = .returned (.string (bS (outsF (linesL t)))) ∧ Below w.heap.size w w' := by
  obtain ⟨hfl, hln, hll⟩ := linesL_facts _ t (Nat.le_refl _)
  have hz0 := bS_size t
  have hz1 : ¬ ((3000 : Int) < ((bS t).size : Int)) := by rw [hz0]; omega
  have R' := Lib.hid R
  clear R
  refine (callsIn_wide (n := 6)).1 ?_
  refine callsIn_of_wp_marks Tryz.func7 rfl trivial ?_
  simp only [Tryz.ntmps7, List.size_toArray, List.length_cons, List.length_nil, Nat.reduceAdd, Nat.reduceSub, Array.replicate_succ, Array.replicate_zero, List.push_toArray, List.append_toArray, List.nil_append, List.cons_append]
  refine wpIn_wide.2 ?_
  generalize hQq : bodyPostM _ _ _ _ _ = QQ
  replace hQq := Lib.hid hQq
  have g1 : decide ((bS t).size > (3000 : Nat)) = false := by rw [decide_eq_false_iff_not, hz0]; omega
  have g2 : decide (((bS t).size : Int) > 3000) = false := by rw [decide_eq_false_iff_not]; exact hz1
  go_wp2_with fail
  refine (lines_c _ _).mono ?_; rintro e w' ⟨rfl, rfl⟩
  go_wp2_with fail
  have hsB : ((w.alloc (.cells #[.pointer none, .slice none 0 0] 64)).alloc (.cells #[.string (bS t)] 9)).cell? ⟨w.heap.size + 1, 0, none⟩ = some (.string (bS t)) := by
    rw [World.cell?_alloc_at _ _ _ _ (by simp)]; rfl
  have hsF : ((w.alloc (.cells #[.pointer none, .slice none 0 0] 64)).alloc (.cells #[.string (bS t)] 9)).frozen? ⟨w.heap.size + 1, 0, none⟩ = false := by simp
  have hI0 : RnI w [] ((w.alloc (.cells #[.pointer none, .slice none 0 0] 64)).alloc (.cells #[.string (bS t)] 9)) := by
    refine ⟨.slice none 0 0, ⟨.pointer none, ?_, .inl rfl, World.ownsRow_nil _ _ _ _⟩, fun _ => rfl, by simp, balloc (below_alloc w _) _⟩
    exact (heap_alloc_old _ _ (by simp)).trans (heap_alloc_new w _)
  clear g1 g2
  refine (wpIn_wide (n := 5)).1 ?_
  refine wpIn_goes (F := Fence.wide) rfl (by decide) (gf := 57) (lb := #[.pointer (some ⟨w.heap.size + 1, 0, none⟩)]) rfl trivial (enters_of Tryz.func57 (by kernel_rfl) rfl)
    (lines_goes (w.heap.size + 1) t (by omega) _ (by simp) hsB hsF) (fun A B C h k => Eq.trans k h) (fun W l o o' hl _ _ _ => World.putObj_heap_other (by simp at hl; omega)) (Below.refl _ _) (fun _ => rfl)
    (RnI w) (RnI.own w _ (by simp; omega)) (RnI.step w)
    (fun A B k o hst hk ho => by
      obtain ⟨u, rfl | rfl⟩ := hst
      · exact (KeepsOthers.setCell A _ u).same k o hk ho
      · exact (KeepsOthers.setCell A _ u).same k o hk ho)
    hI0 ?act ?assign ?body ?done
  case assign =>
    intro l x W K hK
    replace hK := Lib.hid hK
    gi_wp2
    exact hK.out
  case body =>
    rintro l pre x W ⟨v, hb, hv, hl, h5⟩ hpre
    clear hsB hsF hI0
    have hpl : pre.length + 1 ≤ t.length ∧ x.length ≤ t.length := by
      obtain ⟨tt, htt⟩ := hpre
      have h1 := congrArg List.length htt
      simp only [List.length_append, List.length_cons, List.length_nil] at h1
      refine ⟨by omega, hll x ?_⟩
      rw [← htt]; simp
    have hol := outsF_len pre
    have htl := trimL_len x
    have hTr := Lib.hid (fun W1 => trim_c x (by omega) W1)
    have hAn := Lib.hid (fun W1 R1 => lineA_c (trimL x) W1 R1 (by omega))
    have hal := lineF_len (trimL x)
    obtain ⟨an, han⟩ : ∃ an, lineF (trimL x) ++ [10] = an := ⟨_, rfl⟩
    have hanl : an.length ≤ 101 := by rw [← han]; simp; omega
    have hsn : outsF (pre ++ [x]) = outsF pre ++ an := by rw [outsF_snoc, han]
    have hcat : bS (lineF (trimL x)) ++ bS [10] = bS an := by rw [bS_app, han]
    have hlv : (Lib.byteCells (outsF pre)).length = (outsF pre).length := Lib.byteCells_length _
    generalize lineF (trimL x) = ax at *
    generalize trimL x = tx at *
    have hcat' : bS ax ++ (⟨#[10]⟩ : ByteArray) = bS an := hcat
    have hax : (bS ax).size = ax.length := bS_size ax
    have hlim : ¬ (9223372036854775807 < (bS ax).size + 1) := by omega
    replace hsn := Lib.hid hsn
    replace hb := Lib.hid hb
    replace h5 := Lib.hid h5
    replace hv := Lib.hid hv
    clear hpre han hcat
    have hn1 : 1 ≤ 5 - 1 - 1 := by decide
    gi_wp2_with (refine ⟨trivial, ?_⟩; gi_at_call 31; refine (CallsIn.inRound l (callsIn_wide.2 (hTr.out _))).mono ?_; rintro e w' ⟨rfl, hww⟩; obtain rfl := hww.symm)
    clear hTr
    gi_wp2_with (refine ⟨trivial, ?_⟩; gi_at_call 30; refine (CallsIn.inRound l (callsIn_wide.2 (hAn.out _ (R'.out.below h5.out)))).mono ?_; rintro e w2 ⟨rfl, hb2⟩)
    have hB2 := Lib.hid (hb.out.below hb2)
    have hz2 := hb2.size
    have hWr := Lib.hid (bwrite2 (w.heap.size + 2) w.heap.size v _ (bS an) w2 hB2.out (by omega) (by rw [hlv, bS_size]; omega) (by omega))
    replace hb2 := Lib.hid hb2
    clear hAn
    gi_wp2_with (refine ⟨trivial, ?_⟩; gi_at_call 29; refine (CallsIn.inRound l (callsIn_wide.2 hWr.out)).mono ?_; rintro e w4 ⟨rfl, v4, hb4, hbt4⟩)
    have hnS : ∀ k, (k = w.heap.size ∨ v.ownBlock = some k) → k ≠ w.heap.size + 1 := fun k hk e => by
      obtain ⟨p, -, -, ho⟩ := hb.out
      rcases hk with rfl | hk
      · omega
      · have := (ho.lt k hk).1; omega
    have hno : ∀ k, k < W.heap.size → ¬ (k = w.heap.size ∨ v.ownBlock = some k) → w4.heap[k]? = W.heap[k]? := fun k hk hn => (hbt4.block k (by omega) hn).trans (hb2.out.block k hk)
    refine ⟨⟨Nat.le_trans hz2 hbt4.size, fun j o _ hj ho => ?_⟩, hno _ hl (fun h => hnS _ h rfl), v4, ?_, fun h => absurd h (by simp), Nat.lt_of_lt_of_le hl (Nat.le_trans hz2 hbt4.size), ?_⟩
    · have hjl := (Array.getElem?_eq_some_iff.1 hj).1
      refine (hno j hjl (fun hin => ?_)).trans hj
      obtain ⟨o', h6, h7⟩ := hb.out.cells j hin
      rw [hj] at h6; cases h6; rw [ho] at h7; cases h7
    · rw [hsn.out, ← byteCells_app, ← strCells_bS an]; exact hb4
    · refine (below_seq h5.out hb2.out).trans (hbt4.below (by have := h5.out.size; omega) (fun k hk => ?_))
      obtain ⟨p, -, -, ho⟩ := hb.out
      rcases hk with rfl | hk
      · exact Nat.le_refl _
      · have := (ho.lt k hk).1; omega
  case done =>
    rintro D W hD ⟨v, hb, hv, hl, h5⟩ hK
    clear hsB hsF hI0
    have hDl : w.heap.size + 1 < D := by simp at hD; omega
    have hnD : ¬ v.ownBlock = some D := fun e => by
      obtain ⟨o, h1, h2⟩ := hb.cells D (.inr e)
      rw [hK] at h1; cases h1; cases h2
    have hlen := outsF_len (linesL t)
    have hSt : Calls Tryz.prog 32 #[.pointer (some ⟨w.heap.size, 0, none⟩)] W fun e w' => e = .returned (.string (bS (outsF (linesL t)))) ∧ But (fun k => v.ownBlock = some k) W w' := by
      by_cases h0 : linesL t = []
      · obtain rfl := hv h0
        rw [h0] at hb ⊢
        exact (bstring_0 _ _ W hb).mono fun e w' ⟨h1, h2⟩ => ⟨h1, h2.mono (fun k _ h => h.elim)⟩
      · refine bstring_y (w.heap.size + 2) w.heap.size v _ W hb ?_ (by omega)
        obtain ⟨a, l, e⟩ := List.exists_cons_of_ne_nil h0
        rw [e]; unfold outsF; simp
    replace hSt := Lib.hid hSt
    replace hK := Lib.hid hK
    replace h5 := Lib.hid h5
    have hvB : ∀ k, v.ownBlock = some k → w.heap.size + 2 ≤ k := fun k hk => by
      obtain ⟨p, -, -, ho⟩ := hb
      exact (ho.lt k hk).1
    have hDW : D < W.heap.size := (Array.getElem?_eq_some_iff.1 hK.out).1
    clear hb hv
    dsimp only
    go_wp2_with fail
    refine hSt.out.mono ?_; rintro e X ⟨rfl, hbt⟩
    have hKF : X.heap[D]? = some (.deferred (some [])) := (hbt.block D hDW hnD).trans hK.out
    have hBX : Below w.heap.size w X := h5.out.trans (hbt.below (by have := h5.out.size; omega) (fun k hk => by have := hvB k hk; omega))
    replace hKF := Lib.hid hKF
    replace hBX := Lib.hid hBX
    clear hbt hSt hK
    go_wp2
    rw [← hQq.out]
    refine ⟨by simp, .inl ⟨_, _, rfl, run_takeDeferred hKF.out, ?_⟩⟩
    refine ⟨.string (bS (outsF (linesL t))), by simp [results, Tryz.f7, go_sem], rfl, ?_⟩
    exact hBX.out.trans (belowK_b (w := w) (Nat.le_refl _) X D _ _ (by omega) hKF.out rfl rfl)
theorem bS_of (s : ByteArray) : s = bS s.data.toList := by unfold bS; simp
theorem run_long (s : ByteArray) (w : World) (h : 3000 < s.size) :
    Calls Tryz.prog 7 #[.string s] w fun e w' => e = .returned (.string (bS [116, 111, 111, 32, 108, 111, 110, 103, 10])) ∧ Below w.heap.size w w' := by
  have g1 : (3000 : Int) < (s.size : Int) := by omega
  go_enter Tryz.func7, Tryz.ntmps7
  go_wp2
  go_ret
  exact ⟨rfl, Below.refl _ _⟩
end Go.Proofs.YtjjmelhhalomaaaGreatDoor
namespace Go.Proofs.YtjjmelhhalomaaaGreatDoor
open Go.RowKit
set_option maxRecDepth 100000
set_option linter.unusedVariables false
set_option linter.unusedSimpArgs false
attribute [local go_sem ↓] Go.wp_at_zero Go.wp_at_succ
def AscAt (w : World) : Prop := Lib.TabIs Tryz.prog w "strings.asciiSpace" .u8 Lib.asciiSpaceTab
theorem AscAt.below {w w' : World} (h : AscAt w) (hb : Below w.heap.size w w') : AscAt w' := Joins.tab_stays (g := 4) (by kernel_rfl) h hb (Nat.le_refl _)
theorem lfields_c (G K : List Nat) (r s : Nat) (ws : List Nat) (hws : recW G K r s = ws) (w : World) (hA : AscAt w) (hl : (recB G K r s).length ≤ 20000) :
    Calls Tryz.prog 129 #[.string (bS (recB G K r s))] w fun e w' => ∃ b, b = w.heap.size ∧ e = .returned (.slice (some ⟨b, 0, none⟩) ws.length ws.length) ∧ WdsAt w' b 0 ws ∧ Below w.heap.size w w' := by
  refine (Tryz.strings_Fields (bS (recB G K r s)) w (by rw [bS_size]; omega) (fun j b hj => recB_ascii G K r s b (by rw [bS_list] at hj; exact List.mem_of_getElem? hj)) hA).mono ?_
  rintro e w' ⟨rfl, rfl⟩
  refine ⟨w.heap.size, rfl, ?_, ⟨by simp, fun i hi => ?_⟩, below_alloc _ _⟩
  · rw [bS_list, recB_fields, hws, List.length_map]
  · rw [cell_of_row _ w.heap.size _ _ _ (0, 0) (heap_alloc_new w _), bS_list, recB_fields, hws]
    simp only [Nat.zero_add, List.getElem?_toArray, List.map_map]
    rw [List.getElem?_map, List.getElem?_eq_getElem hi]
    rfl
theorem DlAt.setR {w : World} {b : Nat} {g n : Value} {r : Sp} {s : Int} (h : DlAt w b g n r s) (R : Sp) : DlAt (((w.setCell ⟨b, 2, none⟩ (.int .i64 R.x)).setCell ⟨b, 3, none⟩ (.int .i64 R.y)).setCell ⟨b, 4, none⟩ (.bool R.far)) b g n R s := by
  have c : ∀ (w : World) (q o : Nat) (v : Value), o ≠ q → (w.setCell ⟨b, q, none⟩ v).cell? ⟨b, o, none⟩ = w.cell? ⟨b, o, none⟩ := fun w q o v ho => World.cell?_setCell_other _ _ _ _ (fun e => ho (congrArg Addr.off e).symm)
  refine ⟨?_, ?_, ?_, ?_, ?_, ?_, by simpa using h.f0, by simpa using h.f1, by simpa using h.f2, by simpa using h.f3, by simpa using h.f4, by simpa using h.f5, by simpa [World.setCell] using h.lt⟩
  · rw [c _ 4 0 _ (by decide), c _ 3 0 _ (by decide), c _ 2 0 _ (by decide)]; exact h.c0
  · rw [c _ 4 1 _ (by decide), c _ 3 1 _ (by decide), c _ 2 1 _ (by decide)]; exact h.c1
  · rw [c _ 4 2 _ (by decide), c _ 3 2 _ (by decide)]; exact World.cell?_setCell_same _ _ _ h.c2
  · rw [c _ 4 3 _ (by decide)]; exact World.cell?_setCell_same _ _ _ ((c _ 2 3 _ (by decide)).trans h.c3)
  · exact World.cell?_setCell_same _ _ _ (((c _ 3 4 _ (by decide)).trans (c _ 2 4 _ (by decide))).trans h.c4)
  · rw [c _ 4 5 _ (by decide), c _ 3 5 _ (by decide), c _ 2 5 _ (by decide)]; exact h.c5
theorem DlAt.setS {w : World} {b : Nat} {g n : Value} {r : Sp} {s : Int} (h : DlAt w b g n r s) (S : Int) : DlAt (w.setCell ⟨b, 5, none⟩ (.int .i64 S)) b g n r S := by
  have c : ∀ o, o ≠ 5 → (w.setCell ⟨b, 5, none⟩ (.int .i64 S)).cell? ⟨b, o, none⟩ = w.cell? ⟨b, o, none⟩ := fun o ho => World.cell?_setCell_other _ _ _ _ (fun e => ho (congrArg Addr.off e).symm)
  exact ⟨(c 0 (by decide)).trans h.c0, (c 1 (by decide)).trans h.c1, (c 2 (by decide)).trans h.c2, (c 3 (by decide)).trans h.c3, (c 4 (by decide)).trans h.c4, World.cell?_setCell_same _ _ _ h.c5, by simpa using h.f0, by simpa using h.f1, by simpa using h.f2, by simpa using h.f3, by simpa using h.f4, by simpa using h.f5, by simpa [World.setCell] using h.lt⟩
theorem DlAt.alloc1 {w : World} {b : Nat} {g n : Value} {r : Sp} {s : Int} (h : DlAt w b g n r s) (o : Obj) : DlAt (w.alloc o) b g n r s := h.below (below_alloc w o)
set_option maxHeartbeats 16000000 in
theorem ldeal_c (gl : List Nat) (M : List Int) (RS : Sp) (s : Nat) (w : World) (hF : FarAt w) (hA : AscAt w) (hg : gl.length ≤ 1000) (hgb : ∀ g ∈ gl, g < 1000000) (hm : M.length ≤ 12) (oR : Ok RS) (hs : s < 1013) :
    Calls Tryz.prog 99 #[.string (bS (recD gl M RS s))] w fun e w' => ∃ v0 v1, e = .returned (.tuple #[dlV v0 v1 RS (s : Int), .nilIface]) ∧ w'.ownsRow w.heap.size 3 1 v0 gl.length ((gl.map fun n : Nat => (n : Int)).map (Value.int .i64)) ∧ w'.ownsRow w.heap.size 28 3 v1 M.length (spCells (M.map qS)) ∧ Below w.heap.size w w' := by
  obtain ⟨K, hK⟩ : ∃ K, (M.map fun m => codeS (qS m)) = K := ⟨_, rfl⟩
  obtain ⟨rc, hrc⟩ : ∃ rc, codeS RS = rc := ⟨_, rfl⟩
  have hKl : K.length = M.length := by rw [← hK, List.length_map]
  have hKb : ∀ n ∈ K, n < 200000 := fun n hn => by
    rw [← hK, List.mem_map] at hn
    obtain ⟨m, -, rfl⟩ := hn
    exact codeS_lt (qS_ok m)
  have hrl := codeS_lt oR
  rw [hrc] at hrl
  have hbl := (recB_len gl K rc s hgb (fun n hn => by have := hKb n hn; omega) hg (by omega) (by omega) (by omega)).2
  obtain ⟨ws, hws⟩ : ∃ ws, recW gl K rc s = ws := ⟨_, rfl⟩
  have hFd := Lib.hid (fun (w1 : World) (hb : Below w.heap.size w w1) => lfields_c gl K rc s ws hws w1 (hA.below hb) hbl)
  have hw2 : Hid (ws = gl.length :: (gl ++ (K.length :: (K ++ [rc, s])))) := Lib.hid (by rw [← hws]; unfold recW; simp)
  unfold recD
  rw [hK, hrc]
  obtain ⟨RB, hRB⟩ : ∃ RB, bS (recB gl K rc s) = RB := ⟨_, rfl⟩
  rw [hRB] at hFd ⊢
  replace hFd := Lib.hid hFd
  replace hK := Lib.hid hK
  replace hrc := Lib.hid hrc
  replace hKl := Lib.hid hKl
  replace hKb := Lib.hid hKb
  replace hgb := Lib.hid hgb
  have hF' := Lib.hid hF
  clear hA hbl hws hRB hF
  go_enter Tryz.func99, Tryz.ntmps99
  go_wp2_with fail
  refine (hFd.out _ (below_alloc _ _)).mono ?_; rintro e w1 ⟨b, hb, rfl, hW, hb1⟩
  rw [World.size_alloc] at hb
  have hB1 := Lib.hid (below_seq (below_alloc w _) hb1)
  have hz1 := hb1.size
  rw [World.size_alloc] at hz1
  have hRES := Lib.hid ((DlAt.fresh w 53).below hb1)
  replace hW := Lib.hid hW
  replace hb := Lib.hid hb
  clear hb1 hFd
  go_wp2_with fail
  have z0 : b < w1.heap.size := hW.out.lt
  have hR0 : RdAt ((w1.alloc (.cells #[.slice (some ⟨b, 0, none⟩) ws.length ws.length] 165)).alloc (.cells #[.slice none 0 0, .slice none 0 0, .int .i64 0, .int .i64 0, .bool false, .int .i64 0] 53)) (w1.heap.size + 1) w1.heap.size ws := by
    refine ⟨by simp; omega, by omega, by go_simp, some ⟨b, 0, none⟩, by go_simp, fun _ => ⟨b, 0, rfl, ⟨by simp; omega, fun i hi => ?_⟩, by omega, by omega⟩⟩
    exact ((bcell (balloc (below_alloc w1 _) _)).1 _ _ z0).trans (hW.out.c i hi)
  have hD0 : DlAt ((w1.alloc (.cells #[.slice (some ⟨b, 0, none⟩) ws.length ws.length] 165)).alloc (.cells #[.slice none 0 0, .slice none 0 0, .int .i64 0, .int .i64 0, .bool false, .int .i64 0] 53)) (w1.heap.size + 1) (.slice none 0 0) (.slice none 0 0) ⟨0, 0, false⟩ 0 := by
    have := DlAt.fresh (w1.alloc (.cells #[.slice (some ⟨b, 0, none⟩) ws.length ws.length] 165)) 53
    rw [World.size_alloc] at this
    exact this
  have hB2 : Below w1.heap.size w1 ((w1.alloc (.cells #[.slice (some ⟨b, 0, none⟩) ws.length ws.length] 165)).alloc (.cells #[.slice none 0 0, .slice none 0 0, .int .i64 0, .int .i64 0, .bool false, .int .i64 0] 53)) := balloc (below_alloc w1 _) _
  have hz2 : ((w1.alloc (.cells #[.slice (some ⟨b, 0, none⟩) ws.length ws.length] 165)).alloc (.cells #[.slice none 0 0, .slice none 0 0, .int .i64 0, .int .i64 0, .bool false, .int .i64 0] 53)).heap.size = w1.heap.size + 2 := by simp
  generalize (w1.alloc (.cells #[.slice (some ⟨b, 0, none⟩) ws.length ws.length] 165)).alloc (.cells #[.slice none 0 0, .slice none 0 0, .int .i64 0, .int .i64 0, .bool false, .int .i64 0] 53) = w2 at *
  have hres2 := hRES.out.below hB2
  have hB2' := Lib.hid (below_seq hB1.out hB2)
  rw [hw2.out] at hR0
  obtain ⟨rb, hrb⟩ : ∃ rb, rb = w1.heap.size := ⟨_, rfl⟩
  obtain ⟨dp, hdp⟩ : ∃ dp, dp = w1.heap.size + 1 := ⟨_, rfl⟩
  rw [← hdp] at hR0 hD0 ⊢
  rw [← hrb] at hR0 ⊢
  have q1 : rb < dp := by omega
  have q2 : dp < w2.heap.size := by omega
  have q3 : w.heap.size < rb := by omega
  have hS1 := Lib.hid (lsome_c dp rb gl (K.length :: (K ++ [rc, s])) w2 hR0 (Nat.le_of_lt q2) hg (fun n hn => by have := hgb.out n hn; omega) (by simp; have := hKl.out; omega))
  replace hD0 := Lib.hid hD0
  replace hres2 := Lib.hid hres2
  clear hRES hB1 hB2 hW hR0 hz2 hz1 z0 hb hw2 hrb hdp
  refine hS1.out.mono ?_; rintro e w3 ⟨v0, rfl, hv0, hR3, hbt3⟩
  obtain ⟨a0, c0, rfl⟩ := own_slB hv0
  have hD3 := hD0.out.keep hbt3.size (hbt3.block dp q2 (fun e => by omega))
  have hres3 := hres2.out.keep hbt3.size (hbt3.block _ (by omega) (fun e => by omega))
  have hB3 : Below w.heap.size w w3 := hB2'.out.trans (hbt3.below (by have := hB2'.out.size; omega) (fun k hk => by omega))
  have q4 : dp < w3.heap.size := hD3.lt
  have hv0l := fun k hk => (hv0.lt k hk).1
  clear hS1 hbt3 hD0 hres2 hB2'
  -- the slice of those that go is stored
  have hD4 := hD3.setg (.slice a0 gl.length c0)
  have hR4 := hR3.below ((Below.refl dp w3).setCell (p := ⟨dp, 0, none⟩) (Nat.le_refl _) (.slice a0 gl.length c0))
  have hv4 := own_keep hv0 (w' := w3.setCell ⟨dp, 0, none⟩ (.slice a0 gl.length c0)) (fun k hk => heap_setCell_other w3 ⟨dp, 0, none⟩ k _ (by have := hv0l k hk; show k ≠ dp; omega))
  have hres4 := hres3.keep (w' := w3.setCell ⟨dp, 0, none⟩ (.slice a0 gl.length c0)) (by simp) (heap_setCell_other w3 ⟨dp, 0, none⟩ _ _ (by show w.heap.size ≠ dp; omega))
  have hB4 : Below w.heap.size w (w3.setCell ⟨dp, 0, none⟩ (.slice a0 gl.length c0)) := hB3.setCell (p := ⟨dp, 0, none⟩) (by show w.heap.size ≤ dp; omega) _
  have hz4 : (w3.setCell ⟨dp, 0, none⟩ (.slice a0 gl.length c0)).heap.size = w3.heap.size := by simp
  obtain ⟨d0, d1, d2, d3, d4, d5, g0, g1, g2, g3, g4, g5, dl⟩ := hD3
  replace hD4 := Lib.hid hD4
  replace hR4 := Lib.hid hR4
  replace hv4 := Lib.hid hv4
  replace hres4 := Lib.hid hres4
  replace hB4 := Lib.hid hB4
  clear hB3 hres3 hR3 hv0
  go_wp2_with fail
  clear d0 d1 d2 d3 d4 d5 g0 g1 g2 g3 g4 g5 dl
  generalize w3.setCell ⟨dp, 0, none⟩ (.slice a0 gl.length c0) = w4 at *
  have hS2 := Lib.hid (lsome_c dp rb K [rc, s] w4 hR4.out (by omega) (by have := hKl.out; omega) (fun n hn => by have := hKb.out n hn; omega) (by simp))
  refine hS2.out.mono ?_; rintro e w5 ⟨v1, rfl, hv1, hR5, hbt5⟩
  obtain ⟨a1, c1, rfl⟩ := own_slB hv1
  have q5 : dp < w4.heap.size := by omega
  have hD5 := hD4.out.keep hbt5.size (hbt5.block dp q5 (fun e => by omega))
  have hres5 := hres4.out.keep hbt5.size (hbt5.block _ (by omega) (fun e => by omega))
  have hB5 : Below w.heap.size w w5 := hB4.out.trans (hbt5.below (by omega) (fun k hk => by omega))
  have hv5 := own_but hv4.out hbt5 (fun j hj e => by have := hv0l j hj; omega)
  have hIK := own_ints hv1 (by rw [List.length_map])
  have hz5 := hbt5.size
  have hKi : Hid (∀ w', But (fun k => k = dp) w5 w' → IntSl w' (.slice a1 K.length c1) (K.map fun n : Nat => (n : Int))) := Lib.hid fun w' h => own_ints (own_but hv1 h (fun j hj e => by have := (hv1.lt j hj).1; omega)) (by rw [List.length_map])
  replace hD5 := Lib.hid hD5
  replace hres5 := Lib.hid hres5
  replace hB5 := Lib.hid hB5
  replace hv5 := Lib.hid hv5
  replace hR5 := Lib.hid hR5
  clear hS2 hD4 hR4 hv4 hres4 hB4 hbt5 hv1 hIK hz4
  go_wp2_with fail
  go_loopw [38] (fun i wr => ∃ (k : Nat) (vn : Value), k ≤ K.length ∧ i = .int .i64 k ∧ DlAt wr dp (.slice a0 gl.length c0) vn ⟨0, 0, false⟩ 0 ∧ wr.ownsRow w5.heap.size 28 3 vn k (spCells ((M.take k).map qS)) ∧ But (fun j => j = dp) w5 wr) (fun i _ => K.length - (intOf i).toNat)
  case atStart => exact ⟨0, _, Nat.zero_le _, rfl, hD5.out, World.ownsRow_nil _ _ _ _, But.refl _ _⟩
  case round =>
    clear hD5
    obtain ⟨k, vn, hk, rfl, hD, hown, hbt⟩ := hrel
    have q6 : dp < w5.heap.size := by omega
    have hBr := Lib.hid (hB5.out.trans (hbt.below (B := w.heap.size) (by omega) (fun j hj => by omega)))
    by_cases hlt : k < K.length
    · obtain ⟨ax, cx, ex, hx⟩ := hKi.out wr hbt
      simp only [Value.slice.injEq, List.length_map] at ex
      obtain ⟨rfl, -, -⟩ := ex
      obtain ⟨bK, oK, rfl, hI⟩ := hx (by simp; omega)
      have hkm : k < M.length := by have := hKl.out; omega
      have hjm : k < (K.map fun n : Nat => (n : Int)).length := by rw [List.length_map]; exact hlt
      have l1 := hI.c k hjm
      have l2 := hI.lt
      rw [List.getElem_map] at l1
      have hcx : K[k] = codeS (qS M[k]) := by have h := hK.out; subst h; rw [List.getElem_map]
      rw [hcx] at l1
      have oA := qS_ok M[k]
      obtain ⟨an, cn, rfl⟩ := own_slB hown
      have hst : Hid ((M.take (k + 1)).map qS = (M.take k).map qS ++ [qS M[k]]) := Lib.hid (by rw [take_snocI M k hkm, List.map_append]; rfl)
      have hlen : ((M.take k).map qS).length = k := by rw [List.length_map, List.length_take]; omega
      have hkS := Lib.hid (lspot_c (qS M[k]) oA wr (hF'.out.below hBr.out))
      clear hcx hx hI
      generalize qS M[k] = A at *
      replace hst := Lib.hid hst
      replace hD := Lib.hid hD
      replace hown := Lib.hid hown
      have hzr := hbt.size
      replace hbt := Lib.hid hbt
      go_wp2_with fail
      refine hkS.out.mono ?_; rintro e w6 ⟨rfl, hb6⟩
      have hD6 := (hD.out.below hb6).below (balloc (below_alloc w6 (.cells #[.int .i64 A.x, .int .i64 A.y, .bool A.far] 28)) (.cells #[.int .i64 A.x, .int .i64 A.y, .bool A.far] 28))
      have hown6 := Lib.hid (((own_below hown.out hb6).alloc (.cells #[.int .i64 A.x, .int .i64 A.y, .bool A.far] 28)).alloc (.cells #[.int .i64 A.x, .int .i64 A.y, .bool A.far] 28))
      have hbt6 := Lib.hid (hbt.out.trans (But.of_below (S := fun j => j = dp) (below_seq hb6 (balloc (below_alloc w6 (.cells #[.int .i64 A.x, .int .i64 A.y, .bool A.far] 28)) (.cells #[.int .i64 A.x, .int .i64 A.y, .bool A.far] 28)))))
      have d1 := ((hD.out.below hb6).alloc1 (.cells #[.int .i64 A.x, .int .i64 A.y, .bool A.far] 28)).c1
      have hz6 := hb6.size
      have dl6 : dp < w6.heap.size := (hD.out.below hb6).lt
      clear l1 l2 hkS hb6
      replace hD6 := Lib.hid hD6
      go_wp2_with (first | (at_builtin; refine wpl_append_spot rfl _ _ _ rfl (by kernel_rfl) w5.heap.size (.slice an k cn) ((M.take k).map qS) k rfl hown6.out hlen (by omega) (by simp only [World.size_alloc]; omega) (w6.heap.size + 1) A rfl (by go_simp) (by go_simp) (by go_simp) ?_; intro v' w8 hown' hgrow hbel hloc; have hb8 := hbel _ (Below.refl _ _); have hD8 := hD6.out.keep hb8.size (hb8.block dp q6); have hE8 := hD8; obtain ⟨av, cv, rfl⟩ := own_slB hown'; obtain ⟨d0, d1, -, -, -, -, g0, g1, -, -, -, -, dl⟩ := hE8; replace hown' := Lib.hid hown'; replace hD8 := Lib.hid hD8; replace hb8 := Lib.hid hb8; clear hgrow hloc hbel) | fail)
      have hfD := hD8.out.setn (.slice av (k + 1) cv)
      have hfo := own_keep hown'.out (w' := w8.setCell ⟨dp, 1, none⟩ (.slice av (k + 1) cv)) (fun j hj => heap_setCell_other w8 ⟨dp, 1, none⟩ j _ (by have := (hown'.out.lt j hj).1; show j ≠ dp; omega))
      have hfb := (hbt6.out.after hb8.out).trans (But.setCell (S := fun j => j = dp) (p := ⟨dp, 1, none⟩) rfl (.slice av (k + 1) cv))
      rw [← hst.out.out] at hfo
      clear d0 d1 g0 g1
      go_wp2
      go_roundw
      case rel => exact ⟨k + 1, _, by omega, by go_num, hfD, hfo, hfb⟩
      case measure => simp [intOf]; omega
    · obtain rfl : k = K.length := by omega
      have e1 : M.take K.length = M := List.take_of_length_le (by have := hKl.out; omega)
      rw [e1] at hown
      have hz6 := hbt.size
      have hR6 := hR5.out.below (hbt.below (B := dp) (Nat.le_of_lt q6) (fun j hj => by omega))
      have hv6 := own_but hv5.out hbt (fun j hj e => by have := hv0l j hj; omega)
      have hres6 := hres5.out.keep hbt.size (hbt.block _ (by omega) (fun e => by omega))
      obtain ⟨an, cn, rfl⟩ := own_slB hown
      have hnl := fun j hj => (hown.lt j hj).1
      have hN6 := Lib.hid (lnumber_c dp rb rc [s] wr hR6 (by omega) (by simp))
      have kS := Lib.hid (fun (w' : World) (hF1 : FarAt w') => lspot_c RS oR w' hF1)
      rw [hrc.out] at kS
      replace hD := Lib.hid hD
      replace hown := Lib.hid hown
      replace hv6 := Lib.hid hv6
      replace hres6 := Lib.hid hres6
      clear e1 hR5 hv5 hres5 hB5 hbt hR6 hKi hK hKb hgb hm hk hlt
      go_wp2_with fail
      refine hN6.out.mono ?_; rintro e w7 ⟨rfl, hR7, hb7⟩
      have hD7 := hD.out.keep hb7.size (hb7.block dp (by omega) (fun e => by omega))
      have hv7 := own_but hv6.out hb7 (fun j hj e => by have := hv0l j hj; omega)
      have hn7 := own_but hown.out hb7 (fun j hj e => by have := hnl j hj; omega)
      have hres7 := hres6.out.keep hb7.size (hb7.block _ (by omega) (fun e => by omega))
      have hB7 := hBr.out.trans (hb7.below (B := w.heap.size) hBr.out.size (fun j hj => by omega))
      have hz7 := hb7.size
      replace hB7 := Lib.hid hB7
      clear hb7 hN6 hD hown hv6 hres6 hBr
      go_wp2_with fail
      refine (kS.out _ (hF'.out.below hB7.out)).mono ?_; rintro e w8 ⟨rfl, hb8⟩
      have hz8 := hb8.size
      have hD8 := hD7.below hb8
      have hv8 := own_below hv7 hb8
      have hn8 := own_below hn7 hb8
      have hres8 := hres7.below hb8
      have hB8 := Lib.hid (below_seq hB7.out hb8)
      have hR8 := hR7.below (hb8.mono (by omega))
      clear hb8 hD7 hv7 hn7 hres7 hR7 hB7 kS
      have hb9 : Below dp w8 (((w8.setCell ⟨dp, 2, none⟩ (.int .i64 RS.x)).setCell ⟨dp, 3, none⟩ (.int .i64 RS.y)).setCell ⟨dp, 4, none⟩ (.bool RS.far)) := (((Below.refl dp w8).setCell (p := ⟨dp, 2, none⟩) (Nat.le_refl _) _).setCell (p := ⟨dp, 3, none⟩) (Nat.le_refl _) _).setCell (p := ⟨dp, 4, none⟩) (Nat.le_refl _) _
      have hk9 : ∀ j, j ≠ dp → (((w8.setCell ⟨dp, 2, none⟩ (.int .i64 RS.x)).setCell ⟨dp, 3, none⟩ (.int .i64 RS.y)).setCell ⟨dp, 4, none⟩ (.bool RS.far)).heap[j]? = w8.heap[j]? := fun j hj => by
        rw [heap_setCell_other _ ⟨dp, 4, none⟩ j _ hj, heap_setCell_other _ ⟨dp, 3, none⟩ j _ hj, heap_setCell_other _ ⟨dp, 2, none⟩ j _ hj]
      have hD9 := hD8.setR RS
      have hv9 := own_keep hv8 (fun j hj => hk9 j (by have := hv0l j hj; omega))
      have hn9 := own_keep hn8 (fun j hj => hk9 j (by have := hnl j hj; omega))
      have hres9 := hres8.keep hb9.size (hk9 _ (by omega))
      have hR9 := hR8.below hb9
      have hB9 := Lib.hid (hB8.out.trans (hb9.mono (by omega)))
      have hz9 : w8.heap.size ≤ (((w8.setCell ⟨dp, 2, none⟩ (.int .i64 RS.x)).setCell ⟨dp, 3, none⟩ (.int .i64 RS.y)).setCell ⟨dp, 4, none⟩ (.bool RS.far)).heap.size := hb9.size
      obtain ⟨d0, d1, d2, d3, d4, d5, g0, g1, g2, g3, g4, g5, dl⟩ := hD8
      replace hD9 := Lib.hid hD9
      replace hv9 := Lib.hid hv9
      replace hn9 := Lib.hid hn9
      replace hres9 := Lib.hid hres9
      replace hR9 := Lib.hid hR9
      clear hb9 hk9 hv8 hn8 hres8 hR8 hB8
      go_wp2_with fail
      clear d0 d1 d2 d3 d4 d5 g0 g1 g2 g3 g4 g5 dl
      generalize ((w8.setCell ⟨dp, 2, none⟩ (.int .i64 RS.x)).setCell ⟨dp, 3, none⟩ (.int .i64 RS.y)).setCell ⟨dp, 4, none⟩ (.bool RS.far) = w9 at *
      have hN9 := Lib.hid (lnumber_c dp rb s [] w9 hR9.out (by omega) (by simp))
      refine hN9.out.mono ?_; rintro e w10 ⟨rfl, -, hb10⟩
      have hz10 := hb10.size
      have hD10 := hD9.out.keep hb10.size (hb10.block dp (by omega) (fun e => by omega))
      have hv10 := own_but hv9.out hb10 (fun j hj e => by have := hv0l j hj; omega)
      have hn10 := own_but hn9.out hb10 (fun j hj e => by have := hnl j hj; omega)
      have hres10 := hres9.out.keep hb10.size (hb10.block _ (by omega) (fun e => by omega))
      have hB10 := Lib.hid (hB9.out.trans (hb10.below (B := w.heap.size) hB9.out.size (fun j hj => by omega)))
      have hD11 := hD10.setS (s : Int)
      have hk11 : ∀ j, j ≠ dp → (w10.setCell ⟨dp, 5, none⟩ (.int .i64 (s : Int))).heap[j]? = w10.heap[j]? := fun j hj => heap_setCell_other _ ⟨dp, 5, none⟩ j _ hj
      have hv11 := own_keep hv10 (fun j hj => hk11 j (by have := hv0l j hj; omega))
      have hn11 := own_keep hn10 (fun j hj => hk11 j (by have := hnl j hj; omega))
      have hres11 := hres10.keep (w' := w10.setCell ⟨dp, 5, none⟩ (.int .i64 (s : Int))) (by simp) (hk11 _ (by omega))
      have hB11 := Lib.hid (hB10.out.setCell (p := ⟨dp, 5, none⟩) (by show w.heap.size ≤ dp; omega) (.int .i64 (s : Int)))
      have d5 := hD10.c5
      have g5 := hD10.f5
      have dl := hD10.lt
      replace hD11 := Lib.hid hD11
      replace hv11 := Lib.hid hv11
      replace hn11 := Lib.hid hn11
      replace hres11 := Lib.hid hres11
      clear hD9 hv9 hn9 hres9 hR9 hB9 hN9 hb10 hD10 hv10 hn10 hres10 hB10 hk11 hz9 hz8
      go_upto_region 25 with fail
      clear d5 g5 dl
      generalize w10.setCell ⟨dp, 5, none⟩ (.int .i64 (s : Int)) = w11 at *
      have hfin := ((hres11.out.setg (.slice a0 gl.length c0)).setn (.slice an K.length cn)).set1 RS (s : Int)
      have hkF : ∀ j, j ≠ w.heap.size → ((((((w11.setCell ⟨w.heap.size, 0, none⟩ (.slice a0 gl.length c0)).setCell ⟨w.heap.size, 1, none⟩ (.slice an K.length cn)).setCell ⟨w.heap.size, 2, none⟩ (.int .i64 RS.x)).setCell ⟨w.heap.size, 3, none⟩ (.int .i64 RS.y)).setCell ⟨w.heap.size, 4, none⟩ (.bool RS.far)).setCell ⟨w.heap.size, 5, none⟩ (.int .i64 (s : Int))).heap[j]? = w11.heap[j]? := fun j hj => by
        rw [heap_setCell_other _ ⟨w.heap.size, 5, none⟩ j _ hj, heap_setCell_other _ ⟨w.heap.size, 4, none⟩ j _ hj, heap_setCell_other _ ⟨w.heap.size, 3, none⟩ j _ hj, heap_setCell_other _ ⟨w.heap.size, 2, none⟩ j _ hj, heap_setCell_other _ ⟨w.heap.size, 1, none⟩ j _ hj, heap_setCell_other _ ⟨w.heap.size, 0, none⟩ j _ hj]
      have hvF := own_base (own_keep hv11.out (fun j hj => hkF j (by have := hv0l j hj; omega))) (show w.heap.size ≤ w2.heap.size by omega)
      have hnF := own_base (own_keep hn11.out (fun j hj => hkF j (by have := hnl j hj; omega))) (show w.heap.size ≤ w5.heap.size by omega)
      have hBF : Below w.heap.size w ((((((w11.setCell ⟨w.heap.size, 0, none⟩ (.slice a0 gl.length c0)).setCell ⟨w.heap.size, 1, none⟩ (.slice an K.length cn)).setCell ⟨w.heap.size, 2, none⟩ (.int .i64 RS.x)).setCell ⟨w.heap.size, 3, none⟩ (.int .i64 RS.y)).setCell ⟨w.heap.size, 4, none⟩ (.bool RS.far)).setCell ⟨w.heap.size, 5, none⟩ (.int .i64 (s : Int))) := (((((hB11.out.setCell (p := ⟨w.heap.size, 0, none⟩) (Nat.le_refl _) _).setCell (p := ⟨w.heap.size, 1, none⟩) (Nat.le_refl _) _).setCell (p := ⟨w.heap.size, 2, none⟩) (Nat.le_refl _) _).setCell (p := ⟨w.heap.size, 3, none⟩) (Nat.le_refl _) _).setCell (p := ⟨w.heap.size, 4, none⟩) (Nat.le_refl _) _).setCell (p := ⟨w.heap.size, 5, none⟩) (Nat.le_refl _) _
      obtain ⟨d0, d1, d2, d3, d4, d5, -, -, -, -, -, -, dl⟩ := hD11.out
      obtain ⟨p0, p1, p2, p3, p4, p5, r0, r1, r2, r3, r4, r5, pl⟩ := hres11.out
      replace hfin := Lib.hid hfin
      replace hvF := Lib.hid hvF
      replace hnF := Lib.hid hnF
      replace hBF := Lib.hid hBF
      clear hkF hv11 hn11 hB11 hD11 hres11
      go_wp2
      clear d0 d1 d2 d3 d4 d5 dl p0 p1 p2 p3 p4 p5 r0 r1 r2 r3 r4 r5 pl
      obtain ⟨k0, k1, k2, k3, k4, k5, -, -, -, -, -, -, -⟩ := hfin.out
      rw [← hKl.out]
      refine bodyPost_ret (v := .tuple #[dlV (.slice a0 gl.length c0) (.slice an K.length cn) RS (s : Int), .nilIface]) (by simp [results, Tryz.results99, go_sem, k0, k1, k2, k3, k4, k5]) rfl ⟨_, _, rfl, (by have := hvF.out; rw [List.map_map] at this; exact this), hnF.out, hBF.out⟩
end Go.Proofs.YtjjmelhhalomaaaGreatDoor
