/- The statement of EqualTells: for every input the law returns true, and the arguments read as they did. (its listed variable reads as laid; the card ties it) -/
import Derived.Test.YtjnmknhfmmdoiaaDoorRows
import Derived.Test.YtjnmknhfmmdoiaaDoorWv
import Derived.ProofKit
import Derived.LaidMore
import Derived.OpenShut
import Derived.MakeChecks
import Derived.Deep.Strs
import Derived.Test.YtjnmknhfmmdoiaaDoorTl
import Derived.LaidHandle
import Derived.Laws.Entries
import Derived.Test.YtjnmknhfmmdoiaaDoorEl
import Derived.Test.YtjnmknhfmmdoiaaDoorSt
import Derived.Test.YtjnmknhfmmdoiaaDoorNEqualTells
import Derived.Test.YtjnmknhfmmdoiaaDoorFr
import Derived.SizedLaws
import Derived.Test.YtjnmknhfmmdoiaaDoorTie
import Derived.Test.YtjnmknhfmmdoiaaDoorCards
import Derived.Test.YtjnmknhfmmdoiaaDoorJf
import Derived.SevenTiedAt
namespace Go.Proofs.YtjnmknhfmmdoiaaDoor
open Go.ChangeShapes Go.WideShapes Go.ChangeAt Go.WideMaps Go.WideElems Go.RowKit
set_option maxRecDepth 100000
abbrev farLaid : List (String × DataW Unit) := [("pairstone/curve.Far", Rows.laid_pairstone_curve_Far)]
theorem gFar : Tryd.prog.globalNamed "pairstone/curve.Far" = some 0 := by kernel_rfl
theorem tFar : (Tryd.prog.globals[0]?).map (·.type) = some 29 := by kernel_rfl
/-- The door's own heap meets the condition. -/
theorem farLaid_met (os : Os) (args : Array Value) : laidMetH Tryd.prog farLaid ((World.doorLaid Tryd.prog 400 os).forCall (fun _ _ => 0) ⟨#[], args, []⟩).memory :=
  laidMetH_of_parts3 (fuel := 8) (laidMet_of_run' 8 (by kernel_rfl) (by kernel_rfl)) (by kernel_rfl) (by kernel_rfl)
theorem lt_of_cell {w : World} {b o : Nat} {v : Value} (h : w.cell? ⟨b, o, none⟩ = some v) : b < w.heap.size := by
  rcases Nat.lt_or_ge b w.heap.size with h1 | h1
  · exact h1
  · simp [World.cell?, Array.getElem?_eq_none h1] at h
theorem farLaid_at {W : World} (h : laidMetH Tryd.prog farLaid W) : FarAt W := by
  rw [MakeChecks.laidMetH_plain _ _ _ (by kernel_rfl)] at h
  obtain ⟨ps, ⟨g0, t0, cs0, f0, p0, q0, hg0, ht0, hv0, hd0, _, _⟩, _, _⟩ := h
  obtain rfl := Option.some.inj (gFar.symm.trans hg0)
  obtain rfl := Option.some.inj (tFar.symm.trans ht0)
  obtain ⟨y0, y1, y2, n, hx, hlen, h0, h1, h2⟩ := Deep.trod_struct3 Tryd.underlying29 hd0
  simp only [Rows.laid_pairstone_curve_Far, Prod.mk.injEq, DataW.agg.injEq, List.cons.injEq, and_true] at hx
  obtain ⟨⟨e0, e1, e2⟩, _⟩ := hx
  obtain ⟨a, c0, rfl, _⟩ := DataW.trod_int Tryd.underlying3 h0
  obtain ⟨b, c1, rfl, _⟩ := DataW.trod_int Tryd.underlying3 h1
  obtain ⟨f, c2, rfl⟩ := DataW.trod_bool Tryd.underlying4 h2
  have k3 : Tryd.prog.cellsOf 29 = 3 := by kernel_rfl
  have ki : Tryd.prog.cellsOf 3 = 1 := by kernel_rfl
  have kb : Tryd.prog.cellsOf 4 = 1 := by kernel_rfl
  obtain ⟨l⟩ := cs0
  have h3 : l.length = 3 := by simpa using hlen.trans k3
  match l, h3 with
  | [x, y, z], _ =>
    simp [ki, kb] at c0 c1 c2
    subst c0 c1 c2
    have v0 := World.var?_cell hg0 hv0 0
    have v1 := World.var?_cell hg0 hv0 1
    have v2 := World.var?_cell hg0 hv0 2
    simp at e0 e1 e2 v0 v1 v2
    subst e0 e1 e2
    exact ⟨v0, v1, v2, lt_of_cell v0⟩
end Go.Proofs.YtjnmknhfmmdoiaaDoor
namespace Go.Proofs.YtjnmknhfmmdoiaaDoor
open Go.ChangeShapes Go.WideShapes Go.ChangeAt Go.WideMaps Go.WideElems Go.RowKit
set_option maxRecDepth 100000
theorem gErr : Tryd.prog.globalNamed "errors.errorType" = some 2 := by kernel_rfl
theorem cutR : (Tryd.prog.cutTypes.find? (·.1 == "internal/reflectlite.rtype")).map (·.2) = some 160 := by kernel_rfl
theorem rowError : ((List.range Tryd.prog.types.size).filter fun t => Tryd.prog.rowNamed t [101, 114, 114, 111, 114]) = [25] := by kernel_rfl
/-- What the condition on the variable says of its cell. -/
theorem err_of_handles {l : List (String × DataW Unit)} {W : World} (h : handlesMet Tryd.prog l W) (hm : ("errors.errorType", Rows.laid_errors_errorType) ∈ l) : ErrAt W := by
  obtain ⟨name, u, ty, e1, e2, e3, e4, e5⟩ := h _ hm
  have en : name = [101, 114, 114, 111, 114] := (Option.some.inj e1).symm
  subst en
  obtain rfl := Option.some.inj (cutR.symm.trans e2)
  have hm : ty ∈ (List.range Tryd.prog.types.size).filter fun t => Tryd.prog.rowNamed t [101, 114, 114, 111, 114] := List.mem_filter.2 ⟨List.mem_range.2 e3, e4⟩
  rw [rowError] at hm
  obtain rfl := List.mem_singleton.1 hm
  have hh : typeHandle Tryd.prog 25 = .pointer (some ⟨3, 25, none⟩) := by kernel_rfl
  rw [hh] at e5
  have v := World.var?_cell gErr e5 0
  simp at v
  exact ⟨v, lt_of_cell v⟩
abbrev errLaid : List (String × DataW Unit) := [("errors.errorType", Rows.laid_errors_errorType)]
abbrev farErrLaid : List (String × DataW Unit) := [("pairstone/curve.Far", Rows.laid_pairstone_curve_Far), ("errors.errorType", Rows.laid_errors_errorType)]
theorem errLaid_met (os : Os) (args : Array Value) : laidMetH Tryd.prog errLaid ((World.doorLaid Tryd.prog 400 os).forCall (fun _ _ => 0) ⟨#[], args, []⟩).memory :=
  laidMetH_of_parts ⟨[], rfl, List.nodup_nil, fun _ _ h => by cases h⟩ (by kernel_rfl)
theorem farErrLaid_met (os : Os) (args : Array Value) : laidMetH Tryd.prog farErrLaid ((World.doorLaid Tryd.prog 400 os).forCall (fun _ _ => 0) ⟨#[], args, []⟩).memory :=
  laidMetH_of_parts (laidMet_of_run' 8 (by kernel_rfl) (by kernel_rfl)) (by kernel_rfl)
theorem errLaid_at {W : World} (h : laidMetH Tryd.prog errLaid W) : ErrAt W := by
  have h' : laidMet Tryd.prog [] W ∧ handlesMet Tryd.prog errLaid W := h
  exact err_of_handles h'.2 (by simp)
theorem farErrLaid_at {W : World} (h : laidMetH Tryd.prog farErrLaid W) : FarAt W ∧ ErrAt W := by
  have h' : laidMet Tryd.prog farLaid W ∧ handlesMet Tryd.prog errLaid W := h
  exact ⟨farLaid_at (by rw [MakeChecks.laidMetH_plain _ _ _ (by kernel_rfl)]; exact h'.1), err_of_handles h'.2 (by simp)⟩
end Go.Proofs.YtjnmknhfmmdoiaaDoor
namespace Go.Proofs.YtjnmknhfmmdoiaaDoor
open Go.RowKit
set_option maxRecDepth 100000
set_option linter.unusedVariables false
set_option linter.unusedSimpArgs false
theorem list_v (l : List Sp) (b off cap : Nat) (w : World) (hF : FarAt w) (hl : l.length ≤ 12) (hs : SpotsAt w b off l) (k : Nat) (hk : k < l.length) (n : Int) (h : Hid (∀ i (h : i < l.length), i < k → Ok l[i])) (hn : Hid (sCheck l[k] = n)) (h0 : n ≠ 0) :
    Calls Tryd.prog 66 #[.slice (some ⟨b, off, none⟩) l.length cap] w fun e w' => e = .returned (.tuple #[.string ⟨#[]⟩, .iface 95 (.int .i64 n)]) ∧ Below w.heap.size w w' := by
  have := list_bad l b off cap w hF hl hs k hk h.out (by rw [hn.out]; exact h0); rw [hn.out] at this; exact this
set_option maxHeartbeats 1000000 in
theorem eqAsk_n (a b c r s : Sp) (k : Nat) (n : Int) (w : World) (hF : FarAt w) (hk : k < [a, b, c, r, s].length) (h : Hid (∀ i (h : i < [a, b, c, r, s].length), i < k → Ok [a, b, c, r, s][i])) (hn : Hid (sCheck [a, b, c, r, s][k] = n)) (h0 : n ≠ 0) : Calls Tryd.prog 30 #[spV a, spV b, spV c, spV r, spV s] w fun e w' => e = .returned (.tuple #[.int .i64 0, .iface 95 (.int .i64 n)]) ∧ Below w.heap.size w w' := by
  replace hk := Lib.hid hk
  go_enter Tryd.func30, Tryd.ntmps30
  go_wp2_with fail
  refine (list_v [a, b, c, r, s] _ 0 5 _ (hF.below (by repeat (first | exact Below.refl _ _ | refine balloc ?_ _ | refine Below.drew ?_ | refine below_drewN ?_ _ | refine below_set ?_ (by first | omega | (dsimp only; omega)) _))) (by simp) (spots_at _ [a, b, c, r, s] _ _ _ (by simp) rfl) k hk.out n h hn h0).mono ?_; rintro e w1 ⟨rfl, hb⟩
  obtain ⟨hc1, hf1⟩ := bcell hb
  have z1 := hb.size
  try simp only [World.size_alloc, World.size_setCell, World.size_drew] at z1
  have s1_0 : w.heap.size < w1.heap.size := by omega
  have s1_1 : w.heap.size + 1 < w1.heap.size := by omega
  have s1_2 : w.heap.size + 1 + 1 < w1.heap.size := by omega
  have s1_3 : w.heap.size + 1 + 1 + 1 < w1.heap.size := by omega
  have s1_4 : w.heap.size + 1 + 1 + 1 + 1 < w1.heap.size := by omega
  have s1_5 : w.heap.size + 1 + 1 + 1 + 1 + 1 < w1.heap.size := by omega
  have hB1 : Below w.heap.size w w1 := below_seq (by repeat (first | exact Below.refl _ _ | refine balloc ?_ _ | refine Below.drew ?_ | refine below_drewN ?_ _ | refine below_set ?_ (by first | omega | (dsimp only; omega)) _)) hb
  clear hb
  go_wp2
  go_ret2
  exact ⟨rfl, (by repeat (first | exact hB1 | exact Below.refl _ _ | refine balloc ?_ _ | refine Below.drew ?_ | refine below_drewN ?_ _ | refine below_set ?_ (by first | omega | (dsimp only; omega)) _))⟩
set_option maxHeartbeats 1000000 in
theorem verify3_n (a b c : Sp) (C S : Int) (k : Nat) (n : Int) (w : World) (hF : FarAt w) (hk : k < [a, b, c].length) (h : Hid (∀ i (h : i < [a, b, c].length), i < k → Ok [a, b, c][i])) (hn : Hid (sCheck [a, b, c][k] = n)) (h0 : n ≠ 0) :
    Calls Tryd.prog 39 #[spV a, spV b, spV c, .agg #[.int .i64 C, .int .i64 S]] w fun e w' => e = .returned (.tuple #[.bool false, .iface 95 (.int .i64 n)]) ∧ Below w.heap.size w w' := by
  replace hk := Lib.hid hk
  go_enter Tryd.func39, Tryd.ntmps39
  go_wp2_with fail
  refine (all_v [a, b, c] _ 0 3 _ (hF.below (by repeat (first | exact Below.refl _ _ | refine balloc ?_ _ | refine Below.drew ?_ | refine below_drewN ?_ _ | refine below_set ?_ (by first | omega | (dsimp only; omega)) _))) (by simp) (spots_at _ [a, b, c] _ _ _ (by simp) rfl) k hk.out n h hn h0).mono ?_; rintro e w1 ⟨rfl, hb⟩
  obtain ⟨hc1, hf1⟩ := bcell hb
  have z1 := hb.size
  try simp only [World.size_alloc, World.size_setCell, World.size_drew] at z1
  have s1_0 : w.heap.size < w1.heap.size := by omega
  have s1_1 : w.heap.size + 1 < w1.heap.size := by omega
  have s1_2 : w.heap.size + 1 + 1 < w1.heap.size := by omega
  have s1_3 : w.heap.size + 1 + 1 + 1 < w1.heap.size := by omega
  have s1_4 : w.heap.size + 1 + 1 + 1 + 1 < w1.heap.size := by omega
  have hB1 : Below w.heap.size w w1 := below_seq (by repeat (first | exact Below.refl _ _ | refine balloc ?_ _ | refine Below.drew ?_ | refine below_drewN ?_ _ | refine below_set ?_ (by first | omega | (dsimp only; omega)) _)) hb
  clear hb
  go_wp2
  go_ret2
  exact ⟨rfl, (by repeat (first | exact hB1 | exact Below.refl _ _ | refine balloc ?_ _ | refine Below.drew ?_ | refine below_drewN ?_ _ | refine below_set ?_ (by first | omega | (dsimp only; omega)) _))⟩
set_option maxHeartbeats 1000000 in
theorem verify3_nc (a b c : Sp) (C S : Int) (w : World) (hF : FarAt w) (h : Hid (∀ z ∈ [a, b, c], Ok z)) (hC : ¬ (0 ≤ C ∧ C < 1013)) :
    Calls Tryd.prog 39 #[spV a, spV b, spV c, .agg #[.int .i64 C, .int .i64 S]] w fun e w' => e = .returned (.tuple #[.bool false, .iface 95 (.int .i64 1)]) ∧ Below w.heap.size w w' := by
  go_enter Tryd.func39, Tryd.ntmps39
  go_wp2_with fail
  refine (all_ok [a, b, c] _ 0 3 _ (hF.below (by repeat (first | exact Below.refl _ _ | refine balloc ?_ _ | refine Below.drew ?_ | refine below_drewN ?_ _ | refine below_set ?_ (by first | omega | (dsimp only; omega)) _))) (by simp) (spots_at _ [a, b, c] _ _ _ (by simp) rfl) (ok_all h.out)).mono ?_; rintro e w1 ⟨rfl, hb⟩
  obtain ⟨hc1, hf1⟩ := bcell hb
  have z1 := hb.size
  try simp only [World.size_alloc, World.size_setCell, World.size_drew] at z1
  have s1_0 : w.heap.size < w1.heap.size := by omega
  have s1_1 : w.heap.size + 1 < w1.heap.size := by omega
  have s1_2 : w.heap.size + 1 + 1 < w1.heap.size := by omega
  have s1_3 : w.heap.size + 1 + 1 + 1 < w1.heap.size := by omega
  have s1_4 : w.heap.size + 1 + 1 + 1 + 1 < w1.heap.size := by omega
  have hB1 : Below w.heap.size w w1 := below_seq (by repeat (first | exact Below.refl _ _ | refine balloc ?_ _ | refine Below.drew ?_ | refine below_drewN ?_ _ | refine below_set ?_ (by first | omega | (dsimp only; omega)) _)) hb
  clear hb
  go_wp2_with fail
  refine (rest_n C _ hC).mono ?_; rintro e w' ⟨rfl, rfl⟩
  go_wp2
  go_ret2
  exact ⟨rfl, (by repeat (first | exact hB1 | exact Below.refl _ _ | refine balloc ?_ _ | refine Below.drew ?_ | refine below_drewN ?_ _ | refine below_set ?_ (by first | omega | (dsimp only; omega)) _))⟩
set_option maxHeartbeats 1000000 in
theorem verify3_ns (a b c : Sp) (C S : Int) (w : World) (hF : FarAt w) (h : Hid (∀ z ∈ [a, b, c], Ok z)) (c0 : 0 ≤ C) (c1 : C < 1013) (hS : ¬ (0 ≤ S ∧ S < 1013)) :
    Calls Tryd.prog 39 #[spV a, spV b, spV c, .agg #[.int .i64 C, .int .i64 S]] w fun e w' => e = .returned (.tuple #[.bool false, .iface 95 (.int .i64 1)]) ∧ Below w.heap.size w w' := by
  go_enter Tryd.func39, Tryd.ntmps39
  go_wp2_with fail
  refine (all_ok [a, b, c] _ 0 3 _ (hF.below (by repeat (first | exact Below.refl _ _ | refine balloc ?_ _ | refine Below.drew ?_ | refine below_drewN ?_ _ | refine below_set ?_ (by first | omega | (dsimp only; omega)) _))) (by simp) (spots_at _ [a, b, c] _ _ _ (by simp) rfl) (ok_all h.out)).mono ?_; rintro e w1 ⟨rfl, hb⟩
  obtain ⟨hc1, hf1⟩ := bcell hb
  have z1 := hb.size
  try simp only [World.size_alloc, World.size_setCell, World.size_drew] at z1
  have s1_0 : w.heap.size < w1.heap.size := by omega
  have s1_1 : w.heap.size + 1 < w1.heap.size := by omega
  have s1_2 : w.heap.size + 1 + 1 < w1.heap.size := by omega
  have s1_3 : w.heap.size + 1 + 1 + 1 < w1.heap.size := by omega
  have s1_4 : w.heap.size + 1 + 1 + 1 + 1 < w1.heap.size := by omega
  have hB1 : Below w.heap.size w w1 := below_seq (by repeat (first | exact Below.refl _ _ | refine balloc ?_ _ | refine Below.drew ?_ | refine below_drewN ?_ _ | refine below_set ?_ (by first | omega | (dsimp only; omega)) _)) hb
  clear hb
  go_wp2_with fail
  refine (rest_y C _ c0 c1).mono ?_; rintro e w' ⟨rfl, rfl⟩
  go_wp2_with fail
  refine (rest_n S _ hS).mono ?_; rintro e w' ⟨rfl, rfl⟩
  go_wp2
  go_ret2
  exact ⟨rfl, (by repeat (first | exact hB1 | exact Below.refl _ _ | refine balloc ?_ _ | refine Below.drew ?_ | refine below_drewN ?_ _ | refine below_set ?_ (by first | omega | (dsimp only; omega)) _))⟩
end Go.Proofs.YtjnmknhfmmdoiaaDoor
namespace Go.Proofs.YtjnmknhfmmdoiaaDoor
open Go.RowKit
set_option maxRecDepth 100000
set_option linter.unusedVariables false
set_option linter.unusedSimpArgs false
theorem equalTells_law (x : Int) (hx : (Lit.int .i64 x).wf = true) (k : Int) (hk : (Lit.int .i64 k).wf = true) (a b c r s : Sp) (C S : Int) (hC : (Lit.int .i64 C).wf = true) (hS : (Lit.int .i64 S).wf = true) (w : World) (hL : FarAt w ∧ ErrAt w) :
    Calls Tryd.prog 8 #[.int .i64 x, .int .i64 k, spV a, spV b, spV c, spV r, spV s, .agg #[.int .i64 C, .int .i64 S]] w fun e w' => e = .returned (.bool true) ∧ Below w.heap.size w w' := by
  obtain ⟨N1, p1, p2⟩ : ∃ N1 : Int, ((spotsF [a, b, c, r, s] = 0 ∧ (∀ z ∈ [a, b, c, r, s], Ok z) ∧ ask5 [a, b, c, r, s] = N1) ∨ ((spotsF [a, b, c, r, s] == 0) = false ∧ N1 = 0)) ∧
      (∀ w : World, FarAt w → Calls Tryd.prog 30 #[spV a, spV b, spV c, spV r, spV s] w fun e w' => e = .returned (.tuple #[.int .i64 N1, errV (spotsF [a, b, c, r, s])]) ∧ Below w.heap.size w w') := by
    rcases first_fault [a, b, c, r, s] with ⟨h0, hok⟩ | ⟨k1, hk1, hi, hb, hn⟩
    · rw [h0]
      exact ⟨_, .inl ⟨rfl, hok, rfl⟩, fun w hF => eqAsk_e a b c r s _ w hF hok rfl⟩
    · rw [errV, if_neg hn]
      exact ⟨0, .inr ⟨by simpa using hn, rfl⟩, fun w hF => eqAsk_n a b c r s k1 _ w hF hk1 hi hb hn⟩
  obtain ⟨E2, U, V, R1, Q1, T, Y, j, q1, q2, q3⟩ : ∃ (E2 : Int) (U V R1 Q1 : Sp) (T Y j : Int), (((!(secB x && secB k)) = true ∧ E2 = 1) ∨ ((!(secB x && secB k)) = false ∧ sCheck b = E2)) ∧
      ((E2 = 0 ∧ 1 ≤ x ∧ x < 1013 ∧ 1 ≤ k ∧ k < 1013 ∧ b = sq j ∧ sq (4 * x) = U ∧ sq (j * x) = V ∧ sq (4 * k) = R1 ∧ sq (j * k) = Q1 ∧ (∀ z ∈ [U, b, V, R1, Q1], Ok z) ∧ ask5 [U, b, V, R1, Q1] = T ∧ 0 ≤ T * x ∧ T * x ≤ 1024144 ∧ (k + T * x) % 1013 = Y) ∨ ((E2 == 0) = false ∧ U = ⟨0, 0, false⟩ ∧ V = ⟨0, 0, false⟩ ∧ T = 0 ∧ Y = 0)) ∧
      ProveIs x k b U V T Y (errV E2) := by
    by_cases h1 : 1 ≤ x ∧ x < 1013
    · have b1 : secB x = true := decide_eq_true h1
      by_cases h2 : 1 ≤ k ∧ k < 1013
      · have b2 : secB k = true := decide_eq_true h2
        by_cases cb : sCheck b = 0
        · obtain ⟨j, -, -, e⟩ := sq_all ((ok_iff _).mp cb)
          have bd : 0 ≤ ask5P x k j b ∧ ask5P x k j b < 1013 := ask5_bd _
          have hm := mul_q bd.1 bd.2 h1.1 h1.2
          refine ⟨0, _, _, _, _, _, _, j, .inr ⟨by rw [b1, b2]; rfl, cb⟩, .inl ⟨rfl, h1.1, h1.2, h2.1, h2.2, e, rfl, rfl, rfl, rfl, ?_, rfl, hm.1, hm.2, rfl⟩, prove_at x k j b h1.1 h1.2 h2.1 h2.2 e⟩
          intro z hz
          simp only [List.mem_cons, List.not_mem_nil, or_false] at hz
          rcases hz with rfl | rfl | rfl | rfl | rfl <;> first | exact sq_ok _ | exact ok_of e
        · refine ⟨_, _, _, ⟨0, 0, false⟩, ⟨0, 0, false⟩, _, _, 0, .inr ⟨by rw [b1, b2]; rfl, rfl⟩, .inr ⟨by simpa using cb, rfl, rfl, rfl, rfl⟩, fun w hF => ?_⟩
          rw [errV, if_neg cb]
          exact prove_nb x k _ b w hF h1.1 h1.2 h2.1 h2.2 rfl cb
      · have b2 : secB k = false := decide_eq_false h2
        exact ⟨1, _, _, ⟨0, 0, false⟩, ⟨0, 0, false⟩, _, _, 0, .inl ⟨by rw [b1, b2]; rfl, rfl⟩, .inr ⟨rfl, rfl, rfl, rfl, rfl⟩, fun w _ => prove_n2 x k b w h1.1 h1.2 h2⟩
    · have b1 : secB x = false := decide_eq_false h1
      exact ⟨1, _, _, ⟨0, 0, false⟩, ⟨0, 0, false⟩, _, _, 0, .inl ⟨by rw [b1]; rfl, rfl⟩, .inr ⟨rfl, rfl, rfl, rfl, rfl⟩, fun w _ => prove_n1 x k b w h1⟩
  obtain ⟨B7, E4, RT, u1, u2, u3, u4⟩ : ∃ (B7 : Bool) (E4 : Int) (RT : Bool), ((spotsF [a, b, c] = 0 ∧ resB C = true ∧ resB S = true ∧ B7 = false) ∨ (spotsF [a, b, c] = 0 ∧ resB C = true ∧ resB S = false ∧ B7 = true) ∨ (spotsF [a, b, c] = 0 ∧ resB C = false ∧ B7 = true) ∨ ((spotsF [a, b, c] == 0) = false ∧ B7 = false)) ∧
      ((B7 = true ∧ E4 = 1) ∨ (B7 = false ∧ E4 = spotsF [a, b, c])) ∧
      ((E4 = 0 ∧ (∀ w : World, Calls Tryd.prog 38 #[spV a, spV b, spV c, .agg #[.int .i64 C, .int .i64 S]] w fun e w' => e = .returned (.bool RT) ∧ Below w.heap.size w w')) ∨ ((E4 == 0) = false ∧ RT = false)) ∧
      (∀ w : World, FarAt w → Calls Tryd.prog 39 #[spV a, spV b, spV c, .agg #[.int .i64 C, .int .i64 S]] w fun e w' => e = .returned (.tuple #[.bool RT, errV E4]) ∧ Below w.heap.size w w') := by
    rcases first_fault [a, b, c] with ⟨h0, hok⟩ | ⟨k1, hk1, hi, hb, hn⟩
    · rw [h0]
      by_cases h1 : 0 ≤ C ∧ C < 1013
      · by_cases h2 : 0 ≤ S ∧ S < 1013
        · obtain ⟨i, -, -, ea⟩ := sq_all (hok a (by simp))
          obtain ⟨j, -, -, eb⟩ := sq_all (hok b (by simp))
          obtain ⟨l, -, -, ec⟩ := sq_all (hok c (by simp))
          exact ⟨false, 0, _, .inl ⟨rfl, decide_eq_true h1, decide_eq_true h2, rfl⟩, .inr ⟨rfl, rfl⟩, .inl ⟨rfl, fun w => rEqRight_e a b c i j l C S w h1.1 h1.2 h2.1 h2.2 ea eb ec⟩, ver_at a b c i j l C S ea eb ec h1.1 h1.2 h2.1 h2.2⟩
        · exact ⟨true, 1, false, .inr (.inl ⟨rfl, decide_eq_true h1, decide_eq_false h2, rfl⟩), .inl ⟨rfl, rfl⟩, .inr ⟨rfl, rfl⟩, fun w hF => verify3_ns a b c C S w hF hok h1.1 h1.2 h2⟩
      · exact ⟨true, 1, false, .inr (.inr (.inl ⟨rfl, decide_eq_false h1, rfl⟩)), .inl ⟨rfl, rfl⟩, .inr ⟨rfl, rfl⟩, fun w hF => verify3_nc a b c C S w hF hok h1⟩
    · refine ⟨false, spotsF [a, b, c], false, .inr (.inr (.inr ⟨by simpa using hn, rfl⟩)), .inr ⟨rfl, rfl⟩, .inr ⟨by simpa using hn, rfl⟩, fun w hF => ?_⟩
      rw [errV, if_neg hn]
      exact verify3_n a b c C S k1 _ w hF hk1 hi hb hn
  exact et_all x k a b c r s C S w hL.1 hL.2 _ E2 _ E4 N1 _ _ _ _ _ B7 rfl p1 p2 rfl rfl rfl q1 U V R1 Q1 T Y j q2 q3 rfl rfl rfl u1 u2 RT u3 u4
end Go.Proofs.YtjnmknhfmmdoiaaDoor
namespace Go.Proofs.YtjnmknhfmmdoiaaDoor.equalTells
open Go.ChangeShapes Go.WideShapes Go.ChangeAt Go.RowKit
set_option linter.unusedVariables false
theorem typesOk : ([3, 3, 29, 29, 29, 29, 29, 60].all fun t => Tryd.prog.readableRec t && decide (t < Tryd.prog.types.size)) = true := by kernel_rfl
set_option maxRecDepth 100000 in
theorem lifted (os : Os) (started : os.Started) (H : Type) (enc : TypeId × Value → H) :
    ReturnsInHanded {} Tryd.checked os 8 .any (fun w args => (Rows.equalTellsSpec.pre enc Tryd.prog Tryd.f8 [] false w args ∧ laidMetH Tryd.prog farErrLaid w) ∧ sizedMet enc Tryd.prog Tryd.f8 (OpenSpec.ofChange Rows.equalTellsSpec) false w args)
      (Rows.equalTellsSpec.post enc Tryd.prog Tryd.f8 false true false false) := by
  refine returnsInHanded_of_change_and (C := Tryd.checked) (X := fun w _ => laidMetH Tryd.prog farErrLaid w) (fun _ _ _ hh h => h.of_heap hh) Tryd.ownK started (by kernel_rfl) Tryd.func8
    (ChangeSpec.witness_shaped (enc := enc) (C := Tryd.checked) (os := os) (X := fun w _ => laidMetH Tryd.prog farErrLaid w) false (World.doorLaid Tryd.prog 400 os) #[.int .i64 0, .int .i64 0, .agg #[.int .i64 0, .int .i64 0, .bool false], .agg #[.int .i64 0, .int .i64 0, .bool false], .agg #[.int .i64 0, .int .i64 0, .bool false], .agg #[.int .i64 0, .int .i64 0, .bool false], .agg #[.int .i64 0, .int .i64 0, .bool false], .agg #[.int .i64 0, .int .i64 0]] 8 rfl (World.shaped_of_RefB (by kernel_rfl) (by kernel_rfl)) (by kernel_rfl) (by kernel_rfl) (by kernel_rfl) (farErrLaid_met os _)) ?_
  intro W base args ds gs before hval0 hW hcnd hsz0 hL hholds
  have hval : ∀ (j : Nat) t v, Tryd.f8.params[j]? = some t → args[j]? = some v → Value.okWide Tryd.prog W .any base t v := hval0
  have hW' := hW
  obtain ⟨p, q, hA0, hV, rfl, hfz, hnd⟩ := hW
  have hA : DataW.TrodAll enc Tryd.prog W 0 (fun _ => true) true Tryd.f8.params.toList args.toList ds p := hA0
  obtain ⟨rfl, rfl⟩ := trodVars_none hV
  simp only [List.append_nil] at hW'
  have hlt : ∀ x ∈ p, x.block < W.heap.size := fun x hx => hW'.lt x hx
  have hsz : (DataW.weightsEach Tryd.prog (Tryd.f8.params.toList ++ Rows.equalTellsSpec.plain.varTypes Tryd.prog) (ds ++ [])).all (· ≤ reachBytes) = true := hsz0
  rw [Tryd.params8] at hA hval hsz
  have hK := hA
  obtain ⟨v0, vs0, d0, ds0, p0, q0, hargs, rfl, rfl, h0, r0⟩ := trodAll_cons hA
  obtain ⟨v1, vs1, d1, ds1, p1, q1, rfl, rfl, rfl, h1, r1⟩ := trodAll_cons r0
  obtain ⟨v2, vs2, d2, ds2, p2, q2, rfl, rfl, rfl, h2, r2⟩ := trodAll_cons r1
  obtain ⟨v3, vs3, d3, ds3, p3, q3, rfl, rfl, rfl, h3, r3⟩ := trodAll_cons r2
  obtain ⟨v4, vs4, d4, ds4, p4, q4, rfl, rfl, rfl, h4, r4⟩ := trodAll_cons r3
  obtain ⟨v5, vs5, d5, ds5, p5, q5, rfl, rfl, rfl, h5, r5⟩ := trodAll_cons r4
  obtain ⟨v6, vs6, d6, ds6, p6, q6, rfl, rfl, rfl, h6, r6⟩ := trodAll_cons r5
  obtain ⟨v7, vs7, d7, ds7, p7, q7, rfl, rfl, rfl, h7, r7⟩ := trodAll_cons r6
  obtain ⟨rfl, rfl, rfl⟩ := trodAll_nil r7
  obtain rfl : args = #[v0, v1, v2, v3, v4, v5, v6, v7] := by cases args; simp_all
  obtain ⟨a0, rfl, rfl, rfl, w0⟩ := open_int Tryd.underlying3 (hval 0 3 v0 rfl rfl) h0
  obtain ⟨a1, rfl, rfl, rfl, w1⟩ := open_int Tryd.underlying3 (hval 1 3 v1 rfl rfl) h1
  obtain ⟨a2, b2, f2, rfl, w2, u2⟩ := open_spot Tryd.underlying29 (by kernel_rfl) (by kernel_rfl) Tryd.underlying3 Tryd.underlying3 Tryd.underlying4 (hval 2 29 v2 rfl rfl) h2
  obtain ⟨a3, b3, f3, rfl, w3, u3⟩ := open_spot Tryd.underlying29 (by kernel_rfl) (by kernel_rfl) Tryd.underlying3 Tryd.underlying3 Tryd.underlying4 (hval 3 29 v3 rfl rfl) h3
  obtain ⟨a4, b4, f4, rfl, w4, u4⟩ := open_spot Tryd.underlying29 (by kernel_rfl) (by kernel_rfl) Tryd.underlying3 Tryd.underlying3 Tryd.underlying4 (hval 4 29 v4 rfl rfl) h4
  obtain ⟨a5, b5, f5, rfl, w5, u5⟩ := open_spot Tryd.underlying29 (by kernel_rfl) (by kernel_rfl) Tryd.underlying3 Tryd.underlying3 Tryd.underlying4 (hval 5 29 v5 rfl rfl) h5
  obtain ⟨a6, b6, f6, rfl, w6, u6⟩ := open_spot Tryd.underlying29 (by kernel_rfl) (by kernel_rfl) Tryd.underlying3 Tryd.underlying3 Tryd.underlying4 (hval 6 29 v6 rfl rfl) h6
  obtain ⟨a7, b7, rfl, w7, u7⟩ := open_two Tryd.underlying60 (by kernel_rfl) (by kernel_rfl) Tryd.underlying3 Tryd.underlying3 (hval 7 60 v7 rfl rfl) h7
  clear hA0 hval0
  refine (equalTells_law a0 w0 a1 w1 ⟨a2, b2, f2⟩ ⟨a3, b3, f3⟩ ⟨a4, b4, f4⟩ ⟨a5, b5, f5⟩ ⟨a6, b6, f6⟩ a7 b7 w7 u7 W (farErrLaid_at hL)).mono fun e W' ⟨he, hg⟩ => ?_
  subst he
  exact ⟨_, rfl, post_of_below (pa := _) (pv := []) hW' (fun _ _ _ => (trodAll_cons_mk (shut_bool Tryd.underlying4 _) trodAll_mk0)) (fun sp hsp => trodAll_stays Tryd.laidOutK hg typesOk hK (fun x hx => ⟨hlt x hx, hsp x (by first | exact hx | (simp at hx) | simpa using hx)⟩)) (fun _ _ => rfl) (by simp) hg (ok_one (by kernel_rfl) rfl (okWide_bool_mk Tryd.underlying4 _))⟩

theorem over : Rows.equalTellsRow.holds Tryd.pinned (OpenSpec.ofChange Rows.equalTellsSpec) :=
  OpenClaim.holds_of_wide 8 Tryd.f8 rfl rfl rfl rfl rfl rfl rfl ⟨rfl, rfl, rfl, rfl, rfl⟩ rfl rfl rfl rfl rfl (by kernel_rfl) Tryd.func8 (by show joinedFacts Tryd.prog _ _ _ _ = true; unfold joinedFacts; rw [mayEnterK, liftsFinalK, makeK]; kernel_rfl)
    (of_decide_eq_true (by kernel_rfl)) (by unfold Func.isWrapper; first | (rw [if_pos (by decide +kernel)]; kernel_rfl) | (rw [if_neg (by decide +kernel)]; exact ⟨rfl, rfl⟩))
    (fun os started H enc _ => lifted os started H enc)
theorem card : Rows.EqualTellsCardSaid :=
  Claim7.holds_tied_plain_at .later [] [.data, .handle] true (true, "169ca55525975a002307396833f787c47ad1d893aaffc6729fd8ce4eca940aba") true
    over (fun _ h => by cases h) (by kernel_rfl) (fun _ h => by cases h) equalTells_row_tie rfl ⟨rfl, rfl⟩ mainIsK rfl
    (fun f fn hf hfn => by
      obtain rfl : f = 8 := Option.some.inj ((show Tryd.prog.funcNamed "pairstone/stonelaw2.EqualTells" = some 8 by kernel_rfl).symm.trans hf) |>.symm
      obtain rfl : fn = Tryd.f8 := (Option.some.inj (Tryd.func8.symm.trans hfn)).symm
      exact ⟨by kernel_rfl, fun j t ht => by
        rw [Tryd.params8] at ht
        have hm : t ∈ ([3, 3, 29, 29, 29, 29, 29, 60] : List TypeId) := by simpa using Array.mem_of_getElem? ht
        have hall : (([3, 3, 29, 29, 29, 29, 29, 60] : List TypeId).all fun u => !Tryd.prog.wantsStandIn u) = true := by kernel_rfl
        exact (show Tryd.prog.wantsStandIn t = false by simpa using List.all_eq_true.1 hall t hm)⟩)
    (by kernel_rfl)
#print axioms card
end Go.Proofs.YtjnmknhfmmdoiaaDoor.equalTells
