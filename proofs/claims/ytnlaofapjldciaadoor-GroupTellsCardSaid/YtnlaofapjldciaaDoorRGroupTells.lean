/- The statement of GroupTells: for every input the law returns true, and the arguments read as they did. (its listed variable reads as laid; the card ties it) -/
import Derived.Test.YtnlaofapjldciaaDoorRows
import Derived.Test.YtnlaofapjldciaaDoorWv
import Derived.ProofKit
import Derived.LaidMore
import Derived.OpenShut
import Derived.MakeChecks
import Derived.Deep.Strs
import Derived.Test.YtnlaofapjldciaaDoorTl
import Derived.LaidHandle
import Derived.Test.YtnlaofapjldciaaDoorMGroupTells
import Derived.Test.YtnlaofapjldciaaDoorFs
import Derived.Test.YtnlaofapjldciaaDoorLs
import Derived.Laws.Entries
import Derived.Deep.DeepCutAuto
import Derived.Test.YtnlaofapjldciaaDoorFr
import Derived.SizedLaws
import Derived.Test.YtnlaofapjldciaaDoorTie
import Derived.Test.YtnlaofapjldciaaDoorCards
import Derived.Test.YtnlaofapjldciaaDoorJf
import Derived.SevenTiedAt
namespace Go.Proofs.YtnlaofapjldciaaDoor
open Go.ChangeShapes Go.WideShapes Go.ChangeAt Go.WideMaps Go.WideElems Go.RowKit
set_option maxRecDepth 100000
abbrev farLaid : List (String × DataW Unit) := [("pairstone/curve.Far", Rows.laid_pairstone_curve_Far)]
theorem gFar : Tryd.prog.globalNamed "pairstone/curve.Far" = some 0 := by kernel_rfl
theorem tFar : (Tryd.prog.globals[0]?).map (·.type) = some 24 := by kernel_rfl
/-- The door's own heap meets the condition. -/
theorem farLaid_met (os : Os) (args : Array Value) : laidMetH Tryd.prog farLaid ((World.doorLaid Tryd.prog 400 os).forCall (fun _ _ => 0) ⟨#[], args, []⟩).memory :=
  laidMetH_of_parts3 (fuel := 8) (laidMet_of_run' 8 (by kernel_rfl) (by kernel_rfl)) (by kernel_rfl) (by kernel_rfl)
theorem lt_of_cell {w : World} {b o : Nat} {v : Value} (h : w.cell? ⟨b, o, none⟩ = some v) : b < w.heap.size := by
  rcases Nat.lt_or_ge b w.heap.size with h1 | h1
  · exact h1
  · simp [World.cell?, Array.getElem?_eq_none h1] at h
theorem farLaid_at {W : World} (h : laidMetH Tryd.prog farLaid W) : FarAt W := by
  rw [MakeChecks.laidMetH_plain _ _ _ (by kernel_rfl)] at h
  obtain ⟨ps, ⟨g0, t0, cs0, f0, p0, q0, hg0, ht0, hv0, hd0, _, _⟩, _, _⟩ := h
  obtain rfl := Option.some.inj (gFar.symm.trans hg0)
  obtain rfl := Option.some.inj (tFar.symm.trans ht0)
  obtain ⟨y0, y1, y2, n, hx, hlen, h0, h1, h2⟩ := Deep.trod_struct3 Tryd.underlying24 hd0
  simp only [Rows.laid_pairstone_curve_Far, Prod.mk.injEq, DataW.agg.injEq, List.cons.injEq, and_true] at hx
  obtain ⟨⟨e0, e1, e2⟩, _⟩ := hx
  obtain ⟨a, c0, rfl, _⟩ := DataW.trod_int Tryd.underlying3 h0
  obtain ⟨b, c1, rfl, _⟩ := DataW.trod_int Tryd.underlying3 h1
  obtain ⟨f, c2, rfl⟩ := DataW.trod_bool Tryd.underlying4 h2
  have k3 : Tryd.prog.cellsOf 24 = 3 := by kernel_rfl
  have ki : Tryd.prog.cellsOf 3 = 1 := by kernel_rfl
  have kb : Tryd.prog.cellsOf 4 = 1 := by kernel_rfl
  obtain ⟨l⟩ := cs0
  have h3 : l.length = 3 := by simpa using hlen.trans k3
  match l, h3 with
  | [x, y, z], _ =>
    simp [ki, kb] at c0 c1 c2
    subst c0 c1 c2
    have v0 := World.var?_cell hg0 hv0 0
    have v1 := World.var?_cell hg0 hv0 1
    have v2 := World.var?_cell hg0 hv0 2
    simp at e0 e1 e2 v0 v1 v2
    subst e0 e1 e2
    exact ⟨v0, v1, v2, lt_of_cell v0⟩
end Go.Proofs.YtnlaofapjldciaaDoor
namespace Go.Proofs.YtnlaofapjldciaaDoor
open Go.ChangeShapes Go.WideShapes Go.ChangeAt Go.WideMaps Go.WideElems Go.RowKit
set_option maxRecDepth 100000
theorem gErr : Tryd.prog.globalNamed "errors.errorType" = some 2 := by kernel_rfl
theorem cutR : (Tryd.prog.cutTypes.find? (·.1 == "internal/reflectlite.rtype")).map (·.2) = some 186 := by kernel_rfl
theorem rowError : ((List.range Tryd.prog.types.size).filter fun t => Tryd.prog.rowNamed t [101, 114, 114, 111, 114]) = [26] := by kernel_rfl
/-- What the condition on the variable says of its cell. -/
theorem err_of_handles {l : List (String × DataW Unit)} {W : World} (h : handlesMet Tryd.prog l W) (hm : ("errors.errorType", Rows.laid_errors_errorType) ∈ l) : ErrAt W := by
  obtain ⟨name, u, ty, e1, e2, e3, e4, e5⟩ := h _ hm
  have en : name = [101, 114, 114, 111, 114] := (Option.some.inj e1).symm
  subst en
  obtain rfl := Option.some.inj (cutR.symm.trans e2)
  have hm : ty ∈ (List.range Tryd.prog.types.size).filter fun t => Tryd.prog.rowNamed t [101, 114, 114, 111, 114] := List.mem_filter.2 ⟨List.mem_range.2 e3, e4⟩
  rw [rowError] at hm
  obtain rfl := List.mem_singleton.1 hm
  have hh : typeHandle Tryd.prog 26 = .pointer (some ⟨3, 26, none⟩) := by kernel_rfl
  rw [hh] at e5
  have v := World.var?_cell gErr e5 0
  simp at v
  exact ⟨v, lt_of_cell v⟩
abbrev errLaid : List (String × DataW Unit) := [("errors.errorType", Rows.laid_errors_errorType)]
abbrev farErrLaid : List (String × DataW Unit) := [("pairstone/curve.Far", Rows.laid_pairstone_curve_Far), ("errors.errorType", Rows.laid_errors_errorType)]
theorem errLaid_met (os : Os) (args : Array Value) : laidMetH Tryd.prog errLaid ((World.doorLaid Tryd.prog 400 os).forCall (fun _ _ => 0) ⟨#[], args, []⟩).memory :=
  laidMetH_of_parts ⟨[], rfl, List.nodup_nil, fun _ _ h => by cases h⟩ (by kernel_rfl)
theorem farErrLaid_met (os : Os) (args : Array Value) : laidMetH Tryd.prog farErrLaid ((World.doorLaid Tryd.prog 400 os).forCall (fun _ _ => 0) ⟨#[], args, []⟩).memory :=
  laidMetH_of_parts (laidMet_of_run' 8 (by kernel_rfl) (by kernel_rfl)) (by kernel_rfl)
theorem errLaid_at {W : World} (h : laidMetH Tryd.prog errLaid W) : ErrAt W := by
  have h' : laidMet Tryd.prog [] W ∧ handlesMet Tryd.prog errLaid W := h
  exact err_of_handles h'.2 (by simp)
theorem farErrLaid_at {W : World} (h : laidMetH Tryd.prog farErrLaid W) : FarAt W ∧ ErrAt W := by
  have h' : laidMet Tryd.prog farLaid W ∧ handlesMet Tryd.prog errLaid W := h
  exact ⟨farLaid_at (by rw [MakeChecks.laidMetH_plain _ _ _ (by kernel_rfl)]; exact h'.1), err_of_handles h'.2 (by simp)⟩
end Go.Proofs.YtnlaofapjldciaaDoor
namespace Go.Proofs.YtnlaofapjldciaaDoor
open Go.RowKit
set_option maxRecDepth 100000
set_option linter.unusedVariables false
set_option linter.unusedSimpArgs false
/-- A call with one argument, in every later world. -/
def GtAt (w : World) (f : FuncId) (a : Value) (r : Value) : Prop := ∀ w1 : World, Below w.heap.size w w1 → Calls Tryd.prog f #[a] w1 fun e w' => e = .returned r ∧ Below w1.heap.size w1 w'
def GtAt3 (w : World) (f : FuncId) (a b c : Value) (r : Value) : Prop := ∀ w1 : World, Below w.heap.size w w1 → Calls Tryd.prog f #[a, b, c] w1 fun e w' => e = .returned r ∧ Below w1.heap.size w1 w'
def GtC (w : World) (a : Value) (l : List Int) : Prop := ∀ w1 : World, Below w.heap.size w w1 → Calls Tryd.prog 47 #[a] w1 fun e w' => ∃ v', e = .returned (.tuple #[v', .nilIface]) ∧ IntSl w' v' l ∧ Below w1.heap.size w1 w'
def GtR (w : World) (a : Value) (l : List Int) : Prop := ∀ w1 : World, Below w.heap.size w w1 → Calls Tryd.prog 45 #[a] w1 fun e w' => ∃ v', e = .returned v' ∧ IntF w1.heap.size w' v' l ∧ Below w1.heap.size w1 w'
theorem IntSl.none0 (w : World) : IntSl w (.slice none 0 0) [] := ⟨none, 0, rfl, fun h => absurd h (Nat.lt_irrefl 0)⟩
set_option maxHeartbeats 16000000 in
theorem gt_y (v0 v1 v2 : Value) (t : ByteArray) (w : World) (hF : FarAt w) (hE : ErrAt w) (cs : List Int) (J : Sp) (hcs : Hid (cs.length ≤ 1000000))
    (kP : Hid (GtAt w 44 v0 (.int .i64 0))) (kR : Hid (GtR w v0 cs)) (kJ : Hid (GtAt w 46 v0 (spV J)))
    (kC : Hid (GtC w v0 cs)) (kK : Hid (GtAt w 48 v0 (.tuple #[spV J, .nilIface])))
    (G S : Int) (R : Sp) (hG : Hid (GtAt3 w 49 v1 v2 (.string t) (.int .i64 G)))
    (h5 : Hid ((G = 0 ∧ GtAt3 w 50 v1 v2 (.string t) (slV R S)) ∨ ((G == 0) = false ∧ R = ⟨0, 0, false⟩ ∧ S = 0)))
    (hS : Hid (GtAt3 w 51 v1 v2 (.string t) (.tuple #[slV R S, errV G]))) :
    Calls Tryd.prog 8 #[v0, v1, v2, .string t] w fun e w' => e = .returned (.bool true) ∧ Below w.heap.size w w' := by
  go_enter Tryd.func8, Tryd.ntmps8
  go_wp2_with fail
  refine (kP.out _ (by repeat (first | exact Below.refl _ _ | refine balloc ?_ _ | refine Below.drew ?_ | refine below_drewN ?_ _ | refine below_set ?_ (by first | omega | (dsimp only; omega)) _))).mono ?_; rintro e w1 ⟨rfl, hb⟩
  obtain ⟨hc1, hf1⟩ := bcell hb
  have z1 := hb.size
  try simp only [World.size_alloc, World.size_setCell, World.size_drew] at z1
  have hB1 : Below w.heap.size w w1 := below_seq (by repeat (first | exact Below.refl _ _ | refine balloc ?_ _ | refine Below.drew ?_ | refine below_drewN ?_ _ | refine below_set ?_ (by first | omega | (dsimp only; omega)) _)) hb
  clear hb
  go_wp2_with fail
  refine (kR.out _ (by repeat (first | exact hB1 | exact Below.refl _ _ | refine balloc ?_ _ | refine Below.drew ?_ | refine below_drewN ?_ _ | refine below_set ?_ (by first | omega | (dsimp only; omega)) _))).mono ?_; rintro e w2 ⟨vx, rfl, hx, hb⟩; replace hx := Lib.hid hx
  obtain ⟨hc2, hf2⟩ := bcell hb
  have z2 := hb.size
  try simp only [World.size_alloc, World.size_setCell, World.size_drew] at z2
  have s2_0 : w1.heap.size < w2.heap.size := by omega
  have hB2 : Below w.heap.size w w2 := below_seq (by repeat (first | exact hB1 | exact Below.refl _ _ | refine balloc ?_ _ | refine Below.drew ?_ | refine below_drewN ?_ _ | refine below_set ?_ (by first | omega | (dsimp only; omega)) _)) hb
  clear hb
  have m2_0_0 : w2.cell? ⟨w1.heap.size, 0, none⟩ = some (.int .i64 0) := by go_simp
  have m2_0_1 : w2.cell? ⟨w1.heap.size, 1, none⟩ = some (.int .i64 0) := by go_simp
  have m2_0_2 : w2.cell? ⟨w1.heap.size, 2, none⟩ = some (.bool false) := by go_simp
  clear hc2
  go_wp2_with fail
  refine (kJ.out _ (by repeat (first | exact hB2 | exact Below.refl _ _ | refine balloc ?_ _ | refine Below.drew ?_ | refine below_drewN ?_ _ | refine below_set ?_ (by first | omega | (dsimp only; omega)) _))).mono ?_; rintro e w3 ⟨rfl, hb⟩; replace hx := Lib.hid (hx.out.below hb)
  obtain ⟨hc3, hf3⟩ := bcell hb
  have z3 := hb.size
  try simp only [World.size_alloc, World.size_setCell, World.size_drew] at z3
  have s3_0 : w1.heap.size < w3.heap.size := by omega
  have hB3 : Below w.heap.size w w3 := below_seq (by repeat (first | exact hB2 | exact Below.refl _ _ | refine balloc ?_ _ | refine Below.drew ?_ | refine below_drewN ?_ _ | refine below_set ?_ (by first | omega | (dsimp only; omega)) _)) hb
  clear hb
  have m3_0_0 : w3.cell? ⟨w1.heap.size, 0, none⟩ = some (.int .i64 0) := by go_simp
  have m3_0_1 : w3.cell? ⟨w1.heap.size, 1, none⟩ = some (.int .i64 0) := by go_simp
  have m3_0_2 : w3.cell? ⟨w1.heap.size, 2, none⟩ = some (.bool false) := by go_simp
  clear m2_0_0 m2_0_1 m2_0_2
  clear hc3
  go_wp2_with fail
  refine (kC.out _ (by repeat (first | exact hB3 | exact Below.refl _ _ | refine balloc ?_ _ | refine Below.drew ?_ | refine below_drewN ?_ _ | refine below_set ?_ (by first | omega | (dsimp only; omega)) _))).mono ?_; rintro e w4 ⟨vy, rfl, hy, hb⟩; replace hx := Lib.hid (IntF.below (IntF.set (IntF.set (IntF.set hx.out (by simp)) (by simp)) (by simp)) hb); replace hy := Lib.hid hy
  obtain ⟨hc4, hf4⟩ := bcell hb
  have z4 := hb.size
  try simp only [World.size_alloc, World.size_setCell, World.size_drew] at z4
  have s4_0 : w1.heap.size < w4.heap.size := by omega
  have hB4 : Below w.heap.size w w4 := below_seq (by repeat (first | exact hB3 | exact Below.refl _ _ | refine balloc ?_ _ | refine Below.drew ?_ | refine below_drewN ?_ _ | refine below_set ?_ (by first | omega | (dsimp only; omega)) _)) hb
  clear hb
  have m4_0_0 : w4.cell? ⟨w1.heap.size, 0, none⟩ = some (.int .i64 J.x) := by go_simp
  have m4_0_1 : w4.cell? ⟨w1.heap.size, 1, none⟩ = some (.int .i64 J.y) := by go_simp
  have m4_0_2 : w4.cell? ⟨w1.heap.size, 2, none⟩ = some (.bool J.far) := by go_simp
  clear m3_0_0 m3_0_1 m3_0_2
  clear hc4
  go_wp2_with fail
  refine (error_nil 0 _ true rfl).mono ?_; rintro e w5 ⟨rfl, hb⟩; replace hx := Lib.hid (hx.out.below hb); replace hy := Lib.hid (hy.out.below hb)
  obtain ⟨hc5, hf5⟩ := bcell hb
  have z5 := hb.size
  try simp only [World.size_alloc, World.size_setCell, World.size_drew] at z5
  have s5_0 : w1.heap.size < w5.heap.size := by omega
  have hB5 : Below w.heap.size w w5 := below_seq (by repeat (first | exact hB4 | exact Below.refl _ _ | refine balloc ?_ _ | refine Below.drew ?_ | refine below_drewN ?_ _ | refine below_set ?_ (by first | omega | (dsimp only; omega)) _)) hb
  clear hb
  have m5_0_0 : w5.cell? ⟨w1.heap.size, 0, none⟩ = some (.int .i64 J.x) := by go_simp
  have m5_0_1 : w5.cell? ⟨w1.heap.size, 1, none⟩ = some (.int .i64 J.y) := by go_simp
  have m5_0_2 : w5.cell? ⟨w1.heap.size, 2, none⟩ = some (.bool J.far) := by go_simp
  clear m4_0_0 m4_0_1 m4_0_2
  clear hc5
  go_wp2_with fail
  refine (ints_same cs _ _ _ hcs.out hy.out hx.out.sl).mono ?_; rintro e w6 ⟨rfl, hb⟩
  obtain ⟨hc6, hf6⟩ := bcell hb
  have z6 := hb.size
  try simp only [World.size_alloc, World.size_setCell, World.size_drew] at z6
  have s6_0 : w1.heap.size < w6.heap.size := by omega
  have hB6 : Below w.heap.size w w6 := below_seq (by repeat (first | exact hB5 | exact Below.refl _ _ | refine balloc ?_ _ | refine Below.drew ?_ | refine below_drewN ?_ _ | refine below_set ?_ (by first | omega | (dsimp only; omega)) _)) hb
  clear hb
  have m6_0_0 : w6.cell? ⟨w1.heap.size, 0, none⟩ = some (.int .i64 J.x) := by go_simp
  have m6_0_1 : w6.cell? ⟨w1.heap.size, 1, none⟩ = some (.int .i64 J.y) := by go_simp
  have m6_0_2 : w6.cell? ⟨w1.heap.size, 2, none⟩ = some (.bool J.far) := by go_simp
  clear m5_0_0 m5_0_1 m5_0_2
  clear hc6
  clear hx hy
  go_wp2_with fail
  refine (kK.out _ (by repeat (first | exact hB6 | exact Below.refl _ _ | refine balloc ?_ _ | refine Below.drew ?_ | refine below_drewN ?_ _ | refine below_set ?_ (by first | omega | (dsimp only; omega)) _))).mono ?_; rintro e w7 ⟨rfl, hb⟩
  obtain ⟨hc7, hf7⟩ := bcell hb
  have z7 := hb.size
  try simp only [World.size_alloc, World.size_setCell, World.size_drew] at z7
  have s7_0 : w1.heap.size < w7.heap.size := by omega
  have hB7 : Below w.heap.size w w7 := below_seq (by repeat (first | exact hB6 | exact Below.refl _ _ | refine balloc ?_ _ | refine Below.drew ?_ | refine below_drewN ?_ _ | refine below_set ?_ (by first | omega | (dsimp only; omega)) _)) hb
  clear hb
  have m7_0_0 : w7.cell? ⟨w1.heap.size, 0, none⟩ = some (.int .i64 J.x) := by go_simp
  have m7_0_1 : w7.cell? ⟨w1.heap.size, 1, none⟩ = some (.int .i64 J.y) := by go_simp
  have m7_0_2 : w7.cell? ⟨w1.heap.size, 2, none⟩ = some (.bool J.far) := by go_simp
  clear m6_0_0 m6_0_1 m6_0_2
  clear hc7
  go_wp2_with fail
  refine (error_nil 0 _ true rfl).mono ?_; rintro e w8 ⟨rfl, hb⟩
  obtain ⟨hc8, hf8⟩ := bcell hb
  have z8 := hb.size
  try simp only [World.size_alloc, World.size_setCell, World.size_drew] at z8
  have s8_0 : w1.heap.size < w8.heap.size := by omega
  have s8_1 : w7.heap.size < w8.heap.size := by omega
  have hB8 : Below w.heap.size w w8 := below_seq (by repeat (first | exact hB7 | exact Below.refl _ _ | refine balloc ?_ _ | refine Below.drew ?_ | refine below_drewN ?_ _ | refine below_set ?_ (by first | omega | (dsimp only; omega)) _)) hb
  clear hb
  have m8_0_0 : w8.cell? ⟨w1.heap.size, 0, none⟩ = some (.int .i64 J.x) := by go_simp
  have m8_0_1 : w8.cell? ⟨w1.heap.size, 1, none⟩ = some (.int .i64 J.y) := by go_simp
  have m8_0_2 : w8.cell? ⟨w1.heap.size, 2, none⟩ = some (.bool J.far) := by go_simp
  have m8_1_0 : w8.cell? ⟨w7.heap.size, 0, none⟩ = some (.int .i64 J.x) := by go_simp
  have m8_1_1 : w8.cell? ⟨w7.heap.size, 1, none⟩ = some (.int .i64 J.y) := by go_simp
  have m8_1_2 : w8.cell? ⟨w7.heap.size, 2, none⟩ = some (.bool J.far) := by go_simp
  clear m7_0_0 m7_0_1 m7_0_2
  clear hc8
  go_wp2_with fail
  refine (hG.out _ (by repeat (first | exact hB8 | exact Below.refl _ _ | refine balloc ?_ _ | refine Below.drew ?_ | refine below_drewN ?_ _ | refine below_set ?_ (by first | omega | (dsimp only; omega)) _))).mono ?_; rintro e w9 ⟨rfl, hb⟩
  obtain ⟨hc9, hf9⟩ := bcell hb
  have z9 := hb.size
  try simp only [World.size_alloc, World.size_setCell, World.size_drew] at z9
  have s9_0 : w1.heap.size < w9.heap.size := by omega
  have s9_1 : w7.heap.size < w9.heap.size := by omega
  have hB9 : Below w.heap.size w w9 := below_seq (by repeat (first | exact hB8 | exact Below.refl _ _ | refine balloc ?_ _ | refine Below.drew ?_ | refine below_drewN ?_ _ | refine below_set ?_ (by first | omega | (dsimp only; omega)) _)) hb
  clear hb
  have m9_0_0 : w9.cell? ⟨w1.heap.size, 0, none⟩ = some (.int .i64 J.x) := by go_simp
  have m9_0_1 : w9.cell? ⟨w1.heap.size, 1, none⟩ = some (.int .i64 J.y) := by go_simp
  have m9_0_2 : w9.cell? ⟨w1.heap.size, 2, none⟩ = some (.bool J.far) := by go_simp
  have m9_1_0 : w9.cell? ⟨w7.heap.size, 0, none⟩ = some (.int .i64 J.x) := by go_simp
  have m9_1_1 : w9.cell? ⟨w7.heap.size, 1, none⟩ = some (.int .i64 J.y) := by go_simp
  have m9_1_2 : w9.cell? ⟨w7.heap.size, 2, none⟩ = some (.bool J.far) := by go_simp
  clear m8_0_0 m8_0_1 m8_0_2 m8_1_0 m8_1_1 m8_1_2
  clear hc9
  go_upto_if 59 with fail
  go_cut [9] (fun s9 wx => s9 = .int .i64 G ∧ Below w.heap.size w wx ∧ w1.heap.size < wx.heap.size ∧ w7.heap.size < wx.heap.size ∧ w9.heap.size < wx.heap.size ∧ wx.cell? ⟨w9.heap.size, 0, none⟩ = some (.int .i64 R.x) ∧ wx.cell? ⟨w9.heap.size, 1, none⟩ = some (.int .i64 R.y) ∧ wx.cell? ⟨w9.heap.size, 2, none⟩ = some (.bool R.far) ∧ wx.cell? ⟨w9.heap.size, 3, none⟩ = some (.int .i64 S) ∧ wx.frozen? ⟨w9.heap.size, 0, none⟩ = false ∧ wx.frozen? ⟨w9.heap.size, 1, none⟩ = false ∧ wx.frozen? ⟨w9.heap.size, 2, none⟩ = false ∧ wx.frozen? ⟨w9.heap.size, 3, none⟩ = false)
  case first =>
    rcases h5.out with ⟨e1, e2⟩ | ⟨e1, e2, e3⟩
    · subst e1
      replace e2 := Lib.hid e2
      clear h5
      go_wp2_with fail
      refine (e2.out _ (by repeat (first | exact hB9 | exact Below.refl _ _ | refine balloc ?_ _ | refine Below.drew ?_ | refine below_drewN ?_ _ | refine below_set ?_ (by first | omega | (dsimp only; omega)) _))).mono ?_; rintro e w10 ⟨rfl, hb⟩
      obtain ⟨hc10, hf10⟩ := bcell hb
      have z10 := hb.size
      try simp only [World.size_alloc, World.size_setCell, World.size_drew] at z10
      have s10_0 : w1.heap.size < w10.heap.size := by omega
      have s10_1 : w7.heap.size < w10.heap.size := by omega
      have s10_2 : w9.heap.size < w10.heap.size := by omega
      have hB10 : Below w.heap.size w w10 := below_seq (by repeat (first | exact hB9 | exact Below.refl _ _ | refine balloc ?_ _ | refine Below.drew ?_ | refine below_drewN ?_ _ | refine below_set ?_ (by first | omega | (dsimp only; omega)) _)) hb
      clear hb
      have m10_0_0 : w10.cell? ⟨w9.heap.size, 0, none⟩ = some (.int .i64 0) := by go_simp
      have m10_0_1 : w10.cell? ⟨w9.heap.size, 1, none⟩ = some (.int .i64 0) := by go_simp
      have m10_0_2 : w10.cell? ⟨w9.heap.size, 2, none⟩ = some (.bool false) := by go_simp
      have m10_0_3 : w10.cell? ⟨w9.heap.size, 3, none⟩ = some (.int .i64 0) := by go_simp
      clear m9_0_0 m9_0_1 m9_0_2 m9_1_0 m9_1_1 m9_1_2
      clear hc10
      go_wp2_with fail
      go_meet
      exact ⟨rfl, (by repeat (first | exact hB10 | exact Below.refl _ _ | refine balloc ?_ _ | refine Below.drew ?_ | refine below_drewN ?_ _ | refine below_set ?_ (by first | omega | (dsimp only; omega)) _)), (by first | omega | (simp only [World.size_alloc, World.size_setCell, World.size_drew]; omega)), (by first | omega | (simp only [World.size_alloc, World.size_setCell, World.size_drew]; omega)), (by first | omega | (simp only [World.size_alloc, World.size_setCell, World.size_drew]; omega)), (by go_simp), (by go_simp), (by go_simp), (by go_simp), (by go_simp), (by go_simp), (by go_simp), (by go_simp)⟩
    · subst e2 e3
      clear h5
      go_wp2_with fail
      go_meet
      exact ⟨rfl, (by repeat (first | exact hB9 | exact Below.refl _ _ | refine balloc ?_ _ | refine Below.drew ?_ | refine below_drewN ?_ _ | refine below_set ?_ (by first | omega | (dsimp only; omega)) _)), (by first | omega | (simp only [World.size_alloc, World.size_setCell, World.size_drew]; omega)), (by first | omega | (simp only [World.size_alloc, World.size_setCell, World.size_drew]; omega)), (by first | omega | (simp only [World.size_alloc, World.size_setCell, World.size_drew]; omega)), (by go_simp), (by go_simp), (by go_simp), (by go_simp), (by go_simp), (by go_simp), (by go_simp), (by go_simp)⟩
  case rest =>
    obtain ⟨w10, hwq⟩ : ∃ x, x = wc := ⟨_, rfl⟩
    subst hwq
    obtain ⟨rfl, hB10, s10_0, s10_1, s10_2, m10_0_0, m10_0_1, m10_0_2, m10_0_3, y10_0_0, y10_0_1, y10_0_2, y10_0_3⟩ := hcut
    clear m9_0_0 m9_0_1 m9_0_2 m9_1_0 m9_1_1 m9_1_2
    clear h5
    go_wp2_with fail
    refine (hS.out _ (by repeat (first | exact hB10 | exact Below.refl _ _ | refine balloc ?_ _ | refine Below.drew ?_ | refine below_drewN ?_ _ | refine below_set ?_ (by first | omega | (dsimp only; omega)) _))).mono ?_; rintro e w11 ⟨rfl, hb⟩
    obtain ⟨hc11, hf11⟩ := bcell hb
    have z11 := hb.size
    try simp only [World.size_alloc, World.size_setCell, World.size_drew] at z11
    have s11_0 : w1.heap.size < w11.heap.size := by omega
    have s11_1 : w7.heap.size < w11.heap.size := by omega
    have s11_2 : w9.heap.size < w11.heap.size := by omega
    have hB11 : Below w.heap.size w w11 := below_seq (by repeat (first | exact hB10 | exact Below.refl _ _ | refine balloc ?_ _ | refine Below.drew ?_ | refine below_drewN ?_ _ | refine below_set ?_ (by first | omega | (dsimp only; omega)) _)) hb
    clear hb
    have m11_0_0 : w11.cell? ⟨w9.heap.size, 0, none⟩ = some (.int .i64 R.x) := by go_simp
    have m11_0_1 : w11.cell? ⟨w9.heap.size, 1, none⟩ = some (.int .i64 R.y) := by go_simp
    have m11_0_2 : w11.cell? ⟨w9.heap.size, 2, none⟩ = some (.bool R.far) := by go_simp
    have m11_0_3 : w11.cell? ⟨w9.heap.size, 3, none⟩ = some (.int .i64 S) := by go_simp
    clear m10_0_0 m10_0_1 m10_0_2 m10_0_3
    clear hc11
    go_wp2_with fail
    refine (error_same (errV G) G _ (hE.below (by repeat (first | exact hB11 | exact Below.refl _ _ | refine balloc ?_ _ | refine Below.drew ?_ | refine below_drewN ?_ _ | refine below_set ?_ (by first | omega | (dsimp only; omega)) _))) (Lib.hid rfl)).mono ?_; rintro e w12 ⟨rfl, hb⟩
    obtain ⟨hc12, hf12⟩ := bcell hb
    have z12 := hb.size
    try simp only [World.size_alloc, World.size_setCell, World.size_drew] at z12
    have s12_0 : w1.heap.size < w12.heap.size := by omega
    have s12_1 : w7.heap.size < w12.heap.size := by omega
    have s12_2 : w9.heap.size < w12.heap.size := by omega
    have s12_3 : w11.heap.size < w12.heap.size := by omega
    have hB12 : Below w.heap.size w w12 := below_seq (by repeat (first | exact hB11 | exact Below.refl _ _ | refine balloc ?_ _ | refine Below.drew ?_ | refine below_drewN ?_ _ | refine below_set ?_ (by first | omega | (dsimp only; omega)) _)) hb
    clear hb
    have m12_0_0 : w12.cell? ⟨w9.heap.size, 0, none⟩ = some (.int .i64 R.x) := by go_simp
    have m12_0_1 : w12.cell? ⟨w9.heap.size, 1, none⟩ = some (.int .i64 R.y) := by go_simp
    have m12_0_2 : w12.cell? ⟨w9.heap.size, 2, none⟩ = some (.bool R.far) := by go_simp
    have m12_0_3 : w12.cell? ⟨w9.heap.size, 3, none⟩ = some (.int .i64 S) := by go_simp
    have m12_1_0 : w12.cell? ⟨w11.heap.size, 0, none⟩ = some (.int .i64 R.x) := by go_simp
    have m12_1_1 : w12.cell? ⟨w11.heap.size, 1, none⟩ = some (.int .i64 R.y) := by go_simp
    have m12_1_2 : w12.cell? ⟨w11.heap.size, 2, none⟩ = some (.bool R.far) := by go_simp
    have m12_1_3 : w12.cell? ⟨w11.heap.size, 3, none⟩ = some (.int .i64 S) := by go_simp
    clear m11_0_0 m11_0_1 m11_0_2 m11_0_3
    clear hc12
    go_wp2
    go_ret
    exact ⟨rfl, (by repeat (first | exact hB12 | exact Below.refl _ _ | refine balloc ?_ _ | refine Below.drew ?_ | refine below_drewN ?_ _ | refine below_set ?_ (by first | omega | (dsimp only; omega)) _))⟩
set_option maxHeartbeats 16000000 in
theorem gt_n (v0 v1 v2 : Value) (t : ByteArray) (w : World) (hF : FarAt w) (hE : ErrAt w) (E : Int) (hE0 : (E == 0) = false)
    (kP : Hid (GtAt w 44 v0 (.int .i64 E)))
    (kC : Hid (GtAt w 47 v0 (.tuple #[.slice none 0 0, .iface 125 (.int .i64 E)]))) (kK : Hid (GtAt w 48 v0 (.tuple #[spV ⟨0, 0, false⟩, .iface 125 (.int .i64 E)])))
    (G S : Int) (R : Sp) (hG : Hid (GtAt3 w 49 v1 v2 (.string t) (.int .i64 G)))
    (h5 : Hid ((G = 0 ∧ GtAt3 w 50 v1 v2 (.string t) (slV R S)) ∨ ((G == 0) = false ∧ R = ⟨0, 0, false⟩ ∧ S = 0)))
    (hS : Hid (GtAt3 w 51 v1 v2 (.string t) (.tuple #[slV R S, errV G]))) :
    Calls Tryd.prog 8 #[v0, v1, v2, .string t] w fun e w' => e = .returned (.bool true) ∧ Below w.heap.size w w' := by
  go_enter Tryd.func8, Tryd.ntmps8
  go_wp2_with fail
  refine (kP.out _ (by repeat (first | exact Below.refl _ _ | refine balloc ?_ _ | refine Below.drew ?_ | refine below_drewN ?_ _ | refine below_set ?_ (by first | omega | (dsimp only; omega)) _))).mono ?_; rintro e w1 ⟨rfl, hb⟩
  obtain ⟨hc1, hf1⟩ := bcell hb
  have z1 := hb.size
  try simp only [World.size_alloc, World.size_setCell, World.size_drew] at z1
  have hB1 : Below w.heap.size w w1 := below_seq (by repeat (first | exact Below.refl _ _ | refine balloc ?_ _ | refine Below.drew ?_ | refine below_drewN ?_ _ | refine below_set ?_ (by first | omega | (dsimp only; omega)) _)) hb
  clear hb
  go_wp2_with fail
  refine (kC.out _ (by repeat (first | exact hB1 | exact Below.refl _ _ | refine balloc ?_ _ | refine Below.drew ?_ | refine below_drewN ?_ _ | refine below_set ?_ (by first | omega | (dsimp only; omega)) _))).mono ?_; rintro e w2 ⟨rfl, hb⟩
  obtain ⟨hc2, hf2⟩ := bcell hb
  have z2 := hb.size
  try simp only [World.size_alloc, World.size_setCell, World.size_drew] at z2
  have s2_0 : w1.heap.size < w2.heap.size := by omega
  have hB2 : Below w.heap.size w w2 := below_seq (by repeat (first | exact hB1 | exact Below.refl _ _ | refine balloc ?_ _ | refine Below.drew ?_ | refine below_drewN ?_ _ | refine below_set ?_ (by first | omega | (dsimp only; omega)) _)) hb
  clear hb
  have m2_0_0 : w2.cell? ⟨w1.heap.size, 0, none⟩ = some (.int .i64 0) := by go_simp
  have m2_0_1 : w2.cell? ⟨w1.heap.size, 1, none⟩ = some (.int .i64 0) := by go_simp
  have m2_0_2 : w2.cell? ⟨w1.heap.size, 2, none⟩ = some (.bool false) := by go_simp
  clear hc2
  go_wp2_with fail
  refine (error_err E E _ (hE.below (by repeat (first | exact hB2 | exact Below.refl _ _ | refine balloc ?_ _ | refine Below.drew ?_ | refine below_drewN ?_ _ | refine below_set ?_ (by first | omega | (dsimp only; omega)) _))) true (Lib.hid (by simp))).mono ?_; rintro e w3 ⟨rfl, hb⟩
  obtain ⟨hc3, hf3⟩ := bcell hb
  have z3 := hb.size
  try simp only [World.size_alloc, World.size_setCell, World.size_drew] at z3
  have s3_0 : w1.heap.size < w3.heap.size := by omega
  have hB3 : Below w.heap.size w w3 := below_seq (by repeat (first | exact hB2 | exact Below.refl _ _ | refine balloc ?_ _ | refine Below.drew ?_ | refine below_drewN ?_ _ | refine below_set ?_ (by first | omega | (dsimp only; omega)) _)) hb
  clear hb
  have m3_0_0 : w3.cell? ⟨w1.heap.size, 0, none⟩ = some (.int .i64 0) := by go_simp
  have m3_0_1 : w3.cell? ⟨w1.heap.size, 1, none⟩ = some (.int .i64 0) := by go_simp
  have m3_0_2 : w3.cell? ⟨w1.heap.size, 2, none⟩ = some (.bool false) := by go_simp
  clear m2_0_0 m2_0_1 m2_0_2
  clear hc3
  go_wp2_with fail
  refine (ints_same [] _ _ _ (by simp) (IntSl.none0 _) (IntSl.none0 _)).mono ?_; rintro e w4 ⟨rfl, hb⟩
  obtain ⟨hc4, hf4⟩ := bcell hb
  have z4 := hb.size
  try simp only [World.size_alloc, World.size_setCell, World.size_drew] at z4
  have s4_0 : w1.heap.size < w4.heap.size := by omega
  have hB4 : Below w.heap.size w w4 := below_seq (by repeat (first | exact hB3 | exact Below.refl _ _ | refine balloc ?_ _ | refine Below.drew ?_ | refine below_drewN ?_ _ | refine below_set ?_ (by first | omega | (dsimp only; omega)) _)) hb
  clear hb
  have m4_0_0 : w4.cell? ⟨w1.heap.size, 0, none⟩ = some (.int .i64 0) := by go_simp
  have m4_0_1 : w4.cell? ⟨w1.heap.size, 1, none⟩ = some (.int .i64 0) := by go_simp
  have m4_0_2 : w4.cell? ⟨w1.heap.size, 2, none⟩ = some (.bool false) := by go_simp
  clear m3_0_0 m3_0_1 m3_0_2
  clear hc4
  go_wp2_with fail
  refine (kK.out _ (by repeat (first | exact hB4 | exact Below.refl _ _ | refine balloc ?_ _ | refine Below.drew ?_ | refine below_drewN ?_ _ | refine below_set ?_ (by first | omega | (dsimp only; omega)) _))).mono ?_; rintro e w5 ⟨rfl, hb⟩
  obtain ⟨hc5, hf5⟩ := bcell hb
  have z5 := hb.size
  try simp only [World.size_alloc, World.size_setCell, World.size_drew] at z5
  have s5_0 : w1.heap.size < w5.heap.size := by omega
  have hB5 : Below w.heap.size w w5 := below_seq (by repeat (first | exact hB4 | exact Below.refl _ _ | refine balloc ?_ _ | refine Below.drew ?_ | refine below_drewN ?_ _ | refine below_set ?_ (by first | omega | (dsimp only; omega)) _)) hb
  clear hb
  have m5_0_0 : w5.cell? ⟨w1.heap.size, 0, none⟩ = some (.int .i64 0) := by go_simp
  have m5_0_1 : w5.cell? ⟨w1.heap.size, 1, none⟩ = some (.int .i64 0) := by go_simp
  have m5_0_2 : w5.cell? ⟨w1.heap.size, 2, none⟩ = some (.bool false) := by go_simp
  clear m4_0_0 m4_0_1 m4_0_2
  clear hc5
  go_wp2_with fail
  refine (error_err E E _ (hE.below (by repeat (first | exact hB5 | exact Below.refl _ _ | refine balloc ?_ _ | refine Below.drew ?_ | refine below_drewN ?_ _ | refine below_set ?_ (by first | omega | (dsimp only; omega)) _))) true (Lib.hid (by simp))).mono ?_; rintro e w6 ⟨rfl, hb⟩
  obtain ⟨hc6, hf6⟩ := bcell hb
  have z6 := hb.size
  try simp only [World.size_alloc, World.size_setCell, World.size_drew] at z6
  have s6_0 : w1.heap.size < w6.heap.size := by omega
  have s6_1 : w5.heap.size < w6.heap.size := by omega
  have hB6 : Below w.heap.size w w6 := below_seq (by repeat (first | exact hB5 | exact Below.refl _ _ | refine balloc ?_ _ | refine Below.drew ?_ | refine below_drewN ?_ _ | refine below_set ?_ (by first | omega | (dsimp only; omega)) _)) hb
  clear hb
  have m6_0_0 : w6.cell? ⟨w1.heap.size, 0, none⟩ = some (.int .i64 0) := by go_simp
  have m6_0_1 : w6.cell? ⟨w1.heap.size, 1, none⟩ = some (.int .i64 0) := by go_simp
  have m6_0_2 : w6.cell? ⟨w1.heap.size, 2, none⟩ = some (.bool false) := by go_simp
  have m6_1_0 : w6.cell? ⟨w5.heap.size, 0, none⟩ = some (.int .i64 0) := by go_simp
  have m6_1_1 : w6.cell? ⟨w5.heap.size, 1, none⟩ = some (.int .i64 0) := by go_simp
  have m6_1_2 : w6.cell? ⟨w5.heap.size, 2, none⟩ = some (.bool false) := by go_simp
  clear m5_0_0 m5_0_1 m5_0_2
  clear hc6
  go_wp2_with fail
  refine (hG.out _ (by repeat (first | exact hB6 | exact Below.refl _ _ | refine balloc ?_ _ | refine Below.drew ?_ | refine below_drewN ?_ _ | refine below_set ?_ (by first | omega | (dsimp only; omega)) _))).mono ?_; rintro e w7 ⟨rfl, hb⟩
  obtain ⟨hc7, hf7⟩ := bcell hb
  have z7 := hb.size
  try simp only [World.size_alloc, World.size_setCell, World.size_drew] at z7
  have s7_0 : w1.heap.size < w7.heap.size := by omega
  have s7_1 : w5.heap.size < w7.heap.size := by omega
  have hB7 : Below w.heap.size w w7 := below_seq (by repeat (first | exact hB6 | exact Below.refl _ _ | refine balloc ?_ _ | refine Below.drew ?_ | refine below_drewN ?_ _ | refine below_set ?_ (by first | omega | (dsimp only; omega)) _)) hb
  clear hb
  have m7_0_0 : w7.cell? ⟨w1.heap.size, 0, none⟩ = some (.int .i64 0) := by go_simp
  have m7_0_1 : w7.cell? ⟨w1.heap.size, 1, none⟩ = some (.int .i64 0) := by go_simp
  have m7_0_2 : w7.cell? ⟨w1.heap.size, 2, none⟩ = some (.bool false) := by go_simp
  have m7_1_0 : w7.cell? ⟨w5.heap.size, 0, none⟩ = some (.int .i64 0) := by go_simp
  have m7_1_1 : w7.cell? ⟨w5.heap.size, 1, none⟩ = some (.int .i64 0) := by go_simp
  have m7_1_2 : w7.cell? ⟨w5.heap.size, 2, none⟩ = some (.bool false) := by go_simp
  clear m6_0_0 m6_0_1 m6_0_2 m6_1_0 m6_1_1 m6_1_2
  clear hc7
  go_upto_if 59 with fail
  go_cut [9] (fun s9 wx => s9 = .int .i64 G ∧ Below w.heap.size w wx ∧ w1.heap.size < wx.heap.size ∧ w5.heap.size < wx.heap.size ∧ w7.heap.size < wx.heap.size ∧ wx.cell? ⟨w7.heap.size, 0, none⟩ = some (.int .i64 R.x) ∧ wx.cell? ⟨w7.heap.size, 1, none⟩ = some (.int .i64 R.y) ∧ wx.cell? ⟨w7.heap.size, 2, none⟩ = some (.bool R.far) ∧ wx.cell? ⟨w7.heap.size, 3, none⟩ = some (.int .i64 S) ∧ wx.frozen? ⟨w7.heap.size, 0, none⟩ = false ∧ wx.frozen? ⟨w7.heap.size, 1, none⟩ = false ∧ wx.frozen? ⟨w7.heap.size, 2, none⟩ = false ∧ wx.frozen? ⟨w7.heap.size, 3, none⟩ = false)
  case first =>
    rcases h5.out with ⟨e1, e2⟩ | ⟨e1, e2, e3⟩
    · subst e1
      replace e2 := Lib.hid e2
      clear h5
      go_wp2_with fail
      refine (e2.out _ (by repeat (first | exact hB7 | exact Below.refl _ _ | refine balloc ?_ _ | refine Below.drew ?_ | refine below_drewN ?_ _ | refine below_set ?_ (by first | omega | (dsimp only; omega)) _))).mono ?_; rintro e w8 ⟨rfl, hb⟩
      obtain ⟨hc8, hf8⟩ := bcell hb
      have z8 := hb.size
      try simp only [World.size_alloc, World.size_setCell, World.size_drew] at z8
      have s8_0 : w1.heap.size < w8.heap.size := by omega
      have s8_1 : w5.heap.size < w8.heap.size := by omega
      have s8_2 : w7.heap.size < w8.heap.size := by omega
      have hB8 : Below w.heap.size w w8 := below_seq (by repeat (first | exact hB7 | exact Below.refl _ _ | refine balloc ?_ _ | refine Below.drew ?_ | refine below_drewN ?_ _ | refine below_set ?_ (by first | omega | (dsimp only; omega)) _)) hb
      clear hb
      have m8_0_0 : w8.cell? ⟨w7.heap.size, 0, none⟩ = some (.int .i64 0) := by go_simp
      have m8_0_1 : w8.cell? ⟨w7.heap.size, 1, none⟩ = some (.int .i64 0) := by go_simp
      have m8_0_2 : w8.cell? ⟨w7.heap.size, 2, none⟩ = some (.bool false) := by go_simp
      have m8_0_3 : w8.cell? ⟨w7.heap.size, 3, none⟩ = some (.int .i64 0) := by go_simp
      clear m7_0_0 m7_0_1 m7_0_2 m7_1_0 m7_1_1 m7_1_2
      clear hc8
      go_wp2_with fail
      go_meet
      exact ⟨rfl, (by repeat (first | exact hB8 | exact Below.refl _ _ | refine balloc ?_ _ | refine Below.drew ?_ | refine below_drewN ?_ _ | refine below_set ?_ (by first | omega | (dsimp only; omega)) _)), (by first | omega | (simp only [World.size_alloc, World.size_setCell, World.size_drew]; omega)), (by first | omega | (simp only [World.size_alloc, World.size_setCell, World.size_drew]; omega)), (by first | omega | (simp only [World.size_alloc, World.size_setCell, World.size_drew]; omega)), (by go_simp), (by go_simp), (by go_simp), (by go_simp), (by go_simp), (by go_simp), (by go_simp), (by go_simp)⟩
    · subst e2 e3
      clear h5
      go_wp2_with fail
      go_meet
      exact ⟨rfl, (by repeat (first | exact hB7 | exact Below.refl _ _ | refine balloc ?_ _ | refine Below.drew ?_ | refine below_drewN ?_ _ | refine below_set ?_ (by first | omega | (dsimp only; omega)) _)), (by first | omega | (simp only [World.size_alloc, World.size_setCell, World.size_drew]; omega)), (by first | omega | (simp only [World.size_alloc, World.size_setCell, World.size_drew]; omega)), (by first | omega | (simp only [World.size_alloc, World.size_setCell, World.size_drew]; omega)), (by go_simp), (by go_simp), (by go_simp), (by go_simp), (by go_simp), (by go_simp), (by go_simp), (by go_simp)⟩
  case rest =>
    obtain ⟨w8, hwq⟩ : ∃ x, x = wc := ⟨_, rfl⟩
    subst hwq
    obtain ⟨rfl, hB8, s8_0, s8_1, s8_2, m8_0_0, m8_0_1, m8_0_2, m8_0_3, y8_0_0, y8_0_1, y8_0_2, y8_0_3⟩ := hcut
    clear m7_0_0 m7_0_1 m7_0_2 m7_1_0 m7_1_1 m7_1_2
    clear h5
    go_wp2_with fail
    refine (hS.out _ (by repeat (first | exact hB8 | exact Below.refl _ _ | refine balloc ?_ _ | refine Below.drew ?_ | refine below_drewN ?_ _ | refine below_set ?_ (by first | omega | (dsimp only; omega)) _))).mono ?_; rintro e w9 ⟨rfl, hb⟩
    obtain ⟨hc9, hf9⟩ := bcell hb
    have z9 := hb.size
    try simp only [World.size_alloc, World.size_setCell, World.size_drew] at z9
    have s9_0 : w1.heap.size < w9.heap.size := by omega
    have s9_1 : w5.heap.size < w9.heap.size := by omega
    have s9_2 : w7.heap.size < w9.heap.size := by omega
    have hB9 : Below w.heap.size w w9 := below_seq (by repeat (first | exact hB8 | exact Below.refl _ _ | refine balloc ?_ _ | refine Below.drew ?_ | refine below_drewN ?_ _ | refine below_set ?_ (by first | omega | (dsimp only; omega)) _)) hb
    clear hb
    have m9_0_0 : w9.cell? ⟨w7.heap.size, 0, none⟩ = some (.int .i64 R.x) := by go_simp
    have m9_0_1 : w9.cell? ⟨w7.heap.size, 1, none⟩ = some (.int .i64 R.y) := by go_simp
    have m9_0_2 : w9.cell? ⟨w7.heap.size, 2, none⟩ = some (.bool R.far) := by go_simp
    have m9_0_3 : w9.cell? ⟨w7.heap.size, 3, none⟩ = some (.int .i64 S) := by go_simp
    clear m8_0_0 m8_0_1 m8_0_2 m8_0_3
    clear hc9
    go_wp2_with fail
    refine (error_same (errV G) G _ (hE.below (by repeat (first | exact hB9 | exact Below.refl _ _ | refine balloc ?_ _ | refine Below.drew ?_ | refine below_drewN ?_ _ | refine below_set ?_ (by first | omega | (dsimp only; omega)) _))) (Lib.hid rfl)).mono ?_; rintro e w10 ⟨rfl, hb⟩
    obtain ⟨hc10, hf10⟩ := bcell hb
    have z10 := hb.size
    try simp only [World.size_alloc, World.size_setCell, World.size_drew] at z10
    have s10_0 : w1.heap.size < w10.heap.size := by omega
    have s10_1 : w5.heap.size < w10.heap.size := by omega
    have s10_2 : w7.heap.size < w10.heap.size := by omega
    have s10_3 : w9.heap.size < w10.heap.size := by omega
    have hB10 : Below w.heap.size w w10 := below_seq (by repeat (first | exact hB9 | exact Below.refl _ _ | refine balloc ?_ _ | refine Below.drew ?_ | refine below_drewN ?_ _ | refine below_set ?_ (by first | omega | (dsimp only; omega)) _)) hb
    clear hb
    have m10_0_0 : w10.cell? ⟨w7.heap.size, 0, none⟩ = some (.int .i64 R.x) := by go_simp
    have m10_0_1 : w10.cell? ⟨w7.heap.size, 1, none⟩ = some (.int .i64 R.y) := by go_simp
    have m10_0_2 : w10.cell? ⟨w7.heap.size, 2, none⟩ = some (.bool R.far) := by go_simp
    have m10_0_3 : w10.cell? ⟨w7.heap.size, 3, none⟩ = some (.int .i64 S) := by go_simp
    have m10_1_0 : w10.cell? ⟨w9.heap.size, 0, none⟩ = some (.int .i64 R.x) := by go_simp
    have m10_1_1 : w10.cell? ⟨w9.heap.size, 1, none⟩ = some (.int .i64 R.y) := by go_simp
    have m10_1_2 : w10.cell? ⟨w9.heap.size, 2, none⟩ = some (.bool R.far) := by go_simp
    have m10_1_3 : w10.cell? ⟨w9.heap.size, 3, none⟩ = some (.int .i64 S) := by go_simp
    clear m9_0_0 m9_0_1 m9_0_2 m9_0_3
    clear hc10
    go_wp2
    go_ret
    exact ⟨rfl, (by repeat (first | exact hB10 | exact Below.refl _ _ | refine balloc ?_ _ | refine Below.drew ?_ | refine below_drewN ?_ _ | refine below_set ?_ (by first | omega | (dsimp only; omega)) _))⟩
theorem gt_keys (w : World) (hF : FarAt w) (v : Value) (hv : SpotsV w v) : (∃ m : Int, (m == 0) = false ∧ GtAt w 44 v (.int .i64 m) ∧ GtAt w 114 v (.tuple #[.string ⟨#[]⟩, .iface 125 (.int .i64 m)])) ∨
    ∃ l : List Sp, l.length ≤ 12 ∧ SpSl w v l ∧ (∀ z ∈ l, Ok z) ∧ GtAt w 44 v (.int .i64 0) := by
  rcases hv with ⟨a, cap, rfl⟩ | ⟨b, off, cap, l, rfl, h1, hm, hs⟩
  · exact .inr ⟨[], by simp, ⟨a, cap, rfl, fun h => absurd h (Nat.lt_irrefl 0)⟩, fun z h => absurd h (by simp), fun w1 _ => refSpots_nil a cap w1⟩
  · by_cases h12 : l.length ≤ 12
    · rcases first_bad l with hok | ⟨k, hk, hok, hbad⟩
      · exact .inr ⟨l, h12, ⟨_, cap, rfl, fun _ => ⟨b, off, rfl, hs⟩⟩, fun z hz => by obtain ⟨i, hi, rfl⟩ := List.getElem_of_mem hz; exact hok i hi,
          fun w1 hb => refSpots_core l b off cap w1 h12 (hs.below hb) l.length (Nat.le_refl _) 0 (fun i hi _ => (ok_iff _).mpr (hok i hi)) (fun h => absurd h (Nat.lt_irrefl _)) (fun _ => rfl)⟩
      · exact .inl ⟨sCheck l[k], by simpa using hbad, fun w1 hb => refSpots_core l b off cap w1 h12 (hs.below hb) k (Nat.le_of_lt hk) _ (fun i hi hik => (ok_iff _).mpr (hok i hi hik)) (fun h => ⟨by simpa using hbad, rfl⟩) (fun e => absurd hk (by omega)),
          fun w1 hb => list_bad l b off cap w1 (hF.below hb) h12 (hs.below hb) k hk hok hbad⟩
    · have hm' : l.length ≤ 9223372036854775807 := by unfold maxLen at hm; omega
      exact .inl ⟨4, rfl, fun w1 _ => refSpots_full l.length _ cap w1 (by omega) hm', fun w1 _ => list_full l.length _ cap w1 (by omega) hm'⟩
theorem all_sq : ∀ l : List Sp, (∀ z ∈ l, Ok z) → ∃ us : List Int, l = us.map sq
  | [], _ => ⟨[], rfl⟩
  | z :: l, h => by
    obtain ⟨us, e⟩ := all_sq l (fun y hy => h y (List.mem_cons_of_mem _ hy))
    obtain ⟨k, -, -, e2⟩ := sq_all (h z List.mem_cons_self)
    exact ⟨k :: us, by rw [e, e2]; rfl⟩
theorem gt_group (xs ks : List Int) (v1 v2 : Value) (t : ByteArray) (w : World) (hF : FarAt w) (h1 : IntSl w v1 xs) (h2 : IntSl w v2 ks) (m1 : xs.length ≤ 9223372036854775807) (m2 : ks.length ≤ 9223372036854775807) (hz : t.size ≤ 140737488351232) :
    ∃ (G S : Int) (R : Sp), GtAt3 w 49 v1 v2 (.string t) (.int .i64 G) ∧ ((G = 0 ∧ GtAt3 w 50 v1 v2 (.string t) (slV R S)) ∨ ((G == 0) = false ∧ R = ⟨0, 0, false⟩ ∧ S = 0)) ∧
      GtAt3 w 51 v1 v2 (.string t) (.tuple #[slV R S, errV G]) := by
  by_cases hE : groupF xs ks t.size = 0
  · refine ⟨0, _, _, fun w1 hb => rgroup_e xs ks v1 v2 t 0 w1 (h1.below hb) (h2.below hb) m1 m2 hz hE, .inl ⟨rfl, fun w1 hb => rgsign_e xs ks v1 v2 t _ _ _ _ _ w1 (h1.below hb) (h2.below hb) hE rfl rfl rfl rfl rfl⟩, fun w1 hb => ?_⟩
    exact gsign_e xs ks v1 v2 t _ _ _ _ _ w1 (hF.below hb) (h1.below hb) (h2.below hb) hz hE rfl rfl rfl rfl rfl
  · refine ⟨_, 0, ⟨0, 0, false⟩, fun w1 hb => rgroup_e xs ks v1 v2 t _ w1 (h1.below hb) (h2.below hb) m1 m2 hz rfl, .inr ⟨by simpa using hE, rfl, rfl⟩, fun w1 hb => ?_⟩
    rw [errV, if_neg hE]
    exact gsign_n xs ks v1 v2 t _ w1 (h1.below hb) (h2.below hb) m1 m2 hz rfl hE
theorem groupTells_law (v0 v1 v2 : Value) (t : ByteArray) (hz : t.size ≤ 140737488351232) (w : World) (o0 : SpotsV w v0) (o1 : IntsV w v1) (o2 : IntsV w v2) (hL : FarAt w ∧ ErrAt w) :
    Calls Tryd.prog 8 #[v0, v1, v2, .string t] w fun e w' => e = .returned (.bool true) ∧ Below w.heap.size w w' := by
  obtain ⟨xs, h1, m1, -⟩ := o1.sl
  obtain ⟨ks, h2, m2, -⟩ := o2.sl
  obtain ⟨G, S, R, g1, g2, g3⟩ := gt_group xs ks v1 v2 t w hL.1 h1 h2 m1 m2 hz
  rcases gt_keys w hL.1 v0 o0 with ⟨m, hm, hp, hl⟩ | ⟨l, h12, hs, hok, hp⟩
  · exact gt_n v0 v1 v2 t w hL.1 hL.2 m hm hp (fun w1 hb => coefs_n v0 m w1 (Lib.hid fun w2 hb2 => hl w2 (below_seq hb hb2))) (fun w1 hb => joint_n v0 m w1 (Lib.hid fun w2 hb2 => hl w2 (below_seq hb hb2))) G S R g1 g2 g3
  · obtain ⟨us, hu⟩ := all_sq l hok
    exact gt_y v0 v1 v2 t w hL.1 hL.2 (cfs l) _ (Lib.hid (by rw [cfs_len]; omega)) hp (fun w1 hb => rcoefs_f l v0 w1 h12 (hs.below hb) hok) (fun w1 hb => rjoint_c us l v0 _ w1 h12 (hs.below hb) hu rfl)
      (fun w1 hb => coefs_c l v0 w1 (hL.1.below hb) h12 (hs.below hb) hok) (fun w1 hb => joint_c us l v0 _ w1 (hL.1.below hb) h12 (hs.below hb) hu rfl) G S R g1 g2 g3
end Go.Proofs.YtnlaofapjldciaaDoor
namespace Go.Proofs.YtnlaofapjldciaaDoor.groupTells
open Go.ChangeShapes Go.WideShapes Go.ChangeAt Go.RowKit
set_option linter.unusedVariables false
theorem typesOk : ([33, 22, 22, 9].all fun t => Tryd.prog.readableRec t && decide (t < Tryd.prog.types.size)) = true := by kernel_rfl
set_option maxRecDepth 100000 in
theorem lifted (os : Os) (started : os.Started) (H : Type) (enc : TypeId × Value → H) :
    ReturnsInHanded {} Tryd.checked os 8 .any (fun w args => (Rows.groupTellsSpec.pre enc Tryd.prog Tryd.f8 [] false w args ∧ laidMetH Tryd.prog farErrLaid w) ∧ sizedMet enc Tryd.prog Tryd.f8 (OpenSpec.ofChange Rows.groupTellsSpec) false w args)
      (Rows.groupTellsSpec.post enc Tryd.prog Tryd.f8 false true false false) := by
  refine returnsInHanded_of_change_and (C := Tryd.checked) (X := fun w _ => laidMetH Tryd.prog farErrLaid w) (fun _ _ _ hh h => h.of_heap hh) Tryd.ownK started (by kernel_rfl) Tryd.func8
    (ChangeSpec.witness_shaped (enc := enc) (C := Tryd.checked) (os := os) (X := fun w _ => laidMetH Tryd.prog farErrLaid w) false (World.doorLaid Tryd.prog 400 os) #[.slice none 0 0, .slice none 0 0, .slice none 0 0, .string ⟨#[]⟩] 8 rfl (World.shaped_of_RefB (by kernel_rfl) (by kernel_rfl)) (by kernel_rfl) (by kernel_rfl) (by kernel_rfl) (farErrLaid_met os _)) ?_
  intro W base args ds gs before hval0 hW hcnd hsz0 hL hholds
  have hval : ∀ (j : Nat) t v, Tryd.f8.params[j]? = some t → args[j]? = some v → Value.okWide Tryd.prog W .any base t v := hval0
  have hW' := hW
  obtain ⟨p, q, hA0, hV, rfl, hfz, hnd⟩ := hW
  have hA : DataW.TrodAll enc Tryd.prog W 0 (fun _ => true) true Tryd.f8.params.toList args.toList ds p := hA0
  obtain ⟨rfl, rfl⟩ := trodVars_none hV
  simp only [List.append_nil] at hW'
  have hlt : ∀ x ∈ p, x.block < W.heap.size := fun x hx => hW'.lt x hx
  have hsz : (DataW.weightsEach Tryd.prog (Tryd.f8.params.toList ++ Rows.groupTellsSpec.plain.varTypes Tryd.prog) (ds ++ [])).all (· ≤ reachBytes) = true := hsz0
  rw [Tryd.params8] at hA hval hsz
  have hK := hA
  obtain ⟨v0, vs0, d0, ds0, p0, q0, hargs, rfl, rfl, h0, r0⟩ := trodAll_cons hA
  obtain ⟨v1, vs1, d1, ds1, p1, q1, rfl, rfl, rfl, h1, r1⟩ := trodAll_cons r0
  obtain ⟨v2, vs2, d2, ds2, p2, q2, rfl, rfl, rfl, h2, r2⟩ := trodAll_cons r1
  obtain ⟨v3, vs3, d3, ds3, p3, q3, rfl, rfl, rfl, h3, r3⟩ := trodAll_cons r2
  obtain ⟨rfl, rfl, rfl⟩ := trodAll_nil r3
  obtain rfl : args = #[v0, v1, v2, v3] := by cases args; simp_all
  have o0 := open_spots Tryd.underlying33 Tryd.underlying24 (by kernel_rfl) (by kernel_rfl) Tryd.underlying3 Tryd.underlying3 Tryd.underlying4 (hval 0 33 v0 rfl rfl) h0
  have o1 := open_intl Tryd.underlying22 Tryd.underlying3 (by kernel_rfl) (hval 1 22 v1 rfl rfl) h1
  have o2 := open_intl Tryd.underlying22 Tryd.underlying3 (by kernel_rfl) (hval 2 22 v2 rfl rfl) h2
  obtain ⟨a3, rfl, rfl, rfl, w3⟩ := ChangeMaps.open_string Tryd.underlying9 (hval 3 9 v3 rfl rfl) h3
  have z3 : a3.size ≤ 140737488351232 := by have := sized_string hsz (j := 3) (t := 9) rfl rfl; simpa [reachBytes] using this
  clear hA0 hval0
  refine (groupTells_law v0 v1 v2 a3 z3 W o0 o1 o2 (farErrLaid_at hL)).mono fun e W' ⟨he, hg⟩ => ?_
  subst he
  exact ⟨_, rfl, post_of_below (pa := _) (pv := []) hW' (fun _ _ _ => (trodAll_cons_mk (shut_bool Tryd.underlying4 _) trodAll_mk0)) (fun sp hsp => trodAll_stays Tryd.laidOutK hg typesOk hK (fun x hx => ⟨hlt x hx, hsp x (by first | exact hx | (simp at hx) | simpa using hx)⟩)) (fun _ _ => rfl) (by simp) hg (ok_one (by kernel_rfl) rfl (okWide_bool_mk Tryd.underlying4 _))⟩

theorem over : Rows.groupTellsRow.holds Tryd.pinned (OpenSpec.ofChange Rows.groupTellsSpec) :=
  OpenClaim.holds_of_wide 8 Tryd.f8 rfl rfl rfl rfl rfl rfl rfl ⟨rfl, rfl, rfl, rfl, rfl⟩ rfl rfl rfl rfl rfl (by kernel_rfl) Tryd.func8 (by show joinedFacts Tryd.prog _ _ _ _ = true; unfold joinedFacts; rw [mayEnterK, liftsFinalK, makeK]; kernel_rfl)
    (of_decide_eq_true (by kernel_rfl)) (by unfold Func.isWrapper; first | (rw [if_pos (by decide +kernel)]; kernel_rfl) | (rw [if_neg (by decide +kernel)]; exact ⟨rfl, rfl⟩))
    (fun os started H enc _ => lifted os started H enc)
theorem card : Rows.GroupTellsCardSaid :=
  Claim7.holds_tied_plain_at .later [] [.data, .handle] true (true, "646e30bca04c75b39ccd751b5f2602370b95678b23583ff78d3ed570f8160344") true
    over (fun _ h => by cases h) (by kernel_rfl) (fun _ h => by cases h) groupTells_row_tie rfl ⟨rfl, rfl⟩ mainIsK rfl
    (fun f fn hf hfn => by
      obtain rfl : f = 8 := Option.some.inj ((show Tryd.prog.funcNamed "pairstone/stonelaw2.GroupTells" = some 8 by kernel_rfl).symm.trans hf) |>.symm
      obtain rfl : fn = Tryd.f8 := (Option.some.inj (Tryd.func8.symm.trans hfn)).symm
      exact ⟨by kernel_rfl, fun j t ht => by
        rw [Tryd.params8] at ht
        have hm : t ∈ ([33, 22, 22, 9] : List TypeId) := by simpa using Array.mem_of_getElem? ht
        have hall : (([33, 22, 22, 9] : List TypeId).all fun u => !Tryd.prog.wantsStandIn u) = true := by kernel_rfl
        exact (show Tryd.prog.wantsStandIn t = false by simpa using List.all_eq_true.1 hall t hm)⟩)
    (by kernel_rfl)
#print axioms card
end Go.Proofs.YtnlaofapjldciaaDoor.groupTells
