/- The statement of RunAnswers: for every input the law returns true, and the arguments read as they did. (its listed variable reads as laid; the card ties it) -/
import Derived.Test.YtjjmelhhalomaaaGreatDoorRows
import Derived.Test.YtjjmelhhalomaaaGreatDoorWv
import Derived.ProofKit
import Derived.LaidMore
import Derived.OpenShut
import Derived.MakeChecks
import Derived.Deep.Strs
import Derived.Test.YtjjmelhhalomaaaGreatDoorM5RunAnswers
import Derived.LaidHandle
import Derived.Test.YtjjmelhhalomaaaGreatDoorMRunAnswers
import Derived.Stop.LaidErr
import Derived.Test.YtjjmelhhalomaaaGreatDoorM4RunAnswers
import Derived.Shelf.Vars
import Derived.HandedShaped
import Derived.Test.YtjjmelhhalomaaaGreatDoorFr
import Derived.SizedLaws
import Derived.Test.YtjjmelhhalomaaaGreatDoorTie
import Derived.Test.YtjjmelhhalomaaaGreatDoorCards
import Derived.SevenTiedAt
namespace Go.Proofs.YtjjmelhhalomaaaGreatDoor
open Go.ChangeShapes Go.WideShapes Go.ChangeAt Go.WideMaps Go.WideElems Go.RowKit
set_option maxRecDepth 100000
abbrev farLaid : List (String × DataW Unit) := [("pairstone/curve.Far", Rows.laid_pairstone_curve_Far)]
theorem gFar : Tryz.prog.globalNamed "pairstone/curve.Far" = some 0 := by kernel_rfl
theorem tFar : (Tryz.prog.globals[0]?).map (·.type) = some 28 := by kernel_rfl
/-- The door's own heap meets the condition. -/
theorem farLaid_met (os : Os) (args : Array Value) : laidMetH Tryz.prog farLaid ((World.doorLaid Tryz.prog 400 os).forCall (fun _ _ => 0) ⟨#[], args, []⟩).memory :=
  laidMetH_of_parts3 (fuel := 8) (laidMet_of_run' 8 (by kernel_rfl) (by kernel_rfl)) (by kernel_rfl) (by kernel_rfl)
theorem lt_of_cell {w : World} {b o : Nat} {v : Value} (h : w.cell? ⟨b, o, none⟩ = some v) : b < w.heap.size := by
  rcases Nat.lt_or_ge b w.heap.size with h1 | h1
  · exact h1
  · simp [World.cell?, Array.getElem?_eq_none h1] at h
theorem farLaid_at {W : World} (h : laidMetH Tryz.prog farLaid W) : FarAt W := by
  rw [MakeChecks.laidMetH_plain _ _ _ (by kernel_rfl)] at h
  obtain ⟨ps, ⟨g0, t0, cs0, f0, p0, q0, hg0, ht0, hv0, hd0, _, _⟩, _, _⟩ := h
  obtain rfl := Option.some.inj (gFar.symm.trans hg0)
  obtain rfl := Option.some.inj (tFar.symm.trans ht0)
  obtain ⟨y0, y1, y2, n, hx, hlen, h0, h1, h2⟩ := Deep.trod_struct3 Tryz.underlying28 hd0
  simp only [Rows.laid_pairstone_curve_Far, Prod.mk.injEq, DataW.agg.injEq, List.cons.injEq, and_true] at hx
  obtain ⟨⟨e0, e1, e2⟩, _⟩ := hx
  obtain ⟨a, c0, rfl, _⟩ := DataW.trod_int Tryz.underlying3 h0
  obtain ⟨b, c1, rfl, _⟩ := DataW.trod_int Tryz.underlying3 h1
  obtain ⟨f, c2, rfl⟩ := DataW.trod_bool Tryz.underlying4 h2
  have k3 : Tryz.prog.cellsOf 28 = 3 := by kernel_rfl
  have ki : Tryz.prog.cellsOf 3 = 1 := by kernel_rfl
  have kb : Tryz.prog.cellsOf 4 = 1 := by kernel_rfl
  obtain ⟨l⟩ := cs0
  have h3 : l.length = 3 := by simpa using hlen.trans k3
  match l, h3 with
  | [x, y, z], _ =>
    simp [ki, kb] at c0 c1 c2
    subst c0 c1 c2
    have v0 := World.var?_cell hg0 hv0 0
    have v1 := World.var?_cell hg0 hv0 1
    have v2 := World.var?_cell hg0 hv0 2
    simp at e0 e1 e2 v0 v1 v2
    subst e0 e1 e2
    exact ⟨v0, v1, v2, lt_of_cell v0⟩
end Go.Proofs.YtjjmelhhalomaaaGreatDoor
namespace Go.Proofs.YtjjmelhhalomaaaGreatDoor
open Go.ChangeShapes Go.WideShapes Go.ChangeAt Go.WideMaps Go.WideElems Go.RowKit
set_option maxRecDepth 100000
theorem gErr : Tryz.prog.globalNamed "errors.errorType" = some 2 := by kernel_rfl
theorem cutR : (Tryz.prog.cutTypes.find? (·.1 == "internal/reflectlite.rtype")).map (·.2) = some 184 := by kernel_rfl
theorem rowError : ((List.range Tryz.prog.types.size).filter fun t => Tryz.prog.rowNamed t [101, 114, 114, 111, 114]) = [30] := by kernel_rfl
/-- What the condition on the variable says of its cell. -/
theorem err_of_handles {l : List (String × DataW Unit)} {W : World} (h : handlesMet Tryz.prog l W) (hm : ("errors.errorType", Rows.laid_errors_errorType) ∈ l) : ErrAt W := by
  obtain ⟨name, u, ty, e1, e2, e3, e4, e5⟩ := h _ hm
  have en : name = [101, 114, 114, 111, 114] := (Option.some.inj e1).symm
  subst en
  obtain rfl := Option.some.inj (cutR.symm.trans e2)
  have hm : ty ∈ (List.range Tryz.prog.types.size).filter fun t => Tryz.prog.rowNamed t [101, 114, 114, 111, 114] := List.mem_filter.2 ⟨List.mem_range.2 e3, e4⟩
  rw [rowError] at hm
  obtain rfl := List.mem_singleton.1 hm
  have hh : typeHandle Tryz.prog 30 = .pointer (some ⟨13, 30, none⟩) := by kernel_rfl
  rw [hh] at e5
  have v := World.var?_cell gErr e5 0
  simp at v
  exact ⟨v, lt_of_cell v⟩
abbrev errLaid : List (String × DataW Unit) := [("errors.errorType", Rows.laid_errors_errorType)]
abbrev farErrLaid : List (String × DataW Unit) := [("pairstone/curve.Far", Rows.laid_pairstone_curve_Far), ("errors.errorType", Rows.laid_errors_errorType)]
theorem errLaid_met (os : Os) (args : Array Value) : laidMetH Tryz.prog errLaid ((World.doorLaid Tryz.prog 400 os).forCall (fun _ _ => 0) ⟨#[], args, []⟩).memory :=
  laidMetH_of_parts ⟨[], rfl, List.nodup_nil, fun _ _ h => by cases h⟩ (by kernel_rfl)
theorem farErrLaid_met (os : Os) (args : Array Value) : laidMetH Tryz.prog farErrLaid ((World.doorLaid Tryz.prog 400 os).forCall (fun _ _ => 0) ⟨#[], args, []⟩).memory :=
  laidMetH_of_parts (laidMet_of_run' 8 (by kernel_rfl) (by kernel_rfl)) (by kernel_rfl)
theorem errLaid_at {W : World} (h : laidMetH Tryz.prog errLaid W) : ErrAt W := by
  have h' : laidMet Tryz.prog [] W ∧ handlesMet Tryz.prog errLaid W := h
  exact err_of_handles h'.2 (by simp)
theorem farErrLaid_at {W : World} (h : laidMetH Tryz.prog farErrLaid W) : FarAt W ∧ ErrAt W := by
  have h' : laidMet Tryz.prog farLaid W ∧ handlesMet Tryz.prog errLaid W := h
  exact ⟨farLaid_at (by rw [MakeChecks.laidMetH_plain _ _ _ (by kernel_rfl)]; exact h'.1), err_of_handles h'.2 (by simp)⟩
end Go.Proofs.YtjjmelhhalomaaaGreatDoor
namespace Go.Proofs.YtjjmelhhalomaaaGreatDoor
open Go.ChangeShapes Go.WideShapes Go.ChangeAt Go.WideMaps Go.WideElems Go.RowKit
set_option maxRecDepth 100000
theorem laidMet_head {x : String × DataW Unit} {r : List (String × DataW Unit)} {w : World} (h : laidMet Tryz.prog (x :: r) w) : laidMet Tryz.prog [x] w := by
  obtain ⟨ps, hv, hnd, hrows⟩ := h
  obtain ⟨n, d⟩ := x
  obtain ⟨g, t, cs, fuel, p, q, h1, h2, h3, h4, hq, rfl⟩ := hv
  refine ⟨_, ⟨g, t, cs, fuel, p, [], h1, h2, h3, h4, rfl, rfl⟩, ?_, fun b off hm => hrows b off ?_⟩
  · rw [List.append_nil]; exact List.Nodup.sublist (List.sublist_append_left _ _) hnd
  · rw [List.append_nil] at hm; exact List.mem_append_left _ hm
theorem ten_of_head {r : List (String × DataW Unit)} {W : World} (h : laidMet Tryz.prog (("internal/strconv.uint64pow10", Rows.laid_internal_strconv_uint64pow10) :: r) W) : TenAt W := by
  have e : (Rows.laid_internal_strconv_uint64pow10 : DataW Unit) = Lib.tabData .u64 Lib.pow10Tab := by kernel_rfl
  rw [e] at h
  exact Lib.tabIs_of_head (g := 7) (t := 230) (e := 210) (n := 20) (by kernel_rfl) (by kernel_rfl) (by kernel_rfl) (by kernel_rfl) (by kernel_rfl) (by kernel_rfl) h
theorem asc_of_head {r : List (String × DataW Unit)} {W : World} (h : laidMet Tryz.prog (("strings.asciiSpace", Rows.laid_strings_asciiSpace) :: r) W) : AscAt W := by
  have e : (Rows.laid_strings_asciiSpace : DataW Unit) = Lib.tabData .u8 Lib.asciiSpaceTab := by kernel_rfl
  rw [e] at h
  exact Lib.tabIs_of_head (g := 4) (t := 198) (e := 5) (n := 256) (by kernel_rfl) (by kernel_rfl) (by kernel_rfl) (by kernel_rfl) (by kernel_rfl) (by kernel_rfl) h
theorem far_of_head {r : List (String × DataW Unit)} {W : World} (h : laidMet Tryz.prog (("pairstone/curve.Far", Rows.laid_pairstone_curve_Far) :: r) W) : FarAt W :=
  farLaid_at (by rw [MakeChecks.laidMetH_plain _ _ _ (by kernel_rfl)]; exact laidMet_head h)
abbrev topLaid : List (String × DataW Unit) := [("math/bits.deBruijn32tab", Rows.laid_math_bits_deBruijn32tab), ("math/bits.deBruijn64tab", Rows.laid_math_bits_deBruijn64tab), ("internal/strconv.uint64pow10", Rows.laid_internal_strconv_uint64pow10), ("pairstone/curve.Far", Rows.laid_pairstone_curve_Far), ("strconv.ErrRange", Rows.laid_strconv_ErrRange), ("strconv.ErrSyntax", Rows.laid_strconv_ErrSyntax), ("unicode.White_Space", Rows.laid_unicode_White_Space), ("strings.asciiSpace", Rows.laid_strings_asciiSpace)]
abbrev logLaid : List (String × DataW Unit) := [("math/bits.deBruijn32tab", Rows.laid_math_bits_deBruijn32tab), ("math/bits.deBruijn64tab", Rows.laid_math_bits_deBruijn64tab), ("internal/strconv.uint64pow10", Rows.laid_internal_strconv_uint64pow10), ("pairstone/curve.Far", Rows.laid_pairstone_curve_Far), ("errors.errorType", Rows.laid_errors_errorType), ("strconv.ErrRange", Rows.laid_strconv_ErrRange), ("strconv.ErrSyntax", Rows.laid_strconv_ErrSyntax), ("unicode.White_Space", Rows.laid_unicode_White_Space), ("strings.asciiSpace", Rows.laid_strings_asciiSpace)]
theorem topLaid_met (os : Os) (args : Array Value) : laidMetH Tryz.prog topLaid ((World.doorLaid Tryz.prog 400 os).forCall (fun _ _ => 0) ⟨#[], args, []⟩).memory :=
  laidMetH_of_parts (laidMet_of_run' 8 (by kernel_rfl) (by kernel_rfl)) (by kernel_rfl)
theorem logLaid_met (os : Os) (args : Array Value) : laidMetH Tryz.prog logLaid ((World.doorLaid Tryz.prog 400 os).forCall (fun _ _ => 0) ⟨#[], args, []⟩).memory :=
  laidMetH_of_parts (laidMet_of_run' 8 (by kernel_rfl) (by kernel_rfl)) (by kernel_rfl)
theorem top_at {W : World} (h : laidMet Tryz.prog topLaid W) : FarAt W ∧ AscAt W ∧ TenAt W :=
  ⟨far_of_head h.tail.tail.tail, asc_of_head h.tail.tail.tail.tail.tail.tail.tail, ten_of_head h.tail.tail⟩
theorem topLaid_at {W : World} (h : laidMetH Tryz.prog topLaid W) : FarAt W ∧ AscAt W ∧ TenAt W :=
  top_at (by rw [MakeChecks.laidMetH_plain _ _ _ (by kernel_rfl)] at h; exact h)
theorem logLaid_at {W : World} (h : laidMetH Tryz.prog logLaid W) : (FarAt W ∧ AscAt W ∧ TenAt W) ∧ ErrAt W := by
  have h' : laidMet Tryz.prog topLaid W ∧ handlesMet Tryz.prog errLaid W := h
  exact ⟨top_at h'.1, err_of_handles h'.2 (by simp)⟩
end Go.Proofs.YtjjmelhhalomaaaGreatDoor
namespace Go.Proofs.YtjjmelhhalomaaaGreatDoor
open Go.ChangeShapes Go.WideShapes Go.ChangeAt Go.WideMaps Go.WideElems Go.RowKit
set_option maxRecDepth 100000
abbrev runPlain : List (String × DataW Unit) := [("math/bits.deBruijn32tab", Rows.laid_math_bits_deBruijn32tab), ("math/bits.deBruijn64tab", Rows.laid_math_bits_deBruijn64tab), ("internal/strconv.uint64pow10", Rows.laid_internal_strconv_uint64pow10), ("pairstone/curve.Far", Rows.laid_pairstone_curve_Far), ("pairstone/pair.one", Rows.laid_pairstone_pair_one), ("strconv.ErrRange", Rows.laid_strconv_ErrRange), ("strconv.ErrSyntax", Rows.laid_strconv_ErrSyntax), ("pairstone/run.unread", Rows.laid_pairstone_run_unread)]
abbrev runLaid : List (String × DataW Unit) := [("math/bits.deBruijn32tab", Rows.laid_math_bits_deBruijn32tab), ("math/bits.deBruijn64tab", Rows.laid_math_bits_deBruijn64tab), ("internal/strconv.uint64pow10", Rows.laid_internal_strconv_uint64pow10), ("pairstone/curve.Far", Rows.laid_pairstone_curve_Far), ("pairstone/pair.one", Rows.laid_pairstone_pair_one), ("errors.errorType", Rows.laid_errors_errorType), ("strconv.ErrRange", Rows.laid_strconv_ErrRange), ("strconv.ErrSyntax", Rows.laid_strconv_ErrSyntax), ("pairstone/run.unread", Rows.laid_pairstone_run_unread)]
theorem runLaid_met (os : Os) (args : Array Value) : laidMetH Tryz.prog runLaid ((World.doorLaid Tryz.prog 400 os).forCall (fun _ _ => 0) ⟨#[], args, []⟩).memory :=
  laidMetH_of_parts (laidMet_of_run' 8 (by kernel_rfl) (by kernel_rfl)) (by kernel_rfl)
theorem gOneR : Tryz.prog.globalNamed "pairstone/pair.one" = some 6 := by kernel_rfl
theorem tOneR : (Tryz.prog.globals[6]?).map (·.type) = some 116 := by kernel_rfl
theorem one_of_head {r : List (String × DataW Unit)} {W : World} (h : laidMet Tryz.prog (("pairstone/pair.one", Rows.laid_pairstone_pair_one) :: r) W) : OneAt W := by
  obtain ⟨ps, ⟨g1, t1, cs1, f1, p1, q1, hg1, ht1, hv1, hd1, _, _⟩, _, _⟩ := h
  obtain rfl := Option.some.inj (gOneR.symm.trans hg1)
  obtain rfl := Option.some.inj (tOneR.symm.trans ht1)
  obtain ⟨y0, y1, n, hx, hlen, h0, h1⟩ := Go.ChangeShapes.trod_struct2 Tryz.underlying116 hd1
  simp only [Rows.laid_pairstone_pair_one, Prod.mk.injEq, DataW.agg.injEq, List.cons.injEq, and_true] at hx
  obtain ⟨⟨e0, e1⟩, _⟩ := hx
  obtain ⟨a, c0, rfl, _⟩ := DataW.trod_int Tryz.underlying3 h0
  obtain ⟨b, c1, rfl, _⟩ := DataW.trod_int Tryz.underlying3 h1
  have k2 : Tryz.prog.cellsOf 116 = 2 := by kernel_rfl
  have ki : Tryz.prog.cellsOf 3 = 1 := by kernel_rfl
  obtain ⟨l⟩ := cs1
  have h3 : l.length = 2 := by simpa using hlen.trans k2
  match l, h3 with
  | [x, y], _ =>
    simp [ki] at c0 c1
    subst c0 c1
    have v0 := World.var?_cell hg1 hv1 0
    have v1 := World.var?_cell hg1 hv1 1
    simp at e0 e1 v0 v1
    subst e0 e1
    exact ⟨v0, v1, lt_of_cell v0⟩
theorem row_of_name (u : TypeId) (h : Tryz.prog.typeName? 3 u = some "*errors.errorString") : u = 252 := by
  have hs : "*" ++ "errors.errorString" = "*errors.errorString" := by decide
  exact typeName_ptr_named (nm := "errors.errorString") (by rw [hs]; kernel_rfl) (by kernel_rfl) (by decide) u (by rw [hs]; exact h)
theorem rng_of_head {r : List (String × DataW Unit)} {W : World} (h : laidMet Tryz.prog (("strconv.ErrRange", Rows.laid_strconv_ErrRange) :: r) W) : RngAt W := by
  obtain ⟨a, s, hv, -⟩ := laid_sentinel (g := 9) (ti := 30) (tp := 252) (te := 254) (ts := 9) h (by kernel_rfl) (by kernel_rfl) Tryz.underlying30 row_of_name Tryz.underlying252 Tryz.underlying254 rfl rfl Tryz.underlying9 (by kernel_rfl) (by kernel_rfl)
  have v0 := World.var?_cell (g := 9) (by kernel_rfl) hv 0
  simp at v0
  exact ⟨⟨_, _, v0⟩, lt_of_cell v0⟩
theorem syn_of_head {r : List (String × DataW Unit)} {W : World} (h : laidMet Tryz.prog (("strconv.ErrSyntax", Rows.laid_strconv_ErrSyntax) :: r) W) : SynAt W := by
  obtain ⟨a, s, hv, -⟩ := laid_sentinel (g := 8) (ti := 30) (tp := 252) (te := 254) (ts := 9) h (by kernel_rfl) (by kernel_rfl) Tryz.underlying30 row_of_name Tryz.underlying252 Tryz.underlying254 rfl rfl Tryz.underlying9 (by kernel_rfl) (by kernel_rfl)
  have v0 := World.var?_cell (g := 8) (by kernel_rfl) hv 0
  simp at v0
  exact ⟨⟨_, _, v0⟩, lt_of_cell v0⟩
theorem row_of_errno (u : TypeId) (h : Tryz.prog.typeName? 3 u = some "pairstone/api.Errno") : u = 84 := by
  have hu : u < Tryz.prog.types.size := by
    rcases Nat.lt_or_ge u Tryz.prog.types.size with hu | hu
    · exact hu
    · exfalso
      have hlt : ¬ u < Tryz.prog.types.size := Nat.not_lt.2 hu
      unfold Program.typeName? at h
      cases hi : Tryz.prog.info? u with
      | none => simp [hi] at h
      | some i =>
        have hb := Tables.info?_beyond hlt hi
        simp only [hi] at h
        cases hd : i.desc <;> simp only [hd, TypeDesc.tableOnly] at h hb <;> try cases hb
        all_goals try cases h
        rename_i e
        simp only [Option.map_eq_some_iff] at h
        obtain ⟨n', hn', hs⟩ := h
        have h1 := congrArg String.toList hs
        rw [String.toList_append] at h1
        have h2 := congrArg List.head? h1
        revert h2
        simp
  have hall : (List.range Tryz.prog.types.size).all (fun u => Tryz.prog.typeName? 3 u != some "pairstone/api.Errno" || u == 84) = true := by kernel_rfl
  have := List.all_eq_true.1 hall u (List.mem_range.2 hu)
  simpa [h] using this
theorem unr_of_head {r : List (String × DataW Unit)} {W : World} (h : laidMet Tryz.prog (("pairstone/run.unread", Rows.laid_pairstone_run_unread) :: r) W) :
    W.cell? ⟨1, 0, none⟩ = some (.iface 84 (.int .i64 2)) ∧ 1 < W.heap.size := by
  obtain ⟨ps, ⟨g1, t1, cs1, f1, p1, q1, hg1, ht1, hv1, hd1, _, _⟩, _, hrows⟩ := h
  obtain rfl := Option.some.inj ((show Tryz.prog.globalNamed "pairstone/run.unread" = some 1 by kernel_rfl).symm.trans hg1)
  obtain rfl := Option.some.inj ((show (Tryz.prog.globals[1]?).map (·.type) = some 104 by kernel_rfl).symm.trans ht1)
  obtain ⟨y0, n, hx, hlen, h0⟩ := Go.ChangeShapes.trod_struct1 Tryz.underlying104 hd1
  simp only [Rows.laid_pairstone_run_unread, Prod.mk.injEq, DataW.agg.injEq, List.cons.injEq, and_true] at hx
  obtain ⟨e0, e1⟩ := hx
  obtain ⟨d0, pl⟩ := y0
  simp only at e0 e1
  subst e0
  obtain ⟨f2, u, v, hcs, hn, h2⟩ := iface_of_trod Tryz.underlying30 h0
  obtain rfl := row_of_errno u hn
  obtain ⟨a, c0, hx2, _⟩ := DataW.trod_int Tryz.underlying84 h2
  have k1 : Tryz.prog.cellsOf 104 = 1 := by kernel_rfl
  have ki : Tryz.prog.cellsOf 30 = 1 := by kernel_rfl
  obtain ⟨l⟩ := cs1
  have h3 : l.length = 1 := by simpa using hlen.trans k1
  match l, h3 with
  | [x], _ =>
    simp [ki] at hcs
    subst hcs
    have v0 := World.var?_cell hg1 hv1 0
    simp at v0
    have ok := (hrows 1 0 (by simp_all [MemPlace.row])).2 _ _ v0
    have hv : v = .int .i64 a := by
      unfold Value.okWide at ok
      simp only [Tryz.underlying84] at ok
      unfold Cell.okWide at ok
      cases v <;> simp [Value.cells, Cell.ok, Tryz.underlying84] at ok c0
      simp [c0]
    simp only [Prod.mk.injEq, DataW.lit.injEq, Lit.int.injEq, true_and] at hx2
    rw [hv, ← hx2.1] at v0
    exact ⟨v0, lt_of_cell v0⟩
theorem runLaid_at {W : World} (h : laidMetH Tryz.prog runLaid W) (hsh : W.ShapedOpen Tryz.prog) : RunAt W := by
  have h' : laidMet Tryz.prog runPlain W ∧ handlesMet Tryz.prog errLaid W := h
  obtain ⟨h1, h2⟩ := h'
  obtain ⟨m, hm⟩ := cell_of_shapedOpen_int (P := Tryz.prog) (g := 3) (t := 3) (zero := #[.int .i64 0]) hsh (of_decide_eq_true (by kernel_rfl)) (by kernel_rfl) rfl (by kernel_rfl) (by kernel_rfl) Tryz.underlying3
  exact ⟨far_of_head h1.tail.tail.tail, err_of_handles h2 (by simp), one_of_head h1.tail.tail.tail.tail, ten_of_head h1.tail.tail, syn_of_head h1.tail.tail.tail.tail.tail.tail, rng_of_head h1.tail.tail.tail.tail.tail, ⟨⟨m, hm⟩, lt_of_cell hm⟩, unr_of_head h1.tail.tail.tail.tail.tail.tail.tail⟩
/-- The row's wrap: listed variables, and the world's shape. -/
theorem returnsInHanded_shaped_and {H : Type} {enc : TypeId × Value → H} {a : Assume} {C : Checked} {os : Os} {f : FuncId} {fn : Func} {s : ChangeSpec} {conds : List PathCond} {apart fresh handsOn again : Bool} {X : World → Array Value → Prop}
    (hX : ∀ (w w' : World) (args : Array Value), w.heap = w'.heap → X w args → X w' args)
    (own : ownKnob C.prog.godebug = none) (started : os.Started) (noInit : C.prog.inits.idxOf? f = none) (hfn : C.prog.funcs[f]? = some fn)
    (witness : ∃ (w : World) (tape : Tape) (i : Input), w.os = os ∧ (w.forCall tape i).Shaped C.prog ∧ i.vars = [] ∧ Input.okWide C.prog (w.forCall tape i) .any w.heap.size f i ∧
      ((s.pre enc C.prog fn conds apart (w.forCall tape i).memory i.args ∧ X (w.forCall tape i).memory i.args) ∧ sizedMet enc C.prog fn (OpenSpec.ofChange s) apart (w.forCall tape i).memory i.args) ∧ a.holds C.prog (lone (Frame.enter C.prog f i.args .normal) [] (w.forCall tape i)))
    (contract : ∀ (W : World) (base : Nat) (args : Array Value) (ds gs : List (DataW H)) (before : List MemPlace), W.ShapedOpen C.prog →
      (∀ (j : Nat) t v, fn.params[j]? = some t → args[j]? = some v → Value.okWide C.prog W .any base t v) →
      DataW.Whole enc C.prog fn.params.toList s.vars apart W args.toList ds gs before →
      conds.all (PathCond.test C.prog ⟨fn.params.toList, ds, s.plain.varTypes C.prog, gs⟩) = true →
      (DataW.weightsEach C.prog (fn.params.toList ++ s.plain.varTypes C.prog) (ds ++ gs)).all (· ≤ reachBytes) = true → X W args →
      a.holds C.prog (lone (Frame.enter C.prog f args .normal) [] W) →
      Calls C.prog f args W fun e W' => ∃ v, e = .returned v ∧ s.post enc C.prog fn apart fresh handsOn again W args v W') :
    ReturnsInHanded a C os f .any (fun w args => (s.pre enc C.prog fn conds apart w args ∧ X w args) ∧ sizedMet enc C.prog fn (OpenSpec.ofChange s) apart w args) (s.post enc C.prog fn apart fresh handsOn again) := by
  refine returnsInHanded_of_calls own started noInit witness ?_
  intro w tape i _ hsh _ hok hpre hholds
  obtain ⟨_, _, _, fn', hfn', _, _, _, _, hval⟩ := hok
  have e : fn' = fn := Option.some.inj (hfn'.symm.trans hfn)
  subst e
  obtain ⟨⟨⟨ds, gs, before, hw, hc⟩, hx⟩, hz⟩ := hpre
  have hw' := DataW.Whole.of_heap (w' := w.forCall tape i) (by rfl) hw
  refine (contract (w.forCall tape i) w.heap.size i.args ds gs before hsh hval hw' hc (hz.weights hw) (hX _ _ _ (by rfl) hx) hholds).mono fun e W' ⟨v, he, hp⟩ => ?_
  subst he
  exact ChangeSpec.post_blind hp
end Go.Proofs.YtjjmelhhalomaaaGreatDoor
namespace Go.Proofs.YtjjmelhhalomaaaGreatDoor
open Go.RowKit
set_option maxRecDepth 100000
theorem headL : ∃ l : List Char, Tryz.prog.initOrder = String.ofList l ∧ ((behindMainWord (wordsSigns l)).head? = some "cut".toList ∧
    (match wordsSigns l with
      | h :: s :: _ => if !isSumSigns s then none else if h == "harness".toList then some (true, s) else if h == "ownmain".toList then some (false, s) else none
      | _ => none) = some (true, "d14747ce2e7cdd5bce8c9fd338f68f0c21c66e61985c11e026f74a52be8974b7".toList)) := by
  refine ⟨?l, ?h1, ?h2, ?h3⟩
  case h1 =>
    unfold Tryz.prog
    first | rfl | (dsimp only; rfl)
  case h2 => kernel_rfl
  case h3 => kernel_rfl
theorem headCut : ∃ r, behindMainWord (wordsSigns Tryz.prog.initOrder.toList) = "cut".toList :: r := by
  obtain ⟨l, h, hw, -⟩ := headL
  rw [h, String.toList_ofList]
  cases e : behindMainWord (wordsSigns l) with
  | nil => rw [e] at hw; cases hw
  | cons c r => rw [e] at hw; exact ⟨r, by rw [Option.some.inj hw]⟩
theorem mainIsK : Tryz.prog.mainIs = some (true, "d14747ce2e7cdd5bce8c9fd338f68f0c21c66e61985c11e026f74a52be8974b7".toList) := by
  obtain ⟨l, h, -, hm⟩ := headL
  unfold Program.mainIs; rw [h, String.toList_ofList]; exact hm
theorem mayEnterK : Tryz.prog.mayEnter = true := by
  obtain ⟨r, h⟩ := headCut
  unfold Program.mayEnter; rw [h]; kernel_rfl
theorem headLiftsK : Tryz.prog.headLifts = [] := by
  obtain ⟨r, h⟩ := headCut
  unfold Program.headLifts; rw [h]; kernel_rfl
theorem liftsFinalK : Tryz.prog.liftsFinal = false := by
  obtain ⟨r, h⟩ := headCut
  unfold Program.liftsFinal; rw [h, headLiftsK]; kernel_rfl
theorem makeK : Tryz.prog.make = some .cut := by
  obtain ⟨r, h⟩ := headCut
  unfold Program.make; rw [h]; kernel_rfl
end Go.Proofs.YtjjmelhhalomaaaGreatDoor
namespace Go.Proofs.YtjjmelhhalomaaaGreatDoor
open Go.RowKit
set_option maxRecDepth 100000
set_option linter.unusedVariables false
set_option linter.unusedSimpArgs false
attribute [local go_sem ↓] Go.wp_at_zero Go.wp_at_succ
set_option maxHeartbeats 4000000 in
theorem answers_long (t : List UInt8) (w : World) (h : 3000 < t.length) (hz : t.length ≤ 140737488351232) :
    Calls Tryz.prog 3 #[.string (bS t)] w fun e w' => e = .returned (.bool true) ∧ Below w.heap.size w w' := by
  have hz0 := bS_size t
  have kL := Lib.hid (run_long (bS t) w (by rw [hz0]; exact h))
  have e2 : ((bS [116, 111, 111, 32, 108, 111, 110, 103, 10]).toList == [116, 111, 111, 32, 108, 111, 110, 103, 10]) = true := by rw [bS_tl]; rfl
  go_enter Tryz.func3, Tryz.ntmps3
  go_wp2_with fail
  refine kL.out.mono ?_; rintro e w1 ⟨rfl, hb⟩
  have hB1 := Lib.hid hb
  clear hb kL
  go_wp2
  go_ret
  exact ⟨rfl, hB1.out⟩
theorem TxtAt.pre {w : World} {b : Nat} {l : List (List UInt8)} (h : TxtAt w b 0 l) {P : List (List UInt8)} {r : List (List UInt8)} (e : l = P ++ r) : TxtAt w b 0 P := by
  subst e
  refine ⟨h.lt, fun i hi => ?_⟩
  have := h.c i (by rw [List.length_append]; omega)
  rw [List.getElem_append_left hi] at this
  exact this
set_option maxHeartbeats 16000000 in
theorem answers_short (t : List UInt8) (w : World) (hR : RunAt w) (h : t.length ≤ 3000) :
    Calls Tryz.prog 3 #[.string (bS t)] w fun e w' => e = .returned (.bool true) ∧ Below w.heap.size w w' := by
  have hz0 := bS_size t
  have kR := Lib.hid (run_c t w hR h)
  rw [outP_eq] at kR
  have kC : Hid (∀ w1, Calls Tryz.prog 8 #[.string (bS t), .int .u8 10] w1 fun e w' => (∃ b cap, e = .returned (.slice (some ⟨b, 0, none⟩) (cutGo 10 [] t).length cap) ∧ TxtAt w' b 0 (cutGo 10 [] t) ∧ (cutGo 10 [] t).length ≤ cap ∧ cap ≤ 9223372036854775807) ∧ Below w1.heap.size w1 w') := Lib.hid fun w1 => cut_ten t w1 (by omega)
  have hcl := cutGo_len 10 t []
  have hcn := List.length_pos_iff.2 (cutGo_ne 10 t [])
  have hcp := cutGo_part 10 t []
  obtain ⟨P, hP⟩ : ∃ P, partsL t = P := ⟨_, rfl⟩
  rw [hP] at kR
  unfold partsL at hP
  obtain ⟨C, hC⟩ : ∃ C, cutGo 10 [] t = C := ⟨_, rfl⟩
  rw [hC] at kC hcl hcn hcp hP
  have hlast : C.getLast? = some (C[C.length - 1]'(by omega)) := by rw [List.getLast?_eq_getElem?, List.getElem?_eq_getElem (by omega)]
  obtain ⟨L, hL⟩ : ∃ L, C[C.length - 1]'(by omega) = L := ⟨_, rfl⟩
  rw [hlast, hL] at hP
  have hPC : ∃ r, C = P ++ r := by
    split at hP
    · exact ⟨C.drop (C.length - 1), by rw [← hP, List.dropLast_eq_take, List.take_append_drop]⟩
    · exact ⟨[], by rw [← hP, List.append_nil]⟩
  have hPl : P.length = if L = [] then C.length - 1 else C.length := by
    split at hP
    · rename_i h1
      have h2 : L = [] := by simpa using h1
      rw [if_pos h2, ← hP, List.length_dropLast]
    · rename_i h1
      have h2 : ¬ L = [] := by simpa using h1
      rw [if_neg h2, ← hP]
  have hPs : ∀ x ∈ P, x.length ≤ 3000 := fun x hx => by
    obtain ⟨r, e⟩ := hPC
    have := hcp x (by rw [e]; exact List.mem_append_left _ hx)
    simp at this; omega
  obtain ⟨O, hO⟩ : ∃ O, outP P = O := ⟨_, rfl⟩
  rw [hO] at kR
  replace hO := Lib.hid hO
  replace hPs := Lib.hid hPs
  have hF' := Lib.hid hR.F
  have eL : ((bS L).toList == []) = decide (L = []) := by
    rw [bS_tl]
    by_cases h : L = []
    · subst h; rfl
    · rw [beq_eq_false_iff_ne.2 h, decide_eq_false h]
  obtain ⟨E, hE⟩ : ∃ E, decide (L = []) = E := ⟨_, rfl⟩
  rw [hE] at eL
  have hPE : P.length = if E then C.length - 1 else C.length := by
    rw [hPl, ← hE]; by_cases h : L = [] <;> simp [h]
  clear hPl hE
  have hPb := outP_len P
  rw [hO.out] at hPb
  have zO := bS_size O
  clear hcp hC hlast hP hR
  go_enter Tryz.func3, Tryz.ntmps3
  go_wp2_with fail
  refine kR.out.mono ?_; rintro e w1 ⟨rfl, hb⟩
  have hB1 := Lib.hid hb
  clear hb kR
  go_wp2_with fail
  refine (kC.out _).mono ?_; rintro e w2 ⟨⟨b, cap, rfl, hT, h5, h6⟩, hb⟩
  have hB2 := Lib.hid (below_seq hB1.out hb)
  have hF2 := Lib.hid (hF'.out.below hB2.out)
  clear hb kC hF'
  have gl := hT.c (C.length - 1) (by omega)
  rw [Nat.zero_add, hL] at gl
  obtain ⟨r, hr⟩ := hPC
  have hTP := hT.pre hr
  replace hTP := Lib.hid hTP
  clear hT hr
  go_upto_if 23 with fail
  go_cut [4] from 24 to 28 (fun s4 wx => s4 = .slice (some ⟨b, 0, none⟩) P.length cap ∧ wx = w2)
  case first =>
    clear eL
    cases E
    · rw [if_neg (by decide)] at hPE
      replace hPE := Lib.hid hPE
      go_wp2_with fail
      go_meet
      exact ⟨by rw [hPE.out], rfl⟩
    · rw [if_pos rfl] at hPE
      have gC : ((C.length : Int) - 1).toNat = P.length := by omega
      clear hPE
      go_wp2_with fail
      go_meet
      exact ⟨rfl, rfl⟩
  case rest =>
  obtain ⟨rfl, hwx⟩ := hcut
  obtain rfl := hwx.symm
  have hPC : P.length ≤ C.length := by rw [hPE]; split <;> omega
  clear hPE eL gl hL hcn
  go_wp2_with fail
  go_loopw [5, 6, 7] (fun o i _ wr => ∃ j : Nat, j ≤ P.length ∧ i = .int .i64 (j : Int) ∧ o = .string (bS (outP (P.take j))) ∧ Below w2.heap.size w2 wr) (fun _ i _ _ => P.length - (intOf i).toNat)
  case atStart => exact ⟨0, Nat.zero_le _, rfl, rfl, Below.refl _ _⟩
  case round =>
    obtain ⟨j, hj, rfl, rfl, hB⟩ := hrel
    replace hB := Lib.hid hB
    by_cases hlt : j < P.length
    · have hTj := (hTP.out.below hB.out).c j hlt
      rw [Nat.zero_add] at hTj
      have kL := Lib.hid (rline_c P[j] wr (hF2.out.below hB.out) (hPs.out _ (List.getElem_mem hlt)))
      have hq := outP_len (P.take j)
      rw [List.length_take, Nat.min_eq_left hj] at hq
      have hll := lineF_len P[j]
      have hY : outP (P.take (j + 1)) = (outP (P.take j) ++ lineF P[j]) ++ [10] := by rw [List.take_succ_eq_append_getElem hlt, outP_snoc]
      obtain ⟨x, hx⟩ : ∃ x, P[j] = x := ⟨_, rfl⟩
      rw [hx] at hTj kL hll hY
      obtain ⟨X, hX⟩ : ∃ X, outP (P.take j) = X := ⟨_, rfl⟩
      obtain ⟨Z, hZ⟩ : ∃ X, lineF x = X := ⟨_, rfl⟩
      rw [hX, hZ] at hY
      rw [hX] at hq ⊢
      rw [hZ] at kL hll
      obtain ⟨X1, hX1⟩ : ∃ X1, X ++ Z = X1 := ⟨_, rfl⟩
      rw [hX1] at hY
      have zX := bS_size X
      have zZ := bS_size Z
      have zX1 := bS_size X1
      have lX1 : X1.length = X.length + Z.length := by rw [← hX1, List.length_append]
      have e10 : bS X ++ bS Z = bS X1 := by rw [bS_app, hX1]
      obtain ⟨X2, hX2⟩ : ∃ X1', X1 ++ [10] = X1' := ⟨_, rfl⟩
      have e11 : bS X1 ++ (⟨#[10]⟩ : ByteArray) = bS X2 := by rw [← hX2]; exact bS_app X1 [10]
      have y1 : ¬ (9223372036854775807 < (bS X).size + (bS Z).size) := by omega
      have y2 : ¬ (9223372036854775807 < (bS X1).size + 1) := by omega
      replace hY := Lib.hid (hY.trans hX2)
      clear hx hX hZ hX1 hX2
      go_wp2_with fail
      refine kL.out.mono ?_; rintro e w5 ⟨rfl, hb⟩
      have hB5 := Lib.hid (below_seq hB.out hb)
      clear hb kL
      go_wp2_with fail
      exact ⟨⟨j + 1, hlt, rfl, by rw [hY.out], hB5.out⟩, by simp [intOf]; omega⟩
    · obtain rfl : j = P.length := by omega
      rw [List.take_length, hO.out]
      have e9 : ((bS O).toList == (bS O).toList) = true := by simp
      go_wp2_with fail
      go_ret
      exact ⟨rfl, below_seq hB2.out hB.out⟩
/-- For every input. -/
theorem runAnswers_law (s : ByteArray) (hz : s.size ≤ 140737488351232) (W : World) (hR : RunAt W) :
    Calls Tryz.prog 3 #[.string s] W fun e w' => e = .returned (.bool true) ∧ Below W.heap.size W w' := by
  have hl : s.data.toList.length = s.size := by simp only [Array.length_toList]; rfl
  have e := bS_of s
  rw [e]
  by_cases h : 3000 < s.data.toList.length
  · exact answers_long _ W h (by omega)
  · exact answers_short _ W hR (by omega)
end Go.Proofs.YtjjmelhhalomaaaGreatDoor
namespace Go.Proofs.YtjjmelhhalomaaaGreatDoor.runAnswers
open Go.ChangeShapes Go.WideShapes Go.ChangeAt Go.RowKit
set_option linter.unusedVariables false
theorem typesOk : ([9].all fun t => Tryz.prog.readableRec t && decide (t < Tryz.prog.types.size)) = true := by kernel_rfl
set_option maxRecDepth 100000 in
theorem lifted (os : Os) (started : os.Started) (H : Type) (enc : TypeId × Value → H) :
    ReturnsInHanded {} Tryz.checked os 3 .any (fun w args => (Rows.runAnswersSpec.pre enc Tryz.prog Tryz.f3 [] false w args ∧ laidMetH Tryz.prog runLaid w) ∧ sizedMet enc Tryz.prog Tryz.f3 (OpenSpec.ofChange Rows.runAnswersSpec) false w args)
      (Rows.runAnswersSpec.post enc Tryz.prog Tryz.f3 false true false false) := by
  refine returnsInHanded_shaped_and (C := Tryz.checked) (X := fun w _ => laidMetH Tryz.prog runLaid w) (fun _ _ _ hh h => h.of_heap hh) Tryz.ownK started (by kernel_rfl) Tryz.func3
    (ChangeSpec.witness_shaped (enc := enc) (C := Tryz.checked) (os := os) (X := fun w _ => laidMetH Tryz.prog runLaid w) false (World.doorLaid Tryz.prog 400 os) #[.string ⟨#[]⟩] 8 rfl (World.shaped_of_RefB (by kernel_rfl) (by kernel_rfl)) (by kernel_rfl) (by kernel_rfl) (by kernel_rfl) (runLaid_met os _)) ?_
  intro W base args ds gs before hsh hval0 hW hcnd hsz0 hL hholds
  have hval : ∀ (j : Nat) t v, Tryz.f3.params[j]? = some t → args[j]? = some v → Value.okWide Tryz.prog W .any base t v := hval0
  have hW' := hW
  obtain ⟨p, q, hA0, hV, rfl, hfz, hnd⟩ := hW
  have hA : DataW.TrodAll enc Tryz.prog W 0 (fun _ => true) true Tryz.f3.params.toList args.toList ds p := hA0
  obtain ⟨rfl, rfl⟩ := trodVars_none hV
  simp only [List.append_nil] at hW'
  have hlt : ∀ x ∈ p, x.block < W.heap.size := fun x hx => hW'.lt x hx
  have hsz : (DataW.weightsEach Tryz.prog (Tryz.f3.params.toList ++ Rows.runAnswersSpec.plain.varTypes Tryz.prog) (ds ++ [])).all (· ≤ reachBytes) = true := hsz0
  rw [Tryz.params3] at hA hval hsz
  have hK := hA
  obtain ⟨v0, vs0, d0, ds0, p0, q0, hargs, rfl, rfl, h0, r0⟩ := trodAll_cons hA
  obtain ⟨rfl, rfl, rfl⟩ := trodAll_nil r0
  obtain rfl : args = #[v0] := by cases args; simp_all
  obtain ⟨a0, rfl, rfl, rfl, w0⟩ := ChangeMaps.open_string Tryz.underlying9 (hval 0 9 v0 rfl rfl) h0
  have z0 : a0.size ≤ 140737488351232 := by have := sized_string hsz (j := 0) (t := 9) rfl rfl; simpa [reachBytes] using this
  clear hA0 hval0
  refine (runAnswers_law a0 z0 W (runLaid_at hL hsh)).mono fun e W' ⟨he, hg⟩ => ?_
  subst he
  exact ⟨_, rfl, post_of_below (pa := _) (pv := []) hW' (fun _ _ _ => (trodAll_cons_mk (shut_bool Tryz.underlying4 _) trodAll_mk0)) (fun sp hsp => trodAll_stays Tryz.laidOutK hg typesOk hK (fun x hx => ⟨hlt x hx, hsp x (by first | exact hx | (simp at hx) | simpa using hx)⟩)) (fun _ _ => rfl) (by simp) hg (ok_one (by kernel_rfl) rfl (okWide_bool_mk Tryz.underlying4 _))⟩

theorem over : Rows.runAnswersRow.holds Tryz.pinned (OpenSpec.ofChange Rows.runAnswersSpec) :=
  OpenClaim.holds_of_wide 3 Tryz.f3 rfl rfl rfl rfl rfl rfl rfl ⟨rfl, rfl, rfl, rfl, rfl⟩ rfl rfl rfl rfl rfl (by kernel_rfl) Tryz.func3 (by show joinedFacts Tryz.prog _ _ _ _ = true; unfold joinedFacts; rw [mayEnterK, liftsFinalK, makeK]; kernel_rfl)
    (of_decide_eq_true (by kernel_rfl)) (by unfold Func.isWrapper; first | (rw [if_pos (by decide +kernel)]; kernel_rfl) | (rw [if_neg (by decide +kernel)]; exact ⟨rfl, rfl⟩))
    (fun os started H enc _ => lifted os started H enc)
theorem card : Rows.RunAnswersCardSaid :=
  Claim7.holds_tied_plain_at .later [] [.data, .data, .data, .data, .data, .handle, .sentinel, .sentinel, .wider] true (true, "d14747ce2e7cdd5bce8c9fd338f68f0c21c66e61985c11e026f74a52be8974b7") true
    over (fun _ h => by cases h) (by kernel_rfl) (fun _ h => by cases h) runAnswers_row_tie rfl ⟨rfl, rfl⟩ mainIsK rfl
    (fun f fn hf hfn => by
      obtain rfl : f = 3 := Option.some.inj ((show Tryz.prog.funcNamed "pairstone/stonelaw3.RunAnswers" = some 3 by kernel_rfl).symm.trans hf) |>.symm
      obtain rfl : fn = Tryz.f3 := (Option.some.inj (Tryz.func3.symm.trans hfn)).symm
      exact ⟨by kernel_rfl, fun j t ht => by
        rw [Tryz.params3] at ht
        have hm : t ∈ ([9] : List TypeId) := by simpa using Array.mem_of_getElem? ht
        have hall : (([9] : List TypeId).all fun u => !Tryz.prog.wantsStandIn u) = true := by kernel_rfl
        exact (show Tryz.prog.wantsStandIn t = false by simpa using List.all_eq_true.1 hall t hm)⟩)
    (by kernel_rfl)
#print axioms card
end Go.Proofs.YtjjmelhhalomaaaGreatDoor.runAnswers
