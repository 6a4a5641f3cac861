/- The statement of RunPairs: for every input the law returns true, and the arguments read as they did. (its listed variable reads as laid; the card ties it) -/
import Derived.Test.YtjjmelhhalomaaaGreatDoorRows
import Derived.Test.YtjjmelhhalomaaaGreatDoorWv
import Derived.ProofKit
import Derived.LaidMore
import Derived.OpenShut
import Derived.MakeChecks
import Derived.Deep.Strs
import Derived.Test.YtjjmelhhalomaaaGreatDoorM4RunBegins
import Derived.LaidHandle
import Derived.Test.YtjjmelhhalomaaaGreatDoorMRunPairs
import Derived.Stop.LaidErr
import Derived.Test.YtjjmelhhalomaaaGreatDoorM3RunBegins
import Derived.Shelf.Vars
import Derived.HandedShaped
import Derived.Test.YtjjmelhhalomaaaGreatDoorFr
import Derived.Test.YtjjmelhhalomaaaGreatDoorTb
import Derived.BigQuiet
import Derived.SizedLaws
import Derived.Test.YtjjmelhhalomaaaGreatDoorTie
import Derived.Test.YtjjmelhhalomaaaGreatDoorCards
import Derived.SevenTiedAt
namespace Go.Proofs.YtjjmelhhalomaaaGreatDoor
open Go.ChangeShapes Go.WideShapes Go.ChangeAt Go.WideMaps Go.WideElems Go.RowKit
set_option maxRecDepth 100000
abbrev farLaid : List (String × DataW Unit) := [("pairstone/curve.Far", Rows.laid_pairstone_curve_Far)]
theorem gFar : Tryz.prog.globalNamed "pairstone/curve.Far" = some 0 := by kernel_rfl
theorem tFar : (Tryz.prog.globals[0]?).map (·.type) = some 28 := by kernel_rfl
/-- The door's own heap meets the condition. -/
theorem farLaid_met (os : Os) (args : Array Value) : laidMetH Tryz.prog farLaid ((World.doorLaid Tryz.prog 400 os).forCall (fun _ _ => 0) ⟨#[], args, []⟩).memory :=
  laidMetH_of_parts3 (fuel := 8) (laidMet_of_run' 8 (by kernel_rfl) (by kernel_rfl)) (by kernel_rfl) (by kernel_rfl)
theorem lt_of_cell {w : World} {b o : Nat} {v : Value} (h : w.cell? ⟨b, o, none⟩ = some v) : b < w.heap.size := by
  rcases Nat.lt_or_ge b w.heap.size with h1 | h1
  · exact h1
  · simp [World.cell?, Array.getElem?_eq_none h1] at h
theorem farLaid_at {W : World} (h : laidMetH Tryz.prog farLaid W) : FarAt W := by
  rw [MakeChecks.laidMetH_plain _ _ _ (by kernel_rfl)] at h
  obtain ⟨ps, ⟨g0, t0, cs0, f0, p0, q0, hg0, ht0, hv0, hd0, _, _⟩, _, _⟩ := h
  obtain rfl := Option.some.inj (gFar.symm.trans hg0)
  obtain rfl := Option.some.inj (tFar.symm.trans ht0)
  obtain ⟨y0, y1, y2, n, hx, hlen, h0, h1, h2⟩ := Deep.trod_struct3 Tryz.underlying28 hd0
  simp only [Rows.laid_pairstone_curve_Far, Prod.mk.injEq, DataW.agg.injEq, List.cons.injEq, and_true] at hx
  obtain ⟨⟨e0, e1, e2⟩, _⟩ := hx
  obtain ⟨a, c0, rfl, _⟩ := DataW.trod_int Tryz.underlying3 h0
  obtain ⟨b, c1, rfl, _⟩ := DataW.trod_int Tryz.underlying3 h1
  obtain ⟨f, c2, rfl⟩ := DataW.trod_bool Tryz.underlying4 h2
  have k3 : Tryz.prog.cellsOf 28 = 3 := by kernel_rfl
  have ki : Tryz.prog.cellsOf 3 = 1 := by kernel_rfl
  have kb : Tryz.prog.cellsOf 4 = 1 := by kernel_rfl
  obtain ⟨l⟩ := cs0
  have h3 : l.length = 3 := by simpa using hlen.trans k3
  match l, h3 with
  | [x, y, z], _ =>
    simp [ki, kb] at c0 c1 c2
    subst c0 c1 c2
    have v0 := World.var?_cell hg0 hv0 0
    have v1 := World.var?_cell hg0 hv0 1
    have v2 := World.var?_cell hg0 hv0 2
    simp at e0 e1 e2 v0 v1 v2
    subst e0 e1 e2
    exact ⟨v0, v1, v2, lt_of_cell v0⟩
end Go.Proofs.YtjjmelhhalomaaaGreatDoor
namespace Go.Proofs.YtjjmelhhalomaaaGreatDoor
open Go.ChangeShapes Go.WideShapes Go.ChangeAt Go.WideMaps Go.WideElems Go.RowKit
set_option maxRecDepth 100000
theorem gErr : Tryz.prog.globalNamed "errors.errorType" = some 2 := by kernel_rfl
theorem cutR : (Tryz.prog.cutTypes.find? (·.1 == "internal/reflectlite.rtype")).map (·.2) = some 184 := by kernel_rfl
theorem rowError : ((List.range Tryz.prog.types.size).filter fun t => Tryz.prog.rowNamed t [101, 114, 114, 111, 114]) = [30] := by kernel_rfl
/-- What the condition on the variable says of its cell. -/
theorem err_of_handles {l : List (String × DataW Unit)} {W : World} (h : handlesMet Tryz.prog l W) (hm : ("errors.errorType", Rows.laid_errors_errorType) ∈ l) : ErrAt W := by
  obtain ⟨name, u, ty, e1, e2, e3, e4, e5⟩ := h _ hm
  have en : name = [101, 114, 114, 111, 114] := (Option.some.inj e1).symm
  subst en
  obtain rfl := Option.some.inj (cutR.symm.trans e2)
  have hm : ty ∈ (List.range Tryz.prog.types.size).filter fun t => Tryz.prog.rowNamed t [101, 114, 114, 111, 114] := List.mem_filter.2 ⟨List.mem_range.2 e3, e4⟩
  rw [rowError] at hm
  obtain rfl := List.mem_singleton.1 hm
  have hh : typeHandle Tryz.prog 30 = .pointer (some ⟨13, 30, none⟩) := by kernel_rfl
  rw [hh] at e5
  have v := World.var?_cell gErr e5 0
  simp at v
  exact ⟨v, lt_of_cell v⟩
abbrev errLaid : List (String × DataW Unit) := [("errors.errorType", Rows.laid_errors_errorType)]
abbrev farErrLaid : List (String × DataW Unit) := [("pairstone/curve.Far", Rows.laid_pairstone_curve_Far), ("errors.errorType", Rows.laid_errors_errorType)]
theorem errLaid_met (os : Os) (args : Array Value) : laidMetH Tryz.prog errLaid ((World.doorLaid Tryz.prog 400 os).forCall (fun _ _ => 0) ⟨#[], args, []⟩).memory :=
  laidMetH_of_parts ⟨[], rfl, List.nodup_nil, fun _ _ h => by cases h⟩ (by kernel_rfl)
theorem farErrLaid_met (os : Os) (args : Array Value) : laidMetH Tryz.prog farErrLaid ((World.doorLaid Tryz.prog 400 os).forCall (fun _ _ => 0) ⟨#[], args, []⟩).memory :=
  laidMetH_of_parts (laidMet_of_run' 8 (by kernel_rfl) (by kernel_rfl)) (by kernel_rfl)
theorem errLaid_at {W : World} (h : laidMetH Tryz.prog errLaid W) : ErrAt W := by
  have h' : laidMet Tryz.prog [] W ∧ handlesMet Tryz.prog errLaid W := h
  exact err_of_handles h'.2 (by simp)
theorem farErrLaid_at {W : World} (h : laidMetH Tryz.prog farErrLaid W) : FarAt W ∧ ErrAt W := by
  have h' : laidMet Tryz.prog farLaid W ∧ handlesMet Tryz.prog errLaid W := h
  exact ⟨farLaid_at (by rw [MakeChecks.laidMetH_plain _ _ _ (by kernel_rfl)]; exact h'.1), err_of_handles h'.2 (by simp)⟩
end Go.Proofs.YtjjmelhhalomaaaGreatDoor
namespace Go.Proofs.YtjjmelhhalomaaaGreatDoor
open Go.ChangeShapes Go.WideShapes Go.ChangeAt Go.WideMaps Go.WideElems Go.RowKit
set_option maxRecDepth 100000
theorem laidMet_head {x : String × DataW Unit} {r : List (String × DataW Unit)} {w : World} (h : laidMet Tryz.prog (x :: r) w) : laidMet Tryz.prog [x] w := by
  obtain ⟨ps, hv, hnd, hrows⟩ := h
  obtain ⟨n, d⟩ := x
  obtain ⟨g, t, cs, fuel, p, q, h1, h2, h3, h4, hq, rfl⟩ := hv
  refine ⟨_, ⟨g, t, cs, fuel, p, [], h1, h2, h3, h4, rfl, rfl⟩, ?_, fun b off hm => hrows b off ?_⟩
  · rw [List.append_nil]; exact List.Nodup.sublist (List.sublist_append_left _ _) hnd
  · rw [List.append_nil] at hm; exact List.mem_append_left _ hm
theorem ten_of_head {r : List (String × DataW Unit)} {W : World} (h : laidMet Tryz.prog (("internal/strconv.uint64pow10", Rows.laid_internal_strconv_uint64pow10) :: r) W) : TenAt W := by
  have e : (Rows.laid_internal_strconv_uint64pow10 : DataW Unit) = Lib.tabData .u64 Lib.pow10Tab := by kernel_rfl
  rw [e] at h
  exact Lib.tabIs_of_head (g := 7) (t := 230) (e := 210) (n := 20) (by kernel_rfl) (by kernel_rfl) (by kernel_rfl) (by kernel_rfl) (by kernel_rfl) (by kernel_rfl) h
theorem asc_of_head {r : List (String × DataW Unit)} {W : World} (h : laidMet Tryz.prog (("strings.asciiSpace", Rows.laid_strings_asciiSpace) :: r) W) : AscAt W := by
  have e : (Rows.laid_strings_asciiSpace : DataW Unit) = Lib.tabData .u8 Lib.asciiSpaceTab := by kernel_rfl
  rw [e] at h
  exact Lib.tabIs_of_head (g := 4) (t := 198) (e := 5) (n := 256) (by kernel_rfl) (by kernel_rfl) (by kernel_rfl) (by kernel_rfl) (by kernel_rfl) (by kernel_rfl) h
theorem far_of_head {r : List (String × DataW Unit)} {W : World} (h : laidMet Tryz.prog (("pairstone/curve.Far", Rows.laid_pairstone_curve_Far) :: r) W) : FarAt W :=
  farLaid_at (by rw [MakeChecks.laidMetH_plain _ _ _ (by kernel_rfl)]; exact laidMet_head h)
abbrev topLaid : List (String × DataW Unit) := [("math/bits.deBruijn32tab", Rows.laid_math_bits_deBruijn32tab), ("math/bits.deBruijn64tab", Rows.laid_math_bits_deBruijn64tab), ("internal/strconv.uint64pow10", Rows.laid_internal_strconv_uint64pow10), ("pairstone/curve.Far", Rows.laid_pairstone_curve_Far), ("strconv.ErrRange", Rows.laid_strconv_ErrRange), ("strconv.ErrSyntax", Rows.laid_strconv_ErrSyntax), ("unicode.White_Space", Rows.laid_unicode_White_Space), ("strings.asciiSpace", Rows.laid_strings_asciiSpace)]
abbrev logLaid : List (String × DataW Unit) := [("math/bits.deBruijn32tab", Rows.laid_math_bits_deBruijn32tab), ("math/bits.deBruijn64tab", Rows.laid_math_bits_deBruijn64tab), ("internal/strconv.uint64pow10", Rows.laid_internal_strconv_uint64pow10), ("pairstone/curve.Far", Rows.laid_pairstone_curve_Far), ("errors.errorType", Rows.laid_errors_errorType), ("strconv.ErrRange", Rows.laid_strconv_ErrRange), ("strconv.ErrSyntax", Rows.laid_strconv_ErrSyntax), ("unicode.White_Space", Rows.laid_unicode_White_Space), ("strings.asciiSpace", Rows.laid_strings_asciiSpace)]
theorem topLaid_met (os : Os) (args : Array Value) : laidMetH Tryz.prog topLaid ((World.doorLaid Tryz.prog 400 os).forCall (fun _ _ => 0) ⟨#[], args, []⟩).memory :=
  laidMetH_of_parts (laidMet_of_run' 8 (by kernel_rfl) (by kernel_rfl)) (by kernel_rfl)
theorem logLaid_met (os : Os) (args : Array Value) : laidMetH Tryz.prog logLaid ((World.doorLaid Tryz.prog 400 os).forCall (fun _ _ => 0) ⟨#[], args, []⟩).memory :=
  laidMetH_of_parts (laidMet_of_run' 8 (by kernel_rfl) (by kernel_rfl)) (by kernel_rfl)
theorem top_at {W : World} (h : laidMet Tryz.prog topLaid W) : FarAt W ∧ AscAt W ∧ TenAt W :=
  ⟨far_of_head h.tail.tail.tail, asc_of_head h.tail.tail.tail.tail.tail.tail.tail, ten_of_head h.tail.tail⟩
theorem topLaid_at {W : World} (h : laidMetH Tryz.prog topLaid W) : FarAt W ∧ AscAt W ∧ TenAt W :=
  top_at (by rw [MakeChecks.laidMetH_plain _ _ _ (by kernel_rfl)] at h; exact h)
theorem logLaid_at {W : World} (h : laidMetH Tryz.prog logLaid W) : (FarAt W ∧ AscAt W ∧ TenAt W) ∧ ErrAt W := by
  have h' : laidMet Tryz.prog topLaid W ∧ handlesMet Tryz.prog errLaid W := h
  exact ⟨top_at h'.1, err_of_handles h'.2 (by simp)⟩
end Go.Proofs.YtjjmelhhalomaaaGreatDoor
namespace Go.Proofs.YtjjmelhhalomaaaGreatDoor
open Go.ChangeShapes Go.WideShapes Go.ChangeAt Go.WideMaps Go.WideElems Go.RowKit
set_option maxRecDepth 100000
abbrev runPlain : List (String × DataW Unit) := [("math/bits.deBruijn32tab", Rows.laid_math_bits_deBruijn32tab), ("math/bits.deBruijn64tab", Rows.laid_math_bits_deBruijn64tab), ("internal/strconv.uint64pow10", Rows.laid_internal_strconv_uint64pow10), ("pairstone/curve.Far", Rows.laid_pairstone_curve_Far), ("pairstone/pair.one", Rows.laid_pairstone_pair_one), ("strconv.ErrRange", Rows.laid_strconv_ErrRange), ("strconv.ErrSyntax", Rows.laid_strconv_ErrSyntax), ("pairstone/run.unread", Rows.laid_pairstone_run_unread)]
abbrev runLaid : List (String × DataW Unit) := [("math/bits.deBruijn32tab", Rows.laid_math_bits_deBruijn32tab), ("math/bits.deBruijn64tab", Rows.laid_math_bits_deBruijn64tab), ("internal/strconv.uint64pow10", Rows.laid_internal_strconv_uint64pow10), ("pairstone/curve.Far", Rows.laid_pairstone_curve_Far), ("pairstone/pair.one", Rows.laid_pairstone_pair_one), ("errors.errorType", Rows.laid_errors_errorType), ("strconv.ErrRange", Rows.laid_strconv_ErrRange), ("strconv.ErrSyntax", Rows.laid_strconv_ErrSyntax), ("pairstone/run.unread", Rows.laid_pairstone_run_unread)]
theorem runLaid_met (os : Os) (args : Array Value) : laidMetH Tryz.prog runLaid ((World.doorLaid Tryz.prog 400 os).forCall (fun _ _ => 0) ⟨#[], args, []⟩).memory :=
  laidMetH_of_parts (laidMet_of_run' 8 (by kernel_rfl) (by kernel_rfl)) (by kernel_rfl)
theorem gOneR : Tryz.prog.globalNamed "pairstone/pair.one" = some 6 := by kernel_rfl
theorem tOneR : (Tryz.prog.globals[6]?).map (·.type) = some 116 := by kernel_rfl
theorem one_of_head {r : List (String × DataW Unit)} {W : World} (h : laidMet Tryz.prog (("pairstone/pair.one", Rows.laid_pairstone_pair_one) :: r) W) : OneAt W := by
  obtain ⟨ps, ⟨g1, t1, cs1, f1, p1, q1, hg1, ht1, hv1, hd1, _, _⟩, _, _⟩ := h
  obtain rfl := Option.some.inj (gOneR.symm.trans hg1)
  obtain rfl := Option.some.inj (tOneR.symm.trans ht1)
  obtain ⟨y0, y1, n, hx, hlen, h0, h1⟩ := Go.ChangeShapes.trod_struct2 Tryz.underlying116 hd1
  simp only [Rows.laid_pairstone_pair_one, Prod.mk.injEq, DataW.agg.injEq, List.cons.injEq, and_true] at hx
  obtain ⟨⟨e0, e1⟩, _⟩ := hx
  obtain ⟨a, c0, rfl, _⟩ := DataW.trod_int Tryz.underlying3 h0
  obtain ⟨b, c1, rfl, _⟩ := DataW.trod_int Tryz.underlying3 h1
  have k2 : Tryz.prog.cellsOf 116 = 2 := by kernel_rfl
  have ki : Tryz.prog.cellsOf 3 = 1 := by kernel_rfl
  obtain ⟨l⟩ := cs1
  have h3 : l.length = 2 := by simpa using hlen.trans k2
  match l, h3 with
  | [x, y], _ =>
    simp [ki] at c0 c1
    subst c0 c1
    have v0 := World.var?_cell hg1 hv1 0
    have v1 := World.var?_cell hg1 hv1 1
    simp at e0 e1 v0 v1
    subst e0 e1
    exact ⟨v0, v1, lt_of_cell v0⟩
theorem row_of_name (u : TypeId) (h : Tryz.prog.typeName? 3 u = some "*errors.errorString") : u = 252 := by
  have hs : "*" ++ "errors.errorString" = "*errors.errorString" := by decide
  exact typeName_ptr_named (nm := "errors.errorString") (by rw [hs]; kernel_rfl) (by kernel_rfl) (by decide) u (by rw [hs]; exact h)
theorem rng_of_head {r : List (String × DataW Unit)} {W : World} (h : laidMet Tryz.prog (("strconv.ErrRange", Rows.laid_strconv_ErrRange) :: r) W) : RngAt W := by
  obtain ⟨a, s, hv, -⟩ := laid_sentinel (g := 9) (ti := 30) (tp := 252) (te := 254) (ts := 9) h (by kernel_rfl) (by kernel_rfl) Tryz.underlying30 row_of_name Tryz.underlying252 Tryz.underlying254 rfl rfl Tryz.underlying9 (by kernel_rfl) (by kernel_rfl)
  have v0 := World.var?_cell (g := 9) (by kernel_rfl) hv 0
  simp at v0
  exact ⟨⟨_, _, v0⟩, lt_of_cell v0⟩
theorem syn_of_head {r : List (String × DataW Unit)} {W : World} (h : laidMet Tryz.prog (("strconv.ErrSyntax", Rows.laid_strconv_ErrSyntax) :: r) W) : SynAt W := by
  obtain ⟨a, s, hv, -⟩ := laid_sentinel (g := 8) (ti := 30) (tp := 252) (te := 254) (ts := 9) h (by kernel_rfl) (by kernel_rfl) Tryz.underlying30 row_of_name Tryz.underlying252 Tryz.underlying254 rfl rfl Tryz.underlying9 (by kernel_rfl) (by kernel_rfl)
  have v0 := World.var?_cell (g := 8) (by kernel_rfl) hv 0
  simp at v0
  exact ⟨⟨_, _, v0⟩, lt_of_cell v0⟩
theorem row_of_errno (u : TypeId) (h : Tryz.prog.typeName? 3 u = some "pairstone/api.Errno") : u = 84 := by
  have hu : u < Tryz.prog.types.size := by
    rcases Nat.lt_or_ge u Tryz.prog.types.size with hu | hu
    · exact hu
    · exfalso
      have hlt : ¬ u < Tryz.prog.types.size := Nat.not_lt.2 hu
      unfold Program.typeName? at h
      cases hi : Tryz.prog.info? u with
      | none => simp [hi] at h
      | some i =>
        have hb := Tables.info?_beyond hlt hi
        simp only [hi] at h
        cases hd : i.desc <;> simp only [hd, TypeDesc.tableOnly] at h hb <;> try cases hb
        all_goals try cases h
        rename_i e
        simp only [Option.map_eq_some_iff] at h
        obtain ⟨n', hn', hs⟩ := h
        have h1 := congrArg String.toList hs
        rw [String.toList_append] at h1
        have h2 := congrArg List.head? h1
        revert h2
        simp
  have hall : (List.range Tryz.prog.types.size).all (fun u => Tryz.prog.typeName? 3 u != some "pairstone/api.Errno" || u == 84) = true := by kernel_rfl
  have := List.all_eq_true.1 hall u (List.mem_range.2 hu)
  simpa [h] using this
theorem unr_of_head {r : List (String × DataW Unit)} {W : World} (h : laidMet Tryz.prog (("pairstone/run.unread", Rows.laid_pairstone_run_unread) :: r) W) :
    W.cell? ⟨1, 0, none⟩ = some (.iface 84 (.int .i64 2)) ∧ 1 < W.heap.size := by
  obtain ⟨ps, ⟨g1, t1, cs1, f1, p1, q1, hg1, ht1, hv1, hd1, _, _⟩, _, hrows⟩ := h
  obtain rfl := Option.some.inj ((show Tryz.prog.globalNamed "pairstone/run.unread" = some 1 by kernel_rfl).symm.trans hg1)
  obtain rfl := Option.some.inj ((show (Tryz.prog.globals[1]?).map (·.type) = some 104 by kernel_rfl).symm.trans ht1)
  obtain ⟨y0, n, hx, hlen, h0⟩ := Go.ChangeShapes.trod_struct1 Tryz.underlying104 hd1
  simp only [Rows.laid_pairstone_run_unread, Prod.mk.injEq, DataW.agg.injEq, List.cons.injEq, and_true] at hx
  obtain ⟨e0, e1⟩ := hx
  obtain ⟨d0, pl⟩ := y0
  simp only at e0 e1
  subst e0
  obtain ⟨f2, u, v, hcs, hn, h2⟩ := iface_of_trod Tryz.underlying30 h0
  obtain rfl := row_of_errno u hn
  obtain ⟨a, c0, hx2, _⟩ := DataW.trod_int Tryz.underlying84 h2
  have k1 : Tryz.prog.cellsOf 104 = 1 := by kernel_rfl
  have ki : Tryz.prog.cellsOf 30 = 1 := by kernel_rfl
  obtain ⟨l⟩ := cs1
  have h3 : l.length = 1 := by simpa using hlen.trans k1
  match l, h3 with
  | [x], _ =>
    simp [ki] at hcs
    subst hcs
    have v0 := World.var?_cell hg1 hv1 0
    simp at v0
    have ok := (hrows 1 0 (by simp_all [MemPlace.row])).2 _ _ v0
    have hv : v = .int .i64 a := by
      unfold Value.okWide at ok
      simp only [Tryz.underlying84] at ok
      unfold Cell.okWide at ok
      cases v <;> simp [Value.cells, Cell.ok, Tryz.underlying84] at ok c0
      simp [c0]
    simp only [Prod.mk.injEq, DataW.lit.injEq, Lit.int.injEq, true_and] at hx2
    rw [hv, ← hx2.1] at v0
    exact ⟨v0, lt_of_cell v0⟩
theorem runLaid_at {W : World} (h : laidMetH Tryz.prog runLaid W) (hsh : W.ShapedOpen Tryz.prog) : RunAt W := by
  have h' : laidMet Tryz.prog runPlain W ∧ handlesMet Tryz.prog errLaid W := h
  obtain ⟨h1, h2⟩ := h'
  obtain ⟨m, hm⟩ := cell_of_shapedOpen_int (P := Tryz.prog) (g := 3) (t := 3) (zero := #[.int .i64 0]) hsh (of_decide_eq_true (by kernel_rfl)) (by kernel_rfl) rfl (by kernel_rfl) (by kernel_rfl) Tryz.underlying3
  exact ⟨far_of_head h1.tail.tail.tail, err_of_handles h2 (by simp), one_of_head h1.tail.tail.tail.tail, ten_of_head h1.tail.tail, syn_of_head h1.tail.tail.tail.tail.tail.tail, rng_of_head h1.tail.tail.tail.tail.tail, ⟨⟨m, hm⟩, lt_of_cell hm⟩, unr_of_head h1.tail.tail.tail.tail.tail.tail.tail⟩
/-- The row's wrap: listed variables, and the world's shape. -/
theorem returnsInHanded_shaped_and {H : Type} {enc : TypeId × Value → H} {a : Assume} {C : Checked} {os : Os} {f : FuncId} {fn : Func} {s : ChangeSpec} {conds : List PathCond} {apart fresh handsOn again : Bool} {X : World → Array Value → Prop}
    (hX : ∀ (w w' : World) (args : Array Value), w.heap = w'.heap → X w args → X w' args)
    (own : ownKnob C.prog.godebug = none) (started : os.Started) (noInit : C.prog.inits.idxOf? f = none) (hfn : C.prog.funcs[f]? = some fn)
    (witness : ∃ (w : World) (tape : Tape) (i : Input), w.os = os ∧ (w.forCall tape i).Shaped C.prog ∧ i.vars = [] ∧ Input.okWide C.prog (w.forCall tape i) .any w.heap.size f i ∧
      ((s.pre enc C.prog fn conds apart (w.forCall tape i).memory i.args ∧ X (w.forCall tape i).memory i.args) ∧ sizedMet enc C.prog fn (OpenSpec.ofChange s) apart (w.forCall tape i).memory i.args) ∧ a.holds C.prog (lone (Frame.enter C.prog f i.args .normal) [] (w.forCall tape i)))
    (contract : ∀ (W : World) (base : Nat) (args : Array Value) (ds gs : List (DataW H)) (before : List MemPlace), W.ShapedOpen C.prog →
      (∀ (j : Nat) t v, fn.params[j]? = some t → args[j]? = some v → Value.okWide C.prog W .any base t v) →
      DataW.Whole enc C.prog fn.params.toList s.vars apart W args.toList ds gs before →
      conds.all (PathCond.test C.prog ⟨fn.params.toList, ds, s.plain.varTypes C.prog, gs⟩) = true →
      (DataW.weightsEach C.prog (fn.params.toList ++ s.plain.varTypes C.prog) (ds ++ gs)).all (· ≤ reachBytes) = true → X W args →
      a.holds C.prog (lone (Frame.enter C.prog f args .normal) [] W) →
      Calls C.prog f args W fun e W' => ∃ v, e = .returned v ∧ s.post enc C.prog fn apart fresh handsOn again W args v W') :
    ReturnsInHanded a C os f .any (fun w args => (s.pre enc C.prog fn conds apart w args ∧ X w args) ∧ sizedMet enc C.prog fn (OpenSpec.ofChange s) apart w args) (s.post enc C.prog fn apart fresh handsOn again) := by
  refine returnsInHanded_of_calls own started noInit witness ?_
  intro w tape i _ hsh _ hok hpre hholds
  obtain ⟨_, _, _, fn', hfn', _, _, _, _, hval⟩ := hok
  have e : fn' = fn := Option.some.inj (hfn'.symm.trans hfn)
  subst e
  obtain ⟨⟨⟨ds, gs, before, hw, hc⟩, hx⟩, hz⟩ := hpre
  have hw' := DataW.Whole.of_heap (w' := w.forCall tape i) (by rfl) hw
  refine (contract (w.forCall tape i) w.heap.size i.args ds gs before hsh hval hw' hc (hz.weights hw) (hX _ _ _ (by rfl) hx) hholds).mono fun e W' ⟨v, he, hp⟩ => ?_
  subst he
  exact ChangeSpec.post_blind hp
end Go.Proofs.YtjjmelhhalomaaaGreatDoor
namespace Go.Proofs.YtjjmelhhalomaaaGreatDoor
open Go.RowKit
set_option maxRecDepth 100000
theorem headL : ∃ l : List Char, Tryz.prog.initOrder = String.ofList l ∧ ((behindMainWord (wordsSigns l)).head? = some "cut".toList ∧
    (match wordsSigns l with
      | h :: s :: _ => if !isSumSigns s then none else if h == "harness".toList then some (true, s) else if h == "ownmain".toList then some (false, s) else none
      | _ => none) = some (true, "d14747ce2e7cdd5bce8c9fd338f68f0c21c66e61985c11e026f74a52be8974b7".toList)) := by
  refine ⟨?l, ?h1, ?h2, ?h3⟩
  case h1 =>
    unfold Tryz.prog
    first | rfl | (dsimp only; rfl)
  case h2 => kernel_rfl
  case h3 => kernel_rfl
theorem headCut : ∃ r, behindMainWord (wordsSigns Tryz.prog.initOrder.toList) = "cut".toList :: r := by
  obtain ⟨l, h, hw, -⟩ := headL
  rw [h, String.toList_ofList]
  cases e : behindMainWord (wordsSigns l) with
  | nil => rw [e] at hw; cases hw
  | cons c r => rw [e] at hw; exact ⟨r, by rw [Option.some.inj hw]⟩
theorem mainIsK : Tryz.prog.mainIs = some (true, "d14747ce2e7cdd5bce8c9fd338f68f0c21c66e61985c11e026f74a52be8974b7".toList) := by
  obtain ⟨l, h, -, hm⟩ := headL
  unfold Program.mainIs; rw [h, String.toList_ofList]; exact hm
theorem mayEnterK : Tryz.prog.mayEnter = true := by
  obtain ⟨r, h⟩ := headCut
  unfold Program.mayEnter; rw [h]; kernel_rfl
theorem headLiftsK : Tryz.prog.headLifts = [] := by
  obtain ⟨r, h⟩ := headCut
  unfold Program.headLifts; rw [h]; kernel_rfl
theorem liftsFinalK : Tryz.prog.liftsFinal = false := by
  obtain ⟨r, h⟩ := headCut
  unfold Program.liftsFinal; rw [h, headLiftsK]; kernel_rfl
theorem makeK : Tryz.prog.make = some .cut := by
  obtain ⟨r, h⟩ := headCut
  unfold Program.make; rw [h]; kernel_rfl
end Go.Proofs.YtjjmelhhalomaaaGreatDoor
namespace Go.Proofs.YtjjmelhhalomaaaGreatDoor
open Go.RowKit
set_option maxRecDepth 100000
set_option linter.unusedVariables false
set_option linter.unusedSimpArgs false
attribute [local go_sem ↓] Go.wp_at_zero Go.wp_at_succ
theorem dec1 : Lib.decDigits 1 = [49] := by rw [Lib.decDigits]; rfl
theorem cat_l (p X T : List UInt8) (h : p ++ X = T) : bS p ++ bS X = bS T := by rw [bS_app, h]
theorem pairT_len (n m : Nat) (h1 : n ≤ 90) (h2 : m ≤ 90) : (pairT n m).length ≤ 3000 := by
  have hnm : n * m ≤ 90 * 90 := Nat.mul_le_mul h1 h2
  have z1 := dec_len n (by omega)
  have z2 := dec_len m (by omega)
  have z3 := dec_len (n * m) (by omega)
  have z4 := dec_len 1 (by omega)
  unfold pairT
  simp only [List.length_append, List.length_cons, List.length_nil]
  omega
set_option maxHeartbeats 16000000 in
theorem pairs_no (n m : Int) (w : World) (hF : FarAt w) (h : ¬ (1 ≤ n ∧ n ≤ 90 ∧ 1 ≤ m ∧ m ≤ 90)) :
    Calls Tryz.prog 5 #[.int .i64 n, .int .i64 m] w fun e w' => e = .returned (.bool true) ∧ Below w.heap.size w w' := by
  have kB := Lib.hid (base_c w hF)
  have hF' := Lib.hid hF
  obtain ⟨S, hS⟩ : ∃ S, sq 4 = S := ⟨_, rfl⟩
  have kT := Lib.hid (fun w F => timesTimes_ok 4 1013 w F)
  have e0 : sq (4 * 1013) = sFar := by rw [← sq_zero, sq_eq_iff]; decide
  rw [e0] at kT
  rw [hS] at kB kT
  unfold sFar at kT
  clear hS e0 hF
  replace h : n < 1 ∨ (1 ≤ n ∧ 90 < n) ∨ (1 ≤ n ∧ n ≤ 90 ∧ m < 1) ∨ (1 ≤ n ∧ n ≤ 90 ∧ 1 ≤ m ∧ 90 < m) := by omega
  rcases h with h | ⟨h, h2⟩ | ⟨h, h2, h3⟩ | ⟨h, h2, h3, h4⟩
  all_goals
    go_enter Tryz.func5, Tryz.ntmps5
    go_wp2_with fail
    refine kB.out.mono ?_; rintro e w1 ⟨rfl, hb⟩
    have hB1 := Lib.hid hb
    clear hb
    go_wp2_with fail
    refine (kT.out _ (hF'.out.below hB1.out)).mono ?_; rintro e w2 ⟨rfl, hb⟩
    have hB2 := Lib.hid (below_seq hB1.out hb)
    clear hb
    go_wp2_with fail
    go_ret
    exact ⟨rfl, balloc hB2.out _⟩
set_option maxHeartbeats 16000000 in
theorem pairs_yes (n m : Nat) (w : World) (hR : RunAt w) (n0 : 1 ≤ n) (n1 : n ≤ 90) (m0 : 1 ≤ m) (m1 : m ≤ 90) :
    Calls Tryz.prog 5 #[.int .i64 (n : Int), .int .i64 (m : Int)] w fun e w' => e = .returned (.bool true) ∧ Below w.heap.size w w' := by
  have hnm : n * m ≤ 90 * 90 := Nat.mul_le_mul n1 m1
  have kC : Hid (∀ w1, RunAt w1 → Calls Tryz.prog 7 #[.string (bS (pairT n m))] w1 fun e w' => e = .returned (.string (bS (outsF (linesL (pairT n m))))) ∧ Below w1.heap.size w1 w') := Lib.hid fun w1 R => run_c _ w1 R (pairT_len n m n1 m1)
  have kP : Hid (∀ w1, Calls Tryz.prog 8 #[.string (bS (outsF (linesL (pairT n m)))), .int .u8 10] w1 fun e w' => (∃ b cap, e = .returned (.slice (some ⟨b, 0, none⟩) 5 cap) ∧ TxtAt w' b 0 [A5 [n, m] [], A5 [n, m] [], A5 [n, m] [], [49, 48, 49, 51], []] ∧ 5 ≤ cap ∧ cap ≤ 9223372036854775807) ∧ Below w1.heap.size w1 w') := Lib.hid fun w1 => by
    have h1 := outsF_len (linesL (pairT n m))
    obtain ⟨-, h2, -⟩ := linesL_facts _ (pairT n m) (Nat.le_refl _)
    have h3 := pairT_len n m n1 m1
    have h := cut_ten (outsF (linesL (pairT n m))) w1 (by omega)
    rw [pair_cut n m n0 n1 m1] at h
    exact h
  have hbad := A5_bad [n, m] []
  generalize outsF (linesL (pairT n m)) = O at kC kP
  generalize A5 [n, m] [] = L at kP hbad
  have d1 := Lib.hid (fun w => digits_c n w (by omega))
  have d2 := Lib.hid (fun w => digits_c m w (by omega))
  have d3 := Lib.hid (fun w => digits_c (n * m) w (by omega))
  rw [show (((n * m : Nat)) : Int) = (n : Int) * (m : Int) by rw [Int.natCast_mul]] at d3
  obtain ⟨A, hA⟩ : ∃ A, A = Lib.decDigits n := ⟨_, rfl⟩
  obtain ⟨B, hB⟩ : ∃ A, A = Lib.decDigits m := ⟨_, rfl⟩
  obtain ⟨C, hC⟩ : ∃ A, A = Lib.decDigits (n * m) := ⟨_, rfl⟩
  rw [← hA] at d1
  rw [← hB] at d2
  rw [← hC] at d3
  have zA : A.length ≤ 6 := by rw [hA]; exact dec_len n (by omega)
  have zB : B.length ≤ 6 := by rw [hB]; exact dec_len m (by omega)
  have zC : C.length ≤ 6 := by rw [hC]; exact dec_len _ (by omega)
  have yA := bS_size A
  have yB := bS_size B
  have yC := bS_size C
  have hR' := Lib.hid hR
  clear hR
  obtain ⟨T1, hT1⟩ : ∃ T, [112, 97, 105, 114, 32] ++ A = T := ⟨_, rfl⟩
  have c1 : (⟨#[112, 97, 105, 114, 32]⟩ : ByteArray) ++ bS A = bS T1 := cat_l [112, 97, 105, 114, 32] A T1 hT1
  have z1 : T1.length ≤ 20 := by (rw [← hT1, List.length_append]; (try simp only [List.length_cons, List.length_nil]); omega)
  have y1 := bS_size T1
  have l1 : ¬ (9223372036854775807 < 5 + (bS A).size) := by omega
  obtain ⟨T2, hT2⟩ : ∃ T, T1 ++ [32] = T := ⟨_, rfl⟩
  have c2 : bS T1 ++ (⟨#[32]⟩ : ByteArray) = bS T2 := cat_l T1 [32] T2 hT2
  have z2 : T2.length ≤ 40 := by (rw [← hT2, List.length_append]; (try simp only [List.length_cons, List.length_nil]); omega)
  have y2 := bS_size T2
  have l2 : ¬ (9223372036854775807 < (bS T1).size + 1) := by omega
  obtain ⟨T3, hT3⟩ : ∃ T, T2 ++ B = T := ⟨_, rfl⟩
  have c3 : bS T2 ++ bS B = bS T3 := cat_l T2 B T3 hT3
  have z3 : T3.length ≤ 60 := by (rw [← hT3, List.length_append]; (try simp only [List.length_cons, List.length_nil]); omega)
  have y3 := bS_size T3
  have l3 : ¬ (9223372036854775807 < (bS T2).size + (bS B).size) := by omega
  obtain ⟨T4, hT4⟩ : ∃ T, T3 ++ [10, 112, 97, 105, 114, 32] = T := ⟨_, rfl⟩
  have c4 : bS T3 ++ (⟨#[10, 112, 97, 105, 114, 32]⟩ : ByteArray) = bS T4 := cat_l T3 [10, 112, 97, 105, 114, 32] T4 hT4
  have z4 : T4.length ≤ 80 := by (rw [← hT4, List.length_append]; (try simp only [List.length_cons, List.length_nil]); omega)
  have y4 := bS_size T4
  have l4 : ¬ (9223372036854775807 < (bS T3).size + 6) := by omega
  obtain ⟨T5, hT5⟩ : ∃ T, T4 ++ C = T := ⟨_, rfl⟩
  have c5 : bS T4 ++ bS C = bS T5 := cat_l T4 C T5 hT5
  have z5 : T5.length ≤ 100 := by (rw [← hT5, List.length_append]; (try simp only [List.length_cons, List.length_nil]); omega)
  have y5 := bS_size T5
  have l5 : ¬ (9223372036854775807 < (bS T4).size + (bS C).size) := by omega
  obtain ⟨T6, hT6⟩ : ∃ T, T5 ++ [32, 49, 10, 112, 97, 105, 114, 32] = T := ⟨_, rfl⟩
  have c6 : bS T5 ++ (⟨#[32, 49, 10, 112, 97, 105, 114, 32]⟩ : ByteArray) = bS T6 := cat_l T5 [32, 49, 10, 112, 97, 105, 114, 32] T6 hT6
  have z6 : T6.length ≤ 120 := by (rw [← hT6, List.length_append]; (try simp only [List.length_cons, List.length_nil]); omega)
  have y6 := bS_size T6
  have l6 : ¬ (9223372036854775807 < (bS T5).size + 8) := by omega
  obtain ⟨T7, hT7⟩ : ∃ T, T6 ++ B = T := ⟨_, rfl⟩
  have c7 : bS T6 ++ bS B = bS T7 := cat_l T6 B T7 hT7
  have z7 : T7.length ≤ 140 := by (rw [← hT7, List.length_append]; (try simp only [List.length_cons, List.length_nil]); omega)
  have y7 := bS_size T7
  have l7 : ¬ (9223372036854775807 < (bS T6).size + (bS B).size) := by omega
  obtain ⟨T8, hT8⟩ : ∃ T, T7 ++ [32] = T := ⟨_, rfl⟩
  have c8 : bS T7 ++ (⟨#[32]⟩ : ByteArray) = bS T8 := cat_l T7 [32] T8 hT8
  have z8 : T8.length ≤ 160 := by (rw [← hT8, List.length_append]; (try simp only [List.length_cons, List.length_nil]); omega)
  have y8 := bS_size T8
  have l8 : ¬ (9223372036854775807 < (bS T7).size + 1) := by omega
  obtain ⟨T9, hT9⟩ : ∃ T, T8 ++ A = T := ⟨_, rfl⟩
  have c9 : bS T8 ++ bS A = bS T9 := cat_l T8 A T9 hT9
  have z9 : T9.length ≤ 180 := by (rw [← hT9, List.length_append]; (try simp only [List.length_cons, List.length_nil]); omega)
  have y9 := bS_size T9
  have l9 : ¬ (9223372036854775807 < (bS T8).size + (bS A).size) := by omega
  obtain ⟨T10, hT10⟩ : ∃ T, T9 ++ [10, 111, 114, 100, 101, 114, 32] = T := ⟨_, rfl⟩
  have c10 : bS T9 ++ (⟨#[10, 111, 114, 100, 101, 114, 32]⟩ : ByteArray) = bS T10 := cat_l T9 [10, 111, 114, 100, 101, 114, 32] T10 hT10
  have z10 : T10.length ≤ 200 := by (rw [← hT10, List.length_append]; (try simp only [List.length_cons, List.length_nil]); omega)
  have y10 := bS_size T10
  have l10 : ¬ (9223372036854775807 < (bS T9).size + 7) := by omega
  obtain ⟨T11, hT11⟩ : ∃ T, T10 ++ A = T := ⟨_, rfl⟩
  have c11 : bS T10 ++ bS A = bS T11 := cat_l T10 A T11 hT11
  have z11 : T11.length ≤ 220 := by (rw [← hT11, List.length_append]; (try simp only [List.length_cons, List.length_nil]); omega)
  have y11 := bS_size T11
  have l11 : ¬ (9223372036854775807 < (bS T10).size + (bS A).size) := by omega
  obtain ⟨T12, hT12⟩ : ∃ T, T11 ++ [10] = T := ⟨_, rfl⟩
  have c12 : bS T11 ++ (⟨#[10]⟩ : ByteArray) = bS T12 := cat_l T11 [10] T12 hT12
  have z12 : T12.length ≤ 240 := by (rw [← hT12, List.length_append]; (try simp only [List.length_cons, List.length_nil]); omega)
  have y12 := bS_size T12
  have l12 : ¬ (9223372036854775807 < (bS T11).size + 1) := by omega
  have hTT : T12 = pairT n m := by subst hT1 hT2 hT3 hT4 hT5 hT6 hT7 hT8 hT9 hT10 hT11 hT12; rw [hA, hB, hC]; simp [pairT, dec1]
  clear hT1 hT2 hT3 hT4 hT5 hT6 hT7 hT8 hT9 hT10 hT11 hT12

  rw [← hTT] at kC
  have q1 : ((n : Int) * (m : Int)) ≤ 8100 := by rw [← Int.natCast_mul]; omega
  have q0 : 0 ≤ ((n : Int) * (m : Int)) := by rw [← Int.natCast_mul]; omega
  clear hTT hA hB hC hnm
  go_enter Tryz.func5, Tryz.ntmps5
  go_wp2_with fail
  refine (d1.out _).mono ?_; rintro e w1 ⟨rfl, hw⟩
  obtain rfl := hw.symm
  go_wp2_with fail
  refine (d2.out _).mono ?_; rintro e w1 ⟨rfl, hw⟩
  obtain rfl := hw.symm
  go_wp2_with fail
  refine (d3.out _).mono ?_; rintro e w1 ⟨rfl, hw⟩
  obtain rfl := hw.symm
  clear d1 d2 d3
  go_wp2_with fail
  refine (kC.out _ hR'.out).mono ?_; rintro e w1 ⟨rfl, hb⟩
  have hB1 := Lib.hid hb
  clear hb kC c1 c2 c3 c4 c5 c6 c7 c8 c9 c10 c11 c12 l1 l2 l3 l4 l5 l6 l7 l8 l9 l10 l11 l12
  have e1 : ((bS L).toList == [98, 97, 100]) = false := by rw [bS_tl, beq_eq_false_iff_ne]; exact hbad
  have e2 : ((bS [49, 48, 49, 51]).toList == [49, 48, 49, 51]) = true := by rw [bS_tl]; rfl
  go_wp2_with fail
  refine (kP.out _).mono ?_; rintro e w2 ⟨⟨b, cap, rfl, hT, h5, h6⟩, hb⟩
  have hB2 := Lib.hid (below_seq hB1.out hb)
  have g0 := hT.c 0 (by simp)
  have g1 := hT.c 1 (by simp)
  have g2 := hT.c 2 (by simp)
  have g3 := hT.c 3 (by simp)
  simp only [List.getElem_cons_zero, List.getElem_cons_succ, Nat.zero_add, Nat.add_zero] at g0 g1 g2 g3
  generalize bS L = SL at *
  generalize bS [49, 48, 49, 51] = S4 at *
  have e3 : (SL.toList == SL.toList) = true := by simp
  clear hb hT kP
  go_wp2_with fail
  go_quiet (fail)
  go_wp2
  go_ret
  exact ⟨rfl, below_drewN hB2.out _⟩
/-- For every input. -/
theorem runPairs_law (n : Int) (hn : (Lit.int .i64 n).wf = true) (m : Int) (hm : (Lit.int .i64 m).wf = true) (W : World) (hR : RunAt W) :
    Calls Tryz.prog 5 #[.int .i64 n, .int .i64 m] W fun e w' => e = .returned (.bool true) ∧ Below W.heap.size W w' := by
  by_cases h : 1 ≤ n ∧ n ≤ 90 ∧ 1 ≤ m ∧ m ≤ 90
  · obtain ⟨n0, n1, m0, m1⟩ := h
    obtain ⟨a, rfl⟩ := Int.eq_ofNat_of_zero_le (show 0 ≤ n by omega)
    obtain ⟨b, rfl⟩ := Int.eq_ofNat_of_zero_le (show 0 ≤ m by omega)
    exact pairs_yes a b W hR (by omega) (by omega) (by omega) (by omega)
  · exact pairs_no n m W hR.F h
end Go.Proofs.YtjjmelhhalomaaaGreatDoor
namespace Go.Proofs.YtjjmelhhalomaaaGreatDoor.runPairs
open Go.ChangeShapes Go.WideShapes Go.ChangeAt Go.RowKit
set_option linter.unusedVariables false
theorem typesOk : ([3, 3].all fun t => Tryz.prog.readableRec t && decide (t < Tryz.prog.types.size)) = true := by kernel_rfl
set_option maxRecDepth 100000 in
theorem lifted (os : Os) (started : os.Started) (H : Type) (enc : TypeId × Value → H) :
    ReturnsInHanded {} Tryz.checked os 5 .any (fun w args => (Rows.runPairsSpec.pre enc Tryz.prog Tryz.f5 [] false w args ∧ laidMetH Tryz.prog runLaid w) ∧ sizedMet enc Tryz.prog Tryz.f5 (OpenSpec.ofChange Rows.runPairsSpec) false w args)
      (Rows.runPairsSpec.post enc Tryz.prog Tryz.f5 false true false false) := by
  refine returnsInHanded_shaped_and (C := Tryz.checked) (X := fun w _ => laidMetH Tryz.prog runLaid w) (fun _ _ _ hh h => h.of_heap hh) Tryz.ownK started (by kernel_rfl) Tryz.func5
    (ChangeSpec.witness_shaped (enc := enc) (C := Tryz.checked) (os := os) (X := fun w _ => laidMetH Tryz.prog runLaid w) false (World.doorLaid Tryz.prog 400 os) #[.int .i64 0, .int .i64 0] 8 rfl (World.shaped_of_RefB (by kernel_rfl) (by kernel_rfl)) (by kernel_rfl) (by kernel_rfl) (by kernel_rfl) (runLaid_met os _)) ?_
  intro W base args ds gs before hsh hval0 hW hcnd hsz0 hL hholds
  have hval : ∀ (j : Nat) t v, Tryz.f5.params[j]? = some t → args[j]? = some v → Value.okWide Tryz.prog W .any base t v := hval0
  have hW' := hW
  obtain ⟨p, q, hA0, hV, rfl, hfz, hnd⟩ := hW
  have hA : DataW.TrodAll enc Tryz.prog W 0 (fun _ => true) true Tryz.f5.params.toList args.toList ds p := hA0
  obtain ⟨rfl, rfl⟩ := trodVars_none hV
  simp only [List.append_nil] at hW'
  have hlt : ∀ x ∈ p, x.block < W.heap.size := fun x hx => hW'.lt x hx
  have hsz : (DataW.weightsEach Tryz.prog (Tryz.f5.params.toList ++ Rows.runPairsSpec.plain.varTypes Tryz.prog) (ds ++ [])).all (· ≤ reachBytes) = true := hsz0
  rw [Tryz.params5] at hA hval hsz
  have hK := hA
  obtain ⟨v0, vs0, d0, ds0, p0, q0, hargs, rfl, rfl, h0, r0⟩ := trodAll_cons hA
  obtain ⟨v1, vs1, d1, ds1, p1, q1, rfl, rfl, rfl, h1, r1⟩ := trodAll_cons r0
  obtain ⟨rfl, rfl, rfl⟩ := trodAll_nil r1
  obtain rfl : args = #[v0, v1] := by cases args; simp_all
  obtain ⟨a0, rfl, rfl, rfl, w0⟩ := open_int Tryz.underlying3 (hval 0 3 v0 rfl rfl) h0
  obtain ⟨a1, rfl, rfl, rfl, w1⟩ := open_int Tryz.underlying3 (hval 1 3 v1 rfl rfl) h1
  clear hA0 hval0
  refine (runPairs_law a0 w0 a1 w1 W (runLaid_at hL hsh)).mono fun e W' ⟨he, hg⟩ => ?_
  subst he
  exact ⟨_, rfl, post_of_below (pa := _) (pv := []) hW' (fun _ _ _ => (trodAll_cons_mk (shut_bool Tryz.underlying4 _) trodAll_mk0)) (fun sp hsp => trodAll_stays Tryz.laidOutK hg typesOk hK (fun x hx => ⟨hlt x hx, hsp x (by first | exact hx | (simp at hx) | simpa using hx)⟩)) (fun _ _ => rfl) (by simp) hg (ok_one (by kernel_rfl) rfl (okWide_bool_mk Tryz.underlying4 _))⟩

theorem over : Rows.runPairsRow.holds Tryz.pinned (OpenSpec.ofChange Rows.runPairsSpec) :=
  OpenClaim.holds_of_wide 5 Tryz.f5 rfl rfl rfl rfl rfl rfl rfl ⟨rfl, rfl, rfl, rfl, rfl⟩ rfl rfl rfl rfl rfl (by kernel_rfl) Tryz.func5 (by show joinedFacts Tryz.prog _ _ _ _ = true; unfold joinedFacts; rw [mayEnterK, liftsFinalK, makeK]; kernel_rfl)
    (of_decide_eq_true (by kernel_rfl)) (by unfold Func.isWrapper; first | (rw [if_pos (by decide +kernel)]; kernel_rfl) | (rw [if_neg (by decide +kernel)]; exact ⟨rfl, rfl⟩))
    (fun os started H enc _ => lifted os started H enc)
theorem card : Rows.RunPairsCardSaid :=
  Claim7.holds_tied_plain_at .later [] [.data, .data, .data, .data, .data, .handle, .sentinel, .sentinel, .wider] true (true, "d14747ce2e7cdd5bce8c9fd338f68f0c21c66e61985c11e026f74a52be8974b7") true
    over (fun _ h => by cases h) (by kernel_rfl) (fun _ h => by cases h) runPairs_row_tie rfl ⟨rfl, rfl⟩ mainIsK rfl
    (fun f fn hf hfn => by
      obtain rfl : f = 5 := Option.some.inj ((show Tryz.prog.funcNamed "pairstone/stonelaw3.RunPairs" = some 5 by kernel_rfl).symm.trans hf) |>.symm
      obtain rfl : fn = Tryz.f5 := (Option.some.inj (Tryz.func5.symm.trans hfn)).symm
      exact ⟨by kernel_rfl, fun j t ht => by
        rw [Tryz.params5] at ht
        have hm : t ∈ ([3, 3] : List TypeId) := by simpa using Array.mem_of_getElem? ht
        have hall : (([3, 3] : List TypeId).all fun u => !Tryz.prog.wantsStandIn u) = true := by kernel_rfl
        exact (show Tryz.prog.wantsStandIn t = false by simpa using List.all_eq_true.1 hall t hm)⟩)
    (by kernel_rfl)
#print axioms card
end Go.Proofs.YtjjmelhhalomaaaGreatDoor.runPairs
