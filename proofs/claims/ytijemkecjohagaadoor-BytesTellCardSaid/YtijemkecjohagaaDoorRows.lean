/-
  NARROWER THAN 'FOR EVERY INPUT', by the rows' own cells (each row's printed sentence says how): TopKeys: laid · PairFar: laid · EqualHolds: laid · EqualFalse: laid · AdaptGives: laid · AdaptNone: laid · BatchHolds: laid · GroupOne: laid · ShortOne: laid · ShortJoins: laid · QuorumAlone: laid · PrimeTells: laid · TwinTells: laid · CurveLifts: laid · HashTells: laid · CurveTells: laid · BytesTell: laid · GroupSeals: laid · RingHolds: laid · TopMixed: laid · QuorumSeals: laid.
  DERIVED. THE GIVEN ROWS OF THIS SEAT. 21 by the template 'for every input the law returns true; each argument reads behind the call as it read before'; 0 by the template 'total and deterministic' (their statements: YtijemkecjohagaaDoorTotals.lean).
  GIVEN WITH THE SEED: the statements are not yours to turn. If you find one false, say at which input.
  Laid BY PROGRAM, IN A SANDBOX (cutbox-rows.mjs): the forced cells as the released guide's own fill.sh prints them over the translation 27827bdc384417e3… (all of the seat's roots in one cut). By AI agents, Wed Nov 11 2026. No macro, syntax, notation, axiom, sorry.
-/
import Derived.Test.YtijemkecjohagaaDoorChecked
import GoSem.Claim
import GoSem.ClaimJoined
import GoSem.ClaimMapViews
import Derived.JoinedTies
import Derived.KernelRfl
namespace Go.Proofs.YtijemkecjohagaaDoor
/- THE CELL 'sum', in the pinned program and in every row, IS THE sha256 OF THE DUMP (.gsa) THAT YtijemkecjohagaaDoorProg.lean LOADS. Nothing in Lean hashes anything: it is a label: what it is worth is what the hold of that sum in a sandbox is worth. -/
noncomputable def Tryd.pinned : Pinned := { name := "ytijemkecjohagaadoor", sum := "27827bdc384417e3add0360f7159f035e6b699bddc65dfff5409804c27cd3fc8", checked := Tryd.checked }
namespace Rows
def none {H : Type} : Left H := { results := [], args := [] }

/- WHAT THE LISTED PACKAGE-LEVEL VARIABLES READ AS WHEN THE CALL BEGINS. Each datum BY PROGRAM (the guide's laid-datum.mjs) off the statement by which the dump's own 'gosem.cut.vars' lays the variable. In a bare row this is a premise. The card (YtijemkecjohagaaDoorCards.lean) ties it to the program's text. -/
def laid_pairstone_curve_Far {H : Type} : DataW H := .agg [.lit (.int .i64 0), .lit (.int .i64 0), .lit (.bool true)]
def laid_pairstone_pair_one {H : Type} : DataW H := .agg [.lit (.int .i64 1), .lit (.int .i64 0)]
def laid_errors_errorType {H : Type} : DataW H := .iface "internal/reflectlite.rtype" (.agg [.ptr (.lit (.string [101, 114, 114, 111, 114]))])

/-- 'stonetop.TopKeys': WHATEVER THE INPUT: true; the input reads as it did. -/
def topKeysSpec : ChangeSpec := { name := "topKeys", fn := fun _ => fun
  | [d1, d2, d3] => { results := [.lit (.bool true)], args := [d1, d2, d3] }
  | _ => none }
def topKeysRow : OpenClaim := { program := "ytijemkecjohagaadoor", sum := "27827bdc384417e3add0360f7159f035e6b699bddc65dfff5409804c27cd3fc8", func := "pairstone/stonetop.TopKeys", spec := "topKeys", named := ["pairstone/curve.Far", "pairstone/pair.one"], apart := false, laid := [("pairstone/curve.Far", laid_pairstone_curve_Far), ("pairstone/pair.one", laid_pairstone_pair_one)] }
def TopKeysSaid : Prop := topKeysRow.holds Tryd.pinned (OpenSpec.ofChange topKeysSpec)

/-- ITS FALSE NEIGHBOUR: 'it returns false'. Refute it at one input. -/
def topKeysWrong : ChangeSpec := { name := "topKeys", fn := fun _ => fun
  | [d1, d2, d3] => { results := [.lit (.bool false)], args := [d1, d2, d3] }
  | _ => none }
def TopKeysWrongFalsely : Prop := topKeysRow.holds Tryd.pinned (OpenSpec.ofChange topKeysWrong)

/-- 'stonelaw4.PairFar': WHATEVER THE INPUT: true; the input reads as it did. -/
def pairFarSpec : ChangeSpec := { name := "pairFar", fn := fun _ => fun
  | [d] => { results := [.lit (.bool true)], args := [d] }
  | _ => none }
def pairFarRow : OpenClaim := { program := "ytijemkecjohagaadoor", sum := "27827bdc384417e3add0360f7159f035e6b699bddc65dfff5409804c27cd3fc8", func := "pairstone/stonelaw4.PairFar", spec := "pairFar", inPlace := ["internal/reflectlite.ValueOf", "(internal/reflectlite.Value).Type", "(internal/reflectlite.Value).IsNil", "internal/reflectlite.TypeOf", "(internal/reflectlite.Value).Elem", "(internal/reflectlite.Value).Set"], unfollowed := true, recurses := true, named := ["pairstone/curve.Far", "pairstone/pair.one", "errors.errorType"], apart := false, laid := [("pairstone/curve.Far", laid_pairstone_curve_Far), ("pairstone/pair.one", laid_pairstone_pair_one), ("errors.errorType", laid_errors_errorType)] }
def PairFarSaid : Prop := pairFarRow.holds Tryd.pinned (OpenSpec.ofChange pairFarSpec)

/-- ITS FALSE NEIGHBOUR: 'it returns false'. Refute it at one input. -/
def pairFarWrong : ChangeSpec := { name := "pairFar", fn := fun _ => fun
  | [d] => { results := [.lit (.bool false)], args := [d] }
  | _ => none }
def PairFarWrongFalsely : Prop := pairFarRow.holds Tryd.pinned (OpenSpec.ofChange pairFarWrong)

/-- 'stonelaw2.EqualHolds': WHATEVER THE INPUT: true; the input reads as it did. -/
def equalHoldsSpec : ChangeSpec := { name := "equalHolds", fn := fun _ => fun
  | [d1, d2, d3] => { results := [.lit (.bool true)], args := [d1, d2, d3] }
  | _ => none }
def equalHoldsRow : OpenClaim := { program := "ytijemkecjohagaadoor", sum := "27827bdc384417e3add0360f7159f035e6b699bddc65dfff5409804c27cd3fc8", func := "pairstone/stonelaw2.EqualHolds", spec := "equalHolds", named := ["pairstone/curve.Far"], apart := false, laid := [("pairstone/curve.Far", laid_pairstone_curve_Far)] }
def EqualHoldsSaid : Prop := equalHoldsRow.holds Tryd.pinned (OpenSpec.ofChange equalHoldsSpec)

/-- ITS FALSE NEIGHBOUR: 'it returns false'. Refute it at one input. -/
def equalHoldsWrong : ChangeSpec := { name := "equalHolds", fn := fun _ => fun
  | [d1, d2, d3] => { results := [.lit (.bool false)], args := [d1, d2, d3] }
  | _ => none }
def EqualHoldsWrongFalsely : Prop := equalHoldsRow.holds Tryd.pinned (OpenSpec.ofChange equalHoldsWrong)

/-- 'stonelaw4.EqualFalse': WHATEVER THE INPUT: true; the input reads as it did. -/
def equalFalseSpec : ChangeSpec := { name := "equalFalse", fn := fun _ => fun
  | [d1, d2, d3] => { results := [.lit (.bool true)], args := [d1, d2, d3] }
  | _ => none }
def equalFalseRow : OpenClaim := { program := "ytijemkecjohagaadoor", sum := "27827bdc384417e3add0360f7159f035e6b699bddc65dfff5409804c27cd3fc8", func := "pairstone/stonelaw4.EqualFalse", spec := "equalFalse", named := ["pairstone/curve.Far"], apart := false, laid := [("pairstone/curve.Far", laid_pairstone_curve_Far)] }
def EqualFalseSaid : Prop := equalFalseRow.holds Tryd.pinned (OpenSpec.ofChange equalFalseSpec)

/-- ITS FALSE NEIGHBOUR: 'it returns false'. Refute it at one input. -/
def equalFalseWrong : ChangeSpec := { name := "equalFalse", fn := fun _ => fun
  | [d1, d2, d3] => { results := [.lit (.bool false)], args := [d1, d2, d3] }
  | _ => none }
def EqualFalseWrongFalsely : Prop := equalFalseRow.holds Tryd.pinned (OpenSpec.ofChange equalFalseWrong)

/-- 'stonelaw3.AdaptGives': WHATEVER THE INPUT: true; the input reads as it did. -/
def adaptGivesSpec : ChangeSpec := { name := "adaptGives", fn := fun _ => fun
  | [d1, d2, d3, d4, d5] => { results := [.lit (.bool true)], args := [d1, d2, d3, d4, d5] }
  | _ => none }
def adaptGivesRow : OpenClaim := { program := "ytijemkecjohagaadoor", sum := "27827bdc384417e3add0360f7159f035e6b699bddc65dfff5409804c27cd3fc8", func := "pairstone/stonelaw3.AdaptGives", spec := "adaptGives", named := ["pairstone/curve.Far"], apart := false, laid := [("pairstone/curve.Far", laid_pairstone_curve_Far)] }
def AdaptGivesSaid : Prop := adaptGivesRow.holds Tryd.pinned (OpenSpec.ofChange adaptGivesSpec)

/-- ITS FALSE NEIGHBOUR: 'it returns false'. Refute it at one input. -/
def adaptGivesWrong : ChangeSpec := { name := "adaptGives", fn := fun _ => fun
  | [d1, d2, d3, d4, d5] => { results := [.lit (.bool false)], args := [d1, d2, d3, d4, d5] }
  | _ => none }
def AdaptGivesWrongFalsely : Prop := adaptGivesRow.holds Tryd.pinned (OpenSpec.ofChange adaptGivesWrong)

/-- 'stonelaw4.AdaptNone': WHATEVER THE INPUT: true; the input reads as it did. -/
def adaptNoneSpec : ChangeSpec := { name := "adaptNone", fn := fun _ => fun
  | [d1, d2, d3, d4] => { results := [.lit (.bool true)], args := [d1, d2, d3, d4] }
  | _ => none }
def adaptNoneRow : OpenClaim := { program := "ytijemkecjohagaadoor", sum := "27827bdc384417e3add0360f7159f035e6b699bddc65dfff5409804c27cd3fc8", func := "pairstone/stonelaw4.AdaptNone", spec := "adaptNone", inPlace := ["internal/reflectlite.ValueOf", "(internal/reflectlite.Value).Type", "(internal/reflectlite.Value).IsNil", "internal/reflectlite.TypeOf", "(internal/reflectlite.Value).Elem", "(internal/reflectlite.Value).Set"], unfollowed := true, recurses := true, named := ["pairstone/curve.Far", "errors.errorType"], apart := false, laid := [("pairstone/curve.Far", laid_pairstone_curve_Far), ("errors.errorType", laid_errors_errorType)] }
def AdaptNoneSaid : Prop := adaptNoneRow.holds Tryd.pinned (OpenSpec.ofChange adaptNoneSpec)

/-- ITS FALSE NEIGHBOUR: 'it returns false'. Refute it at one input. -/
def adaptNoneWrong : ChangeSpec := { name := "adaptNone", fn := fun _ => fun
  | [d1, d2, d3, d4] => { results := [.lit (.bool false)], args := [d1, d2, d3, d4] }
  | _ => none }
def AdaptNoneWrongFalsely : Prop := adaptNoneRow.holds Tryd.pinned (OpenSpec.ofChange adaptNoneWrong)

/-- 'stonelaw3.BatchHolds': WHATEVER THE INPUT: true; the input reads as it did. -/
def batchHoldsSpec : ChangeSpec := { name := "batchHolds", fn := fun _ => fun
  | [d1, d2, d3, d4, d5, d6] => { results := [.lit (.bool true)], args := [d1, d2, d3, d4, d5, d6] }
  | _ => none }
def batchHoldsRow : OpenClaim := { program := "ytijemkecjohagaadoor", sum := "27827bdc384417e3add0360f7159f035e6b699bddc65dfff5409804c27cd3fc8", func := "pairstone/stonelaw3.BatchHolds", spec := "batchHolds", named := ["pairstone/curve.Far"], apart := false, laid := [("pairstone/curve.Far", laid_pairstone_curve_Far)] }
def BatchHoldsSaid : Prop := batchHoldsRow.holds Tryd.pinned (OpenSpec.ofChange batchHoldsSpec)

/-- ITS FALSE NEIGHBOUR: 'it returns false'. Refute it at one input. -/
def batchHoldsWrong : ChangeSpec := { name := "batchHolds", fn := fun _ => fun
  | [d1, d2, d3, d4, d5, d6] => { results := [.lit (.bool false)], args := [d1, d2, d3, d4, d5, d6] }
  | _ => none }
def BatchHoldsWrongFalsely : Prop := batchHoldsRow.holds Tryd.pinned (OpenSpec.ofChange batchHoldsWrong)

/-- 'stonelaw4.GroupOne': WHATEVER THE INPUT: true; the input reads as it did. -/
def groupOneSpec : ChangeSpec := { name := "groupOne", fn := fun _ => fun
  | [d1, d2, d3] => { results := [.lit (.bool true)], args := [d1, d2, d3] }
  | _ => none }
def groupOneRow : OpenClaim := { program := "ytijemkecjohagaadoor", sum := "27827bdc384417e3add0360f7159f035e6b699bddc65dfff5409804c27cd3fc8", func := "pairstone/stonelaw4.GroupOne", spec := "groupOne", named := ["pairstone/curve.Far"], apart := false, laid := [("pairstone/curve.Far", laid_pairstone_curve_Far)] }
def GroupOneSaid : Prop := groupOneRow.holds Tryd.pinned (OpenSpec.ofChange groupOneSpec)

/-- ITS FALSE NEIGHBOUR: 'it returns false'. Refute it at one input. -/
def groupOneWrong : ChangeSpec := { name := "groupOne", fn := fun _ => fun
  | [d1, d2, d3] => { results := [.lit (.bool false)], args := [d1, d2, d3] }
  | _ => none }
def GroupOneWrongFalsely : Prop := groupOneRow.holds Tryd.pinned (OpenSpec.ofChange groupOneWrong)

/-- 'stonelaw4.ShortOne': WHATEVER THE INPUT: true; the input reads as it did. -/
def shortOneSpec : ChangeSpec := { name := "shortOne", fn := fun _ => fun
  | [d1, d2, d3] => { results := [.lit (.bool true)], args := [d1, d2, d3] }
  | _ => none }
def shortOneRow : OpenClaim := { program := "ytijemkecjohagaadoor", sum := "27827bdc384417e3add0360f7159f035e6b699bddc65dfff5409804c27cd3fc8", func := "pairstone/stonelaw4.ShortOne", spec := "shortOne", named := ["pairstone/curve.Far", "pairstone/pair.one"], apart := false, laid := [("pairstone/curve.Far", laid_pairstone_curve_Far), ("pairstone/pair.one", laid_pairstone_pair_one)] }
def ShortOneSaid : Prop := shortOneRow.holds Tryd.pinned (OpenSpec.ofChange shortOneSpec)

/-- ITS FALSE NEIGHBOUR: 'it returns false'. Refute it at one input. -/
def shortOneWrong : ChangeSpec := { name := "shortOne", fn := fun _ => fun
  | [d1, d2, d3] => { results := [.lit (.bool false)], args := [d1, d2, d3] }
  | _ => none }
def ShortOneWrongFalsely : Prop := shortOneRow.holds Tryd.pinned (OpenSpec.ofChange shortOneWrong)

/-- 'stonelaw2.ShortJoins': WHATEVER THE INPUT: true; the input reads as it did. -/
def shortJoinsSpec : ChangeSpec := { name := "shortJoins", fn := fun _ => fun
  | [d1, d2, d3] => { results := [.lit (.bool true)], args := [d1, d2, d3] }
  | _ => none }
def shortJoinsRow : OpenClaim := { program := "ytijemkecjohagaadoor", sum := "27827bdc384417e3add0360f7159f035e6b699bddc65dfff5409804c27cd3fc8", func := "pairstone/stonelaw2.ShortJoins", spec := "shortJoins", named := ["pairstone/curve.Far", "pairstone/pair.one"], apart := false, laid := [("pairstone/curve.Far", laid_pairstone_curve_Far), ("pairstone/pair.one", laid_pairstone_pair_one)] }
def ShortJoinsSaid : Prop := shortJoinsRow.holds Tryd.pinned (OpenSpec.ofChange shortJoinsSpec)

/-- ITS FALSE NEIGHBOUR: 'it returns false'. Refute it at one input. -/
def shortJoinsWrong : ChangeSpec := { name := "shortJoins", fn := fun _ => fun
  | [d1, d2, d3] => { results := [.lit (.bool false)], args := [d1, d2, d3] }
  | _ => none }
def ShortJoinsWrongFalsely : Prop := shortJoinsRow.holds Tryd.pinned (OpenSpec.ofChange shortJoinsWrong)

/-- 'stonelaw4.QuorumAlone': WHATEVER THE INPUT: true; the input reads as it did. -/
def quorumAloneSpec : ChangeSpec := { name := "quorumAlone", fn := fun _ => fun
  | [d1, d2, d3, d4] => { results := [.lit (.bool true)], args := [d1, d2, d3, d4] }
  | _ => none }
def quorumAloneRow : OpenClaim := { program := "ytijemkecjohagaadoor", sum := "27827bdc384417e3add0360f7159f035e6b699bddc65dfff5409804c27cd3fc8", func := "pairstone/stonelaw4.QuorumAlone", spec := "quorumAlone", unfollowed := true, recurses := true, named := ["pairstone/curve.Far"], apart := false, laid := [("pairstone/curve.Far", laid_pairstone_curve_Far)] }
def QuorumAloneSaid : Prop := quorumAloneRow.holds Tryd.pinned (OpenSpec.ofChange quorumAloneSpec)

/-- ITS FALSE NEIGHBOUR: 'it returns false'. Refute it at one input. -/
def quorumAloneWrong : ChangeSpec := { name := "quorumAlone", fn := fun _ => fun
  | [d1, d2, d3, d4] => { results := [.lit (.bool false)], args := [d1, d2, d3, d4] }
  | _ => none }
def QuorumAloneWrongFalsely : Prop := quorumAloneRow.holds Tryd.pinned (OpenSpec.ofChange quorumAloneWrong)

/-- 'stonelaw1.PrimeTells': WHATEVER THE INPUT: true; the input reads as it did. -/
def primeTellsSpec : ChangeSpec := { name := "primeTells", fn := fun _ => fun
  | [d1, d2, d3] => { results := [.lit (.bool true)], args := [d1, d2, d3] }
  | _ => none }
def primeTellsRow : OpenClaim := { program := "ytijemkecjohagaadoor", sum := "27827bdc384417e3add0360f7159f035e6b699bddc65dfff5409804c27cd3fc8", func := "pairstone/stonelaw1.PrimeTells", spec := "primeTells", inPlace := ["internal/reflectlite.ValueOf", "(internal/reflectlite.Value).Type", "(internal/reflectlite.Value).IsNil", "internal/reflectlite.TypeOf", "(internal/reflectlite.Value).Elem", "(internal/reflectlite.Value).Set"], unfollowed := true, recurses := true, named := ["errors.errorType"], apart := false, laid := [("errors.errorType", laid_errors_errorType)] }
def PrimeTellsSaid : Prop := primeTellsRow.holds Tryd.pinned (OpenSpec.ofChange primeTellsSpec)

/-- ITS FALSE NEIGHBOUR: 'it returns false'. Refute it at one input. -/
def primeTellsWrong : ChangeSpec := { name := "primeTells", fn := fun _ => fun
  | [d1, d2, d3] => { results := [.lit (.bool false)], args := [d1, d2, d3] }
  | _ => none }
def PrimeTellsWrongFalsely : Prop := primeTellsRow.holds Tryd.pinned (OpenSpec.ofChange primeTellsWrong)

/-- 'stonelaw1.TwinTells': WHATEVER THE INPUT: true; the input reads as it did. -/
def twinTellsSpec : ChangeSpec := { name := "twinTells", fn := fun _ => fun
  | [d1, d2, d3] => { results := [.lit (.bool true)], args := [d1, d2, d3] }
  | _ => none }
def twinTellsRow : OpenClaim := { program := "ytijemkecjohagaadoor", sum := "27827bdc384417e3add0360f7159f035e6b699bddc65dfff5409804c27cd3fc8", func := "pairstone/stonelaw1.TwinTells", spec := "twinTells", inPlace := ["internal/reflectlite.ValueOf", "(internal/reflectlite.Value).Type", "(internal/reflectlite.Value).IsNil", "internal/reflectlite.TypeOf", "(internal/reflectlite.Value).Elem", "(internal/reflectlite.Value).Set"], unfollowed := true, recurses := true, named := ["errors.errorType"], apart := false, laid := [("errors.errorType", laid_errors_errorType)] }
def TwinTellsSaid : Prop := twinTellsRow.holds Tryd.pinned (OpenSpec.ofChange twinTellsSpec)

/-- ITS FALSE NEIGHBOUR: 'it returns false'. Refute it at one input. -/
def twinTellsWrong : ChangeSpec := { name := "twinTells", fn := fun _ => fun
  | [d1, d2, d3] => { results := [.lit (.bool false)], args := [d1, d2, d3] }
  | _ => none }
def TwinTellsWrongFalsely : Prop := twinTellsRow.holds Tryd.pinned (OpenSpec.ofChange twinTellsWrong)

/-- 'stonelaw4.CurveLifts': WHATEVER THE INPUT: true; the input reads as it did. -/
def curveLiftsSpec : ChangeSpec := { name := "curveLifts", fn := fun _ => fun
  | [d] => { results := [.lit (.bool true)], args := [d] }
  | _ => none }
def curveLiftsRow : OpenClaim := { program := "ytijemkecjohagaadoor", sum := "27827bdc384417e3add0360f7159f035e6b699bddc65dfff5409804c27cd3fc8", func := "pairstone/stonelaw4.CurveLifts", spec := "curveLifts", inPlace := ["internal/reflectlite.ValueOf", "(internal/reflectlite.Value).Type", "(internal/reflectlite.Value).IsNil", "internal/reflectlite.TypeOf", "(internal/reflectlite.Value).Elem", "(internal/reflectlite.Value).Set"], unfollowed := true, recurses := true, named := ["errors.errorType", "pairstone/curve.Far"], apart := false, laid := [("pairstone/curve.Far", laid_pairstone_curve_Far), ("errors.errorType", laid_errors_errorType)] }
def CurveLiftsSaid : Prop := curveLiftsRow.holds Tryd.pinned (OpenSpec.ofChange curveLiftsSpec)

/-- ITS FALSE NEIGHBOUR: 'it returns false'. Refute it at one input. -/
def curveLiftsWrong : ChangeSpec := { name := "curveLifts", fn := fun _ => fun
  | [d] => { results := [.lit (.bool false)], args := [d] }
  | _ => none }
def CurveLiftsWrongFalsely : Prop := curveLiftsRow.holds Tryd.pinned (OpenSpec.ofChange curveLiftsWrong)

/-- 'stonelaw1.HashTells': WHATEVER THE INPUT: true; the input reads as it did. -/
def hashTellsSpec : ChangeSpec := { name := "hashTells", fn := fun _ => fun
  | [d] => { results := [.lit (.bool true)], args := [d] }
  | _ => none }
def hashTellsRow : OpenClaim := { program := "ytijemkecjohagaadoor", sum := "27827bdc384417e3add0360f7159f035e6b699bddc65dfff5409804c27cd3fc8", func := "pairstone/stonelaw1.HashTells", spec := "hashTells", recurses := true, named := ["pairstone/curve.Far"], apart := false, laid := [("pairstone/curve.Far", laid_pairstone_curve_Far)] }
def HashTellsSaid : Prop := hashTellsRow.holds Tryd.pinned (OpenSpec.ofChange hashTellsSpec)

/-- ITS FALSE NEIGHBOUR: 'it returns false'. Refute it at one input. -/
def hashTellsWrong : ChangeSpec := { name := "hashTells", fn := fun _ => fun
  | [d] => { results := [.lit (.bool false)], args := [d] }
  | _ => none }
def HashTellsWrongFalsely : Prop := hashTellsRow.holds Tryd.pinned (OpenSpec.ofChange hashTellsWrong)

/-- 'stonelaw1.CurveTells': WHATEVER THE INPUT: true; the input reads as it did. -/
def curveTellsSpec : ChangeSpec := { name := "curveTells", fn := fun _ => fun
  | [d1, d2, d3] => { results := [.lit (.bool true)], args := [d1, d2, d3] }
  | _ => none }
def curveTellsRow : OpenClaim := { program := "ytijemkecjohagaadoor", sum := "27827bdc384417e3add0360f7159f035e6b699bddc65dfff5409804c27cd3fc8", func := "pairstone/stonelaw1.CurveTells", spec := "curveTells", inPlace := ["internal/reflectlite.ValueOf", "(internal/reflectlite.Value).Type", "(internal/reflectlite.Value).IsNil", "internal/reflectlite.TypeOf", "(internal/reflectlite.Value).Elem", "(internal/reflectlite.Value).Set"], unfollowed := true, recurses := true, named := ["pairstone/curve.Far", "errors.errorType"], apart := false, laid := [("pairstone/curve.Far", laid_pairstone_curve_Far), ("errors.errorType", laid_errors_errorType)] }
def CurveTellsSaid : Prop := curveTellsRow.holds Tryd.pinned (OpenSpec.ofChange curveTellsSpec)

/-- ITS FALSE NEIGHBOUR: 'it returns false'. Refute it at one input. -/
def curveTellsWrong : ChangeSpec := { name := "curveTells", fn := fun _ => fun
  | [d1, d2, d3] => { results := [.lit (.bool false)], args := [d1, d2, d3] }
  | _ => none }
def CurveTellsWrongFalsely : Prop := curveTellsRow.holds Tryd.pinned (OpenSpec.ofChange curveTellsWrong)

/-- 'stonelaw1.BytesTell': WHATEVER THE INPUT: true; the input reads as it did. -/
def bytesTellSpec : ChangeSpec := { name := "bytesTell", fn := fun _ => fun
  | [d1, d2, d3] => { results := [.lit (.bool true)], args := [d1, d2, d3] }
  | _ => none }
def bytesTellRow : OpenClaim := { program := "ytijemkecjohagaadoor", sum := "27827bdc384417e3add0360f7159f035e6b699bddc65dfff5409804c27cd3fc8", func := "pairstone/stonelaw1.BytesTell", spec := "bytesTell", inPlace := ["internal/reflectlite.ValueOf", "(internal/reflectlite.Value).Type", "(internal/reflectlite.Value).IsNil", "internal/reflectlite.TypeOf", "(internal/reflectlite.Value).Elem", "(internal/reflectlite.Value).Set"], unfollowed := true, recurses := true, named := ["pairstone/curve.Far", "errors.errorType"], apart := false, laid := [("pairstone/curve.Far", laid_pairstone_curve_Far), ("errors.errorType", laid_errors_errorType)] }
def BytesTellSaid : Prop := bytesTellRow.holds Tryd.pinned (OpenSpec.ofChange bytesTellSpec)

/-- ITS FALSE NEIGHBOUR: 'it returns false'. Refute it at one input. -/
def bytesTellWrong : ChangeSpec := { name := "bytesTell", fn := fun _ => fun
  | [d1, d2, d3] => { results := [.lit (.bool false)], args := [d1, d2, d3] }
  | _ => none }
def BytesTellWrongFalsely : Prop := bytesTellRow.holds Tryd.pinned (OpenSpec.ofChange bytesTellWrong)

/-- 'stonelaw2.GroupSeals': WHATEVER THE INPUT: true; the input reads as it did. -/
def groupSealsSpec : ChangeSpec := { name := "groupSeals", fn := fun _ => fun
  | [d1, d2, d3, d4] => { results := [.lit (.bool true)], args := [d1, d2, d3, d4] }
  | _ => none }
def groupSealsRow : OpenClaim := { program := "ytijemkecjohagaadoor", sum := "27827bdc384417e3add0360f7159f035e6b699bddc65dfff5409804c27cd3fc8", func := "pairstone/stonelaw2.GroupSeals", spec := "groupSeals", named := ["pairstone/curve.Far"], apart := false, laid := [("pairstone/curve.Far", laid_pairstone_curve_Far)] }
def GroupSealsSaid : Prop := groupSealsRow.holds Tryd.pinned (OpenSpec.ofChange groupSealsSpec)

/-- ITS FALSE NEIGHBOUR: 'it returns false'. Refute it at one input. -/
def groupSealsWrong : ChangeSpec := { name := "groupSeals", fn := fun _ => fun
  | [d1, d2, d3, d4] => { results := [.lit (.bool false)], args := [d1, d2, d3, d4] }
  | _ => none }
def GroupSealsWrongFalsely : Prop := groupSealsRow.holds Tryd.pinned (OpenSpec.ofChange groupSealsWrong)

/-- 'stonelaw3.RingHolds': WHATEVER THE INPUT: true; the input reads as it did. -/
def ringHoldsSpec : ChangeSpec := { name := "ringHolds", fn := fun _ => fun
  | [d1, d2, d3, d4, d5] => { results := [.lit (.bool true)], args := [d1, d2, d3, d4, d5] }
  | _ => none }
def ringHoldsRow : OpenClaim := { program := "ytijemkecjohagaadoor", sum := "27827bdc384417e3add0360f7159f035e6b699bddc65dfff5409804c27cd3fc8", func := "pairstone/stonelaw3.RingHolds", spec := "ringHolds", unfollowed := true, recurses := true, named := ["pairstone/curve.Far"], apart := false, laid := [("pairstone/curve.Far", laid_pairstone_curve_Far)] }
def RingHoldsSaid : Prop := ringHoldsRow.holds Tryd.pinned (OpenSpec.ofChange ringHoldsSpec)

/-- ITS FALSE NEIGHBOUR: 'it returns false'. Refute it at one input. -/
def ringHoldsWrong : ChangeSpec := { name := "ringHolds", fn := fun _ => fun
  | [d1, d2, d3, d4, d5] => { results := [.lit (.bool false)], args := [d1, d2, d3, d4, d5] }
  | _ => none }
def RingHoldsWrongFalsely : Prop := ringHoldsRow.holds Tryd.pinned (OpenSpec.ofChange ringHoldsWrong)

/-- 'stonetop.TopMixed': WHATEVER THE INPUT: true; the input reads as it did. -/
def topMixedSpec : ChangeSpec := { name := "topMixed", fn := fun _ => fun
  | [d1, d2, d3, d4, d5] => { results := [.lit (.bool true)], args := [d1, d2, d3, d4, d5] }
  | _ => none }
def topMixedRow : OpenClaim := { program := "ytijemkecjohagaadoor", sum := "27827bdc384417e3add0360f7159f035e6b699bddc65dfff5409804c27cd3fc8", func := "pairstone/stonetop.TopMixed", spec := "topMixed", named := ["pairstone/curve.Far"], apart := false, laid := [("pairstone/curve.Far", laid_pairstone_curve_Far)] }
def TopMixedSaid : Prop := topMixedRow.holds Tryd.pinned (OpenSpec.ofChange topMixedSpec)

/-- ITS FALSE NEIGHBOUR: 'it returns false'. Refute it at one input. -/
def topMixedWrong : ChangeSpec := { name := "topMixed", fn := fun _ => fun
  | [d1, d2, d3, d4, d5] => { results := [.lit (.bool false)], args := [d1, d2, d3, d4, d5] }
  | _ => none }
def TopMixedWrongFalsely : Prop := topMixedRow.holds Tryd.pinned (OpenSpec.ofChange topMixedWrong)

/-- 'stonelaw2.QuorumSeals': WHATEVER THE INPUT: true; the input reads as it did. -/
def quorumSealsSpec : ChangeSpec := { name := "quorumSeals", fn := fun _ => fun
  | [d1, d2, d3, d4] => { results := [.lit (.bool true)], args := [d1, d2, d3, d4] }
  | _ => none }
def quorumSealsRow : OpenClaim := { program := "ytijemkecjohagaadoor", sum := "27827bdc384417e3add0360f7159f035e6b699bddc65dfff5409804c27cd3fc8", func := "pairstone/stonelaw2.QuorumSeals", spec := "quorumSeals", unfollowed := true, recurses := true, named := ["pairstone/curve.Far"], apart := false, laid := [("pairstone/curve.Far", laid_pairstone_curve_Far)] }
def QuorumSealsSaid : Prop := quorumSealsRow.holds Tryd.pinned (OpenSpec.ofChange quorumSealsSpec)

/-- ITS FALSE NEIGHBOUR: 'it returns false'. Refute it at one input. -/
def quorumSealsWrong : ChangeSpec := { name := "quorumSeals", fn := fun _ => fun
  | [d1, d2, d3, d4] => { results := [.lit (.bool false)], args := [d1, d2, d3, d4] }
  | _ => none }
def QuorumSealsWrongFalsely : Prop := quorumSealsRow.holds Tryd.pinned (OpenSpec.ofChange quorumSealsWrong)

/- THE SECOND FORM. 'bulk': how many values and letters a reading holds, each counted each time it is reached (what is shared counts as often as it is met; a slice's spare places count too). A statement '..UptoSaid' is the law's where the arguments, and the package variables that the reading takes, are together of bulk at most 1048576: NARROWER than '..Said'. Prove '..Said' where nothing that the law and all that it calls make is longer than what came in: it says more and counts as full. Else prove '..UptoSaid'. A law counts once. -/
mutual
def uptoBulk {H : Type} : DataW H → Nat
  | .lit (.string bytes) => bytes.length + 1
  | .lit _ => 1
  | .nil => 1
  | .ptr d => uptoBulk d + 1
  | .slice elems spare => uptoBulkAll elems + uptoBulkAll spare + 1
  | .agg parts => uptoBulkAll parts + 1
  | .iface _ d => uptoBulk d + 1
  | .map entries => uptoBulkEntries entries + 1
  | .held _ => 1
def uptoBulkAll {H : Type} : List (DataW H) → Nat
  | [] => 0
  | d :: r => uptoBulk d + uptoBulkAll r
def uptoBulkEntries {H : Type} : List (Lit × DataW H) → Nat
  | [] => 0
  | x :: r => uptoBulkEntry x + uptoBulkEntries r
def uptoBulkEntry {H : Type} : Lit × DataW H → Nat
  | (.string bytes, d) => bytes.length + uptoBulk d + 1
  | (_, d) => uptoBulk d + 1
 end
def uptoSmall : (H : Type) → List (DataW H) → Bool := fun _ ds => decide (uptoBulkAll ds ≤ 1048576)
def OpenSpec.upto (s : _root_.Go.ChangeSpec) : _root_.Go.OpenSpec := { _root_.Go.OpenSpec.ofChange s with cond := some uptoSmall }

/-- 'stonetop.TopKeys', WHERE WHAT IT READS IS OF BULK AT MOST 1048576: true; the input reads as it did. -/
def topKeysUptoRow : OpenClaim := { program := "ytijemkecjohagaadoor", sum := "27827bdc384417e3add0360f7159f035e6b699bddc65dfff5409804c27cd3fc8", func := "pairstone/stonetop.TopKeys", spec := "topKeys", named := ["pairstone/curve.Far", "pairstone/pair.one"], apart := false, laid := [("pairstone/curve.Far", laid_pairstone_curve_Far), ("pairstone/pair.one", laid_pairstone_pair_one)], narrowed := true }
def TopKeysUptoSaid : Prop := topKeysUptoRow.holds Tryd.pinned (OpenSpec.upto topKeysSpec)

/-- 'stonelaw4.PairFar', WHERE WHAT IT READS IS OF BULK AT MOST 1048576: true; the input reads as it did. -/
def pairFarUptoRow : OpenClaim := { program := "ytijemkecjohagaadoor", sum := "27827bdc384417e3add0360f7159f035e6b699bddc65dfff5409804c27cd3fc8", func := "pairstone/stonelaw4.PairFar", spec := "pairFar", inPlace := ["internal/reflectlite.ValueOf", "(internal/reflectlite.Value).Type", "(internal/reflectlite.Value).IsNil", "internal/reflectlite.TypeOf", "(internal/reflectlite.Value).Elem", "(internal/reflectlite.Value).Set"], unfollowed := true, recurses := true, named := ["pairstone/curve.Far", "pairstone/pair.one", "errors.errorType"], apart := false, laid := [("pairstone/curve.Far", laid_pairstone_curve_Far), ("pairstone/pair.one", laid_pairstone_pair_one), ("errors.errorType", laid_errors_errorType)], narrowed := true }
def PairFarUptoSaid : Prop := pairFarUptoRow.holds Tryd.pinned (OpenSpec.upto pairFarSpec)

/-- 'stonelaw2.EqualHolds', WHERE WHAT IT READS IS OF BULK AT MOST 1048576: true; the input reads as it did. -/
def equalHoldsUptoRow : OpenClaim := { program := "ytijemkecjohagaadoor", sum := "27827bdc384417e3add0360f7159f035e6b699bddc65dfff5409804c27cd3fc8", func := "pairstone/stonelaw2.EqualHolds", spec := "equalHolds", named := ["pairstone/curve.Far"], apart := false, laid := [("pairstone/curve.Far", laid_pairstone_curve_Far)], narrowed := true }
def EqualHoldsUptoSaid : Prop := equalHoldsUptoRow.holds Tryd.pinned (OpenSpec.upto equalHoldsSpec)

/-- 'stonelaw4.EqualFalse', WHERE WHAT IT READS IS OF BULK AT MOST 1048576: true; the input reads as it did. -/
def equalFalseUptoRow : OpenClaim := { program := "ytijemkecjohagaadoor", sum := "27827bdc384417e3add0360f7159f035e6b699bddc65dfff5409804c27cd3fc8", func := "pairstone/stonelaw4.EqualFalse", spec := "equalFalse", named := ["pairstone/curve.Far"], apart := false, laid := [("pairstone/curve.Far", laid_pairstone_curve_Far)], narrowed := true }
def EqualFalseUptoSaid : Prop := equalFalseUptoRow.holds Tryd.pinned (OpenSpec.upto equalFalseSpec)

/-- 'stonelaw3.AdaptGives', WHERE WHAT IT READS IS OF BULK AT MOST 1048576: true; the input reads as it did. -/
def adaptGivesUptoRow : OpenClaim := { program := "ytijemkecjohagaadoor", sum := "27827bdc384417e3add0360f7159f035e6b699bddc65dfff5409804c27cd3fc8", func := "pairstone/stonelaw3.AdaptGives", spec := "adaptGives", named := ["pairstone/curve.Far"], apart := false, laid := [("pairstone/curve.Far", laid_pairstone_curve_Far)], narrowed := true }
def AdaptGivesUptoSaid : Prop := adaptGivesUptoRow.holds Tryd.pinned (OpenSpec.upto adaptGivesSpec)

/-- 'stonelaw4.AdaptNone', WHERE WHAT IT READS IS OF BULK AT MOST 1048576: true; the input reads as it did. -/
def adaptNoneUptoRow : OpenClaim := { program := "ytijemkecjohagaadoor", sum := "27827bdc384417e3add0360f7159f035e6b699bddc65dfff5409804c27cd3fc8", func := "pairstone/stonelaw4.AdaptNone", spec := "adaptNone", inPlace := ["internal/reflectlite.ValueOf", "(internal/reflectlite.Value).Type", "(internal/reflectlite.Value).IsNil", "internal/reflectlite.TypeOf", "(internal/reflectlite.Value).Elem", "(internal/reflectlite.Value).Set"], unfollowed := true, recurses := true, named := ["pairstone/curve.Far", "errors.errorType"], apart := false, laid := [("pairstone/curve.Far", laid_pairstone_curve_Far), ("errors.errorType", laid_errors_errorType)], narrowed := true }
def AdaptNoneUptoSaid : Prop := adaptNoneUptoRow.holds Tryd.pinned (OpenSpec.upto adaptNoneSpec)

/-- 'stonelaw3.BatchHolds', WHERE WHAT IT READS IS OF BULK AT MOST 1048576: true; the input reads as it did. -/
def batchHoldsUptoRow : OpenClaim := { program := "ytijemkecjohagaadoor", sum := "27827bdc384417e3add0360f7159f035e6b699bddc65dfff5409804c27cd3fc8", func := "pairstone/stonelaw3.BatchHolds", spec := "batchHolds", named := ["pairstone/curve.Far"], apart := false, laid := [("pairstone/curve.Far", laid_pairstone_curve_Far)], narrowed := true }
def BatchHoldsUptoSaid : Prop := batchHoldsUptoRow.holds Tryd.pinned (OpenSpec.upto batchHoldsSpec)

/-- 'stonelaw4.GroupOne', WHERE WHAT IT READS IS OF BULK AT MOST 1048576: true; the input reads as it did. -/
def groupOneUptoRow : OpenClaim := { program := "ytijemkecjohagaadoor", sum := "27827bdc384417e3add0360f7159f035e6b699bddc65dfff5409804c27cd3fc8", func := "pairstone/stonelaw4.GroupOne", spec := "groupOne", named := ["pairstone/curve.Far"], apart := false, laid := [("pairstone/curve.Far", laid_pairstone_curve_Far)], narrowed := true }
def GroupOneUptoSaid : Prop := groupOneUptoRow.holds Tryd.pinned (OpenSpec.upto groupOneSpec)

/-- 'stonelaw4.ShortOne', WHERE WHAT IT READS IS OF BULK AT MOST 1048576: true; the input reads as it did. -/
def shortOneUptoRow : OpenClaim := { program := "ytijemkecjohagaadoor", sum := "27827bdc384417e3add0360f7159f035e6b699bddc65dfff5409804c27cd3fc8", func := "pairstone/stonelaw4.ShortOne", spec := "shortOne", named := ["pairstone/curve.Far", "pairstone/pair.one"], apart := false, laid := [("pairstone/curve.Far", laid_pairstone_curve_Far), ("pairstone/pair.one", laid_pairstone_pair_one)], narrowed := true }
def ShortOneUptoSaid : Prop := shortOneUptoRow.holds Tryd.pinned (OpenSpec.upto shortOneSpec)

/-- 'stonelaw2.ShortJoins', WHERE WHAT IT READS IS OF BULK AT MOST 1048576: true; the input reads as it did. -/
def shortJoinsUptoRow : OpenClaim := { program := "ytijemkecjohagaadoor", sum := "27827bdc384417e3add0360f7159f035e6b699bddc65dfff5409804c27cd3fc8", func := "pairstone/stonelaw2.ShortJoins", spec := "shortJoins", named := ["pairstone/curve.Far", "pairstone/pair.one"], apart := false, laid := [("pairstone/curve.Far", laid_pairstone_curve_Far), ("pairstone/pair.one", laid_pairstone_pair_one)], narrowed := true }
def ShortJoinsUptoSaid : Prop := shortJoinsUptoRow.holds Tryd.pinned (OpenSpec.upto shortJoinsSpec)

/-- 'stonelaw4.QuorumAlone', WHERE WHAT IT READS IS OF BULK AT MOST 1048576: true; the input reads as it did. -/
def quorumAloneUptoRow : OpenClaim := { program := "ytijemkecjohagaadoor", sum := "27827bdc384417e3add0360f7159f035e6b699bddc65dfff5409804c27cd3fc8", func := "pairstone/stonelaw4.QuorumAlone", spec := "quorumAlone", unfollowed := true, recurses := true, named := ["pairstone/curve.Far"], apart := false, laid := [("pairstone/curve.Far", laid_pairstone_curve_Far)], narrowed := true }
def QuorumAloneUptoSaid : Prop := quorumAloneUptoRow.holds Tryd.pinned (OpenSpec.upto quorumAloneSpec)

/-- 'stonelaw1.PrimeTells', WHERE WHAT IT READS IS OF BULK AT MOST 1048576: true; the input reads as it did. -/
def primeTellsUptoRow : OpenClaim := { program := "ytijemkecjohagaadoor", sum := "27827bdc384417e3add0360f7159f035e6b699bddc65dfff5409804c27cd3fc8", func := "pairstone/stonelaw1.PrimeTells", spec := "primeTells", inPlace := ["internal/reflectlite.ValueOf", "(internal/reflectlite.Value).Type", "(internal/reflectlite.Value).IsNil", "internal/reflectlite.TypeOf", "(internal/reflectlite.Value).Elem", "(internal/reflectlite.Value).Set"], unfollowed := true, recurses := true, named := ["errors.errorType"], apart := false, laid := [("errors.errorType", laid_errors_errorType)], narrowed := true }
def PrimeTellsUptoSaid : Prop := primeTellsUptoRow.holds Tryd.pinned (OpenSpec.upto primeTellsSpec)

/-- 'stonelaw1.TwinTells', WHERE WHAT IT READS IS OF BULK AT MOST 1048576: true; the input reads as it did. -/
def twinTellsUptoRow : OpenClaim := { program := "ytijemkecjohagaadoor", sum := "27827bdc384417e3add0360f7159f035e6b699bddc65dfff5409804c27cd3fc8", func := "pairstone/stonelaw1.TwinTells", spec := "twinTells", inPlace := ["internal/reflectlite.ValueOf", "(internal/reflectlite.Value).Type", "(internal/reflectlite.Value).IsNil", "internal/reflectlite.TypeOf", "(internal/reflectlite.Value).Elem", "(internal/reflectlite.Value).Set"], unfollowed := true, recurses := true, named := ["errors.errorType"], apart := false, laid := [("errors.errorType", laid_errors_errorType)], narrowed := true }
def TwinTellsUptoSaid : Prop := twinTellsUptoRow.holds Tryd.pinned (OpenSpec.upto twinTellsSpec)

/-- 'stonelaw4.CurveLifts', WHERE WHAT IT READS IS OF BULK AT MOST 1048576: true; the input reads as it did. -/
def curveLiftsUptoRow : OpenClaim := { program := "ytijemkecjohagaadoor", sum := "27827bdc384417e3add0360f7159f035e6b699bddc65dfff5409804c27cd3fc8", func := "pairstone/stonelaw4.CurveLifts", spec := "curveLifts", inPlace := ["internal/reflectlite.ValueOf", "(internal/reflectlite.Value).Type", "(internal/reflectlite.Value).IsNil", "internal/reflectlite.TypeOf", "(internal/reflectlite.Value).Elem", "(internal/reflectlite.Value).Set"], unfollowed := true, recurses := true, named := ["errors.errorType", "pairstone/curve.Far"], apart := false, laid := [("pairstone/curve.Far", laid_pairstone_curve_Far), ("errors.errorType", laid_errors_errorType)], narrowed := true }
def CurveLiftsUptoSaid : Prop := curveLiftsUptoRow.holds Tryd.pinned (OpenSpec.upto curveLiftsSpec)

/-- 'stonelaw1.HashTells', WHERE WHAT IT READS IS OF BULK AT MOST 1048576: true; the input reads as it did. -/
def hashTellsUptoRow : OpenClaim := { program := "ytijemkecjohagaadoor", sum := "27827bdc384417e3add0360f7159f035e6b699bddc65dfff5409804c27cd3fc8", func := "pairstone/stonelaw1.HashTells", spec := "hashTells", recurses := true, named := ["pairstone/curve.Far"], apart := false, laid := [("pairstone/curve.Far", laid_pairstone_curve_Far)], narrowed := true }
def HashTellsUptoSaid : Prop := hashTellsUptoRow.holds Tryd.pinned (OpenSpec.upto hashTellsSpec)

/-- 'stonelaw1.CurveTells', WHERE WHAT IT READS IS OF BULK AT MOST 1048576: true; the input reads as it did. -/
def curveTellsUptoRow : OpenClaim := { program := "ytijemkecjohagaadoor", sum := "27827bdc384417e3add0360f7159f035e6b699bddc65dfff5409804c27cd3fc8", func := "pairstone/stonelaw1.CurveTells", spec := "curveTells", inPlace := ["internal/reflectlite.ValueOf", "(internal/reflectlite.Value).Type", "(internal/reflectlite.Value).IsNil", "internal/reflectlite.TypeOf", "(internal/reflectlite.Value).Elem", "(internal/reflectlite.Value).Set"], unfollowed := true, recurses := true, named := ["pairstone/curve.Far", "errors.errorType"], apart := false, laid := [("pairstone/curve.Far", laid_pairstone_curve_Far), ("errors.errorType", laid_errors_errorType)], narrowed := true }
def CurveTellsUptoSaid : Prop := curveTellsUptoRow.holds Tryd.pinned (OpenSpec.upto curveTellsSpec)

/-- 'stonelaw1.BytesTell', WHERE WHAT IT READS IS OF BULK AT MOST 1048576: true; the input reads as it did. -/
def bytesTellUptoRow : OpenClaim := { program := "ytijemkecjohagaadoor", sum := "27827bdc384417e3add0360f7159f035e6b699bddc65dfff5409804c27cd3fc8", func := "pairstone/stonelaw1.BytesTell", spec := "bytesTell", inPlace := ["internal/reflectlite.ValueOf", "(internal/reflectlite.Value).Type", "(internal/reflectlite.Value).IsNil", "internal/reflectlite.TypeOf", "(internal/reflectlite.Value).Elem", "(internal/reflectlite.Value).Set"], unfollowed := true, recurses := true, named := ["pairstone/curve.Far", "errors.errorType"], apart := false, laid := [("pairstone/curve.Far", laid_pairstone_curve_Far), ("errors.errorType", laid_errors_errorType)], narrowed := true }
def BytesTellUptoSaid : Prop := bytesTellUptoRow.holds Tryd.pinned (OpenSpec.upto bytesTellSpec)

/-- 'stonelaw2.GroupSeals', WHERE WHAT IT READS IS OF BULK AT MOST 1048576: true; the input reads as it did. -/
def groupSealsUptoRow : OpenClaim := { program := "ytijemkecjohagaadoor", sum := "27827bdc384417e3add0360f7159f035e6b699bddc65dfff5409804c27cd3fc8", func := "pairstone/stonelaw2.GroupSeals", spec := "groupSeals", named := ["pairstone/curve.Far"], apart := false, laid := [("pairstone/curve.Far", laid_pairstone_curve_Far)], narrowed := true }
def GroupSealsUptoSaid : Prop := groupSealsUptoRow.holds Tryd.pinned (OpenSpec.upto groupSealsSpec)

/-- 'stonelaw3.RingHolds', WHERE WHAT IT READS IS OF BULK AT MOST 1048576: true; the input reads as it did. -/
def ringHoldsUptoRow : OpenClaim := { program := "ytijemkecjohagaadoor", sum := "27827bdc384417e3add0360f7159f035e6b699bddc65dfff5409804c27cd3fc8", func := "pairstone/stonelaw3.RingHolds", spec := "ringHolds", unfollowed := true, recurses := true, named := ["pairstone/curve.Far"], apart := false, laid := [("pairstone/curve.Far", laid_pairstone_curve_Far)], narrowed := true }
def RingHoldsUptoSaid : Prop := ringHoldsUptoRow.holds Tryd.pinned (OpenSpec.upto ringHoldsSpec)

/-- 'stonetop.TopMixed', WHERE WHAT IT READS IS OF BULK AT MOST 1048576: true; the input reads as it did. -/
def topMixedUptoRow : OpenClaim := { program := "ytijemkecjohagaadoor", sum := "27827bdc384417e3add0360f7159f035e6b699bddc65dfff5409804c27cd3fc8", func := "pairstone/stonetop.TopMixed", spec := "topMixed", named := ["pairstone/curve.Far"], apart := false, laid := [("pairstone/curve.Far", laid_pairstone_curve_Far)], narrowed := true }
def TopMixedUptoSaid : Prop := topMixedUptoRow.holds Tryd.pinned (OpenSpec.upto topMixedSpec)

/-- 'stonelaw2.QuorumSeals', WHERE WHAT IT READS IS OF BULK AT MOST 1048576: true; the input reads as it did. -/
def quorumSealsUptoRow : OpenClaim := { program := "ytijemkecjohagaadoor", sum := "27827bdc384417e3add0360f7159f035e6b699bddc65dfff5409804c27cd3fc8", func := "pairstone/stonelaw2.QuorumSeals", spec := "quorumSeals", unfollowed := true, recurses := true, named := ["pairstone/curve.Far"], apart := false, laid := [("pairstone/curve.Far", laid_pairstone_curve_Far)], narrowed := true }
def QuorumSealsUptoSaid : Prop := quorumSealsUptoRow.holds Tryd.pinned (OpenSpec.upto quorumSealsSpec)

end Rows
end Go.Proofs.YtijemkecjohagaaDoor
