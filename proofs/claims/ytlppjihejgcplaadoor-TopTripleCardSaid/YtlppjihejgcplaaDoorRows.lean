/-
  NARROWER THAN 'FOR EVERY INPUT', by the rows' own cells (each row's printed sentence says how): BytesLong: laid · BytesBack: laid · HashTells: laid · SealKeys: laid · HashCounts: laid · TimesHold: laid · TopTriple: laid · HideNone: laid · HideAny: laid · SealHolds: laid · QuorumAlone: laid · PrimeTells: laid · CurveLifts: laid · TwinTells: laid · TopKeys: laid · EqualHolds: laid · EqualFalse: laid · PairHolds: laid.
  DERIVED. THE GIVEN ROWS OF THIS SEAT. 18 by the template 'for every input the law returns true; each argument reads behind the call as it read before'; 0 by the template 'total and deterministic' (their statements: YtlppjihejgcplaaDoorTotals.lean).
  GIVEN WITH THE SEED: the statements are not yours to turn. If you find one false, say at which input.
  Laid BY PROGRAM, IN A SANDBOX (cutbox-rows.mjs): the forced cells as the released guide's own fill.sh prints them over the translation a3401cf7a849b201… (all of the seat's roots in one cut). By AI agents, Wed Nov 11 2026. No macro, syntax, notation, axiom, sorry.
-/
import Derived.Test.YtlppjihejgcplaaDoorChecked
import GoSem.Claim
import GoSem.ClaimJoined
import GoSem.ClaimMapViews
import Derived.JoinedTies
import Derived.KernelRfl
namespace Go.Proofs.YtlppjihejgcplaaDoor
/- THE CELL 'sum', in the pinned program and in every row, IS THE sha256 OF THE DUMP (.gsa) THAT YtlppjihejgcplaaDoorProg.lean LOADS. Nothing in Lean hashes anything: it is a label: what it is worth is what the hold of that sum in a sandbox is worth. -/
noncomputable def Tryd.pinned : Pinned := { name := "ytlppjihejgcplaadoor", sum := "a3401cf7a849b201427738f5905c056687a8f2fdfe4f8fe1229684f30f4f5b29", checked := Tryd.checked }
namespace Rows
def none {H : Type} : Left H := { results := [], args := [] }

/- WHAT THE LISTED PACKAGE-LEVEL VARIABLES READ AS WHEN THE CALL BEGINS. Each datum BY PROGRAM (the guide's laid-datum.mjs) off the statement by which the dump's own 'gosem.cut.vars' lays the variable. In a bare row this is a premise. The card (YtlppjihejgcplaaDoorCards.lean) ties it to the program's text. -/
def laid_pairstone_curve_Far {H : Type} : DataW H := .agg [.lit (.int .i64 0), .lit (.int .i64 0), .lit (.bool true)]
def laid_pairstone_pair_one {H : Type} : DataW H := .agg [.lit (.int .i64 1), .lit (.int .i64 0)]
def laid_errors_errorType {H : Type} : DataW H := .iface "internal/reflectlite.rtype" (.agg [.ptr (.lit (.string [101, 114, 114, 111, 114]))])

/-- 'stonelaw4.BytesLong': WHATEVER THE INPUT: true; the input reads as it did. -/
def bytesLongSpec : ChangeSpec := { name := "bytesLong", fn := fun _ => fun
  | [d] => { results := [.lit (.bool true)], args := [d] }
  | _ => none }
def bytesLongRow : OpenClaim := { program := "ytlppjihejgcplaadoor", sum := "a3401cf7a849b201427738f5905c056687a8f2fdfe4f8fe1229684f30f4f5b29", func := "pairstone/stonelaw4.BytesLong", spec := "bytesLong", named := ["pairstone/curve.Far"], apart := false, laid := [("pairstone/curve.Far", laid_pairstone_curve_Far)] }
def BytesLongSaid : Prop := bytesLongRow.holds Tryd.pinned (OpenSpec.ofChange bytesLongSpec)

/-- ITS FALSE NEIGHBOUR: 'it returns false'. Refute it at one input. -/
def bytesLongWrong : ChangeSpec := { name := "bytesLong", fn := fun _ => fun
  | [d] => { results := [.lit (.bool false)], args := [d] }
  | _ => none }
def BytesLongWrongFalsely : Prop := bytesLongRow.holds Tryd.pinned (OpenSpec.ofChange bytesLongWrong)

/-- 'stonelaw1.BytesBack': WHATEVER THE INPUT: true; the input reads as it did. -/
def bytesBackSpec : ChangeSpec := { name := "bytesBack", fn := fun _ => fun
  | [d1, d2] => { results := [.lit (.bool true)], args := [d1, d2] }
  | _ => none }
def bytesBackRow : OpenClaim := { program := "ytlppjihejgcplaadoor", sum := "a3401cf7a849b201427738f5905c056687a8f2fdfe4f8fe1229684f30f4f5b29", func := "pairstone/stonelaw1.BytesBack", spec := "bytesBack", named := ["pairstone/curve.Far"], apart := false, laid := [("pairstone/curve.Far", laid_pairstone_curve_Far)] }
def BytesBackSaid : Prop := bytesBackRow.holds Tryd.pinned (OpenSpec.ofChange bytesBackSpec)

/-- ITS FALSE NEIGHBOUR: 'it returns false'. Refute it at one input. -/
def bytesBackWrong : ChangeSpec := { name := "bytesBack", fn := fun _ => fun
  | [d1, d2] => { results := [.lit (.bool false)], args := [d1, d2] }
  | _ => none }
def BytesBackWrongFalsely : Prop := bytesBackRow.holds Tryd.pinned (OpenSpec.ofChange bytesBackWrong)

/-- 'stonelaw1.HashTells': WHATEVER THE INPUT: true; the input reads as it did. -/
def hashTellsSpec : ChangeSpec := { name := "hashTells", fn := fun _ => fun
  | [d] => { results := [.lit (.bool true)], args := [d] }
  | _ => none }
def hashTellsRow : OpenClaim := { program := "ytlppjihejgcplaadoor", sum := "a3401cf7a849b201427738f5905c056687a8f2fdfe4f8fe1229684f30f4f5b29", func := "pairstone/stonelaw1.HashTells", spec := "hashTells", recurses := true, named := ["pairstone/curve.Far"], apart := false, laid := [("pairstone/curve.Far", laid_pairstone_curve_Far)] }
def HashTellsSaid : Prop := hashTellsRow.holds Tryd.pinned (OpenSpec.ofChange hashTellsSpec)

/-- ITS FALSE NEIGHBOUR: 'it returns false'. Refute it at one input. -/
def hashTellsWrong : ChangeSpec := { name := "hashTells", fn := fun _ => fun
  | [d] => { results := [.lit (.bool false)], args := [d] }
  | _ => none }
def HashTellsWrongFalsely : Prop := hashTellsRow.holds Tryd.pinned (OpenSpec.ofChange hashTellsWrong)

/-- 'stonelaw4.SealKeys': WHATEVER THE INPUT: true; the input reads as it did. -/
def sealKeysSpec : ChangeSpec := { name := "sealKeys", fn := fun _ => fun
  | [d1, d2] => { results := [.lit (.bool true)], args := [d1, d2] }
  | _ => none }
def sealKeysRow : OpenClaim := { program := "ytlppjihejgcplaadoor", sum := "a3401cf7a849b201427738f5905c056687a8f2fdfe4f8fe1229684f30f4f5b29", func := "pairstone/stonelaw4.SealKeys", spec := "sealKeys", named := ["pairstone/curve.Far"], apart := false, laid := [("pairstone/curve.Far", laid_pairstone_curve_Far)] }
def SealKeysSaid : Prop := sealKeysRow.holds Tryd.pinned (OpenSpec.ofChange sealKeysSpec)

/-- ITS FALSE NEIGHBOUR: 'it returns false'. Refute it at one input. -/
def sealKeysWrong : ChangeSpec := { name := "sealKeys", fn := fun _ => fun
  | [d1, d2] => { results := [.lit (.bool false)], args := [d1, d2] }
  | _ => none }
def SealKeysWrongFalsely : Prop := sealKeysRow.holds Tryd.pinned (OpenSpec.ofChange sealKeysWrong)

/-- 'stonelaw1.HashCounts': WHATEVER THE INPUT: true; the input reads as it did. -/
def hashCountsSpec : ChangeSpec := { name := "hashCounts", fn := fun _ => fun
  | [d] => { results := [.lit (.bool true)], args := [d] }
  | _ => none }
def hashCountsRow : OpenClaim := { program := "ytlppjihejgcplaadoor", sum := "a3401cf7a849b201427738f5905c056687a8f2fdfe4f8fe1229684f30f4f5b29", func := "pairstone/stonelaw1.HashCounts", spec := "hashCounts", named := ["pairstone/curve.Far"], apart := false, laid := [("pairstone/curve.Far", laid_pairstone_curve_Far)] }
def HashCountsSaid : Prop := hashCountsRow.holds Tryd.pinned (OpenSpec.ofChange hashCountsSpec)

/-- ITS FALSE NEIGHBOUR: 'it returns false'. Refute it at one input. -/
def hashCountsWrong : ChangeSpec := { name := "hashCounts", fn := fun _ => fun
  | [d] => { results := [.lit (.bool false)], args := [d] }
  | _ => none }
def HashCountsWrongFalsely : Prop := hashCountsRow.holds Tryd.pinned (OpenSpec.ofChange hashCountsWrong)

/-- 'stonelaw1.TimesHold': WHATEVER THE INPUT: true; the input reads as it did. -/
def timesHoldSpec : ChangeSpec := { name := "timesHold", fn := fun _ => fun
  | [d1, d2, d3, d4] => { results := [.lit (.bool true)], args := [d1, d2, d3, d4] }
  | _ => none }
def timesHoldRow : OpenClaim := { program := "ytlppjihejgcplaadoor", sum := "a3401cf7a849b201427738f5905c056687a8f2fdfe4f8fe1229684f30f4f5b29", func := "pairstone/stonelaw1.TimesHold", spec := "timesHold", named := ["pairstone/curve.Far"], apart := false, laid := [("pairstone/curve.Far", laid_pairstone_curve_Far)] }
def TimesHoldSaid : Prop := timesHoldRow.holds Tryd.pinned (OpenSpec.ofChange timesHoldSpec)

/-- ITS FALSE NEIGHBOUR: 'it returns false'. Refute it at one input. -/
def timesHoldWrong : ChangeSpec := { name := "timesHold", fn := fun _ => fun
  | [d1, d2, d3, d4] => { results := [.lit (.bool false)], args := [d1, d2, d3, d4] }
  | _ => none }
def TimesHoldWrongFalsely : Prop := timesHoldRow.holds Tryd.pinned (OpenSpec.ofChange timesHoldWrong)

/-- 'stonetop.TopTriple': WHATEVER THE INPUT: true; the input reads as it did. -/
def topTripleSpec : ChangeSpec := { name := "topTriple", fn := fun _ => fun
  | [d1, d2, d3] => { results := [.lit (.bool true)], args := [d1, d2, d3] }
  | _ => none }
def topTripleRow : OpenClaim := { program := "ytlppjihejgcplaadoor", sum := "a3401cf7a849b201427738f5905c056687a8f2fdfe4f8fe1229684f30f4f5b29", func := "pairstone/stonetop.TopTriple", spec := "topTriple", named := ["pairstone/curve.Far", "pairstone/pair.one"], apart := false, laid := [("pairstone/curve.Far", laid_pairstone_curve_Far), ("pairstone/pair.one", laid_pairstone_pair_one)] }
def TopTripleSaid : Prop := topTripleRow.holds Tryd.pinned (OpenSpec.ofChange topTripleSpec)

/-- ITS FALSE NEIGHBOUR: 'it returns false'. Refute it at one input. -/
def topTripleWrong : ChangeSpec := { name := "topTriple", fn := fun _ => fun
  | [d1, d2, d3] => { results := [.lit (.bool false)], args := [d1, d2, d3] }
  | _ => none }
def TopTripleWrongFalsely : Prop := topTripleRow.holds Tryd.pinned (OpenSpec.ofChange topTripleWrong)

/-- 'stonelaw4.HideNone': WHATEVER THE INPUT: true; the input reads as it did. -/
def hideNoneSpec : ChangeSpec := { name := "hideNone", fn := fun _ => fun
  | [d] => { results := [.lit (.bool true)], args := [d] }
  | _ => none }
def hideNoneRow : OpenClaim := { program := "ytlppjihejgcplaadoor", sum := "a3401cf7a849b201427738f5905c056687a8f2fdfe4f8fe1229684f30f4f5b29", func := "pairstone/stonelaw4.HideNone", spec := "hideNone", named := ["pairstone/curve.Far"], apart := false, laid := [("pairstone/curve.Far", laid_pairstone_curve_Far)] }
def HideNoneSaid : Prop := hideNoneRow.holds Tryd.pinned (OpenSpec.ofChange hideNoneSpec)

/-- ITS FALSE NEIGHBOUR: 'it returns false'. Refute it at one input. -/
def hideNoneWrong : ChangeSpec := { name := "hideNone", fn := fun _ => fun
  | [d] => { results := [.lit (.bool false)], args := [d] }
  | _ => none }
def HideNoneWrongFalsely : Prop := hideNoneRow.holds Tryd.pinned (OpenSpec.ofChange hideNoneWrong)

/-- 'stonelaw2.HideAny': WHATEVER THE INPUT: true; the input reads as it did. -/
def hideAnySpec : ChangeSpec := { name := "hideAny", fn := fun _ => fun
  | [d1, d2, d3, d4] => { results := [.lit (.bool true)], args := [d1, d2, d3, d4] }
  | _ => none }
def hideAnyRow : OpenClaim := { program := "ytlppjihejgcplaadoor", sum := "a3401cf7a849b201427738f5905c056687a8f2fdfe4f8fe1229684f30f4f5b29", func := "pairstone/stonelaw2.HideAny", spec := "hideAny", named := ["pairstone/curve.Far"], apart := false, laid := [("pairstone/curve.Far", laid_pairstone_curve_Far)] }
def HideAnySaid : Prop := hideAnyRow.holds Tryd.pinned (OpenSpec.ofChange hideAnySpec)

/-- ITS FALSE NEIGHBOUR: 'it returns false'. Refute it at one input. -/
def hideAnyWrong : ChangeSpec := { name := "hideAny", fn := fun _ => fun
  | [d1, d2, d3, d4] => { results := [.lit (.bool false)], args := [d1, d2, d3, d4] }
  | _ => none }
def HideAnyWrongFalsely : Prop := hideAnyRow.holds Tryd.pinned (OpenSpec.ofChange hideAnyWrong)

/-- 'stonelaw2.SealHolds': WHATEVER THE INPUT: true; the input reads as it did. -/
def sealHoldsSpec : ChangeSpec := { name := "sealHolds", fn := fun _ => fun
  | [d1, d2, d3, d4, d5] => { results := [.lit (.bool true)], args := [d1, d2, d3, d4, d5] }
  | _ => none }
def sealHoldsRow : OpenClaim := { program := "ytlppjihejgcplaadoor", sum := "a3401cf7a849b201427738f5905c056687a8f2fdfe4f8fe1229684f30f4f5b29", func := "pairstone/stonelaw2.SealHolds", spec := "sealHolds", named := ["pairstone/curve.Far"], apart := false, laid := [("pairstone/curve.Far", laid_pairstone_curve_Far)] }
def SealHoldsSaid : Prop := sealHoldsRow.holds Tryd.pinned (OpenSpec.ofChange sealHoldsSpec)

/-- ITS FALSE NEIGHBOUR: 'it returns false'. Refute it at one input. -/
def sealHoldsWrong : ChangeSpec := { name := "sealHolds", fn := fun _ => fun
  | [d1, d2, d3, d4, d5] => { results := [.lit (.bool false)], args := [d1, d2, d3, d4, d5] }
  | _ => none }
def SealHoldsWrongFalsely : Prop := sealHoldsRow.holds Tryd.pinned (OpenSpec.ofChange sealHoldsWrong)

/-- 'stonelaw4.QuorumAlone': WHATEVER THE INPUT: true; the input reads as it did. -/
def quorumAloneSpec : ChangeSpec := { name := "quorumAlone", fn := fun _ => fun
  | [d1, d2, d3, d4] => { results := [.lit (.bool true)], args := [d1, d2, d3, d4] }
  | _ => none }
def quorumAloneRow : OpenClaim := { program := "ytlppjihejgcplaadoor", sum := "a3401cf7a849b201427738f5905c056687a8f2fdfe4f8fe1229684f30f4f5b29", func := "pairstone/stonelaw4.QuorumAlone", spec := "quorumAlone", unfollowed := true, recurses := true, named := ["pairstone/curve.Far"], apart := false, laid := [("pairstone/curve.Far", laid_pairstone_curve_Far)] }
def QuorumAloneSaid : Prop := quorumAloneRow.holds Tryd.pinned (OpenSpec.ofChange quorumAloneSpec)

/-- ITS FALSE NEIGHBOUR: 'it returns false'. Refute it at one input. -/
def quorumAloneWrong : ChangeSpec := { name := "quorumAlone", fn := fun _ => fun
  | [d1, d2, d3, d4] => { results := [.lit (.bool false)], args := [d1, d2, d3, d4] }
  | _ => none }
def QuorumAloneWrongFalsely : Prop := quorumAloneRow.holds Tryd.pinned (OpenSpec.ofChange quorumAloneWrong)

/-- 'stonelaw1.PrimeTells': WHATEVER THE INPUT: true; the input reads as it did. -/
def primeTellsSpec : ChangeSpec := { name := "primeTells", fn := fun _ => fun
  | [d1, d2, d3] => { results := [.lit (.bool true)], args := [d1, d2, d3] }
  | _ => none }
def primeTellsRow : OpenClaim := { program := "ytlppjihejgcplaadoor", sum := "a3401cf7a849b201427738f5905c056687a8f2fdfe4f8fe1229684f30f4f5b29", func := "pairstone/stonelaw1.PrimeTells", spec := "primeTells", inPlace := ["internal/reflectlite.ValueOf", "(internal/reflectlite.Value).Type", "(internal/reflectlite.Value).IsNil", "internal/reflectlite.TypeOf", "(internal/reflectlite.Value).Elem", "(internal/reflectlite.Value).Set"], unfollowed := true, recurses := true, named := ["errors.errorType"], apart := false, laid := [("errors.errorType", laid_errors_errorType)] }
def PrimeTellsSaid : Prop := primeTellsRow.holds Tryd.pinned (OpenSpec.ofChange primeTellsSpec)

/-- ITS FALSE NEIGHBOUR: 'it returns false'. Refute it at one input. -/
def primeTellsWrong : ChangeSpec := { name := "primeTells", fn := fun _ => fun
  | [d1, d2, d3] => { results := [.lit (.bool false)], args := [d1, d2, d3] }
  | _ => none }
def PrimeTellsWrongFalsely : Prop := primeTellsRow.holds Tryd.pinned (OpenSpec.ofChange primeTellsWrong)

/-- 'stonelaw4.CurveLifts': WHATEVER THE INPUT: true; the input reads as it did. -/
def curveLiftsSpec : ChangeSpec := { name := "curveLifts", fn := fun _ => fun
  | [d] => { results := [.lit (.bool true)], args := [d] }
  | _ => none }
def curveLiftsRow : OpenClaim := { program := "ytlppjihejgcplaadoor", sum := "a3401cf7a849b201427738f5905c056687a8f2fdfe4f8fe1229684f30f4f5b29", func := "pairstone/stonelaw4.CurveLifts", spec := "curveLifts", inPlace := ["internal/reflectlite.ValueOf", "(internal/reflectlite.Value).Type", "(internal/reflectlite.Value).IsNil", "internal/reflectlite.TypeOf", "(internal/reflectlite.Value).Elem", "(internal/reflectlite.Value).Set"], unfollowed := true, recurses := true, named := ["errors.errorType", "pairstone/curve.Far"], apart := false, laid := [("pairstone/curve.Far", laid_pairstone_curve_Far), ("errors.errorType", laid_errors_errorType)] }
def CurveLiftsSaid : Prop := curveLiftsRow.holds Tryd.pinned (OpenSpec.ofChange curveLiftsSpec)

/-- ITS FALSE NEIGHBOUR: 'it returns false'. Refute it at one input. -/
def curveLiftsWrong : ChangeSpec := { name := "curveLifts", fn := fun _ => fun
  | [d] => { results := [.lit (.bool false)], args := [d] }
  | _ => none }
def CurveLiftsWrongFalsely : Prop := curveLiftsRow.holds Tryd.pinned (OpenSpec.ofChange curveLiftsWrong)

/-- 'stonelaw1.TwinTells': WHATEVER THE INPUT: true; the input reads as it did. -/
def twinTellsSpec : ChangeSpec := { name := "twinTells", fn := fun _ => fun
  | [d1, d2, d3] => { results := [.lit (.bool true)], args := [d1, d2, d3] }
  | _ => none }
def twinTellsRow : OpenClaim := { program := "ytlppjihejgcplaadoor", sum := "a3401cf7a849b201427738f5905c056687a8f2fdfe4f8fe1229684f30f4f5b29", func := "pairstone/stonelaw1.TwinTells", spec := "twinTells", inPlace := ["internal/reflectlite.ValueOf", "(internal/reflectlite.Value).Type", "(internal/reflectlite.Value).IsNil", "internal/reflectlite.TypeOf", "(internal/reflectlite.Value).Elem", "(internal/reflectlite.Value).Set"], unfollowed := true, recurses := true, named := ["errors.errorType"], apart := false, laid := [("errors.errorType", laid_errors_errorType)] }
def TwinTellsSaid : Prop := twinTellsRow.holds Tryd.pinned (OpenSpec.ofChange twinTellsSpec)

/-- ITS FALSE NEIGHBOUR: 'it returns false'. Refute it at one input. -/
def twinTellsWrong : ChangeSpec := { name := "twinTells", fn := fun _ => fun
  | [d1, d2, d3] => { results := [.lit (.bool false)], args := [d1, d2, d3] }
  | _ => none }
def TwinTellsWrongFalsely : Prop := twinTellsRow.holds Tryd.pinned (OpenSpec.ofChange twinTellsWrong)

/-- 'stonetop.TopKeys': WHATEVER THE INPUT: true; the input reads as it did. -/
def topKeysSpec : ChangeSpec := { name := "topKeys", fn := fun _ => fun
  | [d1, d2, d3] => { results := [.lit (.bool true)], args := [d1, d2, d3] }
  | _ => none }
def topKeysRow : OpenClaim := { program := "ytlppjihejgcplaadoor", sum := "a3401cf7a849b201427738f5905c056687a8f2fdfe4f8fe1229684f30f4f5b29", func := "pairstone/stonetop.TopKeys", spec := "topKeys", named := ["pairstone/curve.Far", "pairstone/pair.one"], apart := false, laid := [("pairstone/curve.Far", laid_pairstone_curve_Far), ("pairstone/pair.one", laid_pairstone_pair_one)] }
def TopKeysSaid : Prop := topKeysRow.holds Tryd.pinned (OpenSpec.ofChange topKeysSpec)

/-- ITS FALSE NEIGHBOUR: 'it returns false'. Refute it at one input. -/
def topKeysWrong : ChangeSpec := { name := "topKeys", fn := fun _ => fun
  | [d1, d2, d3] => { results := [.lit (.bool false)], args := [d1, d2, d3] }
  | _ => none }
def TopKeysWrongFalsely : Prop := topKeysRow.holds Tryd.pinned (OpenSpec.ofChange topKeysWrong)

/-- 'stonelaw2.EqualHolds': WHATEVER THE INPUT: true; the input reads as it did. -/
def equalHoldsSpec : ChangeSpec := { name := "equalHolds", fn := fun _ => fun
  | [d1, d2, d3] => { results := [.lit (.bool true)], args := [d1, d2, d3] }
  | _ => none }
def equalHoldsRow : OpenClaim := { program := "ytlppjihejgcplaadoor", sum := "a3401cf7a849b201427738f5905c056687a8f2fdfe4f8fe1229684f30f4f5b29", func := "pairstone/stonelaw2.EqualHolds", spec := "equalHolds", named := ["pairstone/curve.Far"], apart := false, laid := [("pairstone/curve.Far", laid_pairstone_curve_Far)] }
def EqualHoldsSaid : Prop := equalHoldsRow.holds Tryd.pinned (OpenSpec.ofChange equalHoldsSpec)

/-- ITS FALSE NEIGHBOUR: 'it returns false'. Refute it at one input. -/
def equalHoldsWrong : ChangeSpec := { name := "equalHolds", fn := fun _ => fun
  | [d1, d2, d3] => { results := [.lit (.bool false)], args := [d1, d2, d3] }
  | _ => none }
def EqualHoldsWrongFalsely : Prop := equalHoldsRow.holds Tryd.pinned (OpenSpec.ofChange equalHoldsWrong)

/-- 'stonelaw4.EqualFalse': WHATEVER THE INPUT: true; the input reads as it did. -/
def equalFalseSpec : ChangeSpec := { name := "equalFalse", fn := fun _ => fun
  | [d1, d2, d3] => { results := [.lit (.bool true)], args := [d1, d2, d3] }
  | _ => none }
def equalFalseRow : OpenClaim := { program := "ytlppjihejgcplaadoor", sum := "a3401cf7a849b201427738f5905c056687a8f2fdfe4f8fe1229684f30f4f5b29", func := "pairstone/stonelaw4.EqualFalse", spec := "equalFalse", named := ["pairstone/curve.Far"], apart := false, laid := [("pairstone/curve.Far", laid_pairstone_curve_Far)] }
def EqualFalseSaid : Prop := equalFalseRow.holds Tryd.pinned (OpenSpec.ofChange equalFalseSpec)

/-- ITS FALSE NEIGHBOUR: 'it returns false'. Refute it at one input. -/
def equalFalseWrong : ChangeSpec := { name := "equalFalse", fn := fun _ => fun
  | [d1, d2, d3] => { results := [.lit (.bool false)], args := [d1, d2, d3] }
  | _ => none }
def EqualFalseWrongFalsely : Prop := equalFalseRow.holds Tryd.pinned (OpenSpec.ofChange equalFalseWrong)

/-- 'stonelaw1.PairHolds': WHATEVER THE INPUT: true; the input reads as it did. -/
def pairHoldsSpec : ChangeSpec := { name := "pairHolds", fn := fun _ => fun
  | [d1, d2, d3, d4, d5] => { results := [.lit (.bool true)], args := [d1, d2, d3, d4, d5] }
  | _ => none }
def pairHoldsRow : OpenClaim := { program := "ytlppjihejgcplaadoor", sum := "a3401cf7a849b201427738f5905c056687a8f2fdfe4f8fe1229684f30f4f5b29", func := "pairstone/stonelaw1.PairHolds", spec := "pairHolds", named := ["pairstone/curve.Far", "pairstone/pair.one"], apart := false, laid := [("pairstone/curve.Far", laid_pairstone_curve_Far), ("pairstone/pair.one", laid_pairstone_pair_one)] }
def PairHoldsSaid : Prop := pairHoldsRow.holds Tryd.pinned (OpenSpec.ofChange pairHoldsSpec)

/-- ITS FALSE NEIGHBOUR: 'it returns false'. Refute it at one input. -/
def pairHoldsWrong : ChangeSpec := { name := "pairHolds", fn := fun _ => fun
  | [d1, d2, d3, d4, d5] => { results := [.lit (.bool false)], args := [d1, d2, d3, d4, d5] }
  | _ => none }
def PairHoldsWrongFalsely : Prop := pairHoldsRow.holds Tryd.pinned (OpenSpec.ofChange pairHoldsWrong)

/- THE SECOND FORM. 'bulk': how many values and letters a reading holds, each counted each time it is reached (what is shared counts as often as it is met; a slice's spare places count too). A statement '..UptoSaid' is the law's where the arguments, and the package variables that the reading takes, are together of bulk at most 1048576: NARROWER than '..Said'. Prove '..Said' where nothing that the law and all that it calls make is longer than what came in: it says more and counts as full. Else prove '..UptoSaid'. A law counts once. -/
mutual
def uptoBulk {H : Type} : DataW H → Nat
  | .lit (.string bytes) => bytes.length + 1
  | .lit _ => 1
  | .nil => 1
  | .ptr d => uptoBulk d + 1
  | .slice elems spare => uptoBulkAll elems + uptoBulkAll spare + 1
  | .agg parts => uptoBulkAll parts + 1
  | .iface _ d => uptoBulk d + 1
  | .map entries => uptoBulkEntries entries + 1
  | .held _ => 1
def uptoBulkAll {H : Type} : List (DataW H) → Nat
  | [] => 0
  | d :: r => uptoBulk d + uptoBulkAll r
def uptoBulkEntries {H : Type} : List (Lit × DataW H) → Nat
  | [] => 0
  | x :: r => uptoBulkEntry x + uptoBulkEntries r
def uptoBulkEntry {H : Type} : Lit × DataW H → Nat
  | (.string bytes, d) => bytes.length + uptoBulk d + 1
  | (_, d) => uptoBulk d + 1
 end
def uptoSmall : (H : Type) → List (DataW H) → Bool := fun _ ds => decide (uptoBulkAll ds ≤ 1048576)
def OpenSpec.upto (s : _root_.Go.ChangeSpec) : _root_.Go.OpenSpec := { _root_.Go.OpenSpec.ofChange s with cond := some uptoSmall }

/-- 'stonelaw4.BytesLong', WHERE WHAT IT READS IS OF BULK AT MOST 1048576: true; the input reads as it did. -/
def bytesLongUptoRow : OpenClaim := { program := "ytlppjihejgcplaadoor", sum := "a3401cf7a849b201427738f5905c056687a8f2fdfe4f8fe1229684f30f4f5b29", func := "pairstone/stonelaw4.BytesLong", spec := "bytesLong", named := ["pairstone/curve.Far"], apart := false, laid := [("pairstone/curve.Far", laid_pairstone_curve_Far)], narrowed := true }
def BytesLongUptoSaid : Prop := bytesLongUptoRow.holds Tryd.pinned (OpenSpec.upto bytesLongSpec)

/-- 'stonelaw1.BytesBack', WHERE WHAT IT READS IS OF BULK AT MOST 1048576: true; the input reads as it did. -/
def bytesBackUptoRow : OpenClaim := { program := "ytlppjihejgcplaadoor", sum := "a3401cf7a849b201427738f5905c056687a8f2fdfe4f8fe1229684f30f4f5b29", func := "pairstone/stonelaw1.BytesBack", spec := "bytesBack", named := ["pairstone/curve.Far"], apart := false, laid := [("pairstone/curve.Far", laid_pairstone_curve_Far)], narrowed := true }
def BytesBackUptoSaid : Prop := bytesBackUptoRow.holds Tryd.pinned (OpenSpec.upto bytesBackSpec)

/-- 'stonelaw1.HashTells', WHERE WHAT IT READS IS OF BULK AT MOST 1048576: true; the input reads as it did. -/
def hashTellsUptoRow : OpenClaim := { program := "ytlppjihejgcplaadoor", sum := "a3401cf7a849b201427738f5905c056687a8f2fdfe4f8fe1229684f30f4f5b29", func := "pairstone/stonelaw1.HashTells", spec := "hashTells", recurses := true, named := ["pairstone/curve.Far"], apart := false, laid := [("pairstone/curve.Far", laid_pairstone_curve_Far)], narrowed := true }
def HashTellsUptoSaid : Prop := hashTellsUptoRow.holds Tryd.pinned (OpenSpec.upto hashTellsSpec)

/-- 'stonelaw4.SealKeys', WHERE WHAT IT READS IS OF BULK AT MOST 1048576: true; the input reads as it did. -/
def sealKeysUptoRow : OpenClaim := { program := "ytlppjihejgcplaadoor", sum := "a3401cf7a849b201427738f5905c056687a8f2fdfe4f8fe1229684f30f4f5b29", func := "pairstone/stonelaw4.SealKeys", spec := "sealKeys", named := ["pairstone/curve.Far"], apart := false, laid := [("pairstone/curve.Far", laid_pairstone_curve_Far)], narrowed := true }
def SealKeysUptoSaid : Prop := sealKeysUptoRow.holds Tryd.pinned (OpenSpec.upto sealKeysSpec)

/-- 'stonelaw1.HashCounts', WHERE WHAT IT READS IS OF BULK AT MOST 1048576: true; the input reads as it did. -/
def hashCountsUptoRow : OpenClaim := { program := "ytlppjihejgcplaadoor", sum := "a3401cf7a849b201427738f5905c056687a8f2fdfe4f8fe1229684f30f4f5b29", func := "pairstone/stonelaw1.HashCounts", spec := "hashCounts", named := ["pairstone/curve.Far"], apart := false, laid := [("pairstone/curve.Far", laid_pairstone_curve_Far)], narrowed := true }
def HashCountsUptoSaid : Prop := hashCountsUptoRow.holds Tryd.pinned (OpenSpec.upto hashCountsSpec)

/-- 'stonelaw1.TimesHold', WHERE WHAT IT READS IS OF BULK AT MOST 1048576: true; the input reads as it did. -/
def timesHoldUptoRow : OpenClaim := { program := "ytlppjihejgcplaadoor", sum := "a3401cf7a849b201427738f5905c056687a8f2fdfe4f8fe1229684f30f4f5b29", func := "pairstone/stonelaw1.TimesHold", spec := "timesHold", named := ["pairstone/curve.Far"], apart := false, laid := [("pairstone/curve.Far", laid_pairstone_curve_Far)], narrowed := true }
def TimesHoldUptoSaid : Prop := timesHoldUptoRow.holds Tryd.pinned (OpenSpec.upto timesHoldSpec)

/-- 'stonetop.TopTriple', WHERE WHAT IT READS IS OF BULK AT MOST 1048576: true; the input reads as it did. -/
def topTripleUptoRow : OpenClaim := { program := "ytlppjihejgcplaadoor", sum := "a3401cf7a849b201427738f5905c056687a8f2fdfe4f8fe1229684f30f4f5b29", func := "pairstone/stonetop.TopTriple", spec := "topTriple", named := ["pairstone/curve.Far", "pairstone/pair.one"], apart := false, laid := [("pairstone/curve.Far", laid_pairstone_curve_Far), ("pairstone/pair.one", laid_pairstone_pair_one)], narrowed := true }
def TopTripleUptoSaid : Prop := topTripleUptoRow.holds Tryd.pinned (OpenSpec.upto topTripleSpec)

/-- 'stonelaw4.HideNone', WHERE WHAT IT READS IS OF BULK AT MOST 1048576: true; the input reads as it did. -/
def hideNoneUptoRow : OpenClaim := { program := "ytlppjihejgcplaadoor", sum := "a3401cf7a849b201427738f5905c056687a8f2fdfe4f8fe1229684f30f4f5b29", func := "pairstone/stonelaw4.HideNone", spec := "hideNone", named := ["pairstone/curve.Far"], apart := false, laid := [("pairstone/curve.Far", laid_pairstone_curve_Far)], narrowed := true }
def HideNoneUptoSaid : Prop := hideNoneUptoRow.holds Tryd.pinned (OpenSpec.upto hideNoneSpec)

/-- 'stonelaw2.HideAny', WHERE WHAT IT READS IS OF BULK AT MOST 1048576: true; the input reads as it did. -/
def hideAnyUptoRow : OpenClaim := { program := "ytlppjihejgcplaadoor", sum := "a3401cf7a849b201427738f5905c056687a8f2fdfe4f8fe1229684f30f4f5b29", func := "pairstone/stonelaw2.HideAny", spec := "hideAny", named := ["pairstone/curve.Far"], apart := false, laid := [("pairstone/curve.Far", laid_pairstone_curve_Far)], narrowed := true }
def HideAnyUptoSaid : Prop := hideAnyUptoRow.holds Tryd.pinned (OpenSpec.upto hideAnySpec)

/-- 'stonelaw2.SealHolds', WHERE WHAT IT READS IS OF BULK AT MOST 1048576: true; the input reads as it did. -/
def sealHoldsUptoRow : OpenClaim := { program := "ytlppjihejgcplaadoor", sum := "a3401cf7a849b201427738f5905c056687a8f2fdfe4f8fe1229684f30f4f5b29", func := "pairstone/stonelaw2.SealHolds", spec := "sealHolds", named := ["pairstone/curve.Far"], apart := false, laid := [("pairstone/curve.Far", laid_pairstone_curve_Far)], narrowed := true }
def SealHoldsUptoSaid : Prop := sealHoldsUptoRow.holds Tryd.pinned (OpenSpec.upto sealHoldsSpec)

/-- 'stonelaw4.QuorumAlone', WHERE WHAT IT READS IS OF BULK AT MOST 1048576: true; the input reads as it did. -/
def quorumAloneUptoRow : OpenClaim := { program := "ytlppjihejgcplaadoor", sum := "a3401cf7a849b201427738f5905c056687a8f2fdfe4f8fe1229684f30f4f5b29", func := "pairstone/stonelaw4.QuorumAlone", spec := "quorumAlone", unfollowed := true, recurses := true, named := ["pairstone/curve.Far"], apart := false, laid := [("pairstone/curve.Far", laid_pairstone_curve_Far)], narrowed := true }
def QuorumAloneUptoSaid : Prop := quorumAloneUptoRow.holds Tryd.pinned (OpenSpec.upto quorumAloneSpec)

/-- 'stonelaw1.PrimeTells', WHERE WHAT IT READS IS OF BULK AT MOST 1048576: true; the input reads as it did. -/
def primeTellsUptoRow : OpenClaim := { program := "ytlppjihejgcplaadoor", sum := "a3401cf7a849b201427738f5905c056687a8f2fdfe4f8fe1229684f30f4f5b29", func := "pairstone/stonelaw1.PrimeTells", spec := "primeTells", inPlace := ["internal/reflectlite.ValueOf", "(internal/reflectlite.Value).Type", "(internal/reflectlite.Value).IsNil", "internal/reflectlite.TypeOf", "(internal/reflectlite.Value).Elem", "(internal/reflectlite.Value).Set"], unfollowed := true, recurses := true, named := ["errors.errorType"], apart := false, laid := [("errors.errorType", laid_errors_errorType)], narrowed := true }
def PrimeTellsUptoSaid : Prop := primeTellsUptoRow.holds Tryd.pinned (OpenSpec.upto primeTellsSpec)

/-- 'stonelaw4.CurveLifts', WHERE WHAT IT READS IS OF BULK AT MOST 1048576: true; the input reads as it did. -/
def curveLiftsUptoRow : OpenClaim := { program := "ytlppjihejgcplaadoor", sum := "a3401cf7a849b201427738f5905c056687a8f2fdfe4f8fe1229684f30f4f5b29", func := "pairstone/stonelaw4.CurveLifts", spec := "curveLifts", inPlace := ["internal/reflectlite.ValueOf", "(internal/reflectlite.Value).Type", "(internal/reflectlite.Value).IsNil", "internal/reflectlite.TypeOf", "(internal/reflectlite.Value).Elem", "(internal/reflectlite.Value).Set"], unfollowed := true, recurses := true, named := ["errors.errorType", "pairstone/curve.Far"], apart := false, laid := [("pairstone/curve.Far", laid_pairstone_curve_Far), ("errors.errorType", laid_errors_errorType)], narrowed := true }
def CurveLiftsUptoSaid : Prop := curveLiftsUptoRow.holds Tryd.pinned (OpenSpec.upto curveLiftsSpec)

/-- 'stonelaw1.TwinTells', WHERE WHAT IT READS IS OF BULK AT MOST 1048576: true; the input reads as it did. -/
def twinTellsUptoRow : OpenClaim := { program := "ytlppjihejgcplaadoor", sum := "a3401cf7a849b201427738f5905c056687a8f2fdfe4f8fe1229684f30f4f5b29", func := "pairstone/stonelaw1.TwinTells", spec := "twinTells", inPlace := ["internal/reflectlite.ValueOf", "(internal/reflectlite.Value).Type", "(internal/reflectlite.Value).IsNil", "internal/reflectlite.TypeOf", "(internal/reflectlite.Value).Elem", "(internal/reflectlite.Value).Set"], unfollowed := true, recurses := true, named := ["errors.errorType"], apart := false, laid := [("errors.errorType", laid_errors_errorType)], narrowed := true }
def TwinTellsUptoSaid : Prop := twinTellsUptoRow.holds Tryd.pinned (OpenSpec.upto twinTellsSpec)

/-- 'stonetop.TopKeys', WHERE WHAT IT READS IS OF BULK AT MOST 1048576: true; the input reads as it did. -/
def topKeysUptoRow : OpenClaim := { program := "ytlppjihejgcplaadoor", sum := "a3401cf7a849b201427738f5905c056687a8f2fdfe4f8fe1229684f30f4f5b29", func := "pairstone/stonetop.TopKeys", spec := "topKeys", named := ["pairstone/curve.Far", "pairstone/pair.one"], apart := false, laid := [("pairstone/curve.Far", laid_pairstone_curve_Far), ("pairstone/pair.one", laid_pairstone_pair_one)], narrowed := true }
def TopKeysUptoSaid : Prop := topKeysUptoRow.holds Tryd.pinned (OpenSpec.upto topKeysSpec)

/-- 'stonelaw2.EqualHolds', WHERE WHAT IT READS IS OF BULK AT MOST 1048576: true; the input reads as it did. -/
def equalHoldsUptoRow : OpenClaim := { program := "ytlppjihejgcplaadoor", sum := "a3401cf7a849b201427738f5905c056687a8f2fdfe4f8fe1229684f30f4f5b29", func := "pairstone/stonelaw2.EqualHolds", spec := "equalHolds", named := ["pairstone/curve.Far"], apart := false, laid := [("pairstone/curve.Far", laid_pairstone_curve_Far)], narrowed := true }
def EqualHoldsUptoSaid : Prop := equalHoldsUptoRow.holds Tryd.pinned (OpenSpec.upto equalHoldsSpec)

/-- 'stonelaw4.EqualFalse', WHERE WHAT IT READS IS OF BULK AT MOST 1048576: true; the input reads as it did. -/
def equalFalseUptoRow : OpenClaim := { program := "ytlppjihejgcplaadoor", sum := "a3401cf7a849b201427738f5905c056687a8f2fdfe4f8fe1229684f30f4f5b29", func := "pairstone/stonelaw4.EqualFalse", spec := "equalFalse", named := ["pairstone/curve.Far"], apart := false, laid := [("pairstone/curve.Far", laid_pairstone_curve_Far)], narrowed := true }
def EqualFalseUptoSaid : Prop := equalFalseUptoRow.holds Tryd.pinned (OpenSpec.upto equalFalseSpec)

/-- 'stonelaw1.PairHolds', WHERE WHAT IT READS IS OF BULK AT MOST 1048576: true; the input reads as it did. -/
def pairHoldsUptoRow : OpenClaim := { program := "ytlppjihejgcplaadoor", sum := "a3401cf7a849b201427738f5905c056687a8f2fdfe4f8fe1229684f30f4f5b29", func := "pairstone/stonelaw1.PairHolds", spec := "pairHolds", named := ["pairstone/curve.Far", "pairstone/pair.one"], apart := false, laid := [("pairstone/curve.Far", laid_pairstone_curve_Far), ("pairstone/pair.one", laid_pairstone_pair_one)], narrowed := true }
def PairHoldsUptoSaid : Prop := pairHoldsUptoRow.holds Tryd.pinned (OpenSpec.upto pairHoldsSpec)

end Rows
end Go.Proofs.YtlppjihejgcplaaDoor
