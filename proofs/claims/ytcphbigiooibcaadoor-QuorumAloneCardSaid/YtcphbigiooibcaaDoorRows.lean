/-
  NARROWER THAN 'FOR EVERY INPUT', by the rows' own cells (each row's printed sentence says how): GroupOne: laid · GroupSeals: laid · BatchHolds: laid · ShortJoins: laid · RingHolds: laid · TopMixed: laid · AdaptTells: laid · PairTells: laid · QuorumAlone: laid · QuorumSeals: laid · ShareTells: laid · GroupTells: laid.
  DERIVED. THE GIVEN ROWS OF THIS SEAT. 12 by the template 'for every input the law returns true; each argument reads behind the call as it read before'; 0 by the template 'total and deterministic' (their statements: YtcphbigiooibcaaDoorTotals.lean).
  GIVEN WITH THE SEED: the statements are not yours to turn. If you find one false, say at which input.
  Laid BY PROGRAM, IN A SANDBOX (cutbox-rows.mjs): the forced cells as the released guide's own fill.sh prints them over the translation daeaf9282531a27c… (all of the seat's roots in one cut). By AI agents, Wed Nov 11 2026. No macro, syntax, notation, axiom, sorry.
-/
import Derived.Test.YtcphbigiooibcaaDoorChecked
import GoSem.Claim
import GoSem.ClaimJoined
import GoSem.ClaimMapViews
import Derived.JoinedTies
import Derived.KernelRfl
namespace Go.Proofs.YtcphbigiooibcaaDoor
/- THE CELL 'sum', in the pinned program and in every row, IS THE sha256 OF THE DUMP (.gsa) THAT YtcphbigiooibcaaDoorProg.lean LOADS. Nothing in Lean hashes anything: it is a label: what it is worth is what the hold of that sum in a sandbox is worth. -/
noncomputable def Tryd.pinned : Pinned := { name := "ytcphbigiooibcaadoor", sum := "daeaf9282531a27cb61415fe7bd34d95d0a3e5879555a7c8fbe0da2edeea7f8a", checked := Tryd.checked }
namespace Rows
def none {H : Type} : Left H := { results := [], args := [] }

/- WHAT THE LISTED PACKAGE-LEVEL VARIABLES READ AS WHEN THE CALL BEGINS. Each datum BY PROGRAM (the guide's laid-datum.mjs) off the statement by which the dump's own 'gosem.cut.vars' lays the variable. In a bare row this is a premise. The card (YtcphbigiooibcaaDoorCards.lean) ties it to the program's text. -/
def laid_pairstone_curve_Far {H : Type} : DataW H := .agg [.lit (.int .i64 0), .lit (.int .i64 0), .lit (.bool true)]
def laid_pairstone_pair_one {H : Type} : DataW H := .agg [.lit (.int .i64 1), .lit (.int .i64 0)]
def laid_errors_errorType {H : Type} : DataW H := .iface "internal/reflectlite.rtype" (.agg [.ptr (.lit (.string [101, 114, 114, 111, 114]))])

/-- 'stonelaw4.GroupOne': WHATEVER THE INPUT: true; the input reads as it did. -/
def groupOneSpec : ChangeSpec := { name := "groupOne", fn := fun _ => fun
  | [d1, d2, d3] => { results := [.lit (.bool true)], args := [d1, d2, d3] }
  | _ => none }
def groupOneRow : OpenClaim := { program := "ytcphbigiooibcaadoor", sum := "daeaf9282531a27cb61415fe7bd34d95d0a3e5879555a7c8fbe0da2edeea7f8a", func := "pairstone/stonelaw4.GroupOne", spec := "groupOne", named := ["pairstone/curve.Far"], apart := false, laid := [("pairstone/curve.Far", laid_pairstone_curve_Far)] }
def GroupOneSaid : Prop := groupOneRow.holds Tryd.pinned (OpenSpec.ofChange groupOneSpec)

/-- ITS FALSE NEIGHBOUR: 'it returns false'. Refute it at one input. -/
def groupOneWrong : ChangeSpec := { name := "groupOne", fn := fun _ => fun
  | [d1, d2, d3] => { results := [.lit (.bool false)], args := [d1, d2, d3] }
  | _ => none }
def GroupOneWrongFalsely : Prop := groupOneRow.holds Tryd.pinned (OpenSpec.ofChange groupOneWrong)

/-- 'stonelaw2.GroupSeals': WHATEVER THE INPUT: true; the input reads as it did. -/
def groupSealsSpec : ChangeSpec := { name := "groupSeals", fn := fun _ => fun
  | [d1, d2, d3, d4] => { results := [.lit (.bool true)], args := [d1, d2, d3, d4] }
  | _ => none }
def groupSealsRow : OpenClaim := { program := "ytcphbigiooibcaadoor", sum := "daeaf9282531a27cb61415fe7bd34d95d0a3e5879555a7c8fbe0da2edeea7f8a", func := "pairstone/stonelaw2.GroupSeals", spec := "groupSeals", named := ["pairstone/curve.Far"], apart := false, laid := [("pairstone/curve.Far", laid_pairstone_curve_Far)] }
def GroupSealsSaid : Prop := groupSealsRow.holds Tryd.pinned (OpenSpec.ofChange groupSealsSpec)

/-- ITS FALSE NEIGHBOUR: 'it returns false'. Refute it at one input. -/
def groupSealsWrong : ChangeSpec := { name := "groupSeals", fn := fun _ => fun
  | [d1, d2, d3, d4] => { results := [.lit (.bool false)], args := [d1, d2, d3, d4] }
  | _ => none }
def GroupSealsWrongFalsely : Prop := groupSealsRow.holds Tryd.pinned (OpenSpec.ofChange groupSealsWrong)

/-- 'stonelaw3.BatchHolds': WHATEVER THE INPUT: true; the input reads as it did. -/
def batchHoldsSpec : ChangeSpec := { name := "batchHolds", fn := fun _ => fun
  | [d1, d2, d3, d4, d5, d6] => { results := [.lit (.bool true)], args := [d1, d2, d3, d4, d5, d6] }
  | _ => none }
def batchHoldsRow : OpenClaim := { program := "ytcphbigiooibcaadoor", sum := "daeaf9282531a27cb61415fe7bd34d95d0a3e5879555a7c8fbe0da2edeea7f8a", func := "pairstone/stonelaw3.BatchHolds", spec := "batchHolds", named := ["pairstone/curve.Far"], apart := false, laid := [("pairstone/curve.Far", laid_pairstone_curve_Far)] }
def BatchHoldsSaid : Prop := batchHoldsRow.holds Tryd.pinned (OpenSpec.ofChange batchHoldsSpec)

/-- ITS FALSE NEIGHBOUR: 'it returns false'. Refute it at one input. -/
def batchHoldsWrong : ChangeSpec := { name := "batchHolds", fn := fun _ => fun
  | [d1, d2, d3, d4, d5, d6] => { results := [.lit (.bool false)], args := [d1, d2, d3, d4, d5, d6] }
  | _ => none }
def BatchHoldsWrongFalsely : Prop := batchHoldsRow.holds Tryd.pinned (OpenSpec.ofChange batchHoldsWrong)

/-- 'stonelaw2.ShortJoins': WHATEVER THE INPUT: true; the input reads as it did. -/
def shortJoinsSpec : ChangeSpec := { name := "shortJoins", fn := fun _ => fun
  | [d1, d2, d3] => { results := [.lit (.bool true)], args := [d1, d2, d3] }
  | _ => none }
def shortJoinsRow : OpenClaim := { program := "ytcphbigiooibcaadoor", sum := "daeaf9282531a27cb61415fe7bd34d95d0a3e5879555a7c8fbe0da2edeea7f8a", func := "pairstone/stonelaw2.ShortJoins", spec := "shortJoins", named := ["pairstone/curve.Far", "pairstone/pair.one"], apart := false, laid := [("pairstone/curve.Far", laid_pairstone_curve_Far), ("pairstone/pair.one", laid_pairstone_pair_one)] }
def ShortJoinsSaid : Prop := shortJoinsRow.holds Tryd.pinned (OpenSpec.ofChange shortJoinsSpec)

/-- ITS FALSE NEIGHBOUR: 'it returns false'. Refute it at one input. -/
def shortJoinsWrong : ChangeSpec := { name := "shortJoins", fn := fun _ => fun
  | [d1, d2, d3] => { results := [.lit (.bool false)], args := [d1, d2, d3] }
  | _ => none }
def ShortJoinsWrongFalsely : Prop := shortJoinsRow.holds Tryd.pinned (OpenSpec.ofChange shortJoinsWrong)

/-- 'stonelaw3.RingHolds': WHATEVER THE INPUT: true; the input reads as it did. -/
def ringHoldsSpec : ChangeSpec := { name := "ringHolds", fn := fun _ => fun
  | [d1, d2, d3, d4, d5] => { results := [.lit (.bool true)], args := [d1, d2, d3, d4, d5] }
  | _ => none }
def ringHoldsRow : OpenClaim := { program := "ytcphbigiooibcaadoor", sum := "daeaf9282531a27cb61415fe7bd34d95d0a3e5879555a7c8fbe0da2edeea7f8a", func := "pairstone/stonelaw3.RingHolds", spec := "ringHolds", unfollowed := true, recurses := true, named := ["pairstone/curve.Far"], apart := false, laid := [("pairstone/curve.Far", laid_pairstone_curve_Far)] }
def RingHoldsSaid : Prop := ringHoldsRow.holds Tryd.pinned (OpenSpec.ofChange ringHoldsSpec)

/-- ITS FALSE NEIGHBOUR: 'it returns false'. Refute it at one input. -/
def ringHoldsWrong : ChangeSpec := { name := "ringHolds", fn := fun _ => fun
  | [d1, d2, d3, d4, d5] => { results := [.lit (.bool false)], args := [d1, d2, d3, d4, d5] }
  | _ => none }
def RingHoldsWrongFalsely : Prop := ringHoldsRow.holds Tryd.pinned (OpenSpec.ofChange ringHoldsWrong)

/-- 'stonetop.TopMixed': WHATEVER THE INPUT: true; the input reads as it did. -/
def topMixedSpec : ChangeSpec := { name := "topMixed", fn := fun _ => fun
  | [d1, d2, d3, d4, d5] => { results := [.lit (.bool true)], args := [d1, d2, d3, d4, d5] }
  | _ => none }
def topMixedRow : OpenClaim := { program := "ytcphbigiooibcaadoor", sum := "daeaf9282531a27cb61415fe7bd34d95d0a3e5879555a7c8fbe0da2edeea7f8a", func := "pairstone/stonetop.TopMixed", spec := "topMixed", named := ["pairstone/curve.Far"], apart := false, laid := [("pairstone/curve.Far", laid_pairstone_curve_Far)] }
def TopMixedSaid : Prop := topMixedRow.holds Tryd.pinned (OpenSpec.ofChange topMixedSpec)

/-- ITS FALSE NEIGHBOUR: 'it returns false'. Refute it at one input. -/
def topMixedWrong : ChangeSpec := { name := "topMixed", fn := fun _ => fun
  | [d1, d2, d3, d4, d5] => { results := [.lit (.bool false)], args := [d1, d2, d3, d4, d5] }
  | _ => none }
def TopMixedWrongFalsely : Prop := topMixedRow.holds Tryd.pinned (OpenSpec.ofChange topMixedWrong)

/-- 'stonelaw3.AdaptTells': WHATEVER THE INPUT: true; the input reads as it did. -/
def adaptTellsSpec : ChangeSpec := { name := "adaptTells", fn := fun _ => fun
  | [d1, d2, d3, d4, d5, d6, d7, d8] => { results := [.lit (.bool true)], args := [d1, d2, d3, d4, d5, d6, d7, d8] }
  | _ => none }
def adaptTellsRow : OpenClaim := { program := "ytcphbigiooibcaadoor", sum := "daeaf9282531a27cb61415fe7bd34d95d0a3e5879555a7c8fbe0da2edeea7f8a", func := "pairstone/stonelaw3.AdaptTells", spec := "adaptTells", inPlace := ["internal/reflectlite.ValueOf", "(internal/reflectlite.Value).Type", "(internal/reflectlite.Value).IsNil", "internal/reflectlite.TypeOf", "(internal/reflectlite.Value).Elem", "(internal/reflectlite.Value).Set"], unfollowed := true, recurses := true, named := ["pairstone/curve.Far", "errors.errorType"], apart := false, laid := [("pairstone/curve.Far", laid_pairstone_curve_Far), ("errors.errorType", laid_errors_errorType)] }
def AdaptTellsSaid : Prop := adaptTellsRow.holds Tryd.pinned (OpenSpec.ofChange adaptTellsSpec)

/-- ITS FALSE NEIGHBOUR: 'it returns false'. Refute it at one input. -/
def adaptTellsWrong : ChangeSpec := { name := "adaptTells", fn := fun _ => fun
  | [d1, d2, d3, d4, d5, d6, d7, d8] => { results := [.lit (.bool false)], args := [d1, d2, d3, d4, d5, d6, d7, d8] }
  | _ => none }
def AdaptTellsWrongFalsely : Prop := adaptTellsRow.holds Tryd.pinned (OpenSpec.ofChange adaptTellsWrong)

/-- 'stonelaw1.PairTells': WHATEVER THE INPUT: true; the input reads as it did. -/
def pairTellsSpec : ChangeSpec := { name := "pairTells", fn := fun _ => fun
  | [d1, d2, d3, d4, d5, d6] => { results := [.lit (.bool true)], args := [d1, d2, d3, d4, d5, d6] }
  | _ => none }
def pairTellsRow : OpenClaim := { program := "ytcphbigiooibcaadoor", sum := "daeaf9282531a27cb61415fe7bd34d95d0a3e5879555a7c8fbe0da2edeea7f8a", func := "pairstone/stonelaw1.PairTells", spec := "pairTells", inPlace := ["internal/reflectlite.ValueOf", "(internal/reflectlite.Value).Type", "(internal/reflectlite.Value).IsNil", "internal/reflectlite.TypeOf", "(internal/reflectlite.Value).Elem", "(internal/reflectlite.Value).Set"], unfollowed := true, recurses := true, named := ["pairstone/curve.Far", "pairstone/pair.one", "errors.errorType"], apart := false, laid := [("pairstone/curve.Far", laid_pairstone_curve_Far), ("pairstone/pair.one", laid_pairstone_pair_one), ("errors.errorType", laid_errors_errorType)] }
def PairTellsSaid : Prop := pairTellsRow.holds Tryd.pinned (OpenSpec.ofChange pairTellsSpec)

/-- ITS FALSE NEIGHBOUR: 'it returns false'. Refute it at one input. -/
def pairTellsWrong : ChangeSpec := { name := "pairTells", fn := fun _ => fun
  | [d1, d2, d3, d4, d5, d6] => { results := [.lit (.bool false)], args := [d1, d2, d3, d4, d5, d6] }
  | _ => none }
def PairTellsWrongFalsely : Prop := pairTellsRow.holds Tryd.pinned (OpenSpec.ofChange pairTellsWrong)

/-- 'stonelaw4.QuorumAlone': WHATEVER THE INPUT: true; the input reads as it did. -/
def quorumAloneSpec : ChangeSpec := { name := "quorumAlone", fn := fun _ => fun
  | [d1, d2, d3, d4] => { results := [.lit (.bool true)], args := [d1, d2, d3, d4] }
  | _ => none }
def quorumAloneRow : OpenClaim := { program := "ytcphbigiooibcaadoor", sum := "daeaf9282531a27cb61415fe7bd34d95d0a3e5879555a7c8fbe0da2edeea7f8a", func := "pairstone/stonelaw4.QuorumAlone", spec := "quorumAlone", unfollowed := true, recurses := true, named := ["pairstone/curve.Far"], apart := false, laid := [("pairstone/curve.Far", laid_pairstone_curve_Far)] }
def QuorumAloneSaid : Prop := quorumAloneRow.holds Tryd.pinned (OpenSpec.ofChange quorumAloneSpec)

/-- ITS FALSE NEIGHBOUR: 'it returns false'. Refute it at one input. -/
def quorumAloneWrong : ChangeSpec := { name := "quorumAlone", fn := fun _ => fun
  | [d1, d2, d3, d4] => { results := [.lit (.bool false)], args := [d1, d2, d3, d4] }
  | _ => none }
def QuorumAloneWrongFalsely : Prop := quorumAloneRow.holds Tryd.pinned (OpenSpec.ofChange quorumAloneWrong)

/-- 'stonelaw2.QuorumSeals': WHATEVER THE INPUT: true; the input reads as it did. -/
def quorumSealsSpec : ChangeSpec := { name := "quorumSeals", fn := fun _ => fun
  | [d1, d2, d3, d4] => { results := [.lit (.bool true)], args := [d1, d2, d3, d4] }
  | _ => none }
def quorumSealsRow : OpenClaim := { program := "ytcphbigiooibcaadoor", sum := "daeaf9282531a27cb61415fe7bd34d95d0a3e5879555a7c8fbe0da2edeea7f8a", func := "pairstone/stonelaw2.QuorumSeals", spec := "quorumSeals", unfollowed := true, recurses := true, named := ["pairstone/curve.Far"], apart := false, laid := [("pairstone/curve.Far", laid_pairstone_curve_Far)] }
def QuorumSealsSaid : Prop := quorumSealsRow.holds Tryd.pinned (OpenSpec.ofChange quorumSealsSpec)

/-- ITS FALSE NEIGHBOUR: 'it returns false'. Refute it at one input. -/
def quorumSealsWrong : ChangeSpec := { name := "quorumSeals", fn := fun _ => fun
  | [d1, d2, d3, d4] => { results := [.lit (.bool false)], args := [d1, d2, d3, d4] }
  | _ => none }
def QuorumSealsWrongFalsely : Prop := quorumSealsRow.holds Tryd.pinned (OpenSpec.ofChange quorumSealsWrong)

/-- 'stonelaw2.ShareTells': WHATEVER THE INPUT: true; the input reads as it did. -/
def shareTellsSpec : ChangeSpec := { name := "shareTells", fn := fun _ => fun
  | [d1, d2, d3, d4] => { results := [.lit (.bool true)], args := [d1, d2, d3, d4] }
  | _ => none }
def shareTellsRow : OpenClaim := { program := "ytcphbigiooibcaadoor", sum := "daeaf9282531a27cb61415fe7bd34d95d0a3e5879555a7c8fbe0da2edeea7f8a", func := "pairstone/stonelaw2.ShareTells", spec := "shareTells", inPlace := ["internal/reflectlite.ValueOf", "(internal/reflectlite.Value).Type", "(internal/reflectlite.Value).IsNil", "internal/reflectlite.TypeOf", "(internal/reflectlite.Value).Elem", "(internal/reflectlite.Value).Set"], unfollowed := true, recurses := true, named := ["errors.errorType"], apart := false, laid := [("errors.errorType", laid_errors_errorType)] }
def ShareTellsSaid : Prop := shareTellsRow.holds Tryd.pinned (OpenSpec.ofChange shareTellsSpec)

/-- ITS FALSE NEIGHBOUR: 'it returns false'. Refute it at one input. -/
def shareTellsWrong : ChangeSpec := { name := "shareTells", fn := fun _ => fun
  | [d1, d2, d3, d4] => { results := [.lit (.bool false)], args := [d1, d2, d3, d4] }
  | _ => none }
def ShareTellsWrongFalsely : Prop := shareTellsRow.holds Tryd.pinned (OpenSpec.ofChange shareTellsWrong)

/-- 'stonelaw2.GroupTells': WHATEVER THE INPUT: true; the input reads as it did. -/
def groupTellsSpec : ChangeSpec := { name := "groupTells", fn := fun _ => fun
  | [d1, d2, d3, d4] => { results := [.lit (.bool true)], args := [d1, d2, d3, d4] }
  | _ => none }
def groupTellsRow : OpenClaim := { program := "ytcphbigiooibcaadoor", sum := "daeaf9282531a27cb61415fe7bd34d95d0a3e5879555a7c8fbe0da2edeea7f8a", func := "pairstone/stonelaw2.GroupTells", spec := "groupTells", inPlace := ["internal/reflectlite.ValueOf", "(internal/reflectlite.Value).Type", "(internal/reflectlite.Value).IsNil", "internal/reflectlite.TypeOf", "(internal/reflectlite.Value).Elem", "(internal/reflectlite.Value).Set"], unfollowed := true, recurses := true, named := ["pairstone/curve.Far", "errors.errorType"], apart := false, laid := [("pairstone/curve.Far", laid_pairstone_curve_Far), ("errors.errorType", laid_errors_errorType)] }
def GroupTellsSaid : Prop := groupTellsRow.holds Tryd.pinned (OpenSpec.ofChange groupTellsSpec)

/-- ITS FALSE NEIGHBOUR: 'it returns false'. Refute it at one input. -/
def groupTellsWrong : ChangeSpec := { name := "groupTells", fn := fun _ => fun
  | [d1, d2, d3, d4] => { results := [.lit (.bool false)], args := [d1, d2, d3, d4] }
  | _ => none }
def GroupTellsWrongFalsely : Prop := groupTellsRow.holds Tryd.pinned (OpenSpec.ofChange groupTellsWrong)

/- THE SECOND FORM. 'bulk': how many values and letters a reading holds, each counted each time it is reached (what is shared counts as often as it is met; a slice's spare places count too). A statement '..UptoSaid' is the law's where the arguments, and the package variables that the reading takes, are together of bulk at most 1048576: NARROWER than '..Said'. Prove '..Said' where nothing that the law and all that it calls make is longer than what came in: it says more and counts as full. Else prove '..UptoSaid'. A law counts once. -/
mutual
def uptoBulk {H : Type} : DataW H → Nat
  | .lit (.string bytes) => bytes.length + 1
  | .lit _ => 1
  | .nil => 1
  | .ptr d => uptoBulk d + 1
  | .slice elems spare => uptoBulkAll elems + uptoBulkAll spare + 1
  | .agg parts => uptoBulkAll parts + 1
  | .iface _ d => uptoBulk d + 1
  | .map entries => uptoBulkEntries entries + 1
  | .held _ => 1
def uptoBulkAll {H : Type} : List (DataW H) → Nat
  | [] => 0
  | d :: r => uptoBulk d + uptoBulkAll r
def uptoBulkEntries {H : Type} : List (Lit × DataW H) → Nat
  | [] => 0
  | x :: r => uptoBulkEntry x + uptoBulkEntries r
def uptoBulkEntry {H : Type} : Lit × DataW H → Nat
  | (.string bytes, d) => bytes.length + uptoBulk d + 1
  | (_, d) => uptoBulk d + 1
 end
def uptoSmall : (H : Type) → List (DataW H) → Bool := fun _ ds => decide (uptoBulkAll ds ≤ 1048576)
def OpenSpec.upto (s : _root_.Go.ChangeSpec) : _root_.Go.OpenSpec := { _root_.Go.OpenSpec.ofChange s with cond := some uptoSmall }

/-- 'stonelaw4.GroupOne', WHERE WHAT IT READS IS OF BULK AT MOST 1048576: true; the input reads as it did. -/
def groupOneUptoRow : OpenClaim := { program := "ytcphbigiooibcaadoor", sum := "daeaf9282531a27cb61415fe7bd34d95d0a3e5879555a7c8fbe0da2edeea7f8a", func := "pairstone/stonelaw4.GroupOne", spec := "groupOne", named := ["pairstone/curve.Far"], apart := false, laid := [("pairstone/curve.Far", laid_pairstone_curve_Far)], narrowed := true }
def GroupOneUptoSaid : Prop := groupOneUptoRow.holds Tryd.pinned (OpenSpec.upto groupOneSpec)

/-- 'stonelaw2.GroupSeals', WHERE WHAT IT READS IS OF BULK AT MOST 1048576: true; the input reads as it did. -/
def groupSealsUptoRow : OpenClaim := { program := "ytcphbigiooibcaadoor", sum := "daeaf9282531a27cb61415fe7bd34d95d0a3e5879555a7c8fbe0da2edeea7f8a", func := "pairstone/stonelaw2.GroupSeals", spec := "groupSeals", named := ["pairstone/curve.Far"], apart := false, laid := [("pairstone/curve.Far", laid_pairstone_curve_Far)], narrowed := true }
def GroupSealsUptoSaid : Prop := groupSealsUptoRow.holds Tryd.pinned (OpenSpec.upto groupSealsSpec)

/-- 'stonelaw3.BatchHolds', WHERE WHAT IT READS IS OF BULK AT MOST 1048576: true; the input reads as it did. -/
def batchHoldsUptoRow : OpenClaim := { program := "ytcphbigiooibcaadoor", sum := "daeaf9282531a27cb61415fe7bd34d95d0a3e5879555a7c8fbe0da2edeea7f8a", func := "pairstone/stonelaw3.BatchHolds", spec := "batchHolds", named := ["pairstone/curve.Far"], apart := false, laid := [("pairstone/curve.Far", laid_pairstone_curve_Far)], narrowed := true }
def BatchHoldsUptoSaid : Prop := batchHoldsUptoRow.holds Tryd.pinned (OpenSpec.upto batchHoldsSpec)

/-- 'stonelaw2.ShortJoins', WHERE WHAT IT READS IS OF BULK AT MOST 1048576: true; the input reads as it did. -/
def shortJoinsUptoRow : OpenClaim := { program := "ytcphbigiooibcaadoor", sum := "daeaf9282531a27cb61415fe7bd34d95d0a3e5879555a7c8fbe0da2edeea7f8a", func := "pairstone/stonelaw2.ShortJoins", spec := "shortJoins", named := ["pairstone/curve.Far", "pairstone/pair.one"], apart := false, laid := [("pairstone/curve.Far", laid_pairstone_curve_Far), ("pairstone/pair.one", laid_pairstone_pair_one)], narrowed := true }
def ShortJoinsUptoSaid : Prop := shortJoinsUptoRow.holds Tryd.pinned (OpenSpec.upto shortJoinsSpec)

/-- 'stonelaw3.RingHolds', WHERE WHAT IT READS IS OF BULK AT MOST 1048576: true; the input reads as it did. -/
def ringHoldsUptoRow : OpenClaim := { program := "ytcphbigiooibcaadoor", sum := "daeaf9282531a27cb61415fe7bd34d95d0a3e5879555a7c8fbe0da2edeea7f8a", func := "pairstone/stonelaw3.RingHolds", spec := "ringHolds", unfollowed := true, recurses := true, named := ["pairstone/curve.Far"], apart := false, laid := [("pairstone/curve.Far", laid_pairstone_curve_Far)], narrowed := true }
def RingHoldsUptoSaid : Prop := ringHoldsUptoRow.holds Tryd.pinned (OpenSpec.upto ringHoldsSpec)

/-- 'stonetop.TopMixed', WHERE WHAT IT READS IS OF BULK AT MOST 1048576: true; the input reads as it did. -/
def topMixedUptoRow : OpenClaim := { program := "ytcphbigiooibcaadoor", sum := "daeaf9282531a27cb61415fe7bd34d95d0a3e5879555a7c8fbe0da2edeea7f8a", func := "pairstone/stonetop.TopMixed", spec := "topMixed", named := ["pairstone/curve.Far"], apart := false, laid := [("pairstone/curve.Far", laid_pairstone_curve_Far)], narrowed := true }
def TopMixedUptoSaid : Prop := topMixedUptoRow.holds Tryd.pinned (OpenSpec.upto topMixedSpec)

/-- 'stonelaw3.AdaptTells', WHERE WHAT IT READS IS OF BULK AT MOST 1048576: true; the input reads as it did. -/
def adaptTellsUptoRow : OpenClaim := { program := "ytcphbigiooibcaadoor", sum := "daeaf9282531a27cb61415fe7bd34d95d0a3e5879555a7c8fbe0da2edeea7f8a", func := "pairstone/stonelaw3.AdaptTells", spec := "adaptTells", inPlace := ["internal/reflectlite.ValueOf", "(internal/reflectlite.Value).Type", "(internal/reflectlite.Value).IsNil", "internal/reflectlite.TypeOf", "(internal/reflectlite.Value).Elem", "(internal/reflectlite.Value).Set"], unfollowed := true, recurses := true, named := ["pairstone/curve.Far", "errors.errorType"], apart := false, laid := [("pairstone/curve.Far", laid_pairstone_curve_Far), ("errors.errorType", laid_errors_errorType)], narrowed := true }
def AdaptTellsUptoSaid : Prop := adaptTellsUptoRow.holds Tryd.pinned (OpenSpec.upto adaptTellsSpec)

/-- 'stonelaw1.PairTells', WHERE WHAT IT READS IS OF BULK AT MOST 1048576: true; the input reads as it did. -/
def pairTellsUptoRow : OpenClaim := { program := "ytcphbigiooibcaadoor", sum := "daeaf9282531a27cb61415fe7bd34d95d0a3e5879555a7c8fbe0da2edeea7f8a", func := "pairstone/stonelaw1.PairTells", spec := "pairTells", inPlace := ["internal/reflectlite.ValueOf", "(internal/reflectlite.Value).Type", "(internal/reflectlite.Value).IsNil", "internal/reflectlite.TypeOf", "(internal/reflectlite.Value).Elem", "(internal/reflectlite.Value).Set"], unfollowed := true, recurses := true, named := ["pairstone/curve.Far", "pairstone/pair.one", "errors.errorType"], apart := false, laid := [("pairstone/curve.Far", laid_pairstone_curve_Far), ("pairstone/pair.one", laid_pairstone_pair_one), ("errors.errorType", laid_errors_errorType)], narrowed := true }
def PairTellsUptoSaid : Prop := pairTellsUptoRow.holds Tryd.pinned (OpenSpec.upto pairTellsSpec)

/-- 'stonelaw4.QuorumAlone', WHERE WHAT IT READS IS OF BULK AT MOST 1048576: true; the input reads as it did. -/
def quorumAloneUptoRow : OpenClaim := { program := "ytcphbigiooibcaadoor", sum := "daeaf9282531a27cb61415fe7bd34d95d0a3e5879555a7c8fbe0da2edeea7f8a", func := "pairstone/stonelaw4.QuorumAlone", spec := "quorumAlone", unfollowed := true, recurses := true, named := ["pairstone/curve.Far"], apart := false, laid := [("pairstone/curve.Far", laid_pairstone_curve_Far)], narrowed := true }
def QuorumAloneUptoSaid : Prop := quorumAloneUptoRow.holds Tryd.pinned (OpenSpec.upto quorumAloneSpec)

/-- 'stonelaw2.QuorumSeals', WHERE WHAT IT READS IS OF BULK AT MOST 1048576: true; the input reads as it did. -/
def quorumSealsUptoRow : OpenClaim := { program := "ytcphbigiooibcaadoor", sum := "daeaf9282531a27cb61415fe7bd34d95d0a3e5879555a7c8fbe0da2edeea7f8a", func := "pairstone/stonelaw2.QuorumSeals", spec := "quorumSeals", unfollowed := true, recurses := true, named := ["pairstone/curve.Far"], apart := false, laid := [("pairstone/curve.Far", laid_pairstone_curve_Far)], narrowed := true }
def QuorumSealsUptoSaid : Prop := quorumSealsUptoRow.holds Tryd.pinned (OpenSpec.upto quorumSealsSpec)

/-- 'stonelaw2.ShareTells', WHERE WHAT IT READS IS OF BULK AT MOST 1048576: true; the input reads as it did. -/
def shareTellsUptoRow : OpenClaim := { program := "ytcphbigiooibcaadoor", sum := "daeaf9282531a27cb61415fe7bd34d95d0a3e5879555a7c8fbe0da2edeea7f8a", func := "pairstone/stonelaw2.ShareTells", spec := "shareTells", inPlace := ["internal/reflectlite.ValueOf", "(internal/reflectlite.Value).Type", "(internal/reflectlite.Value).IsNil", "internal/reflectlite.TypeOf", "(internal/reflectlite.Value).Elem", "(internal/reflectlite.Value).Set"], unfollowed := true, recurses := true, named := ["errors.errorType"], apart := false, laid := [("errors.errorType", laid_errors_errorType)], narrowed := true }
def ShareTellsUptoSaid : Prop := shareTellsUptoRow.holds Tryd.pinned (OpenSpec.upto shareTellsSpec)

/-- 'stonelaw2.GroupTells', WHERE WHAT IT READS IS OF BULK AT MOST 1048576: true; the input reads as it did. -/
def groupTellsUptoRow : OpenClaim := { program := "ytcphbigiooibcaadoor", sum := "daeaf9282531a27cb61415fe7bd34d95d0a3e5879555a7c8fbe0da2edeea7f8a", func := "pairstone/stonelaw2.GroupTells", spec := "groupTells", inPlace := ["internal/reflectlite.ValueOf", "(internal/reflectlite.Value).Type", "(internal/reflectlite.Value).IsNil", "internal/reflectlite.TypeOf", "(internal/reflectlite.Value).Elem", "(internal/reflectlite.Value).Set"], unfollowed := true, recurses := true, named := ["pairstone/curve.Far", "errors.errorType"], apart := false, laid := [("pairstone/curve.Far", laid_pairstone_curve_Far), ("errors.errorType", laid_errors_errorType)], narrowed := true }
def GroupTellsUptoSaid : Prop := groupTellsUptoRow.holds Tryd.pinned (OpenSpec.upto groupTellsSpec)

end Rows
end Go.Proofs.YtcphbigiooibcaaDoor
