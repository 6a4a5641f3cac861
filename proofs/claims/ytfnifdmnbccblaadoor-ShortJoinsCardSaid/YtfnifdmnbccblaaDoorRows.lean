/-
  NARROWER THAN 'FOR EVERY INPUT', by the rows' own cells (each row's printed sentence says how): ShortJoins: laid · PairTells: laid · BatchTells: laid · AdaptTells: laid · RingTells: laid · BookPlays: laid · BookOnce: laid · ShortTells: laid · BookKeeps: laid.
  DERIVED. THE GIVEN ROWS OF THIS SEAT. 9 by the template 'for every input the law returns true; each argument reads behind the call as it read before'; 0 by the template 'total and deterministic' (their statements: YtfnifdmnbccblaaDoorTotals.lean).
  GIVEN WITH THE SEED: the statements are not yours to turn. If you find one false, say at which input.
  Laid BY PROGRAM, IN A SANDBOX (cutbox-rows.mjs): the forced cells as the released guide's own fill.sh prints them over the translation fd67486329126f55… (all of the seat's roots in one cut). By AI agents, Wed Nov 11 2026. No macro, syntax, notation, axiom, sorry.
-/
import Derived.Test.YtfnifdmnbccblaaDoorChecked
import GoSem.Claim
import GoSem.ClaimJoined
import GoSem.ClaimMapViews
import Derived.JoinedTies
import Derived.KernelRfl
namespace Go.Proofs.YtfnifdmnbccblaaDoor
/- THE CELL 'sum', in the pinned program and in every row, IS THE sha256 OF THE DUMP (.gsa) THAT YtfnifdmnbccblaaDoorProg.lean LOADS. Nothing in Lean hashes anything: it is a label: what it is worth is what the hold of that sum in a sandbox is worth. -/
noncomputable def Tryd.pinned : Pinned := { name := "ytfnifdmnbccblaadoor", sum := "fd67486329126f55f326b9783c260337d744f784d580ec09f7dbfed81e831058", checked := Tryd.checked }
namespace Rows
def none {H : Type} : Left H := { results := [], args := [] }

/- WHAT THE LISTED PACKAGE-LEVEL VARIABLES READ AS WHEN THE CALL BEGINS. Each datum BY PROGRAM (the guide's laid-datum.mjs) off the statement by which the dump's own 'gosem.cut.vars' lays the variable. In a bare row this is a premise. The card (YtfnifdmnbccblaaDoorCards.lean) ties it to the program's text. -/
def laid_pairstone_curve_Far {H : Type} : DataW H := .agg [.lit (.int .i64 0), .lit (.int .i64 0), .lit (.bool true)]
def laid_pairstone_pair_one {H : Type} : DataW H := .agg [.lit (.int .i64 1), .lit (.int .i64 0)]
def laid_errors_errorType {H : Type} : DataW H := .iface "internal/reflectlite.rtype" (.agg [.ptr (.lit (.string [101, 114, 114, 111, 114]))])

/-- 'stonelaw2.ShortJoins': WHATEVER THE INPUT: true; the input reads as it did. -/
def shortJoinsSpec : ChangeSpec := { name := "shortJoins", fn := fun _ => fun
  | [d1, d2, d3] => { results := [.lit (.bool true)], args := [d1, d2, d3] }
  | _ => none }
def shortJoinsRow : OpenClaim := { program := "ytfnifdmnbccblaadoor", sum := "fd67486329126f55f326b9783c260337d744f784d580ec09f7dbfed81e831058", func := "pairstone/stonelaw2.ShortJoins", spec := "shortJoins", named := ["pairstone/curve.Far", "pairstone/pair.one"], apart := false, laid := [("pairstone/curve.Far", laid_pairstone_curve_Far), ("pairstone/pair.one", laid_pairstone_pair_one)] }
def ShortJoinsSaid : Prop := shortJoinsRow.holds Tryd.pinned (OpenSpec.ofChange shortJoinsSpec)

/-- ITS FALSE NEIGHBOUR: 'it returns false'. Refute it at one input. -/
def shortJoinsWrong : ChangeSpec := { name := "shortJoins", fn := fun _ => fun
  | [d1, d2, d3] => { results := [.lit (.bool false)], args := [d1, d2, d3] }
  | _ => none }
def ShortJoinsWrongFalsely : Prop := shortJoinsRow.holds Tryd.pinned (OpenSpec.ofChange shortJoinsWrong)

/-- 'stonelaw1.PairTells': WHATEVER THE INPUT: true; the input reads as it did. -/
def pairTellsSpec : ChangeSpec := { name := "pairTells", fn := fun _ => fun
  | [d1, d2, d3, d4, d5, d6] => { results := [.lit (.bool true)], args := [d1, d2, d3, d4, d5, d6] }
  | _ => none }
def pairTellsRow : OpenClaim := { program := "ytfnifdmnbccblaadoor", sum := "fd67486329126f55f326b9783c260337d744f784d580ec09f7dbfed81e831058", func := "pairstone/stonelaw1.PairTells", spec := "pairTells", inPlace := ["internal/reflectlite.ValueOf", "(internal/reflectlite.Value).Type", "(internal/reflectlite.Value).IsNil", "internal/reflectlite.TypeOf", "(internal/reflectlite.Value).Elem", "(internal/reflectlite.Value).Set"], unfollowed := true, recurses := true, named := ["pairstone/curve.Far", "pairstone/pair.one", "errors.errorType"], apart := false, laid := [("pairstone/curve.Far", laid_pairstone_curve_Far), ("pairstone/pair.one", laid_pairstone_pair_one), ("errors.errorType", laid_errors_errorType)] }
def PairTellsSaid : Prop := pairTellsRow.holds Tryd.pinned (OpenSpec.ofChange pairTellsSpec)

/-- ITS FALSE NEIGHBOUR: 'it returns false'. Refute it at one input. -/
def pairTellsWrong : ChangeSpec := { name := "pairTells", fn := fun _ => fun
  | [d1, d2, d3, d4, d5, d6] => { results := [.lit (.bool false)], args := [d1, d2, d3, d4, d5, d6] }
  | _ => none }
def PairTellsWrongFalsely : Prop := pairTellsRow.holds Tryd.pinned (OpenSpec.ofChange pairTellsWrong)

/-- 'stonelaw3.BatchTells': WHATEVER THE INPUT: true; the input reads as it did. -/
def batchTellsSpec : ChangeSpec := { name := "batchTells", fn := fun _ => fun
  | [d1, d2, d3, d4] => { results := [.lit (.bool true)], args := [d1, d2, d3, d4] }
  | _ => none }
def batchTellsRow : OpenClaim := { program := "ytfnifdmnbccblaadoor", sum := "fd67486329126f55f326b9783c260337d744f784d580ec09f7dbfed81e831058", func := "pairstone/stonelaw3.BatchTells", spec := "batchTells", inPlace := ["internal/reflectlite.ValueOf", "(internal/reflectlite.Value).Type", "(internal/reflectlite.Value).IsNil", "internal/reflectlite.TypeOf", "(internal/reflectlite.Value).Elem", "(internal/reflectlite.Value).Set"], unfollowed := true, recurses := true, named := ["pairstone/curve.Far", "errors.errorType"], apart := false, laid := [("pairstone/curve.Far", laid_pairstone_curve_Far), ("errors.errorType", laid_errors_errorType)] }
def BatchTellsSaid : Prop := batchTellsRow.holds Tryd.pinned (OpenSpec.ofChange batchTellsSpec)

/-- ITS FALSE NEIGHBOUR: 'it returns false'. Refute it at one input. -/
def batchTellsWrong : ChangeSpec := { name := "batchTells", fn := fun _ => fun
  | [d1, d2, d3, d4] => { results := [.lit (.bool false)], args := [d1, d2, d3, d4] }
  | _ => none }
def BatchTellsWrongFalsely : Prop := batchTellsRow.holds Tryd.pinned (OpenSpec.ofChange batchTellsWrong)

/-- 'stonelaw3.AdaptTells': WHATEVER THE INPUT: true; the input reads as it did. -/
def adaptTellsSpec : ChangeSpec := { name := "adaptTells", fn := fun _ => fun
  | [d1, d2, d3, d4, d5, d6, d7, d8] => { results := [.lit (.bool true)], args := [d1, d2, d3, d4, d5, d6, d7, d8] }
  | _ => none }
def adaptTellsRow : OpenClaim := { program := "ytfnifdmnbccblaadoor", sum := "fd67486329126f55f326b9783c260337d744f784d580ec09f7dbfed81e831058", func := "pairstone/stonelaw3.AdaptTells", spec := "adaptTells", inPlace := ["internal/reflectlite.ValueOf", "(internal/reflectlite.Value).Type", "(internal/reflectlite.Value).IsNil", "internal/reflectlite.TypeOf", "(internal/reflectlite.Value).Elem", "(internal/reflectlite.Value).Set"], unfollowed := true, recurses := true, named := ["pairstone/curve.Far", "errors.errorType"], apart := false, laid := [("pairstone/curve.Far", laid_pairstone_curve_Far), ("errors.errorType", laid_errors_errorType)] }
def AdaptTellsSaid : Prop := adaptTellsRow.holds Tryd.pinned (OpenSpec.ofChange adaptTellsSpec)

/-- ITS FALSE NEIGHBOUR: 'it returns false'. Refute it at one input. -/
def adaptTellsWrong : ChangeSpec := { name := "adaptTells", fn := fun _ => fun
  | [d1, d2, d3, d4, d5, d6, d7, d8] => { results := [.lit (.bool false)], args := [d1, d2, d3, d4, d5, d6, d7, d8] }
  | _ => none }
def AdaptTellsWrongFalsely : Prop := adaptTellsRow.holds Tryd.pinned (OpenSpec.ofChange adaptTellsWrong)

/-- 'stonelaw3.RingTells': WHATEVER THE INPUT: true; the input reads as it did. -/
def ringTellsSpec : ChangeSpec := { name := "ringTells", fn := fun _ => fun
  | [d1, d2, d3, d4, d5, d6, d7, d8] => { results := [.lit (.bool true)], args := [d1, d2, d3, d4, d5, d6, d7, d8] }
  | _ => none }
def ringTellsRow : OpenClaim := { program := "ytfnifdmnbccblaadoor", sum := "fd67486329126f55f326b9783c260337d744f784d580ec09f7dbfed81e831058", func := "pairstone/stonelaw3.RingTells", spec := "ringTells", inPlace := ["internal/reflectlite.ValueOf", "(internal/reflectlite.Value).Type", "(internal/reflectlite.Value).IsNil", "internal/reflectlite.TypeOf", "(internal/reflectlite.Value).Elem", "(internal/reflectlite.Value).Set"], unfollowed := true, recurses := true, named := ["pairstone/curve.Far", "errors.errorType"], apart := false, laid := [("pairstone/curve.Far", laid_pairstone_curve_Far), ("errors.errorType", laid_errors_errorType)] }
def RingTellsSaid : Prop := ringTellsRow.holds Tryd.pinned (OpenSpec.ofChange ringTellsSpec)

/-- ITS FALSE NEIGHBOUR: 'it returns false'. Refute it at one input. -/
def ringTellsWrong : ChangeSpec := { name := "ringTells", fn := fun _ => fun
  | [d1, d2, d3, d4, d5, d6, d7, d8] => { results := [.lit (.bool false)], args := [d1, d2, d3, d4, d5, d6, d7, d8] }
  | _ => none }
def RingTellsWrongFalsely : Prop := ringTellsRow.holds Tryd.pinned (OpenSpec.ofChange ringTellsWrong)

/-- 'stonelaw3.BookPlays': WHATEVER THE INPUT: true; the input reads as it did. -/
def bookPlaysSpec : ChangeSpec := { name := "bookPlays", fn := fun _ => fun
  | [d1, d2, d3, d4, d5] => { results := [.lit (.bool true)], args := [d1, d2, d3, d4, d5] }
  | _ => none }
def bookPlaysRow : OpenClaim := { program := "ytfnifdmnbccblaadoor", sum := "fd67486329126f55f326b9783c260337d744f784d580ec09f7dbfed81e831058", func := "pairstone/stonelaw3.BookPlays", spec := "bookPlays", inPlace := ["internal/reflectlite.ValueOf", "(internal/reflectlite.Value).Type", "(internal/reflectlite.Value).IsNil", "internal/reflectlite.TypeOf", "(internal/reflectlite.Value).Elem", "(internal/reflectlite.Value).Set"], unfollowed := true, recurses := true, named := ["pairstone/curve.Far", "errors.errorType"], apart := false, laid := [("pairstone/curve.Far", laid_pairstone_curve_Far), ("errors.errorType", laid_errors_errorType)] }
def BookPlaysSaid : Prop := bookPlaysRow.holds Tryd.pinned (OpenSpec.ofChange bookPlaysSpec)

/-- ITS FALSE NEIGHBOUR: 'it returns false'. Refute it at one input. -/
def bookPlaysWrong : ChangeSpec := { name := "bookPlays", fn := fun _ => fun
  | [d1, d2, d3, d4, d5] => { results := [.lit (.bool false)], args := [d1, d2, d3, d4, d5] }
  | _ => none }
def BookPlaysWrongFalsely : Prop := bookPlaysRow.holds Tryd.pinned (OpenSpec.ofChange bookPlaysWrong)

/-- 'stonelaw4.BookOnce': WHATEVER THE INPUT: true; the input reads as it did. -/
def bookOnceSpec : ChangeSpec := { name := "bookOnce", fn := fun _ => fun
  | [d1, d2, d3, d4] => { results := [.lit (.bool true)], args := [d1, d2, d3, d4] }
  | _ => none }
def bookOnceRow : OpenClaim := { program := "ytfnifdmnbccblaadoor", sum := "fd67486329126f55f326b9783c260337d744f784d580ec09f7dbfed81e831058", func := "pairstone/stonelaw4.BookOnce", spec := "bookOnce", inPlace := ["internal/reflectlite.ValueOf", "(internal/reflectlite.Value).Type", "(internal/reflectlite.Value).IsNil", "internal/reflectlite.TypeOf", "(internal/reflectlite.Value).Elem", "(internal/reflectlite.Value).Set"], unfollowed := true, recurses := true, named := ["pairstone/curve.Far", "errors.errorType"], apart := false, laid := [("pairstone/curve.Far", laid_pairstone_curve_Far), ("errors.errorType", laid_errors_errorType)] }
def BookOnceSaid : Prop := bookOnceRow.holds Tryd.pinned (OpenSpec.ofChange bookOnceSpec)

/-- ITS FALSE NEIGHBOUR: 'it returns false'. Refute it at one input. -/
def bookOnceWrong : ChangeSpec := { name := "bookOnce", fn := fun _ => fun
  | [d1, d2, d3, d4] => { results := [.lit (.bool false)], args := [d1, d2, d3, d4] }
  | _ => none }
def BookOnceWrongFalsely : Prop := bookOnceRow.holds Tryd.pinned (OpenSpec.ofChange bookOnceWrong)

/-- 'stonelaw2.ShortTells': WHATEVER THE INPUT: true; the input reads as it did. -/
def shortTellsSpec : ChangeSpec := { name := "shortTells", fn := fun _ => fun
  | [d1, d2, d3, d4, d5, d6] => { results := [.lit (.bool true)], args := [d1, d2, d3, d4, d5, d6] }
  | _ => none }
def shortTellsRow : OpenClaim := { program := "ytfnifdmnbccblaadoor", sum := "fd67486329126f55f326b9783c260337d744f784d580ec09f7dbfed81e831058", func := "pairstone/stonelaw2.ShortTells", spec := "shortTells", inPlace := ["internal/reflectlite.ValueOf", "(internal/reflectlite.Value).Type", "(internal/reflectlite.Value).IsNil", "internal/reflectlite.TypeOf", "(internal/reflectlite.Value).Elem", "(internal/reflectlite.Value).Set"], unfollowed := true, recurses := true, named := ["pairstone/curve.Far", "errors.errorType", "pairstone/pair.one"], apart := false, laid := [("pairstone/curve.Far", laid_pairstone_curve_Far), ("pairstone/pair.one", laid_pairstone_pair_one), ("errors.errorType", laid_errors_errorType)] }
def ShortTellsSaid : Prop := shortTellsRow.holds Tryd.pinned (OpenSpec.ofChange shortTellsSpec)

/-- ITS FALSE NEIGHBOUR: 'it returns false'. Refute it at one input. -/
def shortTellsWrong : ChangeSpec := { name := "shortTells", fn := fun _ => fun
  | [d1, d2, d3, d4, d5, d6] => { results := [.lit (.bool false)], args := [d1, d2, d3, d4, d5, d6] }
  | _ => none }
def ShortTellsWrongFalsely : Prop := shortTellsRow.holds Tryd.pinned (OpenSpec.ofChange shortTellsWrong)

/-- 'stonelaw3.BookKeeps': WHATEVER THE INPUT: true; the input reads as it did. -/
def bookKeepsSpec : ChangeSpec := { name := "bookKeeps", fn := fun _ => fun
  | [d1, d2, d3, d4, d5, d6] => { results := [.lit (.bool true)], args := [d1, d2, d3, d4, d5, d6] }
  | _ => none }
def bookKeepsRow : OpenClaim := { program := "ytfnifdmnbccblaadoor", sum := "fd67486329126f55f326b9783c260337d744f784d580ec09f7dbfed81e831058", func := "pairstone/stonelaw3.BookKeeps", spec := "bookKeeps", inPlace := ["internal/reflectlite.ValueOf", "(internal/reflectlite.Value).Type", "(internal/reflectlite.Value).IsNil", "internal/reflectlite.TypeOf", "(internal/reflectlite.Value).Elem", "(internal/reflectlite.Value).Set"], unfollowed := true, recurses := true, named := ["pairstone/curve.Far", "errors.errorType"], apart := false, laid := [("pairstone/curve.Far", laid_pairstone_curve_Far), ("errors.errorType", laid_errors_errorType)] }
def BookKeepsSaid : Prop := bookKeepsRow.holds Tryd.pinned (OpenSpec.ofChange bookKeepsSpec)

/-- ITS FALSE NEIGHBOUR: 'it returns false'. Refute it at one input. -/
def bookKeepsWrong : ChangeSpec := { name := "bookKeeps", fn := fun _ => fun
  | [d1, d2, d3, d4, d5, d6] => { results := [.lit (.bool false)], args := [d1, d2, d3, d4, d5, d6] }
  | _ => none }
def BookKeepsWrongFalsely : Prop := bookKeepsRow.holds Tryd.pinned (OpenSpec.ofChange bookKeepsWrong)

/- THE SECOND FORM. 'bulk': how many values and letters a reading holds, each counted each time it is reached (what is shared counts as often as it is met; a slice's spare places count too). A statement '..UptoSaid' is the law's where the arguments, and the package variables that the reading takes, are together of bulk at most 1048576: NARROWER than '..Said'. Prove '..Said' where nothing that the law and all that it calls make is longer than what came in: it says more and counts as full. Else prove '..UptoSaid'. A law counts once. -/
mutual
def uptoBulk {H : Type} : DataW H → Nat
  | .lit (.string bytes) => bytes.length + 1
  | .lit _ => 1
  | .nil => 1
  | .ptr d => uptoBulk d + 1
  | .slice elems spare => uptoBulkAll elems + uptoBulkAll spare + 1
  | .agg parts => uptoBulkAll parts + 1
  | .iface _ d => uptoBulk d + 1
  | .map entries => uptoBulkEntries entries + 1
  | .held _ => 1
def uptoBulkAll {H : Type} : List (DataW H) → Nat
  | [] => 0
  | d :: r => uptoBulk d + uptoBulkAll r
def uptoBulkEntries {H : Type} : List (Lit × DataW H) → Nat
  | [] => 0
  | x :: r => uptoBulkEntry x + uptoBulkEntries r
def uptoBulkEntry {H : Type} : Lit × DataW H → Nat
  | (.string bytes, d) => bytes.length + uptoBulk d + 1
  | (_, d) => uptoBulk d + 1
 end
def uptoSmall : (H : Type) → List (DataW H) → Bool := fun _ ds => decide (uptoBulkAll ds ≤ 1048576)
def OpenSpec.upto (s : _root_.Go.ChangeSpec) : _root_.Go.OpenSpec := { _root_.Go.OpenSpec.ofChange s with cond := some uptoSmall }

/-- 'stonelaw2.ShortJoins', WHERE WHAT IT READS IS OF BULK AT MOST 1048576: true; the input reads as it did. -/
def shortJoinsUptoRow : OpenClaim := { program := "ytfnifdmnbccblaadoor", sum := "fd67486329126f55f326b9783c260337d744f784d580ec09f7dbfed81e831058", func := "pairstone/stonelaw2.ShortJoins", spec := "shortJoins", named := ["pairstone/curve.Far", "pairstone/pair.one"], apart := false, laid := [("pairstone/curve.Far", laid_pairstone_curve_Far), ("pairstone/pair.one", laid_pairstone_pair_one)], narrowed := true }
def ShortJoinsUptoSaid : Prop := shortJoinsUptoRow.holds Tryd.pinned (OpenSpec.upto shortJoinsSpec)

/-- 'stonelaw1.PairTells', WHERE WHAT IT READS IS OF BULK AT MOST 1048576: true; the input reads as it did. -/
def pairTellsUptoRow : OpenClaim := { program := "ytfnifdmnbccblaadoor", sum := "fd67486329126f55f326b9783c260337d744f784d580ec09f7dbfed81e831058", func := "pairstone/stonelaw1.PairTells", spec := "pairTells", inPlace := ["internal/reflectlite.ValueOf", "(internal/reflectlite.Value).Type", "(internal/reflectlite.Value).IsNil", "internal/reflectlite.TypeOf", "(internal/reflectlite.Value).Elem", "(internal/reflectlite.Value).Set"], unfollowed := true, recurses := true, named := ["pairstone/curve.Far", "pairstone/pair.one", "errors.errorType"], apart := false, laid := [("pairstone/curve.Far", laid_pairstone_curve_Far), ("pairstone/pair.one", laid_pairstone_pair_one), ("errors.errorType", laid_errors_errorType)], narrowed := true }
def PairTellsUptoSaid : Prop := pairTellsUptoRow.holds Tryd.pinned (OpenSpec.upto pairTellsSpec)

/-- 'stonelaw3.BatchTells', WHERE WHAT IT READS IS OF BULK AT MOST 1048576: true; the input reads as it did. -/
def batchTellsUptoRow : OpenClaim := { program := "ytfnifdmnbccblaadoor", sum := "fd67486329126f55f326b9783c260337d744f784d580ec09f7dbfed81e831058", func := "pairstone/stonelaw3.BatchTells", spec := "batchTells", inPlace := ["internal/reflectlite.ValueOf", "(internal/reflectlite.Value).Type", "(internal/reflectlite.Value).IsNil", "internal/reflectlite.TypeOf", "(internal/reflectlite.Value).Elem", "(internal/reflectlite.Value).Set"], unfollowed := true, recurses := true, named := ["pairstone/curve.Far", "errors.errorType"], apart := false, laid := [("pairstone/curve.Far", laid_pairstone_curve_Far), ("errors.errorType", laid_errors_errorType)], narrowed := true }
def BatchTellsUptoSaid : Prop := batchTellsUptoRow.holds Tryd.pinned (OpenSpec.upto batchTellsSpec)

/-- 'stonelaw3.AdaptTells', WHERE WHAT IT READS IS OF BULK AT MOST 1048576: true; the input reads as it did. -/
def adaptTellsUptoRow : OpenClaim := { program := "ytfnifdmnbccblaadoor", sum := "fd67486329126f55f326b9783c260337d744f784d580ec09f7dbfed81e831058", func := "pairstone/stonelaw3.AdaptTells", spec := "adaptTells", inPlace := ["internal/reflectlite.ValueOf", "(internal/reflectlite.Value).Type", "(internal/reflectlite.Value).IsNil", "internal/reflectlite.TypeOf", "(internal/reflectlite.Value).Elem", "(internal/reflectlite.Value).Set"], unfollowed := true, recurses := true, named := ["pairstone/curve.Far", "errors.errorType"], apart := false, laid := [("pairstone/curve.Far", laid_pairstone_curve_Far), ("errors.errorType", laid_errors_errorType)], narrowed := true }
def AdaptTellsUptoSaid : Prop := adaptTellsUptoRow.holds Tryd.pinned (OpenSpec.upto adaptTellsSpec)

/-- 'stonelaw3.RingTells', WHERE WHAT IT READS IS OF BULK AT MOST 1048576: true; the input reads as it did. -/
def ringTellsUptoRow : OpenClaim := { program := "ytfnifdmnbccblaadoor", sum := "fd67486329126f55f326b9783c260337d744f784d580ec09f7dbfed81e831058", func := "pairstone/stonelaw3.RingTells", spec := "ringTells", inPlace := ["internal/reflectlite.ValueOf", "(internal/reflectlite.Value).Type", "(internal/reflectlite.Value).IsNil", "internal/reflectlite.TypeOf", "(internal/reflectlite.Value).Elem", "(internal/reflectlite.Value).Set"], unfollowed := true, recurses := true, named := ["pairstone/curve.Far", "errors.errorType"], apart := false, laid := [("pairstone/curve.Far", laid_pairstone_curve_Far), ("errors.errorType", laid_errors_errorType)], narrowed := true }
def RingTellsUptoSaid : Prop := ringTellsUptoRow.holds Tryd.pinned (OpenSpec.upto ringTellsSpec)

/-- 'stonelaw3.BookPlays', WHERE WHAT IT READS IS OF BULK AT MOST 1048576: true; the input reads as it did. -/
def bookPlaysUptoRow : OpenClaim := { program := "ytfnifdmnbccblaadoor", sum := "fd67486329126f55f326b9783c260337d744f784d580ec09f7dbfed81e831058", func := "pairstone/stonelaw3.BookPlays", spec := "bookPlays", inPlace := ["internal/reflectlite.ValueOf", "(internal/reflectlite.Value).Type", "(internal/reflectlite.Value).IsNil", "internal/reflectlite.TypeOf", "(internal/reflectlite.Value).Elem", "(internal/reflectlite.Value).Set"], unfollowed := true, recurses := true, named := ["pairstone/curve.Far", "errors.errorType"], apart := false, laid := [("pairstone/curve.Far", laid_pairstone_curve_Far), ("errors.errorType", laid_errors_errorType)], narrowed := true }
def BookPlaysUptoSaid : Prop := bookPlaysUptoRow.holds Tryd.pinned (OpenSpec.upto bookPlaysSpec)

/-- 'stonelaw4.BookOnce', WHERE WHAT IT READS IS OF BULK AT MOST 1048576: true; the input reads as it did. -/
def bookOnceUptoRow : OpenClaim := { program := "ytfnifdmnbccblaadoor", sum := "fd67486329126f55f326b9783c260337d744f784d580ec09f7dbfed81e831058", func := "pairstone/stonelaw4.BookOnce", spec := "bookOnce", inPlace := ["internal/reflectlite.ValueOf", "(internal/reflectlite.Value).Type", "(internal/reflectlite.Value).IsNil", "internal/reflectlite.TypeOf", "(internal/reflectlite.Value).Elem", "(internal/reflectlite.Value).Set"], unfollowed := true, recurses := true, named := ["pairstone/curve.Far", "errors.errorType"], apart := false, laid := [("pairstone/curve.Far", laid_pairstone_curve_Far), ("errors.errorType", laid_errors_errorType)], narrowed := true }
def BookOnceUptoSaid : Prop := bookOnceUptoRow.holds Tryd.pinned (OpenSpec.upto bookOnceSpec)

/-- 'stonelaw2.ShortTells', WHERE WHAT IT READS IS OF BULK AT MOST 1048576: true; the input reads as it did. -/
def shortTellsUptoRow : OpenClaim := { program := "ytfnifdmnbccblaadoor", sum := "fd67486329126f55f326b9783c260337d744f784d580ec09f7dbfed81e831058", func := "pairstone/stonelaw2.ShortTells", spec := "shortTells", inPlace := ["internal/reflectlite.ValueOf", "(internal/reflectlite.Value).Type", "(internal/reflectlite.Value).IsNil", "internal/reflectlite.TypeOf", "(internal/reflectlite.Value).Elem", "(internal/reflectlite.Value).Set"], unfollowed := true, recurses := true, named := ["pairstone/curve.Far", "errors.errorType", "pairstone/pair.one"], apart := false, laid := [("pairstone/curve.Far", laid_pairstone_curve_Far), ("pairstone/pair.one", laid_pairstone_pair_one), ("errors.errorType", laid_errors_errorType)], narrowed := true }
def ShortTellsUptoSaid : Prop := shortTellsUptoRow.holds Tryd.pinned (OpenSpec.upto shortTellsSpec)

/-- 'stonelaw3.BookKeeps', WHERE WHAT IT READS IS OF BULK AT MOST 1048576: true; the input reads as it did. -/
def bookKeepsUptoRow : OpenClaim := { program := "ytfnifdmnbccblaadoor", sum := "fd67486329126f55f326b9783c260337d744f784d580ec09f7dbfed81e831058", func := "pairstone/stonelaw3.BookKeeps", spec := "bookKeeps", inPlace := ["internal/reflectlite.ValueOf", "(internal/reflectlite.Value).Type", "(internal/reflectlite.Value).IsNil", "internal/reflectlite.TypeOf", "(internal/reflectlite.Value).Elem", "(internal/reflectlite.Value).Set"], unfollowed := true, recurses := true, named := ["pairstone/curve.Far", "errors.errorType"], apart := false, laid := [("pairstone/curve.Far", laid_pairstone_curve_Far), ("errors.errorType", laid_errors_errorType)], narrowed := true }
def BookKeepsUptoSaid : Prop := bookKeepsUptoRow.holds Tryd.pinned (OpenSpec.upto bookKeepsSpec)

end Rows
end Go.Proofs.YtfnifdmnbccblaaDoor
