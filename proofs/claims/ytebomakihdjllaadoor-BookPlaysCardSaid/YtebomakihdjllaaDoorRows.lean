/-
  NARROWER THAN 'FOR EVERY INPUT', by the rows' own cells (each row's printed sentence says how): BookOnce: laid · BookPlays: laid · BookKeeps: laid.
  DERIVED. THE GIVEN ROWS OF THIS SEAT. 3 by the template 'for every input the law returns true; each argument reads behind the call as it read before'; 0 by the template 'total and deterministic' (their statements: YtebomakihdjllaaDoorTotals.lean).
  GIVEN WITH THE SEED: the statements are not yours to turn. If you find one false, say at which input.
  Laid BY PROGRAM, IN A SANDBOX (cutbox-rows.mjs): the forced cells as the released guide's own fill.sh prints them over the translation cb9a24745c863d76… (all of the seat's roots in one cut). By AI agents, Wed Nov 11 2026. No macro, syntax, notation, axiom, sorry.
-/
import Derived.Test.YtebomakihdjllaaDoorChecked
import GoSem.Claim
import GoSem.ClaimJoined
import GoSem.ClaimMapViews
import Derived.JoinedTies
import Derived.KernelRfl
namespace Go.Proofs.YtebomakihdjllaaDoor
/- THE CELL 'sum', in the pinned program and in every row, IS THE sha256 OF THE DUMP (.gsa) THAT YtebomakihdjllaaDoorProg.lean LOADS. Nothing in Lean hashes anything: it is a label: what it is worth is what the hold of that sum in a sandbox is worth. -/
noncomputable def Tryd.pinned : Pinned := { name := "ytebomakihdjllaadoor", sum := "cb9a24745c863d76ea6b5d57448f5c45cdb5a8785fc9d33595e758ebbef3e859", checked := Tryd.checked }
namespace Rows
def none {H : Type} : Left H := { results := [], args := [] }

/- WHAT THE LISTED PACKAGE-LEVEL VARIABLES READ AS WHEN THE CALL BEGINS. Each datum BY PROGRAM (the guide's laid-datum.mjs) off the statement by which the dump's own 'gosem.cut.vars' lays the variable. In a bare row this is a premise. The card (YtebomakihdjllaaDoorCards.lean) ties it to the program's text. -/
def laid_pairstone_curve_Far {H : Type} : DataW H := .agg [.lit (.int .i64 0), .lit (.int .i64 0), .lit (.bool true)]
def laid_errors_errorType {H : Type} : DataW H := .iface "internal/reflectlite.rtype" (.agg [.ptr (.lit (.string [101, 114, 114, 111, 114]))])

/-- 'stonelaw4.BookOnce': WHATEVER THE INPUT: true; the input reads as it did. -/
def bookOnceSpec : ChangeSpec := { name := "bookOnce", fn := fun _ => fun
  | [d1, d2, d3, d4] => { results := [.lit (.bool true)], args := [d1, d2, d3, d4] }
  | _ => none }
def bookOnceRow : OpenClaim := { program := "ytebomakihdjllaadoor", sum := "cb9a24745c863d76ea6b5d57448f5c45cdb5a8785fc9d33595e758ebbef3e859", func := "pairstone/stonelaw4.BookOnce", spec := "bookOnce", inPlace := ["internal/reflectlite.ValueOf", "(internal/reflectlite.Value).Type", "(internal/reflectlite.Value).IsNil", "internal/reflectlite.TypeOf", "(internal/reflectlite.Value).Elem", "(internal/reflectlite.Value).Set"], unfollowed := true, recurses := true, named := ["pairstone/curve.Far", "errors.errorType"], apart := false, laid := [("pairstone/curve.Far", laid_pairstone_curve_Far), ("errors.errorType", laid_errors_errorType)] }
def BookOnceSaid : Prop := bookOnceRow.holds Tryd.pinned (OpenSpec.ofChange bookOnceSpec)

/-- ITS FALSE NEIGHBOUR: 'it returns false'. Refute it at one input. -/
def bookOnceWrong : ChangeSpec := { name := "bookOnce", fn := fun _ => fun
  | [d1, d2, d3, d4] => { results := [.lit (.bool false)], args := [d1, d2, d3, d4] }
  | _ => none }
def BookOnceWrongFalsely : Prop := bookOnceRow.holds Tryd.pinned (OpenSpec.ofChange bookOnceWrong)

/-- 'stonelaw3.BookPlays': WHATEVER THE INPUT: true; the input reads as it did. -/
def bookPlaysSpec : ChangeSpec := { name := "bookPlays", fn := fun _ => fun
  | [d1, d2, d3, d4, d5] => { results := [.lit (.bool true)], args := [d1, d2, d3, d4, d5] }
  | _ => none }
def bookPlaysRow : OpenClaim := { program := "ytebomakihdjllaadoor", sum := "cb9a24745c863d76ea6b5d57448f5c45cdb5a8785fc9d33595e758ebbef3e859", func := "pairstone/stonelaw3.BookPlays", spec := "bookPlays", inPlace := ["internal/reflectlite.ValueOf", "(internal/reflectlite.Value).Type", "(internal/reflectlite.Value).IsNil", "internal/reflectlite.TypeOf", "(internal/reflectlite.Value).Elem", "(internal/reflectlite.Value).Set"], unfollowed := true, recurses := true, named := ["pairstone/curve.Far", "errors.errorType"], apart := false, laid := [("pairstone/curve.Far", laid_pairstone_curve_Far), ("errors.errorType", laid_errors_errorType)] }
def BookPlaysSaid : Prop := bookPlaysRow.holds Tryd.pinned (OpenSpec.ofChange bookPlaysSpec)

/-- ITS FALSE NEIGHBOUR: 'it returns false'. Refute it at one input. -/
def bookPlaysWrong : ChangeSpec := { name := "bookPlays", fn := fun _ => fun
  | [d1, d2, d3, d4, d5] => { results := [.lit (.bool false)], args := [d1, d2, d3, d4, d5] }
  | _ => none }
def BookPlaysWrongFalsely : Prop := bookPlaysRow.holds Tryd.pinned (OpenSpec.ofChange bookPlaysWrong)

/-- 'stonelaw3.BookKeeps': WHATEVER THE INPUT: true; the input reads as it did. -/
def bookKeepsSpec : ChangeSpec := { name := "bookKeeps", fn := fun _ => fun
  | [d1, d2, d3, d4, d5, d6] => { results := [.lit (.bool true)], args := [d1, d2, d3, d4, d5, d6] }
  | _ => none }
def bookKeepsRow : OpenClaim := { program := "ytebomakihdjllaadoor", sum := "cb9a24745c863d76ea6b5d57448f5c45cdb5a8785fc9d33595e758ebbef3e859", func := "pairstone/stonelaw3.BookKeeps", spec := "bookKeeps", inPlace := ["internal/reflectlite.ValueOf", "(internal/reflectlite.Value).Type", "(internal/reflectlite.Value).IsNil", "internal/reflectlite.TypeOf", "(internal/reflectlite.Value).Elem", "(internal/reflectlite.Value).Set"], unfollowed := true, recurses := true, named := ["pairstone/curve.Far", "errors.errorType"], apart := false, laid := [("pairstone/curve.Far", laid_pairstone_curve_Far), ("errors.errorType", laid_errors_errorType)] }
def BookKeepsSaid : Prop := bookKeepsRow.holds Tryd.pinned (OpenSpec.ofChange bookKeepsSpec)

/-- ITS FALSE NEIGHBOUR: 'it returns false'. Refute it at one input. -/
def bookKeepsWrong : ChangeSpec := { name := "bookKeeps", fn := fun _ => fun
  | [d1, d2, d3, d4, d5, d6] => { results := [.lit (.bool false)], args := [d1, d2, d3, d4, d5, d6] }
  | _ => none }
def BookKeepsWrongFalsely : Prop := bookKeepsRow.holds Tryd.pinned (OpenSpec.ofChange bookKeepsWrong)

/- THE SECOND FORM. 'bulk': how many values and letters a reading holds, each counted each time it is reached (what is shared counts as often as it is met; a slice's spare places count too). A statement '..UptoSaid' is the law's where the arguments, and the package variables that the reading takes, are together of bulk at most 1048576: NARROWER than '..Said'. Prove '..Said' where nothing that the law and all that it calls make is longer than what came in: it says more and counts as full. Else prove '..UptoSaid'. A law counts once. -/
mutual
def uptoBulk {H : Type} : DataW H → Nat
  | .lit (.string bytes) => bytes.length + 1
  | .lit _ => 1
  | .nil => 1
  | .ptr d => uptoBulk d + 1
  | .slice elems spare => uptoBulkAll elems + uptoBulkAll spare + 1
  | .agg parts => uptoBulkAll parts + 1
  | .iface _ d => uptoBulk d + 1
  | .map entries => uptoBulkEntries entries + 1
  | .held _ => 1
def uptoBulkAll {H : Type} : List (DataW H) → Nat
  | [] => 0
  | d :: r => uptoBulk d + uptoBulkAll r
def uptoBulkEntries {H : Type} : List (Lit × DataW H) → Nat
  | [] => 0
  | x :: r => uptoBulkEntry x + uptoBulkEntries r
def uptoBulkEntry {H : Type} : Lit × DataW H → Nat
  | (.string bytes, d) => bytes.length + uptoBulk d + 1
  | (_, d) => uptoBulk d + 1
 end
def uptoSmall : (H : Type) → List (DataW H) → Bool := fun _ ds => decide (uptoBulkAll ds ≤ 1048576)
def OpenSpec.upto (s : _root_.Go.ChangeSpec) : _root_.Go.OpenSpec := { _root_.Go.OpenSpec.ofChange s with cond := some uptoSmall }

/-- 'stonelaw4.BookOnce', WHERE WHAT IT READS IS OF BULK AT MOST 1048576: true; the input reads as it did. -/
def bookOnceUptoRow : OpenClaim := { program := "ytebomakihdjllaadoor", sum := "cb9a24745c863d76ea6b5d57448f5c45cdb5a8785fc9d33595e758ebbef3e859", func := "pairstone/stonelaw4.BookOnce", spec := "bookOnce", inPlace := ["internal/reflectlite.ValueOf", "(internal/reflectlite.Value).Type", "(internal/reflectlite.Value).IsNil", "internal/reflectlite.TypeOf", "(internal/reflectlite.Value).Elem", "(internal/reflectlite.Value).Set"], unfollowed := true, recurses := true, named := ["pairstone/curve.Far", "errors.errorType"], apart := false, laid := [("pairstone/curve.Far", laid_pairstone_curve_Far), ("errors.errorType", laid_errors_errorType)], narrowed := true }
def BookOnceUptoSaid : Prop := bookOnceUptoRow.holds Tryd.pinned (OpenSpec.upto bookOnceSpec)

/-- 'stonelaw3.BookPlays', WHERE WHAT IT READS IS OF BULK AT MOST 1048576: true; the input reads as it did. -/
def bookPlaysUptoRow : OpenClaim := { program := "ytebomakihdjllaadoor", sum := "cb9a24745c863d76ea6b5d57448f5c45cdb5a8785fc9d33595e758ebbef3e859", func := "pairstone/stonelaw3.BookPlays", spec := "bookPlays", inPlace := ["internal/reflectlite.ValueOf", "(internal/reflectlite.Value).Type", "(internal/reflectlite.Value).IsNil", "internal/reflectlite.TypeOf", "(internal/reflectlite.Value).Elem", "(internal/reflectlite.Value).Set"], unfollowed := true, recurses := true, named := ["pairstone/curve.Far", "errors.errorType"], apart := false, laid := [("pairstone/curve.Far", laid_pairstone_curve_Far), ("errors.errorType", laid_errors_errorType)], narrowed := true }
def BookPlaysUptoSaid : Prop := bookPlaysUptoRow.holds Tryd.pinned (OpenSpec.upto bookPlaysSpec)

/-- 'stonelaw3.BookKeeps', WHERE WHAT IT READS IS OF BULK AT MOST 1048576: true; the input reads as it did. -/
def bookKeepsUptoRow : OpenClaim := { program := "ytebomakihdjllaadoor", sum := "cb9a24745c863d76ea6b5d57448f5c45cdb5a8785fc9d33595e758ebbef3e859", func := "pairstone/stonelaw3.BookKeeps", spec := "bookKeeps", inPlace := ["internal/reflectlite.ValueOf", "(internal/reflectlite.Value).Type", "(internal/reflectlite.Value).IsNil", "internal/reflectlite.TypeOf", "(internal/reflectlite.Value).Elem", "(internal/reflectlite.Value).Set"], unfollowed := true, recurses := true, named := ["pairstone/curve.Far", "errors.errorType"], apart := false, laid := [("pairstone/curve.Far", laid_pairstone_curve_Far), ("errors.errorType", laid_errors_errorType)], narrowed := true }
def BookKeepsUptoSaid : Prop := bookKeepsUptoRow.holds Tryd.pinned (OpenSpec.upto bookKeepsSpec)

end Rows
end Go.Proofs.YtebomakihdjllaaDoor
