/-
  NARROWER THAN 'FOR EVERY INPUT', by the rows' own cells (each row's printed sentence says how): BytesLong: laid · CurveHolds: laid · BytesBack: laid · TimesLast: laid.
  DERIVED. THE GIVEN ROWS OF THIS SEAT. 4 by the template 'for every input the law returns true; each argument reads behind the call as it read before'; 0 by the template 'total and deterministic' (their statements: YtkcfblogfnpbnaaDoorTotals.lean).
  GIVEN WITH THE SEED: the statements are not yours to turn. If you find one false, say at which input.
  Laid BY PROGRAM, IN A SANDBOX (cutbox-rows.mjs): the forced cells as the released guide's own fill.sh prints them over the translation 14482db084ee5d8b… (all of the seat's roots in one cut). By AI agents, Wed Nov 11 2026. No macro, syntax, notation, axiom, sorry.
-/
import Derived.Test.YtkcfblogfnpbnaaDoorChecked
import GoSem.Claim
import GoSem.ClaimJoined
import GoSem.ClaimMapViews
import Derived.JoinedTies
import Derived.KernelRfl
namespace Go.Proofs.YtkcfblogfnpbnaaDoor
/- THE CELL 'sum', in the pinned program and in every row, IS THE sha256 OF THE DUMP (.gsa) THAT YtkcfblogfnpbnaaDoorProg.lean LOADS. Nothing in Lean hashes anything: it is a label: what it is worth is what the hold of that sum in a sandbox is worth. -/
noncomputable def Tryd.pinned : Pinned := { name := "ytkcfblogfnpbnaadoor", sum := "14482db084ee5d8ba6cd6507a45ac68435377d7e438ebd3cb1c403bc0d1c111a", checked := Tryd.checked }
namespace Rows
def none {H : Type} : Left H := { results := [], args := [] }

/- WHAT THE LISTED PACKAGE-LEVEL VARIABLES READ AS WHEN THE CALL BEGINS. Each datum BY PROGRAM (the guide's laid-datum.mjs) off the statement by which the dump's own 'gosem.cut.vars' lays the variable. In a bare row this is a premise. The card (YtkcfblogfnpbnaaDoorCards.lean) ties it to the program's text. -/
def laid_pairstone_curve_Far {H : Type} : DataW H := .agg [.lit (.int .i64 0), .lit (.int .i64 0), .lit (.bool true)]

/-- 'stonelaw4.BytesLong': WHATEVER THE INPUT: true; the input reads as it did. -/
def bytesLongSpec : ChangeSpec := { name := "bytesLong", fn := fun _ => fun
  | [d] => { results := [.lit (.bool true)], args := [d] }
  | _ => none }
def bytesLongRow : OpenClaim := { program := "ytkcfblogfnpbnaadoor", sum := "14482db084ee5d8ba6cd6507a45ac68435377d7e438ebd3cb1c403bc0d1c111a", func := "pairstone/stonelaw4.BytesLong", spec := "bytesLong", named := ["pairstone/curve.Far"], apart := false, laid := [("pairstone/curve.Far", laid_pairstone_curve_Far)] }
def BytesLongSaid : Prop := bytesLongRow.holds Tryd.pinned (OpenSpec.ofChange bytesLongSpec)

/-- ITS FALSE NEIGHBOUR: 'it returns false'. Refute it at one input. -/
def bytesLongWrong : ChangeSpec := { name := "bytesLong", fn := fun _ => fun
  | [d] => { results := [.lit (.bool false)], args := [d] }
  | _ => none }
def BytesLongWrongFalsely : Prop := bytesLongRow.holds Tryd.pinned (OpenSpec.ofChange bytesLongWrong)

/-- 'stonelaw1.CurveHolds': WHATEVER THE INPUT: true; the input reads as it did. -/
def curveHoldsSpec : ChangeSpec := { name := "curveHolds", fn := fun _ => fun
  | [d1, d2, d3] => { results := [.lit (.bool true)], args := [d1, d2, d3] }
  | _ => none }
def curveHoldsRow : OpenClaim := { program := "ytkcfblogfnpbnaadoor", sum := "14482db084ee5d8ba6cd6507a45ac68435377d7e438ebd3cb1c403bc0d1c111a", func := "pairstone/stonelaw1.CurveHolds", spec := "curveHolds", named := ["pairstone/curve.Far"], apart := false, laid := [("pairstone/curve.Far", laid_pairstone_curve_Far)] }
def CurveHoldsSaid : Prop := curveHoldsRow.holds Tryd.pinned (OpenSpec.ofChange curveHoldsSpec)

/-- ITS FALSE NEIGHBOUR: 'it returns false'. Refute it at one input. -/
def curveHoldsWrong : ChangeSpec := { name := "curveHolds", fn := fun _ => fun
  | [d1, d2, d3] => { results := [.lit (.bool false)], args := [d1, d2, d3] }
  | _ => none }
def CurveHoldsWrongFalsely : Prop := curveHoldsRow.holds Tryd.pinned (OpenSpec.ofChange curveHoldsWrong)

/-- 'stonelaw1.BytesBack': WHATEVER THE INPUT: true; the input reads as it did. -/
def bytesBackSpec : ChangeSpec := { name := "bytesBack", fn := fun _ => fun
  | [d1, d2] => { results := [.lit (.bool true)], args := [d1, d2] }
  | _ => none }
def bytesBackRow : OpenClaim := { program := "ytkcfblogfnpbnaadoor", sum := "14482db084ee5d8ba6cd6507a45ac68435377d7e438ebd3cb1c403bc0d1c111a", func := "pairstone/stonelaw1.BytesBack", spec := "bytesBack", named := ["pairstone/curve.Far"], apart := false, laid := [("pairstone/curve.Far", laid_pairstone_curve_Far)] }
def BytesBackSaid : Prop := bytesBackRow.holds Tryd.pinned (OpenSpec.ofChange bytesBackSpec)

/-- ITS FALSE NEIGHBOUR: 'it returns false'. Refute it at one input. -/
def bytesBackWrong : ChangeSpec := { name := "bytesBack", fn := fun _ => fun
  | [d1, d2] => { results := [.lit (.bool false)], args := [d1, d2] }
  | _ => none }
def BytesBackWrongFalsely : Prop := bytesBackRow.holds Tryd.pinned (OpenSpec.ofChange bytesBackWrong)

/-- 'stonelaw4.TimesLast': WHATEVER THE INPUT: true; the input reads as it did. -/
def timesLastSpec : ChangeSpec := { name := "timesLast", fn := fun _ => fun
  | [d] => { results := [.lit (.bool true)], args := [d] }
  | _ => none }
def timesLastRow : OpenClaim := { program := "ytkcfblogfnpbnaadoor", sum := "14482db084ee5d8ba6cd6507a45ac68435377d7e438ebd3cb1c403bc0d1c111a", func := "pairstone/stonelaw4.TimesLast", spec := "timesLast", named := ["pairstone/curve.Far"], apart := false, laid := [("pairstone/curve.Far", laid_pairstone_curve_Far)] }
def TimesLastSaid : Prop := timesLastRow.holds Tryd.pinned (OpenSpec.ofChange timesLastSpec)

/-- ITS FALSE NEIGHBOUR: 'it returns false'. Refute it at one input. -/
def timesLastWrong : ChangeSpec := { name := "timesLast", fn := fun _ => fun
  | [d] => { results := [.lit (.bool false)], args := [d] }
  | _ => none }
def TimesLastWrongFalsely : Prop := timesLastRow.holds Tryd.pinned (OpenSpec.ofChange timesLastWrong)

/- THE SECOND FORM. 'bulk': how many values and letters a reading holds, each counted each time it is reached (what is shared counts as often as it is met; a slice's spare places count too). A statement '..UptoSaid' is the law's where the arguments, and the package variables that the reading takes, are together of bulk at most 1048576: NARROWER than '..Said'. Prove '..Said' where nothing that the law and all that it calls make is longer than what came in: it says more and counts as full. Else prove '..UptoSaid'. A law counts once. -/
mutual
def uptoBulk {H : Type} : DataW H → Nat
  | .lit (.string bytes) => bytes.length + 1
  | .lit _ => 1
  | .nil => 1
  | .ptr d => uptoBulk d + 1
  | .slice elems spare => uptoBulkAll elems + uptoBulkAll spare + 1
  | .agg parts => uptoBulkAll parts + 1
  | .iface _ d => uptoBulk d + 1
  | .map entries => uptoBulkEntries entries + 1
  | .held _ => 1
def uptoBulkAll {H : Type} : List (DataW H) → Nat
  | [] => 0
  | d :: r => uptoBulk d + uptoBulkAll r
def uptoBulkEntries {H : Type} : List (Lit × DataW H) → Nat
  | [] => 0
  | x :: r => uptoBulkEntry x + uptoBulkEntries r
def uptoBulkEntry {H : Type} : Lit × DataW H → Nat
  | (.string bytes, d) => bytes.length + uptoBulk d + 1
  | (_, d) => uptoBulk d + 1
 end
def uptoSmall : (H : Type) → List (DataW H) → Bool := fun _ ds => decide (uptoBulkAll ds ≤ 1048576)
def OpenSpec.upto (s : _root_.Go.ChangeSpec) : _root_.Go.OpenSpec := { _root_.Go.OpenSpec.ofChange s with cond := some uptoSmall }

/-- 'stonelaw4.BytesLong', WHERE WHAT IT READS IS OF BULK AT MOST 1048576: true; the input reads as it did. -/
def bytesLongUptoRow : OpenClaim := { program := "ytkcfblogfnpbnaadoor", sum := "14482db084ee5d8ba6cd6507a45ac68435377d7e438ebd3cb1c403bc0d1c111a", func := "pairstone/stonelaw4.BytesLong", spec := "bytesLong", named := ["pairstone/curve.Far"], apart := false, laid := [("pairstone/curve.Far", laid_pairstone_curve_Far)], narrowed := true }
def BytesLongUptoSaid : Prop := bytesLongUptoRow.holds Tryd.pinned (OpenSpec.upto bytesLongSpec)

/-- 'stonelaw1.CurveHolds', WHERE WHAT IT READS IS OF BULK AT MOST 1048576: true; the input reads as it did. -/
def curveHoldsUptoRow : OpenClaim := { program := "ytkcfblogfnpbnaadoor", sum := "14482db084ee5d8ba6cd6507a45ac68435377d7e438ebd3cb1c403bc0d1c111a", func := "pairstone/stonelaw1.CurveHolds", spec := "curveHolds", named := ["pairstone/curve.Far"], apart := false, laid := [("pairstone/curve.Far", laid_pairstone_curve_Far)], narrowed := true }
def CurveHoldsUptoSaid : Prop := curveHoldsUptoRow.holds Tryd.pinned (OpenSpec.upto curveHoldsSpec)

/-- 'stonelaw1.BytesBack', WHERE WHAT IT READS IS OF BULK AT MOST 1048576: true; the input reads as it did. -/
def bytesBackUptoRow : OpenClaim := { program := "ytkcfblogfnpbnaadoor", sum := "14482db084ee5d8ba6cd6507a45ac68435377d7e438ebd3cb1c403bc0d1c111a", func := "pairstone/stonelaw1.BytesBack", spec := "bytesBack", named := ["pairstone/curve.Far"], apart := false, laid := [("pairstone/curve.Far", laid_pairstone_curve_Far)], narrowed := true }
def BytesBackUptoSaid : Prop := bytesBackUptoRow.holds Tryd.pinned (OpenSpec.upto bytesBackSpec)

/-- 'stonelaw4.TimesLast', WHERE WHAT IT READS IS OF BULK AT MOST 1048576: true; the input reads as it did. -/
def timesLastUptoRow : OpenClaim := { program := "ytkcfblogfnpbnaadoor", sum := "14482db084ee5d8ba6cd6507a45ac68435377d7e438ebd3cb1c403bc0d1c111a", func := "pairstone/stonelaw4.TimesLast", spec := "timesLast", named := ["pairstone/curve.Far"], apart := false, laid := [("pairstone/curve.Far", laid_pairstone_curve_Far)], narrowed := true }
def TimesLastUptoSaid : Prop := timesLastUptoRow.holds Tryd.pinned (OpenSpec.upto timesLastSpec)

end Rows
end Go.Proofs.YtkcfblogfnpbnaaDoor
