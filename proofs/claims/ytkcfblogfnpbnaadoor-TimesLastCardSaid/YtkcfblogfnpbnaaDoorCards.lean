/-
  DERIVED. GIVEN WITH THE SEED: THE CARDS: each row of YtkcfblogfnpbnaaDoorRows.lean that lists a variable, with what it lists TIED to the program's text (the seventh form; the later family's looks); each row that meets fmt, with fmt's text TOLD by the authors' own Lean function (tested against real Go, not proved from fmt's source: count such statements apart). THE CARD IS WHAT COUNTS. Prove the row's statement (the work); the ties are given (YtkcfblogfnpbnaaDoorTie.lean); close each card by the builder's one call (the guide's Derived/Test/ToyasCard.lean, 'card_holds'). Laid BY PROGRAM, IN A SANDBOX (cutbox-door.mjs). By AI agents, Wed Nov 11 2026. No macro, syntax, notation, axiom, sorry.
-/
import Derived.Test.YtkcfblogfnpbnaaDoorRows
import GoSem.ClaimSeven
namespace Go.Proofs.YtkcfblogfnpbnaaDoor
namespace Rows

/-- THE TIED CARD OF 'stonelaw4.BytesLong'. -/
def bytesLongCard : Claim7 := { stood := { row := bytesLongRow, standIns := [], harness := (true, "f15bbe13f12c3b7fd3d5e25015cb7de3e3a638aeffe34a30aef914a8b65e5081"), looks := false }, kinds := [], alts := [], laidByText := true, laidKinds := [.data], laidTests := true, laidLooks := .later }
def BytesLongCardSaid : Prop := Claim7.holds Tryd.pinned (.plain (OpenSpec.ofChange bytesLongSpec)) bytesLongCard

/-- THE TIED CARD OF 'stonelaw1.CurveHolds'. -/
def curveHoldsCard : Claim7 := { stood := { row := curveHoldsRow, standIns := [], harness := (true, "f15bbe13f12c3b7fd3d5e25015cb7de3e3a638aeffe34a30aef914a8b65e5081"), looks := false }, kinds := [], alts := [], laidByText := true, laidKinds := [.data], laidTests := true, laidLooks := .later }
def CurveHoldsCardSaid : Prop := Claim7.holds Tryd.pinned (.plain (OpenSpec.ofChange curveHoldsSpec)) curveHoldsCard

/-- THE TIED CARD OF 'stonelaw1.BytesBack'. -/
def bytesBackCard : Claim7 := { stood := { row := bytesBackRow, standIns := [], harness := (true, "f15bbe13f12c3b7fd3d5e25015cb7de3e3a638aeffe34a30aef914a8b65e5081"), looks := false }, kinds := [], alts := [], laidByText := true, laidKinds := [.data], laidTests := true, laidLooks := .later }
def BytesBackCardSaid : Prop := Claim7.holds Tryd.pinned (.plain (OpenSpec.ofChange bytesBackSpec)) bytesBackCard

/-- THE TIED CARD OF 'stonelaw4.TimesLast'. -/
def timesLastCard : Claim7 := { stood := { row := timesLastRow, standIns := [], harness := (true, "f15bbe13f12c3b7fd3d5e25015cb7de3e3a638aeffe34a30aef914a8b65e5081"), looks := false }, kinds := [], alts := [], laidByText := true, laidKinds := [.data], laidTests := true, laidLooks := .later }
def TimesLastCardSaid : Prop := Claim7.holds Tryd.pinned (.plain (OpenSpec.ofChange timesLastSpec)) timesLastCard

/-- THE SECOND FORM's CARD OF 'stonelaw4.BytesLong'. -/
def bytesLongUptoCard : Claim7 := { stood := { row := bytesLongUptoRow, standIns := [], harness := (true, "f15bbe13f12c3b7fd3d5e25015cb7de3e3a638aeffe34a30aef914a8b65e5081"), looks := false }, kinds := [], alts := [], laidByText := true, laidKinds := [.data], laidTests := true, laidLooks := .later }
def BytesLongUptoCardSaid : Prop := Claim7.holds Tryd.pinned (.plain (OpenSpec.upto bytesLongSpec)) bytesLongUptoCard

/-- THE SECOND FORM's CARD OF 'stonelaw1.CurveHolds'. -/
def curveHoldsUptoCard : Claim7 := { stood := { row := curveHoldsUptoRow, standIns := [], harness := (true, "f15bbe13f12c3b7fd3d5e25015cb7de3e3a638aeffe34a30aef914a8b65e5081"), looks := false }, kinds := [], alts := [], laidByText := true, laidKinds := [.data], laidTests := true, laidLooks := .later }
def CurveHoldsUptoCardSaid : Prop := Claim7.holds Tryd.pinned (.plain (OpenSpec.upto curveHoldsSpec)) curveHoldsUptoCard

/-- THE SECOND FORM's CARD OF 'stonelaw1.BytesBack'. -/
def bytesBackUptoCard : Claim7 := { stood := { row := bytesBackUptoRow, standIns := [], harness := (true, "f15bbe13f12c3b7fd3d5e25015cb7de3e3a638aeffe34a30aef914a8b65e5081"), looks := false }, kinds := [], alts := [], laidByText := true, laidKinds := [.data], laidTests := true, laidLooks := .later }
def BytesBackUptoCardSaid : Prop := Claim7.holds Tryd.pinned (.plain (OpenSpec.upto bytesBackSpec)) bytesBackUptoCard

/-- THE SECOND FORM's CARD OF 'stonelaw4.TimesLast'. -/
def timesLastUptoCard : Claim7 := { stood := { row := timesLastUptoRow, standIns := [], harness := (true, "f15bbe13f12c3b7fd3d5e25015cb7de3e3a638aeffe34a30aef914a8b65e5081"), looks := false }, kinds := [], alts := [], laidByText := true, laidKinds := [.data], laidTests := true, laidLooks := .later }
def TimesLastUptoCardSaid : Prop := Claim7.holds Tryd.pinned (.plain (OpenSpec.upto timesLastSpec)) timesLastUptoCard
end Rows
end Go.Proofs.YtkcfblogfnpbnaaDoor
