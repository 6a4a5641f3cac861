/-
  DERIVED. GIVEN WITH THE SEED: THE CARDS: each row of YtjjmelhhalomaaaGreatDoorRows.lean that lists a variable, with what it lists TIED to the program's text (the seventh form; the later family's looks); each row that meets fmt, with fmt's text TOLD by the authors' own Lean function (tested against real Go, not proved from fmt's source: count such statements apart). THE CARD IS WHAT COUNTS. Prove the row's statement (the work); the ties are given (YtjjmelhhalomaaaGreatDoorTie.lean); close each card by the builder's one call (the guide's Derived/Test/ToyasCard.lean, 'card_holds'). Laid BY PROGRAM, IN A SANDBOX (cutbox-door.mjs). By AI agents, Wed Nov 11 2026. No macro, syntax, notation, axiom, sorry.
-/
import Derived.Test.YtjjmelhhalomaaaGreatDoorRows
import GoSem.ClaimSeven
namespace Go.Proofs.YtjjmelhhalomaaaGreatDoor
namespace Rows

/-- THE TIED CARD OF 'stonelaw3.RunAnswers'. -/
def runAnswersCard : Claim7 := { stood := { row := runAnswersRow, standIns := [], harness := (true, "d14747ce2e7cdd5bce8c9fd338f68f0c21c66e61985c11e026f74a52be8974b7"), looks := true }, kinds := [], alts := [], laidByText := true, laidKinds := [.data, .data, .data, .data, .data, .handle, .sentinel, .sentinel, .wider], laidTests := true, laidLooks := .later }
def RunAnswersCardSaid : Prop := Claim7.holds Tryz.pinned (.plain (OpenSpec.ofChange runAnswersSpec)) runAnswersCard

/-- THE TIED CARD OF 'stonelaw3.RunBegins'. -/
def runBeginsCard : Claim7 := { stood := { row := runBeginsRow, standIns := [], harness := (true, "d14747ce2e7cdd5bce8c9fd338f68f0c21c66e61985c11e026f74a52be8974b7"), looks := true }, kinds := [], alts := [], laidByText := true, laidKinds := [.data, .data, .data, .data, .data, .handle, .sentinel, .sentinel, .wider], laidTests := true, laidLooks := .later }
def RunBeginsCardSaid : Prop := Claim7.holds Tryz.pinned (.plain (OpenSpec.ofChange runBeginsSpec)) runBeginsCard

/-- THE TIED CARD OF 'stonelaw3.RunPairs'. -/
def runPairsCard : Claim7 := { stood := { row := runPairsRow, standIns := [], harness := (true, "d14747ce2e7cdd5bce8c9fd338f68f0c21c66e61985c11e026f74a52be8974b7"), looks := true }, kinds := [], alts := [], laidByText := true, laidKinds := [.data, .data, .data, .data, .data, .handle, .sentinel, .sentinel, .wider], laidTests := true, laidLooks := .later }
def RunPairsCardSaid : Prop := Claim7.holds Tryz.pinned (.plain (OpenSpec.ofChange runPairsSpec)) runPairsCard

/-- THE TIED CARD OF 'stonetop.TopBooked'. -/
def topBookedCard : Claim7 := { stood := { row := topBookedRow, standIns := [], harness := (true, "d14747ce2e7cdd5bce8c9fd338f68f0c21c66e61985c11e026f74a52be8974b7"), looks := true }, kinds := [], alts := [], laidByText := true, laidKinds := [.data, .data, .data, .data, .sentinel, .sentinel, .listed, .data], laidTests := true, laidLooks := .later }
def TopBookedCardSaid : Prop := Claim7.holds Tryz.pinned (.plain (OpenSpec.ofChange topBookedSpec)) topBookedCard

/-- THE SECOND FORM's CARD OF 'stonelaw3.RunAnswers'. -/
def runAnswersUptoCard : Claim7 := { stood := { row := runAnswersUptoRow, standIns := [], harness := (true, "d14747ce2e7cdd5bce8c9fd338f68f0c21c66e61985c11e026f74a52be8974b7"), looks := true }, kinds := [], alts := [], laidByText := true, laidKinds := [.data, .data, .data, .data, .data, .handle, .sentinel, .sentinel, .wider], laidTests := true, laidLooks := .later }
def RunAnswersUptoCardSaid : Prop := Claim7.holds Tryz.pinned (.plain (OpenSpec.upto runAnswersSpec)) runAnswersUptoCard

/-- THE SECOND FORM's CARD OF 'stonelaw3.RunBegins'. -/
def runBeginsUptoCard : Claim7 := { stood := { row := runBeginsUptoRow, standIns := [], harness := (true, "d14747ce2e7cdd5bce8c9fd338f68f0c21c66e61985c11e026f74a52be8974b7"), looks := true }, kinds := [], alts := [], laidByText := true, laidKinds := [.data, .data, .data, .data, .data, .handle, .sentinel, .sentinel, .wider], laidTests := true, laidLooks := .later }
def RunBeginsUptoCardSaid : Prop := Claim7.holds Tryz.pinned (.plain (OpenSpec.upto runBeginsSpec)) runBeginsUptoCard

/-- THE SECOND FORM's CARD OF 'stonelaw3.RunPairs'. -/
def runPairsUptoCard : Claim7 := { stood := { row := runPairsUptoRow, standIns := [], harness := (true, "d14747ce2e7cdd5bce8c9fd338f68f0c21c66e61985c11e026f74a52be8974b7"), looks := true }, kinds := [], alts := [], laidByText := true, laidKinds := [.data, .data, .data, .data, .data, .handle, .sentinel, .sentinel, .wider], laidTests := true, laidLooks := .later }
def RunPairsUptoCardSaid : Prop := Claim7.holds Tryz.pinned (.plain (OpenSpec.upto runPairsSpec)) runPairsUptoCard

/-- THE SECOND FORM's CARD OF 'stonetop.TopBooked'. -/
def topBookedUptoCard : Claim7 := { stood := { row := topBookedUptoRow, standIns := [], harness := (true, "d14747ce2e7cdd5bce8c9fd338f68f0c21c66e61985c11e026f74a52be8974b7"), looks := true }, kinds := [], alts := [], laidByText := true, laidKinds := [.data, .data, .data, .data, .sentinel, .sentinel, .listed, .data], laidTests := true, laidLooks := .later }
def TopBookedUptoCardSaid : Prop := Claim7.holds Tryz.pinned (.plain (OpenSpec.upto topBookedSpec)) topBookedUptoCard
end Rows
end Go.Proofs.YtjjmelhhalomaaaGreatDoor
