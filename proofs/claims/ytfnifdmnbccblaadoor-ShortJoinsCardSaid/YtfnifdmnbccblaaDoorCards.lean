/-
  DERIVED. GIVEN WITH THE SEED: THE CARDS: each row of YtfnifdmnbccblaaDoorRows.lean that lists a variable, with what it lists TIED to the program's text (the seventh form; the later family's looks); each row that meets fmt, with fmt's text TOLD by the authors' own Lean function (tested against real Go, not proved from fmt's source: count such statements apart). THE CARD IS WHAT COUNTS. Prove the row's statement (the work); the ties are given (YtfnifdmnbccblaaDoorTie.lean); close each card by the builder's one call (the guide's Derived/Test/ToyasCard.lean, 'card_holds'). Laid BY PROGRAM, IN A SANDBOX (cutbox-door.mjs). By AI agents, Wed Nov 11 2026. No macro, syntax, notation, axiom, sorry.
-/
import Derived.Test.YtfnifdmnbccblaaDoorRows
import GoSem.ClaimSeven
namespace Go.Proofs.YtfnifdmnbccblaaDoor
namespace Rows

/-- THE TIED CARD OF 'stonelaw2.ShortJoins'. -/
def shortJoinsCard : Claim7 := { stood := { row := shortJoinsRow, standIns := [], harness := (true, "8bff7fe31cad154e1d9054f52751277758ee41cf373a73bb2e4a30f27c527906"), looks := true }, kinds := [], alts := [], laidByText := true, laidKinds := [.data, .data], laidTests := true, laidLooks := .later }
def ShortJoinsCardSaid : Prop := Claim7.holds Tryd.pinned (.plain (OpenSpec.ofChange shortJoinsSpec)) shortJoinsCard

/-- THE TIED CARD OF 'stonelaw1.PairTells'. -/
def pairTellsCard : Claim7 := { stood := { row := pairTellsRow, standIns := [], harness := (true, "8bff7fe31cad154e1d9054f52751277758ee41cf373a73bb2e4a30f27c527906"), looks := true }, kinds := [], alts := [], laidByText := true, laidKinds := [.data, .data, .handle], laidTests := true, laidLooks := .later }
def PairTellsCardSaid : Prop := Claim7.holds Tryd.pinned (.plain (OpenSpec.ofChange pairTellsSpec)) pairTellsCard

/-- THE TIED CARD OF 'stonelaw3.BatchTells'. -/
def batchTellsCard : Claim7 := { stood := { row := batchTellsRow, standIns := [], harness := (true, "8bff7fe31cad154e1d9054f52751277758ee41cf373a73bb2e4a30f27c527906"), looks := true }, kinds := [], alts := [], laidByText := true, laidKinds := [.data, .handle], laidTests := true, laidLooks := .later }
def BatchTellsCardSaid : Prop := Claim7.holds Tryd.pinned (.plain (OpenSpec.ofChange batchTellsSpec)) batchTellsCard

/-- THE TIED CARD OF 'stonelaw3.AdaptTells'. -/
def adaptTellsCard : Claim7 := { stood := { row := adaptTellsRow, standIns := [], harness := (true, "8bff7fe31cad154e1d9054f52751277758ee41cf373a73bb2e4a30f27c527906"), looks := true }, kinds := [], alts := [], laidByText := true, laidKinds := [.data, .handle], laidTests := true, laidLooks := .later }
def AdaptTellsCardSaid : Prop := Claim7.holds Tryd.pinned (.plain (OpenSpec.ofChange adaptTellsSpec)) adaptTellsCard

/-- THE TIED CARD OF 'stonelaw3.RingTells'. -/
def ringTellsCard : Claim7 := { stood := { row := ringTellsRow, standIns := [], harness := (true, "8bff7fe31cad154e1d9054f52751277758ee41cf373a73bb2e4a30f27c527906"), looks := true }, kinds := [], alts := [], laidByText := true, laidKinds := [.data, .handle], laidTests := true, laidLooks := .later }
def RingTellsCardSaid : Prop := Claim7.holds Tryd.pinned (.plain (OpenSpec.ofChange ringTellsSpec)) ringTellsCard

/-- THE TIED CARD OF 'stonelaw3.BookPlays'. -/
def bookPlaysCard : Claim7 := { stood := { row := bookPlaysRow, standIns := [], harness := (true, "8bff7fe31cad154e1d9054f52751277758ee41cf373a73bb2e4a30f27c527906"), looks := true }, kinds := [], alts := [], laidByText := true, laidKinds := [.data, .handle], laidTests := true, laidLooks := .later }
def BookPlaysCardSaid : Prop := Claim7.holds Tryd.pinned (.plain (OpenSpec.ofChange bookPlaysSpec)) bookPlaysCard

/-- THE TIED CARD OF 'stonelaw4.BookOnce'. -/
def bookOnceCard : Claim7 := { stood := { row := bookOnceRow, standIns := [], harness := (true, "8bff7fe31cad154e1d9054f52751277758ee41cf373a73bb2e4a30f27c527906"), looks := true }, kinds := [], alts := [], laidByText := true, laidKinds := [.data, .handle], laidTests := true, laidLooks := .later }
def BookOnceCardSaid : Prop := Claim7.holds Tryd.pinned (.plain (OpenSpec.ofChange bookOnceSpec)) bookOnceCard

/-- THE TIED CARD OF 'stonelaw2.ShortTells'. -/
def shortTellsCard : Claim7 := { stood := { row := shortTellsRow, standIns := [], harness := (true, "8bff7fe31cad154e1d9054f52751277758ee41cf373a73bb2e4a30f27c527906"), looks := true }, kinds := [], alts := [], laidByText := true, laidKinds := [.data, .data, .handle], laidTests := true, laidLooks := .later }
def ShortTellsCardSaid : Prop := Claim7.holds Tryd.pinned (.plain (OpenSpec.ofChange shortTellsSpec)) shortTellsCard

/-- THE TIED CARD OF 'stonelaw3.BookKeeps'. -/
def bookKeepsCard : Claim7 := { stood := { row := bookKeepsRow, standIns := [], harness := (true, "8bff7fe31cad154e1d9054f52751277758ee41cf373a73bb2e4a30f27c527906"), looks := true }, kinds := [], alts := [], laidByText := true, laidKinds := [.data, .handle], laidTests := true, laidLooks := .later }
def BookKeepsCardSaid : Prop := Claim7.holds Tryd.pinned (.plain (OpenSpec.ofChange bookKeepsSpec)) bookKeepsCard

/-- THE SECOND FORM's CARD OF 'stonelaw2.ShortJoins'. -/
def shortJoinsUptoCard : Claim7 := { stood := { row := shortJoinsUptoRow, standIns := [], harness := (true, "8bff7fe31cad154e1d9054f52751277758ee41cf373a73bb2e4a30f27c527906"), looks := true }, kinds := [], alts := [], laidByText := true, laidKinds := [.data, .data], laidTests := true, laidLooks := .later }
def ShortJoinsUptoCardSaid : Prop := Claim7.holds Tryd.pinned (.plain (OpenSpec.upto shortJoinsSpec)) shortJoinsUptoCard

/-- THE SECOND FORM's CARD OF 'stonelaw1.PairTells'. -/
def pairTellsUptoCard : Claim7 := { stood := { row := pairTellsUptoRow, standIns := [], harness := (true, "8bff7fe31cad154e1d9054f52751277758ee41cf373a73bb2e4a30f27c527906"), looks := true }, kinds := [], alts := [], laidByText := true, laidKinds := [.data, .data, .handle], laidTests := true, laidLooks := .later }
def PairTellsUptoCardSaid : Prop := Claim7.holds Tryd.pinned (.plain (OpenSpec.upto pairTellsSpec)) pairTellsUptoCard

/-- THE SECOND FORM's CARD OF 'stonelaw3.BatchTells'. -/
def batchTellsUptoCard : Claim7 := { stood := { row := batchTellsUptoRow, standIns := [], harness := (true, "8bff7fe31cad154e1d9054f52751277758ee41cf373a73bb2e4a30f27c527906"), looks := true }, kinds := [], alts := [], laidByText := true, laidKinds := [.data, .handle], laidTests := true, laidLooks := .later }
def BatchTellsUptoCardSaid : Prop := Claim7.holds Tryd.pinned (.plain (OpenSpec.upto batchTellsSpec)) batchTellsUptoCard

/-- THE SECOND FORM's CARD OF 'stonelaw3.AdaptTells'. -/
def adaptTellsUptoCard : Claim7 := { stood := { row := adaptTellsUptoRow, standIns := [], harness := (true, "8bff7fe31cad154e1d9054f52751277758ee41cf373a73bb2e4a30f27c527906"), looks := true }, kinds := [], alts := [], laidByText := true, laidKinds := [.data, .handle], laidTests := true, laidLooks := .later }
def AdaptTellsUptoCardSaid : Prop := Claim7.holds Tryd.pinned (.plain (OpenSpec.upto adaptTellsSpec)) adaptTellsUptoCard

/-- THE SECOND FORM's CARD OF 'stonelaw3.RingTells'. -/
def ringTellsUptoCard : Claim7 := { stood := { row := ringTellsUptoRow, standIns := [], harness := (true, "8bff7fe31cad154e1d9054f52751277758ee41cf373a73bb2e4a30f27c527906"), looks := true }, kinds := [], alts := [], laidByText := true, laidKinds := [.data, .handle], laidTests := true, laidLooks := .later }
def RingTellsUptoCardSaid : Prop := Claim7.holds Tryd.pinned (.plain (OpenSpec.upto ringTellsSpec)) ringTellsUptoCard

/-- THE SECOND FORM's CARD OF 'stonelaw3.BookPlays'. -/
def bookPlaysUptoCard : Claim7 := { stood := { row := bookPlaysUptoRow, standIns := [], harness := (true, "8bff7fe31cad154e1d9054f52751277758ee41cf373a73bb2e4a30f27c527906"), looks := true }, kinds := [], alts := [], laidByText := true, laidKinds := [.data, .handle], laidTests := true, laidLooks := .later }
def BookPlaysUptoCardSaid : Prop := Claim7.holds Tryd.pinned (.plain (OpenSpec.upto bookPlaysSpec)) bookPlaysUptoCard

/-- THE SECOND FORM's CARD OF 'stonelaw4.BookOnce'. -/
def bookOnceUptoCard : Claim7 := { stood := { row := bookOnceUptoRow, standIns := [], harness := (true, "8bff7fe31cad154e1d9054f52751277758ee41cf373a73bb2e4a30f27c527906"), looks := true }, kinds := [], alts := [], laidByText := true, laidKinds := [.data, .handle], laidTests := true, laidLooks := .later }
def BookOnceUptoCardSaid : Prop := Claim7.holds Tryd.pinned (.plain (OpenSpec.upto bookOnceSpec)) bookOnceUptoCard

/-- THE SECOND FORM's CARD OF 'stonelaw2.ShortTells'. -/
def shortTellsUptoCard : Claim7 := { stood := { row := shortTellsUptoRow, standIns := [], harness := (true, "8bff7fe31cad154e1d9054f52751277758ee41cf373a73bb2e4a30f27c527906"), looks := true }, kinds := [], alts := [], laidByText := true, laidKinds := [.data, .data, .handle], laidTests := true, laidLooks := .later }
def ShortTellsUptoCardSaid : Prop := Claim7.holds Tryd.pinned (.plain (OpenSpec.upto shortTellsSpec)) shortTellsUptoCard

/-- THE SECOND FORM's CARD OF 'stonelaw3.BookKeeps'. -/
def bookKeepsUptoCard : Claim7 := { stood := { row := bookKeepsUptoRow, standIns := [], harness := (true, "8bff7fe31cad154e1d9054f52751277758ee41cf373a73bb2e4a30f27c527906"), looks := true }, kinds := [], alts := [], laidByText := true, laidKinds := [.data, .handle], laidTests := true, laidLooks := .later }
def BookKeepsUptoCardSaid : Prop := Claim7.holds Tryd.pinned (.plain (OpenSpec.upto bookKeepsSpec)) bookKeepsUptoCard
end Rows
end Go.Proofs.YtfnifdmnbccblaaDoor
