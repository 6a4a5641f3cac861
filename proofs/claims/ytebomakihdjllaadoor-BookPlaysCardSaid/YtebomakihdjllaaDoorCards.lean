/-
  DERIVED. GIVEN WITH THE SEED: THE CARDS: each row of YtebomakihdjllaaDoorRows.lean that lists a variable, with what it lists TIED to the program's text (the seventh form; the later family's looks); each row that meets fmt, with fmt's text TOLD by the authors' own Lean function (tested against real Go, not proved from fmt's source: count such statements apart). THE CARD IS WHAT COUNTS. Prove the row's statement (the work); the ties are given (YtebomakihdjllaaDoorTie.lean); close each card by the builder's one call (the guide's Derived/Test/ToyasCard.lean, 'card_holds'). Laid BY PROGRAM, IN A SANDBOX (cutbox-door.mjs). By AI agents, Wed Nov 11 2026. No macro, syntax, notation, axiom, sorry.
-/
import Derived.Test.YtebomakihdjllaaDoorRows
import GoSem.ClaimSeven
namespace Go.Proofs.YtebomakihdjllaaDoor
namespace Rows

/-- THE TIED CARD OF 'stonelaw4.BookOnce'. -/
def bookOnceCard : Claim7 := { stood := { row := bookOnceRow, standIns := [], harness := (true, "3a966905491734d8cd3a199d93d79b235007406c9601357167a4fc8b9c882912"), looks := true }, kinds := [], alts := [], laidByText := true, laidKinds := [.data, .handle], laidTests := true, laidLooks := .later }
def BookOnceCardSaid : Prop := Claim7.holds Tryd.pinned (.plain (OpenSpec.ofChange bookOnceSpec)) bookOnceCard

/-- THE TIED CARD OF 'stonelaw3.BookPlays'. -/
def bookPlaysCard : Claim7 := { stood := { row := bookPlaysRow, standIns := [], harness := (true, "3a966905491734d8cd3a199d93d79b235007406c9601357167a4fc8b9c882912"), looks := true }, kinds := [], alts := [], laidByText := true, laidKinds := [.data, .handle], laidTests := true, laidLooks := .later }
def BookPlaysCardSaid : Prop := Claim7.holds Tryd.pinned (.plain (OpenSpec.ofChange bookPlaysSpec)) bookPlaysCard

/-- THE TIED CARD OF 'stonelaw3.BookKeeps'. -/
def bookKeepsCard : Claim7 := { stood := { row := bookKeepsRow, standIns := [], harness := (true, "3a966905491734d8cd3a199d93d79b235007406c9601357167a4fc8b9c882912"), looks := true }, kinds := [], alts := [], laidByText := true, laidKinds := [.data, .handle], laidTests := true, laidLooks := .later }
def BookKeepsCardSaid : Prop := Claim7.holds Tryd.pinned (.plain (OpenSpec.ofChange bookKeepsSpec)) bookKeepsCard

/-- THE SECOND FORM's CARD OF 'stonelaw4.BookOnce'. -/
def bookOnceUptoCard : Claim7 := { stood := { row := bookOnceUptoRow, standIns := [], harness := (true, "3a966905491734d8cd3a199d93d79b235007406c9601357167a4fc8b9c882912"), looks := true }, kinds := [], alts := [], laidByText := true, laidKinds := [.data, .handle], laidTests := true, laidLooks := .later }
def BookOnceUptoCardSaid : Prop := Claim7.holds Tryd.pinned (.plain (OpenSpec.upto bookOnceSpec)) bookOnceUptoCard

/-- THE SECOND FORM's CARD OF 'stonelaw3.BookPlays'. -/
def bookPlaysUptoCard : Claim7 := { stood := { row := bookPlaysUptoRow, standIns := [], harness := (true, "3a966905491734d8cd3a199d93d79b235007406c9601357167a4fc8b9c882912"), looks := true }, kinds := [], alts := [], laidByText := true, laidKinds := [.data, .handle], laidTests := true, laidLooks := .later }
def BookPlaysUptoCardSaid : Prop := Claim7.holds Tryd.pinned (.plain (OpenSpec.upto bookPlaysSpec)) bookPlaysUptoCard

/-- THE SECOND FORM's CARD OF 'stonelaw3.BookKeeps'. -/
def bookKeepsUptoCard : Claim7 := { stood := { row := bookKeepsUptoRow, standIns := [], harness := (true, "3a966905491734d8cd3a199d93d79b235007406c9601357167a4fc8b9c882912"), looks := true }, kinds := [], alts := [], laidByText := true, laidKinds := [.data, .handle], laidTests := true, laidLooks := .later }
def BookKeepsUptoCardSaid : Prop := Claim7.holds Tryd.pinned (.plain (OpenSpec.upto bookKeepsSpec)) bookKeepsUptoCard
end Rows
end Go.Proofs.YtebomakihdjllaaDoor
