/-
  DERIVED. GIVEN WITH THE SEED: THE CARDS: each row of YtjnmknhfmmdoiaaDoorRows.lean that lists a variable, with what it lists TIED to the program's text (the seventh form; the later family's looks); each row that meets fmt, with fmt's text TOLD by the authors' own Lean function (tested against real Go, not proved from fmt's source: count such statements apart). THE CARD IS WHAT COUNTS. Prove the row's statement (the work); the ties are given (YtjnmknhfmmdoiaaDoorTie.lean); close each card by the builder's one call (the guide's Derived/Test/ToyasCard.lean, 'card_holds'). Laid BY PROGRAM, IN A SANDBOX (cutbox-door.mjs). By AI agents, Wed Nov 11 2026. No macro, syntax, notation, axiom, sorry.
-/
import Derived.Test.YtjnmknhfmmdoiaaDoorRows
import GoSem.ClaimSeven
namespace Go.Proofs.YtjnmknhfmmdoiaaDoor
namespace Rows

/-- THE TIED CARD OF 'stonelaw3.BatchHolds'. -/
def batchHoldsCard : Claim7 := { stood := { row := batchHoldsRow, standIns := [], harness := (true, "169ca55525975a002307396833f787c47ad1d893aaffc6729fd8ce4eca940aba"), looks := true }, kinds := [], alts := [], laidByText := true, laidKinds := [.data], laidTests := true, laidLooks := .later }
def BatchHoldsCardSaid : Prop := Claim7.holds Tryd.pinned (.plain (OpenSpec.ofChange batchHoldsSpec)) batchHoldsCard

/-- THE TIED CARD OF 'stonelaw4.GroupOne'. -/
def groupOneCard : Claim7 := { stood := { row := groupOneRow, standIns := [], harness := (true, "169ca55525975a002307396833f787c47ad1d893aaffc6729fd8ce4eca940aba"), looks := true }, kinds := [], alts := [], laidByText := true, laidKinds := [.data], laidTests := true, laidLooks := .later }
def GroupOneCardSaid : Prop := Claim7.holds Tryd.pinned (.plain (OpenSpec.ofChange groupOneSpec)) groupOneCard

/-- THE TIED CARD OF 'stonelaw3.RingHolds'. -/
def ringHoldsCard : Claim7 := { stood := { row := ringHoldsRow, standIns := [], harness := (true, "169ca55525975a002307396833f787c47ad1d893aaffc6729fd8ce4eca940aba"), looks := true }, kinds := [], alts := [], laidByText := true, laidKinds := [.data], laidTests := true, laidLooks := .later }
def RingHoldsCardSaid : Prop := Claim7.holds Tryd.pinned (.plain (OpenSpec.ofChange ringHoldsSpec)) ringHoldsCard

/-- THE TIED CARD OF 'stonelaw2.GroupSeals'. -/
def groupSealsCard : Claim7 := { stood := { row := groupSealsRow, standIns := [], harness := (true, "169ca55525975a002307396833f787c47ad1d893aaffc6729fd8ce4eca940aba"), looks := true }, kinds := [], alts := [], laidByText := true, laidKinds := [.data], laidTests := true, laidLooks := .later }
def GroupSealsCardSaid : Prop := Claim7.holds Tryd.pinned (.plain (OpenSpec.ofChange groupSealsSpec)) groupSealsCard

/-- THE TIED CARD OF 'stonelaw2.ShortJoins'. -/
def shortJoinsCard : Claim7 := { stood := { row := shortJoinsRow, standIns := [], harness := (true, "169ca55525975a002307396833f787c47ad1d893aaffc6729fd8ce4eca940aba"), looks := true }, kinds := [], alts := [], laidByText := true, laidKinds := [.data, .data], laidTests := true, laidLooks := .later }
def ShortJoinsCardSaid : Prop := Claim7.holds Tryd.pinned (.plain (OpenSpec.ofChange shortJoinsSpec)) shortJoinsCard

/-- THE TIED CARD OF 'stonelaw2.EqualTells'. -/
def equalTellsCard : Claim7 := { stood := { row := equalTellsRow, standIns := [], harness := (true, "169ca55525975a002307396833f787c47ad1d893aaffc6729fd8ce4eca940aba"), looks := true }, kinds := [], alts := [], laidByText := true, laidKinds := [.data, .handle], laidTests := true, laidLooks := .later }
def EqualTellsCardSaid : Prop := Claim7.holds Tryd.pinned (.plain (OpenSpec.ofChange equalTellsSpec)) equalTellsCard

/-- THE TIED CARD OF 'stonelaw3.BatchTells'. -/
def batchTellsCard : Claim7 := { stood := { row := batchTellsRow, standIns := [], harness := (true, "169ca55525975a002307396833f787c47ad1d893aaffc6729fd8ce4eca940aba"), looks := true }, kinds := [], alts := [], laidByText := true, laidKinds := [.data, .handle], laidTests := true, laidLooks := .later }
def BatchTellsCardSaid : Prop := Claim7.holds Tryd.pinned (.plain (OpenSpec.ofChange batchTellsSpec)) batchTellsCard

/-- THE TIED CARD OF 'stonelaw3.AdaptTells'. -/
def adaptTellsCard : Claim7 := { stood := { row := adaptTellsRow, standIns := [], harness := (true, "169ca55525975a002307396833f787c47ad1d893aaffc6729fd8ce4eca940aba"), looks := true }, kinds := [], alts := [], laidByText := true, laidKinds := [.data, .handle], laidTests := true, laidLooks := .later }
def AdaptTellsCardSaid : Prop := Claim7.holds Tryd.pinned (.plain (OpenSpec.ofChange adaptTellsSpec)) adaptTellsCard

/-- THE TIED CARD OF 'stonelaw2.GroupTells'. -/
def groupTellsCard : Claim7 := { stood := { row := groupTellsRow, standIns := [], harness := (true, "169ca55525975a002307396833f787c47ad1d893aaffc6729fd8ce4eca940aba"), looks := true }, kinds := [], alts := [], laidByText := true, laidKinds := [.data, .handle], laidTests := true, laidLooks := .later }
def GroupTellsCardSaid : Prop := Claim7.holds Tryd.pinned (.plain (OpenSpec.ofChange groupTellsSpec)) groupTellsCard

/-- THE SECOND FORM's CARD OF 'stonelaw3.BatchHolds'. -/
def batchHoldsUptoCard : Claim7 := { stood := { row := batchHoldsUptoRow, standIns := [], harness := (true, "169ca55525975a002307396833f787c47ad1d893aaffc6729fd8ce4eca940aba"), looks := true }, kinds := [], alts := [], laidByText := true, laidKinds := [.data], laidTests := true, laidLooks := .later }
def BatchHoldsUptoCardSaid : Prop := Claim7.holds Tryd.pinned (.plain (OpenSpec.upto batchHoldsSpec)) batchHoldsUptoCard

/-- THE SECOND FORM's CARD OF 'stonelaw4.GroupOne'. -/
def groupOneUptoCard : Claim7 := { stood := { row := groupOneUptoRow, standIns := [], harness := (true, "169ca55525975a002307396833f787c47ad1d893aaffc6729fd8ce4eca940aba"), looks := true }, kinds := [], alts := [], laidByText := true, laidKinds := [.data], laidTests := true, laidLooks := .later }
def GroupOneUptoCardSaid : Prop := Claim7.holds Tryd.pinned (.plain (OpenSpec.upto groupOneSpec)) groupOneUptoCard

/-- THE SECOND FORM's CARD OF 'stonelaw3.RingHolds'. -/
def ringHoldsUptoCard : Claim7 := { stood := { row := ringHoldsUptoRow, standIns := [], harness := (true, "169ca55525975a002307396833f787c47ad1d893aaffc6729fd8ce4eca940aba"), looks := true }, kinds := [], alts := [], laidByText := true, laidKinds := [.data], laidTests := true, laidLooks := .later }
def RingHoldsUptoCardSaid : Prop := Claim7.holds Tryd.pinned (.plain (OpenSpec.upto ringHoldsSpec)) ringHoldsUptoCard

/-- THE SECOND FORM's CARD OF 'stonelaw2.GroupSeals'. -/
def groupSealsUptoCard : Claim7 := { stood := { row := groupSealsUptoRow, standIns := [], harness := (true, "169ca55525975a002307396833f787c47ad1d893aaffc6729fd8ce4eca940aba"), looks := true }, kinds := [], alts := [], laidByText := true, laidKinds := [.data], laidTests := true, laidLooks := .later }
def GroupSealsUptoCardSaid : Prop := Claim7.holds Tryd.pinned (.plain (OpenSpec.upto groupSealsSpec)) groupSealsUptoCard

/-- THE SECOND FORM's CARD OF 'stonelaw2.ShortJoins'. -/
def shortJoinsUptoCard : Claim7 := { stood := { row := shortJoinsUptoRow, standIns := [], harness := (true, "169ca55525975a002307396833f787c47ad1d893aaffc6729fd8ce4eca940aba"), looks := true }, kinds := [], alts := [], laidByText := true, laidKinds := [.data, .data], laidTests := true, laidLooks := .later }
def ShortJoinsUptoCardSaid : Prop := Claim7.holds Tryd.pinned (.plain (OpenSpec.upto shortJoinsSpec)) shortJoinsUptoCard

/-- THE SECOND FORM's CARD OF 'stonelaw2.EqualTells'. -/
def equalTellsUptoCard : Claim7 := { stood := { row := equalTellsUptoRow, standIns := [], harness := (true, "169ca55525975a002307396833f787c47ad1d893aaffc6729fd8ce4eca940aba"), looks := true }, kinds := [], alts := [], laidByText := true, laidKinds := [.data, .handle], laidTests := true, laidLooks := .later }
def EqualTellsUptoCardSaid : Prop := Claim7.holds Tryd.pinned (.plain (OpenSpec.upto equalTellsSpec)) equalTellsUptoCard

/-- THE SECOND FORM's CARD OF 'stonelaw3.BatchTells'. -/
def batchTellsUptoCard : Claim7 := { stood := { row := batchTellsUptoRow, standIns := [], harness := (true, "169ca55525975a002307396833f787c47ad1d893aaffc6729fd8ce4eca940aba"), looks := true }, kinds := [], alts := [], laidByText := true, laidKinds := [.data, .handle], laidTests := true, laidLooks := .later }
def BatchTellsUptoCardSaid : Prop := Claim7.holds Tryd.pinned (.plain (OpenSpec.upto batchTellsSpec)) batchTellsUptoCard

/-- THE SECOND FORM's CARD OF 'stonelaw3.AdaptTells'. -/
def adaptTellsUptoCard : Claim7 := { stood := { row := adaptTellsUptoRow, standIns := [], harness := (true, "169ca55525975a002307396833f787c47ad1d893aaffc6729fd8ce4eca940aba"), looks := true }, kinds := [], alts := [], laidByText := true, laidKinds := [.data, .handle], laidTests := true, laidLooks := .later }
def AdaptTellsUptoCardSaid : Prop := Claim7.holds Tryd.pinned (.plain (OpenSpec.upto adaptTellsSpec)) adaptTellsUptoCard

/-- THE SECOND FORM's CARD OF 'stonelaw2.GroupTells'. -/
def groupTellsUptoCard : Claim7 := { stood := { row := groupTellsUptoRow, standIns := [], harness := (true, "169ca55525975a002307396833f787c47ad1d893aaffc6729fd8ce4eca940aba"), looks := true }, kinds := [], alts := [], laidByText := true, laidKinds := [.data, .handle], laidTests := true, laidLooks := .later }
def GroupTellsUptoCardSaid : Prop := Claim7.holds Tryd.pinned (.plain (OpenSpec.upto groupTellsSpec)) groupTellsUptoCard
end Rows
end Go.Proofs.YtjnmknhfmmdoiaaDoor
