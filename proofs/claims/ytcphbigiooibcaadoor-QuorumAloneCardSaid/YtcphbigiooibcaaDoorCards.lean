/-
  DERIVED. GIVEN WITH THE SEED: THE CARDS: each row of YtcphbigiooibcaaDoorRows.lean that lists a variable, with what it lists TIED to the program's text (the seventh form; the later family's looks); each row that meets fmt, with fmt's text TOLD by the authors' own Lean function (tested against real Go, not proved from fmt's source: count such statements apart). THE CARD IS WHAT COUNTS. Prove the row's statement (the work); the ties are given (YtcphbigiooibcaaDoorTie.lean); close each card by the builder's one call (the guide's Derived/Test/ToyasCard.lean, 'card_holds'). Laid BY PROGRAM, IN A SANDBOX (cutbox-door.mjs). By AI agents, Wed Nov 11 2026. No macro, syntax, notation, axiom, sorry.
-/
import Derived.Test.YtcphbigiooibcaaDoorRows
import GoSem.ClaimSeven
namespace Go.Proofs.YtcphbigiooibcaaDoor
namespace Rows

/-- THE TIED CARD OF 'stonelaw4.GroupOne'. -/
def groupOneCard : Claim7 := { stood := { row := groupOneRow, standIns := [], harness := (true, "60558bf5146220f1391580bf7513f01283a721c5be6bc01e648492e84d139369"), looks := true }, kinds := [], alts := [], laidByText := true, laidKinds := [.data], laidTests := true, laidLooks := .later }
def GroupOneCardSaid : Prop := Claim7.holds Tryd.pinned (.plain (OpenSpec.ofChange groupOneSpec)) groupOneCard

/-- THE TIED CARD OF 'stonelaw2.GroupSeals'. -/
def groupSealsCard : Claim7 := { stood := { row := groupSealsRow, standIns := [], harness := (true, "60558bf5146220f1391580bf7513f01283a721c5be6bc01e648492e84d139369"), looks := true }, kinds := [], alts := [], laidByText := true, laidKinds := [.data], laidTests := true, laidLooks := .later }
def GroupSealsCardSaid : Prop := Claim7.holds Tryd.pinned (.plain (OpenSpec.ofChange groupSealsSpec)) groupSealsCard

/-- THE TIED CARD OF 'stonelaw3.BatchHolds'. -/
def batchHoldsCard : Claim7 := { stood := { row := batchHoldsRow, standIns := [], harness := (true, "60558bf5146220f1391580bf7513f01283a721c5be6bc01e648492e84d139369"), looks := true }, kinds := [], alts := [], laidByText := true, laidKinds := [.data], laidTests := true, laidLooks := .later }
def BatchHoldsCardSaid : Prop := Claim7.holds Tryd.pinned (.plain (OpenSpec.ofChange batchHoldsSpec)) batchHoldsCard

/-- THE TIED CARD OF 'stonelaw2.ShortJoins'. -/
def shortJoinsCard : Claim7 := { stood := { row := shortJoinsRow, standIns := [], harness := (true, "60558bf5146220f1391580bf7513f01283a721c5be6bc01e648492e84d139369"), looks := true }, kinds := [], alts := [], laidByText := true, laidKinds := [.data, .data], laidTests := true, laidLooks := .later }
def ShortJoinsCardSaid : Prop := Claim7.holds Tryd.pinned (.plain (OpenSpec.ofChange shortJoinsSpec)) shortJoinsCard

/-- THE TIED CARD OF 'stonelaw3.RingHolds'. -/
def ringHoldsCard : Claim7 := { stood := { row := ringHoldsRow, standIns := [], harness := (true, "60558bf5146220f1391580bf7513f01283a721c5be6bc01e648492e84d139369"), looks := true }, kinds := [], alts := [], laidByText := true, laidKinds := [.data], laidTests := true, laidLooks := .later }
def RingHoldsCardSaid : Prop := Claim7.holds Tryd.pinned (.plain (OpenSpec.ofChange ringHoldsSpec)) ringHoldsCard

/-- THE TIED CARD OF 'stonetop.TopMixed'. -/
def topMixedCard : Claim7 := { stood := { row := topMixedRow, standIns := [], harness := (true, "60558bf5146220f1391580bf7513f01283a721c5be6bc01e648492e84d139369"), looks := true }, kinds := [], alts := [], laidByText := true, laidKinds := [.data], laidTests := true, laidLooks := .later }
def TopMixedCardSaid : Prop := Claim7.holds Tryd.pinned (.plain (OpenSpec.ofChange topMixedSpec)) topMixedCard

/-- THE TIED CARD OF 'stonelaw3.AdaptTells'. -/
def adaptTellsCard : Claim7 := { stood := { row := adaptTellsRow, standIns := [], harness := (true, "60558bf5146220f1391580bf7513f01283a721c5be6bc01e648492e84d139369"), looks := true }, kinds := [], alts := [], laidByText := true, laidKinds := [.data, .handle], laidTests := true, laidLooks := .later }
def AdaptTellsCardSaid : Prop := Claim7.holds Tryd.pinned (.plain (OpenSpec.ofChange adaptTellsSpec)) adaptTellsCard

/-- THE TIED CARD OF 'stonelaw1.PairTells'. -/
def pairTellsCard : Claim7 := { stood := { row := pairTellsRow, standIns := [], harness := (true, "60558bf5146220f1391580bf7513f01283a721c5be6bc01e648492e84d139369"), looks := true }, kinds := [], alts := [], laidByText := true, laidKinds := [.data, .data, .handle], laidTests := true, laidLooks := .later }
def PairTellsCardSaid : Prop := Claim7.holds Tryd.pinned (.plain (OpenSpec.ofChange pairTellsSpec)) pairTellsCard

/-- THE TIED CARD OF 'stonelaw4.QuorumAlone'. -/
def quorumAloneCard : Claim7 := { stood := { row := quorumAloneRow, standIns := [], harness := (true, "60558bf5146220f1391580bf7513f01283a721c5be6bc01e648492e84d139369"), looks := true }, kinds := [], alts := [], laidByText := true, laidKinds := [.data], laidTests := true, laidLooks := .later }
def QuorumAloneCardSaid : Prop := Claim7.holds Tryd.pinned (.plain (OpenSpec.ofChange quorumAloneSpec)) quorumAloneCard

/-- THE TIED CARD OF 'stonelaw2.QuorumSeals'. -/
def quorumSealsCard : Claim7 := { stood := { row := quorumSealsRow, standIns := [], harness := (true, "60558bf5146220f1391580bf7513f01283a721c5be6bc01e648492e84d139369"), looks := true }, kinds := [], alts := [], laidByText := true, laidKinds := [.data], laidTests := true, laidLooks := .later }
def QuorumSealsCardSaid : Prop := Claim7.holds Tryd.pinned (.plain (OpenSpec.ofChange quorumSealsSpec)) quorumSealsCard

/-- THE TIED CARD OF 'stonelaw2.ShareTells'. -/
def shareTellsCard : Claim7 := { stood := { row := shareTellsRow, standIns := [], harness := (true, "60558bf5146220f1391580bf7513f01283a721c5be6bc01e648492e84d139369"), looks := true }, kinds := [], alts := [], laidByText := true, laidKinds := [.handle], laidTests := true, laidLooks := .later }
def ShareTellsCardSaid : Prop := Claim7.holds Tryd.pinned (.plain (OpenSpec.ofChange shareTellsSpec)) shareTellsCard

/-- THE TIED CARD OF 'stonelaw2.GroupTells'. -/
def groupTellsCard : Claim7 := { stood := { row := groupTellsRow, standIns := [], harness := (true, "60558bf5146220f1391580bf7513f01283a721c5be6bc01e648492e84d139369"), looks := true }, kinds := [], alts := [], laidByText := true, laidKinds := [.data, .handle], laidTests := true, laidLooks := .later }
def GroupTellsCardSaid : Prop := Claim7.holds Tryd.pinned (.plain (OpenSpec.ofChange groupTellsSpec)) groupTellsCard

/-- THE SECOND FORM's CARD OF 'stonelaw4.GroupOne'. -/
def groupOneUptoCard : Claim7 := { stood := { row := groupOneUptoRow, standIns := [], harness := (true, "60558bf5146220f1391580bf7513f01283a721c5be6bc01e648492e84d139369"), looks := true }, kinds := [], alts := [], laidByText := true, laidKinds := [.data], laidTests := true, laidLooks := .later }
def GroupOneUptoCardSaid : Prop := Claim7.holds Tryd.pinned (.plain (OpenSpec.upto groupOneSpec)) groupOneUptoCard

/-- THE SECOND FORM's CARD OF 'stonelaw2.GroupSeals'. -/
def groupSealsUptoCard : Claim7 := { stood := { row := groupSealsUptoRow, standIns := [], harness := (true, "60558bf5146220f1391580bf7513f01283a721c5be6bc01e648492e84d139369"), looks := true }, kinds := [], alts := [], laidByText := true, laidKinds := [.data], laidTests := true, laidLooks := .later }
def GroupSealsUptoCardSaid : Prop := Claim7.holds Tryd.pinned (.plain (OpenSpec.upto groupSealsSpec)) groupSealsUptoCard

/-- THE SECOND FORM's CARD OF 'stonelaw3.BatchHolds'. -/
def batchHoldsUptoCard : Claim7 := { stood := { row := batchHoldsUptoRow, standIns := [], harness := (true, "60558bf5146220f1391580bf7513f01283a721c5be6bc01e648492e84d139369"), looks := true }, kinds := [], alts := [], laidByText := true, laidKinds := [.data], laidTests := true, laidLooks := .later }
def BatchHoldsUptoCardSaid : Prop := Claim7.holds Tryd.pinned (.plain (OpenSpec.upto batchHoldsSpec)) batchHoldsUptoCard

/-- THE SECOND FORM's CARD OF 'stonelaw2.ShortJoins'. -/
def shortJoinsUptoCard : Claim7 := { stood := { row := shortJoinsUptoRow, standIns := [], harness := (true, "60558bf5146220f1391580bf7513f01283a721c5be6bc01e648492e84d139369"), looks := true }, kinds := [], alts := [], laidByText := true, laidKinds := [.data, .data], laidTests := true, laidLooks := .later }
def ShortJoinsUptoCardSaid : Prop := Claim7.holds Tryd.pinned (.plain (OpenSpec.upto shortJoinsSpec)) shortJoinsUptoCard

/-- THE SECOND FORM's CARD OF 'stonelaw3.RingHolds'. -/
def ringHoldsUptoCard : Claim7 := { stood := { row := ringHoldsUptoRow, standIns := [], harness := (true, "60558bf5146220f1391580bf7513f01283a721c5be6bc01e648492e84d139369"), looks := true }, kinds := [], alts := [], laidByText := true, laidKinds := [.data], laidTests := true, laidLooks := .later }
def RingHoldsUptoCardSaid : Prop := Claim7.holds Tryd.pinned (.plain (OpenSpec.upto ringHoldsSpec)) ringHoldsUptoCard

/-- THE SECOND FORM's CARD OF 'stonetop.TopMixed'. -/
def topMixedUptoCard : Claim7 := { stood := { row := topMixedUptoRow, standIns := [], harness := (true, "60558bf5146220f1391580bf7513f01283a721c5be6bc01e648492e84d139369"), looks := true }, kinds := [], alts := [], laidByText := true, laidKinds := [.data], laidTests := true, laidLooks := .later }
def TopMixedUptoCardSaid : Prop := Claim7.holds Tryd.pinned (.plain (OpenSpec.upto topMixedSpec)) topMixedUptoCard

/-- THE SECOND FORM's CARD OF 'stonelaw3.AdaptTells'. -/
def adaptTellsUptoCard : Claim7 := { stood := { row := adaptTellsUptoRow, standIns := [], harness := (true, "60558bf5146220f1391580bf7513f01283a721c5be6bc01e648492e84d139369"), looks := true }, kinds := [], alts := [], laidByText := true, laidKinds := [.data, .handle], laidTests := true, laidLooks := .later }
def AdaptTellsUptoCardSaid : Prop := Claim7.holds Tryd.pinned (.plain (OpenSpec.upto adaptTellsSpec)) adaptTellsUptoCard

/-- THE SECOND FORM's CARD OF 'stonelaw1.PairTells'. -/
def pairTellsUptoCard : Claim7 := { stood := { row := pairTellsUptoRow, standIns := [], harness := (true, "60558bf5146220f1391580bf7513f01283a721c5be6bc01e648492e84d139369"), looks := true }, kinds := [], alts := [], laidByText := true, laidKinds := [.data, .data, .handle], laidTests := true, laidLooks := .later }
def PairTellsUptoCardSaid : Prop := Claim7.holds Tryd.pinned (.plain (OpenSpec.upto pairTellsSpec)) pairTellsUptoCard

/-- THE SECOND FORM's CARD OF 'stonelaw4.QuorumAlone'. -/
def quorumAloneUptoCard : Claim7 := { stood := { row := quorumAloneUptoRow, standIns := [], harness := (true, "60558bf5146220f1391580bf7513f01283a721c5be6bc01e648492e84d139369"), looks := true }, kinds := [], alts := [], laidByText := true, laidKinds := [.data], laidTests := true, laidLooks := .later }
def QuorumAloneUptoCardSaid : Prop := Claim7.holds Tryd.pinned (.plain (OpenSpec.upto quorumAloneSpec)) quorumAloneUptoCard

/-- THE SECOND FORM's CARD OF 'stonelaw2.QuorumSeals'. -/
def quorumSealsUptoCard : Claim7 := { stood := { row := quorumSealsUptoRow, standIns := [], harness := (true, "60558bf5146220f1391580bf7513f01283a721c5be6bc01e648492e84d139369"), looks := true }, kinds := [], alts := [], laidByText := true, laidKinds := [.data], laidTests := true, laidLooks := .later }
def QuorumSealsUptoCardSaid : Prop := Claim7.holds Tryd.pinned (.plain (OpenSpec.upto quorumSealsSpec)) quorumSealsUptoCard

/-- THE SECOND FORM's CARD OF 'stonelaw2.ShareTells'. -/
def shareTellsUptoCard : Claim7 := { stood := { row := shareTellsUptoRow, standIns := [], harness := (true, "60558bf5146220f1391580bf7513f01283a721c5be6bc01e648492e84d139369"), looks := true }, kinds := [], alts := [], laidByText := true, laidKinds := [.handle], laidTests := true, laidLooks := .later }
def ShareTellsUptoCardSaid : Prop := Claim7.holds Tryd.pinned (.plain (OpenSpec.upto shareTellsSpec)) shareTellsUptoCard

/-- THE SECOND FORM's CARD OF 'stonelaw2.GroupTells'. -/
def groupTellsUptoCard : Claim7 := { stood := { row := groupTellsUptoRow, standIns := [], harness := (true, "60558bf5146220f1391580bf7513f01283a721c5be6bc01e648492e84d139369"), looks := true }, kinds := [], alts := [], laidByText := true, laidKinds := [.data, .handle], laidTests := true, laidLooks := .later }
def GroupTellsUptoCardSaid : Prop := Claim7.holds Tryd.pinned (.plain (OpenSpec.upto groupTellsSpec)) groupTellsUptoCard
end Rows
end Go.Proofs.YtcphbigiooibcaaDoor
