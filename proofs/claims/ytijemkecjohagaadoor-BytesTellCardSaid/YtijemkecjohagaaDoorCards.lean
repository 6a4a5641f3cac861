/-
  DERIVED. GIVEN WITH THE SEED: THE CARDS: each row of YtijemkecjohagaaDoorRows.lean that lists a variable, with what it lists TIED to the program's text (the seventh form; the later family's looks); each row that meets fmt, with fmt's text TOLD by the authors' own Lean function (tested against real Go, not proved from fmt's source: count such statements apart). THE CARD IS WHAT COUNTS. Prove the row's statement (the work); the ties are given (YtijemkecjohagaaDoorTie.lean); close each card by the builder's one call (the guide's Derived/Test/ToyasCard.lean, 'card_holds'). Laid BY PROGRAM, IN A SANDBOX (cutbox-door.mjs). By AI agents, Wed Nov 11 2026. No macro, syntax, notation, axiom, sorry.
-/
import Derived.Test.YtijemkecjohagaaDoorRows
import GoSem.ClaimSeven
namespace Go.Proofs.YtijemkecjohagaaDoor
namespace Rows

/-- THE TIED CARD OF 'stonetop.TopKeys'. -/
def topKeysCard : Claim7 := { stood := { row := topKeysRow, standIns := [], harness := (true, "25a11375b001c8fdcefd23ab6d35d71f076e34bc87dce7e44ec6e9ef54777c17"), looks := true }, kinds := [], alts := [], laidByText := true, laidKinds := [.data, .data], laidTests := true, laidLooks := .later }
def TopKeysCardSaid : Prop := Claim7.holds Tryd.pinned (.plain (OpenSpec.ofChange topKeysSpec)) topKeysCard

/-- THE TIED CARD OF 'stonelaw4.PairFar'. -/
def pairFarCard : Claim7 := { stood := { row := pairFarRow, standIns := [], harness := (true, "25a11375b001c8fdcefd23ab6d35d71f076e34bc87dce7e44ec6e9ef54777c17"), looks := true }, kinds := [], alts := [], laidByText := true, laidKinds := [.data, .data, .handle], laidTests := true, laidLooks := .later }
def PairFarCardSaid : Prop := Claim7.holds Tryd.pinned (.plain (OpenSpec.ofChange pairFarSpec)) pairFarCard

/-- THE TIED CARD OF 'stonelaw2.EqualHolds'. -/
def equalHoldsCard : Claim7 := { stood := { row := equalHoldsRow, standIns := [], harness := (true, "25a11375b001c8fdcefd23ab6d35d71f076e34bc87dce7e44ec6e9ef54777c17"), looks := true }, kinds := [], alts := [], laidByText := true, laidKinds := [.data], laidTests := true, laidLooks := .later }
def EqualHoldsCardSaid : Prop := Claim7.holds Tryd.pinned (.plain (OpenSpec.ofChange equalHoldsSpec)) equalHoldsCard

/-- THE TIED CARD OF 'stonelaw4.EqualFalse'. -/
def equalFalseCard : Claim7 := { stood := { row := equalFalseRow, standIns := [], harness := (true, "25a11375b001c8fdcefd23ab6d35d71f076e34bc87dce7e44ec6e9ef54777c17"), looks := true }, kinds := [], alts := [], laidByText := true, laidKinds := [.data], laidTests := true, laidLooks := .later }
def EqualFalseCardSaid : Prop := Claim7.holds Tryd.pinned (.plain (OpenSpec.ofChange equalFalseSpec)) equalFalseCard

/-- THE TIED CARD OF 'stonelaw3.AdaptGives'. -/
def adaptGivesCard : Claim7 := { stood := { row := adaptGivesRow, standIns := [], harness := (true, "25a11375b001c8fdcefd23ab6d35d71f076e34bc87dce7e44ec6e9ef54777c17"), looks := true }, kinds := [], alts := [], laidByText := true, laidKinds := [.data], laidTests := true, laidLooks := .later }
def AdaptGivesCardSaid : Prop := Claim7.holds Tryd.pinned (.plain (OpenSpec.ofChange adaptGivesSpec)) adaptGivesCard

/-- THE TIED CARD OF 'stonelaw4.AdaptNone'. -/
def adaptNoneCard : Claim7 := { stood := { row := adaptNoneRow, standIns := [], harness := (true, "25a11375b001c8fdcefd23ab6d35d71f076e34bc87dce7e44ec6e9ef54777c17"), looks := true }, kinds := [], alts := [], laidByText := true, laidKinds := [.data, .handle], laidTests := true, laidLooks := .later }
def AdaptNoneCardSaid : Prop := Claim7.holds Tryd.pinned (.plain (OpenSpec.ofChange adaptNoneSpec)) adaptNoneCard

/-- THE TIED CARD OF 'stonelaw3.BatchHolds'. -/
def batchHoldsCard : Claim7 := { stood := { row := batchHoldsRow, standIns := [], harness := (true, "25a11375b001c8fdcefd23ab6d35d71f076e34bc87dce7e44ec6e9ef54777c17"), looks := true }, kinds := [], alts := [], laidByText := true, laidKinds := [.data], laidTests := true, laidLooks := .later }
def BatchHoldsCardSaid : Prop := Claim7.holds Tryd.pinned (.plain (OpenSpec.ofChange batchHoldsSpec)) batchHoldsCard

/-- THE TIED CARD OF 'stonelaw4.GroupOne'. -/
def groupOneCard : Claim7 := { stood := { row := groupOneRow, standIns := [], harness := (true, "25a11375b001c8fdcefd23ab6d35d71f076e34bc87dce7e44ec6e9ef54777c17"), looks := true }, kinds := [], alts := [], laidByText := true, laidKinds := [.data], laidTests := true, laidLooks := .later }
def GroupOneCardSaid : Prop := Claim7.holds Tryd.pinned (.plain (OpenSpec.ofChange groupOneSpec)) groupOneCard

/-- THE TIED CARD OF 'stonelaw4.ShortOne'. -/
def shortOneCard : Claim7 := { stood := { row := shortOneRow, standIns := [], harness := (true, "25a11375b001c8fdcefd23ab6d35d71f076e34bc87dce7e44ec6e9ef54777c17"), looks := true }, kinds := [], alts := [], laidByText := true, laidKinds := [.data, .data], laidTests := true, laidLooks := .later }
def ShortOneCardSaid : Prop := Claim7.holds Tryd.pinned (.plain (OpenSpec.ofChange shortOneSpec)) shortOneCard

/-- THE TIED CARD OF 'stonelaw2.ShortJoins'. -/
def shortJoinsCard : Claim7 := { stood := { row := shortJoinsRow, standIns := [], harness := (true, "25a11375b001c8fdcefd23ab6d35d71f076e34bc87dce7e44ec6e9ef54777c17"), looks := true }, kinds := [], alts := [], laidByText := true, laidKinds := [.data, .data], laidTests := true, laidLooks := .later }
def ShortJoinsCardSaid : Prop := Claim7.holds Tryd.pinned (.plain (OpenSpec.ofChange shortJoinsSpec)) shortJoinsCard

/-- THE TIED CARD OF 'stonelaw4.QuorumAlone'. -/
def quorumAloneCard : Claim7 := { stood := { row := quorumAloneRow, standIns := [], harness := (true, "25a11375b001c8fdcefd23ab6d35d71f076e34bc87dce7e44ec6e9ef54777c17"), looks := true }, kinds := [], alts := [], laidByText := true, laidKinds := [.data], laidTests := true, laidLooks := .later }
def QuorumAloneCardSaid : Prop := Claim7.holds Tryd.pinned (.plain (OpenSpec.ofChange quorumAloneSpec)) quorumAloneCard

/-- THE TIED CARD OF 'stonelaw1.PrimeTells'. -/
def primeTellsCard : Claim7 := { stood := { row := primeTellsRow, standIns := [], harness := (true, "25a11375b001c8fdcefd23ab6d35d71f076e34bc87dce7e44ec6e9ef54777c17"), looks := true }, kinds := [], alts := [], laidByText := true, laidKinds := [.handle], laidTests := true, laidLooks := .later }
def PrimeTellsCardSaid : Prop := Claim7.holds Tryd.pinned (.plain (OpenSpec.ofChange primeTellsSpec)) primeTellsCard

/-- THE TIED CARD OF 'stonelaw1.TwinTells'. -/
def twinTellsCard : Claim7 := { stood := { row := twinTellsRow, standIns := [], harness := (true, "25a11375b001c8fdcefd23ab6d35d71f076e34bc87dce7e44ec6e9ef54777c17"), looks := true }, kinds := [], alts := [], laidByText := true, laidKinds := [.handle], laidTests := true, laidLooks := .later }
def TwinTellsCardSaid : Prop := Claim7.holds Tryd.pinned (.plain (OpenSpec.ofChange twinTellsSpec)) twinTellsCard

/-- THE TIED CARD OF 'stonelaw4.CurveLifts'. -/
def curveLiftsCard : Claim7 := { stood := { row := curveLiftsRow, standIns := [], harness := (true, "25a11375b001c8fdcefd23ab6d35d71f076e34bc87dce7e44ec6e9ef54777c17"), looks := true }, kinds := [], alts := [], laidByText := true, laidKinds := [.data, .handle], laidTests := true, laidLooks := .later }
def CurveLiftsCardSaid : Prop := Claim7.holds Tryd.pinned (.plain (OpenSpec.ofChange curveLiftsSpec)) curveLiftsCard

/-- THE TIED CARD OF 'stonelaw1.HashTells'. -/
def hashTellsCard : Claim7 := { stood := { row := hashTellsRow, standIns := [], harness := (true, "25a11375b001c8fdcefd23ab6d35d71f076e34bc87dce7e44ec6e9ef54777c17"), looks := true }, kinds := [], alts := [], laidByText := true, laidKinds := [.data], laidTests := true, laidLooks := .later }
def HashTellsCardSaid : Prop := Claim7.holds Tryd.pinned (.plain (OpenSpec.ofChange hashTellsSpec)) hashTellsCard

/-- THE TIED CARD OF 'stonelaw1.CurveTells'. -/
def curveTellsCard : Claim7 := { stood := { row := curveTellsRow, standIns := [], harness := (true, "25a11375b001c8fdcefd23ab6d35d71f076e34bc87dce7e44ec6e9ef54777c17"), looks := true }, kinds := [], alts := [], laidByText := true, laidKinds := [.data, .handle], laidTests := true, laidLooks := .later }
def CurveTellsCardSaid : Prop := Claim7.holds Tryd.pinned (.plain (OpenSpec.ofChange curveTellsSpec)) curveTellsCard

/-- THE TIED CARD OF 'stonelaw1.BytesTell'. -/
def bytesTellCard : Claim7 := { stood := { row := bytesTellRow, standIns := [], harness := (true, "25a11375b001c8fdcefd23ab6d35d71f076e34bc87dce7e44ec6e9ef54777c17"), looks := true }, kinds := [], alts := [], laidByText := true, laidKinds := [.data, .handle], laidTests := true, laidLooks := .later }
def BytesTellCardSaid : Prop := Claim7.holds Tryd.pinned (.plain (OpenSpec.ofChange bytesTellSpec)) bytesTellCard

/-- THE TIED CARD OF 'stonelaw2.GroupSeals'. -/
def groupSealsCard : Claim7 := { stood := { row := groupSealsRow, standIns := [], harness := (true, "25a11375b001c8fdcefd23ab6d35d71f076e34bc87dce7e44ec6e9ef54777c17"), looks := true }, kinds := [], alts := [], laidByText := true, laidKinds := [.data], laidTests := true, laidLooks := .later }
def GroupSealsCardSaid : Prop := Claim7.holds Tryd.pinned (.plain (OpenSpec.ofChange groupSealsSpec)) groupSealsCard

/-- THE TIED CARD OF 'stonelaw3.RingHolds'. -/
def ringHoldsCard : Claim7 := { stood := { row := ringHoldsRow, standIns := [], harness := (true, "25a11375b001c8fdcefd23ab6d35d71f076e34bc87dce7e44ec6e9ef54777c17"), looks := true }, kinds := [], alts := [], laidByText := true, laidKinds := [.data], laidTests := true, laidLooks := .later }
def RingHoldsCardSaid : Prop := Claim7.holds Tryd.pinned (.plain (OpenSpec.ofChange ringHoldsSpec)) ringHoldsCard

/-- THE TIED CARD OF 'stonetop.TopMixed'. -/
def topMixedCard : Claim7 := { stood := { row := topMixedRow, standIns := [], harness := (true, "25a11375b001c8fdcefd23ab6d35d71f076e34bc87dce7e44ec6e9ef54777c17"), looks := true }, kinds := [], alts := [], laidByText := true, laidKinds := [.data], laidTests := true, laidLooks := .later }
def TopMixedCardSaid : Prop := Claim7.holds Tryd.pinned (.plain (OpenSpec.ofChange topMixedSpec)) topMixedCard

/-- THE TIED CARD OF 'stonelaw2.QuorumSeals'. -/
def quorumSealsCard : Claim7 := { stood := { row := quorumSealsRow, standIns := [], harness := (true, "25a11375b001c8fdcefd23ab6d35d71f076e34bc87dce7e44ec6e9ef54777c17"), looks := true }, kinds := [], alts := [], laidByText := true, laidKinds := [.data], laidTests := true, laidLooks := .later }
def QuorumSealsCardSaid : Prop := Claim7.holds Tryd.pinned (.plain (OpenSpec.ofChange quorumSealsSpec)) quorumSealsCard

/-- THE SECOND FORM's CARD OF 'stonetop.TopKeys'. -/
def topKeysUptoCard : Claim7 := { stood := { row := topKeysUptoRow, standIns := [], harness := (true, "25a11375b001c8fdcefd23ab6d35d71f076e34bc87dce7e44ec6e9ef54777c17"), looks := true }, kinds := [], alts := [], laidByText := true, laidKinds := [.data, .data], laidTests := true, laidLooks := .later }
def TopKeysUptoCardSaid : Prop := Claim7.holds Tryd.pinned (.plain (OpenSpec.upto topKeysSpec)) topKeysUptoCard

/-- THE SECOND FORM's CARD OF 'stonelaw4.PairFar'. -/
def pairFarUptoCard : Claim7 := { stood := { row := pairFarUptoRow, standIns := [], harness := (true, "25a11375b001c8fdcefd23ab6d35d71f076e34bc87dce7e44ec6e9ef54777c17"), looks := true }, kinds := [], alts := [], laidByText := true, laidKinds := [.data, .data, .handle], laidTests := true, laidLooks := .later }
def PairFarUptoCardSaid : Prop := Claim7.holds Tryd.pinned (.plain (OpenSpec.upto pairFarSpec)) pairFarUptoCard

/-- THE SECOND FORM's CARD OF 'stonelaw2.EqualHolds'. -/
def equalHoldsUptoCard : Claim7 := { stood := { row := equalHoldsUptoRow, standIns := [], harness := (true, "25a11375b001c8fdcefd23ab6d35d71f076e34bc87dce7e44ec6e9ef54777c17"), looks := true }, kinds := [], alts := [], laidByText := true, laidKinds := [.data], laidTests := true, laidLooks := .later }
def EqualHoldsUptoCardSaid : Prop := Claim7.holds Tryd.pinned (.plain (OpenSpec.upto equalHoldsSpec)) equalHoldsUptoCard

/-- THE SECOND FORM's CARD OF 'stonelaw4.EqualFalse'. -/
def equalFalseUptoCard : Claim7 := { stood := { row := equalFalseUptoRow, standIns := [], harness := (true, "25a11375b001c8fdcefd23ab6d35d71f076e34bc87dce7e44ec6e9ef54777c17"), looks := true }, kinds := [], alts := [], laidByText := true, laidKinds := [.data], laidTests := true, laidLooks := .later }
def EqualFalseUptoCardSaid : Prop := Claim7.holds Tryd.pinned (.plain (OpenSpec.upto equalFalseSpec)) equalFalseUptoCard

/-- THE SECOND FORM's CARD OF 'stonelaw3.AdaptGives'. -/
def adaptGivesUptoCard : Claim7 := { stood := { row := adaptGivesUptoRow, standIns := [], harness := (true, "25a11375b001c8fdcefd23ab6d35d71f076e34bc87dce7e44ec6e9ef54777c17"), looks := true }, kinds := [], alts := [], laidByText := true, laidKinds := [.data], laidTests := true, laidLooks := .later }
def AdaptGivesUptoCardSaid : Prop := Claim7.holds Tryd.pinned (.plain (OpenSpec.upto adaptGivesSpec)) adaptGivesUptoCard

/-- THE SECOND FORM's CARD OF 'stonelaw4.AdaptNone'. -/
def adaptNoneUptoCard : Claim7 := { stood := { row := adaptNoneUptoRow, standIns := [], harness := (true, "25a11375b001c8fdcefd23ab6d35d71f076e34bc87dce7e44ec6e9ef54777c17"), looks := true }, kinds := [], alts := [], laidByText := true, laidKinds := [.data, .handle], laidTests := true, laidLooks := .later }
def AdaptNoneUptoCardSaid : Prop := Claim7.holds Tryd.pinned (.plain (OpenSpec.upto adaptNoneSpec)) adaptNoneUptoCard

/-- THE SECOND FORM's CARD OF 'stonelaw3.BatchHolds'. -/
def batchHoldsUptoCard : Claim7 := { stood := { row := batchHoldsUptoRow, standIns := [], harness := (true, "25a11375b001c8fdcefd23ab6d35d71f076e34bc87dce7e44ec6e9ef54777c17"), looks := true }, kinds := [], alts := [], laidByText := true, laidKinds := [.data], laidTests := true, laidLooks := .later }
def BatchHoldsUptoCardSaid : Prop := Claim7.holds Tryd.pinned (.plain (OpenSpec.upto batchHoldsSpec)) batchHoldsUptoCard

/-- THE SECOND FORM's CARD OF 'stonelaw4.GroupOne'. -/
def groupOneUptoCard : Claim7 := { stood := { row := groupOneUptoRow, standIns := [], harness := (true, "25a11375b001c8fdcefd23ab6d35d71f076e34bc87dce7e44ec6e9ef54777c17"), looks := true }, kinds := [], alts := [], laidByText := true, laidKinds := [.data], laidTests := true, laidLooks := .later }
def GroupOneUptoCardSaid : Prop := Claim7.holds Tryd.pinned (.plain (OpenSpec.upto groupOneSpec)) groupOneUptoCard

/-- THE SECOND FORM's CARD OF 'stonelaw4.ShortOne'. -/
def shortOneUptoCard : Claim7 := { stood := { row := shortOneUptoRow, standIns := [], harness := (true, "25a11375b001c8fdcefd23ab6d35d71f076e34bc87dce7e44ec6e9ef54777c17"), looks := true }, kinds := [], alts := [], laidByText := true, laidKinds := [.data, .data], laidTests := true, laidLooks := .later }
def ShortOneUptoCardSaid : Prop := Claim7.holds Tryd.pinned (.plain (OpenSpec.upto shortOneSpec)) shortOneUptoCard

/-- THE SECOND FORM's CARD OF 'stonelaw2.ShortJoins'. -/
def shortJoinsUptoCard : Claim7 := { stood := { row := shortJoinsUptoRow, standIns := [], harness := (true, "25a11375b001c8fdcefd23ab6d35d71f076e34bc87dce7e44ec6e9ef54777c17"), looks := true }, kinds := [], alts := [], laidByText := true, laidKinds := [.data, .data], laidTests := true, laidLooks := .later }
def ShortJoinsUptoCardSaid : Prop := Claim7.holds Tryd.pinned (.plain (OpenSpec.upto shortJoinsSpec)) shortJoinsUptoCard

/-- THE SECOND FORM's CARD OF 'stonelaw4.QuorumAlone'. -/
def quorumAloneUptoCard : Claim7 := { stood := { row := quorumAloneUptoRow, standIns := [], harness := (true, "25a11375b001c8fdcefd23ab6d35d71f076e34bc87dce7e44ec6e9ef54777c17"), looks := true }, kinds := [], alts := [], laidByText := true, laidKinds := [.data], laidTests := true, laidLooks := .later }
def QuorumAloneUptoCardSaid : Prop := Claim7.holds Tryd.pinned (.plain (OpenSpec.upto quorumAloneSpec)) quorumAloneUptoCard

/-- THE SECOND FORM's CARD OF 'stonelaw1.PrimeTells'. -/
def primeTellsUptoCard : Claim7 := { stood := { row := primeTellsUptoRow, standIns := [], harness := (true, "25a11375b001c8fdcefd23ab6d35d71f076e34bc87dce7e44ec6e9ef54777c17"), looks := true }, kinds := [], alts := [], laidByText := true, laidKinds := [.handle], laidTests := true, laidLooks := .later }
def PrimeTellsUptoCardSaid : Prop := Claim7.holds Tryd.pinned (.plain (OpenSpec.upto primeTellsSpec)) primeTellsUptoCard

/-- THE SECOND FORM's CARD OF 'stonelaw1.TwinTells'. -/
def twinTellsUptoCard : Claim7 := { stood := { row := twinTellsUptoRow, standIns := [], harness := (true, "25a11375b001c8fdcefd23ab6d35d71f076e34bc87dce7e44ec6e9ef54777c17"), looks := true }, kinds := [], alts := [], laidByText := true, laidKinds := [.handle], laidTests := true, laidLooks := .later }
def TwinTellsUptoCardSaid : Prop := Claim7.holds Tryd.pinned (.plain (OpenSpec.upto twinTellsSpec)) twinTellsUptoCard

/-- THE SECOND FORM's CARD OF 'stonelaw4.CurveLifts'. -/
def curveLiftsUptoCard : Claim7 := { stood := { row := curveLiftsUptoRow, standIns := [], harness := (true, "25a11375b001c8fdcefd23ab6d35d71f076e34bc87dce7e44ec6e9ef54777c17"), looks := true }, kinds := [], alts := [], laidByText := true, laidKinds := [.data, .handle], laidTests := true, laidLooks := .later }
def CurveLiftsUptoCardSaid : Prop := Claim7.holds Tryd.pinned (.plain (OpenSpec.upto curveLiftsSpec)) curveLiftsUptoCard

/-- THE SECOND FORM's CARD OF 'stonelaw1.HashTells'. -/
def hashTellsUptoCard : Claim7 := { stood := { row := hashTellsUptoRow, standIns := [], harness := (true, "25a11375b001c8fdcefd23ab6d35d71f076e34bc87dce7e44ec6e9ef54777c17"), looks := true }, kinds := [], alts := [], laidByText := true, laidKinds := [.data], laidTests := true, laidLooks := .later }
def HashTellsUptoCardSaid : Prop := Claim7.holds Tryd.pinned (.plain (OpenSpec.upto hashTellsSpec)) hashTellsUptoCard

/-- THE SECOND FORM's CARD OF 'stonelaw1.CurveTells'. -/
def curveTellsUptoCard : Claim7 := { stood := { row := curveTellsUptoRow, standIns := [], harness := (true, "25a11375b001c8fdcefd23ab6d35d71f076e34bc87dce7e44ec6e9ef54777c17"), looks := true }, kinds := [], alts := [], laidByText := true, laidKinds := [.data, .handle], laidTests := true, laidLooks := .later }
def CurveTellsUptoCardSaid : Prop := Claim7.holds Tryd.pinned (.plain (OpenSpec.upto curveTellsSpec)) curveTellsUptoCard

/-- THE SECOND FORM's CARD OF 'stonelaw1.BytesTell'. -/
def bytesTellUptoCard : Claim7 := { stood := { row := bytesTellUptoRow, standIns := [], harness := (true, "25a11375b001c8fdcefd23ab6d35d71f076e34bc87dce7e44ec6e9ef54777c17"), looks := true }, kinds := [], alts := [], laidByText := true, laidKinds := [.data, .handle], laidTests := true, laidLooks := .later }
def BytesTellUptoCardSaid : Prop := Claim7.holds Tryd.pinned (.plain (OpenSpec.upto bytesTellSpec)) bytesTellUptoCard

/-- THE SECOND FORM's CARD OF 'stonelaw2.GroupSeals'. -/
def groupSealsUptoCard : Claim7 := { stood := { row := groupSealsUptoRow, standIns := [], harness := (true, "25a11375b001c8fdcefd23ab6d35d71f076e34bc87dce7e44ec6e9ef54777c17"), looks := true }, kinds := [], alts := [], laidByText := true, laidKinds := [.data], laidTests := true, laidLooks := .later }
def GroupSealsUptoCardSaid : Prop := Claim7.holds Tryd.pinned (.plain (OpenSpec.upto groupSealsSpec)) groupSealsUptoCard

/-- THE SECOND FORM's CARD OF 'stonelaw3.RingHolds'. -/
def ringHoldsUptoCard : Claim7 := { stood := { row := ringHoldsUptoRow, standIns := [], harness := (true, "25a11375b001c8fdcefd23ab6d35d71f076e34bc87dce7e44ec6e9ef54777c17"), looks := true }, kinds := [], alts := [], laidByText := true, laidKinds := [.data], laidTests := true, laidLooks := .later }
def RingHoldsUptoCardSaid : Prop := Claim7.holds Tryd.pinned (.plain (OpenSpec.upto ringHoldsSpec)) ringHoldsUptoCard

/-- THE SECOND FORM's CARD OF 'stonetop.TopMixed'. -/
def topMixedUptoCard : Claim7 := { stood := { row := topMixedUptoRow, standIns := [], harness := (true, "25a11375b001c8fdcefd23ab6d35d71f076e34bc87dce7e44ec6e9ef54777c17"), looks := true }, kinds := [], alts := [], laidByText := true, laidKinds := [.data], laidTests := true, laidLooks := .later }
def TopMixedUptoCardSaid : Prop := Claim7.holds Tryd.pinned (.plain (OpenSpec.upto topMixedSpec)) topMixedUptoCard

/-- THE SECOND FORM's CARD OF 'stonelaw2.QuorumSeals'. -/
def quorumSealsUptoCard : Claim7 := { stood := { row := quorumSealsUptoRow, standIns := [], harness := (true, "25a11375b001c8fdcefd23ab6d35d71f076e34bc87dce7e44ec6e9ef54777c17"), looks := true }, kinds := [], alts := [], laidByText := true, laidKinds := [.data], laidTests := true, laidLooks := .later }
def QuorumSealsUptoCardSaid : Prop := Claim7.holds Tryd.pinned (.plain (OpenSpec.upto quorumSealsSpec)) quorumSealsUptoCard
end Rows
end Go.Proofs.YtijemkecjohagaaDoor
