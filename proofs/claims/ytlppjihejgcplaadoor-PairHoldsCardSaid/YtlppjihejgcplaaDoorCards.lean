/-
  DERIVED. GIVEN WITH THE SEED: THE CARDS: each row of YtlppjihejgcplaaDoorRows.lean that lists a variable, with what it lists TIED to the program's text (the seventh form; the later family's looks); each row that meets fmt, with fmt's text TOLD by the authors' own Lean function (tested against real Go, not proved from fmt's source: count such statements apart). THE CARD IS WHAT COUNTS. Prove the row's statement (the work); the ties are given (YtlppjihejgcplaaDoorTie.lean); close each card by the builder's one call (the guide's Derived/Test/ToyasCard.lean, 'card_holds'). Laid BY PROGRAM, IN A SANDBOX (cutbox-door.mjs). By AI agents, Wed Nov 11 2026. No macro, syntax, notation, axiom, sorry.
-/
import Derived.Test.YtlppjihejgcplaaDoorRows
import GoSem.ClaimSeven
namespace Go.Proofs.YtlppjihejgcplaaDoor
namespace Rows

/-- THE TIED CARD OF 'stonelaw4.BytesLong'. -/
def bytesLongCard : Claim7 := { stood := { row := bytesLongRow, standIns := [], harness := (true, "c9f6577a52e7c7c655bba6dd44fe02d48585382097822f7fa3377ab3e848b879"), looks := true }, kinds := [], alts := [], laidByText := true, laidKinds := [.data], laidTests := true, laidLooks := .later }
def BytesLongCardSaid : Prop := Claim7.holds Tryd.pinned (.plain (OpenSpec.ofChange bytesLongSpec)) bytesLongCard

/-- THE TIED CARD OF 'stonelaw1.BytesBack'. -/
def bytesBackCard : Claim7 := { stood := { row := bytesBackRow, standIns := [], harness := (true, "c9f6577a52e7c7c655bba6dd44fe02d48585382097822f7fa3377ab3e848b879"), looks := true }, kinds := [], alts := [], laidByText := true, laidKinds := [.data], laidTests := true, laidLooks := .later }
def BytesBackCardSaid : Prop := Claim7.holds Tryd.pinned (.plain (OpenSpec.ofChange bytesBackSpec)) bytesBackCard

/-- THE TIED CARD OF 'stonelaw1.HashTells'. -/
def hashTellsCard : Claim7 := { stood := { row := hashTellsRow, standIns := [], harness := (true, "c9f6577a52e7c7c655bba6dd44fe02d48585382097822f7fa3377ab3e848b879"), looks := true }, kinds := [], alts := [], laidByText := true, laidKinds := [.data], laidTests := true, laidLooks := .later }
def HashTellsCardSaid : Prop := Claim7.holds Tryd.pinned (.plain (OpenSpec.ofChange hashTellsSpec)) hashTellsCard

/-- THE TIED CARD OF 'stonelaw4.SealKeys'. -/
def sealKeysCard : Claim7 := { stood := { row := sealKeysRow, standIns := [], harness := (true, "c9f6577a52e7c7c655bba6dd44fe02d48585382097822f7fa3377ab3e848b879"), looks := true }, kinds := [], alts := [], laidByText := true, laidKinds := [.data], laidTests := true, laidLooks := .later }
def SealKeysCardSaid : Prop := Claim7.holds Tryd.pinned (.plain (OpenSpec.ofChange sealKeysSpec)) sealKeysCard

/-- THE TIED CARD OF 'stonelaw1.HashCounts'. -/
def hashCountsCard : Claim7 := { stood := { row := hashCountsRow, standIns := [], harness := (true, "c9f6577a52e7c7c655bba6dd44fe02d48585382097822f7fa3377ab3e848b879"), looks := true }, kinds := [], alts := [], laidByText := true, laidKinds := [.data], laidTests := true, laidLooks := .later }
def HashCountsCardSaid : Prop := Claim7.holds Tryd.pinned (.plain (OpenSpec.ofChange hashCountsSpec)) hashCountsCard

/-- THE TIED CARD OF 'stonelaw1.TimesHold'. -/
def timesHoldCard : Claim7 := { stood := { row := timesHoldRow, standIns := [], harness := (true, "c9f6577a52e7c7c655bba6dd44fe02d48585382097822f7fa3377ab3e848b879"), looks := true }, kinds := [], alts := [], laidByText := true, laidKinds := [.data], laidTests := true, laidLooks := .later }
def TimesHoldCardSaid : Prop := Claim7.holds Tryd.pinned (.plain (OpenSpec.ofChange timesHoldSpec)) timesHoldCard

/-- THE TIED CARD OF 'stonetop.TopTriple'. -/
def topTripleCard : Claim7 := { stood := { row := topTripleRow, standIns := [], harness := (true, "c9f6577a52e7c7c655bba6dd44fe02d48585382097822f7fa3377ab3e848b879"), looks := true }, kinds := [], alts := [], laidByText := true, laidKinds := [.data, .data], laidTests := true, laidLooks := .later }
def TopTripleCardSaid : Prop := Claim7.holds Tryd.pinned (.plain (OpenSpec.ofChange topTripleSpec)) topTripleCard

/-- THE TIED CARD OF 'stonelaw4.HideNone'. -/
def hideNoneCard : Claim7 := { stood := { row := hideNoneRow, standIns := [], harness := (true, "c9f6577a52e7c7c655bba6dd44fe02d48585382097822f7fa3377ab3e848b879"), looks := true }, kinds := [], alts := [], laidByText := true, laidKinds := [.data], laidTests := true, laidLooks := .later }
def HideNoneCardSaid : Prop := Claim7.holds Tryd.pinned (.plain (OpenSpec.ofChange hideNoneSpec)) hideNoneCard

/-- THE TIED CARD OF 'stonelaw2.HideAny'. -/
def hideAnyCard : Claim7 := { stood := { row := hideAnyRow, standIns := [], harness := (true, "c9f6577a52e7c7c655bba6dd44fe02d48585382097822f7fa3377ab3e848b879"), looks := true }, kinds := [], alts := [], laidByText := true, laidKinds := [.data], laidTests := true, laidLooks := .later }
def HideAnyCardSaid : Prop := Claim7.holds Tryd.pinned (.plain (OpenSpec.ofChange hideAnySpec)) hideAnyCard

/-- THE TIED CARD OF 'stonelaw2.SealHolds'. -/
def sealHoldsCard : Claim7 := { stood := { row := sealHoldsRow, standIns := [], harness := (true, "c9f6577a52e7c7c655bba6dd44fe02d48585382097822f7fa3377ab3e848b879"), looks := true }, kinds := [], alts := [], laidByText := true, laidKinds := [.data], laidTests := true, laidLooks := .later }
def SealHoldsCardSaid : Prop := Claim7.holds Tryd.pinned (.plain (OpenSpec.ofChange sealHoldsSpec)) sealHoldsCard

/-- THE TIED CARD OF 'stonelaw4.QuorumAlone'. -/
def quorumAloneCard : Claim7 := { stood := { row := quorumAloneRow, standIns := [], harness := (true, "c9f6577a52e7c7c655bba6dd44fe02d48585382097822f7fa3377ab3e848b879"), looks := true }, kinds := [], alts := [], laidByText := true, laidKinds := [.data], laidTests := true, laidLooks := .later }
def QuorumAloneCardSaid : Prop := Claim7.holds Tryd.pinned (.plain (OpenSpec.ofChange quorumAloneSpec)) quorumAloneCard

/-- THE TIED CARD OF 'stonelaw1.PrimeTells'. -/
def primeTellsCard : Claim7 := { stood := { row := primeTellsRow, standIns := [], harness := (true, "c9f6577a52e7c7c655bba6dd44fe02d48585382097822f7fa3377ab3e848b879"), looks := true }, kinds := [], alts := [], laidByText := true, laidKinds := [.handle], laidTests := true, laidLooks := .later }
def PrimeTellsCardSaid : Prop := Claim7.holds Tryd.pinned (.plain (OpenSpec.ofChange primeTellsSpec)) primeTellsCard

/-- THE TIED CARD OF 'stonelaw4.CurveLifts'. -/
def curveLiftsCard : Claim7 := { stood := { row := curveLiftsRow, standIns := [], harness := (true, "c9f6577a52e7c7c655bba6dd44fe02d48585382097822f7fa3377ab3e848b879"), looks := true }, kinds := [], alts := [], laidByText := true, laidKinds := [.data, .handle], laidTests := true, laidLooks := .later }
def CurveLiftsCardSaid : Prop := Claim7.holds Tryd.pinned (.plain (OpenSpec.ofChange curveLiftsSpec)) curveLiftsCard

/-- THE TIED CARD OF 'stonelaw1.TwinTells'. -/
def twinTellsCard : Claim7 := { stood := { row := twinTellsRow, standIns := [], harness := (true, "c9f6577a52e7c7c655bba6dd44fe02d48585382097822f7fa3377ab3e848b879"), looks := true }, kinds := [], alts := [], laidByText := true, laidKinds := [.handle], laidTests := true, laidLooks := .later }
def TwinTellsCardSaid : Prop := Claim7.holds Tryd.pinned (.plain (OpenSpec.ofChange twinTellsSpec)) twinTellsCard

/-- THE TIED CARD OF 'stonetop.TopKeys'. -/
def topKeysCard : Claim7 := { stood := { row := topKeysRow, standIns := [], harness := (true, "c9f6577a52e7c7c655bba6dd44fe02d48585382097822f7fa3377ab3e848b879"), looks := true }, kinds := [], alts := [], laidByText := true, laidKinds := [.data, .data], laidTests := true, laidLooks := .later }
def TopKeysCardSaid : Prop := Claim7.holds Tryd.pinned (.plain (OpenSpec.ofChange topKeysSpec)) topKeysCard

/-- THE TIED CARD OF 'stonelaw2.EqualHolds'. -/
def equalHoldsCard : Claim7 := { stood := { row := equalHoldsRow, standIns := [], harness := (true, "c9f6577a52e7c7c655bba6dd44fe02d48585382097822f7fa3377ab3e848b879"), looks := true }, kinds := [], alts := [], laidByText := true, laidKinds := [.data], laidTests := true, laidLooks := .later }
def EqualHoldsCardSaid : Prop := Claim7.holds Tryd.pinned (.plain (OpenSpec.ofChange equalHoldsSpec)) equalHoldsCard

/-- THE TIED CARD OF 'stonelaw4.EqualFalse'. -/
def equalFalseCard : Claim7 := { stood := { row := equalFalseRow, standIns := [], harness := (true, "c9f6577a52e7c7c655bba6dd44fe02d48585382097822f7fa3377ab3e848b879"), looks := true }, kinds := [], alts := [], laidByText := true, laidKinds := [.data], laidTests := true, laidLooks := .later }
def EqualFalseCardSaid : Prop := Claim7.holds Tryd.pinned (.plain (OpenSpec.ofChange equalFalseSpec)) equalFalseCard

/-- THE TIED CARD OF 'stonelaw1.PairHolds'. -/
def pairHoldsCard : Claim7 := { stood := { row := pairHoldsRow, standIns := [], harness := (true, "c9f6577a52e7c7c655bba6dd44fe02d48585382097822f7fa3377ab3e848b879"), looks := true }, kinds := [], alts := [], laidByText := true, laidKinds := [.data, .data], laidTests := true, laidLooks := .later }
def PairHoldsCardSaid : Prop := Claim7.holds Tryd.pinned (.plain (OpenSpec.ofChange pairHoldsSpec)) pairHoldsCard

/-- THE SECOND FORM's CARD OF 'stonelaw4.BytesLong'. -/
def bytesLongUptoCard : Claim7 := { stood := { row := bytesLongUptoRow, standIns := [], harness := (true, "c9f6577a52e7c7c655bba6dd44fe02d48585382097822f7fa3377ab3e848b879"), looks := true }, kinds := [], alts := [], laidByText := true, laidKinds := [.data], laidTests := true, laidLooks := .later }
def BytesLongUptoCardSaid : Prop := Claim7.holds Tryd.pinned (.plain (OpenSpec.upto bytesLongSpec)) bytesLongUptoCard

/-- THE SECOND FORM's CARD OF 'stonelaw1.BytesBack'. -/
def bytesBackUptoCard : Claim7 := { stood := { row := bytesBackUptoRow, standIns := [], harness := (true, "c9f6577a52e7c7c655bba6dd44fe02d48585382097822f7fa3377ab3e848b879"), looks := true }, kinds := [], alts := [], laidByText := true, laidKinds := [.data], laidTests := true, laidLooks := .later }
def BytesBackUptoCardSaid : Prop := Claim7.holds Tryd.pinned (.plain (OpenSpec.upto bytesBackSpec)) bytesBackUptoCard

/-- THE SECOND FORM's CARD OF 'stonelaw1.HashTells'. -/
def hashTellsUptoCard : Claim7 := { stood := { row := hashTellsUptoRow, standIns := [], harness := (true, "c9f6577a52e7c7c655bba6dd44fe02d48585382097822f7fa3377ab3e848b879"), looks := true }, kinds := [], alts := [], laidByText := true, laidKinds := [.data], laidTests := true, laidLooks := .later }
def HashTellsUptoCardSaid : Prop := Claim7.holds Tryd.pinned (.plain (OpenSpec.upto hashTellsSpec)) hashTellsUptoCard

/-- THE SECOND FORM's CARD OF 'stonelaw4.SealKeys'. -/
def sealKeysUptoCard : Claim7 := { stood := { row := sealKeysUptoRow, standIns := [], harness := (true, "c9f6577a52e7c7c655bba6dd44fe02d48585382097822f7fa3377ab3e848b879"), looks := true }, kinds := [], alts := [], laidByText := true, laidKinds := [.data], laidTests := true, laidLooks := .later }
def SealKeysUptoCardSaid : Prop := Claim7.holds Tryd.pinned (.plain (OpenSpec.upto sealKeysSpec)) sealKeysUptoCard

/-- THE SECOND FORM's CARD OF 'stonelaw1.HashCounts'. -/
def hashCountsUptoCard : Claim7 := { stood := { row := hashCountsUptoRow, standIns := [], harness := (true, "c9f6577a52e7c7c655bba6dd44fe02d48585382097822f7fa3377ab3e848b879"), looks := true }, kinds := [], alts := [], laidByText := true, laidKinds := [.data], laidTests := true, laidLooks := .later }
def HashCountsUptoCardSaid : Prop := Claim7.holds Tryd.pinned (.plain (OpenSpec.upto hashCountsSpec)) hashCountsUptoCard

/-- THE SECOND FORM's CARD OF 'stonelaw1.TimesHold'. -/
def timesHoldUptoCard : Claim7 := { stood := { row := timesHoldUptoRow, standIns := [], harness := (true, "c9f6577a52e7c7c655bba6dd44fe02d48585382097822f7fa3377ab3e848b879"), looks := true }, kinds := [], alts := [], laidByText := true, laidKinds := [.data], laidTests := true, laidLooks := .later }
def TimesHoldUptoCardSaid : Prop := Claim7.holds Tryd.pinned (.plain (OpenSpec.upto timesHoldSpec)) timesHoldUptoCard

/-- THE SECOND FORM's CARD OF 'stonetop.TopTriple'. -/
def topTripleUptoCard : Claim7 := { stood := { row := topTripleUptoRow, standIns := [], harness := (true, "c9f6577a52e7c7c655bba6dd44fe02d48585382097822f7fa3377ab3e848b879"), looks := true }, kinds := [], alts := [], laidByText := true, laidKinds := [.data, .data], laidTests := true, laidLooks := .later }
def TopTripleUptoCardSaid : Prop := Claim7.holds Tryd.pinned (.plain (OpenSpec.upto topTripleSpec)) topTripleUptoCard

/-- THE SECOND FORM's CARD OF 'stonelaw4.HideNone'. -/
def hideNoneUptoCard : Claim7 := { stood := { row := hideNoneUptoRow, standIns := [], harness := (true, "c9f6577a52e7c7c655bba6dd44fe02d48585382097822f7fa3377ab3e848b879"), looks := true }, kinds := [], alts := [], laidByText := true, laidKinds := [.data], laidTests := true, laidLooks := .later }
def HideNoneUptoCardSaid : Prop := Claim7.holds Tryd.pinned (.plain (OpenSpec.upto hideNoneSpec)) hideNoneUptoCard

/-- THE SECOND FORM's CARD OF 'stonelaw2.HideAny'. -/
def hideAnyUptoCard : Claim7 := { stood := { row := hideAnyUptoRow, standIns := [], harness := (true, "c9f6577a52e7c7c655bba6dd44fe02d48585382097822f7fa3377ab3e848b879"), looks := true }, kinds := [], alts := [], laidByText := true, laidKinds := [.data], laidTests := true, laidLooks := .later }
def HideAnyUptoCardSaid : Prop := Claim7.holds Tryd.pinned (.plain (OpenSpec.upto hideAnySpec)) hideAnyUptoCard

/-- THE SECOND FORM's CARD OF 'stonelaw2.SealHolds'. -/
def sealHoldsUptoCard : Claim7 := { stood := { row := sealHoldsUptoRow, standIns := [], harness := (true, "c9f6577a52e7c7c655bba6dd44fe02d48585382097822f7fa3377ab3e848b879"), looks := true }, kinds := [], alts := [], laidByText := true, laidKinds := [.data], laidTests := true, laidLooks := .later }
def SealHoldsUptoCardSaid : Prop := Claim7.holds Tryd.pinned (.plain (OpenSpec.upto sealHoldsSpec)) sealHoldsUptoCard

/-- THE SECOND FORM's CARD OF 'stonelaw4.QuorumAlone'. -/
def quorumAloneUptoCard : Claim7 := { stood := { row := quorumAloneUptoRow, standIns := [], harness := (true, "c9f6577a52e7c7c655bba6dd44fe02d48585382097822f7fa3377ab3e848b879"), looks := true }, kinds := [], alts := [], laidByText := true, laidKinds := [.data], laidTests := true, laidLooks := .later }
def QuorumAloneUptoCardSaid : Prop := Claim7.holds Tryd.pinned (.plain (OpenSpec.upto quorumAloneSpec)) quorumAloneUptoCard

/-- THE SECOND FORM's CARD OF 'stonelaw1.PrimeTells'. -/
def primeTellsUptoCard : Claim7 := { stood := { row := primeTellsUptoRow, standIns := [], harness := (true, "c9f6577a52e7c7c655bba6dd44fe02d48585382097822f7fa3377ab3e848b879"), looks := true }, kinds := [], alts := [], laidByText := true, laidKinds := [.handle], laidTests := true, laidLooks := .later }
def PrimeTellsUptoCardSaid : Prop := Claim7.holds Tryd.pinned (.plain (OpenSpec.upto primeTellsSpec)) primeTellsUptoCard

/-- THE SECOND FORM's CARD OF 'stonelaw4.CurveLifts'. -/
def curveLiftsUptoCard : Claim7 := { stood := { row := curveLiftsUptoRow, standIns := [], harness := (true, "c9f6577a52e7c7c655bba6dd44fe02d48585382097822f7fa3377ab3e848b879"), looks := true }, kinds := [], alts := [], laidByText := true, laidKinds := [.data, .handle], laidTests := true, laidLooks := .later }
def CurveLiftsUptoCardSaid : Prop := Claim7.holds Tryd.pinned (.plain (OpenSpec.upto curveLiftsSpec)) curveLiftsUptoCard

/-- THE SECOND FORM's CARD OF 'stonelaw1.TwinTells'. -/
def twinTellsUptoCard : Claim7 := { stood := { row := twinTellsUptoRow, standIns := [], harness := (true, "c9f6577a52e7c7c655bba6dd44fe02d48585382097822f7fa3377ab3e848b879"), looks := true }, kinds := [], alts := [], laidByText := true, laidKinds := [.handle], laidTests := true, laidLooks := .later }
def TwinTellsUptoCardSaid : Prop := Claim7.holds Tryd.pinned (.plain (OpenSpec.upto twinTellsSpec)) twinTellsUptoCard

/-- THE SECOND FORM's CARD OF 'stonetop.TopKeys'. -/
def topKeysUptoCard : Claim7 := { stood := { row := topKeysUptoRow, standIns := [], harness := (true, "c9f6577a52e7c7c655bba6dd44fe02d48585382097822f7fa3377ab3e848b879"), looks := true }, kinds := [], alts := [], laidByText := true, laidKinds := [.data, .data], laidTests := true, laidLooks := .later }
def TopKeysUptoCardSaid : Prop := Claim7.holds Tryd.pinned (.plain (OpenSpec.upto topKeysSpec)) topKeysUptoCard

/-- THE SECOND FORM's CARD OF 'stonelaw2.EqualHolds'. -/
def equalHoldsUptoCard : Claim7 := { stood := { row := equalHoldsUptoRow, standIns := [], harness := (true, "c9f6577a52e7c7c655bba6dd44fe02d48585382097822f7fa3377ab3e848b879"), looks := true }, kinds := [], alts := [], laidByText := true, laidKinds := [.data], laidTests := true, laidLooks := .later }
def EqualHoldsUptoCardSaid : Prop := Claim7.holds Tryd.pinned (.plain (OpenSpec.upto equalHoldsSpec)) equalHoldsUptoCard

/-- THE SECOND FORM's CARD OF 'stonelaw4.EqualFalse'. -/
def equalFalseUptoCard : Claim7 := { stood := { row := equalFalseUptoRow, standIns := [], harness := (true, "c9f6577a52e7c7c655bba6dd44fe02d48585382097822f7fa3377ab3e848b879"), looks := true }, kinds := [], alts := [], laidByText := true, laidKinds := [.data], laidTests := true, laidLooks := .later }
def EqualFalseUptoCardSaid : Prop := Claim7.holds Tryd.pinned (.plain (OpenSpec.upto equalFalseSpec)) equalFalseUptoCard

/-- THE SECOND FORM's CARD OF 'stonelaw1.PairHolds'. -/
def pairHoldsUptoCard : Claim7 := { stood := { row := pairHoldsUptoRow, standIns := [], harness := (true, "c9f6577a52e7c7c655bba6dd44fe02d48585382097822f7fa3377ab3e848b879"), looks := true }, kinds := [], alts := [], laidByText := true, laidKinds := [.data, .data], laidTests := true, laidLooks := .later }
def PairHoldsUptoCardSaid : Prop := Claim7.holds Tryd.pinned (.plain (OpenSpec.upto pairHoldsSpec)) pairHoldsUptoCard
end Rows
end Go.Proofs.YtlppjihejgcplaaDoor
