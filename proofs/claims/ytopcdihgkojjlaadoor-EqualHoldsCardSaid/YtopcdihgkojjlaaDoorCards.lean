/-
  DERIVED. GIVEN WITH THE SEED: THE CARDS: each row of YtopcdihgkojjlaaDoorRows.lean that lists a variable, with what it lists TIED to the program's text (the seventh form; the later family's looks); each row that meets fmt, with fmt's text TOLD by the authors' own Lean function (tested against real Go, not proved from fmt's source: count such statements apart). THE CARD IS WHAT COUNTS. Prove the row's statement (the work); the ties are given (YtopcdihgkojjlaaDoorTie.lean); close each card by the builder's one call (the guide's Derived/Test/ToyasCard.lean, 'card_holds'). Laid BY PROGRAM, IN A SANDBOX (cutbox-door.mjs). By AI agents, Wed Nov 11 2026. No macro, syntax, notation, axiom, sorry.
-/
import Derived.Test.YtopcdihgkojjlaaDoorRows
import GoSem.ClaimSeven
namespace Go.Proofs.YtopcdihgkojjlaaDoor
namespace Rows

/-- THE TIED CARD OF 'stonelaw1.TwinTells'. -/
def twinTellsCard : Claim7 := { stood := { row := twinTellsRow, standIns := [], harness := (true, "32fe744af748dcde28962f5faf97cf85692eb597fee56aa250b8ae3699a448c7"), looks := true }, kinds := [], alts := [], laidByText := true, laidKinds := [.handle], laidTests := true, laidLooks := .later }
def TwinTellsCardSaid : Prop := Claim7.holds Tryd.pinned (.plain (OpenSpec.ofChange twinTellsSpec)) twinTellsCard

/-- THE TIED CARD OF 'stonelaw1.TimesTell'. -/
def timesTellCard : Claim7 := { stood := { row := timesTellRow, standIns := [], harness := (true, "32fe744af748dcde28962f5faf97cf85692eb597fee56aa250b8ae3699a448c7"), looks := true }, kinds := [], alts := [], laidByText := true, laidKinds := [.data, .handle], laidTests := true, laidLooks := .later }
def TimesTellCardSaid : Prop := Claim7.holds Tryd.pinned (.plain (OpenSpec.ofChange timesTellSpec)) timesTellCard

/-- THE TIED CARD OF 'stonelaw2.EqualHolds'. -/
def equalHoldsCard : Claim7 := { stood := { row := equalHoldsRow, standIns := [], harness := (true, "32fe744af748dcde28962f5faf97cf85692eb597fee56aa250b8ae3699a448c7"), looks := true }, kinds := [], alts := [], laidByText := true, laidKinds := [.data], laidTests := true, laidLooks := .later }
def EqualHoldsCardSaid : Prop := Claim7.holds Tryd.pinned (.plain (OpenSpec.ofChange equalHoldsSpec)) equalHoldsCard

/-- THE TIED CARD OF 'stonelaw4.EqualFalse'. -/
def equalFalseCard : Claim7 := { stood := { row := equalFalseRow, standIns := [], harness := (true, "32fe744af748dcde28962f5faf97cf85692eb597fee56aa250b8ae3699a448c7"), looks := true }, kinds := [], alts := [], laidByText := true, laidKinds := [.data], laidTests := true, laidLooks := .later }
def EqualFalseCardSaid : Prop := Claim7.holds Tryd.pinned (.plain (OpenSpec.ofChange equalFalseSpec)) equalFalseCard

/-- THE TIED CARD OF 'stonelaw2.HideTells'. -/
def hideTellsCard : Claim7 := { stood := { row := hideTellsRow, standIns := [], harness := (true, "32fe744af748dcde28962f5faf97cf85692eb597fee56aa250b8ae3699a448c7"), looks := true }, kinds := [], alts := [], laidByText := true, laidKinds := [.data, .handle], laidTests := true, laidLooks := .later }
def HideTellsCardSaid : Prop := Claim7.holds Tryd.pinned (.plain (OpenSpec.ofChange hideTellsSpec)) hideTellsCard

/-- THE TIED CARD OF 'stonelaw2.SealTells'. -/
def sealTellsCard : Claim7 := { stood := { row := sealTellsRow, standIns := [], harness := (true, "32fe744af748dcde28962f5faf97cf85692eb597fee56aa250b8ae3699a448c7"), looks := true }, kinds := [], alts := [], laidByText := true, laidKinds := [.data, .handle], laidTests := true, laidLooks := .later }
def SealTellsCardSaid : Prop := Claim7.holds Tryd.pinned (.plain (OpenSpec.ofChange sealTellsSpec)) sealTellsCard

/-- THE TIED CARD OF 'stonelaw2.EqualTells'. -/
def equalTellsCard : Claim7 := { stood := { row := equalTellsRow, standIns := [], harness := (true, "32fe744af748dcde28962f5faf97cf85692eb597fee56aa250b8ae3699a448c7"), looks := true }, kinds := [], alts := [], laidByText := true, laidKinds := [.data, .handle], laidTests := true, laidLooks := .later }
def EqualTellsCardSaid : Prop := Claim7.holds Tryd.pinned (.plain (OpenSpec.ofChange equalTellsSpec)) equalTellsCard

/-- THE TIED CARD OF 'stonelaw3.AdaptTells'. -/
def adaptTellsCard : Claim7 := { stood := { row := adaptTellsRow, standIns := [], harness := (true, "32fe744af748dcde28962f5faf97cf85692eb597fee56aa250b8ae3699a448c7"), looks := true }, kinds := [], alts := [], laidByText := true, laidKinds := [.data, .handle], laidTests := true, laidLooks := .later }
def AdaptTellsCardSaid : Prop := Claim7.holds Tryd.pinned (.plain (OpenSpec.ofChange adaptTellsSpec)) adaptTellsCard

/-- THE TIED CARD OF 'stonelaw1.PairTells'. -/
def pairTellsCard : Claim7 := { stood := { row := pairTellsRow, standIns := [], harness := (true, "32fe744af748dcde28962f5faf97cf85692eb597fee56aa250b8ae3699a448c7"), looks := true }, kinds := [], alts := [], laidByText := true, laidKinds := [.data, .data, .handle], laidTests := true, laidLooks := .later }
def PairTellsCardSaid : Prop := Claim7.holds Tryd.pinned (.plain (OpenSpec.ofChange pairTellsSpec)) pairTellsCard

/-- THE TIED CARD OF 'stonelaw4.GroupOne'. -/
def groupOneCard : Claim7 := { stood := { row := groupOneRow, standIns := [], harness := (true, "32fe744af748dcde28962f5faf97cf85692eb597fee56aa250b8ae3699a448c7"), looks := true }, kinds := [], alts := [], laidByText := true, laidKinds := [.data], laidTests := true, laidLooks := .later }
def GroupOneCardSaid : Prop := Claim7.holds Tryd.pinned (.plain (OpenSpec.ofChange groupOneSpec)) groupOneCard

/-- THE TIED CARD OF 'stonelaw3.BatchHolds'. -/
def batchHoldsCard : Claim7 := { stood := { row := batchHoldsRow, standIns := [], harness := (true, "32fe744af748dcde28962f5faf97cf85692eb597fee56aa250b8ae3699a448c7"), looks := true }, kinds := [], alts := [], laidByText := true, laidKinds := [.data], laidTests := true, laidLooks := .later }
def BatchHoldsCardSaid : Prop := Claim7.holds Tryd.pinned (.plain (OpenSpec.ofChange batchHoldsSpec)) batchHoldsCard

/-- THE TIED CARD OF 'stonelaw2.ShortJoins'. -/
def shortJoinsCard : Claim7 := { stood := { row := shortJoinsRow, standIns := [], harness := (true, "32fe744af748dcde28962f5faf97cf85692eb597fee56aa250b8ae3699a448c7"), looks := true }, kinds := [], alts := [], laidByText := true, laidKinds := [.data, .data], laidTests := true, laidLooks := .later }
def ShortJoinsCardSaid : Prop := Claim7.holds Tryd.pinned (.plain (OpenSpec.ofChange shortJoinsSpec)) shortJoinsCard

/-- THE TIED CARD OF 'stonelaw2.GroupSeals'. -/
def groupSealsCard : Claim7 := { stood := { row := groupSealsRow, standIns := [], harness := (true, "32fe744af748dcde28962f5faf97cf85692eb597fee56aa250b8ae3699a448c7"), looks := true }, kinds := [], alts := [], laidByText := true, laidKinds := [.data], laidTests := true, laidLooks := .later }
def GroupSealsCardSaid : Prop := Claim7.holds Tryd.pinned (.plain (OpenSpec.ofChange groupSealsSpec)) groupSealsCard

/-- THE TIED CARD OF 'stonelaw3.RingHolds'. -/
def ringHoldsCard : Claim7 := { stood := { row := ringHoldsRow, standIns := [], harness := (true, "32fe744af748dcde28962f5faf97cf85692eb597fee56aa250b8ae3699a448c7"), looks := true }, kinds := [], alts := [], laidByText := true, laidKinds := [.data], laidTests := true, laidLooks := .later }
def RingHoldsCardSaid : Prop := Claim7.holds Tryd.pinned (.plain (OpenSpec.ofChange ringHoldsSpec)) ringHoldsCard

/-- THE SECOND FORM's CARD OF 'stonelaw1.TwinTells'. -/
def twinTellsUptoCard : Claim7 := { stood := { row := twinTellsUptoRow, standIns := [], harness := (true, "32fe744af748dcde28962f5faf97cf85692eb597fee56aa250b8ae3699a448c7"), looks := true }, kinds := [], alts := [], laidByText := true, laidKinds := [.handle], laidTests := true, laidLooks := .later }
def TwinTellsUptoCardSaid : Prop := Claim7.holds Tryd.pinned (.plain (OpenSpec.upto twinTellsSpec)) twinTellsUptoCard

/-- THE SECOND FORM's CARD OF 'stonelaw1.TimesTell'. -/
def timesTellUptoCard : Claim7 := { stood := { row := timesTellUptoRow, standIns := [], harness := (true, "32fe744af748dcde28962f5faf97cf85692eb597fee56aa250b8ae3699a448c7"), looks := true }, kinds := [], alts := [], laidByText := true, laidKinds := [.data, .handle], laidTests := true, laidLooks := .later }
def TimesTellUptoCardSaid : Prop := Claim7.holds Tryd.pinned (.plain (OpenSpec.upto timesTellSpec)) timesTellUptoCard

/-- THE SECOND FORM's CARD OF 'stonelaw2.EqualHolds'. -/
def equalHoldsUptoCard : Claim7 := { stood := { row := equalHoldsUptoRow, standIns := [], harness := (true, "32fe744af748dcde28962f5faf97cf85692eb597fee56aa250b8ae3699a448c7"), looks := true }, kinds := [], alts := [], laidByText := true, laidKinds := [.data], laidTests := true, laidLooks := .later }
def EqualHoldsUptoCardSaid : Prop := Claim7.holds Tryd.pinned (.plain (OpenSpec.upto equalHoldsSpec)) equalHoldsUptoCard

/-- THE SECOND FORM's CARD OF 'stonelaw4.EqualFalse'. -/
def equalFalseUptoCard : Claim7 := { stood := { row := equalFalseUptoRow, standIns := [], harness := (true, "32fe744af748dcde28962f5faf97cf85692eb597fee56aa250b8ae3699a448c7"), looks := true }, kinds := [], alts := [], laidByText := true, laidKinds := [.data], laidTests := true, laidLooks := .later }
def EqualFalseUptoCardSaid : Prop := Claim7.holds Tryd.pinned (.plain (OpenSpec.upto equalFalseSpec)) equalFalseUptoCard

/-- THE SECOND FORM's CARD OF 'stonelaw2.HideTells'. -/
def hideTellsUptoCard : Claim7 := { stood := { row := hideTellsUptoRow, standIns := [], harness := (true, "32fe744af748dcde28962f5faf97cf85692eb597fee56aa250b8ae3699a448c7"), looks := true }, kinds := [], alts := [], laidByText := true, laidKinds := [.data, .handle], laidTests := true, laidLooks := .later }
def HideTellsUptoCardSaid : Prop := Claim7.holds Tryd.pinned (.plain (OpenSpec.upto hideTellsSpec)) hideTellsUptoCard

/-- THE SECOND FORM's CARD OF 'stonelaw2.SealTells'. -/
def sealTellsUptoCard : Claim7 := { stood := { row := sealTellsUptoRow, standIns := [], harness := (true, "32fe744af748dcde28962f5faf97cf85692eb597fee56aa250b8ae3699a448c7"), looks := true }, kinds := [], alts := [], laidByText := true, laidKinds := [.data, .handle], laidTests := true, laidLooks := .later }
def SealTellsUptoCardSaid : Prop := Claim7.holds Tryd.pinned (.plain (OpenSpec.upto sealTellsSpec)) sealTellsUptoCard

/-- THE SECOND FORM's CARD OF 'stonelaw2.EqualTells'. -/
def equalTellsUptoCard : Claim7 := { stood := { row := equalTellsUptoRow, standIns := [], harness := (true, "32fe744af748dcde28962f5faf97cf85692eb597fee56aa250b8ae3699a448c7"), looks := true }, kinds := [], alts := [], laidByText := true, laidKinds := [.data, .handle], laidTests := true, laidLooks := .later }
def EqualTellsUptoCardSaid : Prop := Claim7.holds Tryd.pinned (.plain (OpenSpec.upto equalTellsSpec)) equalTellsUptoCard

/-- THE SECOND FORM's CARD OF 'stonelaw3.AdaptTells'. -/
def adaptTellsUptoCard : Claim7 := { stood := { row := adaptTellsUptoRow, standIns := [], harness := (true, "32fe744af748dcde28962f5faf97cf85692eb597fee56aa250b8ae3699a448c7"), looks := true }, kinds := [], alts := [], laidByText := true, laidKinds := [.data, .handle], laidTests := true, laidLooks := .later }
def AdaptTellsUptoCardSaid : Prop := Claim7.holds Tryd.pinned (.plain (OpenSpec.upto adaptTellsSpec)) adaptTellsUptoCard

/-- THE SECOND FORM's CARD OF 'stonelaw1.PairTells'. -/
def pairTellsUptoCard : Claim7 := { stood := { row := pairTellsUptoRow, standIns := [], harness := (true, "32fe744af748dcde28962f5faf97cf85692eb597fee56aa250b8ae3699a448c7"), looks := true }, kinds := [], alts := [], laidByText := true, laidKinds := [.data, .data, .handle], laidTests := true, laidLooks := .later }
def PairTellsUptoCardSaid : Prop := Claim7.holds Tryd.pinned (.plain (OpenSpec.upto pairTellsSpec)) pairTellsUptoCard

/-- THE SECOND FORM's CARD OF 'stonelaw4.GroupOne'. -/
def groupOneUptoCard : Claim7 := { stood := { row := groupOneUptoRow, standIns := [], harness := (true, "32fe744af748dcde28962f5faf97cf85692eb597fee56aa250b8ae3699a448c7"), looks := true }, kinds := [], alts := [], laidByText := true, laidKinds := [.data], laidTests := true, laidLooks := .later }
def GroupOneUptoCardSaid : Prop := Claim7.holds Tryd.pinned (.plain (OpenSpec.upto groupOneSpec)) groupOneUptoCard

/-- THE SECOND FORM's CARD OF 'stonelaw3.BatchHolds'. -/
def batchHoldsUptoCard : Claim7 := { stood := { row := batchHoldsUptoRow, standIns := [], harness := (true, "32fe744af748dcde28962f5faf97cf85692eb597fee56aa250b8ae3699a448c7"), looks := true }, kinds := [], alts := [], laidByText := true, laidKinds := [.data], laidTests := true, laidLooks := .later }
def BatchHoldsUptoCardSaid : Prop := Claim7.holds Tryd.pinned (.plain (OpenSpec.upto batchHoldsSpec)) batchHoldsUptoCard

/-- THE SECOND FORM's CARD OF 'stonelaw2.ShortJoins'. -/
def shortJoinsUptoCard : Claim7 := { stood := { row := shortJoinsUptoRow, standIns := [], harness := (true, "32fe744af748dcde28962f5faf97cf85692eb597fee56aa250b8ae3699a448c7"), looks := true }, kinds := [], alts := [], laidByText := true, laidKinds := [.data, .data], laidTests := true, laidLooks := .later }
def ShortJoinsUptoCardSaid : Prop := Claim7.holds Tryd.pinned (.plain (OpenSpec.upto shortJoinsSpec)) shortJoinsUptoCard

/-- THE SECOND FORM's CARD OF 'stonelaw2.GroupSeals'. -/
def groupSealsUptoCard : Claim7 := { stood := { row := groupSealsUptoRow, standIns := [], harness := (true, "32fe744af748dcde28962f5faf97cf85692eb597fee56aa250b8ae3699a448c7"), looks := true }, kinds := [], alts := [], laidByText := true, laidKinds := [.data], laidTests := true, laidLooks := .later }
def GroupSealsUptoCardSaid : Prop := Claim7.holds Tryd.pinned (.plain (OpenSpec.upto groupSealsSpec)) groupSealsUptoCard

/-- THE SECOND FORM's CARD OF 'stonelaw3.RingHolds'. -/
def ringHoldsUptoCard : Claim7 := { stood := { row := ringHoldsUptoRow, standIns := [], harness := (true, "32fe744af748dcde28962f5faf97cf85692eb597fee56aa250b8ae3699a448c7"), looks := true }, kinds := [], alts := [], laidByText := true, laidKinds := [.data], laidTests := true, laidLooks := .later }
def RingHoldsUptoCardSaid : Prop := Claim7.holds Tryd.pinned (.plain (OpenSpec.upto ringHoldsSpec)) ringHoldsUptoCard
end Rows
end Go.Proofs.YtopcdihgkojjlaaDoor
