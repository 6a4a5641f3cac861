/-
  No cell of these rows narrows 'for every input' (looked for: loops, veiled, ifaces, maps, wideKeys, modest, calm, conditions, laid).
  DERIVED. THE GIVEN ROWS OF THIS SEAT. 8 by the template 'for every input the law returns true; each argument reads behind the call as it read before'; 0 by the template 'total and deterministic' (their statements: YtkcfblogfnpbnaaTotals.lean).
  GIVEN WITH THE SEED: the statements are not yours to turn. If you find one false, say at which input.
  Laid BY PROGRAM, IN A SANDBOX (cutbox-rows.mjs): the forced cells as the released guide's own fill.sh prints them over the translation cfa2ff4c587ce9f0… (all of the seat's roots in one cut). By AI agents, Wed Nov 11 2026. No macro, syntax, notation, axiom, sorry.
-/
import Derived.Test.YtkcfblogfnpbnaaChecked
import GoSem.Claim
import GoSem.ClaimJoined
import GoSem.ClaimMapViews
import Derived.JoinedTies
import Derived.KernelRfl
namespace Go.Proofs.Ytkcfblogfnpbnaa
/- THE CELL 'sum', in the pinned program and in every row, IS THE sha256 OF THE DUMP (.gsa) THAT YtkcfblogfnpbnaaProg.lean LOADS. Nothing in Lean hashes anything: it is a label: what it is worth is what the hold of that sum in a sandbox is worth. -/
noncomputable def Try.pinned : Pinned := { name := "ytkcfblogfnpbnaa", sum := "cfa2ff4c587ce9f0369418039c930aa07736bda282da3b0309bc2031c786078b", checked := Try.checked }
namespace Rows
def none {H : Type} : Left H := { results := [], args := [] }

/-- 'stonelaw4.HashGoes': WHATEVER THE INPUT: true; the input reads as it did. -/
def hashGoesSpec : ChangeSpec := { name := "hashGoes", fn := fun _ => fun
  | [d1, d2] => { results := [.lit (.bool true)], args := [d1, d2] }
  | _ => none }
def hashGoesRow : OpenClaim := { program := "ytkcfblogfnpbnaa", sum := "cfa2ff4c587ce9f0369418039c930aa07736bda282da3b0309bc2031c786078b", func := "pairstone/stonelaw4.HashGoes", spec := "hashGoes", apart := false }
def HashGoesSaid : Prop := hashGoesRow.holds Try.pinned (OpenSpec.ofChange hashGoesSpec)

/-- ITS FALSE NEIGHBOUR: 'it returns false'. Refute it at one input. -/
def hashGoesWrong : ChangeSpec := { name := "hashGoes", fn := fun _ => fun
  | [d1, d2] => { results := [.lit (.bool false)], args := [d1, d2] }
  | _ => none }
def HashGoesWrongFalsely : Prop := hashGoesRow.holds Try.pinned (OpenSpec.ofChange hashGoesWrong)

/-- 'stonelaw1.Names': WHATEVER THE INPUT: true; the input reads as it did. -/
def namesSpec : ChangeSpec := { name := "names", fn := fun _ => fun
  | [] => { results := [.lit (.bool true)], args := [] }
  | _ => none }
def namesRow : OpenClaim := { program := "ytkcfblogfnpbnaa", sum := "cfa2ff4c587ce9f0369418039c930aa07736bda282da3b0309bc2031c786078b", func := "pairstone/stonelaw1.Names", spec := "names", apart := false }
def NamesSaid : Prop := namesRow.holds Try.pinned (OpenSpec.ofChange namesSpec)

/-- ITS FALSE NEIGHBOUR: 'it returns false'. Refute it at one input. -/
def namesWrong : ChangeSpec := { name := "names", fn := fun _ => fun
  | [] => { results := [.lit (.bool false)], args := [] }
  | _ => none }
def NamesWrongFalsely : Prop := namesRow.holds Try.pinned (OpenSpec.ofChange namesWrong)

/-- 'stonelaw4.PrimeRoots': WHATEVER THE INPUT: true; the input reads as it did. -/
def primeRootsSpec : ChangeSpec := { name := "primeRoots", fn := fun _ => fun
  | [d] => { results := [.lit (.bool true)], args := [d] }
  | _ => none }
def primeRootsRow : OpenClaim := { program := "ytkcfblogfnpbnaa", sum := "cfa2ff4c587ce9f0369418039c930aa07736bda282da3b0309bc2031c786078b", func := "pairstone/stonelaw4.PrimeRoots", spec := "primeRoots", apart := false }
def PrimeRootsSaid : Prop := primeRootsRow.holds Try.pinned (OpenSpec.ofChange primeRootsSpec)

/-- ITS FALSE NEIGHBOUR: 'it returns false'. Refute it at one input. -/
def primeRootsWrong : ChangeSpec := { name := "primeRoots", fn := fun _ => fun
  | [d] => { results := [.lit (.bool false)], args := [d] }
  | _ => none }
def PrimeRootsWrongFalsely : Prop := primeRootsRow.holds Try.pinned (OpenSpec.ofChange primeRootsWrong)

/-- 'stonelaw4.TwinPowers': WHATEVER THE INPUT: true; the input reads as it did. -/
def twinPowersSpec : ChangeSpec := { name := "twinPowers", fn := fun _ => fun
  | [d1, d2, d3] => { results := [.lit (.bool true)], args := [d1, d2, d3] }
  | _ => none }
def twinPowersRow : OpenClaim := { program := "ytkcfblogfnpbnaa", sum := "cfa2ff4c587ce9f0369418039c930aa07736bda282da3b0309bc2031c786078b", func := "pairstone/stonelaw4.TwinPowers", spec := "twinPowers", apart := false }
def TwinPowersSaid : Prop := twinPowersRow.holds Try.pinned (OpenSpec.ofChange twinPowersSpec)

/-- ITS FALSE NEIGHBOUR: 'it returns false'. Refute it at one input. -/
def twinPowersWrong : ChangeSpec := { name := "twinPowers", fn := fun _ => fun
  | [d1, d2, d3] => { results := [.lit (.bool false)], args := [d1, d2, d3] }
  | _ => none }
def TwinPowersWrongFalsely : Prop := twinPowersRow.holds Try.pinned (OpenSpec.ofChange twinPowersWrong)

/-- 'stonelaw1.PrimeHolds': WHATEVER THE INPUT: true; the input reads as it did. -/
def primeHoldsSpec : ChangeSpec := { name := "primeHolds", fn := fun _ => fun
  | [d1, d2, d3] => { results := [.lit (.bool true)], args := [d1, d2, d3] }
  | _ => none }
def primeHoldsRow : OpenClaim := { program := "ytkcfblogfnpbnaa", sum := "cfa2ff4c587ce9f0369418039c930aa07736bda282da3b0309bc2031c786078b", func := "pairstone/stonelaw1.PrimeHolds", spec := "primeHolds", apart := false }
def PrimeHoldsSaid : Prop := primeHoldsRow.holds Try.pinned (OpenSpec.ofChange primeHoldsSpec)

/-- ITS FALSE NEIGHBOUR: 'it returns false'. Refute it at one input. -/
def primeHoldsWrong : ChangeSpec := { name := "primeHolds", fn := fun _ => fun
  | [d1, d2, d3] => { results := [.lit (.bool false)], args := [d1, d2, d3] }
  | _ => none }
def PrimeHoldsWrongFalsely : Prop := primeHoldsRow.holds Try.pinned (OpenSpec.ofChange primeHoldsWrong)

/-- 'stonelaw1.TwinHolds': WHATEVER THE INPUT: true; the input reads as it did. -/
def twinHoldsSpec : ChangeSpec := { name := "twinHolds", fn := fun _ => fun
  | [d1, d2, d3] => { results := [.lit (.bool true)], args := [d1, d2, d3] }
  | _ => none }
def twinHoldsRow : OpenClaim := { program := "ytkcfblogfnpbnaa", sum := "cfa2ff4c587ce9f0369418039c930aa07736bda282da3b0309bc2031c786078b", func := "pairstone/stonelaw1.TwinHolds", spec := "twinHolds", apart := false }
def TwinHoldsSaid : Prop := twinHoldsRow.holds Try.pinned (OpenSpec.ofChange twinHoldsSpec)

/-- ITS FALSE NEIGHBOUR: 'it returns false'. Refute it at one input. -/
def twinHoldsWrong : ChangeSpec := { name := "twinHolds", fn := fun _ => fun
  | [d1, d2, d3] => { results := [.lit (.bool false)], args := [d1, d2, d3] }
  | _ => none }
def TwinHoldsWrongFalsely : Prop := twinHoldsRow.holds Try.pinned (OpenSpec.ofChange twinHoldsWrong)

/-- 'stonelaw4.ShareSums': WHATEVER THE INPUT: true; the input reads as it did. -/
def shareSumsSpec : ChangeSpec := { name := "shareSums", fn := fun _ => fun
  | [d1, d2, d3] => { results := [.lit (.bool true)], args := [d1, d2, d3] }
  | _ => none }
def shareSumsRow : OpenClaim := { program := "ytkcfblogfnpbnaa", sum := "cfa2ff4c587ce9f0369418039c930aa07736bda282da3b0309bc2031c786078b", func := "pairstone/stonelaw4.ShareSums", spec := "shareSums", unfollowed := true, recurses := true, apart := false }
def ShareSumsSaid : Prop := shareSumsRow.holds Try.pinned (OpenSpec.ofChange shareSumsSpec)

/-- ITS FALSE NEIGHBOUR: 'it returns false'. Refute it at one input. -/
def shareSumsWrong : ChangeSpec := { name := "shareSums", fn := fun _ => fun
  | [d1, d2, d3] => { results := [.lit (.bool false)], args := [d1, d2, d3] }
  | _ => none }
def ShareSumsWrongFalsely : Prop := shareSumsRow.holds Try.pinned (OpenSpec.ofChange shareSumsWrong)

/-- 'stonelaw2.ShareBack': WHATEVER THE INPUT: true; the input reads as it did. -/
def shareBackSpec : ChangeSpec := { name := "shareBack", fn := fun _ => fun
  | [d1, d2, d3, d4] => { results := [.lit (.bool true)], args := [d1, d2, d3, d4] }
  | _ => none }
def shareBackRow : OpenClaim := { program := "ytkcfblogfnpbnaa", sum := "cfa2ff4c587ce9f0369418039c930aa07736bda282da3b0309bc2031c786078b", func := "pairstone/stonelaw2.ShareBack", spec := "shareBack", unfollowed := true, recurses := true, apart := false }
def ShareBackSaid : Prop := shareBackRow.holds Try.pinned (OpenSpec.ofChange shareBackSpec)

/-- ITS FALSE NEIGHBOUR: 'it returns false'. Refute it at one input. -/
def shareBackWrong : ChangeSpec := { name := "shareBack", fn := fun _ => fun
  | [d1, d2, d3, d4] => { results := [.lit (.bool false)], args := [d1, d2, d3, d4] }
  | _ => none }
def ShareBackWrongFalsely : Prop := shareBackRow.holds Try.pinned (OpenSpec.ofChange shareBackWrong)

/- THE SECOND FORM. 'bulk': how many values and letters a reading holds, each counted each time it is reached (what is shared counts as often as it is met; a slice's spare places count too). A statement '..UptoSaid' is the law's where the arguments, and the package variables that the reading takes, are together of bulk at most 1048576: NARROWER than '..Said'. Prove '..Said' where nothing that the law and all that it calls make is longer than what came in: it says more and counts as full. Else prove '..UptoSaid'. A law counts once. -/
mutual
def uptoBulk {H : Type} : DataW H → Nat
  | .lit (.string bytes) => bytes.length + 1
  | .lit _ => 1
  | .nil => 1
  | .ptr d => uptoBulk d + 1
  | .slice elems spare => uptoBulkAll elems + uptoBulkAll spare + 1
  | .agg parts => uptoBulkAll parts + 1
  | .iface _ d => uptoBulk d + 1
  | .map entries => uptoBulkEntries entries + 1
  | .held _ => 1
def uptoBulkAll {H : Type} : List (DataW H) → Nat
  | [] => 0
  | d :: r => uptoBulk d + uptoBulkAll r
def uptoBulkEntries {H : Type} : List (Lit × DataW H) → Nat
  | [] => 0
  | x :: r => uptoBulkEntry x + uptoBulkEntries r
def uptoBulkEntry {H : Type} : Lit × DataW H → Nat
  | (.string bytes, d) => bytes.length + uptoBulk d + 1
  | (_, d) => uptoBulk d + 1
 end
def uptoSmall : (H : Type) → List (DataW H) → Bool := fun _ ds => decide (uptoBulkAll ds ≤ 1048576)
def OpenSpec.upto (s : _root_.Go.ChangeSpec) : _root_.Go.OpenSpec := { _root_.Go.OpenSpec.ofChange s with cond := some uptoSmall }

/-- 'stonelaw4.HashGoes', WHERE WHAT IT READS IS OF BULK AT MOST 1048576: true; the input reads as it did. -/
def hashGoesUptoRow : OpenClaim := { program := "ytkcfblogfnpbnaa", sum := "cfa2ff4c587ce9f0369418039c930aa07736bda282da3b0309bc2031c786078b", func := "pairstone/stonelaw4.HashGoes", spec := "hashGoes", apart := false, narrowed := true }
def HashGoesUptoSaid : Prop := hashGoesUptoRow.holds Try.pinned (OpenSpec.upto hashGoesSpec)

/-- 'stonelaw1.Names', WHERE WHAT IT READS IS OF BULK AT MOST 1048576: true; the input reads as it did. -/
def namesUptoRow : OpenClaim := { program := "ytkcfblogfnpbnaa", sum := "cfa2ff4c587ce9f0369418039c930aa07736bda282da3b0309bc2031c786078b", func := "pairstone/stonelaw1.Names", spec := "names", apart := false, narrowed := true }
def NamesUptoSaid : Prop := namesUptoRow.holds Try.pinned (OpenSpec.upto namesSpec)

/-- 'stonelaw4.PrimeRoots', WHERE WHAT IT READS IS OF BULK AT MOST 1048576: true; the input reads as it did. -/
def primeRootsUptoRow : OpenClaim := { program := "ytkcfblogfnpbnaa", sum := "cfa2ff4c587ce9f0369418039c930aa07736bda282da3b0309bc2031c786078b", func := "pairstone/stonelaw4.PrimeRoots", spec := "primeRoots", apart := false, narrowed := true }
def PrimeRootsUptoSaid : Prop := primeRootsUptoRow.holds Try.pinned (OpenSpec.upto primeRootsSpec)

/-- 'stonelaw4.TwinPowers', WHERE WHAT IT READS IS OF BULK AT MOST 1048576: true; the input reads as it did. -/
def twinPowersUptoRow : OpenClaim := { program := "ytkcfblogfnpbnaa", sum := "cfa2ff4c587ce9f0369418039c930aa07736bda282da3b0309bc2031c786078b", func := "pairstone/stonelaw4.TwinPowers", spec := "twinPowers", apart := false, narrowed := true }
def TwinPowersUptoSaid : Prop := twinPowersUptoRow.holds Try.pinned (OpenSpec.upto twinPowersSpec)

/-- 'stonelaw1.PrimeHolds', WHERE WHAT IT READS IS OF BULK AT MOST 1048576: true; the input reads as it did. -/
def primeHoldsUptoRow : OpenClaim := { program := "ytkcfblogfnpbnaa", sum := "cfa2ff4c587ce9f0369418039c930aa07736bda282da3b0309bc2031c786078b", func := "pairstone/stonelaw1.PrimeHolds", spec := "primeHolds", apart := false, narrowed := true }
def PrimeHoldsUptoSaid : Prop := primeHoldsUptoRow.holds Try.pinned (OpenSpec.upto primeHoldsSpec)

/-- 'stonelaw1.TwinHolds', WHERE WHAT IT READS IS OF BULK AT MOST 1048576: true; the input reads as it did. -/
def twinHoldsUptoRow : OpenClaim := { program := "ytkcfblogfnpbnaa", sum := "cfa2ff4c587ce9f0369418039c930aa07736bda282da3b0309bc2031c786078b", func := "pairstone/stonelaw1.TwinHolds", spec := "twinHolds", apart := false, narrowed := true }
def TwinHoldsUptoSaid : Prop := twinHoldsUptoRow.holds Try.pinned (OpenSpec.upto twinHoldsSpec)

/-- 'stonelaw4.ShareSums', WHERE WHAT IT READS IS OF BULK AT MOST 1048576: true; the input reads as it did. -/
def shareSumsUptoRow : OpenClaim := { program := "ytkcfblogfnpbnaa", sum := "cfa2ff4c587ce9f0369418039c930aa07736bda282da3b0309bc2031c786078b", func := "pairstone/stonelaw4.ShareSums", spec := "shareSums", unfollowed := true, recurses := true, apart := false, narrowed := true }
def ShareSumsUptoSaid : Prop := shareSumsUptoRow.holds Try.pinned (OpenSpec.upto shareSumsSpec)

/-- 'stonelaw2.ShareBack', WHERE WHAT IT READS IS OF BULK AT MOST 1048576: true; the input reads as it did. -/
def shareBackUptoRow : OpenClaim := { program := "ytkcfblogfnpbnaa", sum := "cfa2ff4c587ce9f0369418039c930aa07736bda282da3b0309bc2031c786078b", func := "pairstone/stonelaw2.ShareBack", spec := "shareBack", unfollowed := true, recurses := true, apart := false, narrowed := true }
def ShareBackUptoSaid : Prop := shareBackUptoRow.holds Try.pinned (OpenSpec.upto shareBackSpec)

end Rows
end Go.Proofs.Ytkcfblogfnpbnaa
