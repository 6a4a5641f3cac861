/- What the head of the translation says of itself (its first words), told once for all rows: without it each row reckons them anew. -/
import Derived.Test.YtnlaofapjldciaaDoorFr
namespace Go.Proofs.YtnlaofapjldciaaDoor
open Go.RowKit
set_option maxRecDepth 100000
theorem headL : ∃ l : List Char, Tryd.prog.initOrder = String.ofList l ∧ ((behindMainWord (wordsSigns l)).head? = some "cut".toList ∧
    (match wordsSigns l with
      | h :: s :: _ => if !isSumSigns s then none else if h == "harness".toList then some (true, s) else if h == "ownmain".toList then some (false, s) else none
      | _ => none) = some (true, "646e30bca04c75b39ccd751b5f2602370b95678b23583ff78d3ed570f8160344".toList)) := by
  refine ⟨?l, ?h1, ?h2, ?h3⟩
  case h1 =>
    unfold Tryd.prog
    first | rfl | (dsimp only; rfl)
  case h2 => kernel_rfl
  case h3 => kernel_rfl
theorem headCut : ∃ r, behindMainWord (wordsSigns Tryd.prog.initOrder.toList) = "cut".toList :: r := by
  obtain ⟨l, h, hw, -⟩ := headL
  rw [h, String.toList_ofList]
  cases e : behindMainWord (wordsSigns l) with
  | nil => rw [e] at hw; cases hw
  | cons c r => rw [e] at hw; exact ⟨r, by rw [Option.some.inj hw]⟩
theorem mainIsK : Tryd.prog.mainIs = some (true, "646e30bca04c75b39ccd751b5f2602370b95678b23583ff78d3ed570f8160344".toList) := by
  obtain ⟨l, h, -, hm⟩ := headL
  unfold Program.mainIs; rw [h, String.toList_ofList]; exact hm
theorem mayEnterK : Tryd.prog.mayEnter = true := by
  obtain ⟨r, h⟩ := headCut
  unfold Program.mayEnter; rw [h]; kernel_rfl
theorem headLiftsK : Tryd.prog.headLifts = [] := by
  obtain ⟨r, h⟩ := headCut
  unfold Program.headLifts; rw [h]; kernel_rfl
theorem liftsFinalK : Tryd.prog.liftsFinal = false := by
  obtain ⟨r, h⟩ := headCut
  unfold Program.liftsFinal; rw [h, headLiftsK]; kernel_rfl
theorem makeK : Tryd.prog.make = some .cut := by
  obtain ⟨r, h⟩ := headCut
  unfold Program.make; rw [h]; kernel_rfl
end Go.Proofs.YtnlaofapjldciaaDoor
