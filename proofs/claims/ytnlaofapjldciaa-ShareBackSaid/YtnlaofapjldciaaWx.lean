/- Contracts of layer curve: Check, Sum, Turned, in the words of Sp. -/
import Derived.Test.YtnlaofapjldciaaWw
namespace Go.Proofs.Ytnlaofapjldciaa
open Go.RowKit
theorem inside_iff {n : Int} : inside n = true ↔ 0 ≤ n ∧ n < 4051 := by simp [inside]
end Go.Proofs.Ytnlaofapjldciaa
