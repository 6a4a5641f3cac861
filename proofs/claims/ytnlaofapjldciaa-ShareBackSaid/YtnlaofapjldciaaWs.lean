/- Walks of layer bytes. -/
import Derived.Test.YtnlaofapjldciaaWr
import Derived.Laws.BytesArg
namespace Go.Proofs.Ytnlaofapjldciaa
open Go.RowKit
set_option maxRecDepth 100000
/-- A right spot's bytes. -/
def sBytes (s : Sp) : ByteArray := if s.far = true then ⟨#[0]⟩ else if pOf (-s.y) < s.y then strOfNums [2, s.x / 256, s.x % 256] else strOfNums [1, s.x / 256, s.x % 256]
theorem ret_string {a b : ByteArray} (h : a = b) : Ending.returned (.string a) = .returned (.string b) := by rw [h]
end Go.Proofs.Ytnlaofapjldciaa
