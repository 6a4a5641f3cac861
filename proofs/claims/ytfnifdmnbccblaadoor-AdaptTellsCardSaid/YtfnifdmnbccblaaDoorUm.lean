/- Walk of bytes.Unpack: all ways. -/
import Derived.Test.YtfnifdmnbccblaaDoorUn
namespace Go.Proofs.YtfnifdmnbccblaaDoor
open Go.RowKit
set_option maxRecDepth 100000
set_option linter.unusedVariables false
set_option linter.unusedSimpArgs false
def unpackR : List UInt8 → Option Sp
  | [c] => if c = 0 then some sFar else none
  | [c0, c1, c2] => if inside ((c1.toNat : Int) * 256 + (c2.toNat : Int)) = true ∧ isSq (height ((c1.toNat : Int) * 256 + (c2.toNat : Int))) = true then
      (if ((sBytes (unS c0 (lifted ((c1.toNat : Int) * 256 + (c2.toNat : Int))))).toList == [c0, c1, c2]) = true then some (unS c0 (lifted ((c1.toNat : Int) * 256 + (c2.toNat : Int)))) else none) else none
  | _ => none
theorem unpackR_three (c0 c1 c2 : UInt8) : unpackR [c0, c1, c2] = if inside ((c1.toNat : Int) * 256 + (c2.toNat : Int)) = true ∧ isSq (height ((c1.toNat : Int) * 256 + (c2.toNat : Int))) = true then
      (if ((sBytes (unS c0 (lifted ((c1.toNat : Int) * 256 + (c2.toNat : Int))))).toList == [c0, c1, c2]) = true then some (unS c0 (lifted ((c1.toNat : Int) * 256 + (c2.toNat : Int)))) else none) else none := rfl
def unV : Option Sp → Value
  | some s => .tuple #[spV s, .nilIface]
  | none => .tuple #[spV ⟨0, 0, false⟩, .iface 118 (.int .i64 2)]
end Go.Proofs.YtfnifdmnbccblaaDoor
