/- Walk of bytes.Unpack. -/
import Derived.Test.YtfnifdmnbccblaaDoorWs
import Derived.Test.YtfnifdmnbccblaaDoorWl
import Derived.Test.YtfnifdmnbccblaaDoorLf
import Derived.Deep.DeepCutAuto
import Derived.Deep.RegionWith
namespace Go.Proofs.YtfnifdmnbccblaaDoor
open Go.RowKit
set_option maxRecDepth 100000
set_option linter.unusedVariables false
set_option linter.unusedSimpArgs false
def LiftIs (x : Int) (L : Sp) (E : Value) : Prop := ∀ w : World, Calls Tryd.prog 80 #[.int .i64 x] w fun e w' => e = .returned (.tuple #[spV L, E]) ∧ Below w.heap.size w w'
theorem wrap_two (c d : UInt8) : IntKind.i64.wrap (IntKind.i64.wrap (IntKind.i64.wrap (c.toNat : Int) * 256) + IntKind.i64.wrap (d.toNat : Int)) = (c.toNat : Int) * 256 + (d.toNat : Int) := by
  have := c.toNat_lt; have := d.toNat_lt
  rw [IntWalk.i64_in (c.toNat : Int) (by omega), IntWalk.i64_in (d.toNat : Int) (by omega), IntWalk.i64_in ((c.toNat : Int) * 256) (by omega), IntWalk.i64_in _ (by omega)]
/-- What Unpack makes of three bytes whose place lifts to L, with error E. -/
def unS (c0 : UInt8) (L : Sp) : Sp := if c0.toNat = 2 then sTurned L else L
end Go.Proofs.YtfnifdmnbccblaaDoor
