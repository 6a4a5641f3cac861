/- Walks of layer group: check, Coefs, Joint. -/
import Derived.Test.YtebomakihdjllaaDoorOw
import Derived.Test.YtebomakihdjllaaDoorGp
import Derived.Test.YtebomakihdjllaaDoorSf
import Derived.Deep.DeepCutAuto
namespace Go.Proofs.YtebomakihdjllaaDoor
open Go.RowKit
set_option maxRecDepth 100000
set_option linter.unusedVariables false
set_option linter.unusedSimpArgs false
theorem okB_y {n : Int} (h : okB n = true) : 1 ≤ n ∧ n < 1013 := of_decide_eq_true h
theorem okB_n {n : Int} (h : okB n = false) : ¬ (1 ≤ n ∧ n < 1013) := of_decide_eq_false h
theorem list_sl (l : List Sp) (v : Value) (w : World) (hF : FarAt w) (hl : l.length ≤ 12) (hs : SpSl w v l) (hok : ∀ z ∈ l, Ok z) :
    Calls Tryd.prog 46 #[v] w fun e w' => e = .returned (.tuple #[.string (lsB l.length l), .nilIface]) ∧ Below w.heap.size w w' := by
  obtain ⟨a, cap, rfl, hs⟩ := hs
  cases l with
  | nil => exact list_zero a cap w
  | cons s l =>
    obtain ⟨b, off, rfl, hs'⟩ := hs (Nat.succ_pos _)
    exact list_ok (s :: l) b off cap w hF hl hs' (fun i h => hok _ (List.getElem_mem h))
theorem hashNumber_n (s : ByteArray) (n : Int) (w : World) (hs : s.size ≤ 9223372036854775807) (h : Hid (hnum s.data.toList = n)) : Calls Tryd.prog 47 #[.string s] w fun e w' => e = .returned (.int .i64 n) ∧ Below w.heap.size w w' := by
  rw [← h.out]; exact hashNumber_c s w hs
end Go.Proofs.YtebomakihdjllaaDoor
