/- Walks of layer equal, where it refuses. -/
import Derived.Laws.Entries
import Derived.Test.YtebomakihdjllaaDoorEl
import Derived.Test.YtebomakihdjllaaDoorSt
namespace Go.Proofs.YtebomakihdjllaaDoor
open Go.RowKit
set_option maxRecDepth 100000
set_option linter.unusedVariables false
set_option linter.unusedSimpArgs false
theorem list_v (l : List Sp) (b off cap : Nat) (w : World) (hF : FarAt w) (hl : l.length ≤ 12) (hs : SpotsAt w b off l) (k : Nat) (hk : k < l.length) (n : Int) (h : Hid (∀ i (h : i < l.length), i < k → Ok l[i])) (hn : Hid (sCheck l[k] = n)) (h0 : n ≠ 0) :
    Calls Tryd.prog 46 #[.slice (some ⟨b, off, none⟩) l.length cap] w fun e w' => e = .returned (.tuple #[.string ⟨#[]⟩, .iface 69 (.int .i64 n)]) ∧ Below w.heap.size w w' := by
  have := list_bad l b off cap w hF hl hs k hk h.out (by rw [hn.out]; exact h0); rw [hn.out] at this; exact this
end Go.Proofs.YtebomakihdjllaaDoor
