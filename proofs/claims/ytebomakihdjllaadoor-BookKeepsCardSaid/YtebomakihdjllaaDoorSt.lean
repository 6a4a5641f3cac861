/- Walks of layer seal, where it refuses: Check, Verify, Ask. -/
import Derived.Laws.Entries
import Derived.Test.YtebomakihdjllaaDoorSb
import Derived.Test.YtebomakihdjllaaDoorRc
namespace Go.Proofs.YtebomakihdjllaaDoor
open Go.RowKit
set_option maxRecDepth 100000
set_option linter.unusedVariables false
set_option linter.unusedSimpArgs false
theorem all_v (l : List Sp) (b off cap : Nat) (w : World) (hF : FarAt w) (hl : l.length ≤ 1000000) (hs : SpotsAt w b off l) (k : Nat) (hk : k < l.length) (n : Int) (h : Hid (∀ i (h : i < l.length), i < k → Ok l[i])) (hn : Hid (sCheck l[k] = n)) (h0 : n ≠ 0) :
    Calls Tryd.prog 53 #[.slice (some ⟨b, off, none⟩) l.length cap] w fun e w' => e = .returned (.iface 69 (.int .i64 n)) ∧ Below w.heap.size w w' := by
  have := all_bad l b off cap w hF hl hs k hk h.out (by rw [hn.out]; exact h0); rw [hn.out] at this; exact this
theorem none_ok (l : List Sp) : Hid (∀ i (h : i < l.length), i < 0 → Ok l[i]) := fun i _ hi => absurd hi (Nat.not_lt_zero _)
theorem one_ok (a : Sp) (l : List Sp) (ha : Ok a) : Hid (∀ i (h : i < (a :: l).length), i < 1 → Ok (a :: l)[i]) := fun i hi hlt => by
  obtain rfl : i = 0 := by omega
  exact ha
theorem two_ok (a b : Sp) (l : List Sp) (ha : Ok a) (hb : Ok b) : Hid (∀ i (h : i < (a :: b :: l).length), i < 2 → Ok (a :: b :: l)[i]) := fun i hi hlt => by
  have : i = 0 ∨ i = 1 := by omega
  rcases this with rfl | rfl <;> assumption
/-- The fault of what is to be verified. -/
def sealF (key R : Sp) (S : Int) (z : Nat) : Int := if 60 < z then 4 else if sCheck key ≠ 0 then sCheck key else if sCheck R ≠ 0 then sCheck R else if 0 ≤ S ∧ S < 1013 then 0 else 1
theorem sealF_zero {key R : Sp} {S : Int} {z : Nat} (h : sealF key R S z = 0) : z ≤ 60 ∧ Ok key ∧ Ok R ∧ 0 ≤ S ∧ S < 1013 := by
  unfold sealF at h
  split at h
  · exact absurd h (by decide)
  · split at h
    · contradiction
    · split at h
      · contradiction
      · split at h
        · rename_i h1 h2 h3 h4
          exact ⟨by omega, (ok_iff _).mp (by simpa using h2), (ok_iff _).mp (by simpa using h3), h4.1, h4.2⟩
        · exact absurd h (by decide)
end Go.Proofs.YtebomakihdjllaaDoor
