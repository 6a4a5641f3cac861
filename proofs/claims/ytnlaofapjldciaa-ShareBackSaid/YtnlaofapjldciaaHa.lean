/- Walks of layer hash: the number of a text, and its spot. -/
import Derived.Test.YtnlaofapjldciaaWh
import Derived.Test.YtnlaofapjldciaaTb
import Derived.Test.YtnlaofapjldciaaLs
import Derived.Lib.SmallJoins
namespace Go.Proofs.Ytnlaofapjldciaa
open Go.RowKit
set_option maxRecDepth 100000
set_option linter.unusedVariables false
set_option linter.unusedSimpArgs false
def hnum (l : List UInt8) : Int := lng l % 1013
theorem hnum_bd (l : List UInt8) : 0 ≤ hnum l ∧ hnum l < 1013 := by unfold hnum; omega
def hX (l : List UInt8) (k : Nat) : Int := lng (l ++ [UInt8.ofNat k]) % 4051
theorem hX_in (l : List UInt8) (k : Nat) : inside (hX l k) = true := ins_iff.mpr (by unfold hX; omega)
/-- The spot of a text: the search from k on. -/
def hGo (l : List UInt8) : Nat → Nat → Sp
  | 0, _ => sq 4
  | n+1, k => if isSq (height (hX l k)) = true ∧ (sFour (lifted (hX l k))).far = false then sFour (lifted (hX l k)) else hGo l n (k+1)
def hSpot (l : List UInt8) : Sp := hGo l 256 0
theorem hGo_four (l : List UInt8) : ∀ n k, ∃ j : Int, 1 ≤ j ∧ j < 1013 ∧ hGo l n k = sq (4 * j)
  | 0, k => ⟨1, by omega, by omega, rfl⟩
  | n+1, k => by
    by_cases h : isSq (height (hX l k)) = true ∧ (sFour (lifted (hX l k))).far = false
    · obtain ⟨j, h0, h1, e⟩ := four_all (lifted_ok (hX_in l k) h.1)
      exact ⟨j, four_far h0 h1 e h.2, h1, by unfold hGo; rw [if_pos h, e]⟩
    · obtain ⟨j, h0, h1, e⟩ := hGo_four l n (k+1)
      exact ⟨j, h0, h1, by unfold hGo; rw [if_neg h, e]⟩
theorem hSpot_four (l : List UInt8) : ∃ j : Int, 1 ≤ j ∧ j < 1013 ∧ hSpot l = sq (4 * j) := hGo_four l 256 0
theorem hSpot_ok (l : List UInt8) : Ok (hSpot l) := by obtain ⟨j, -, -, e⟩ := hSpot_four l; rw [e]; exact sq_ok _
theorem hGo_hit {l : List UInt8} {k : Nat} (hk : k < 256) (h1 : isSq (height (hX l k)) = true) (h2 : (sFour (lifted (hX l k))).far = false) : hGo l (256 - k) k = sFour (lifted (hX l k)) := by
  rw [show 256 - k = (255 - k) + 1 by omega, hGo, if_pos ⟨h1, h2⟩]
theorem hGo_miss {l : List UInt8} {k : Nat} (hk : k < 256) (h : isSq (height (hX l k)) = false ∨ (sFour (lifted (hX l k))).far = true) : hGo l (256 - k) k = hGo l (256 - (k + 1)) (k + 1) := by
  rw [show 256 - k = (255 - k) + 1 by omega, hGo, if_neg, show 256 - (k + 1) = 255 - k by omega]
  intro ⟨a, b⟩; rcases h with h | h
  · rw [h] at a; cases a
  · rw [h] at b; cases b
theorem hGo_end (l : List UInt8) : hGo l (256 - 256) 256 = sq 4 := rfl
theorem text_byte (s : ByteArray) (k : Nat) : (s ++ strOfNums [(k : Int)]).data.toList = s.data.toList ++ [UInt8.ofNat k] := by
  rw [Joins.data_append, strOfNums_data]; simp
theorem strOf1 (k : Int) : (strOfNums [k]).size ≤ 1 := by rw [strOfNums_size]; exact Nat.le_refl _
end Go.Proofs.Ytnlaofapjldciaa
