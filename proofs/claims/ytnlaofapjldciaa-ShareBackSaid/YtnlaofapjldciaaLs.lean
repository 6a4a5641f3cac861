/- Walk of bytes.List: spots one behind the other. -/
import Derived.Test.YtnlaofapjldciaaWs
import Derived.Laws.BytesArg
namespace Go.Proofs.Ytnlaofapjldciaa
open Go.RowKit
set_option maxRecDepth 100000
set_option linter.unusedVariables false
set_option linter.unusedSimpArgs false
def lsB (n : Nat) (l : List Sp) : ByteArray := l.foldl (fun a s => a ++ sBytes s) (strOfNums [(n : Int)])
theorem lsB_snoc (n : Nat) (l : List Sp) (k : Nat) (h : k < l.length) : lsB n (l.take (k + 1)) = lsB n (l.take k) ++ sBytes l[k] := by
  unfold lsB; rw [List.take_succ_eq_append_getElem h, List.foldl_append]; rfl
theorem sBytes_size (s : Sp) : (sBytes s).size ≤ 3 := by
  unfold sBytes; split
  · decide
  · split <;> simp [strOfNums_size]
theorem foldl_size : ∀ (l : List Sp) (a : ByteArray), (l.foldl (fun a s => a ++ sBytes s) a).size ≤ a.size + 3 * l.length
  | [], a => by simp
  | s :: l, a => by
    have := foldl_size l (a ++ sBytes s)
    have h := sBytes_size s
    simp only [List.foldl_cons, List.length_cons, ByteArray.size_append] at this ⊢
    omega
theorem lsB_size (n : Nat) (l : List Sp) : (lsB n l).size ≤ 1 + 3 * l.length := by
  have := foldl_size l (strOfNums [(n : Int)])
  rw [strOfNums_size] at this
  exact this
/-- All of some spots are right, or there is a first one that is not. -/
theorem first_bad : ∀ l : List Sp, (∀ i (h : i < l.length), Ok l[i]) ∨ ∃ k, ∃ h : k < l.length, (∀ i (h : i < l.length), i < k → Ok l[i]) ∧ sCheck l[k] ≠ 0
  | [] => .inl fun i h => absurd h (Nat.not_lt_zero _)
  | s :: l => by
    by_cases hs : sCheck s = 0
    · rcases first_bad l with h | ⟨k, hk, h, hb⟩
      · left; intro i hi
        cases i with
        | zero => exact (ok_iff _).mp hs
        | succ i => exact h i (by simpa using hi)
      · right; refine ⟨k + 1, by simpa using hk, fun i hi hik => ?_, by simpa using hb⟩
        cases i with
        | zero => exact (ok_iff _).mp hs
        | succ i => exact h i (by simpa using hi) (by omega)
    · right; exact ⟨0, by simp, fun i _ h => absurd h (Nat.not_lt_zero _), by simpa using hs⟩
end Go.Proofs.Ytnlaofapjldciaa
