/- The number of a text, as layer hash has it. No program. -/
namespace Go.Proofs.YtjjmelhhalomaaaGreatDoor
def lstep (n : Int) (c : UInt8) : Int := (n * 263 + (c.toNat : Int) + 1) % 1000003
def lng (l : List UInt8) : Int := l.foldl lstep 5
theorem lstep_bd (n : Int) (c : UInt8) : 0 ≤ lstep n c ∧ lstep n c < 1000003 := by unfold lstep; omega
theorem lfold_bd : ∀ (l : List UInt8) (n : Int), 0 ≤ n ∧ n < 1000003 → 0 ≤ l.foldl lstep n ∧ l.foldl lstep n < 1000003
  | [], _, h => h
  | c :: l, n, _ => lfold_bd l _ (lstep_bd n c)
theorem lng_bd (l : List UInt8) : 0 ≤ lng l ∧ lng l < 1000003 := lfold_bd l 5 (by decide)
theorem lng_snoc (l : List UInt8) (c : UInt8) : lng (l ++ [c]) = (lng l * 263 + (c.toNat : Int) + 1) % 1000003 := by
  unfold lng; rw [List.foldl_append]; rfl
theorem lng_take (l : List UInt8) (k : Nat) (h : k < l.length) : lng (l.take (k + 1)) = (lng (l.take k) * 263 + (l[k].toNat : Int) + 1) % 1000003 := by
  rw [List.take_succ_eq_append_getElem h, lng_snoc]
theorem lng_nil : lng [] = 5 := rfl
theorem lng_b : lng [98] = 1414 := rfl
theorem lng_a : lng [97] = 1413 := rfl
attribute [irreducible] lng
end Go.Proofs.YtjjmelhhalomaaaGreatDoor
