/- What the document's answer reads of any bytes is what bytes.Unpack reads. -/
import Derived.Test.YtijemkecjohagaaDoorRg
namespace Go.Proofs.YtijemkecjohagaaDoor
open Go.RowKit
set_option maxRecDepth 100000
set_option linter.unusedVariables false
set_option linter.unusedSimpArgs false
def rdV : Option Sp → Value
  | some s => .tuple #[spV s, .bool true]
  | none => .tuple #[spV ⟨0, 0, false⟩, .bool false]
theorem split_c1 (c d : UInt8) : UInt8.ofNat (((c.toNat : Int) * 256 + d.toNat) / 256).toNat = c := by
  have hd := d.toNat_lt
  rw [show (((c.toNat : Int) * 256 + d.toNat) / 256).toNat = c.toNat by omega]; exact UInt8.ofNat_toNat
theorem split_c2 (c d : UInt8) : UInt8.ofNat (((c.toNat : Int) * 256 + d.toNat) % 256).toNat = d := by
  have hd := d.toNat_lt
  rw [show (((c.toNat : Int) * 256 + d.toNat) % 256).toNat = d.toNat by omega]; exact UInt8.ofNat_toNat
theorem bytes_small (c1 c2 : UInt8) (Y : Int) (y0 : 0 ≤ Y) (y1 : Y < 4051) (h : ¬ 4051 < 2 * Y) : (sBytes ⟨(c1.toNat : Int) * 256 + c2.toNat, Y, false⟩).toList = [1, c1, c2] := by
  rw [ByteArray.toList_eq, sBytes_small rfl (fun c => h ((big_iff y0 y1).mp c)), split_c1, split_c2]
theorem bytes_big (c1 c2 : UInt8) (Y : Int) (y0 : 0 ≤ Y) (y1 : Y < 4051) (h : 4051 < 2 * Y) : (sBytes ⟨(c1.toNat : Int) * 256 + c2.toNat, Y, false⟩).toList = [2, c1, c2] := by
  rw [ByteArray.toList_eq, sBytes_big rfl ((big_iff y0 y1).mpr h), split_c1, split_c2]
theorem unpack_no (c0 c1 c2 : UInt8) (h1 : c0 ≠ 1) (h2 : c0.toNat ≠ 2) : unpackR [c0, c1, c2] = none := by
  rw [unpackR_three]
  split
  · next h =>
    have r := pRoot_bd (height ((c1.toNat : Int) * 256 + c2.toNat))
    have e : unS c0 (lifted ((c1.toNat : Int) * 256 + c2.toNat)) = ⟨(c1.toNat : Int) * 256 + c2.toNat, pRoot (height ((c1.toNat : Int) * 256 + c2.toNat)), false⟩ := by unfold unS; rw [if_neg h2]; rfl
    rw [e, bytes_small c1 c2 _ r.1 (by omega) (by omega), if_neg]
    intro c
    have := (List.cons.inj (by simpa using c : (1 : UInt8) :: [c1, c2] = c0 :: [c1, c2])).1
    exact h1 this.symm
  · rfl
theorem unpack_one (c1 c2 : UInt8) (hi : inside ((c1.toNat : Int) * 256 + c2.toNat) = true) (hs : isSq (height ((c1.toNat : Int) * 256 + c2.toNat)) = true) : unpackR [1, c1, c2] = some (lifted ((c1.toNat : Int) * 256 + c2.toNat)) := by
  have r := pRoot_bd (height ((c1.toNat : Int) * 256 + c2.toNat))
  have e : unS 1 (lifted ((c1.toNat : Int) * 256 + c2.toNat)) = ⟨(c1.toNat : Int) * 256 + c2.toNat, pRoot (height ((c1.toNat : Int) * 256 + c2.toNat)), false⟩ := by unfold unS; rw [if_neg (by decide)]; rfl
  rw [unpackR_three, if_pos ⟨hi, hs⟩, e, bytes_small c1 c2 _ r.1 (by omega) (by omega), if_pos (by simp)]; rfl
theorem unpack_two (c1 c2 : UInt8) (hi : inside ((c1.toNat : Int) * 256 + c2.toNat) = true) (hs : isSq (height ((c1.toNat : Int) * 256 + c2.toNat)) = true) : unpackR [2, c1, c2] = if pRoot (height ((c1.toNat : Int) * 256 + c2.toNat)) = 0 then none else some (sTurned (lifted ((c1.toNat : Int) * 256 + c2.toNat))) := by
  have r := pRoot_bd (height ((c1.toNat : Int) * 256 + c2.toNat))
  have e : unS 2 (lifted ((c1.toNat : Int) * 256 + c2.toNat)) = sTurned (lifted ((c1.toNat : Int) * 256 + c2.toNat)) := by unfold unS; rw [if_pos (by decide)]
  have e2 : sTurned (lifted ((c1.toNat : Int) * 256 + c2.toNat)) = ⟨(c1.toNat : Int) * 256 + c2.toNat, (-pRoot (height ((c1.toNat : Int) * 256 + c2.toNat))) % 4051, false⟩ := rfl
  rw [unpackR_three, if_pos ⟨hi, hs⟩, e, e2]
  generalize pRoot (height ((c1.toNat : Int) * 256 + c2.toNat)) = Y at *
  have b0 : 0 ≤ (-Y) % 4051 := Int.emod_nonneg _ (by decide)
  have b1 : (-Y) % 4051 < 4051 := Int.emod_lt_of_pos _ (by decide)
  by_cases h : Y = 0
  · rw [if_pos h, bytes_small c1 c2 _ b0 b1 (by subst h; decide), if_neg (by simp)]
  · have ey : (-Y) % 4051 = 4051 - Y := by
      rw [show -Y = (4051 - Y) + 4051 * (-1) by omega, Int.add_mul_emod_self_left]
      exact Int.emod_eq_of_lt (by omega) (by omega)
    rw [if_neg h, bytes_big c1 c2 _ b0 b1 (by rw [ey]; omega), if_pos (by simp)]
theorem read_three (c0 c1 c2 : UInt8) (w : World) : Calls Tryd.prog 91 #[.string ⟨#[c0, c1, c2]⟩] w fun e w' => e = .returned (rdV (unpackR [c0, c1, c2])) ∧ Below w.heap.size w w' := by
  have z1 := c1.toNat_lt; have z2 := c2.toNat_lt
  by_cases lo : (c0.toNat : Int) < 1
  · rw [unpack_no c0 c1 c2 (fun e => by rw [e] at lo; exact absurd lo (by decide)) (by omega)]; exact rd_lo c0 c1 c2 w lo
  by_cases hi : 2 < (c0.toNat : Int)
  · rw [unpack_no c0 c1 c2 (fun e => by rw [e] at hi; exact absurd hi (by decide)) (by omega)]; exact rd_hi c0 c1 c2 w hi
  by_cases hx : 4051 ≤ (c1.toNat : Int) * 256 + c2.toNat
  · have e : unpackR [c0, c1, c2] = none := by
      rw [unpackR_three, if_neg]; intro c; have := ins_iff.mp c.1; omega
    rw [e]; exact rd_out c0 c1 c2 w (by omega) (by omega) hx
  have hin := ins_iff.mpr (show 0 ≤ (c1.toNat : Int) * 256 + c2.toNat ∧ (c1.toNat : Int) * 256 + c2.toNat < 4051 by omega)
  cases hs : isSq (height ((c1.toNat : Int) * 256 + c2.toNat))
  · have e : unpackR [c0, c1, c2] = none := by
      rw [unpackR_three, if_neg]; intro c; rw [hs] at c; exact absurd c.2 (by decide)
    rw [e]; exact rd_no c0 c1 c2 w (by omega) (by omega) (by omega) hin hs
  have hl : Hid (lifted ((c1.toNat : Int) * 256 + c2.toNat) = ⟨(c1.toNat : Int) * 256 + c2.toNat, pRoot (height ((c1.toNat : Int) * 256 + c2.toNat)), false⟩) := rfl
  by_cases h2 : c0.toNat = 2
  · have e2 : c0 = 2 := UInt8.toNat_inj.mp h2
    subst e2
    rw [unpack_two c1 c2 hin hs]
    by_cases hy : pRoot (height ((c1.toNat : Int) * 256 + c2.toNat)) = 0
    · rw [if_pos hy]; exact rd_two0 2 c1 c2 w (by decide) (by decide) (by omega) hin hs _ _ hl (by decide) (by simpa using hy)
    · rw [if_neg hy]; exact rd_two 2 c1 c2 w (by decide) (by decide) (by omega) hin hs _ _ hl (by decide) (by simpa using hy) (lifted_ok hin hs) _ rfl
  · have e1 : c0 = 1 := UInt8.toNat_inj.mp (by show c0.toNat = 1; omega)
    subst e1
    rw [unpack_one c1 c2 hin hs]
    exact rd_one 1 c1 c2 w (by decide) (by decide) (by omega) hin hs _ _ hl (by decide)
theorem read_c (b : ByteArray) (w : World) (hz : b.size ≤ 140737488351232) : Calls Tryd.prog 91 #[.string b] w fun e w' => e = .returned (rdV (unpackR b.data.toList)) ∧ Below w.heap.size w w' := by
  obtain ⟨⟨l⟩⟩ := b
  have len : (⟨⟨l⟩⟩ : ByteArray).size = l.length := rfl
  match l, len with
  | [], _ => exact rd_len _ w rfl rfl hz
  | [c], _ =>
    by_cases h : c = 0
    · subst h; exact rd_far w
    · have e : unpackR [c] = none := by show (if c = 0 then some sFar else none) = none; rw [if_neg h]
      show Calls _ _ _ _ fun e w' => e = .returned (rdV (unpackR [c])) ∧ _
      rw [e]
      exact rd_len1 c w (by rw [beq_eq_false_iff_ne]; intro k; exact h (UInt8.toNat_inj.mp (by show c.toNat = 0; omega)))
  | [_, _], _ => exact rd_len _ w rfl rfl hz
  | [c0, c1, c2], _ => exact read_three c0 c1 c2 w
  | _ :: _ :: _ :: _ :: t, len => exact rd_len _ w (by rw [len, beq_eq_false_iff_ne]; simp only [List.length_cons]; omega) (by rw [len, bne_iff_ne]; simp only [List.length_cons]; omega) hz
end Go.Proofs.YtijemkecjohagaaDoor
