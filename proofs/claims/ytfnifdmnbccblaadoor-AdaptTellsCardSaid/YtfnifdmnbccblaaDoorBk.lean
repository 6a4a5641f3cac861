/- Bytes of a spot are read as it. No program. -/
import Derived.Test.YtfnifdmnbccblaaDoorUm
namespace Go.Proofs.YtfnifdmnbccblaaDoor
open Go.RowKit
set_option maxRecDepth 100000
set_option linter.unusedVariables false
set_option linter.unusedSimpArgs false
/-- Two bytes of a place are it again. -/
theorem two_bytes {x : Int} (h0 : 0 ≤ x) (h1 : x < 4051) : ((UInt8.ofNat (x / 256).toNat).toNat : Int) * 256 + ((UInt8.ofNat (x % 256).toNat).toNat : Int) = x := by
  rw [UInt8.toNat_ofNat', UInt8.toNat_ofNat']; omega
theorem sBytes_far {s : Sp} (hf : s.far = true) : (sBytes s).data.toList = [0] := by unfold sBytes; rw [if_pos hf]
theorem sBytes_big {s : Sp} (hf : s.far = false) (hy : pOf (-s.y) < s.y) : (sBytes s).data.toList = [2, UInt8.ofNat (s.x / 256).toNat, UInt8.ofNat (s.x % 256).toNat] := by
  unfold sBytes; rw [if_neg (by rw [hf]; decide), if_pos hy, strOfNums_data]; rfl
theorem sBytes_small {s : Sp} (hf : s.far = false) (hy : ¬ pOf (-s.y) < s.y) : (sBytes s).data.toList = [1, UInt8.ofNat (s.x / 256).toNat, UInt8.ofNat (s.x % 256).toNat] := by
  unfold sBytes; rw [if_neg (by rw [hf]; decide), if_neg hy, strOfNums_data]; rfl
theorem unpack_sBytes {s : Sp} (h : Ok s) : unpackR (sBytes s).data.toList = some s := by
  cases hf : s.far
  · have hx := two_bytes h.x0 h.x1
    have hs := ok_isSq h hf
    by_cases hy : pOf (-s.y) < s.y
    · rw [sBytes_big hf hy, unpackR_three, hx, if_pos ⟨h.ins, hs⟩]
      have e : unS 2 (lifted s.x) = s := by unfold unS; rw [if_pos (by decide)]; exact (lifted_gt h hf hy).symm
      rw [e, if_pos]; rw [ByteArray.toList_eq, sBytes_big hf hy]; simp
    · rw [sBytes_small hf hy, unpackR_three, hx, if_pos ⟨h.ins, hs⟩]
      have e : unS 1 (lifted s.x) = s := by unfold unS; rw [if_neg (by decide)]; exact (lifted_le h hf (by omega)).symm
      rw [e, if_pos]; rw [ByteArray.toList_eq, sBytes_small hf hy]; simp
  · rw [sBytes_far hf]; show (if (0 : UInt8) = 0 then some sFar else none) = some s
    rw [if_pos rfl, h.far_eq hf]
theorem unpack_some {l : List UInt8} {s : Sp} (h : unpackR l = some s) : Ok s ∧ (sBytes s).data.toList = l := by
  match l, h with
  | [c], h =>
    have h : (if c = 0 then some sFar else none) = some s := h
    split at h
    · rename_i e; cases h; exact ⟨ok_far, by rw [sBytes_far rfl, e]⟩
    · cases h
  | [c0, c1, c2], h =>
    rw [unpackR_three] at h
    split at h
    · rename_i hi
      split at h
      · rename_i he
        have hl := lifted_ok hi.1 hi.2
        rw [ByteArray.toList_eq] at he
        cases h
        refine ⟨?_, by simpa using he⟩
        unfold unS; split
        · exact (turned_ok hl).1
        · exact hl
      · cases h
    · cases h
  | [], h => cases h
  | [_, _], h => cases h
  | _ :: _ :: _ :: _ :: _, h => cases h
theorem bytes_ext {a b : ByteArray} (h : a.data.toList = b.data.toList) : a = b := by
  obtain ⟨⟨x⟩⟩ := a; obtain ⟨⟨y⟩⟩ := b; simp only at h; rw [h]
theorem sBytes_inj {s t : Sp} (hs : Ok s) (ht : Ok t) (h : sBytes s = sBytes t) : s = t := by
  have := unpack_sBytes hs; rw [h, unpack_sBytes ht] at this; exact (Option.some.inj this).symm
end Go.Proofs.YtfnifdmnbccblaaDoor
