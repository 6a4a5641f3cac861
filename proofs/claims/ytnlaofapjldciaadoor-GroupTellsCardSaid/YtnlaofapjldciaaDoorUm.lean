/- Walk of bytes.Unpack: all ways. -/
import Derived.Test.YtnlaofapjldciaaDoorUn
namespace Go.Proofs.YtnlaofapjldciaaDoor
open Go.RowKit
set_option maxRecDepth 100000
set_option linter.unusedVariables false
set_option linter.unusedSimpArgs false
set_option maxHeartbeats 1000000 in
theorem unpack_far (w : World) (hF : FarAt w) : Calls Tryd.prog 81 #[.string ⟨#[0]⟩] w fun e w' => e = .returned (.tuple #[spV sFar, .nilIface]) ∧ Below w.heap.size w w' := by
  obtain ⟨c0, c1, c2, hlt⟩ := hF
  go_enter Tryd.func81, Tryd.ntmps81
  go_wp2
  refine bodyPost_ret (v := .tuple #[spV sFar, .nilIface]) (by simp [results, Tryd.results81, go_sem, sFar]) rfl ⟨rfl, ?_⟩
  repeat (first | exact Below.refl _ _ | refine balloc ?_ _)
set_option maxHeartbeats 1000000 in
theorem unpack_len (b : ByteArray) (w : World) (h1 : (b.toList == [0]) = false) (h2 : ((b.size : Int) != 3) = true) (hz : b.size ≤ 140737488351232) : Calls Tryd.prog 81 #[.string b] w fun e w' => e = .returned (.tuple #[spV ⟨0, 0, false⟩, .iface 125 (.int .i64 2)]) ∧ Below w.heap.size w w' := by
  go_enter Tryd.func81, Tryd.ntmps81
  go_wp2
  refine bodyPost_ret (v := .tuple #[spV ⟨0, 0, false⟩, .iface 125 (.int .i64 2)]) (by simp [results, Tryd.results81, go_sem]) rfl ⟨rfl, ?_⟩
  repeat (first | exact Below.refl _ _ | refine balloc ?_ _)
def unpackR : List UInt8 → Option Sp
  | [c] => if c = 0 then some sFar else none
  | [c0, c1, c2] => if inside ((c1.toNat : Int) * 256 + (c2.toNat : Int)) = true ∧ isSq (height ((c1.toNat : Int) * 256 + (c2.toNat : Int))) = true then
      (if ((sBytes (unS c0 (lifted ((c1.toNat : Int) * 256 + (c2.toNat : Int))))).toList == [c0, c1, c2]) = true then some (unS c0 (lifted ((c1.toNat : Int) * 256 + (c2.toNat : Int)))) else none) else none
  | _ => none
theorem unpackR_three (c0 c1 c2 : UInt8) : unpackR [c0, c1, c2] = if inside ((c1.toNat : Int) * 256 + (c2.toNat : Int)) = true ∧ isSq (height ((c1.toNat : Int) * 256 + (c2.toNat : Int))) = true then
      (if ((sBytes (unS c0 (lifted ((c1.toNat : Int) * 256 + (c2.toNat : Int))))).toList == [c0, c1, c2]) = true then some (unS c0 (lifted ((c1.toNat : Int) * 256 + (c2.toNat : Int)))) else none) else none := rfl
def unV : Option Sp → Value
  | some s => .tuple #[spV s, .nilIface]
  | none => .tuple #[spV ⟨0, 0, false⟩, .iface 125 (.int .i64 2)]
theorem unpack_c (b : ByteArray) (w : World) (hF : FarAt w) (hz : b.size ≤ 140737488351232) : Calls Tryd.prog 81 #[.string b] w fun e w' => e = .returned (unV (unpackR b.data.toList)) ∧ Below w.heap.size w w' := by
  obtain ⟨⟨l⟩⟩ := b
  have len : (⟨⟨l⟩⟩ : ByteArray).size = l.length := rfl
  have tl : (⟨⟨l⟩⟩ : ByteArray).toList = l := by rw [ByteArray.toList_eq]
  by_cases h1 : l = [0]
  · subst h1; exact unpack_far w hF
  by_cases h3 : l.length = 3
  · match l, h3 with
    | [c0, c1, c2], _ =>
      have hlt1 := c1.toNat_lt; have hlt2 := c2.toNat_lt
      by_cases hi : inside ((c1.toNat : Int) * 256 + (c2.toNat : Int)) = true
      · by_cases hs : isSq (height ((c1.toNat : Int) * 256 + (c2.toNat : Int))) = true
        · refine unpack_core c0 c1 c2 w (lifted ((c1.toNat : Int) * 256 + (c2.toNat : Int))) .nilIface _ hF (fun w => lift_yes _ w hi hs) (fun k e => by cases e) (Or.inl ⟨rfl, lifted_ok hi hs⟩) (fun _ => ?_)
          show unV (unpackR [c0, c1, c2]) = _
          rw [unpackR_three]; rw [if_pos ⟨hi, hs⟩]; split <;> rfl
        · refine unpack_core c0 c1 c2 w ⟨0, 0, false⟩ (.iface 125 (.int .i64 5)) _ hF (fun w => lift_no _ w hi (by simpa using hs)) (fun k e => ?_) (Or.inr ⟨5, rfl⟩) (fun e => by cases e)
          show unV (unpackR [c0, c1, c2]) = _
          rw [unpackR_three]; rw [if_neg (fun h => hs h.2)]; rfl
      · refine unpack_core c0 c1 c2 w ⟨0, 0, false⟩ (.iface 125 (.int .i64 1)) _ hF (fun w => lift_out _ w (by simpa using hi)) (fun k e => ?_) (Or.inr ⟨1, rfl⟩) (fun e => by cases e)
        show unV (unpackR [c0, c1, c2]) = _
        rw [unpackR_three]; rw [if_neg (fun h => hi h.1)]; rfl
  · have e : unpackR l = none := by
      match l, h1, h3 with
      | [], _, _ => rfl
      | [c], h, _ => show (if c = 0 then some sFar else none) = none; rw [if_neg (fun e => h (by rw [e]))]
      | [_, _], _, _ => rfl
      | [_, _, _], _, h => exact absurd rfl h
      | _ :: _ :: _ :: _ :: _, _, _ => rfl
    have := unpack_len ⟨⟨l⟩⟩ w (by rw [tl]; simpa using h1) (by rw [len]; rw [bne_iff_ne]; omega) hz
    rw [show unpackR (⟨⟨l⟩⟩ : ByteArray).data.toList = none from e]
    exact this
end Go.Proofs.YtnlaofapjldciaaDoor
