/- Walk of hash.Long: the number of any text. -/
import Derived.Test.YtjjmelhhalomaaaGreatDoorBs
import Derived.Test.YtjjmelhhalomaaaGreatDoorHs
import Derived.WalkKit
import Derived.Lib.Hide
import Derived.Lib.ConvBytes
import Derived.WalkSpells
import Derived.WalkLawsBesides
namespace Go.Proofs.YtjjmelhhalomaaaGreatDoor
open Go.RowKit
/-- '[]byte(s)': a new row that holds the bytes; what was there is there. -/
theorem conv_bytes (s : ByteArray) (w : World) : ∃ (cap : Nat) (w1 : World), (convert 9 62 (.string s)).run Tryz.prog w = .ok (.slice (some ⟨w.heap.size, 0, none⟩) s.size cap) w1 ∧ Below w.heap.size w w1 ∧
    (∀ j, j < s.size → w1.cell? ⟨w.heap.size, j, none⟩ = some (.int .u8 (s.data.toList.getD j 0).toNat)) := by
  refine ⟨_, _, Lib.run_convert_string_bytes w 9 62 5 s Tryz.underlying9 Tryz.underlying62 Tryz.underlying5, ?_, fun j hj => Lib.bytesWorld_cell w 5 s j hj⟩
  exact ⟨rfl, rfl, rfl, by rw [Lib.bytesWorld_size]; omega, fun k hk => Lib.bytesWorld_at_old w _ s k hk⟩
set_option maxHeartbeats 400000 in
theorem hashLong_c (s : ByteArray) (w : World) (hs : s.size ≤ 9223372036854775807) : Calls Tryz.prog 126 #[.string s] w fun e w' => e = .returned (.int .i64 (lng s.data.toList)) ∧ Below w.heap.size w w' := by
  obtain ⟨cap, w1, hconv, hb, hc⟩ := conv_bytes s w
  have hlen : s.data.toList.length = s.size := rfl
  have HL := Lib.hid hlen; clear hlen
  have HC := Lib.hid hc; clear hc
  have HS := Lib.hid hs
  go_enter Tryz.func126, Tryz.ntmps126
  go_wp2
  go_loop [3, 9] (fun n i => ∃ k : Nat, k ≤ s.size ∧ i = .int .i64 k ∧ n = .int .i64 (lng (s.data.toList.take k))) (fun _ i => s.size - (intOf i).toNat)
  case atStart => exact ⟨0, Nat.zero_le _, rfl, by rw [List.take_zero, lng_nil]⟩
  case round =>
    obtain ⟨k, hk, rfl, rfl⟩ := hrel
    have h1 := (lng_bd (s.data.toList.take k)).1
    have h2 := (lng_bd (s.data.toList.take k)).2
    by_cases hlt : k < s.size
    · obtain ⟨c, hcell, h3, ht⟩ : ∃ c : UInt8, w1.cell? ⟨w.heap.size, k, none⟩ = some (.int .u8 c.toNat) ∧ c.toNat < 256 ∧ Hid (lng (s.data.toList.take (k + 1)) = (lng (s.data.toList.take k) * 263 + (c.toNat : Int) + 1) % 1000003) := by
        have hl : k < s.data.toList.length := by have := HL.out; omega
        refine ⟨s.data.toList[k], ?_, UInt8.toNat_lt _, lng_take s.data.toList k hl⟩
        have := HC.out k hlt
        rw [List.getD_eq_getElem?_getD, List.getElem?_eq_getElem hl] at this
        exact this
      go_wp2
      go_round
      case rel => exact ⟨k + 1, by omega, by go_num, by rw [ht.out]⟩
      case measure => simp [intOf]; omega
    · go_wp2
      go_ret
      exact ⟨ret_int (by rw [List.take_of_length_le (by have := HL.out; omega)]), hb⟩
end Go.Proofs.YtjjmelhhalomaaaGreatDoor
