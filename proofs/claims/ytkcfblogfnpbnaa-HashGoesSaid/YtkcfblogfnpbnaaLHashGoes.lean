/- The law HashGoes, walked: the number of a text with a byte behind it. -/
import Derived.Test.YtkcfblogfnpbnaaWh
import Derived.OpenShut
namespace Go.Proofs.Ytkcfblogfnpbnaa
open Go.RowKit
theorem byte_of {c : Int} (hc : (Lit.int .u8 c).wf = true) : ∃ b : UInt8, c = (b.toNat : Int) := by
  have h := bounds_u8 hc
  refine ⟨UInt8.ofNat c.toNat, ?_⟩
  rw [UInt8.toNat_ofNat', Nat.mod_eq_of_lt (by omega)]; omega
theorem conv_one (b : UInt8) (w : World) : (convert 23 9 (.slice (some ⟨w.heap.size, 0, none⟩) 1 1)).run Try.prog (w.alloc (.cells #[.int .u8 b.toNat] 5)) = .ok (.string ⟨#[b]⟩) (w.alloc (.cells #[.int .u8 b.toNat] 5)) :=
  run_convert_bytes_back (P := Try.prog) _ _ _ _ ⟨w.heap.size, 0, none⟩ 1 [b] Try.underlying23 Try.underlying5 Try.underlying9 (fun j hj => cell_one_new w (.int .u8 b.toNat) 5 j _ (by
    match j, hj with
    | 0, _ => rfl))
theorem lng_app (s : ByteArray) (b : UInt8) : lng (s ++ ⟨#[b]⟩ : ByteArray).data.toList = (lng s.data.toList * 263 + (b.toNat : Int) + 1) % 1000003 := by
  rw [← lng_snoc]; congr 1
set_option maxHeartbeats 1000000 in
theorem hashGoes_law (s : ByteArray) (hs : s.size ≤ 140737488351232) (c : Int) (hc : (Lit.int .u8 c).wf = true) (w : World) :
    Calls Try.prog 3 #[.string s, .int .u8 c] w fun e w' => e = .returned (.bool true) ∧ Below w.heap.size w w' := by
  obtain ⟨b, rfl⟩ := byte_of hc
  have hk := conv_one b w
  have hb := lng_b
  have hsz : (s ++ ⟨#[b]⟩ : ByteArray).size ≤ 9223372036854775807 := by rw [ByteArray.size_append]; show s.size + 1 ≤ _; omega
  have h1 := (lng_bd s.data.toList).1
  have h2 := (lng_bd s.data.toList).2
  have h3 : b.toNat < 256 := b.toNat_lt
  go_enter Try.func3, Try.ntmps3
  go_wp2_with fail
  refine (hashLong_c _ _ hsz).mono ?_; rintro e w1 ⟨rfl, hb1⟩
  rw [lng_app]
  clear hsz hk
  go_wp2_with fail
  refine (hashLong_c _ _ (by decide)).mono ?_; rintro e w2 ⟨rfl, hb2⟩
  go_wp2_with fail
  refine (hashLong_c _ _ (by omega)).mono ?_; rintro e w3 ⟨rfl, hb3⟩
  go_wp2
  go_ret
  exact ⟨rfl, below_seq (below_seq (below_seq (below_alloc _ _) hb1) hb2) hb3⟩
end Go.Proofs.Ytkcfblogfnpbnaa
