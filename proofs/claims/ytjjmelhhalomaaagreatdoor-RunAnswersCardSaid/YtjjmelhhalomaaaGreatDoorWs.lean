/- Walks of layer bytes. -/
import Derived.Test.YtjjmelhhalomaaaGreatDoorWr
import Derived.Laws.BytesArg
namespace Go.Proofs.YtjjmelhhalomaaaGreatDoor
open Go.RowKit
set_option maxRecDepth 100000
set_option maxHeartbeats 1000000 in
theorem bytesOf_far (x y : Int) (w : World) : Calls Tryz.prog 96 #[.agg #[.int .i64 x, .int .i64 y, .bool true]] w fun e w' => e = .returned (.string ⟨#[0]⟩) ∧ Below w.heap.size w w' := by
  go_enter Tryz.func96, Tryz.ntmps96
  go_wp2
  go_ret
  exact ⟨rfl, by repeat (first | exact Below.refl _ _ | refine below_drewN ?_ _ | refine Below.drew ?_ | refine balloc ?_ _)⟩
theorem conv3 (w : World) (b : Nat) (p q r : Int) (h0 : w.cell? ⟨b, 0, none⟩ = some (.int .u8 p)) (h1 : w.cell? ⟨b, 1, none⟩ = some (.int .u8 q)) (h2 : w.cell? ⟨b, 2, none⟩ = some (.int .u8 r)) :
    Sem.run Tryz.prog (convert 62 9 (.slice (some ⟨b, 0, none⟩) 3 3)) w = .ok (.string (strOfNums [p, q, r])) w := by
  refine run_convert_bytes_arg w 62 5 Tryz.underlying62 Tryz.underlying5 b 0 3 3 [p, q, r] rfl ?_ 9 Tryz.underlying9
  intro i hi
  have hi' : i = 0 ∨ i = 1 ∨ i = 2 := by omega
  rcases hi' with rfl | rfl | rfl
  · exact h0
  · exact h1
  · exact h2
set_option maxHeartbeats 1000000 in
theorem bytesOf_big (x y : Int) (w : World) (x0 : 0 ≤ x) (x1 : x < 4051) (y0 : 0 ≤ y) (y1 : y < 4051) (h : pOf (-y) < y) : Calls Tryz.prog 96 #[.agg #[.int .i64 x, .int .i64 y, .bool false]] w fun e w' => e = .returned (.string (strOfNums [2, x / 256, x % 256])) ∧ Below w.heap.size w w' := by
  go_enter Tryz.func96, Tryz.ntmps96
  go_wp2
  go_quiet (first | (go_at_call 91; exact quiet_left (primeOf_c _ _)))
  have hcv := conv3 (((w.alloc (.cells #[.int .i64 x, .int .i64 y, .bool false] 28)).drewN nq).alloc (.cells #[.int .u8 2, .int .u8 (x / 256), .int .u8 (x % 256)] 5)) (w.heap.size + 1) 2 (x / 256) (x % 256) (by go_simp) (by go_simp) (by go_simp)
  go_wp2
  go_ret
  exact ⟨rfl, balloc (below_drewN (below_alloc _ _) _) _⟩
set_option maxHeartbeats 1000000 in
theorem bytesOf_small (x y : Int) (w : World) (x0 : 0 ≤ x) (x1 : x < 4051) (y0 : 0 ≤ y) (y1 : y < 4051) (h : ¬ pOf (-y) < y) : Calls Tryz.prog 96 #[.agg #[.int .i64 x, .int .i64 y, .bool false]] w fun e w' => e = .returned (.string (strOfNums [1, x / 256, x % 256])) ∧ Below w.heap.size w w' := by
  go_enter Tryz.func96, Tryz.ntmps96
  go_wp2
  go_quiet (first | (go_at_call 91; exact quiet_left (primeOf_c _ _)))
  have hcv := conv3 (((w.alloc (.cells #[.int .i64 x, .int .i64 y, .bool false] 28)).drewN nq).alloc (.cells #[.int .u8 1, .int .u8 (x / 256), .int .u8 (x % 256)] 5)) (w.heap.size + 1) 1 (x / 256) (x % 256) (by go_simp) (by go_simp) (by go_simp)
  go_wp2
  go_ret
  exact ⟨rfl, balloc (below_drewN (below_alloc _ _) _) _⟩
/-- A right spot's bytes. -/
def sBytes (s : Sp) : ByteArray := if s.far = true then ⟨#[0]⟩ else if pOf (-s.y) < s.y then strOfNums [2, s.x / 256, s.x % 256] else strOfNums [1, s.x / 256, s.x % 256]
theorem ret_string {a b : ByteArray} (h : a = b) : Ending.returned (.string a) = .returned (.string b) := by rw [h]
theorem bytesOf_c (s : Sp) (w : World) (h : Ok s) : Calls Tryz.prog 96 #[spV s] w fun e w' => e = .returned (.string (sBytes s)) ∧ Below w.heap.size w w' := by
  have x0 := h.x0; have x1 := h.x1; have y0 := h.y0; have y1 := h.y1
  obtain ⟨x, y, f⟩ := s
  simp only at x0 x1 y0 y1
  cases f
  · by_cases hy : pOf (-y) < y
    · have e : sBytes ⟨x, y, false⟩ = strOfNums [2, x / 256, x % 256] := by simp [sBytes, hy]
      rw [e]; exact bytesOf_big x y w x0 x1 y0 y1 hy
    · have e : sBytes ⟨x, y, false⟩ = strOfNums [1, x / 256, x % 256] := by simp [sBytes, hy]
      rw [e]; exact bytesOf_small x y w x0 x1 y0 y1 hy
  · exact bytesOf_far x y w
set_option maxHeartbeats 1000000 in
theorem pack_ok (s : Sp) (w : World) (hF : FarAt w) (h : Ok s) : Calls Tryz.prog 127 #[spV s] w fun e w' => e = .returned (.tuple #[.string (sBytes s), .nilIface]) ∧ Below w.heap.size w w' := by
  go_enter Tryz.func127, Tryz.ntmps127
  go_wp2_with fail
  refine (check_ok s _ (hF.below (below_alloc w _)) h).mono ?_; rintro e w1 ⟨rfl, hb⟩
  obtain ⟨hc, hf⟩ := bcell hb
  have s0 : w.heap.size < w1.heap.size := by have := hb.size; simp at this; omega
  have hbb := below_seq (below_alloc w _) hb
  clear hb
  go_wp2_with fail
  refine (bytesOf_c s _ h).mono ?_; rintro e w2 ⟨rfl, hb⟩
  have hb2 := below_seq hbb hb
  clear hb
  go_wp2
  go_ret2
  exact ⟨rfl, hb2⟩
set_option maxHeartbeats 1000000 in
theorem pack_bad (s : Sp) (w : World) (hF : FarAt w) (h : sCheck s ≠ 0) : Calls Tryz.prog 127 #[spV s] w fun e w' => e = .returned (.tuple #[.string ⟨#[]⟩, .iface 84 (.int .i64 (sCheck s))]) ∧ Below w.heap.size w w' := by
  go_enter Tryz.func127, Tryz.ntmps127
  go_wp2_with fail
  refine (check_bad s _ (hF.below (below_alloc w _)) h).mono ?_; rintro e w1 ⟨rfl, hb⟩
  have hbb := below_seq (below_alloc w _) hb
  clear hb
  go_wp2
  go_ret2
  exact ⟨rfl, hbb⟩
end Go.Proofs.YtjjmelhhalomaaaGreatDoor
