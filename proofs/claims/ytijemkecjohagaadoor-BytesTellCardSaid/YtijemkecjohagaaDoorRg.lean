/- Walk of the document's answer, bytes: ReadBytes. -/
import Derived.Test.YtijemkecjohagaaDoorRf
import Derived.Test.YtijemkecjohagaaDoorUm
namespace Go.Proofs.YtijemkecjohagaaDoor
open Go.RowKit
set_option maxRecDepth 100000
set_option linter.unusedVariables false
set_option linter.unusedSimpArgs false
set_option maxHeartbeats 1000000 in
theorem rd_far (w : World) : Calls Tryd.prog 91 #[.string ⟨#[0]⟩] w fun e w' => e = .returned (.tuple #[spV ⟨0, 0, true⟩, .bool true]) ∧ Below w.heap.size w w' := by
  go_enter Tryd.func91, Tryd.ntmps91
  go_wp2
  refine bodyPost_ret (v := .tuple #[spV ⟨0, 0, true⟩, .bool true]) (by simp [results, Tryd.results91, go_sem]) rfl ⟨rfl, ?_⟩
  repeat (first | exact Below.refl _ _ | refine balloc ?_ _ | refine Below.drew ?_ | refine below_drewN ?_ _)
set_option maxHeartbeats 1000000 in
theorem rd_len1 (c : UInt8) (w : World) (h : ((c.toNat : Int) == 0) = false) : Calls Tryd.prog 91 #[.string ⟨#[c]⟩] w fun e w' => e = .returned (.tuple #[spV ⟨0, 0, false⟩, .bool false]) ∧ Below w.heap.size w w' := by
  have i0 : (⟨#[c]⟩ : ByteArray)[0]'(show 0 < 1 by decide) = c := rfl
  go_enter Tryd.func91, Tryd.ntmps91
  go_wp2
  refine bodyPost_ret (v := .tuple #[spV ⟨0, 0, false⟩, .bool false]) (by simp [results, Tryd.results91, go_sem]) rfl ⟨rfl, ?_⟩
  repeat (first | exact Below.refl _ _ | refine balloc ?_ _ | refine Below.drew ?_ | refine below_drewN ?_ _)
set_option maxHeartbeats 1000000 in
theorem rd_len (b : ByteArray) (w : World) (h1 : ((b.size : Int) == 1) = false) (h3 : ((b.size : Int) != 3) = true) (hz : b.size ≤ 140737488351232) : Calls Tryd.prog 91 #[.string b] w fun e w' => e = .returned (.tuple #[spV ⟨0, 0, false⟩, .bool false]) ∧ Below w.heap.size w w' := by
  go_enter Tryd.func91, Tryd.ntmps91
  go_wp2
  refine bodyPost_ret (v := .tuple #[spV ⟨0, 0, false⟩, .bool false]) (by simp [results, Tryd.results91, go_sem]) rfl ⟨rfl, ?_⟩
  repeat (first | exact Below.refl _ _ | refine balloc ?_ _ | refine Below.drew ?_ | refine below_drewN ?_ _)
set_option maxHeartbeats 1000000 in
theorem rd_lo (c0 c1 c2 : UInt8) (w : World) (h : (c0.toNat : Int) < 1) : Calls Tryd.prog 91 #[.string ⟨#[c0, c1, c2]⟩] w fun e w' => e = .returned (.tuple #[spV ⟨0, 0, false⟩, .bool false]) ∧ Below w.heap.size w w' := by
  have i0 : (⟨#[c0, c1, c2]⟩ : ByteArray)[0]'(show 0 < 3 by decide) = c0 := rfl
  have i1 : (⟨#[c0, c1, c2]⟩ : ByteArray)[1]'(show 1 < 3 by decide) = c1 := rfl
  have i2 : (⟨#[c0, c1, c2]⟩ : ByteArray)[2]'(show 2 < 3 by decide) = c2 := rfl
  go_enter Tryd.func91, Tryd.ntmps91
  go_wp2
  refine bodyPost_ret (v := .tuple #[spV ⟨0, 0, false⟩, .bool false]) (by simp [results, Tryd.results91, go_sem]) rfl ⟨rfl, ?_⟩
  repeat (first | exact Below.refl _ _ | refine balloc ?_ _ | refine Below.drew ?_ | refine below_drewN ?_ _)
set_option maxHeartbeats 1000000 in
theorem rd_hi (c0 c1 c2 : UInt8) (w : World) (h : 2 < (c0.toNat : Int)) : Calls Tryd.prog 91 #[.string ⟨#[c0, c1, c2]⟩] w fun e w' => e = .returned (.tuple #[spV ⟨0, 0, false⟩, .bool false]) ∧ Below w.heap.size w w' := by
  have i0 : (⟨#[c0, c1, c2]⟩ : ByteArray)[0]'(show 0 < 3 by decide) = c0 := rfl
  have i1 : (⟨#[c0, c1, c2]⟩ : ByteArray)[1]'(show 1 < 3 by decide) = c1 := rfl
  have i2 : (⟨#[c0, c1, c2]⟩ : ByteArray)[2]'(show 2 < 3 by decide) = c2 := rfl
  go_enter Tryd.func91, Tryd.ntmps91
  go_wp2
  refine bodyPost_ret (v := .tuple #[spV ⟨0, 0, false⟩, .bool false]) (by simp [results, Tryd.results91, go_sem]) rfl ⟨rfl, ?_⟩
  repeat (first | exact Below.refl _ _ | refine balloc ?_ _ | refine Below.drew ?_ | refine below_drewN ?_ _)
set_option maxHeartbeats 1000000 in
theorem rd_out (c0 c1 c2 : UInt8) (w : World) (l : 1 ≤ (c0.toNat : Int)) (u : (c0.toNat : Int) ≤ 2) (h : 4051 ≤ (c1.toNat : Int) * 256 + c2.toNat) : Calls Tryd.prog 91 #[.string ⟨#[c0, c1, c2]⟩] w fun e w' => e = .returned (.tuple #[spV ⟨0, 0, false⟩, .bool false]) ∧ Below w.heap.size w w' := by
  have i0 : (⟨#[c0, c1, c2]⟩ : ByteArray)[0]'(show 0 < 3 by decide) = c0 := rfl
  have i1 : (⟨#[c0, c1, c2]⟩ : ByteArray)[1]'(show 1 < 3 by decide) = c1 := rfl
  have i2 : (⟨#[c0, c1, c2]⟩ : ByteArray)[2]'(show 2 < 3 by decide) = c2 := rfl
  have w1 : IntKind.i64.wrap (c1.toNat : Int) = c1.toNat := IntWalk.i64_in _ (by have := c1.toNat_lt; omega)
  have w2 : IntKind.i64.wrap (c2.toNat : Int) = c2.toNat := IntWalk.i64_in _ (by have := c2.toNat_lt; omega)
  have w3 : IntKind.i64.wrap ((c1.toNat : Int) * 256) = (c1.toNat : Int) * 256 := IntWalk.i64_in _ (by have := c1.toNat_lt; omega)
  have w4 : IntKind.i64.wrap ((c1.toNat : Int) * 256 + c2.toNat) = (c1.toNat : Int) * 256 + c2.toNat := IntWalk.i64_in _ (by have := c1.toNat_lt; have := c2.toNat_lt; omega)
  go_enter Tryd.func91, Tryd.ntmps91
  go_wp2
  go_quiet (fail)
  go_wp2
  refine bodyPost_ret (v := .tuple #[spV ⟨0, 0, false⟩, .bool false]) (by simp [results, Tryd.results91, go_sem]) rfl ⟨rfl, ?_⟩
  exact set3_below (below_drewN (below_alloc _ _) _) (Nat.le_refl _)
theorem SpAt.zero_at {w : World} {b : Nat} (h0 : w.cell? ⟨b, 0, none⟩ = some (.int .i64 0)) (h1 : w.cell? ⟨b, 1, none⟩ = some (.int .i64 0)) (h2 : w.cell? ⟨b, 2, none⟩ = some (.bool false)) (f0 : w.frozen? ⟨b, 0, none⟩ = false) (f1 : w.frozen? ⟨b, 1, none⟩ = false) (f2 : w.frozen? ⟨b, 2, none⟩ = false) (hl : b < w.heap.size) : SpAt w b ⟨0, 0, false⟩ := ⟨h0, h1, h2, f0, f1, f2, hl⟩
set_option maxHeartbeats 2000000 in
theorem rd_no (c0 c1 c2 : UInt8) (w : World) (l : 1 ≤ (c0.toNat : Int)) (u : (c0.toNat : Int) ≤ 2) (hx : (c1.toNat : Int) * 256 + c2.toNat < 4051) (hi : inside ((c1.toNat : Int) * 256 + c2.toNat) = true) (hs : isSq (height ((c1.toNat : Int) * 256 + c2.toNat)) = false) : Calls Tryd.prog 91 #[.string ⟨#[c0, c1, c2]⟩] w fun e w' => e = .returned (.tuple #[spV ⟨0, 0, false⟩, .bool false]) ∧ Below w.heap.size w w' := by
  have i0 : (⟨#[c0, c1, c2]⟩ : ByteArray)[0]'(show 0 < 3 by decide) = c0 := rfl
  have i1 : (⟨#[c0, c1, c2]⟩ : ByteArray)[1]'(show 1 < 3 by decide) = c1 := rfl
  have i2 : (⟨#[c0, c1, c2]⟩ : ByteArray)[2]'(show 2 < 3 by decide) = c2 := rfl
  have w1 : IntKind.i64.wrap (c1.toNat : Int) = c1.toNat := IntWalk.i64_in _ (by have := c1.toNat_lt; omega)
  have w2 : IntKind.i64.wrap (c2.toNat : Int) = c2.toNat := IntWalk.i64_in _ (by have := c2.toNat_lt; omega)
  have w3 : IntKind.i64.wrap ((c1.toNat : Int) * 256) = (c1.toNat : Int) * 256 := IntWalk.i64_in _ (by have := c1.toNat_lt; omega)
  have w4 : IntKind.i64.wrap ((c1.toNat : Int) * 256 + c2.toNat) = (c1.toNat : Int) * 256 + c2.toNat := IntWalk.i64_in _ (by have := c1.toNat_lt; have := c2.toNat_lt; omega)
  go_enter Tryd.func91, Tryd.ntmps91
  go_wp2
  go_quiet (fail)
  go_wp2_with fail
  refine (refLift_n ((c1.toNat : Int) * 256 + c2.toNat) _ hi hs).mono ?_; rintro e w5 ⟨rfl, hb⟩
  have hB := below_seq (below_drewN (below_alloc _ _) _) hb
  have hr := ((SpAt.fresh w 0 0 false 24).drewN nq).below hb
  obtain ⟨r0, r1, r2, fr0, fr1, fr2, rl⟩ := hr
  clear hb
  go_wp2
  have k := set3_cell (w := w5) (x := .int .i64 0) (y := .int .i64 0) (z := .bool false) r0 r1 r2
  refine bodyPost_ret (v := .tuple #[spV ⟨0, 0, false⟩, .bool false]) (by simp [results, Tryd.results91, go_sem, k.1, k.2.1, k.2.2, rl]) rfl ⟨rfl, balloc (set3_below hB (Nat.le_refl _)) _⟩
set_option maxHeartbeats 2000000 in
theorem rd_one (c0 c1 c2 : UInt8) (w : World) (l : 1 ≤ (c0.toNat : Int)) (u : (c0.toNat : Int) ≤ 2) (hx : (c1.toNat : Int) * 256 + c2.toNat < 4051) (hi : inside ((c1.toNat : Int) * 256 + c2.toNat) = true) (hs : isSq (height ((c1.toNat : Int) * 256 + c2.toNat)) = true) (x Y : Int) (hl : Hid (lifted ((c1.toNat : Int) * 256 + c2.toNat) = ⟨x, Y, false⟩)) (hc : ((c0.toNat : Int) == 2) = false) : Calls Tryd.prog 91 #[.string ⟨#[c0, c1, c2]⟩] w fun e w' => e = .returned (.tuple #[spV ⟨x, Y, false⟩, .bool true]) ∧ Below w.heap.size w w' := by
  have i0 : (⟨#[c0, c1, c2]⟩ : ByteArray)[0]'(show 0 < 3 by decide) = c0 := rfl
  have i1 : (⟨#[c0, c1, c2]⟩ : ByteArray)[1]'(show 1 < 3 by decide) = c1 := rfl
  have i2 : (⟨#[c0, c1, c2]⟩ : ByteArray)[2]'(show 2 < 3 by decide) = c2 := rfl
  have w1 : IntKind.i64.wrap (c1.toNat : Int) = c1.toNat := IntWalk.i64_in _ (by have := c1.toNat_lt; omega)
  have w2 : IntKind.i64.wrap (c2.toNat : Int) = c2.toNat := IntWalk.i64_in _ (by have := c2.toNat_lt; omega)
  have w3 : IntKind.i64.wrap ((c1.toNat : Int) * 256) = (c1.toNat : Int) * 256 := IntWalk.i64_in _ (by have := c1.toNat_lt; omega)
  have w4 : IntKind.i64.wrap ((c1.toNat : Int) * 256 + c2.toNat) = (c1.toNat : Int) * 256 + c2.toNat := IntWalk.i64_in _ (by have := c1.toNat_lt; have := c2.toNat_lt; omega)
  go_enter Tryd.func91, Tryd.ntmps91
  go_wp2
  go_quiet (fail)
  go_wp2_with fail
  refine (refLift_y ((c1.toNat : Int) * 256 + c2.toNat) ⟨x, Y, false⟩ _ hi hs hl).mono ?_; rintro e w5 ⟨rfl, hb⟩
  have hB := below_seq (below_drewN (below_alloc _ _) _) hb
  have hr := ((SpAt.fresh w 0 0 false 24).drewN nq).below hb
  obtain ⟨r0, r1, r2, fr0, fr1, fr2, rl⟩ := hr
  clear hb
  go_wp2
  have k := set3_cell (w := w5) (x := .int .i64 x) (y := .int .i64 Y) (z := .bool false) r0 r1 r2
  refine bodyPost_ret (v := .tuple #[spV ⟨x, Y, false⟩, .bool true]) (by simp [results, Tryd.results91, go_sem, k.1, k.2.1, k.2.2, rl]) rfl ⟨rfl, balloc (set3_below hB (Nat.le_refl _)) _⟩
set_option maxHeartbeats 2000000 in
theorem rd_two0 (c0 c1 c2 : UInt8) (w : World) (l : 1 ≤ (c0.toNat : Int)) (u : (c0.toNat : Int) ≤ 2) (hx : (c1.toNat : Int) * 256 + c2.toNat < 4051) (hi : inside ((c1.toNat : Int) * 256 + c2.toNat) = true) (hs : isSq (height ((c1.toNat : Int) * 256 + c2.toNat)) = true) (x Y : Int) (hl : Hid (lifted ((c1.toNat : Int) * 256 + c2.toNat) = ⟨x, Y, false⟩)) (hc : ((c0.toNat : Int) == 2) = true) (hy : (Y == 0) = true) : Calls Tryd.prog 91 #[.string ⟨#[c0, c1, c2]⟩] w fun e w' => e = .returned (.tuple #[spV ⟨0, 0, false⟩, .bool false]) ∧ Below w.heap.size w w' := by
  have i0 : (⟨#[c0, c1, c2]⟩ : ByteArray)[0]'(show 0 < 3 by decide) = c0 := rfl
  have i1 : (⟨#[c0, c1, c2]⟩ : ByteArray)[1]'(show 1 < 3 by decide) = c1 := rfl
  have i2 : (⟨#[c0, c1, c2]⟩ : ByteArray)[2]'(show 2 < 3 by decide) = c2 := rfl
  have w1 : IntKind.i64.wrap (c1.toNat : Int) = c1.toNat := IntWalk.i64_in _ (by have := c1.toNat_lt; omega)
  have w2 : IntKind.i64.wrap (c2.toNat : Int) = c2.toNat := IntWalk.i64_in _ (by have := c2.toNat_lt; omega)
  have w3 : IntKind.i64.wrap ((c1.toNat : Int) * 256) = (c1.toNat : Int) * 256 := IntWalk.i64_in _ (by have := c1.toNat_lt; omega)
  have w4 : IntKind.i64.wrap ((c1.toNat : Int) * 256 + c2.toNat) = (c1.toNat : Int) * 256 + c2.toNat := IntWalk.i64_in _ (by have := c1.toNat_lt; have := c2.toNat_lt; omega)
  go_enter Tryd.func91, Tryd.ntmps91
  go_wp2
  go_quiet (fail)
  go_wp2_with fail
  refine (refLift_y ((c1.toNat : Int) * 256 + c2.toNat) ⟨x, Y, false⟩ _ hi hs hl).mono ?_; rintro e w5 ⟨rfl, hb⟩
  have hB := below_seq (below_drewN (below_alloc _ _) _) hb
  have hr := ((SpAt.fresh w 0 0 false 24).drewN nq).below hb
  obtain ⟨r0, r1, r2, fr0, fr1, fr2, rl⟩ := hr
  clear hb
  go_wp2
  have k := set3_cell (w := w5) (x := .int .i64 0) (y := .int .i64 0) (z := .bool false) r0 r1 r2
  refine bodyPost_ret (v := .tuple #[spV ⟨0, 0, false⟩, .bool false]) (by simp [results, Tryd.results91, go_sem, k.1, k.2.1, k.2.2, rl]) rfl ⟨rfl, balloc (set3_below hB (Nat.le_refl _)) _⟩
set_option maxHeartbeats 2000000 in
theorem rd_two (c0 c1 c2 : UInt8) (w : World) (l : 1 ≤ (c0.toNat : Int)) (u : (c0.toNat : Int) ≤ 2) (hx : (c1.toNat : Int) * 256 + c2.toNat < 4051) (hi : inside ((c1.toNat : Int) * 256 + c2.toNat) = true) (hs : isSq (height ((c1.toNat : Int) * 256 + c2.toNat)) = true) (x Y : Int) (hl : Hid (lifted ((c1.toNat : Int) * 256 + c2.toNat) = ⟨x, Y, false⟩)) (hc : ((c0.toNat : Int) == 2) = true) (hy : (Y == 0) = false) (oL : Ok ⟨x, Y, false⟩) (N : Int) (hN : Hid (sTurned ⟨x, Y, false⟩ = ⟨x, N, false⟩)) : Calls Tryd.prog 91 #[.string ⟨#[c0, c1, c2]⟩] w fun e w' => e = .returned (.tuple #[spV ⟨x, N, false⟩, .bool true]) ∧ Below w.heap.size w w' := by
  have i0 : (⟨#[c0, c1, c2]⟩ : ByteArray)[0]'(show 0 < 3 by decide) = c0 := rfl
  have i1 : (⟨#[c0, c1, c2]⟩ : ByteArray)[1]'(show 1 < 3 by decide) = c1 := rfl
  have i2 : (⟨#[c0, c1, c2]⟩ : ByteArray)[2]'(show 2 < 3 by decide) = c2 := rfl
  have w1 : IntKind.i64.wrap (c1.toNat : Int) = c1.toNat := IntWalk.i64_in _ (by have := c1.toNat_lt; omega)
  have w2 : IntKind.i64.wrap (c2.toNat : Int) = c2.toNat := IntWalk.i64_in _ (by have := c2.toNat_lt; omega)
  have w3 : IntKind.i64.wrap ((c1.toNat : Int) * 256) = (c1.toNat : Int) * 256 := IntWalk.i64_in _ (by have := c1.toNat_lt; omega)
  have w4 : IntKind.i64.wrap ((c1.toNat : Int) * 256 + c2.toNat) = (c1.toNat : Int) * 256 + c2.toNat := IntWalk.i64_in _ (by have := c1.toNat_lt; have := c2.toNat_lt; omega)
  go_enter Tryd.func91, Tryd.ntmps91
  go_wp2
  go_quiet (fail)
  go_wp2_with fail
  refine (refLift_y ((c1.toNat : Int) * 256 + c2.toNat) ⟨x, Y, false⟩ _ hi hs hl).mono ?_; rintro e w5 ⟨rfl, hb⟩
  have hB := below_seq (below_drewN (below_alloc _ _) _) hb
  have hr := ((SpAt.fresh w 0 0 false 24).drewN nq).below hb
  obtain ⟨r0, r1, r2, fr0, fr1, fr2, rl⟩ := hr
  clear hb
  go_wp2_with fail
  refine (refNeg_e ⟨x, Y, false⟩ ⟨x, N, false⟩ _ oL hN).mono ?_; rintro e w6 ⟨rfl, hb⟩
  have hB2 := below_seq (balloc hB _) hb
  have hL := (SpAt.fresh w5 x Y false 24).below hb
  have hR := ((SpAt.zero_at r0 r1 r2 fr0 fr1 fr2 rl).alloc (.cells #[.int .i64 x, .int .i64 Y, .bool false] 24)).below hb
  have q1 := (hR.set3o (c := w5.heap.size) (by omega) (.int .i64 x) (.int .i64 N) (.bool false))
  clear hb r0 r1 r2 fr0 fr1 fr2
  obtain ⟨l0, l1, l2, fl0, fl1, fl2, ll⟩ := hL
  obtain ⟨g0, g1, g2, fg0, fg1, fg2, gl⟩ := hR
  go_wp2
  have k := set3_cell (x := .int .i64 x) (y := .int .i64 N) (z := .bool false) q1.c0 q1.c1 q1.c2
  refine bodyPost_ret (v := .tuple #[spV ⟨x, N, false⟩, .bool true]) (by simp [results, Tryd.results91, go_sem, k.1, k.2.1, k.2.2]) rfl ⟨rfl, set3_below (set3_below hB2 (by omega)) (by omega)⟩
end Go.Proofs.YtijemkecjohagaaDoor
