/- Walks of layer seal, where it refuses: Check, Verify, Ask. -/
import Derived.Laws.Entries
import Derived.Test.YtfnifdmnbccblaaDoorSb
import Derived.Test.YtfnifdmnbccblaaDoorRc
namespace Go.Proofs.YtfnifdmnbccblaaDoor
open Go.RowKit
set_option maxRecDepth 100000
set_option linter.unusedVariables false
set_option linter.unusedSimpArgs false
theorem all_v (l : List Sp) (b off cap : Nat) (w : World) (hF : FarAt w) (hl : l.length ≤ 1000000) (hs : SpotsAt w b off l) (k : Nat) (hk : k < l.length) (n : Int) (h : Hid (∀ i (h : i < l.length), i < k → Ok l[i])) (hn : Hid (sCheck l[k] = n)) (h0 : n ≠ 0) :
    Calls Tryd.prog 101 #[.slice (some ⟨b, off, none⟩) l.length cap] w fun e w' => e = .returned (.iface 118 (.int .i64 n)) ∧ Below w.heap.size w w' := by
  have := all_bad l b off cap w hF hl hs k hk h.out (by rw [hn.out]; exact h0); rw [hn.out] at this; exact this
theorem none_ok (l : List Sp) : Hid (∀ i (h : i < l.length), i < 0 → Ok l[i]) := fun i _ hi => absurd hi (Nat.not_lt_zero _)
theorem one_ok (a : Sp) (l : List Sp) (ha : Ok a) : Hid (∀ i (h : i < (a :: l).length), i < 1 → Ok (a :: l)[i]) := fun i hi hlt => by
  obtain rfl : i = 0 := by omega
  exact ha
theorem two_ok (a b : Sp) (l : List Sp) (ha : Ok a) (hb : Ok b) : Hid (∀ i (h : i < (a :: b :: l).length), i < 2 → Ok (a :: b :: l)[i]) := fun i hi hlt => by
  have : i = 0 ∨ i = 1 := by omega
  rcases this with rfl | rfl <;> assumption
set_option maxHeartbeats 1000000 in
theorem sealCheck_n4 (key R : Sp) (S : Int) (t : ByteArray) (w : World) (h : 60 < t.size) (hz : t.size ≤ 140737488351232) :
    Calls Tryd.prog 95 #[spV key, .string t, slV R S] w fun e w' => e = .returned (.iface 118 (.int .i64 4)) ∧ Below w.heap.size w w' := by
  go_enter Tryd.func95, Tryd.ntmps95
  go_wp2_with fail
  refine (text_n t _ h hz).mono ?_; rintro e w' ⟨rfl, rfl⟩
  go_wp2
  go_ret
  exact ⟨rfl, (by repeat (first | exact Below.refl _ _ | refine balloc ?_ _ | refine Below.drew ?_ | refine below_drewN ?_ _ | refine below_set ?_ (by first | omega | (dsimp only; omega)) _))⟩
set_option maxHeartbeats 1000000 in
theorem sealCheck_nk (key R : Sp) (S n : Int) (t : ByteArray) (w : World) (hF : FarAt w) (hz : t.size ≤ 60) (hn : Hid (sCheck key = n)) (h0 : n ≠ 0) :
    Calls Tryd.prog 95 #[spV key, .string t, slV R S] w fun e w' => e = .returned (.iface 118 (.int .i64 n)) ∧ Below w.heap.size w w' := by
  go_enter Tryd.func95, Tryd.ntmps95
  go_wp2_with fail
  refine (text_y t _ hz).mono ?_; rintro e w' ⟨rfl, rfl⟩
  go_wp2_with fail
  refine (all_v [key, R] _ 0 2 _ (hF.below (by repeat (first | exact Below.refl _ _ | refine balloc ?_ _ | refine Below.drew ?_ | refine below_drewN ?_ _ | refine below_set ?_ (by first | omega | (dsimp only; omega)) _))) (by simp) (spots_two key R _ _ (by simp) (by go_simp) (by go_simp) (by go_simp) (by go_simp) (by go_simp) (by go_simp)) 0 (by simp) n (none_ok _) hn h0).mono ?_; rintro e w1 ⟨rfl, hb⟩
  obtain ⟨hc1, hf1⟩ := bcell hb
  have z1 := hb.size
  try simp only [World.size_alloc, World.size_setCell, World.size_drew] at z1
  have s1_0 : w.heap.size < w1.heap.size := by omega
  have s1_1 : w.heap.size + 1 < w1.heap.size := by omega
  have s1_2 : w.heap.size + 1 + 1 < w1.heap.size := by omega
  have hB1 : Below w.heap.size w w1 := below_seq (by repeat (first | exact Below.refl _ _ | refine balloc ?_ _ | refine Below.drew ?_ | refine below_drewN ?_ _ | refine below_set ?_ (by first | omega | (dsimp only; omega)) _)) hb
  clear hb
  go_wp2
  go_ret
  exact ⟨rfl, (by repeat (first | exact hB1 | exact Below.refl _ _ | refine balloc ?_ _ | refine Below.drew ?_ | refine below_drewN ?_ _ | refine below_set ?_ (by first | omega | (dsimp only; omega)) _))⟩
set_option maxHeartbeats 1000000 in
theorem sealCheck_nr (key R : Sp) (S n : Int) (t : ByteArray) (w : World) (hF : FarAt w) (hz : t.size ≤ 60) (ok : Ok key) (hn : Hid (sCheck R = n)) (h0 : n ≠ 0) :
    Calls Tryd.prog 95 #[spV key, .string t, slV R S] w fun e w' => e = .returned (.iface 118 (.int .i64 n)) ∧ Below w.heap.size w w' := by
  go_enter Tryd.func95, Tryd.ntmps95
  go_wp2_with fail
  refine (text_y t _ hz).mono ?_; rintro e w' ⟨rfl, rfl⟩
  go_wp2_with fail
  refine (all_v [key, R] _ 0 2 _ (hF.below (by repeat (first | exact Below.refl _ _ | refine balloc ?_ _ | refine Below.drew ?_ | refine below_drewN ?_ _ | refine below_set ?_ (by first | omega | (dsimp only; omega)) _))) (by simp) (spots_two key R _ _ (by simp) (by go_simp) (by go_simp) (by go_simp) (by go_simp) (by go_simp) (by go_simp)) 1 (by simp) n (one_ok _ _ ok) hn h0).mono ?_; rintro e w1 ⟨rfl, hb⟩
  obtain ⟨hc1, hf1⟩ := bcell hb
  have z1 := hb.size
  try simp only [World.size_alloc, World.size_setCell, World.size_drew] at z1
  have s1_0 : w.heap.size < w1.heap.size := by omega
  have s1_1 : w.heap.size + 1 < w1.heap.size := by omega
  have s1_2 : w.heap.size + 1 + 1 < w1.heap.size := by omega
  have hB1 : Below w.heap.size w w1 := below_seq (by repeat (first | exact Below.refl _ _ | refine balloc ?_ _ | refine Below.drew ?_ | refine below_drewN ?_ _ | refine below_set ?_ (by first | omega | (dsimp only; omega)) _)) hb
  clear hb
  go_wp2
  go_ret
  exact ⟨rfl, (by repeat (first | exact hB1 | exact Below.refl _ _ | refine balloc ?_ _ | refine Below.drew ?_ | refine below_drewN ?_ _ | refine below_set ?_ (by first | omega | (dsimp only; omega)) _))⟩
set_option maxHeartbeats 1000000 in
theorem sealCheck_ns (key R : Sp) (S : Int) (t : ByteArray) (w : World) (hF : FarAt w) (hk : Ok key) (hR : Ok R) (hz : t.size ≤ 60) (h : ¬ (0 ≤ S ∧ S < 1013)) :
    Calls Tryd.prog 95 #[spV key, .string t, slV R S] w fun e w' => e = .returned (.iface 118 (.int .i64 1)) ∧ Below w.heap.size w w' := by
  go_enter Tryd.func95, Tryd.ntmps95
  go_wp2_with fail
  refine (text_y t _ hz).mono ?_; rintro e w' ⟨rfl, rfl⟩
  go_wp2_with fail
  refine (all_ok [key, R] _ 0 2 _ (hF.below (by repeat (first | exact Below.refl _ _ | refine balloc ?_ _ | refine Below.drew ?_ | refine below_drewN ?_ _ | refine below_set ?_ (by first | omega | (dsimp only; omega)) _))) (by simp) (spots_two key R _ _ (by simp) (by go_simp) (by go_simp) (by go_simp) (by go_simp) (by go_simp) (by go_simp)) (ok_two hk hR)).mono ?_; rintro e w1 ⟨rfl, hb⟩
  obtain ⟨hc1, hf1⟩ := bcell hb
  have z1 := hb.size
  try simp only [World.size_alloc, World.size_setCell, World.size_drew] at z1
  have s1_0 : w.heap.size < w1.heap.size := by omega
  have s1_1 : w.heap.size + 1 < w1.heap.size := by omega
  have s1_2 : w.heap.size + 1 + 1 < w1.heap.size := by omega
  have hB1 : Below w.heap.size w w1 := below_seq (by repeat (first | exact Below.refl _ _ | refine balloc ?_ _ | refine Below.drew ?_ | refine below_drewN ?_ _ | refine below_set ?_ (by first | omega | (dsimp only; omega)) _)) hb
  clear hb
  go_wp2_with fail
  refine (rest_n S _ h).mono ?_; rintro e w' ⟨rfl, rfl⟩
  go_wp2
  go_ret
  exact ⟨rfl, (by repeat (first | exact hB1 | exact Below.refl _ _ | refine balloc ?_ _ | refine Below.drew ?_ | refine below_drewN ?_ _ | refine below_set ?_ (by first | omega | (dsimp only; omega)) _))⟩
/-- The fault of what is to be verified. -/
def sealF (key R : Sp) (S : Int) (z : Nat) : Int := if 60 < z then 4 else if sCheck key ≠ 0 then sCheck key else if sCheck R ≠ 0 then sCheck R else if 0 ≤ S ∧ S < 1013 then 0 else 1
theorem sealF_zero {key R : Sp} {S : Int} {z : Nat} (h : sealF key R S z = 0) : z ≤ 60 ∧ Ok key ∧ Ok R ∧ 0 ≤ S ∧ S < 1013 := by
  unfold sealF at h
  split at h
  · exact absurd h (by decide)
  · split at h
    · contradiction
    · split at h
      · contradiction
      · split at h
        · rename_i h1 h2 h3 h4
          exact ⟨by omega, (ok_iff _).mp (by simpa using h2), (ok_iff _).mp (by simpa using h3), h4.1, h4.2⟩
        · exact absurd h (by decide)
/-- Whatever is wrong with it. -/
theorem sealCheck_t (key R : Sp) (S n : Int) (t : ByteArray) (w : World) (hF : FarAt w) (hz : t.size ≤ 140737488351232) (hn : Hid (sealF key R S t.size = n)) (h0 : n ≠ 0) :
    Calls Tryd.prog 95 #[spV key, .string t, slV R S] w fun e w' => e = .returned (.iface 118 (.int .i64 n)) ∧ Below w.heap.size w w' := by
  have hn := hn.out
  unfold sealF at hn
  split at hn
  · subst hn; exact sealCheck_n4 key R S t w (by assumption) hz
  · split at hn
    · exact sealCheck_nk key R S n t w hF (by omega) hn h0
    · have ok : Ok key := (ok_iff _).mp (by rename_i h; simpa using h)
      split at hn
      · exact sealCheck_nr key R S n t w hF (by omega) ok hn h0
      · have oR : Ok R := (ok_iff _).mp (by rename_i h; simpa using h)
        split at hn
        · exact absurd hn.symm h0
        · subst hn; exact sealCheck_ns key R S t w hF ok oR (by omega) (by assumption)
set_option maxHeartbeats 1000000 in
theorem sealVerify_t (key R : Sp) (S n : Int) (t : ByteArray) (w : World) (hF : FarAt w) (hz : t.size ≤ 140737488351232) (hn : Hid (sealF key R S t.size = n)) (h0 : n ≠ 0) :
    Calls Tryd.prog 97 #[spV key, .string t, slV R S] w fun e w' => e = .returned (.tuple #[.bool false, .iface 118 (.int .i64 n)]) ∧ Below w.heap.size w w' := by
  go_enter Tryd.func97, Tryd.ntmps97
  go_wp2_with fail
  refine (sealCheck_t key R S n t _ (hF.below (by repeat (first | exact Below.refl _ _ | refine balloc ?_ _ | refine Below.drew ?_ | refine below_drewN ?_ _ | refine below_set ?_ (by first | omega | (dsimp only; omega)) _))) hz hn h0).mono ?_; rintro e w1 ⟨rfl, hb⟩
  obtain ⟨hc1, hf1⟩ := bcell hb
  have z1 := hb.size
  try simp only [World.size_alloc, World.size_setCell, World.size_drew] at z1
  have s1_0 : w.heap.size < w1.heap.size := by omega
  have s1_1 : w.heap.size + 1 < w1.heap.size := by omega
  have hB1 : Below w.heap.size w w1 := below_seq (by repeat (first | exact Below.refl _ _ | refine balloc ?_ _ | refine Below.drew ?_ | refine below_drewN ?_ _ | refine below_set ?_ (by first | omega | (dsimp only; omega)) _)) hb
  clear hb
  go_wp2
  go_ret2
  exact ⟨rfl, (by repeat (first | exact hB1 | exact Below.refl _ _ | refine balloc ?_ _ | refine Below.drew ?_ | refine below_drewN ?_ _ | refine below_set ?_ (by first | omega | (dsimp only; omega)) _))⟩
end Go.Proofs.YtfnifdmnbccblaaDoor
