/- Texts of this claim, in one. -/
import Derived.Laws.Entries
import Derived.Test.YtopcdihgkojjlaaDoorSb
import Derived.Test.YtopcdihgkojjlaaDoorRc
import Derived.Test.YtopcdihgkojjlaaDoorQa
import Derived.Test.YtopcdihgkojjlaaDoorAe
import Derived.Test.YtopcdihgkojjlaaDoorTl
import Derived.Deep.DeepCutAuto
namespace Go.Proofs.YtopcdihgkojjlaaDoor
open Go.RowKit
set_option maxRecDepth 100000
set_option linter.unusedVariables false
set_option linter.unusedSimpArgs false
theorem all_v (l : List Sp) (b off cap : Nat) (w : World) (hF : FarAt w) (hl : l.length ≤ 1000000) (hs : SpotsAt w b off l) (k : Nat) (hk : k < l.length) (n : Int) (h : Hid (∀ i (h : i < l.length), i < k → Ok l[i])) (hn : Hid (sCheck l[k] = n)) (h0 : n ≠ 0) :
    Calls Tryd.prog 100 #[.slice (some ⟨b, off, none⟩) l.length cap] w fun e w' => e = .returned (.iface 117 (.int .i64 n)) ∧ Below w.heap.size w w' := by
  have := all_bad l b off cap w hF hl hs k hk h.out (by rw [hn.out]; exact h0); rw [hn.out] at this; exact this
theorem none_ok (l : List Sp) : Hid (∀ i (h : i < l.length), i < 0 → Ok l[i]) := fun i _ hi => absurd hi (Nat.not_lt_zero _)
theorem one_ok (a : Sp) (l : List Sp) (ha : Ok a) : Hid (∀ i (h : i < (a :: l).length), i < 1 → Ok (a :: l)[i]) := fun i hi hlt => by
  obtain rfl : i = 0 := by omega
  exact ha
theorem two_ok (a b : Sp) (l : List Sp) (ha : Ok a) (hb : Ok b) : Hid (∀ i (h : i < (a :: b :: l).length), i < 2 → Ok (a :: b :: l)[i]) := fun i hi hlt => by
  have : i = 0 ∨ i = 1 := by omega
  rcases this with rfl | rfl <;> assumption
set_option maxHeartbeats 1000000 in
theorem sealCheck_n4 (key R : Sp) (S : Int) (t : ByteArray) (w : World) (h : 60 < t.size) (hz : t.size ≤ 140737488351232) :
    Calls Tryd.prog 112 #[spV key, .string t, slV R S] w fun e w' => e = .returned (.iface 117 (.int .i64 4)) ∧ Below w.heap.size w w' := by
  go_enter Tryd.func112, Tryd.ntmps112
  go_wp2_with fail
  refine (text_n t _ h hz).mono ?_; rintro e w' ⟨rfl, rfl⟩
  go_wp2
  go_ret
  exact ⟨rfl, (by repeat (first | exact Below.refl _ _ | refine balloc ?_ _ | refine Below.drew ?_ | refine below_drewN ?_ _ | refine below_set ?_ (by first | omega | (dsimp only; omega)) _))⟩
set_option maxHeartbeats 1000000 in
theorem sealCheck_nk (key R : Sp) (S n : Int) (t : ByteArray) (w : World) (hF : FarAt w) (hz : t.size ≤ 60) (hn : Hid (sCheck key = n)) (h0 : n ≠ 0) :
    Calls Tryd.prog 112 #[spV key, .string t, slV R S] w fun e w' => e = .returned (.iface 117 (.int .i64 n)) ∧ Below w.heap.size w w' := by
  go_enter Tryd.func112, Tryd.ntmps112
  go_wp2_with fail
  refine (text_y t _ hz).mono ?_; rintro e w' ⟨rfl, rfl⟩
  go_wp2_with fail
  refine (all_v [key, R] _ 0 2 _ (hF.below (by repeat (first | exact Below.refl _ _ | refine balloc ?_ _ | refine Below.drew ?_ | refine below_drewN ?_ _ | refine below_set ?_ (by first | omega | (dsimp only; omega)) _))) (by simp) (spots_two key R _ _ (by simp) (by go_simp) (by go_simp) (by go_simp) (by go_simp) (by go_simp) (by go_simp)) 0 (by simp) n (none_ok _) hn h0).mono ?_; rintro e w1 ⟨rfl, hb⟩
  obtain ⟨hc1, hf1⟩ := bcell hb
  have z1 := hb.size
  try simp only [World.size_alloc, World.size_setCell, World.size_drew] at z1
  have s1_0 : w.heap.size < w1.heap.size := by omega
  have s1_1 : w.heap.size + 1 < w1.heap.size := by omega
  have s1_2 : w.heap.size + 1 + 1 < w1.heap.size := by omega
  have hB1 : Below w.heap.size w w1 := below_seq (by repeat (first | exact Below.refl _ _ | refine balloc ?_ _ | refine Below.drew ?_ | refine below_drewN ?_ _ | refine below_set ?_ (by first | omega | (dsimp only; omega)) _)) hb
  clear hb
  go_wp2
  go_ret
  exact ⟨rfl, (by repeat (first | exact hB1 | exact Below.refl _ _ | refine balloc ?_ _ | refine Below.drew ?_ | refine below_drewN ?_ _ | refine below_set ?_ (by first | omega | (dsimp only; omega)) _))⟩
set_option maxHeartbeats 1000000 in
theorem sealCheck_nr (key R : Sp) (S n : Int) (t : ByteArray) (w : World) (hF : FarAt w) (hz : t.size ≤ 60) (ok : Ok key) (hn : Hid (sCheck R = n)) (h0 : n ≠ 0) :
    Calls Tryd.prog 112 #[spV key, .string t, slV R S] w fun e w' => e = .returned (.iface 117 (.int .i64 n)) ∧ Below w.heap.size w w' := by
  go_enter Tryd.func112, Tryd.ntmps112
  go_wp2_with fail
  refine (text_y t _ hz).mono ?_; rintro e w' ⟨rfl, rfl⟩
  go_wp2_with fail
  refine (all_v [key, R] _ 0 2 _ (hF.below (by repeat (first | exact Below.refl _ _ | refine balloc ?_ _ | refine Below.drew ?_ | refine below_drewN ?_ _ | refine below_set ?_ (by first | omega | (dsimp only; omega)) _))) (by simp) (spots_two key R _ _ (by simp) (by go_simp) (by go_simp) (by go_simp) (by go_simp) (by go_simp) (by go_simp)) 1 (by simp) n (one_ok _ _ ok) hn h0).mono ?_; rintro e w1 ⟨rfl, hb⟩
  obtain ⟨hc1, hf1⟩ := bcell hb
  have z1 := hb.size
  try simp only [World.size_alloc, World.size_setCell, World.size_drew] at z1
  have s1_0 : w.heap.size < w1.heap.size := by omega
  have s1_1 : w.heap.size + 1 < w1.heap.size := by omega
  have s1_2 : w.heap.size + 1 + 1 < w1.heap.size := by omega
  have hB1 : Below w.heap.size w w1 := below_seq (by repeat (first | exact Below.refl _ _ | refine balloc ?_ _ | refine Below.drew ?_ | refine below_drewN ?_ _ | refine below_set ?_ (by first | omega | (dsimp only; omega)) _)) hb
  clear hb
  go_wp2
  go_ret
  exact ⟨rfl, (by repeat (first | exact hB1 | exact Below.refl _ _ | refine balloc ?_ _ | refine Below.drew ?_ | refine below_drewN ?_ _ | refine below_set ?_ (by first | omega | (dsimp only; omega)) _))⟩
set_option maxHeartbeats 1000000 in
theorem sealCheck_ns (key R : Sp) (S : Int) (t : ByteArray) (w : World) (hF : FarAt w) (hk : Ok key) (hR : Ok R) (hz : t.size ≤ 60) (h : ¬ (0 ≤ S ∧ S < 1013)) :
    Calls Tryd.prog 112 #[spV key, .string t, slV R S] w fun e w' => e = .returned (.iface 117 (.int .i64 1)) ∧ Below w.heap.size w w' := by
  go_enter Tryd.func112, Tryd.ntmps112
  go_wp2_with fail
  refine (text_y t _ hz).mono ?_; rintro e w' ⟨rfl, rfl⟩
  go_wp2_with fail
  refine (all_ok [key, R] _ 0 2 _ (hF.below (by repeat (first | exact Below.refl _ _ | refine balloc ?_ _ | refine Below.drew ?_ | refine below_drewN ?_ _ | refine below_set ?_ (by first | omega | (dsimp only; omega)) _))) (by simp) (spots_two key R _ _ (by simp) (by go_simp) (by go_simp) (by go_simp) (by go_simp) (by go_simp) (by go_simp)) (ok_two hk hR)).mono ?_; rintro e w1 ⟨rfl, hb⟩
  obtain ⟨hc1, hf1⟩ := bcell hb
  have z1 := hb.size
  try simp only [World.size_alloc, World.size_setCell, World.size_drew] at z1
  have s1_0 : w.heap.size < w1.heap.size := by omega
  have s1_1 : w.heap.size + 1 < w1.heap.size := by omega
  have s1_2 : w.heap.size + 1 + 1 < w1.heap.size := by omega
  have hB1 : Below w.heap.size w w1 := below_seq (by repeat (first | exact Below.refl _ _ | refine balloc ?_ _ | refine Below.drew ?_ | refine below_drewN ?_ _ | refine below_set ?_ (by first | omega | (dsimp only; omega)) _)) hb
  clear hb
  go_wp2_with fail
  refine (rest_n S _ h).mono ?_; rintro e w' ⟨rfl, rfl⟩
  go_wp2
  go_ret
  exact ⟨rfl, (by repeat (first | exact hB1 | exact Below.refl _ _ | refine balloc ?_ _ | refine Below.drew ?_ | refine below_drewN ?_ _ | refine below_set ?_ (by first | omega | (dsimp only; omega)) _))⟩
/-- The fault of what is to be verified. -/
def sealF (key R : Sp) (S : Int) (z : Nat) : Int := if 60 < z then 4 else if sCheck key ≠ 0 then sCheck key else if sCheck R ≠ 0 then sCheck R else if 0 ≤ S ∧ S < 1013 then 0 else 1
theorem sealF_zero {key R : Sp} {S : Int} {z : Nat} (h : sealF key R S z = 0) : z ≤ 60 ∧ Ok key ∧ Ok R ∧ 0 ≤ S ∧ S < 1013 := by
  unfold sealF at h
  split at h
  · exact absurd h (by decide)
  · split at h
    · contradiction
    · split at h
      · contradiction
      · split at h
        · rename_i h1 h2 h3 h4
          exact ⟨by omega, (ok_iff _).mp (by simpa using h2), (ok_iff _).mp (by simpa using h3), h4.1, h4.2⟩
        · exact absurd h (by decide)
/-- Whatever is wrong with it. -/
theorem sealCheck_t (key R : Sp) (S n : Int) (t : ByteArray) (w : World) (hF : FarAt w) (hz : t.size ≤ 140737488351232) (hn : Hid (sealF key R S t.size = n)) (h0 : n ≠ 0) :
    Calls Tryd.prog 112 #[spV key, .string t, slV R S] w fun e w' => e = .returned (.iface 117 (.int .i64 n)) ∧ Below w.heap.size w w' := by
  have hn := hn.out
  unfold sealF at hn
  split at hn
  · subst hn; exact sealCheck_n4 key R S t w (by assumption) hz
  · split at hn
    · exact sealCheck_nk key R S n t w hF (by omega) hn h0
    · have ok : Ok key := (ok_iff _).mp (by rename_i h; simpa using h)
      split at hn
      · exact sealCheck_nr key R S n t w hF (by omega) ok hn h0
      · have oR : Ok R := (ok_iff _).mp (by rename_i h; simpa using h)
        split at hn
        · exact absurd hn.symm h0
        · subst hn; exact sealCheck_ns key R S t w hF ok oR (by omega) (by assumption)
set_option maxHeartbeats 1000000 in
theorem sealVerify_t (key R : Sp) (S n : Int) (t : ByteArray) (w : World) (hF : FarAt w) (hz : t.size ≤ 140737488351232) (hn : Hid (sealF key R S t.size = n)) (h0 : n ≠ 0) :
    Calls Tryd.prog 59 #[spV key, .string t, slV R S] w fun e w' => e = .returned (.tuple #[.bool false, .iface 117 (.int .i64 n)]) ∧ Below w.heap.size w w' := by
  go_enter Tryd.func59, Tryd.ntmps59
  go_wp2_with fail
  refine (sealCheck_t key R S n t _ (hF.below (by repeat (first | exact Below.refl _ _ | refine balloc ?_ _ | refine Below.drew ?_ | refine below_drewN ?_ _ | refine below_set ?_ (by first | omega | (dsimp only; omega)) _))) hz hn h0).mono ?_; rintro e w1 ⟨rfl, hb⟩
  obtain ⟨hc1, hf1⟩ := bcell hb
  have z1 := hb.size
  try simp only [World.size_alloc, World.size_setCell, World.size_drew] at z1
  have s1_0 : w.heap.size < w1.heap.size := by omega
  have s1_1 : w.heap.size + 1 < w1.heap.size := by omega
  have hB1 : Below w.heap.size w w1 := below_seq (by repeat (first | exact Below.refl _ _ | refine balloc ?_ _ | refine Below.drew ?_ | refine below_drewN ?_ _ | refine below_set ?_ (by first | omega | (dsimp only; omega)) _)) hb
  clear hb
  go_wp2
  go_ret2
  exact ⟨rfl, (by repeat (first | exact hB1 | exact Below.refl _ _ | refine balloc ?_ _ | refine Below.drew ?_ | refine below_drewN ?_ _ | refine below_set ?_ (by first | omega | (dsimp only; omega)) _))⟩
set_option maxHeartbeats 1000000 in
theorem sealAsk_n4 (r key : Sp) (t : ByteArray) (w : World) (h : 60 < t.size) (hz : t.size ≤ 140737488351232) : Calls Tryd.prog 54 #[spV r, spV key, .string t] w fun e w' => e = .returned (.tuple #[.int .i64 0, .iface 117 (.int .i64 4)]) ∧ Below w.heap.size w w' := by
  go_enter Tryd.func54, Tryd.ntmps54
  go_wp2_with fail
  refine (text_n t _ h hz).mono ?_; rintro e w' ⟨rfl, rfl⟩
  go_wp2
  go_ret2
  exact ⟨rfl, (by repeat (first | exact Below.refl _ _ | refine balloc ?_ _ | refine Below.drew ?_ | refine below_drewN ?_ _ | refine below_set ?_ (by first | omega | (dsimp only; omega)) _))⟩
set_option maxHeartbeats 1000000 in
theorem sealAsk_nr (r key : Sp) (n : Int) (t : ByteArray) (w : World) (hF : FarAt w) (hz : t.size ≤ 60) (hn : Hid (sCheck r = n)) (h0 : n ≠ 0) : Calls Tryd.prog 54 #[spV r, spV key, .string t] w fun e w' => e = .returned (.tuple #[.int .i64 0, .iface 117 (.int .i64 n)]) ∧ Below w.heap.size w w' := by
  go_enter Tryd.func54, Tryd.ntmps54
  go_wp2_with fail
  refine (text_y t _ hz).mono ?_; rintro e w' ⟨rfl, rfl⟩
  go_wp2_with fail
  refine (all_v [r, key] _ 0 2 _ (hF.below (by repeat (first | exact Below.refl _ _ | refine balloc ?_ _ | refine Below.drew ?_ | refine below_drewN ?_ _ | refine below_set ?_ (by first | omega | (dsimp only; omega)) _))) (by simp) (spots_two r key _ _ (by simp) (by go_simp) (by go_simp) (by go_simp) (by go_simp) (by go_simp) (by go_simp)) 0 (by simp) n (none_ok _) hn h0).mono ?_; rintro e w1 ⟨rfl, hb⟩
  obtain ⟨hc1, hf1⟩ := bcell hb
  have z1 := hb.size
  try simp only [World.size_alloc, World.size_setCell, World.size_drew] at z1
  have s1_0 : w.heap.size < w1.heap.size := by omega
  have s1_1 : w.heap.size + 1 < w1.heap.size := by omega
  have s1_2 : w.heap.size + 1 + 1 < w1.heap.size := by omega
  have hB1 : Below w.heap.size w w1 := below_seq (by repeat (first | exact Below.refl _ _ | refine balloc ?_ _ | refine Below.drew ?_ | refine below_drewN ?_ _ | refine below_set ?_ (by first | omega | (dsimp only; omega)) _)) hb
  clear hb
  go_wp2
  go_ret2
  exact ⟨rfl, (by repeat (first | exact hB1 | exact Below.refl _ _ | refine balloc ?_ _ | refine Below.drew ?_ | refine below_drewN ?_ _ | refine below_set ?_ (by first | omega | (dsimp only; omega)) _))⟩
set_option maxHeartbeats 1000000 in
theorem sealAsk_nk (r key : Sp) (n : Int) (t : ByteArray) (w : World) (hF : FarAt w) (hz : t.size ≤ 60) (ok : Ok r) (hn : Hid (sCheck key = n)) (h0 : n ≠ 0) : Calls Tryd.prog 54 #[spV r, spV key, .string t] w fun e w' => e = .returned (.tuple #[.int .i64 0, .iface 117 (.int .i64 n)]) ∧ Below w.heap.size w w' := by
  go_enter Tryd.func54, Tryd.ntmps54
  go_wp2_with fail
  refine (text_y t _ hz).mono ?_; rintro e w' ⟨rfl, rfl⟩
  go_wp2_with fail
  refine (all_v [r, key] _ 0 2 _ (hF.below (by repeat (first | exact Below.refl _ _ | refine balloc ?_ _ | refine Below.drew ?_ | refine below_drewN ?_ _ | refine below_set ?_ (by first | omega | (dsimp only; omega)) _))) (by simp) (spots_two r key _ _ (by simp) (by go_simp) (by go_simp) (by go_simp) (by go_simp) (by go_simp) (by go_simp)) 1 (by simp) n (one_ok _ _ ok) hn h0).mono ?_; rintro e w1 ⟨rfl, hb⟩
  obtain ⟨hc1, hf1⟩ := bcell hb
  have z1 := hb.size
  try simp only [World.size_alloc, World.size_setCell, World.size_drew] at z1
  have s1_0 : w.heap.size < w1.heap.size := by omega
  have s1_1 : w.heap.size + 1 < w1.heap.size := by omega
  have s1_2 : w.heap.size + 1 + 1 < w1.heap.size := by omega
  have hB1 : Below w.heap.size w w1 := below_seq (by repeat (first | exact Below.refl _ _ | refine balloc ?_ _ | refine Below.drew ?_ | refine below_drewN ?_ _ | refine below_set ?_ (by first | omega | (dsimp only; omega)) _)) hb
  clear hb
  go_wp2
  go_ret2
  exact ⟨rfl, (by repeat (first | exact hB1 | exact Below.refl _ _ | refine balloc ?_ _ | refine Below.drew ?_ | refine below_drewN ?_ _ | refine below_set ?_ (by first | omega | (dsimp only; omega)) _))⟩
theorem sealAsk_e (r key : Sp) (t : ByteArray) (c : Int) (w : World) (hF : FarAt w) (hr : Ok r) (hk : Ok key) (hz : t.size ≤ 60) (h : Hid (askN r key t.data.toList = c)) : Calls Tryd.prog 54 #[spV r, spV key, .string t] w fun e w' => e = .returned (.tuple #[.int .i64 c, .nilIface]) ∧ Below w.heap.size w w' := by
  have := sealAsk_ok r key t w hF hr hk hz; rw [h.out] at this; exact this
end Go.Proofs.YtopcdihgkojjlaaDoor
namespace Go.Proofs.YtopcdihgkojjlaaDoor
open Go.RowKit
set_option maxRecDepth 100000
set_option linter.unusedVariables false
set_option linter.unusedSimpArgs false
set_option maxHeartbeats 1000000 in
theorem rSeal_4 (key R : Sp) (S : Int) (t : ByteArray) (w : World) (h : 60 < t.size) (hz : t.size ≤ 140737488351232) : Calls Tryd.prog 57 #[spV key, .string t, slV R S] w fun e w' => e = .returned (.int .i64 4) ∧ Below w.heap.size w w' := by
  go_enter Tryd.func57, Tryd.ntmps57
  go_wp2
  go_ret
  exact ⟨rfl, (by repeat (first | exact Below.refl _ _ | refine balloc ?_ _ | refine Below.drew ?_ | refine below_drewN ?_ _ | refine below_set ?_ (by first | omega | (dsimp only; omega)) _))⟩
set_option maxHeartbeats 1000000 in
theorem rSeal_k (key R : Sp) (S n : Int) (B : Bool) (t : ByteArray) (w : World) (hz : t.size ≤ 60) (hn : Hid (sCheck key = n)) (h0 : (n == 0) = false) (hB : Hid (resB S = B)) : Calls Tryd.prog 57 #[spV key, .string t, slV R S] w fun e w' => e = .returned (.int .i64 n) ∧ Below w.heap.size w w' := by
  go_enter Tryd.func57, Tryd.ntmps57
  go_wp2_with fail
  refine (refSpot_e key n _ hn).mono ?_; rintro e w1 ⟨rfl, hb⟩
  obtain ⟨hc1, hf1⟩ := bcell hb
  have z1 := hb.size
  try simp only [World.size_alloc, World.size_setCell, World.size_drew] at z1
  have s1_0 : w.heap.size < w1.heap.size := by omega
  have s1_1 : w.heap.size + 1 < w1.heap.size := by omega
  have hB1 : Below w.heap.size w w1 := below_seq (by repeat (first | exact Below.refl _ _ | refine balloc ?_ _ | refine Below.drew ?_ | refine below_drewN ?_ _ | refine below_set ?_ (by first | omega | (dsimp only; omega)) _)) hb
  clear hb
  go_wp2_with fail
  refine (rRest_b S B _ hB).mono ?_; rintro e w' ⟨rfl, rfl⟩
  go_wp2
  go_ret
  exact ⟨rfl, (by repeat (first | exact hB1 | exact Below.refl _ _ | refine balloc ?_ _ | refine Below.drew ?_ | refine below_drewN ?_ _ | refine below_set ?_ (by first | omega | (dsimp only; omega)) _))⟩
set_option maxHeartbeats 1000000 in
theorem rSeal_r (key R : Sp) (S n : Int) (B : Bool) (t : ByteArray) (w : World) (hz : t.size ≤ 60) (hk : Hid (sCheck key = 0)) (hn : Hid (sCheck R = n)) (h0 : (n == 0) = false) (hB : Hid (resB S = B)) : Calls Tryd.prog 57 #[spV key, .string t, slV R S] w fun e w' => e = .returned (.int .i64 n) ∧ Below w.heap.size w w' := by
  go_enter Tryd.func57, Tryd.ntmps57
  go_wp2_with fail
  refine (refSpot_e key 0 _ hk).mono ?_; rintro e w1 ⟨rfl, hb⟩
  obtain ⟨hc1, hf1⟩ := bcell hb
  have z1 := hb.size
  try simp only [World.size_alloc, World.size_setCell, World.size_drew] at z1
  have s1_0 : w.heap.size < w1.heap.size := by omega
  have s1_1 : w.heap.size + 1 < w1.heap.size := by omega
  have hB1 : Below w.heap.size w w1 := below_seq (by repeat (first | exact Below.refl _ _ | refine balloc ?_ _ | refine Below.drew ?_ | refine below_drewN ?_ _ | refine below_set ?_ (by first | omega | (dsimp only; omega)) _)) hb
  clear hb
  go_wp2_with fail
  refine (refSpot_e R n _ hn).mono ?_; rintro e w2 ⟨rfl, hb⟩
  obtain ⟨hc2, hf2⟩ := bcell hb
  have z2 := hb.size
  try simp only [World.size_alloc, World.size_setCell, World.size_drew] at z2
  have s2_0 : w.heap.size < w2.heap.size := by omega
  have s2_1 : w.heap.size + 1 < w2.heap.size := by omega
  have hB2 : Below w.heap.size w w2 := below_seq (by repeat (first | exact hB1 | exact Below.refl _ _ | refine balloc ?_ _ | refine Below.drew ?_ | refine below_drewN ?_ _ | refine below_set ?_ (by first | omega | (dsimp only; omega)) _)) hb
  clear hb
  go_wp2_with fail
  refine (rRest_b S B _ hB).mono ?_; rintro e w' ⟨rfl, rfl⟩
  go_wp2
  go_ret
  exact ⟨rfl, (by repeat (first | exact hB2 | exact Below.refl _ _ | refine balloc ?_ _ | refine Below.drew ?_ | refine below_drewN ?_ _ | refine below_set ?_ (by first | omega | (dsimp only; omega)) _))⟩
set_option maxHeartbeats 1000000 in
theorem rSeal_s (key R : Sp) (S : Int) (t : ByteArray) (w : World) (hz : t.size ≤ 60) (hk : Hid (sCheck key = 0)) (hn : Hid (sCheck R = 0)) (hB : Hid (resB S = false)) : Calls Tryd.prog 57 #[spV key, .string t, slV R S] w fun e w' => e = .returned (.int .i64 1) ∧ Below w.heap.size w w' := by
  go_enter Tryd.func57, Tryd.ntmps57
  go_wp2_with fail
  refine (refSpot_e key 0 _ hk).mono ?_; rintro e w1 ⟨rfl, hb⟩
  obtain ⟨hc1, hf1⟩ := bcell hb
  have z1 := hb.size
  try simp only [World.size_alloc, World.size_setCell, World.size_drew] at z1
  have s1_0 : w.heap.size < w1.heap.size := by omega
  have s1_1 : w.heap.size + 1 < w1.heap.size := by omega
  have hB1 : Below w.heap.size w w1 := below_seq (by repeat (first | exact Below.refl _ _ | refine balloc ?_ _ | refine Below.drew ?_ | refine below_drewN ?_ _ | refine below_set ?_ (by first | omega | (dsimp only; omega)) _)) hb
  clear hb
  go_wp2_with fail
  refine (refSpot_e R 0 _ hn).mono ?_; rintro e w2 ⟨rfl, hb⟩
  obtain ⟨hc2, hf2⟩ := bcell hb
  have z2 := hb.size
  try simp only [World.size_alloc, World.size_setCell, World.size_drew] at z2
  have s2_0 : w.heap.size < w2.heap.size := by omega
  have s2_1 : w.heap.size + 1 < w2.heap.size := by omega
  have hB2 : Below w.heap.size w w2 := below_seq (by repeat (first | exact hB1 | exact Below.refl _ _ | refine balloc ?_ _ | refine Below.drew ?_ | refine below_drewN ?_ _ | refine below_set ?_ (by first | omega | (dsimp only; omega)) _)) hb
  clear hb
  go_wp2_with fail
  refine (rRest_b S false _ hB).mono ?_; rintro e w' ⟨rfl, rfl⟩
  go_wp2
  go_ret
  exact ⟨rfl, (by repeat (first | exact hB2 | exact Below.refl _ _ | refine balloc ?_ _ | refine Below.drew ?_ | refine below_drewN ?_ _ | refine below_set ?_ (by first | omega | (dsimp only; omega)) _))⟩
set_option maxHeartbeats 1000000 in
theorem rSeal_0 (key R : Sp) (S : Int) (t : ByteArray) (w : World) (hz : t.size ≤ 60) (hk : Hid (sCheck key = 0)) (hn : Hid (sCheck R = 0)) (hB : Hid (resB S = true)) : Calls Tryd.prog 57 #[spV key, .string t, slV R S] w fun e w' => e = .returned (.int .i64 0) ∧ Below w.heap.size w w' := by
  go_enter Tryd.func57, Tryd.ntmps57
  go_wp2_with fail
  refine (refSpot_e key 0 _ hk).mono ?_; rintro e w1 ⟨rfl, hb⟩
  obtain ⟨hc1, hf1⟩ := bcell hb
  have z1 := hb.size
  try simp only [World.size_alloc, World.size_setCell, World.size_drew] at z1
  have s1_0 : w.heap.size < w1.heap.size := by omega
  have s1_1 : w.heap.size + 1 < w1.heap.size := by omega
  have hB1 : Below w.heap.size w w1 := below_seq (by repeat (first | exact Below.refl _ _ | refine balloc ?_ _ | refine Below.drew ?_ | refine below_drewN ?_ _ | refine below_set ?_ (by first | omega | (dsimp only; omega)) _)) hb
  clear hb
  go_wp2_with fail
  refine (refSpot_e R 0 _ hn).mono ?_; rintro e w2 ⟨rfl, hb⟩
  obtain ⟨hc2, hf2⟩ := bcell hb
  have z2 := hb.size
  try simp only [World.size_alloc, World.size_setCell, World.size_drew] at z2
  have s2_0 : w.heap.size < w2.heap.size := by omega
  have s2_1 : w.heap.size + 1 < w2.heap.size := by omega
  have hB2 : Below w.heap.size w w2 := below_seq (by repeat (first | exact hB1 | exact Below.refl _ _ | refine balloc ?_ _ | refine Below.drew ?_ | refine below_drewN ?_ _ | refine below_set ?_ (by first | omega | (dsimp only; omega)) _)) hb
  clear hb
  go_wp2_with fail
  refine (rRest_b S true _ hB).mono ?_; rintro e w' ⟨rfl, rfl⟩
  go_wp2
  go_ret
  exact ⟨rfl, (by repeat (first | exact hB2 | exact Below.refl _ _ | refine balloc ?_ _ | refine Below.drew ?_ | refine below_drewN ?_ _ | refine below_set ?_ (by first | omega | (dsimp only; omega)) _))⟩
theorem rSeal_e (key R : Sp) (S n : Int) (t : ByteArray) (w : World) (hz : t.size ≤ 140737488351232) (hn : Hid (sealF key R S t.size = n)) : Calls Tryd.prog 57 #[spV key, .string t, slV R S] w fun e w' => e = .returned (.int .i64 n) ∧ Below w.heap.size w w' := by
  have hn := hn.out
  unfold sealF at hn
  split at hn
  · subst hn; exact rSeal_4 key R S t w (by assumption) hz
  · split at hn
    · subst hn; exact rSeal_k key R S _ _ t w (by omega) rfl (by simpa using (by assumption)) rfl
    · have ok : sCheck key = 0 := by rename_i h; simpa using h
      split at hn
      · subst hn; exact rSeal_r key R S _ _ t w (by omega) ok rfl (by simpa using (by assumption)) rfl
      · have oR : sCheck R = 0 := by rename_i h; simpa using h
        split at hn
        · subst hn; exact rSeal_0 key R S t w (by omega) ok oR (decide_eq_true (by assumption))
        · subst hn; exact rSeal_s key R S t w (by omega) ok oR (decide_eq_false (by assumption))
set_option maxHeartbeats 4000000 in
theorem rRight_core (key R M A C D : Sp) (a u c S : Int) (t : ByteArray) (w : World) (hk : Ok key) (hR : Ok R) (hz : t.size ≤ 60) (s0 : 0 ≤ S) (s1 : S < 1013) (hc : Hid (askN R key t.data.toList = c)) (c0 : 0 ≤ c) (c1 : c < 1013) (ha : Hid (key = sq a)) (hu : Hid (M = sq u))
    (hA : Hid (∀ w : World, Calls Tryd.prog 63 #[.int .i64 S, .int .i64 1, spV M] w fun e w' => e = .returned (spV A) ∧ Below w.heap.size w w')) (hC : Hid (sq (a * c) = C)) (oC : Ok C) (hD : Hid (sSum R C = D)) (b : Bool) (hb2 : Sp.beq A D = b) :
    Calls Tryd.prog 58 #[spV key, .string t, slV R S, spV M] w fun e w' => e = .returned (.bool b) ∧ Below w.heap.size w w' := by
  go_enter Tryd.func58, Tryd.ntmps58
  go_wp2_with fail
  refine (rAsk_e R key t c _ hR hk hz hc).mono ?_; rintro e w1 ⟨rfl, hb⟩
  obtain ⟨hc1, hf1⟩ := bcell hb
  have z1 := hb.size
  try simp only [World.size_alloc, World.size_setCell, World.size_drew] at z1
  have s1_0 : w.heap.size < w1.heap.size := by omega
  have s1_1 : w.heap.size + 1 < w1.heap.size := by omega
  have s1_2 : w.heap.size + 1 + 1 < w1.heap.size := by omega
  have hB1 : Below w.heap.size w w1 := below_seq (by repeat (first | exact Below.refl _ _ | refine balloc ?_ _ | refine Below.drew ?_ | refine below_drewN ?_ _ | refine below_set ?_ (by first | omega | (dsimp only; omega)) _)) hb
  clear hb
  have m1_0_0 : w1.cell? ⟨w.heap.size, 0, none⟩ = some (.int .i64 key.x) := by go_simp
  have m1_0_1 : w1.cell? ⟨w.heap.size, 1, none⟩ = some (.int .i64 key.y) := by go_simp
  have m1_0_2 : w1.cell? ⟨w.heap.size, 2, none⟩ = some (.bool key.far) := by go_simp
  have m1_1_0 : w1.cell? ⟨w.heap.size + 1, 0, none⟩ = some (.int .i64 R.x) := by go_simp
  have m1_1_1 : w1.cell? ⟨w.heap.size + 1, 1, none⟩ = some (.int .i64 R.y) := by go_simp
  have m1_1_2 : w1.cell? ⟨w.heap.size + 1, 2, none⟩ = some (.bool R.far) := by go_simp
  have m1_1_3 : w1.cell? ⟨w.heap.size + 1, 3, none⟩ = some (.int .i64 S) := by go_simp
  have m1_2_0 : w1.cell? ⟨w.heap.size + 1 + 1, 0, none⟩ = some (.int .i64 M.x) := by go_simp
  have m1_2_1 : w1.cell? ⟨w.heap.size + 1 + 1, 1, none⟩ = some (.int .i64 M.y) := by go_simp
  have m1_2_2 : w1.cell? ⟨w.heap.size + 1 + 1, 2, none⟩ = some (.bool M.far) := by go_simp
  clear hc1
  go_wp2_with fail
  refine (hA.out _).mono ?_; rintro e w2 ⟨rfl, hb⟩
  obtain ⟨hc2, hf2⟩ := bcell hb
  have z2 := hb.size
  try simp only [World.size_alloc, World.size_setCell, World.size_drew] at z2
  have s2_0 : w.heap.size < w2.heap.size := by omega
  have s2_1 : w.heap.size + 1 < w2.heap.size := by omega
  have s2_2 : w.heap.size + 1 + 1 < w2.heap.size := by omega
  have hB2 : Below w.heap.size w w2 := below_seq (by repeat (first | exact hB1 | exact Below.refl _ _ | refine balloc ?_ _ | refine Below.drew ?_ | refine below_drewN ?_ _ | refine below_set ?_ (by first | omega | (dsimp only; omega)) _)) hb
  clear hb
  have m2_0_0 : w2.cell? ⟨w.heap.size, 0, none⟩ = some (.int .i64 key.x) := by go_simp
  have m2_0_1 : w2.cell? ⟨w.heap.size, 1, none⟩ = some (.int .i64 key.y) := by go_simp
  have m2_0_2 : w2.cell? ⟨w.heap.size, 2, none⟩ = some (.bool key.far) := by go_simp
  have m2_1_0 : w2.cell? ⟨w.heap.size + 1, 0, none⟩ = some (.int .i64 R.x) := by go_simp
  have m2_1_1 : w2.cell? ⟨w.heap.size + 1, 1, none⟩ = some (.int .i64 R.y) := by go_simp
  have m2_1_2 : w2.cell? ⟨w.heap.size + 1, 2, none⟩ = some (.bool R.far) := by go_simp
  have m2_1_3 : w2.cell? ⟨w.heap.size + 1, 3, none⟩ = some (.int .i64 S) := by go_simp
  have m2_2_0 : w2.cell? ⟨w.heap.size + 1 + 1, 0, none⟩ = some (.int .i64 M.x) := by go_simp
  have m2_2_1 : w2.cell? ⟨w.heap.size + 1 + 1, 1, none⟩ = some (.int .i64 M.y) := by go_simp
  have m2_2_2 : w2.cell? ⟨w.heap.size + 1 + 1, 2, none⟩ = some (.bool M.far) := by go_simp
  clear m1_0_0 m1_0_1 m1_0_2 m1_1_0 m1_1_1 m1_1_2 m1_1_3 m1_2_0 m1_2_1 m1_2_2
  clear hc2
  go_upto_region 3 with fail
  have n0 : -9223372036854775808 ≤ c := by omega
  have n1 : c ≤ 9223372036854775807 := by omega
  have y0 : (w2.alloc (.cells #[.int .i64 A.x, .int .i64 A.y, .bool A.far] 37)).cell? ⟨w2.heap.size, 0, none⟩ = some (.int .i64 A.x) := by go_simp
  have y1 : (w2.alloc (.cells #[.int .i64 A.x, .int .i64 A.y, .bool A.far] 37)).cell? ⟨w2.heap.size, 1, none⟩ = some (.int .i64 A.y) := by go_simp
  have y2 : (w2.alloc (.cells #[.int .i64 A.x, .int .i64 A.y, .bool A.far] 37)).cell? ⟨w2.heap.size, 2, none⟩ = some (.bool A.far) := by go_simp
  have g0 : (w2.alloc (.cells #[.int .i64 A.x, .int .i64 A.y, .bool A.far] 37)).cell? ⟨w.heap.size, 0, none⟩ = some (.int .i64 key.x) := by go_simp
  have g1 : (w2.alloc (.cells #[.int .i64 A.x, .int .i64 A.y, .bool A.far] 37)).cell? ⟨w.heap.size, 1, none⟩ = some (.int .i64 key.y) := by go_simp
  have g2 : (w2.alloc (.cells #[.int .i64 A.x, .int .i64 A.y, .bool A.far] 37)).cell? ⟨w.heap.size, 2, none⟩ = some (.bool key.far) := by go_simp
  have r0 : (w2.alloc (.cells #[.int .i64 A.x, .int .i64 A.y, .bool A.far] 37)).cell? ⟨w.heap.size + 1, 0, none⟩ = some (.int .i64 R.x) := by go_simp
  have r1 : (w2.alloc (.cells #[.int .i64 A.x, .int .i64 A.y, .bool A.far] 37)).cell? ⟨w.heap.size + 1, 1, none⟩ = some (.int .i64 R.y) := by go_simp
  have r2 : (w2.alloc (.cells #[.int .i64 A.x, .int .i64 A.y, .bool A.far] 37)).cell? ⟨w.heap.size + 1, 2, none⟩ = some (.bool R.far) := by go_simp
  have hB3 : Below w.heap.size w (w2.alloc (.cells #[.int .i64 A.x, .int .i64 A.y, .bool A.far] 37)) := balloc hB2 _
  have q0 : w.heap.size < (w2.alloc (.cells #[.int .i64 A.x, .int .i64 A.y, .bool A.far] 37)).heap.size := by simp only [World.size_alloc]; omega
  have q1 : w.heap.size + 1 < (w2.alloc (.cells #[.int .i64 A.x, .int .i64 A.y, .bool A.far] 37)).heap.size := by simp only [World.size_alloc]; omega
  have q2 : w2.heap.size < (w2.alloc (.cells #[.int .i64 A.x, .int .i64 A.y, .bool A.far] 37)).heap.size := by simp only [World.size_alloc]; omega
  have hy := Lib.hid hB2
  clear m2_0_0 m2_0_1 m2_0_2 m2_1_0 m2_1_1 m2_1_2 m2_1_3 m2_2_0 m2_2_1 m2_2_2 hf1 hf2 hB1 hB2 z1 z2 s1_0 s1_1 s1_2 s2_0 s2_1 s2_2
  generalize w2.alloc (.cells #[.int .i64 A.x, .int .i64 A.y, .bool A.far] 37) = wz at *
  go_cut [11] (fun s11 wx => ∃ p : Nat, s11 = .pointer (some ⟨p, 0, none⟩) ∧ SpAt wx p D ∧ Below wz.heap.size wz wx)
  case first =>
    go_region_with (first | (go_at_call 31; refine (refTimes_e key C a c _ n0 n1 ha hC).mono ?_; rintro e wa ⟨rfl, ha2⟩; have hwa : Below wz.heap.size wz wa := below_seq (by repeat (first | exact Below.refl _ _ | refine balloc ?_ _ | refine Below.drew ?_)) ha2; have hza := hwa.size; have sA1 : w.heap.size + 1 < wa.heap.size := Nat.lt_of_lt_of_le q1 hza; have ta0 := ((bcell hwa).1 _ 0 q1).trans r0; have ta1 := ((bcell hwa).1 _ 1 q1).trans r1; have ta2 := ((bcell hwa).1 _ 2 q1).trans r2; (first | (refine hav_ (P := SpAt wa wz.heap.size ⟨0, 0, false⟩) (SpAt.below (SpAt.fresh _ _ _ _ _) ha2) (fun kA => ?_)) | (refine hav_ (P := SpAt wa wz.heap.size ⟨0, 0, false⟩) (SpAt.below (SpAt.drew (SpAt.fresh _ _ _ _ _)) ha2) (fun kA => ?_)) | skip)) | (go_at_call 92; refine (refAdd_e R C D _ hR oC hD).mono ?_; rintro e wb ⟨rfl, hb⟩; have hwb : Below wa.heap.size wa wb := below_seq (by repeat (first | exact Below.refl _ _ | refine balloc ?_ _ | refine Below.drew ?_)) hb; have hzb := hwb.size; (first | (have kB := kA.below hwb; obtain ⟨b0, b1, b2, b3, b4, b5, b6⟩ := kA.below hwb) | skip); (first | (refine hav_ (P := SpAt wb wa.heap.size ⟨0, 0, false⟩) (SpAt.below (SpAt.fresh _ _ _ _ _) hb) (fun kC => ?_); obtain ⟨c0, c1, c2, c3, c4, c5, c6⟩ := kC) | (refine hav_ (P := SpAt wb wa.heap.size ⟨0, 0, false⟩) (SpAt.below (SpAt.drew (SpAt.fresh _ _ _ _ _)) hb) (fun kC => ?_); obtain ⟨c0, c1, c2, c3, c4, c5, c6⟩ := kC) | skip)))
    all_goals
      go_wp2_with fail
      go_meet
      have hBx := below_seq hwa hwb
      first
      | exact ⟨_, rfl, SpAt.fresh _ _ _ _ _, balloc hBx _⟩
      | exact ⟨_, rfl, kB.set3 D, set3_below hBx (by omega)⟩
      | exact ⟨_, rfl, (SpAt.zero_of (by assumption) (by assumption) (by assumption) (by assumption) (by assumption) (by assumption) (by assumption)).set3 D, set3_below hBx (by omega)⟩
  case rest =>
    obtain ⟨p, rfl, hp, hw⟩ := hcut
    have hBw : Below w.heap.size w wc := below_seq hB3 hw
    have v0 := ((bcell hw).1 _ 0 q2).trans y0
    have v1 := ((bcell hw).1 _ 1 q2).trans y1
    have v2 := ((bcell hw).1 _ 2 q2).trans y2
    obtain ⟨d0, d1, d2, d3, d4, d5, d6⟩ := hp
    clear r0 r1 r2 g0 g1 g2 y0 y1 y2
    go_wp2
    go_ret
    exact ⟨ret_bool (by rw [← hb2]), hBw⟩
/-- Is a seal right, with a spot more: of the key sq a, the spots sq r and sq u. -/
theorem rRight_e (key R M : Sp) (a r u c S : Int) (b : Bool) (t : ByteArray) (w : World) (hz : t.size ≤ 60) (s0 : 0 ≤ S) (s1 : S < 1013) (ha : Hid (key = sq a)) (hr : Hid (R = sq r)) (hu : Hid (M = sq u)) (hc : Hid (askN R key t.data.toList = c)) (hb : Hid ((sq (4 * S + -(r + a * c) + u)).far = b)) :
    Calls Tryd.prog 58 #[spV key, .string t, slV R S, spV M] w fun e w' => e = .returned (.bool b) ∧ Below w.heap.size w w' := by
  have bd := askN_bd R key t.data.toList
  rw [hc.out] at bd
  refine rRight_core key R M (sq (4 * S + u)) (sq (a * c)) (sq (r + a * c)) a u c S t w (ok_of ha.out) (ok_of hr.out) hz s0 s1 hc bd.1 bd.2 ha hu (fun w => refSum_e S 1 u M (sq (4 * S)) (sq (u * 1)) _ w (by omega) (by omega) (by omega) (by omega) hu rfl rfl (sq_ok _) (sq_ok _) (by show _ = _; rw [sq_add, Int.mul_one])) rfl (sq_ok _) (by show _ = _; rw [hr.out, sq_add]) b ?_
  rw [← hb.out]
  cases h : (sq (4 * S + -(r + a * c) + u)).far
  · cases h2 : Sp.beq (sq (4 * S + u)) (sq (r + a * c))
    · rfl
    · have := sq_eq_iff.mp (Sp.beq_iff.mp h2)
      rw [sq_far.mpr (by omega)] at h; exact Bool.noConfusion h
  · have := sq_far.mp h
    exact Sp.beq_iff.mpr (sq_eq_iff.mpr (by omega))
end Go.Proofs.YtopcdihgkojjlaaDoor
namespace Go.Proofs.YtopcdihgkojjlaaDoor
open Go.RowKit
set_option maxRecDepth 100000
set_option linter.unusedVariables false
set_option linter.unusedSimpArgs false
set_option maxHeartbeats 16000000 in
theorem sl_all (x k : Int) (t : ByteArray) (r key R : Sp) (S : Int) (w : World) (hF : FarAt w) (hE : ErrAt w) (hz : t.size ≤ 140737488351232) (B1 B2 B3 : Bool) (jB1 : Hid (secB x = B1)) (jB2 : Hid (secB k = B2)) (jB3 : Hid ((!(B1 && B2)) = B3)) (V1 : Sp) (E1 : Int)
    (hA : Hid ((B1 = true ∧ 1 ≤ x ∧ x < 1013 ∧ sq (4 * x) = V1 ∧ E1 = 0) ∨ (B1 = false ∧ V1 = ⟨0, 0, false⟩ ∧ E1 = 1)))
    (kKey : Hid (∀ w : World, FarAt w → Calls Tryd.prog 41 #[.int .i64 x] w fun e w' => e = .returned (.tuple #[spV V1, errV E1]) ∧ Below w.heap.size w w'))
    (T4 E2 E3 N : Int) (h4 : Hid ((60 < t.size ∧ T4 = 4) ∨ (t.size ≤ 60 ∧ T4 = 0))) (h2 : Hid ((T4 = 0 ∧ sCheck r = E2) ∨ ((T4 == 0) = false ∧ E2 = T4))) (h3 : Hid ((E2 = 0 ∧ sCheck key = E3) ∨ ((E2 == 0) = false ∧ E3 = E2)))
    (hN : Hid ((E3 = 0 ∧ Ok r ∧ Ok key ∧ t.size ≤ 60 ∧ askN r key t.data.toList = N) ∨ ((E3 == 0) = false ∧ N = 0)))
    (kAsk : Hid (∀ w : World, FarAt w → Calls Tryd.prog 54 #[spV r, spV key, .string t] w fun e w' => e = .returned (.tuple #[.int .i64 N, errV E3]) ∧ Below w.heap.size w w'))
    (Z : Sp) (Y E4 : Int)
    (h5 : Hid ((B3 = false ∧ t.size ≤ 60 ∧ E4 = 0 ∧ (∀ w : World, Calls Tryd.prog 55 #[.int .i64 x, .int .i64 k, .string t] w fun e w' => e = .returned (slV Z Y) ∧ Below w.heap.size w w')) ∨ (B3 = false ∧ 60 < t.size ∧ E4 = 4 ∧ Z = ⟨0, 0, false⟩ ∧ Y = 0) ∨ (B3 = true ∧ E4 = 1 ∧ Z = ⟨0, 0, false⟩ ∧ Y = 0)))
    (kSign : Hid (∀ w : World, FarAt w → Calls Tryd.prog 56 #[.int .i64 x, .int .i64 k, .string t] w fun e w' => e = .returned (.tuple #[slV Z Y, errV E4]) ∧ Below w.heap.size w w'))
    (E5 : Int) (RT : Bool) (kSeal : Hid (∀ w : World, Calls Tryd.prog 57 #[spV key, .string t, slV R S] w fun e w' => e = .returned (.int .i64 E5) ∧ Below w.heap.size w w'))
    (h6 : Hid ((E5 = 0 ∧ (∀ w : World, Calls Tryd.prog 58 #[spV key, .string t, slV R S, spV ⟨0, 0, true⟩] w fun e w' => e = .returned (.bool RT) ∧ Below w.heap.size w w')) ∨ ((E5 == 0) = false ∧ RT = false)))
    (kVer : Hid (∀ w : World, FarAt w → Calls Tryd.prog 59 #[spV key, .string t, slV R S] w fun e w' => e = .returned (.tuple #[.bool RT, errV E5]) ∧ Below w.heap.size w w')) :
    Calls Tryd.prog 8 #[.int .i64 x, .int .i64 k, .string t, spV r, spV key, slV R S] w fun e w' => e = .returned (.bool true) ∧ Below w.heap.size w w' := by
  go_enter Tryd.func8, Tryd.ntmps8
  go_wp2_with fail
  refine (rSecret_b x B1 _ jB1).mono ?_; rintro e w' ⟨rfl, rfl⟩
  go_wp2_with fail
  refine (rSecret_b k B2 _ jB2).mono ?_; rintro e w' ⟨rfl, rfl⟩
  go_upto_if 34 with fail
  go_cut [13] (fun s13 wx => s13 = .int .i64 E1 ∧ Below w.heap.size w wx ∧ w.heap.size < wx.heap.size ∧ w.heap.size + 1 < wx.heap.size ∧ w.heap.size + 1 + 1 < wx.heap.size ∧ w.heap.size + 1 + 1 + 1 < wx.heap.size ∧ wx.cell? ⟨w.heap.size, 0, none⟩ = some (.int .i64 r.x) ∧ wx.cell? ⟨w.heap.size, 1, none⟩ = some (.int .i64 r.y) ∧ wx.cell? ⟨w.heap.size, 2, none⟩ = some (.bool r.far) ∧ wx.cell? ⟨w.heap.size + 1, 0, none⟩ = some (.int .i64 key.x) ∧ wx.cell? ⟨w.heap.size + 1, 1, none⟩ = some (.int .i64 key.y) ∧ wx.cell? ⟨w.heap.size + 1, 2, none⟩ = some (.bool key.far) ∧ wx.cell? ⟨w.heap.size + 1 + 1, 0, none⟩ = some (.int .i64 R.x) ∧ wx.cell? ⟨w.heap.size + 1 + 1, 1, none⟩ = some (.int .i64 R.y) ∧ wx.cell? ⟨w.heap.size + 1 + 1, 2, none⟩ = some (.bool R.far) ∧ wx.cell? ⟨w.heap.size + 1 + 1, 3, none⟩ = some (.int .i64 S) ∧ wx.cell? ⟨w.heap.size + 1 + 1 + 1, 0, none⟩ = some (.int .i64 V1.x) ∧ wx.cell? ⟨w.heap.size + 1 + 1 + 1, 1, none⟩ = some (.int .i64 V1.y) ∧ wx.cell? ⟨w.heap.size + 1 + 1 + 1, 2, none⟩ = some (.bool V1.far))
  case first =>
    rcases hA.out with ⟨e1, x1, x2, e2, e3⟩ | ⟨e1, e2, e3⟩
    · subst e1 e3
      replace e2 := Lib.hid e2
      clear hA
      go_wp2_with fail
      refine (refBy_e x V1 _ (by omega) (by omega) e2).mono ?_; rintro e w1 ⟨rfl, hb⟩
      obtain ⟨hc1, hf1⟩ := bcell hb
      have z1 := hb.size
      try simp only [World.size_alloc, World.size_setCell, World.size_drew] at z1
      have s1_0 : w.heap.size < w1.heap.size := by omega
      have s1_1 : w.heap.size + 1 < w1.heap.size := by omega
      have s1_2 : w.heap.size + 1 + 1 < w1.heap.size := by omega
      have s1_3 : w.heap.size + 1 + 1 + 1 < w1.heap.size := by omega
      have hB1 : Below w.heap.size w w1 := below_seq (by repeat (first | exact Below.refl _ _ | refine balloc ?_ _ | refine Below.drew ?_ | refine below_drewN ?_ _ | refine below_set ?_ (by first | omega | (dsimp only; omega)) _)) hb
      clear hb
      have m1_0_0 : w1.cell? ⟨w.heap.size, 0, none⟩ = some (.int .i64 r.x) := by go_simp
      have m1_0_1 : w1.cell? ⟨w.heap.size, 1, none⟩ = some (.int .i64 r.y) := by go_simp
      have m1_0_2 : w1.cell? ⟨w.heap.size, 2, none⟩ = some (.bool r.far) := by go_simp
      have m1_1_0 : w1.cell? ⟨w.heap.size + 1, 0, none⟩ = some (.int .i64 key.x) := by go_simp
      have m1_1_1 : w1.cell? ⟨w.heap.size + 1, 1, none⟩ = some (.int .i64 key.y) := by go_simp
      have m1_1_2 : w1.cell? ⟨w.heap.size + 1, 2, none⟩ = some (.bool key.far) := by go_simp
      have m1_2_0 : w1.cell? ⟨w.heap.size + 1 + 1, 0, none⟩ = some (.int .i64 R.x) := by go_simp
      have m1_2_1 : w1.cell? ⟨w.heap.size + 1 + 1, 1, none⟩ = some (.int .i64 R.y) := by go_simp
      have m1_2_2 : w1.cell? ⟨w.heap.size + 1 + 1, 2, none⟩ = some (.bool R.far) := by go_simp
      have m1_2_3 : w1.cell? ⟨w.heap.size + 1 + 1, 3, none⟩ = some (.int .i64 S) := by go_simp
      have m1_3_0 : w1.cell? ⟨w.heap.size + 1 + 1 + 1, 0, none⟩ = some (.int .i64 0) := by go_simp
      have m1_3_1 : w1.cell? ⟨w.heap.size + 1 + 1 + 1, 1, none⟩ = some (.int .i64 0) := by go_simp
      have m1_3_2 : w1.cell? ⟨w.heap.size + 1 + 1 + 1, 2, none⟩ = some (.bool false) := by go_simp
      clear hc1
      go_wp2_with fail
      go_meet
      exact ⟨rfl, (by repeat (first | exact hB1 | exact Below.refl _ _ | refine balloc ?_ _ | refine Below.drew ?_ | refine below_drewN ?_ _ | refine below_set ?_ (by first | omega | (dsimp only; omega)) _)), (by first | omega | (simp only [World.size_alloc, World.size_setCell, World.size_drew]; omega)), (by first | omega | (simp only [World.size_alloc, World.size_setCell, World.size_drew]; omega)), (by first | omega | (simp only [World.size_alloc, World.size_setCell, World.size_drew]; omega)), (by first | omega | (simp only [World.size_alloc, World.size_setCell, World.size_drew]; omega)), (by go_simp), (by go_simp), (by go_simp), (by go_simp), (by go_simp), (by go_simp), (by go_simp), (by go_simp), (by go_simp), (by go_simp), (by go_simp), (by go_simp), (by go_simp)⟩
    · subst e1 e2 e3
      clear hA
      go_wp2_with fail
      go_meet
      exact ⟨rfl, (by repeat (first | exact Below.refl _ _ | refine balloc ?_ _ | refine Below.drew ?_ | refine below_drewN ?_ _ | refine below_set ?_ (by first | omega | (dsimp only; omega)) _)), (by first | omega | (simp only [World.size_alloc, World.size_setCell, World.size_drew]; omega)), (by first | omega | (simp only [World.size_alloc, World.size_setCell, World.size_drew]; omega)), (by first | omega | (simp only [World.size_alloc, World.size_setCell, World.size_drew]; omega)), (by first | omega | (simp only [World.size_alloc, World.size_setCell, World.size_drew]; omega)), (by go_simp), (by go_simp), (by go_simp), (by go_simp), (by go_simp), (by go_simp), (by go_simp), (by go_simp), (by go_simp), (by go_simp), (by go_simp), (by go_simp), (by go_simp)⟩
  case rest =>
    obtain ⟨w1, hwq⟩ : ∃ x, x = wc := ⟨_, rfl⟩
    subst hwq
    obtain ⟨rfl, hB1, s1_0, s1_1, s1_2, s1_3, m1_0_0, m1_0_1, m1_0_2, m1_1_0, m1_1_1, m1_1_2, m1_2_0, m1_2_1, m1_2_2, m1_2_3, m1_3_0, m1_3_1, m1_3_2⟩ := hcut
    clear hA
    go_wp2_with fail
    refine (kKey.out _ (hF.below (by repeat (first | exact hB1 | exact Below.refl _ _ | refine balloc ?_ _ | refine Below.drew ?_ | refine below_drewN ?_ _ | refine below_set ?_ (by first | omega | (dsimp only; omega)) _)))).mono ?_; rintro e w2 ⟨rfl, hb⟩
    obtain ⟨hc2, hf2⟩ := bcell hb
    have z2 := hb.size
    try simp only [World.size_alloc, World.size_setCell, World.size_drew] at z2
    have s2_0 : w.heap.size < w2.heap.size := by omega
    have s2_1 : w.heap.size + 1 < w2.heap.size := by omega
    have s2_2 : w.heap.size + 1 + 1 < w2.heap.size := by omega
    have s2_3 : w.heap.size + 1 + 1 + 1 < w2.heap.size := by omega
    have hB2 : Below w.heap.size w w2 := below_seq (by repeat (first | exact hB1 | exact Below.refl _ _ | refine balloc ?_ _ | refine Below.drew ?_ | refine below_drewN ?_ _ | refine below_set ?_ (by first | omega | (dsimp only; omega)) _)) hb
    clear hb
    have m2_0_0 : w2.cell? ⟨w.heap.size, 0, none⟩ = some (.int .i64 r.x) := by go_simp
    have m2_0_1 : w2.cell? ⟨w.heap.size, 1, none⟩ = some (.int .i64 r.y) := by go_simp
    have m2_0_2 : w2.cell? ⟨w.heap.size, 2, none⟩ = some (.bool r.far) := by go_simp
    have m2_1_0 : w2.cell? ⟨w.heap.size + 1, 0, none⟩ = some (.int .i64 key.x) := by go_simp
    have m2_1_1 : w2.cell? ⟨w.heap.size + 1, 1, none⟩ = some (.int .i64 key.y) := by go_simp
    have m2_1_2 : w2.cell? ⟨w.heap.size + 1, 2, none⟩ = some (.bool key.far) := by go_simp
    have m2_2_0 : w2.cell? ⟨w.heap.size + 1 + 1, 0, none⟩ = some (.int .i64 R.x) := by go_simp
    have m2_2_1 : w2.cell? ⟨w.heap.size + 1 + 1, 1, none⟩ = some (.int .i64 R.y) := by go_simp
    have m2_2_2 : w2.cell? ⟨w.heap.size + 1 + 1, 2, none⟩ = some (.bool R.far) := by go_simp
    have m2_2_3 : w2.cell? ⟨w.heap.size + 1 + 1, 3, none⟩ = some (.int .i64 S) := by go_simp
    have m2_3_0 : w2.cell? ⟨w.heap.size + 1 + 1 + 1, 0, none⟩ = some (.int .i64 V1.x) := by go_simp
    have m2_3_1 : w2.cell? ⟨w.heap.size + 1 + 1 + 1, 1, none⟩ = some (.int .i64 V1.y) := by go_simp
    have m2_3_2 : w2.cell? ⟨w.heap.size + 1 + 1 + 1, 2, none⟩ = some (.bool V1.far) := by go_simp
    clear m1_0_0 m1_0_1 m1_0_2 m1_1_0 m1_1_1 m1_1_2 m1_2_0 m1_2_1 m1_2_2 m1_2_3 m1_3_0 m1_3_1 m1_3_2
    clear hc2
    go_wp2_with fail
    refine (error_same (errV E1) E1 _ (hE.below (by repeat (first | exact hB2 | exact Below.refl _ _ | refine balloc ?_ _ | refine Below.drew ?_ | refine below_drewN ?_ _ | refine below_set ?_ (by first | omega | (dsimp only; omega)) _))) (Lib.hid rfl)).mono ?_; rintro e w3 ⟨rfl, hb⟩
    obtain ⟨hc3, hf3⟩ := bcell hb
    have z3 := hb.size
    try simp only [World.size_alloc, World.size_setCell, World.size_drew] at z3
    have s3_0 : w.heap.size < w3.heap.size := by omega
    have s3_1 : w.heap.size + 1 < w3.heap.size := by omega
    have s3_2 : w.heap.size + 1 + 1 < w3.heap.size := by omega
    have s3_3 : w.heap.size + 1 + 1 + 1 < w3.heap.size := by omega
    have s3_4 : w2.heap.size < w3.heap.size := by omega
    have hB3 : Below w.heap.size w w3 := below_seq (by repeat (first | exact hB2 | exact Below.refl _ _ | refine balloc ?_ _ | refine Below.drew ?_ | refine below_drewN ?_ _ | refine below_set ?_ (by first | omega | (dsimp only; omega)) _)) hb
    clear hb
    have m3_0_0 : w3.cell? ⟨w.heap.size, 0, none⟩ = some (.int .i64 r.x) := by go_simp
    have m3_0_1 : w3.cell? ⟨w.heap.size, 1, none⟩ = some (.int .i64 r.y) := by go_simp
    have m3_0_2 : w3.cell? ⟨w.heap.size, 2, none⟩ = some (.bool r.far) := by go_simp
    have m3_1_0 : w3.cell? ⟨w.heap.size + 1, 0, none⟩ = some (.int .i64 key.x) := by go_simp
    have m3_1_1 : w3.cell? ⟨w.heap.size + 1, 1, none⟩ = some (.int .i64 key.y) := by go_simp
    have m3_1_2 : w3.cell? ⟨w.heap.size + 1, 2, none⟩ = some (.bool key.far) := by go_simp
    have m3_2_0 : w3.cell? ⟨w.heap.size + 1 + 1, 0, none⟩ = some (.int .i64 R.x) := by go_simp
    have m3_2_1 : w3.cell? ⟨w.heap.size + 1 + 1, 1, none⟩ = some (.int .i64 R.y) := by go_simp
    have m3_2_2 : w3.cell? ⟨w.heap.size + 1 + 1, 2, none⟩ = some (.bool R.far) := by go_simp
    have m3_2_3 : w3.cell? ⟨w.heap.size + 1 + 1, 3, none⟩ = some (.int .i64 S) := by go_simp
    have m3_3_0 : w3.cell? ⟨w.heap.size + 1 + 1 + 1, 0, none⟩ = some (.int .i64 V1.x) := by go_simp
    have m3_3_1 : w3.cell? ⟨w.heap.size + 1 + 1 + 1, 1, none⟩ = some (.int .i64 V1.y) := by go_simp
    have m3_3_2 : w3.cell? ⟨w.heap.size + 1 + 1 + 1, 2, none⟩ = some (.bool V1.far) := by go_simp
    have m3_4_0 : w3.cell? ⟨w2.heap.size, 0, none⟩ = some (.int .i64 V1.x) := by go_simp
    have m3_4_1 : w3.cell? ⟨w2.heap.size, 1, none⟩ = some (.int .i64 V1.y) := by go_simp
    have m3_4_2 : w3.cell? ⟨w2.heap.size, 2, none⟩ = some (.bool V1.far) := by go_simp
    clear m2_0_0 m2_0_1 m2_0_2 m2_1_0 m2_1_1 m2_1_2 m2_2_0 m2_2_1 m2_2_2 m2_2_3 m2_3_0 m2_3_1 m2_3_2
    clear hc3
    go_upto_if 52 with fail
    go_cut [13] (fun s13 wx => s13 = .int .i64 T4 ∧ Below w.heap.size w wx ∧ w.heap.size < wx.heap.size ∧ w.heap.size + 1 < wx.heap.size ∧ w.heap.size + 1 + 1 < wx.heap.size ∧ w.heap.size + 1 + 1 + 1 < wx.heap.size ∧ w2.heap.size < wx.heap.size ∧ wx.cell? ⟨w.heap.size, 0, none⟩ = some (.int .i64 r.x) ∧ wx.cell? ⟨w.heap.size, 1, none⟩ = some (.int .i64 r.y) ∧ wx.cell? ⟨w.heap.size, 2, none⟩ = some (.bool r.far) ∧ wx.cell? ⟨w.heap.size + 1, 0, none⟩ = some (.int .i64 key.x) ∧ wx.cell? ⟨w.heap.size + 1, 1, none⟩ = some (.int .i64 key.y) ∧ wx.cell? ⟨w.heap.size + 1, 2, none⟩ = some (.bool key.far) ∧ wx.cell? ⟨w.heap.size + 1 + 1, 0, none⟩ = some (.int .i64 R.x) ∧ wx.cell? ⟨w.heap.size + 1 + 1, 1, none⟩ = some (.int .i64 R.y) ∧ wx.cell? ⟨w.heap.size + 1 + 1, 2, none⟩ = some (.bool R.far) ∧ wx.cell? ⟨w.heap.size + 1 + 1, 3, none⟩ = some (.int .i64 S))
    case first =>
      rcases h4.out with ⟨e1, e2⟩ | ⟨e1, e2⟩
      · subst e2
        clear h4
        go_wp2_with fail
        go_meet
        exact ⟨rfl, (by repeat (first | exact hB3 | exact Below.refl _ _ | refine balloc ?_ _ | refine Below.drew ?_ | refine below_drewN ?_ _ | refine below_set ?_ (by first | omega | (dsimp only; omega)) _)), (by first | omega | (simp only [World.size_alloc, World.size_setCell, World.size_drew]; omega)), (by first | omega | (simp only [World.size_alloc, World.size_setCell, World.size_drew]; omega)), (by first | omega | (simp only [World.size_alloc, World.size_setCell, World.size_drew]; omega)), (by first | omega | (simp only [World.size_alloc, World.size_setCell, World.size_drew]; omega)), (by first | omega | (simp only [World.size_alloc, World.size_setCell, World.size_drew]; omega)), (by go_simp), (by go_simp), (by go_simp), (by go_simp), (by go_simp), (by go_simp), (by go_simp), (by go_simp), (by go_simp), (by go_simp)⟩
      · subst e2
        clear h4
        go_wp2_with fail
        go_meet
        exact ⟨rfl, (by repeat (first | exact hB3 | exact Below.refl _ _ | refine balloc ?_ _ | refine Below.drew ?_ | refine below_drewN ?_ _ | refine below_set ?_ (by first | omega | (dsimp only; omega)) _)), (by first | omega | (simp only [World.size_alloc, World.size_setCell, World.size_drew]; omega)), (by first | omega | (simp only [World.size_alloc, World.size_setCell, World.size_drew]; omega)), (by first | omega | (simp only [World.size_alloc, World.size_setCell, World.size_drew]; omega)), (by first | omega | (simp only [World.size_alloc, World.size_setCell, World.size_drew]; omega)), (by first | omega | (simp only [World.size_alloc, World.size_setCell, World.size_drew]; omega)), (by go_simp), (by go_simp), (by go_simp), (by go_simp), (by go_simp), (by go_simp), (by go_simp), (by go_simp), (by go_simp), (by go_simp)⟩
    case rest =>
      obtain ⟨w4, hwq⟩ : ∃ x, x = wc := ⟨_, rfl⟩
      subst hwq
      obtain ⟨rfl, hB4, s4_0, s4_1, s4_2, s4_3, s4_4, m4_0_0, m4_0_1, m4_0_2, m4_1_0, m4_1_1, m4_1_2, m4_2_0, m4_2_1, m4_2_2, m4_2_3⟩ := hcut
      clear m3_0_0 m3_0_1 m3_0_2 m3_1_0 m3_1_1 m3_1_2 m3_2_0 m3_2_1 m3_2_2 m3_2_3 m3_3_0 m3_3_1 m3_3_2 m3_4_0 m3_4_1 m3_4_2
      go_upto_if 54 with fail
      go_cut [13] (fun s13 wx => s13 = .int .i64 E2 ∧ Below w.heap.size w wx ∧ w.heap.size < wx.heap.size ∧ w.heap.size + 1 < wx.heap.size ∧ w.heap.size + 1 + 1 < wx.heap.size ∧ w.heap.size + 1 + 1 + 1 < wx.heap.size ∧ w2.heap.size < wx.heap.size ∧ wx.cell? ⟨w.heap.size, 0, none⟩ = some (.int .i64 r.x) ∧ wx.cell? ⟨w.heap.size, 1, none⟩ = some (.int .i64 r.y) ∧ wx.cell? ⟨w.heap.size, 2, none⟩ = some (.bool r.far) ∧ wx.cell? ⟨w.heap.size + 1, 0, none⟩ = some (.int .i64 key.x) ∧ wx.cell? ⟨w.heap.size + 1, 1, none⟩ = some (.int .i64 key.y) ∧ wx.cell? ⟨w.heap.size + 1, 2, none⟩ = some (.bool key.far) ∧ wx.cell? ⟨w.heap.size + 1 + 1, 0, none⟩ = some (.int .i64 R.x) ∧ wx.cell? ⟨w.heap.size + 1 + 1, 1, none⟩ = some (.int .i64 R.y) ∧ wx.cell? ⟨w.heap.size + 1 + 1, 2, none⟩ = some (.bool R.far) ∧ wx.cell? ⟨w.heap.size + 1 + 1, 3, none⟩ = some (.int .i64 S))
      case first =>
        rcases h2.out with ⟨e1, e2⟩ | ⟨e1, e2⟩
        · subst e1
          replace e2 := Lib.hid e2
          clear h2
          go_wp2_with fail
          refine (refSpot_e r E2 _ e2).mono ?_; rintro e w5 ⟨rfl, hb⟩
          obtain ⟨hc5, hf5⟩ := bcell hb
          have z5 := hb.size
          try simp only [World.size_alloc, World.size_setCell, World.size_drew] at z5
          have s5_0 : w.heap.size < w5.heap.size := by omega
          have s5_1 : w.heap.size + 1 < w5.heap.size := by omega
          have s5_2 : w.heap.size + 1 + 1 < w5.heap.size := by omega
          have s5_3 : w.heap.size + 1 + 1 + 1 < w5.heap.size := by omega
          have s5_4 : w2.heap.size < w5.heap.size := by omega
          have hB5 : Below w.heap.size w w5 := below_seq (by repeat (first | exact hB4 | exact Below.refl _ _ | refine balloc ?_ _ | refine Below.drew ?_ | refine below_drewN ?_ _ | refine below_set ?_ (by first | omega | (dsimp only; omega)) _)) hb
          clear hb
          have m5_0_0 : w5.cell? ⟨w.heap.size, 0, none⟩ = some (.int .i64 r.x) := by go_simp
          have m5_0_1 : w5.cell? ⟨w.heap.size, 1, none⟩ = some (.int .i64 r.y) := by go_simp
          have m5_0_2 : w5.cell? ⟨w.heap.size, 2, none⟩ = some (.bool r.far) := by go_simp
          have m5_1_0 : w5.cell? ⟨w.heap.size + 1, 0, none⟩ = some (.int .i64 key.x) := by go_simp
          have m5_1_1 : w5.cell? ⟨w.heap.size + 1, 1, none⟩ = some (.int .i64 key.y) := by go_simp
          have m5_1_2 : w5.cell? ⟨w.heap.size + 1, 2, none⟩ = some (.bool key.far) := by go_simp
          have m5_2_0 : w5.cell? ⟨w.heap.size + 1 + 1, 0, none⟩ = some (.int .i64 R.x) := by go_simp
          have m5_2_1 : w5.cell? ⟨w.heap.size + 1 + 1, 1, none⟩ = some (.int .i64 R.y) := by go_simp
          have m5_2_2 : w5.cell? ⟨w.heap.size + 1 + 1, 2, none⟩ = some (.bool R.far) := by go_simp
          have m5_2_3 : w5.cell? ⟨w.heap.size + 1 + 1, 3, none⟩ = some (.int .i64 S) := by go_simp
          clear m4_0_0 m4_0_1 m4_0_2 m4_1_0 m4_1_1 m4_1_2 m4_2_0 m4_2_1 m4_2_2 m4_2_3
          clear hc5
          go_wp2_with fail
          go_meet
          exact ⟨rfl, (by repeat (first | exact hB5 | exact Below.refl _ _ | refine balloc ?_ _ | refine Below.drew ?_ | refine below_drewN ?_ _ | refine below_set ?_ (by first | omega | (dsimp only; omega)) _)), (by first | omega | (simp only [World.size_alloc, World.size_setCell, World.size_drew]; omega)), (by first | omega | (simp only [World.size_alloc, World.size_setCell, World.size_drew]; omega)), (by first | omega | (simp only [World.size_alloc, World.size_setCell, World.size_drew]; omega)), (by first | omega | (simp only [World.size_alloc, World.size_setCell, World.size_drew]; omega)), (by first | omega | (simp only [World.size_alloc, World.size_setCell, World.size_drew]; omega)), (by go_simp), (by go_simp), (by go_simp), (by go_simp), (by go_simp), (by go_simp), (by go_simp), (by go_simp), (by go_simp), (by go_simp)⟩
        · subst e2
          clear h2
          go_wp2_with fail
          go_meet
          exact ⟨rfl, (by repeat (first | exact hB4 | exact Below.refl _ _ | refine balloc ?_ _ | refine Below.drew ?_ | refine below_drewN ?_ _ | refine below_set ?_ (by first | omega | (dsimp only; omega)) _)), (by first | omega | (simp only [World.size_alloc, World.size_setCell, World.size_drew]; omega)), (by first | omega | (simp only [World.size_alloc, World.size_setCell, World.size_drew]; omega)), (by first | omega | (simp only [World.size_alloc, World.size_setCell, World.size_drew]; omega)), (by first | omega | (simp only [World.size_alloc, World.size_setCell, World.size_drew]; omega)), (by first | omega | (simp only [World.size_alloc, World.size_setCell, World.size_drew]; omega)), (by go_simp), (by go_simp), (by go_simp), (by go_simp), (by go_simp), (by go_simp), (by go_simp), (by go_simp), (by go_simp), (by go_simp)⟩
      case rest =>
        obtain ⟨w5, hwq⟩ : ∃ x, x = wc := ⟨_, rfl⟩
        subst hwq
        obtain ⟨rfl, hB5, s5_0, s5_1, s5_2, s5_3, s5_4, m5_0_0, m5_0_1, m5_0_2, m5_1_0, m5_1_1, m5_1_2, m5_2_0, m5_2_1, m5_2_2, m5_2_3⟩ := hcut
        clear m4_0_0 m4_0_1 m4_0_2 m4_1_0 m4_1_1 m4_1_2 m4_2_0 m4_2_1 m4_2_2 m4_2_3
        clear h2
        go_upto_if 58 with fail
        go_cut [13] (fun s13 wx => s13 = .int .i64 E3 ∧ Below w.heap.size w wx ∧ w.heap.size < wx.heap.size ∧ w.heap.size + 1 < wx.heap.size ∧ w.heap.size + 1 + 1 < wx.heap.size ∧ w.heap.size + 1 + 1 + 1 < wx.heap.size ∧ w2.heap.size < wx.heap.size ∧ wx.cell? ⟨w.heap.size, 0, none⟩ = some (.int .i64 r.x) ∧ wx.cell? ⟨w.heap.size, 1, none⟩ = some (.int .i64 r.y) ∧ wx.cell? ⟨w.heap.size, 2, none⟩ = some (.bool r.far) ∧ wx.cell? ⟨w.heap.size + 1, 0, none⟩ = some (.int .i64 key.x) ∧ wx.cell? ⟨w.heap.size + 1, 1, none⟩ = some (.int .i64 key.y) ∧ wx.cell? ⟨w.heap.size + 1, 2, none⟩ = some (.bool key.far) ∧ wx.cell? ⟨w.heap.size + 1 + 1, 0, none⟩ = some (.int .i64 R.x) ∧ wx.cell? ⟨w.heap.size + 1 + 1, 1, none⟩ = some (.int .i64 R.y) ∧ wx.cell? ⟨w.heap.size + 1 + 1, 2, none⟩ = some (.bool R.far) ∧ wx.cell? ⟨w.heap.size + 1 + 1, 3, none⟩ = some (.int .i64 S))
        case first =>
          rcases h3.out with ⟨e1, e2⟩ | ⟨e1, e2⟩
          · subst e1
            replace e2 := Lib.hid e2
            clear h3
            go_wp2_with fail
            refine (refSpot_e key E3 _ e2).mono ?_; rintro e w6 ⟨rfl, hb⟩
            obtain ⟨hc6, hf6⟩ := bcell hb
            have z6 := hb.size
            try simp only [World.size_alloc, World.size_setCell, World.size_drew] at z6
            have s6_0 : w.heap.size < w6.heap.size := by omega
            have s6_1 : w.heap.size + 1 < w6.heap.size := by omega
            have s6_2 : w.heap.size + 1 + 1 < w6.heap.size := by omega
            have s6_3 : w.heap.size + 1 + 1 + 1 < w6.heap.size := by omega
            have s6_4 : w2.heap.size < w6.heap.size := by omega
            have hB6 : Below w.heap.size w w6 := below_seq (by repeat (first | exact hB5 | exact Below.refl _ _ | refine balloc ?_ _ | refine Below.drew ?_ | refine below_drewN ?_ _ | refine below_set ?_ (by first | omega | (dsimp only; omega)) _)) hb
            clear hb
            have m6_0_0 : w6.cell? ⟨w.heap.size, 0, none⟩ = some (.int .i64 r.x) := by go_simp
            have m6_0_1 : w6.cell? ⟨w.heap.size, 1, none⟩ = some (.int .i64 r.y) := by go_simp
            have m6_0_2 : w6.cell? ⟨w.heap.size, 2, none⟩ = some (.bool r.far) := by go_simp
            have m6_1_0 : w6.cell? ⟨w.heap.size + 1, 0, none⟩ = some (.int .i64 key.x) := by go_simp
            have m6_1_1 : w6.cell? ⟨w.heap.size + 1, 1, none⟩ = some (.int .i64 key.y) := by go_simp
            have m6_1_2 : w6.cell? ⟨w.heap.size + 1, 2, none⟩ = some (.bool key.far) := by go_simp
            have m6_2_0 : w6.cell? ⟨w.heap.size + 1 + 1, 0, none⟩ = some (.int .i64 R.x) := by go_simp
            have m6_2_1 : w6.cell? ⟨w.heap.size + 1 + 1, 1, none⟩ = some (.int .i64 R.y) := by go_simp
            have m6_2_2 : w6.cell? ⟨w.heap.size + 1 + 1, 2, none⟩ = some (.bool R.far) := by go_simp
            have m6_2_3 : w6.cell? ⟨w.heap.size + 1 + 1, 3, none⟩ = some (.int .i64 S) := by go_simp
            clear m5_0_0 m5_0_1 m5_0_2 m5_1_0 m5_1_1 m5_1_2 m5_2_0 m5_2_1 m5_2_2 m5_2_3
            clear hc6
            go_wp2_with fail
            go_meet
            exact ⟨rfl, (by repeat (first | exact hB6 | exact Below.refl _ _ | refine balloc ?_ _ | refine Below.drew ?_ | refine below_drewN ?_ _ | refine below_set ?_ (by first | omega | (dsimp only; omega)) _)), (by first | omega | (simp only [World.size_alloc, World.size_setCell, World.size_drew]; omega)), (by first | omega | (simp only [World.size_alloc, World.size_setCell, World.size_drew]; omega)), (by first | omega | (simp only [World.size_alloc, World.size_setCell, World.size_drew]; omega)), (by first | omega | (simp only [World.size_alloc, World.size_setCell, World.size_drew]; omega)), (by first | omega | (simp only [World.size_alloc, World.size_setCell, World.size_drew]; omega)), (by go_simp), (by go_simp), (by go_simp), (by go_simp), (by go_simp), (by go_simp), (by go_simp), (by go_simp), (by go_simp), (by go_simp)⟩
          · subst e2
            clear h3
            go_wp2_with fail
            go_meet
            exact ⟨rfl, (by repeat (first | exact hB5 | exact Below.refl _ _ | refine balloc ?_ _ | refine Below.drew ?_ | refine below_drewN ?_ _ | refine below_set ?_ (by first | omega | (dsimp only; omega)) _)), (by first | omega | (simp only [World.size_alloc, World.size_setCell, World.size_drew]; omega)), (by first | omega | (simp only [World.size_alloc, World.size_setCell, World.size_drew]; omega)), (by first | omega | (simp only [World.size_alloc, World.size_setCell, World.size_drew]; omega)), (by first | omega | (simp only [World.size_alloc, World.size_setCell, World.size_drew]; omega)), (by first | omega | (simp only [World.size_alloc, World.size_setCell, World.size_drew]; omega)), (by go_simp), (by go_simp), (by go_simp), (by go_simp), (by go_simp), (by go_simp), (by go_simp), (by go_simp), (by go_simp), (by go_simp)⟩
        case rest =>
          obtain ⟨w6, hwq⟩ : ∃ x, x = wc := ⟨_, rfl⟩
          subst hwq
          obtain ⟨rfl, hB6, s6_0, s6_1, s6_2, s6_3, s6_4, m6_0_0, m6_0_1, m6_0_2, m6_1_0, m6_1_1, m6_1_2, m6_2_0, m6_2_1, m6_2_2, m6_2_3⟩ := hcut
          clear m5_0_0 m5_0_1 m5_0_2 m5_1_0 m5_1_1 m5_1_2 m5_2_0 m5_2_1 m5_2_2 m5_2_3
          clear h3
          go_upto_if 62 with fail
          go_cut [20] (fun s20 wx => s20 = .int .i64 N ∧ Below w.heap.size w wx ∧ w.heap.size < wx.heap.size ∧ w.heap.size + 1 < wx.heap.size ∧ w.heap.size + 1 + 1 < wx.heap.size ∧ w.heap.size + 1 + 1 + 1 < wx.heap.size ∧ w2.heap.size < wx.heap.size ∧ wx.cell? ⟨w.heap.size, 0, none⟩ = some (.int .i64 r.x) ∧ wx.cell? ⟨w.heap.size, 1, none⟩ = some (.int .i64 r.y) ∧ wx.cell? ⟨w.heap.size, 2, none⟩ = some (.bool r.far) ∧ wx.cell? ⟨w.heap.size + 1, 0, none⟩ = some (.int .i64 key.x) ∧ wx.cell? ⟨w.heap.size + 1, 1, none⟩ = some (.int .i64 key.y) ∧ wx.cell? ⟨w.heap.size + 1, 2, none⟩ = some (.bool key.far) ∧ wx.cell? ⟨w.heap.size + 1 + 1, 0, none⟩ = some (.int .i64 R.x) ∧ wx.cell? ⟨w.heap.size + 1 + 1, 1, none⟩ = some (.int .i64 R.y) ∧ wx.cell? ⟨w.heap.size + 1 + 1, 2, none⟩ = some (.bool R.far) ∧ wx.cell? ⟨w.heap.size + 1 + 1, 3, none⟩ = some (.int .i64 S))
          case first =>
            rcases hN.out with ⟨e1, e2, e3, e4, e5⟩ | ⟨e1, e2⟩
            · subst e1
              replace e5 := Lib.hid e5
              clear hN
              go_wp2_with fail
              refine (rAsk_e r key t N _ e2 e3 e4 e5).mono ?_; rintro e w7 ⟨rfl, hb⟩
              obtain ⟨hc7, hf7⟩ := bcell hb
              have z7 := hb.size
              try simp only [World.size_alloc, World.size_setCell, World.size_drew] at z7
              have s7_0 : w.heap.size < w7.heap.size := by omega
              have s7_1 : w.heap.size + 1 < w7.heap.size := by omega
              have s7_2 : w.heap.size + 1 + 1 < w7.heap.size := by omega
              have s7_3 : w.heap.size + 1 + 1 + 1 < w7.heap.size := by omega
              have s7_4 : w2.heap.size < w7.heap.size := by omega
              have hB7 : Below w.heap.size w w7 := below_seq (by repeat (first | exact hB6 | exact Below.refl _ _ | refine balloc ?_ _ | refine Below.drew ?_ | refine below_drewN ?_ _ | refine below_set ?_ (by first | omega | (dsimp only; omega)) _)) hb
              clear hb
              have m7_0_0 : w7.cell? ⟨w.heap.size, 0, none⟩ = some (.int .i64 r.x) := by go_simp
              have m7_0_1 : w7.cell? ⟨w.heap.size, 1, none⟩ = some (.int .i64 r.y) := by go_simp
              have m7_0_2 : w7.cell? ⟨w.heap.size, 2, none⟩ = some (.bool r.far) := by go_simp
              have m7_1_0 : w7.cell? ⟨w.heap.size + 1, 0, none⟩ = some (.int .i64 key.x) := by go_simp
              have m7_1_1 : w7.cell? ⟨w.heap.size + 1, 1, none⟩ = some (.int .i64 key.y) := by go_simp
              have m7_1_2 : w7.cell? ⟨w.heap.size + 1, 2, none⟩ = some (.bool key.far) := by go_simp
              have m7_2_0 : w7.cell? ⟨w.heap.size + 1 + 1, 0, none⟩ = some (.int .i64 R.x) := by go_simp
              have m7_2_1 : w7.cell? ⟨w.heap.size + 1 + 1, 1, none⟩ = some (.int .i64 R.y) := by go_simp
              have m7_2_2 : w7.cell? ⟨w.heap.size + 1 + 1, 2, none⟩ = some (.bool R.far) := by go_simp
              have m7_2_3 : w7.cell? ⟨w.heap.size + 1 + 1, 3, none⟩ = some (.int .i64 S) := by go_simp
              clear m6_0_0 m6_0_1 m6_0_2 m6_1_0 m6_1_1 m6_1_2 m6_2_0 m6_2_1 m6_2_2 m6_2_3
              clear hc7
              go_wp2_with fail
              go_meet
              exact ⟨rfl, (by repeat (first | exact hB7 | exact Below.refl _ _ | refine balloc ?_ _ | refine Below.drew ?_ | refine below_drewN ?_ _ | refine below_set ?_ (by first | omega | (dsimp only; omega)) _)), (by first | omega | (simp only [World.size_alloc, World.size_setCell, World.size_drew]; omega)), (by first | omega | (simp only [World.size_alloc, World.size_setCell, World.size_drew]; omega)), (by first | omega | (simp only [World.size_alloc, World.size_setCell, World.size_drew]; omega)), (by first | omega | (simp only [World.size_alloc, World.size_setCell, World.size_drew]; omega)), (by first | omega | (simp only [World.size_alloc, World.size_setCell, World.size_drew]; omega)), (by go_simp), (by go_simp), (by go_simp), (by go_simp), (by go_simp), (by go_simp), (by go_simp), (by go_simp), (by go_simp), (by go_simp)⟩
            · subst e2
              clear hN
              go_wp2_with fail
              go_meet
              exact ⟨rfl, (by repeat (first | exact hB6 | exact Below.refl _ _ | refine balloc ?_ _ | refine Below.drew ?_ | refine below_drewN ?_ _ | refine below_set ?_ (by first | omega | (dsimp only; omega)) _)), (by first | omega | (simp only [World.size_alloc, World.size_setCell, World.size_drew]; omega)), (by first | omega | (simp only [World.size_alloc, World.size_setCell, World.size_drew]; omega)), (by first | omega | (simp only [World.size_alloc, World.size_setCell, World.size_drew]; omega)), (by first | omega | (simp only [World.size_alloc, World.size_setCell, World.size_drew]; omega)), (by first | omega | (simp only [World.size_alloc, World.size_setCell, World.size_drew]; omega)), (by go_simp), (by go_simp), (by go_simp), (by go_simp), (by go_simp), (by go_simp), (by go_simp), (by go_simp), (by go_simp), (by go_simp)⟩
          case rest =>
            obtain ⟨w7, hwq⟩ : ∃ x, x = wc := ⟨_, rfl⟩
            subst hwq
            obtain ⟨rfl, hB7, s7_0, s7_1, s7_2, s7_3, s7_4, m7_0_0, m7_0_1, m7_0_2, m7_1_0, m7_1_1, m7_1_2, m7_2_0, m7_2_1, m7_2_2, m7_2_3⟩ := hcut
            clear m6_0_0 m6_0_1 m6_0_2 m6_1_0 m6_1_1 m6_1_2 m6_2_0 m6_2_1 m6_2_2 m6_2_3
            clear hN
            go_wp2_with fail
            refine (kAsk.out _ (hF.below (by repeat (first | exact hB7 | exact Below.refl _ _ | refine balloc ?_ _ | refine Below.drew ?_ | refine below_drewN ?_ _ | refine below_set ?_ (by first | omega | (dsimp only; omega)) _)))).mono ?_; rintro e w8 ⟨rfl, hb⟩
            obtain ⟨hc8, hf8⟩ := bcell hb
            have z8 := hb.size
            try simp only [World.size_alloc, World.size_setCell, World.size_drew] at z8
            have s8_0 : w.heap.size < w8.heap.size := by omega
            have s8_1 : w.heap.size + 1 < w8.heap.size := by omega
            have s8_2 : w.heap.size + 1 + 1 < w8.heap.size := by omega
            have s8_3 : w.heap.size + 1 + 1 + 1 < w8.heap.size := by omega
            have s8_4 : w2.heap.size < w8.heap.size := by omega
            have hB8 : Below w.heap.size w w8 := below_seq (by repeat (first | exact hB7 | exact Below.refl _ _ | refine balloc ?_ _ | refine Below.drew ?_ | refine below_drewN ?_ _ | refine below_set ?_ (by first | omega | (dsimp only; omega)) _)) hb
            clear hb
            have m8_0_0 : w8.cell? ⟨w.heap.size, 0, none⟩ = some (.int .i64 r.x) := by go_simp
            have m8_0_1 : w8.cell? ⟨w.heap.size, 1, none⟩ = some (.int .i64 r.y) := by go_simp
            have m8_0_2 : w8.cell? ⟨w.heap.size, 2, none⟩ = some (.bool r.far) := by go_simp
            have m8_1_0 : w8.cell? ⟨w.heap.size + 1, 0, none⟩ = some (.int .i64 key.x) := by go_simp
            have m8_1_1 : w8.cell? ⟨w.heap.size + 1, 1, none⟩ = some (.int .i64 key.y) := by go_simp
            have m8_1_2 : w8.cell? ⟨w.heap.size + 1, 2, none⟩ = some (.bool key.far) := by go_simp
            have m8_2_0 : w8.cell? ⟨w.heap.size + 1 + 1, 0, none⟩ = some (.int .i64 R.x) := by go_simp
            have m8_2_1 : w8.cell? ⟨w.heap.size + 1 + 1, 1, none⟩ = some (.int .i64 R.y) := by go_simp
            have m8_2_2 : w8.cell? ⟨w.heap.size + 1 + 1, 2, none⟩ = some (.bool R.far) := by go_simp
            have m8_2_3 : w8.cell? ⟨w.heap.size + 1 + 1, 3, none⟩ = some (.int .i64 S) := by go_simp
            clear m7_0_0 m7_0_1 m7_0_2 m7_1_0 m7_1_1 m7_1_2 m7_2_0 m7_2_1 m7_2_2 m7_2_3
            clear hc8
            go_wp2_with fail
            refine (error_same (errV E3) E3 _ (hE.below (by repeat (first | exact hB8 | exact Below.refl _ _ | refine balloc ?_ _ | refine Below.drew ?_ | refine below_drewN ?_ _ | refine below_set ?_ (by first | omega | (dsimp only; omega)) _))) (Lib.hid rfl)).mono ?_; rintro e w9 ⟨rfl, hb⟩
            obtain ⟨hc9, hf9⟩ := bcell hb
            have z9 := hb.size
            try simp only [World.size_alloc, World.size_setCell, World.size_drew] at z9
            have s9_0 : w.heap.size < w9.heap.size := by omega
            have s9_1 : w.heap.size + 1 < w9.heap.size := by omega
            have s9_2 : w.heap.size + 1 + 1 < w9.heap.size := by omega
            have s9_3 : w.heap.size + 1 + 1 + 1 < w9.heap.size := by omega
            have s9_4 : w2.heap.size < w9.heap.size := by omega
            have hB9 : Below w.heap.size w w9 := below_seq (by repeat (first | exact hB8 | exact Below.refl _ _ | refine balloc ?_ _ | refine Below.drew ?_ | refine below_drewN ?_ _ | refine below_set ?_ (by first | omega | (dsimp only; omega)) _)) hb
            clear hb
            have m9_0_0 : w9.cell? ⟨w.heap.size, 0, none⟩ = some (.int .i64 r.x) := by go_simp
            have m9_0_1 : w9.cell? ⟨w.heap.size, 1, none⟩ = some (.int .i64 r.y) := by go_simp
            have m9_0_2 : w9.cell? ⟨w.heap.size, 2, none⟩ = some (.bool r.far) := by go_simp
            have m9_1_0 : w9.cell? ⟨w.heap.size + 1, 0, none⟩ = some (.int .i64 key.x) := by go_simp
            have m9_1_1 : w9.cell? ⟨w.heap.size + 1, 1, none⟩ = some (.int .i64 key.y) := by go_simp
            have m9_1_2 : w9.cell? ⟨w.heap.size + 1, 2, none⟩ = some (.bool key.far) := by go_simp
            have m9_2_0 : w9.cell? ⟨w.heap.size + 1 + 1, 0, none⟩ = some (.int .i64 R.x) := by go_simp
            have m9_2_1 : w9.cell? ⟨w.heap.size + 1 + 1, 1, none⟩ = some (.int .i64 R.y) := by go_simp
            have m9_2_2 : w9.cell? ⟨w.heap.size + 1 + 1, 2, none⟩ = some (.bool R.far) := by go_simp
            have m9_2_3 : w9.cell? ⟨w.heap.size + 1 + 1, 3, none⟩ = some (.int .i64 S) := by go_simp
            clear m8_0_0 m8_0_1 m8_0_2 m8_1_0 m8_1_1 m8_1_2 m8_2_0 m8_2_1 m8_2_2 m8_2_3
            clear hc9
            go_upto_region 24 with fail
            go_cut [87] (fun s87 wx => s87 = .bool B3 ∧ Below w.heap.size w wx ∧ w.heap.size < wx.heap.size ∧ w.heap.size + 1 < wx.heap.size ∧ w.heap.size + 1 + 1 < wx.heap.size ∧ w.heap.size + 1 + 1 + 1 < wx.heap.size ∧ w2.heap.size < wx.heap.size ∧ w9.heap.size < wx.heap.size ∧ wx.cell? ⟨w.heap.size, 0, none⟩ = some (.int .i64 r.x) ∧ wx.cell? ⟨w.heap.size, 1, none⟩ = some (.int .i64 r.y) ∧ wx.cell? ⟨w.heap.size, 2, none⟩ = some (.bool r.far) ∧ wx.cell? ⟨w.heap.size + 1, 0, none⟩ = some (.int .i64 key.x) ∧ wx.cell? ⟨w.heap.size + 1, 1, none⟩ = some (.int .i64 key.y) ∧ wx.cell? ⟨w.heap.size + 1, 2, none⟩ = some (.bool key.far) ∧ wx.cell? ⟨w.heap.size + 1 + 1, 0, none⟩ = some (.int .i64 R.x) ∧ wx.cell? ⟨w.heap.size + 1 + 1, 1, none⟩ = some (.int .i64 R.y) ∧ wx.cell? ⟨w.heap.size + 1 + 1, 2, none⟩ = some (.bool R.far) ∧ wx.cell? ⟨w.heap.size + 1 + 1, 3, none⟩ = some (.int .i64 S) ∧ wx.cell? ⟨w9.heap.size, 0, none⟩ = some (.int .i64 0) ∧ wx.cell? ⟨w9.heap.size, 1, none⟩ = some (.int .i64 0) ∧ wx.cell? ⟨w9.heap.size, 2, none⟩ = some (.bool false) ∧ wx.cell? ⟨w9.heap.size, 3, none⟩ = some (.int .i64 0) ∧ wx.frozen? ⟨w9.heap.size, 0, none⟩ = false ∧ wx.frozen? ⟨w9.heap.size, 1, none⟩ = false ∧ wx.frozen? ⟨w9.heap.size, 2, none⟩ = false ∧ wx.frozen? ⟨w9.heap.size, 3, none⟩ = false)
            case first =>
              cases B1 <;> cases B2
              · go_wp2_with fail
                go_meet
                exact ⟨(by rw [← jB3.out]; rfl), (by repeat (first | exact hB9 | exact Below.refl _ _ | refine balloc ?_ _ | refine Below.drew ?_ | refine below_drewN ?_ _ | refine below_set ?_ (by first | omega | (dsimp only; omega)) _)), (by first | omega | (simp only [World.size_alloc, World.size_setCell, World.size_drew]; omega)), (by first | omega | (simp only [World.size_alloc, World.size_setCell, World.size_drew]; omega)), (by first | omega | (simp only [World.size_alloc, World.size_setCell, World.size_drew]; omega)), (by first | omega | (simp only [World.size_alloc, World.size_setCell, World.size_drew]; omega)), (by first | omega | (simp only [World.size_alloc, World.size_setCell, World.size_drew]; omega)), (by first | omega | (simp only [World.size_alloc, World.size_setCell, World.size_drew]; omega)), (by go_simp), (by go_simp), (by go_simp), (by go_simp), (by go_simp), (by go_simp), (by go_simp), (by go_simp), (by go_simp), (by go_simp), (by go_simp), (by go_simp), (by go_simp), (by go_simp), (by go_simp), (by go_simp), (by go_simp), (by go_simp)⟩
              · go_wp2_with fail
                go_meet
                exact ⟨(by rw [← jB3.out]; rfl), (by repeat (first | exact hB9 | exact Below.refl _ _ | refine balloc ?_ _ | refine Below.drew ?_ | refine below_drewN ?_ _ | refine below_set ?_ (by first | omega | (dsimp only; omega)) _)), (by first | omega | (simp only [World.size_alloc, World.size_setCell, World.size_drew]; omega)), (by first | omega | (simp only [World.size_alloc, World.size_setCell, World.size_drew]; omega)), (by first | omega | (simp only [World.size_alloc, World.size_setCell, World.size_drew]; omega)), (by first | omega | (simp only [World.size_alloc, World.size_setCell, World.size_drew]; omega)), (by first | omega | (simp only [World.size_alloc, World.size_setCell, World.size_drew]; omega)), (by first | omega | (simp only [World.size_alloc, World.size_setCell, World.size_drew]; omega)), (by go_simp), (by go_simp), (by go_simp), (by go_simp), (by go_simp), (by go_simp), (by go_simp), (by go_simp), (by go_simp), (by go_simp), (by go_simp), (by go_simp), (by go_simp), (by go_simp), (by go_simp), (by go_simp), (by go_simp), (by go_simp)⟩
              · go_wp2_with fail
                go_meet
                exact ⟨(by rw [← jB3.out]; rfl), (by repeat (first | exact hB9 | exact Below.refl _ _ | refine balloc ?_ _ | refine Below.drew ?_ | refine below_drewN ?_ _ | refine below_set ?_ (by first | omega | (dsimp only; omega)) _)), (by first | omega | (simp only [World.size_alloc, World.size_setCell, World.size_drew]; omega)), (by first | omega | (simp only [World.size_alloc, World.size_setCell, World.size_drew]; omega)), (by first | omega | (simp only [World.size_alloc, World.size_setCell, World.size_drew]; omega)), (by first | omega | (simp only [World.size_alloc, World.size_setCell, World.size_drew]; omega)), (by first | omega | (simp only [World.size_alloc, World.size_setCell, World.size_drew]; omega)), (by first | omega | (simp only [World.size_alloc, World.size_setCell, World.size_drew]; omega)), (by go_simp), (by go_simp), (by go_simp), (by go_simp), (by go_simp), (by go_simp), (by go_simp), (by go_simp), (by go_simp), (by go_simp), (by go_simp), (by go_simp), (by go_simp), (by go_simp), (by go_simp), (by go_simp), (by go_simp), (by go_simp)⟩
              · go_wp2_with fail
                go_meet
                exact ⟨(by rw [← jB3.out]; rfl), (by repeat (first | exact hB9 | exact Below.refl _ _ | refine balloc ?_ _ | refine Below.drew ?_ | refine below_drewN ?_ _ | refine below_set ?_ (by first | omega | (dsimp only; omega)) _)), (by first | omega | (simp only [World.size_alloc, World.size_setCell, World.size_drew]; omega)), (by first | omega | (simp only [World.size_alloc, World.size_setCell, World.size_drew]; omega)), (by first | omega | (simp only [World.size_alloc, World.size_setCell, World.size_drew]; omega)), (by first | omega | (simp only [World.size_alloc, World.size_setCell, World.size_drew]; omega)), (by first | omega | (simp only [World.size_alloc, World.size_setCell, World.size_drew]; omega)), (by first | omega | (simp only [World.size_alloc, World.size_setCell, World.size_drew]; omega)), (by go_simp), (by go_simp), (by go_simp), (by go_simp), (by go_simp), (by go_simp), (by go_simp), (by go_simp), (by go_simp), (by go_simp), (by go_simp), (by go_simp), (by go_simp), (by go_simp), (by go_simp), (by go_simp), (by go_simp), (by go_simp)⟩
            case rest =>
              obtain ⟨w10, hwq⟩ : ∃ x, x = wc := ⟨_, rfl⟩
              subst hwq
              obtain ⟨rfl, hB10, s10_0, s10_1, s10_2, s10_3, s10_4, s10_5, m10_0_0, m10_0_1, m10_0_2, m10_1_0, m10_1_1, m10_1_2, m10_2_0, m10_2_1, m10_2_2, m10_2_3, m10_3_0, m10_3_1, m10_3_2, m10_3_3, y10_0_0, y10_0_1, y10_0_2, y10_0_3⟩ := hcut
              clear m9_0_0 m9_0_1 m9_0_2 m9_1_0 m9_1_1 m9_1_2 m9_2_0 m9_2_1 m9_2_2 m9_2_3
              go_upto_if 87 with fail
              go_cut [13] (fun s13 wx => s13 = .int .i64 E4 ∧ Below w.heap.size w wx ∧ w.heap.size < wx.heap.size ∧ w.heap.size + 1 < wx.heap.size ∧ w.heap.size + 1 + 1 < wx.heap.size ∧ w.heap.size + 1 + 1 + 1 < wx.heap.size ∧ w2.heap.size < wx.heap.size ∧ w9.heap.size < wx.heap.size ∧ wx.cell? ⟨w.heap.size, 0, none⟩ = some (.int .i64 r.x) ∧ wx.cell? ⟨w.heap.size, 1, none⟩ = some (.int .i64 r.y) ∧ wx.cell? ⟨w.heap.size, 2, none⟩ = some (.bool r.far) ∧ wx.cell? ⟨w.heap.size + 1, 0, none⟩ = some (.int .i64 key.x) ∧ wx.cell? ⟨w.heap.size + 1, 1, none⟩ = some (.int .i64 key.y) ∧ wx.cell? ⟨w.heap.size + 1, 2, none⟩ = some (.bool key.far) ∧ wx.cell? ⟨w.heap.size + 1 + 1, 0, none⟩ = some (.int .i64 R.x) ∧ wx.cell? ⟨w.heap.size + 1 + 1, 1, none⟩ = some (.int .i64 R.y) ∧ wx.cell? ⟨w.heap.size + 1 + 1, 2, none⟩ = some (.bool R.far) ∧ wx.cell? ⟨w.heap.size + 1 + 1, 3, none⟩ = some (.int .i64 S) ∧ wx.cell? ⟨w9.heap.size, 0, none⟩ = some (.int .i64 Z.x) ∧ wx.cell? ⟨w9.heap.size, 1, none⟩ = some (.int .i64 Z.y) ∧ wx.cell? ⟨w9.heap.size, 2, none⟩ = some (.bool Z.far) ∧ wx.cell? ⟨w9.heap.size, 3, none⟩ = some (.int .i64 Y) ∧ wx.frozen? ⟨w9.heap.size, 0, none⟩ = false ∧ wx.frozen? ⟨w9.heap.size, 1, none⟩ = false ∧ wx.frozen? ⟨w9.heap.size, 2, none⟩ = false ∧ wx.frozen? ⟨w9.heap.size, 3, none⟩ = false)
              case first =>
                rcases h5.out with ⟨e1, e2, e3, e4⟩ | ⟨e1, e2, e3, e4, e5⟩ | ⟨e1, e2, e3, e4⟩
                · subst e1 e3
                  replace e4 := Lib.hid e4
                  clear h5
                  go_wp2_with fail
                  refine (e4.out _).mono ?_; rintro e w11 ⟨rfl, hb⟩
                  obtain ⟨hc11, hf11⟩ := bcell hb
                  have z11 := hb.size
                  try simp only [World.size_alloc, World.size_setCell, World.size_drew] at z11
                  have s11_0 : w.heap.size < w11.heap.size := by omega
                  have s11_1 : w.heap.size + 1 < w11.heap.size := by omega
                  have s11_2 : w.heap.size + 1 + 1 < w11.heap.size := by omega
                  have s11_3 : w.heap.size + 1 + 1 + 1 < w11.heap.size := by omega
                  have s11_4 : w2.heap.size < w11.heap.size := by omega
                  have s11_5 : w9.heap.size < w11.heap.size := by omega
                  have hB11 : Below w.heap.size w w11 := below_seq (by repeat (first | exact hB10 | exact Below.refl _ _ | refine balloc ?_ _ | refine Below.drew ?_ | refine below_drewN ?_ _ | refine below_set ?_ (by first | omega | (dsimp only; omega)) _)) hb
                  clear hb
                  have m11_0_0 : w11.cell? ⟨w.heap.size, 0, none⟩ = some (.int .i64 r.x) := by go_simp
                  have m11_0_1 : w11.cell? ⟨w.heap.size, 1, none⟩ = some (.int .i64 r.y) := by go_simp
                  have m11_0_2 : w11.cell? ⟨w.heap.size, 2, none⟩ = some (.bool r.far) := by go_simp
                  have m11_1_0 : w11.cell? ⟨w.heap.size + 1, 0, none⟩ = some (.int .i64 key.x) := by go_simp
                  have m11_1_1 : w11.cell? ⟨w.heap.size + 1, 1, none⟩ = some (.int .i64 key.y) := by go_simp
                  have m11_1_2 : w11.cell? ⟨w.heap.size + 1, 2, none⟩ = some (.bool key.far) := by go_simp
                  have m11_2_0 : w11.cell? ⟨w.heap.size + 1 + 1, 0, none⟩ = some (.int .i64 R.x) := by go_simp
                  have m11_2_1 : w11.cell? ⟨w.heap.size + 1 + 1, 1, none⟩ = some (.int .i64 R.y) := by go_simp
                  have m11_2_2 : w11.cell? ⟨w.heap.size + 1 + 1, 2, none⟩ = some (.bool R.far) := by go_simp
                  have m11_2_3 : w11.cell? ⟨w.heap.size + 1 + 1, 3, none⟩ = some (.int .i64 S) := by go_simp
                  have m11_3_0 : w11.cell? ⟨w9.heap.size, 0, none⟩ = some (.int .i64 0) := by go_simp
                  have m11_3_1 : w11.cell? ⟨w9.heap.size, 1, none⟩ = some (.int .i64 0) := by go_simp
                  have m11_3_2 : w11.cell? ⟨w9.heap.size, 2, none⟩ = some (.bool false) := by go_simp
                  have m11_3_3 : w11.cell? ⟨w9.heap.size, 3, none⟩ = some (.int .i64 0) := by go_simp
                  clear m10_0_0 m10_0_1 m10_0_2 m10_1_0 m10_1_1 m10_1_2 m10_2_0 m10_2_1 m10_2_2 m10_2_3 m10_3_0 m10_3_1 m10_3_2 m10_3_3
                  clear hc11
                  go_wp2_with fail
                  go_meet
                  exact ⟨rfl, (by repeat (first | exact hB11 | exact Below.refl _ _ | refine balloc ?_ _ | refine Below.drew ?_ | refine below_drewN ?_ _ | refine below_set ?_ (by first | omega | (dsimp only; omega)) _)), (by first | omega | (simp only [World.size_alloc, World.size_setCell, World.size_drew]; omega)), (by first | omega | (simp only [World.size_alloc, World.size_setCell, World.size_drew]; omega)), (by first | omega | (simp only [World.size_alloc, World.size_setCell, World.size_drew]; omega)), (by first | omega | (simp only [World.size_alloc, World.size_setCell, World.size_drew]; omega)), (by first | omega | (simp only [World.size_alloc, World.size_setCell, World.size_drew]; omega)), (by first | omega | (simp only [World.size_alloc, World.size_setCell, World.size_drew]; omega)), (by go_simp), (by go_simp), (by go_simp), (by go_simp), (by go_simp), (by go_simp), (by go_simp), (by go_simp), (by go_simp), (by go_simp), (by go_simp), (by go_simp), (by go_simp), (by go_simp), (by go_simp), (by go_simp), (by go_simp), (by go_simp)⟩
                · subst e1 e3 e4 e5
                  clear h5
                  go_wp2_with fail
                  go_meet
                  exact ⟨rfl, (by repeat (first | exact hB10 | exact Below.refl _ _ | refine balloc ?_ _ | refine Below.drew ?_ | refine below_drewN ?_ _ | refine below_set ?_ (by first | omega | (dsimp only; omega)) _)), (by first | omega | (simp only [World.size_alloc, World.size_setCell, World.size_drew]; omega)), (by first | omega | (simp only [World.size_alloc, World.size_setCell, World.size_drew]; omega)), (by first | omega | (simp only [World.size_alloc, World.size_setCell, World.size_drew]; omega)), (by first | omega | (simp only [World.size_alloc, World.size_setCell, World.size_drew]; omega)), (by first | omega | (simp only [World.size_alloc, World.size_setCell, World.size_drew]; omega)), (by first | omega | (simp only [World.size_alloc, World.size_setCell, World.size_drew]; omega)), (by go_simp), (by go_simp), (by go_simp), (by go_simp), (by go_simp), (by go_simp), (by go_simp), (by go_simp), (by go_simp), (by go_simp), (by go_simp), (by go_simp), (by go_simp), (by go_simp), (by go_simp), (by go_simp), (by go_simp), (by go_simp)⟩
                · subst e1 e2 e3 e4
                  clear h5
                  go_wp2_with fail
                  go_meet
                  exact ⟨rfl, (by repeat (first | exact hB10 | exact Below.refl _ _ | refine balloc ?_ _ | refine Below.drew ?_ | refine below_drewN ?_ _ | refine below_set ?_ (by first | omega | (dsimp only; omega)) _)), (by first | omega | (simp only [World.size_alloc, World.size_setCell, World.size_drew]; omega)), (by first | omega | (simp only [World.size_alloc, World.size_setCell, World.size_drew]; omega)), (by first | omega | (simp only [World.size_alloc, World.size_setCell, World.size_drew]; omega)), (by first | omega | (simp only [World.size_alloc, World.size_setCell, World.size_drew]; omega)), (by first | omega | (simp only [World.size_alloc, World.size_setCell, World.size_drew]; omega)), (by first | omega | (simp only [World.size_alloc, World.size_setCell, World.size_drew]; omega)), (by go_simp), (by go_simp), (by go_simp), (by go_simp), (by go_simp), (by go_simp), (by go_simp), (by go_simp), (by go_simp), (by go_simp), (by go_simp), (by go_simp), (by go_simp), (by go_simp), (by go_simp), (by go_simp), (by go_simp), (by go_simp)⟩
              case rest =>
                obtain ⟨w11, hwq⟩ : ∃ x, x = wc := ⟨_, rfl⟩
                subst hwq
                obtain ⟨rfl, hB11, s11_0, s11_1, s11_2, s11_3, s11_4, s11_5, m11_0_0, m11_0_1, m11_0_2, m11_1_0, m11_1_1, m11_1_2, m11_2_0, m11_2_1, m11_2_2, m11_2_3, m11_3_0, m11_3_1, m11_3_2, m11_3_3, y11_0_0, y11_0_1, y11_0_2, y11_0_3⟩ := hcut
                clear m10_0_0 m10_0_1 m10_0_2 m10_1_0 m10_1_1 m10_1_2 m10_2_0 m10_2_1 m10_2_2 m10_2_3 m10_3_0 m10_3_1 m10_3_2 m10_3_3
                clear h5
                go_wp2_with fail
                refine (kSign.out _ (hF.below (by repeat (first | exact hB11 | exact Below.refl _ _ | refine balloc ?_ _ | refine Below.drew ?_ | refine below_drewN ?_ _ | refine below_set ?_ (by first | omega | (dsimp only; omega)) _)))).mono ?_; rintro e w12 ⟨rfl, hb⟩
                obtain ⟨hc12, hf12⟩ := bcell hb
                have z12 := hb.size
                try simp only [World.size_alloc, World.size_setCell, World.size_drew] at z12
                have s12_0 : w.heap.size < w12.heap.size := by omega
                have s12_1 : w.heap.size + 1 < w12.heap.size := by omega
                have s12_2 : w.heap.size + 1 + 1 < w12.heap.size := by omega
                have s12_3 : w.heap.size + 1 + 1 + 1 < w12.heap.size := by omega
                have s12_4 : w2.heap.size < w12.heap.size := by omega
                have s12_5 : w9.heap.size < w12.heap.size := by omega
                have hB12 : Below w.heap.size w w12 := below_seq (by repeat (first | exact hB11 | exact Below.refl _ _ | refine balloc ?_ _ | refine Below.drew ?_ | refine below_drewN ?_ _ | refine below_set ?_ (by first | omega | (dsimp only; omega)) _)) hb
                clear hb
                have m12_0_0 : w12.cell? ⟨w.heap.size, 0, none⟩ = some (.int .i64 r.x) := by go_simp
                have m12_0_1 : w12.cell? ⟨w.heap.size, 1, none⟩ = some (.int .i64 r.y) := by go_simp
                have m12_0_2 : w12.cell? ⟨w.heap.size, 2, none⟩ = some (.bool r.far) := by go_simp
                have m12_1_0 : w12.cell? ⟨w.heap.size + 1, 0, none⟩ = some (.int .i64 key.x) := by go_simp
                have m12_1_1 : w12.cell? ⟨w.heap.size + 1, 1, none⟩ = some (.int .i64 key.y) := by go_simp
                have m12_1_2 : w12.cell? ⟨w.heap.size + 1, 2, none⟩ = some (.bool key.far) := by go_simp
                have m12_2_0 : w12.cell? ⟨w.heap.size + 1 + 1, 0, none⟩ = some (.int .i64 R.x) := by go_simp
                have m12_2_1 : w12.cell? ⟨w.heap.size + 1 + 1, 1, none⟩ = some (.int .i64 R.y) := by go_simp
                have m12_2_2 : w12.cell? ⟨w.heap.size + 1 + 1, 2, none⟩ = some (.bool R.far) := by go_simp
                have m12_2_3 : w12.cell? ⟨w.heap.size + 1 + 1, 3, none⟩ = some (.int .i64 S) := by go_simp
                have m12_3_0 : w12.cell? ⟨w9.heap.size, 0, none⟩ = some (.int .i64 Z.x) := by go_simp
                have m12_3_1 : w12.cell? ⟨w9.heap.size, 1, none⟩ = some (.int .i64 Z.y) := by go_simp
                have m12_3_2 : w12.cell? ⟨w9.heap.size, 2, none⟩ = some (.bool Z.far) := by go_simp
                have m12_3_3 : w12.cell? ⟨w9.heap.size, 3, none⟩ = some (.int .i64 Y) := by go_simp
                clear m11_0_0 m11_0_1 m11_0_2 m11_1_0 m11_1_1 m11_1_2 m11_2_0 m11_2_1 m11_2_2 m11_2_3 m11_3_0 m11_3_1 m11_3_2 m11_3_3
                clear hc12
                go_wp2_with fail
                refine (error_same (errV E4) E4 _ (hE.below (by repeat (first | exact hB12 | exact Below.refl _ _ | refine balloc ?_ _ | refine Below.drew ?_ | refine below_drewN ?_ _ | refine below_set ?_ (by first | omega | (dsimp only; omega)) _))) (Lib.hid rfl)).mono ?_; rintro e w13 ⟨rfl, hb⟩
                obtain ⟨hc13, hf13⟩ := bcell hb
                have z13 := hb.size
                try simp only [World.size_alloc, World.size_setCell, World.size_drew] at z13
                have s13_0 : w.heap.size < w13.heap.size := by omega
                have s13_1 : w.heap.size + 1 < w13.heap.size := by omega
                have s13_2 : w.heap.size + 1 + 1 < w13.heap.size := by omega
                have s13_3 : w.heap.size + 1 + 1 + 1 < w13.heap.size := by omega
                have s13_4 : w2.heap.size < w13.heap.size := by omega
                have s13_5 : w9.heap.size < w13.heap.size := by omega
                have s13_6 : w12.heap.size < w13.heap.size := by omega
                have hB13 : Below w.heap.size w w13 := below_seq (by repeat (first | exact hB12 | exact Below.refl _ _ | refine balloc ?_ _ | refine Below.drew ?_ | refine below_drewN ?_ _ | refine below_set ?_ (by first | omega | (dsimp only; omega)) _)) hb
                clear hb
                have m13_0_0 : w13.cell? ⟨w.heap.size, 0, none⟩ = some (.int .i64 r.x) := by go_simp
                have m13_0_1 : w13.cell? ⟨w.heap.size, 1, none⟩ = some (.int .i64 r.y) := by go_simp
                have m13_0_2 : w13.cell? ⟨w.heap.size, 2, none⟩ = some (.bool r.far) := by go_simp
                have m13_1_0 : w13.cell? ⟨w.heap.size + 1, 0, none⟩ = some (.int .i64 key.x) := by go_simp
                have m13_1_1 : w13.cell? ⟨w.heap.size + 1, 1, none⟩ = some (.int .i64 key.y) := by go_simp
                have m13_1_2 : w13.cell? ⟨w.heap.size + 1, 2, none⟩ = some (.bool key.far) := by go_simp
                have m13_2_0 : w13.cell? ⟨w.heap.size + 1 + 1, 0, none⟩ = some (.int .i64 R.x) := by go_simp
                have m13_2_1 : w13.cell? ⟨w.heap.size + 1 + 1, 1, none⟩ = some (.int .i64 R.y) := by go_simp
                have m13_2_2 : w13.cell? ⟨w.heap.size + 1 + 1, 2, none⟩ = some (.bool R.far) := by go_simp
                have m13_2_3 : w13.cell? ⟨w.heap.size + 1 + 1, 3, none⟩ = some (.int .i64 S) := by go_simp
                have m13_3_0 : w13.cell? ⟨w9.heap.size, 0, none⟩ = some (.int .i64 Z.x) := by go_simp
                have m13_3_1 : w13.cell? ⟨w9.heap.size, 1, none⟩ = some (.int .i64 Z.y) := by go_simp
                have m13_3_2 : w13.cell? ⟨w9.heap.size, 2, none⟩ = some (.bool Z.far) := by go_simp
                have m13_3_3 : w13.cell? ⟨w9.heap.size, 3, none⟩ = some (.int .i64 Y) := by go_simp
                have m13_4_0 : w13.cell? ⟨w12.heap.size, 0, none⟩ = some (.int .i64 Z.x) := by go_simp
                have m13_4_1 : w13.cell? ⟨w12.heap.size, 1, none⟩ = some (.int .i64 Z.y) := by go_simp
                have m13_4_2 : w13.cell? ⟨w12.heap.size, 2, none⟩ = some (.bool Z.far) := by go_simp
                have m13_4_3 : w13.cell? ⟨w12.heap.size, 3, none⟩ = some (.int .i64 Y) := by go_simp
                clear m12_0_0 m12_0_1 m12_0_2 m12_1_0 m12_1_1 m12_1_2 m12_2_0 m12_2_1 m12_2_2 m12_2_3 m12_3_0 m12_3_1 m12_3_2 m12_3_3
                clear hc13
                go_wp2_with fail
                refine (kSeal.out _).mono ?_; rintro e w14 ⟨rfl, hb⟩
                obtain ⟨hc14, hf14⟩ := bcell hb
                have z14 := hb.size
                try simp only [World.size_alloc, World.size_setCell, World.size_drew] at z14
                have s14_0 : w.heap.size < w14.heap.size := by omega
                have s14_1 : w.heap.size + 1 < w14.heap.size := by omega
                have s14_2 : w.heap.size + 1 + 1 < w14.heap.size := by omega
                have s14_3 : w.heap.size + 1 + 1 + 1 < w14.heap.size := by omega
                have s14_4 : w2.heap.size < w14.heap.size := by omega
                have s14_5 : w9.heap.size < w14.heap.size := by omega
                have s14_6 : w12.heap.size < w14.heap.size := by omega
                have hB14 : Below w.heap.size w w14 := below_seq (by repeat (first | exact hB13 | exact Below.refl _ _ | refine balloc ?_ _ | refine Below.drew ?_ | refine below_drewN ?_ _ | refine below_set ?_ (by first | omega | (dsimp only; omega)) _)) hb
                clear hb
                have m14_0_0 : w14.cell? ⟨w.heap.size, 0, none⟩ = some (.int .i64 r.x) := by go_simp
                have m14_0_1 : w14.cell? ⟨w.heap.size, 1, none⟩ = some (.int .i64 r.y) := by go_simp
                have m14_0_2 : w14.cell? ⟨w.heap.size, 2, none⟩ = some (.bool r.far) := by go_simp
                have m14_1_0 : w14.cell? ⟨w.heap.size + 1, 0, none⟩ = some (.int .i64 key.x) := by go_simp
                have m14_1_1 : w14.cell? ⟨w.heap.size + 1, 1, none⟩ = some (.int .i64 key.y) := by go_simp
                have m14_1_2 : w14.cell? ⟨w.heap.size + 1, 2, none⟩ = some (.bool key.far) := by go_simp
                have m14_2_0 : w14.cell? ⟨w.heap.size + 1 + 1, 0, none⟩ = some (.int .i64 R.x) := by go_simp
                have m14_2_1 : w14.cell? ⟨w.heap.size + 1 + 1, 1, none⟩ = some (.int .i64 R.y) := by go_simp
                have m14_2_2 : w14.cell? ⟨w.heap.size + 1 + 1, 2, none⟩ = some (.bool R.far) := by go_simp
                have m14_2_3 : w14.cell? ⟨w.heap.size + 1 + 1, 3, none⟩ = some (.int .i64 S) := by go_simp
                have m14_3_0 : w14.cell? ⟨w9.heap.size, 0, none⟩ = some (.int .i64 Z.x) := by go_simp
                have m14_3_1 : w14.cell? ⟨w9.heap.size, 1, none⟩ = some (.int .i64 Z.y) := by go_simp
                have m14_3_2 : w14.cell? ⟨w9.heap.size, 2, none⟩ = some (.bool Z.far) := by go_simp
                have m14_3_3 : w14.cell? ⟨w9.heap.size, 3, none⟩ = some (.int .i64 Y) := by go_simp
                have m14_4_0 : w14.cell? ⟨w12.heap.size, 0, none⟩ = some (.int .i64 Z.x) := by go_simp
                have m14_4_1 : w14.cell? ⟨w12.heap.size, 1, none⟩ = some (.int .i64 Z.y) := by go_simp
                have m14_4_2 : w14.cell? ⟨w12.heap.size, 2, none⟩ = some (.bool Z.far) := by go_simp
                have m14_4_3 : w14.cell? ⟨w12.heap.size, 3, none⟩ = some (.int .i64 Y) := by go_simp
                clear m13_0_0 m13_0_1 m13_0_2 m13_1_0 m13_1_1 m13_1_2 m13_2_0 m13_2_1 m13_2_2 m13_2_3 m13_3_0 m13_3_1 m13_3_2 m13_3_3 m13_4_0 m13_4_1 m13_4_2 m13_4_3
                clear hc14
                go_upto_region 32 with fail
                go_cut [26] (fun s26 wx => s26 = .bool RT ∧ Below w.heap.size w wx ∧ w.heap.size < wx.heap.size ∧ w.heap.size + 1 < wx.heap.size ∧ w.heap.size + 1 + 1 < wx.heap.size ∧ w.heap.size + 1 + 1 + 1 < wx.heap.size ∧ w2.heap.size < wx.heap.size ∧ w9.heap.size < wx.heap.size ∧ w12.heap.size < wx.heap.size ∧ wx.cell? ⟨w.heap.size, 0, none⟩ = some (.int .i64 r.x) ∧ wx.cell? ⟨w.heap.size, 1, none⟩ = some (.int .i64 r.y) ∧ wx.cell? ⟨w.heap.size, 2, none⟩ = some (.bool r.far) ∧ wx.cell? ⟨w.heap.size + 1, 0, none⟩ = some (.int .i64 key.x) ∧ wx.cell? ⟨w.heap.size + 1, 1, none⟩ = some (.int .i64 key.y) ∧ wx.cell? ⟨w.heap.size + 1, 2, none⟩ = some (.bool key.far) ∧ wx.cell? ⟨w.heap.size + 1 + 1, 0, none⟩ = some (.int .i64 R.x) ∧ wx.cell? ⟨w.heap.size + 1 + 1, 1, none⟩ = some (.int .i64 R.y) ∧ wx.cell? ⟨w.heap.size + 1 + 1, 2, none⟩ = some (.bool R.far) ∧ wx.cell? ⟨w.heap.size + 1 + 1, 3, none⟩ = some (.int .i64 S) ∧ wx.cell? ⟨w9.heap.size, 0, none⟩ = some (.int .i64 Z.x) ∧ wx.cell? ⟨w9.heap.size, 1, none⟩ = some (.int .i64 Z.y) ∧ wx.cell? ⟨w9.heap.size, 2, none⟩ = some (.bool Z.far) ∧ wx.cell? ⟨w9.heap.size, 3, none⟩ = some (.int .i64 Y) ∧ wx.cell? ⟨w12.heap.size, 0, none⟩ = some (.int .i64 Z.x) ∧ wx.cell? ⟨w12.heap.size, 1, none⟩ = some (.int .i64 Z.y) ∧ wx.cell? ⟨w12.heap.size, 2, none⟩ = some (.bool Z.far) ∧ wx.cell? ⟨w12.heap.size, 3, none⟩ = some (.int .i64 Y))
                case first =>
                  rcases h6.out with ⟨e1, e2⟩ | ⟨e1, e2⟩
                  · subst e1
                    replace e2 := Lib.hid e2
                    clear h6
                    go_wp2_with fail
                    refine (e2.out _).mono ?_; rintro e w15 ⟨rfl, hb⟩
                    obtain ⟨hc15, hf15⟩ := bcell hb
                    have z15 := hb.size
                    try simp only [World.size_alloc, World.size_setCell, World.size_drew] at z15
                    have s15_0 : w.heap.size < w15.heap.size := by omega
                    have s15_1 : w.heap.size + 1 < w15.heap.size := by omega
                    have s15_2 : w.heap.size + 1 + 1 < w15.heap.size := by omega
                    have s15_3 : w.heap.size + 1 + 1 + 1 < w15.heap.size := by omega
                    have s15_4 : w2.heap.size < w15.heap.size := by omega
                    have s15_5 : w9.heap.size < w15.heap.size := by omega
                    have s15_6 : w12.heap.size < w15.heap.size := by omega
                    have hB15 : Below w.heap.size w w15 := below_seq (by repeat (first | exact hB14 | exact Below.refl _ _ | refine balloc ?_ _ | refine Below.drew ?_ | refine below_drewN ?_ _ | refine below_set ?_ (by first | omega | (dsimp only; omega)) _)) hb
                    clear hb
                    have m15_0_0 : w15.cell? ⟨w.heap.size, 0, none⟩ = some (.int .i64 r.x) := by go_simp
                    have m15_0_1 : w15.cell? ⟨w.heap.size, 1, none⟩ = some (.int .i64 r.y) := by go_simp
                    have m15_0_2 : w15.cell? ⟨w.heap.size, 2, none⟩ = some (.bool r.far) := by go_simp
                    have m15_1_0 : w15.cell? ⟨w.heap.size + 1, 0, none⟩ = some (.int .i64 key.x) := by go_simp
                    have m15_1_1 : w15.cell? ⟨w.heap.size + 1, 1, none⟩ = some (.int .i64 key.y) := by go_simp
                    have m15_1_2 : w15.cell? ⟨w.heap.size + 1, 2, none⟩ = some (.bool key.far) := by go_simp
                    have m15_2_0 : w15.cell? ⟨w.heap.size + 1 + 1, 0, none⟩ = some (.int .i64 R.x) := by go_simp
                    have m15_2_1 : w15.cell? ⟨w.heap.size + 1 + 1, 1, none⟩ = some (.int .i64 R.y) := by go_simp
                    have m15_2_2 : w15.cell? ⟨w.heap.size + 1 + 1, 2, none⟩ = some (.bool R.far) := by go_simp
                    have m15_2_3 : w15.cell? ⟨w.heap.size + 1 + 1, 3, none⟩ = some (.int .i64 S) := by go_simp
                    have m15_3_0 : w15.cell? ⟨w9.heap.size, 0, none⟩ = some (.int .i64 Z.x) := by go_simp
                    have m15_3_1 : w15.cell? ⟨w9.heap.size, 1, none⟩ = some (.int .i64 Z.y) := by go_simp
                    have m15_3_2 : w15.cell? ⟨w9.heap.size, 2, none⟩ = some (.bool Z.far) := by go_simp
                    have m15_3_3 : w15.cell? ⟨w9.heap.size, 3, none⟩ = some (.int .i64 Y) := by go_simp
                    have m15_4_0 : w15.cell? ⟨w12.heap.size, 0, none⟩ = some (.int .i64 Z.x) := by go_simp
                    have m15_4_1 : w15.cell? ⟨w12.heap.size, 1, none⟩ = some (.int .i64 Z.y) := by go_simp
                    have m15_4_2 : w15.cell? ⟨w12.heap.size, 2, none⟩ = some (.bool Z.far) := by go_simp
                    have m15_4_3 : w15.cell? ⟨w12.heap.size, 3, none⟩ = some (.int .i64 Y) := by go_simp
                    clear m14_0_0 m14_0_1 m14_0_2 m14_1_0 m14_1_1 m14_1_2 m14_2_0 m14_2_1 m14_2_2 m14_2_3 m14_3_0 m14_3_1 m14_3_2 m14_3_3 m14_4_0 m14_4_1 m14_4_2 m14_4_3
                    clear hc15
                    go_wp2_with fail
                    go_meet
                    exact ⟨rfl, (by repeat (first | exact hB15 | exact Below.refl _ _ | refine balloc ?_ _ | refine Below.drew ?_ | refine below_drewN ?_ _ | refine below_set ?_ (by first | omega | (dsimp only; omega)) _)), (by first | omega | (simp only [World.size_alloc, World.size_setCell, World.size_drew]; omega)), (by first | omega | (simp only [World.size_alloc, World.size_setCell, World.size_drew]; omega)), (by first | omega | (simp only [World.size_alloc, World.size_setCell, World.size_drew]; omega)), (by first | omega | (simp only [World.size_alloc, World.size_setCell, World.size_drew]; omega)), (by first | omega | (simp only [World.size_alloc, World.size_setCell, World.size_drew]; omega)), (by first | omega | (simp only [World.size_alloc, World.size_setCell, World.size_drew]; omega)), (by first | omega | (simp only [World.size_alloc, World.size_setCell, World.size_drew]; omega)), (by go_simp), (by go_simp), (by go_simp), (by go_simp), (by go_simp), (by go_simp), (by go_simp), (by go_simp), (by go_simp), (by go_simp), (by go_simp), (by go_simp), (by go_simp), (by go_simp), (by go_simp), (by go_simp), (by go_simp), (by go_simp)⟩
                  · subst e2
                    clear h6
                    go_wp2_with fail
                    go_meet
                    exact ⟨rfl, (by repeat (first | exact hB14 | exact Below.refl _ _ | refine balloc ?_ _ | refine Below.drew ?_ | refine below_drewN ?_ _ | refine below_set ?_ (by first | omega | (dsimp only; omega)) _)), (by first | omega | (simp only [World.size_alloc, World.size_setCell, World.size_drew]; omega)), (by first | omega | (simp only [World.size_alloc, World.size_setCell, World.size_drew]; omega)), (by first | omega | (simp only [World.size_alloc, World.size_setCell, World.size_drew]; omega)), (by first | omega | (simp only [World.size_alloc, World.size_setCell, World.size_drew]; omega)), (by first | omega | (simp only [World.size_alloc, World.size_setCell, World.size_drew]; omega)), (by first | omega | (simp only [World.size_alloc, World.size_setCell, World.size_drew]; omega)), (by first | omega | (simp only [World.size_alloc, World.size_setCell, World.size_drew]; omega)), (by go_simp), (by go_simp), (by go_simp), (by go_simp), (by go_simp), (by go_simp), (by go_simp), (by go_simp), (by go_simp), (by go_simp), (by go_simp), (by go_simp), (by go_simp), (by go_simp), (by go_simp), (by go_simp), (by go_simp), (by go_simp)⟩
                case rest =>
                  obtain ⟨w15, hwq⟩ : ∃ x, x = wc := ⟨_, rfl⟩
                  subst hwq
                  obtain ⟨rfl, hB15, s15_0, s15_1, s15_2, s15_3, s15_4, s15_5, s15_6, m15_0_0, m15_0_1, m15_0_2, m15_1_0, m15_1_1, m15_1_2, m15_2_0, m15_2_1, m15_2_2, m15_2_3, m15_3_0, m15_3_1, m15_3_2, m15_3_3, m15_4_0, m15_4_1, m15_4_2, m15_4_3⟩ := hcut
                  clear m14_0_0 m14_0_1 m14_0_2 m14_1_0 m14_1_1 m14_1_2 m14_2_0 m14_2_1 m14_2_2 m14_2_3 m14_3_0 m14_3_1 m14_3_2 m14_3_3 m14_4_0 m14_4_1 m14_4_2 m14_4_3
                  clear h6
                  go_wp2_with fail
                  refine (kVer.out _ (hF.below (by repeat (first | exact hB15 | exact Below.refl _ _ | refine balloc ?_ _ | refine Below.drew ?_ | refine below_drewN ?_ _ | refine below_set ?_ (by first | omega | (dsimp only; omega)) _)))).mono ?_; rintro e w16 ⟨rfl, hb⟩
                  obtain ⟨hc16, hf16⟩ := bcell hb
                  have z16 := hb.size
                  try simp only [World.size_alloc, World.size_setCell, World.size_drew] at z16
                  have s16_0 : w.heap.size < w16.heap.size := by omega
                  have s16_1 : w.heap.size + 1 < w16.heap.size := by omega
                  have s16_2 : w.heap.size + 1 + 1 < w16.heap.size := by omega
                  have s16_3 : w.heap.size + 1 + 1 + 1 < w16.heap.size := by omega
                  have s16_4 : w2.heap.size < w16.heap.size := by omega
                  have s16_5 : w9.heap.size < w16.heap.size := by omega
                  have s16_6 : w12.heap.size < w16.heap.size := by omega
                  have hB16 : Below w.heap.size w w16 := below_seq (by repeat (first | exact hB15 | exact Below.refl _ _ | refine balloc ?_ _ | refine Below.drew ?_ | refine below_drewN ?_ _ | refine below_set ?_ (by first | omega | (dsimp only; omega)) _)) hb
                  clear hb
                  have m16_0_0 : w16.cell? ⟨w.heap.size, 0, none⟩ = some (.int .i64 r.x) := by go_simp
                  have m16_0_1 : w16.cell? ⟨w.heap.size, 1, none⟩ = some (.int .i64 r.y) := by go_simp
                  have m16_0_2 : w16.cell? ⟨w.heap.size, 2, none⟩ = some (.bool r.far) := by go_simp
                  have m16_1_0 : w16.cell? ⟨w.heap.size + 1, 0, none⟩ = some (.int .i64 key.x) := by go_simp
                  have m16_1_1 : w16.cell? ⟨w.heap.size + 1, 1, none⟩ = some (.int .i64 key.y) := by go_simp
                  have m16_1_2 : w16.cell? ⟨w.heap.size + 1, 2, none⟩ = some (.bool key.far) := by go_simp
                  have m16_2_0 : w16.cell? ⟨w.heap.size + 1 + 1, 0, none⟩ = some (.int .i64 R.x) := by go_simp
                  have m16_2_1 : w16.cell? ⟨w.heap.size + 1 + 1, 1, none⟩ = some (.int .i64 R.y) := by go_simp
                  have m16_2_2 : w16.cell? ⟨w.heap.size + 1 + 1, 2, none⟩ = some (.bool R.far) := by go_simp
                  have m16_2_3 : w16.cell? ⟨w.heap.size + 1 + 1, 3, none⟩ = some (.int .i64 S) := by go_simp
                  have m16_3_0 : w16.cell? ⟨w9.heap.size, 0, none⟩ = some (.int .i64 Z.x) := by go_simp
                  have m16_3_1 : w16.cell? ⟨w9.heap.size, 1, none⟩ = some (.int .i64 Z.y) := by go_simp
                  have m16_3_2 : w16.cell? ⟨w9.heap.size, 2, none⟩ = some (.bool Z.far) := by go_simp
                  have m16_3_3 : w16.cell? ⟨w9.heap.size, 3, none⟩ = some (.int .i64 Y) := by go_simp
                  have m16_4_0 : w16.cell? ⟨w12.heap.size, 0, none⟩ = some (.int .i64 Z.x) := by go_simp
                  have m16_4_1 : w16.cell? ⟨w12.heap.size, 1, none⟩ = some (.int .i64 Z.y) := by go_simp
                  have m16_4_2 : w16.cell? ⟨w12.heap.size, 2, none⟩ = some (.bool Z.far) := by go_simp
                  have m16_4_3 : w16.cell? ⟨w12.heap.size, 3, none⟩ = some (.int .i64 Y) := by go_simp
                  clear m15_0_0 m15_0_1 m15_0_2 m15_1_0 m15_1_1 m15_1_2 m15_2_0 m15_2_1 m15_2_2 m15_2_3 m15_3_0 m15_3_1 m15_3_2 m15_3_3 m15_4_0 m15_4_1 m15_4_2 m15_4_3
                  clear hc16
                  go_wp2_with fail
                  refine (error_same (errV E5) E5 _ (hE.below (by repeat (first | exact hB16 | exact Below.refl _ _ | refine balloc ?_ _ | refine Below.drew ?_ | refine below_drewN ?_ _ | refine below_set ?_ (by first | omega | (dsimp only; omega)) _))) (Lib.hid rfl)).mono ?_; rintro e w17 ⟨rfl, hb⟩
                  obtain ⟨hc17, hf17⟩ := bcell hb
                  have z17 := hb.size
                  try simp only [World.size_alloc, World.size_setCell, World.size_drew] at z17
                  have s17_0 : w.heap.size < w17.heap.size := by omega
                  have s17_1 : w.heap.size + 1 < w17.heap.size := by omega
                  have s17_2 : w.heap.size + 1 + 1 < w17.heap.size := by omega
                  have s17_3 : w.heap.size + 1 + 1 + 1 < w17.heap.size := by omega
                  have s17_4 : w2.heap.size < w17.heap.size := by omega
                  have s17_5 : w9.heap.size < w17.heap.size := by omega
                  have s17_6 : w12.heap.size < w17.heap.size := by omega
                  have hB17 : Below w.heap.size w w17 := below_seq (by repeat (first | exact hB16 | exact Below.refl _ _ | refine balloc ?_ _ | refine Below.drew ?_ | refine below_drewN ?_ _ | refine below_set ?_ (by first | omega | (dsimp only; omega)) _)) hb
                  clear hb
                  have m17_0_0 : w17.cell? ⟨w.heap.size, 0, none⟩ = some (.int .i64 r.x) := by go_simp
                  have m17_0_1 : w17.cell? ⟨w.heap.size, 1, none⟩ = some (.int .i64 r.y) := by go_simp
                  have m17_0_2 : w17.cell? ⟨w.heap.size, 2, none⟩ = some (.bool r.far) := by go_simp
                  have m17_1_0 : w17.cell? ⟨w.heap.size + 1, 0, none⟩ = some (.int .i64 key.x) := by go_simp
                  have m17_1_1 : w17.cell? ⟨w.heap.size + 1, 1, none⟩ = some (.int .i64 key.y) := by go_simp
                  have m17_1_2 : w17.cell? ⟨w.heap.size + 1, 2, none⟩ = some (.bool key.far) := by go_simp
                  have m17_2_0 : w17.cell? ⟨w.heap.size + 1 + 1, 0, none⟩ = some (.int .i64 R.x) := by go_simp
                  have m17_2_1 : w17.cell? ⟨w.heap.size + 1 + 1, 1, none⟩ = some (.int .i64 R.y) := by go_simp
                  have m17_2_2 : w17.cell? ⟨w.heap.size + 1 + 1, 2, none⟩ = some (.bool R.far) := by go_simp
                  have m17_2_3 : w17.cell? ⟨w.heap.size + 1 + 1, 3, none⟩ = some (.int .i64 S) := by go_simp
                  have m17_3_0 : w17.cell? ⟨w9.heap.size, 0, none⟩ = some (.int .i64 Z.x) := by go_simp
                  have m17_3_1 : w17.cell? ⟨w9.heap.size, 1, none⟩ = some (.int .i64 Z.y) := by go_simp
                  have m17_3_2 : w17.cell? ⟨w9.heap.size, 2, none⟩ = some (.bool Z.far) := by go_simp
                  have m17_3_3 : w17.cell? ⟨w9.heap.size, 3, none⟩ = some (.int .i64 Y) := by go_simp
                  have m17_4_0 : w17.cell? ⟨w12.heap.size, 0, none⟩ = some (.int .i64 Z.x) := by go_simp
                  have m17_4_1 : w17.cell? ⟨w12.heap.size, 1, none⟩ = some (.int .i64 Z.y) := by go_simp
                  have m17_4_2 : w17.cell? ⟨w12.heap.size, 2, none⟩ = some (.bool Z.far) := by go_simp
                  have m17_4_3 : w17.cell? ⟨w12.heap.size, 3, none⟩ = some (.int .i64 Y) := by go_simp
                  clear m16_0_0 m16_0_1 m16_0_2 m16_1_0 m16_1_1 m16_1_2 m16_2_0 m16_2_1 m16_2_2 m16_2_3 m16_3_0 m16_3_1 m16_3_2 m16_3_3 m16_4_0 m16_4_1 m16_4_2 m16_4_3
                  clear hc17
                  go_wp2
                  go_ret
                  exact ⟨rfl, (by repeat (first | exact hB17 | exact Below.refl _ _ | refine balloc ?_ _ | refine Below.drew ?_ | refine below_drewN ?_ _ | refine below_set ?_ (by first | omega | (dsimp only; omega)) _))⟩
end Go.Proofs.YtopcdihgkojjlaaDoor
