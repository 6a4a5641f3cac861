/- Walk of curve.All: what is wrong with the first of some spots that has a fault. -/
import Derived.Test.YtjjmelhhalomaaaGreatDoorWx
namespace Go.Proofs.YtjjmelhhalomaaaGreatDoor
open Go.RowKit
/-- A slice that holds these spots. -/
structure SpotsAt (w : World) (b off : Nat) (l : List Sp) : Prop where
  lt : b < w.heap.size
  cx : ∀ i (h : i < l.length), w.cell? ⟨b, off + i * 3, none⟩ = some (.int .i64 l[i].x)
  cy : ∀ i (h : i < l.length), w.cell? ⟨b, off + i * 3 + 1, none⟩ = some (.int .i64 l[i].y)
  cf : ∀ i (h : i < l.length), w.cell? ⟨b, off + i * 3 + 2, none⟩ = some (.bool l[i].far)
theorem SpotsAt.below {w w' : World} {b off : Nat} {l : List Sp} (h : SpotsAt w b off l) (hb : Below w.heap.size w w') : SpotsAt w' b off l :=
  ⟨Nat.lt_of_lt_of_le h.lt hb.size, fun i hi => (hb.cell (p := ⟨b, off + i * 3, none⟩) h.lt).trans (h.cx i hi), fun i hi => (hb.cell (p := ⟨b, off + i * 3 + 1, none⟩) h.lt).trans (h.cy i hi), fun i hi => (hb.cell (p := ⟨b, off + i * 3 + 2, none⟩) h.lt).trans (h.cf i hi)⟩
/-- The fault of the first that has one; 0: none. -/
def allErr : List Sp → Int
  | [] => 0
  | s :: l => if sCheck s = 0 then allErr l else sCheck s
set_option maxHeartbeats 1000000 in
theorem all_core (l : List Sp) (b off cap : Nat) (w : World) (hF : FarAt w) (hl : l.length ≤ 1000000) (hs : SpotsAt w b off l) (k : Nat) (hk : k ≤ l.length) (R : Value) (hok : Hid (∀ i (h : i < l.length), i < k → Ok l[i]))
    (hbad : Hid (∀ h : k < l.length, sCheck l[k] ≠ 0 ∧ R = .iface 84 (.int .i64 (sCheck l[k])))) (hend : Hid (k = l.length → R = .nilIface)) :
    Calls Tryz.prog 124 #[.slice (some ⟨b, off, none⟩) l.length cap] w fun e w' => e = .returned R ∧ Below w.heap.size w w' := by
  go_enter Tryz.func124, Tryz.ntmps124
  go_wp2
  go_loopw [8] (fun i wr => ∃ n : Nat, n ≤ k ∧ i = .int .i64 n ∧ Below w.heap.size w wr) (fun i _ => l.length - (intOf i).toNat)
  case atStart => exact ⟨0, Nat.zero_le _, rfl, Below.refl _ _⟩
  case round =>
    obtain ⟨n, hn, rfl, hb⟩ := hrel
    have hFr := hF.below hb
    have hsr := hs.below hb
    by_cases hlt : n < l.length
    · have h1 := hsr.cx n hlt
      have h2 := hsr.cy n hlt
      have h3 := hsr.cf n hlt
      clear hsr hs
      by_cases hnk : n < k
      · have ho := hok.out n hlt hnk
        go_wp2_with fail
        refine (check_ok l[n] _ (hFr.below (below_alloc _ _)) ho).mono ?_; rintro e w1 ⟨rfl, hb1⟩
        clear h1 h2 h3 ho
        go_wp2
        go_roundw
        case rel => exact ⟨n + 1, by omega, by go_num, hb.trans ((below_seq (below_alloc _ _) hb1).mono hb.size)⟩
        case measure => simp [intOf]; omega
      · obtain rfl : n = k := by omega
        obtain ⟨hbd, hR⟩ := hbad.out hlt
        have hR := Lib.hid hR
        go_wp2_with fail
        refine (check_bad l[n] _ (hFr.below (below_alloc _ _)) hbd).mono ?_; rintro e w1 ⟨rfl, hb1⟩
        clear h1 h2 h3 hbd
        go_wp2
        go_ret
        exact ⟨ret_eq hR.out.symm, hb.trans ((below_seq (below_alloc _ _) hb1).mono hb.size)⟩
    · have hkl : k = l.length := by omega
      have hR := Lib.hid (hend.out hkl)
      clear hkl
      go_wp2
      go_ret
      exact ⟨ret_eq hR.out.symm, hb⟩
theorem all_ok (l : List Sp) (b off cap : Nat) (w : World) (hF : FarAt w) (hl : l.length ≤ 1000000) (hs : SpotsAt w b off l) (h : ∀ i (h : i < l.length), Ok l[i]) :
    Calls Tryz.prog 124 #[.slice (some ⟨b, off, none⟩) l.length cap] w fun e w' => e = .returned .nilIface ∧ Below w.heap.size w w' :=
  all_core l b off cap w hF hl hs l.length (Nat.le_refl _) _ (fun i hi _ => h i hi) (fun h => absurd h (Nat.lt_irrefl _)) (fun _ => rfl)
theorem all_bad (l : List Sp) (b off cap : Nat) (w : World) (hF : FarAt w) (hl : l.length ≤ 1000000) (hs : SpotsAt w b off l) (k : Nat) (hk : k < l.length) (h : ∀ i (h : i < l.length), i < k → Ok l[i]) (hb : sCheck l[k] ≠ 0) :
    Calls Tryz.prog 124 #[.slice (some ⟨b, off, none⟩) l.length cap] w fun e w' => e = .returned (.iface 84 (.int .i64 (sCheck l[k]))) ∧ Below w.heap.size w w' :=
  all_core l b off cap w hF hl hs k (Nat.le_of_lt hk) _ h (fun _ => ⟨hb, rfl⟩) (fun e => absurd hk (by omega))
end Go.Proofs.YtjjmelhhalomaaaGreatDoor
