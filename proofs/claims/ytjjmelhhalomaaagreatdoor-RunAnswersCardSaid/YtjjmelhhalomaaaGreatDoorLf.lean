/- What is over a place of the curve, four times it, and the base. No program. -/
import Derived.Test.YtjjmelhhalomaaaGreatDoorCyc
import Derived.Test.YtjjmelhhalomaaaGreatDoorPl
namespace Go.Proofs.YtjjmelhhalomaaaGreatDoor
theorem Ok.ins {s : Sp} (h : Ok s) : inside s.x = true := by have := h.x0; have := h.x1; simp [inside]; omega
theorem ins_iff {x : Int} : inside x = true ↔ 0 ≤ x ∧ x < 4051 := by simp [inside]
theorem ins_not {x : Int} : inside x = false ↔ ¬ (0 ≤ x ∧ x < 4051) := by rw [← ins_iff]; simp
theorem height_bd (x : Int) : 0 ≤ height x ∧ height x < 4051 := r_pAdd _ _
/-- The spot over a place, the lesser one. -/
def lifted (x : Int) : Sp := ⟨x, pRoot (height x), false⟩
theorem lifted_ok {x : Int} (hx : inside x = true) (h : isSq (height x) = true) : Ok (lifted x) := by
  have hb := ins_iff.mp hx
  have hr := pRoot_bd (height x)
  have e := congrArg fi (pRoot_mul h)
  refine ⟨hb.1, hb.2, hr.1, by show pRoot (height x) < 4051; omega, (fun c => by cases c), fun _ => ?_⟩
  show fi (pRoot (height x)) * fi (pRoot (height x)) = fi x * fi x * fi x + fi x
  rw [← fi_pMul, e, pOf, fi_mod, fi_height]
/-- Of what is on the curve the height is a square. -/
theorem ok_isSq {s : Sp} (h : Ok s) (hf : s.far = false) : isSq (height s.x) = true := by
  by_cases hz : pOf (height s.x) = 0
  · exact isSq_zero hz
  · rw [isSq_half hz, fi_height, ← h.on hf]
    have hy : fi s.y ≠ 0 := fun e => hz (by
      have := h.on hf
      rw [← fi_height, e] at this
      have h2 : fi (height s.x) = 0 := by rw [← this]; grobner
      have := fi_eq.mp (h2.trans fi_zero.symm); unfold pOf; omega)
    exact fermat hy
/-- It is the lesser one, or the greater one. -/
theorem ok_lift {s : Sp} (h : Ok s) (hf : s.far = false) : s = lifted s.x ∨ s = sTurned (lifted s.x) := by
  have hs := ok_isSq h hf
  have hl := lifted_ok h.ins hs
  have e1 := h.on hf
  have e2 := hl.on rfl
  have e2' : fi (lifted s.x).y * fi (lifted s.x).y = fi s.x * fi s.x * fi s.x + fi s.x := e2
  rw [← e1] at e2'
  rcases sq_eq e2' with e | e
  · left; exact Sp.ext' rfl (fi_inj ⟨h.y0, h.y1⟩ ⟨hl.y0, hl.y1⟩ e.symm) hf
  · right
    have t := (turned_ok hl).1
    refine Sp.ext' rfl (fi_inj ⟨h.y0, h.y1⟩ ⟨t.y0, t.y1⟩ ?_) hf
    show fi s.y = fi ((-(lifted s.x).y) % 4051)
    rw [fi_mod, fi_neg, e]; grobner
theorem lifted_le {s : Sp} (h : Ok s) (hf : s.far = false) (hy : s.y ≤ pOf (-s.y)) : s = lifted s.x := by
  have hs := ok_isSq h hf
  rcases ok_lift h hf with e | e
  · exact e
  · have hr := pRoot_bd (height s.x)
    have ey : s.y = (-pRoot (height s.x)) % 4051 := by rw [e]; rfl
    unfold pOf at hy
    clear e
    generalize hp : pRoot (height s.x) = p at *
    refine Sp.ext' rfl ?_ hf
    show s.y = pRoot (height s.x)
    rw [hp]
    by_cases h0 : p = 0
    · rw [h0] at ey; rw [h0]; exact ey
    · exfalso
      have e1 : (-p) % 4051 = 4051 - p := by omega
      rw [e1] at ey
      rw [ey] at hy
      have e2 : (-(4051 - p)) % 4051 = p := by omega
      omega
theorem lifted_gt {s : Sp} (h : Ok s) (hf : s.far = false) (hy : pOf (-s.y) < s.y) : s = sTurned (lifted s.x) := by
  rcases ok_lift h hf with e | e
  · have hr := pRoot_bd (height s.x)
    have ey : s.y = pRoot (height s.x) := by rw [e]; rfl
    unfold pOf at hy; omega
  · exact e
theorem sq_far_not {a : Int} (h : a % 4052 ≠ 0) : (sq a).far = false := by
  cases hf : (sq a).far
  · rfl
  · exact absurd (sq_far.mp hf) h
def sFour (s : Sp) : Sp := sSum (sSum s s) (sSum s s)
theorem four_sq (u : Int) : sFour (sq u) = sq (u * 4) := by
  unfold sFour; rw [sq_add, sq_add]; congr 1; omega
theorem four_ok {s : Sp} (h : Ok s) : Ok (sFour s) := by
  obtain ⟨u, -, -, rfl⟩ := sq_all h; rw [four_sq]; exact sq_ok _
/-- Four times a spot is four times some number, below 1013. -/
theorem four_all {s : Sp} (h : Ok s) : ∃ j : Int, 0 ≤ j ∧ j < 1013 ∧ sFour s = sq (4 * j) := by
  obtain ⟨u, -, -, rfl⟩ := sq_all h
  exact ⟨u % 1013, by omega, by omega, by rw [four_sq]; exact sq_eq_iff.mpr (by omega)⟩
theorem four_far {s : Sp} {j : Int} (h0 : 0 ≤ j) (h1 : j < 1013) (e : sFour s = sq (4 * j)) (hf : (sFour s).far = false) : 1 ≤ j := by
  rcases Int.lt_or_le 0 j with h | h
  · exact h
  · exfalso; have : j = 0 := by omega
    rw [e, this, sq_far.mpr (by decide)] at hf; cases hf
theorem rootOf_nat (n : Nat) : rootOf (n : Int) = ((n ^ eRoot % 4051 : Nat) : Int) := by unfold rootOf; exact pPow_nat n eRoot
theorem ht0 : height 0 = 0 := by decide
theorem ht1 : height 1 = 2 := by decide
theorem ht2 : height 2 = 10 := by decide
theorem ht3 : height 3 = 30 := by decide
theorem ro0 : rootOf 0 = 0 := (rootOf_nat 0).trans (by decide +kernel)
theorem ro2 : rootOf 2 = ((2 ^ eRoot % 4051 : Nat) : Int) := rootOf_nat 2
theorem isq0 : isSq (height 0) = true := by rw [ht0]; exact isSq_zero (by decide)
theorem isq1 : isSq (height 1) = false := by rw [ht1, isSq, show (2 : Int) = ((2 : Nat) : Int) from rfl, rootOf_nat]; decide +kernel
theorem isq2 : isSq (height 2) = false := by rw [ht2, isSq, show (10 : Int) = ((10 : Nat) : Int) from rfl, rootOf_nat]; decide +kernel
theorem isq3 : isSq (height 3) = true := by rw [ht3, isSq, show (30 : Int) = ((30 : Nat) : Int) from rfl, rootOf_nat]; decide +kernel
theorem prt0 : pRoot (height 0) = 0 := by rw [ht0]; unfold pRoot; rw [ro0]; decide
theorem prt3 : pRoot (height 3) = 156 := by rw [ht3]; unfold pRoot; rw [show (30 : Int) = ((30 : Nat) : Int) from rfl, rootOf_nat]; decide +kernel
theorem cSp_2026 : cSp 2026 = ⟨0, 0, false⟩ := Sp.ext' (by decide +kernel) (by decide +kernel) rfl
theorem sq_2026 : sq 2026 = ⟨0, 0, false⟩ := by
  have := sq_nat 2026; rw [sp_table (by decide) (by decide), cSp_2026] at this; exact this
theorem sq_1 : sq 1 = ⟨3, 156, false⟩ := by have := sq_nat 1; rw [sp_one] at this; exact this
theorem lift0 : lifted 0 = sq 2026 := by rw [lifted, prt0, sq_2026]
theorem lift3 : lifted 3 = sq 1 := by rw [lifted, prt3, sq_1]
end Go.Proofs.YtjjmelhhalomaaaGreatDoor
