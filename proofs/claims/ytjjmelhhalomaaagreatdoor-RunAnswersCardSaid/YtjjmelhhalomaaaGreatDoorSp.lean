/- What layer curve computes, as functions of Int; that sums of spots that are right are right, and the sums of a group. No program. -/
import Derived.Test.YtjjmelhhalomaaaGreatDoorWc
import Derived.Test.YtjjmelhhalomaaaGreatDoorPr
namespace Go.Proofs.YtjjmelhhalomaaaGreatDoor
/-- A spot: its place and height, or far. -/
structure Sp where
  x : Int
  y : Int
  far : Bool
theorem Sp.ext' {a b : Sp} (h1 : a.x = b.x) (h2 : a.y = b.y) (h3 : a.far = b.far) : a = b := by
  cases a; cases b; simp only at h1 h2 h3; subst h1 h2 h3; rfl
def Sp.beq (a b : Sp) : Bool := decide (a.x = b.x) && decide (a.y = b.y) && decide (a.far = b.far)
theorem Sp.beq_iff {a b : Sp} : a.beq b = true ↔ a = b := by
  constructor
  · intro h; simp only [Sp.beq, Bool.and_eq_true, decide_eq_true_eq] at h; exact Sp.ext' h.1.1 h.1.2 h.2
  · intro h; subst h; simp [Sp.beq]
def sFar : Sp := ⟨0, 0, true⟩
def sNil : Sp := ⟨0, 0, false⟩
def inside (n : Int) : Bool := decide (0 ≤ n) && decide (n < 4051)
def height (x : Int) : Int := pAdd (pMul (pMul x x) x) x
/-- What is wrong with a spot: 0 nothing, 1 a number, 3 it is not on the curve. -/
def sCheck (s : Sp) : Int :=
  if (!inside s.x || !inside s.y) || (s.far && !s.beq sFar) then 1 else if !s.far && decide (pMul s.y s.y ≠ height s.x) then 3 else 0
structure Ok (s : Sp) : Prop where
  x0 : 0 ≤ s.x
  x1 : s.x < 4051
  y0 : 0 ≤ s.y
  y1 : s.y < 4051
  far : s.far = true → s.x = 0 ∧ s.y = 0
  on : s.far = false → fi s.y * fi s.y = fi s.x * fi s.x * fi s.x + fi s.x
theorem fi_height (x : Int) : fi (height x) = fi x * fi x * fi x + fi x := by rw [height, fi_pAdd, fi_pMul, fi_pMul]
theorem ok_iff (s : Sp) : sCheck s = 0 ↔ Ok s := by
  have hh : pMul s.y s.y = height s.x ↔ fi s.y * fi s.y = fi s.x * fi s.x * fi s.x + fi s.x := by
    rw [← fi_height, ← fi_pMul]
    exact ⟨fun h => by rw [h], fun h => fi_inj (r_pMul _ _) (r_pAdd _ _) h⟩
  obtain ⟨x, y, f⟩ := s
  simp only at hh
  constructor
  · intro h
    unfold sCheck at h
    split at h
    · exact absurd h (by decide)
    · split at h
      · exact absurd h (by decide)
      · rename_i h1 h2
        simp only [inside, Bool.or_eq_true, Bool.not_eq_true', Bool.and_eq_true, Bool.and_eq_false_iff, decide_eq_false_iff_not, not_or, decide_eq_true_eq, not_and] at h1 h2
        obtain ⟨⟨a, b⟩, c⟩ := h1
        refine ⟨by dsimp; omega, by dsimp; omega, by dsimp; omega, by dsimp; omega, ?_, ?_⟩
        · intro hf
          have := c hf
          simp only [Bool.not_eq_false] at this
          have e := Sp.beq_iff.mp this
          exact ⟨congrArg Sp.x e, congrArg Sp.y e⟩
        · intro hf
          exact hh.mp (Decidable.of_not_not (h2 hf))
  · intro h
    unfold sCheck
    have hi : inside x = true ∧ inside y = true := by
      have := h.x0; have := h.x1; have := h.y0; have := h.y1; simp only at *
      simp [inside]; omega
    rw [if_neg, if_neg]
    · cases f
      · have := hh.mpr (h.on rfl); simp [this]
      · simp
    · cases f
      · simp [hi.1, hi.2]
      · have := h.far rfl
        simp only at this
        obtain ⟨rfl, rfl⟩ := this
        simp [hi.1, Sp.beq, sFar]
theorem ok_far : Ok sFar := ⟨by decide, by decide, by decide, by decide, fun _ => ⟨rfl, rfl⟩, fun h => by cases h⟩
def sTurned (a : Sp) : Sp := ⟨a.x, (-a.y) % 4051, a.far⟩
def sSlope (a b : Sp) : Option Int :=
  if a.x ≠ b.x then some (pMul (pSub a.y b.y) (pInv (pSub a.x b.x)))
  else if a.y ≠ b.y ∨ a.y = 0 then none
  else some (pMul (pMul 3 (pMul a.x a.x) + 1) (pInv (2 * a.y)))
def sThird (a b : Sp) (s : Int) : Sp :=
  let x := pSub (pMul s s) (a.x + b.x)
  ⟨x, pSub (pMul s (pSub a.x x)) a.y, false⟩
def sSum (a b : Sp) : Sp :=
  if a.far = true then b else if b.far = true then a else match sSlope a b with
    | none => sFar
    | some s => sThird a b s
/-- The group's element of a spot. -/
def pt (s : Sp) : Pt :=
  if h : s.far = false ∧ fi s.y * fi s.y = fi s.x * fi s.x * fi s.x + fi s.x then toPt (fi s.x) (fi s.y) h.2 else .zero
theorem pt_far {s : Sp} (h : s.far = true) : pt s = .zero := by unfold pt; rw [dif_neg]; intro c; rw [h] at c; exact absurd c.1 (by decide)
theorem pt_on {s : Sp} (h : s.far = false) (o : fi s.y * fi s.y = fi s.x * fi s.x * fi s.x + fi s.x) : pt s = toPt (fi s.x) (fi s.y) o := by
  unfold pt; rw [dif_pos ⟨h, o⟩]
theorem Ok.far_eq {s : Sp} (h : Ok s) (hf : s.far = true) : s = sFar := Sp.ext' (h.far hf).1 (h.far hf).2 hf
theorem pt_inj {a b : Sp} (ha : Ok a) (hb : Ok b) (h : pt a = pt b) : a = b := by
  cases fa : a.far <;> cases fb : b.far
  · rw [pt_on fa (ha.on fa), pt_on fb (hb.on fb)] at h
    have := toPt_inj h
    exact Sp.ext' (fi_inj ⟨ha.x0, ha.x1⟩ ⟨hb.x0, hb.x1⟩ this.1) (fi_inj ⟨ha.y0, ha.y1⟩ ⟨hb.y0, hb.y1⟩ this.2) (fa.trans fb.symm)
  · rw [pt_on fa (ha.on fa), pt_far fb] at h; exact absurd h toPt_ne_zero
  · rw [pt_far fa, pt_on fb (hb.on fb)] at h; exact absurd h.symm toPt_ne_zero
  · rw [ha.far_eq fa, hb.far_eq fb]
theorem turned_ok {a : Sp} (ha : Ok a) : Ok (sTurned a) ∧ pt (sTurned a) = (pt a).neg := by
  have hy : fi (sTurned a).y = - fi a.y := by rw [← fi_neg]; exact fi_mod _
  have hr : 0 ≤ (sTurned a).y ∧ (sTurned a).y < 4051 := by unfold sTurned; dsimp; omega
  have o : a.far = false → fi (sTurned a).y * fi (sTurned a).y = fi (sTurned a).x * fi (sTurned a).x * fi (sTurned a).x + fi (sTurned a).x := fun hf => by
    rw [hy]; have := ha.on hf; show -fi a.y * -fi a.y = fi a.x * fi a.x * fi a.x + fi a.x; rw [← this]; grobner
  have k : Ok (sTurned a) := ⟨ha.x0, ha.x1, hr.1, hr.2, fun hf => by
    have := ha.far hf; refine ⟨this.1, ?_⟩; show (-a.y) % 4051 = 0; rw [this.2]; rfl, o⟩
  refine ⟨k, ?_⟩
  cases fa : a.far
  · rw [pt_on (s := sTurned a) fa (o fa), pt_on fa (ha.on fa)]
    apply Pt.ext'
    · show mX (fi a.x) (fi (sTurned a).y) = - mX (fi a.x) (fi a.y)
      rw [hy, mX_neg]
    · rfl
  · rw [pt_far (s := sTurned a) fa, pt_far fa]; exact Pt.ext' (by decide) rfl
theorem pt_eq {s : Sp} {x y : F} (hf : s.far = false) (hx : fi s.x = x) (hy : fi s.y = y) (o : y * y = x * x * x + x) : pt s = toPt x y o := by
  subst hx hy; exact pt_on hf o
theorem third_ok {a b : Sp} {s : Int} {x1 y1 x2 y2 : F} (hx1 : fi a.x = x1) (hy1 : fi a.y = y1) (hx2 : fi b.x = x2) (hy2 : fi b.y = y2) (fa : a.far = false) (fb : b.far = false)
    (o1 : y1*y1 = x1*x1*x1+x1) (o2 : y2*y2 = x2*x2*x2+x2) (hl : fi s * (x1 - x2) = y1 - y2)
    (h : x1*x2+x1*(fi s*fi s-(x1+x2))+x2*(fi s*fi s-(x1+x2)) = 1-2*fi s*(y1-fi s*x1) ∧ x1*x2*(fi s*fi s-(x1+x2)) = (y1-fi s*x1)*(y1-fi s*x1)) :
    Ok (sThird a b s) ∧ pt (sThird a b s) = (pt a).add (pt b) := by
  generalize hs : fi s = t at *
  have ex : fi (sThird a b s).x = t*t-(x1+x2) := by
    show fi (pSub (pMul s s) (a.x + b.x)) = _
    rw [fi_pSub, fi_pMul, fi_add, hx1, hx2, hs]
  have ey : fi (sThird a b s).y = -(t*(t*t-(x1+x2))+(y1-t*x1)) := by
    show fi (pSub (pMul s (pSub a.x (sThird a b s).x)) a.y) = _
    rw [fi_pSub, fi_pMul, fi_pSub, ex, hx1, hy1, hs]; grobner
  have h1 : x1+x2+(t*t-(x1+x2)) = t*t := by grobner
  have o3 := third_on h1 h.1 h.2
  have e1 : y1 = t*x1+(y1-t*x1) := by grobner
  have e2 : y2 = t*x2+(y1-t*x1) := by grobner
  refine ⟨⟨(r_pSub _ _).1, (r_pSub _ _).2, (r_pSub _ _).1, (r_pSub _ _).2, (fun hf => by cases hf), fun _ => ?_⟩, ?_⟩
  · rw [ex, ey]; exact o3
  · rw [pt_eq (s := sThird a b s) rfl ex ey o3, pt_eq fa hx1 (hy1.trans e1) (by rw [← e1]; exact o1), pt_eq fb hx2 (hy2.trans e2) (by rw [← e2]; exact o2)]
    exact (line_sum h1 h.1 h.2 _ _ o3).symm
theorem sum_ok {a b : Sp} (ha : Ok a) (hb : Ok b) : Ok (sSum a b) ∧ pt (sSum a b) = (pt a).add (pt b) := by
  unfold sSum
  cases fa : a.far
  · cases fb : b.far
    · simp only [Bool.false_eq_true, if_false]
      have oa := ha.on fa; have ob := hb.on fb
      unfold sSlope
      by_cases hx : a.x ≠ b.x
      · rw [if_pos hx]
        have hne : fi a.x - fi b.x ≠ 0 := fun h => hx (fi_inj ⟨ha.x0, ha.x1⟩ ⟨hb.x0, hb.x1⟩ (by grobner))
        have hs : fi (pMul (pSub a.y b.y) (pInv (pSub a.x b.x))) * (fi a.x - fi b.x) = fi a.y - fi b.y := by
          rw [fi_pMul, fi_pInv, fi_pSub, fi_pSub]
          have := inv_mul hne
          rw [show (fi a.y - fi b.y) * inv (fi a.x - fi b.x) * (fi a.x - fi b.x) = (fi a.y - fi b.y) * (inv (fi a.x - fi b.x) * (fi a.x - fi b.x)) by grobner, this]; grobner
        exact third_ok rfl rfl rfl rfl fa fb oa ob hs (chord_rel hne oa ob hs)
      · have hx' : a.x = b.x := Decidable.of_not_not hx
        rw [if_neg hx]
        by_cases hy : a.y ≠ b.y ∨ a.y = 0
        · rw [if_pos hy]
          refine ⟨ok_far, ?_⟩
          have hyy : fi b.y = - fi a.y := by
            have e : fi a.y * fi a.y = fi b.y * fi b.y := by rw [oa, ob, hx']
            rcases sq_eq e with h | h
            · have h2 := fi_inj ⟨ha.y0, ha.y1⟩ ⟨hb.y0, hb.y1⟩ h
              rcases hy with h3 | h3
              · exact absurd h2 h3
              · rw [← h2, h3]; decide
            · rw [h]; grobner
          have : pt b = (pt a).neg := by
            rw [pt_on fa oa, pt_eq fb (congrArg fi hx'.symm) hyy (by rw [← oa]; grobner)]
            exact toPt_neg oa _
          show pt sFar = _
          rw [pt_far rfl, this, Pt.add_neg]
        · rw [if_neg hy]
          have hy' : a.y = b.y ∧ a.y ≠ 0 := by omega
          have hne : 2 * fi a.y ≠ 0 := mul_ne two_ne (fun h => hy'.2 ((fi_zero_iff ⟨ha.y0, ha.y1⟩).mp h))
          have hs : fi (pMul (pMul 3 (pMul a.x a.x) + 1) (pInv (2 * a.y))) * (2 * fi a.y) = 3 * (fi a.x * fi a.x) + 1 := by
            rw [fi_pMul, fi_pInv, fi_add, fi_pMul, fi_pMul, fi_mul]
            have h2 : fi 2 = 2 := rfl
            have h3 : fi 3 = 3 := rfl
            rw [h2, h3, fi_one]
            have := inv_mul hne
            rw [show (3 * (fi a.x * fi a.x) + 1) * inv (2 * fi a.y) * (2 * fi a.y) = (3 * (fi a.x * fi a.x) + 1) * (inv (2 * fi a.y) * (2 * fi a.y)) by grobner, this]; grobner
          have : b = a := Sp.ext' hx'.symm hy'.1.symm (fb.trans fa.symm)
          subst this
          exact third_ok rfl rfl rfl rfl fa fb oa ob (by grobner) (tangent_rel oa hs)
    · simp only [Bool.false_eq_true, if_false, if_true]
      exact ⟨ha, by rw [pt_far fb, Pt.add_zero]⟩
  · simp only [if_true]
    exact ⟨hb, by rw [pt_far fa, Pt.zero_add]⟩
end Go.Proofs.YtjjmelhhalomaaaGreatDoor
