/- The group of the curve y^2 - 2 x^2 = 1 + 2 x^2 y^2: sums need no exception (2 is no square), and the laws of a group. No program. -/
import Derived.Test.YtjjmelhhalomaaaGreatDoorEdA
namespace Go.Proofs.YtjjmelhhalomaaaGreatDoor
theorem no_two {a b : F} (hb : b ≠ 0) (h : a * a = 2 * (b * b)) : False := by
  have h1 := mul_inv hb
  have h2 : (a * inv b) * (a * inv b) = 2 := by
    have : a * a * (inv b * inv b) = 2 * (b * b) * (inv b * inv b) := by rw [h]
    grobner
  exact two_nonsq _ h2
theorem whole_core (x1 y1 x2 y2 e : F) (h1 : y1^2 - 2*x1^2 - 1 - 2*x1^2*y1^2 = 0) (h2 : y2^2 - 2*x2^2 - 1 - 2*x2^2*y2^2 = 0)
    (he : e = 2*x1*x2*y1*y2) (hee : e * e = 1) : False := by
  have e0 : e ≠ 0 := fun h => by rw [h] at hee; exact one_ne (by rw [← hee]; decide)
  have hxy : x1 * y1 ≠ 0 := fun h => e0 (by rw [he]; have : 2*x1*x2*y1*y2 = (x1*y1)*(2*x2*y2) := by grobner
                                            rw [this, h]; grobner)
  have hx2 : x2 ≠ 0 := fun h => e0 (by rw [he, h]; grobner)
  have key1 : (90 * x1 + e * y1) * (90 * x1 + e * y1) = 2 * ((x1*y1*(90*x2+y2)) * (x1*y1*(90*x2+y2))) := by
    have a1 : (90 * x1 + e * y1) * (90 * x1 + e * y1) = 8100 * x1^2 + y1^2 + 180 * x1 * y1 * e := by grobner
    have a2 : 2 * ((x1*y1*(90*x2+y2)) * (x1*y1*(90*x2+y2))) = 2*x1^2*y1^2*(8100*x2^2+y2^2) + 180*x1*y1*(2*x1*x2*y1*y2) := by grobner
    have a3 : 2*x1^2*y1^2*(8100*x2^2+y2^2) = 2*x1^2*y1^2 + (2*x1*x2*y1*y2)*(2*x1*x2*y1*y2) := by
      have : 8100*x2^2+y2^2 = 1 + 2*x2^2*y2^2 := by grobner
      rw [this]; grobner
    rw [a1, a2, a3, ← he, hee]; grobner
  have key2 : (90 * x1 - e * y1) * (90 * x1 - e * y1) = 2 * ((x1*y1*(90*x2-y2)) * (x1*y1*(90*x2-y2))) := by
    have a1 : (90 * x1 - e * y1) * (90 * x1 - e * y1) = 8100 * x1^2 + y1^2 - 180 * x1 * y1 * e := by grobner
    have a2 : 2 * ((x1*y1*(90*x2-y2)) * (x1*y1*(90*x2-y2))) = 2*x1^2*y1^2*(8100*x2^2+y2^2) - 180*x1*y1*(2*x1*x2*y1*y2) := by grobner
    have a3 : 2*x1^2*y1^2*(8100*x2^2+y2^2) = 2*x1^2*y1^2 + (2*x1*x2*y1*y2)*(2*x1*x2*y1*y2) := by
      have : 8100*x2^2+y2^2 = 1 + 2*x2^2*y2^2 := by grobner
      rw [this]; grobner
    rw [a1, a2, a3, ← he, hee]; grobner
  by_cases c1 : 90*x2+y2 = 0
  · by_cases c2 : 90*x2-y2 = 0
    · apply hx2
      have : (180 : F) * x2 = 0 := by grobner
      rcases mul_zero_or this with h | h
      · exact absurd h (by decide)
      · exact h
    · exact no_two (mul_ne hxy c2) key2
  · exact no_two (mul_ne hxy c1) key1

structure Pt where
  x : F
  y : F
  on : y^2 - 2*x^2 - 1 - 2*x^2*y^2 = 0
theorem Pt.ext' {p q : Pt} (hx : p.x = q.x) (hy : p.y = q.y) : p = q := by
  cases p; cases q; simp only at hx hy; subst hx hy; rfl
theorem den1 (p q : Pt) : 1 + 2*p.x*q.x*p.y*q.y ≠ 0 := fun h =>
  whole_core p.x p.y q.x q.y _ p.on q.on rfl (by
    have : 2*p.x*q.x*p.y*q.y = -1 := by grobner
    rw [this]; decide)
theorem den2 (p q : Pt) : 1 - 2*p.x*q.x*p.y*q.y ≠ 0 := fun h =>
  whole_core p.x p.y q.x q.y _ p.on q.on rfl (by
    have : 2*p.x*q.x*p.y*q.y = 1 := by grobner
    rw [this]; decide)
theorem close_inv (n1 n2 d1 d2 i1 i2 : F) (h1 : d1 * i1 = 1) (h2 : d2 * i2 = 1)
    (h : n2^2*d1^2-2*n1^2*d2^2-d1^2*d2^2-2*n1^2*n2^2 = 0) :
    (n2*i2)^2 - 2*(n1*i1)^2 - 1 - 2*(n1*i1)^2*(n2*i2)^2 = 0 := by
  have : (n2^2*d1^2-2*n1^2*d2^2-d1^2*d2^2-2*n1^2*n2^2) * (i1*i1*(i2*i2)) = 0 := by rw [h]; grobner
  have e1 : d1^2*i1^2 = 1 := by grobner
  have e2 : d2^2*i2^2 = 1 := by grobner
  have r : (n2^2*d1^2-2*n1^2*d2^2-d1^2*d2^2-2*n1^2*n2^2) * (i1*i1*(i2*i2)) = n2^2*i2^2*(d1^2*i1^2) - 2*n1^2*i1^2*(d2^2*i2^2) - (d1^2*i1^2)*(d2^2*i2^2) - 2*n1^2*i1^2*n2^2*i2^2 := by clear e1 e2 h1 h2 h this; grobner
  rw [r, e1, e2] at this
  clear r e1 e2 h h1 h2
  grobner
def Pt.add (p q : Pt) : Pt where
  x := (p.x*q.y+p.y*q.x) * inv (1 + 2*p.x*q.x*p.y*q.y)
  y := (p.y*q.y+2*p.x*q.x) * inv (1 - 2*p.x*q.x*p.y*q.y)
  on := close_inv _ _ _ _ _ _ (mul_inv (den1 p q)) (mul_inv (den2 p q)) (closeXY p.x p.y q.x q.y p.on q.on)
def Pt.zero : Pt := ⟨0, 1, by decide⟩
def Pt.neg (p : Pt) : Pt := ⟨-p.x, p.y, by have := p.on; grobner⟩
theorem Pt.add_comm (p q : Pt) : p.add q = q.add p := by
  apply Pt.ext'
  · show (p.x*q.y+p.y*q.x) * inv (1 + 2*p.x*q.x*p.y*q.y) = (q.x*p.y+q.y*p.x) * inv (1 + 2*q.x*p.x*q.y*p.y)
    rw [show 1 + 2*q.x*p.x*q.y*p.y = 1 + 2*p.x*q.x*p.y*q.y by grobner, show q.x*p.y+q.y*p.x = p.x*q.y+p.y*q.x by grobner]
  · show (p.y*q.y+2*p.x*q.x) * inv (1 - 2*p.x*q.x*p.y*q.y) = (q.y*p.y+2*q.x*p.x) * inv (1 - 2*q.x*p.x*q.y*p.y)
    rw [show 1 - 2*q.x*p.x*q.y*p.y = 1 - 2*p.x*q.x*p.y*q.y by grobner, show q.y*p.y+2*q.x*p.x = p.y*q.y+2*p.x*q.x by grobner]
theorem inv_one : inv 1 = 1 := by decide +kernel
theorem Pt.add_zero (p : Pt) : p.add .zero = p := by
  apply Pt.ext'
  · show (p.x*1+p.y*0) * inv (1 + 2*p.x*0*p.y*1) = p.x
    rw [show 1 + 2*p.x*0*p.y*1 = 1 by grobner, inv_one]; grobner
  · show (p.y*1+2*p.x*0) * inv (1 - 2*p.x*0*p.y*1) = p.y
    rw [show 1 - 2*p.x*0*p.y*1 = 1 by grobner, inv_one]; grobner
theorem Pt.zero_add (p : Pt) : Pt.zero.add p = p := by rw [Pt.add_comm, Pt.add_zero]
theorem Pt.add_neg (p : Pt) : p.add p.neg = .zero := by
  have h := p.on
  apply Pt.ext'
  · show (p.x*p.y+p.y*-p.x) * inv (1 + 2*p.x*(-p.x)*p.y*p.y) = 0
    rw [show p.x*p.y+p.y*-p.x = 0 by grobner]; grobner
  · show (p.y*p.y+2*p.x*-p.x) * inv (1 - 2*p.x*(-p.x)*p.y*p.y) = 1
    have e : 1 - 2*p.x*(-p.x)*p.y*p.y = p.y*p.y+2*p.x*-p.x := by grobner
    have := mul_inv (den2 p p.neg)
    have f : 1 - 2*p.x*p.neg.x*p.y*p.neg.y = p.y*p.y+2*p.x*-p.x := e
    rw [f] at this
    rw [e]; exact this
theorem assoc_core (n1 n2 d1 d2 m1 m2 e1 e2 x3 y3 x1 y1 i1 i2 j1 j2 : F) (h1 : d1*i1 = 1) (h2 : d2*i2 = 1) (k1 : e1*j1 = 1) (k2 : e2*j2 = 1)
    (hx : (n1*d2*y3+n2*d1*x3)*(e1*e2+2*m1*m2*x1*y1) = (x1*m2*e1+y1*m1*e2)*(d1*d2+2*n1*n2*x3*y3)) :
    ((n1*i1)*y3+(n2*i2)*x3)*(1+2*x1*(m1*j1)*y1*(m2*j2)) = (x1*(m2*j2)+y1*(m1*j1))*(1+2*(n1*i1)*x3*(n2*i2)*y3) := by
  have a : (n1*i1)*y3+(n2*i2)*x3 = (n1*d2*y3+n2*d1*x3)*(i1*i2) := by
    rw [show (n1*d2*y3+n2*d1*x3)*(i1*i2) = n1*i1*y3*(d2*i2) + n2*i2*x3*(d1*i1) by clear h1 h2 k1 k2 hx; grobner, h1, h2]; clear h1 h2 k1 k2 hx; grobner
  have b : 1+2*x1*(m1*j1)*y1*(m2*j2) = (e1*e2+2*m1*m2*x1*y1)*(j1*j2) := by
    rw [show (e1*e2+2*m1*m2*x1*y1)*(j1*j2) = (e1*j1)*(e2*j2) + 2*x1*(m1*j1)*y1*(m2*j2) by clear h1 h2 k1 k2 hx; grobner, k1, k2]; clear h1 h2 k1 k2 hx; grobner
  have c : x1*(m2*j2)+y1*(m1*j1) = (x1*m2*e1+y1*m1*e2)*(j1*j2) := by
    rw [show (x1*m2*e1+y1*m1*e2)*(j1*j2) = x1*(m2*j2)*(e1*j1) + y1*(m1*j1)*(e2*j2) by clear h1 h2 k1 k2 hx; grobner, k1, k2]; clear h1 h2 k1 k2 hx; grobner
  have d : 1+2*(n1*i1)*x3*(n2*i2)*y3 = (d1*d2+2*n1*n2*x3*y3)*(i1*i2) := by
    rw [show (d1*d2+2*n1*n2*x3*y3)*(i1*i2) = (d1*i1)*(d2*i2) + 2*(n1*i1)*x3*(n2*i2)*y3 by clear h1 h2 k1 k2 hx; grobner, h1, h2]; clear h1 h2 k1 k2 hx; grobner
  rw [a, b, c, d]
  generalize (n1*d2*y3+n2*d1*x3) = A at *
  generalize (e1*e2+2*m1*m2*x1*y1) = B at *
  generalize (x1*m2*e1+y1*m1*e2) = C at *
  generalize (d1*d2+2*n1*n2*x3*y3) = D at *
  clear a b c d h1 h2 k1 k2
  rw [show A*(i1*i2)*(B*(j1*j2)) = (A*B)*(i1*i2*(j1*j2)) by grobner, hx]; grobner
theorem assoc_core2 (n1 n2 d1 d2 m1 m2 e1 e2 x3 y3 x1 y1 i1 i2 j1 j2 : F) (h1 : d1*i1 = 1) (h2 : d2*i2 = 1) (k1 : e1*j1 = 1) (k2 : e2*j2 = 1)
    (hx : (n2*d1*y3+2*n1*d2*x3)*(e1*e2-2*m1*m2*x1*y1) = (y1*m2*e1+2*x1*m1*e2)*(d1*d2-2*n1*n2*x3*y3)) :
    ((n2*i2)*y3+2*(n1*i1)*x3)*(1-2*x1*(m1*j1)*y1*(m2*j2)) = (y1*(m2*j2)+2*x1*(m1*j1))*(1-2*(n1*i1)*x3*(n2*i2)*y3) := by
  have a : (n2*i2)*y3+2*(n1*i1)*x3 = (n2*d1*y3+2*n1*d2*x3)*(i1*i2) := by
    rw [show (n2*d1*y3+2*n1*d2*x3)*(i1*i2) = n2*i2*y3*(d1*i1) + 2*(n1*i1)*x3*(d2*i2) by clear h1 h2 k1 k2 hx; grobner, h1, h2]; clear h1 h2 k1 k2 hx; grobner
  have b : 1-2*x1*(m1*j1)*y1*(m2*j2) = (e1*e2-2*m1*m2*x1*y1)*(j1*j2) := by
    rw [show (e1*e2-2*m1*m2*x1*y1)*(j1*j2) = (e1*j1)*(e2*j2) - 2*x1*(m1*j1)*y1*(m2*j2) by clear h1 h2 k1 k2 hx; grobner, k1, k2]; clear h1 h2 k1 k2 hx; grobner
  have c : y1*(m2*j2)+2*x1*(m1*j1) = (y1*m2*e1+2*x1*m1*e2)*(j1*j2) := by
    rw [show (y1*m2*e1+2*x1*m1*e2)*(j1*j2) = y1*(m2*j2)*(e1*j1) + 2*x1*(m1*j1)*(e2*j2) by clear h1 h2 k1 k2 hx; grobner, k1, k2]; clear h1 h2 k1 k2 hx; grobner
  have d : 1-2*(n1*i1)*x3*(n2*i2)*y3 = (d1*d2-2*n1*n2*x3*y3)*(i1*i2) := by
    rw [show (d1*d2-2*n1*n2*x3*y3)*(i1*i2) = (d1*i1)*(d2*i2) - 2*(n1*i1)*x3*(n2*i2)*y3 by clear h1 h2 k1 k2 hx; grobner, h1, h2]; clear h1 h2 k1 k2 hx; grobner
  rw [a, b, c, d]
  generalize (n2*d1*y3+2*n1*d2*x3) = A at *
  generalize (e1*e2-2*m1*m2*x1*y1) = B at *
  generalize (y1*m2*e1+2*x1*m1*e2) = C at *
  generalize (d1*d2-2*n1*n2*x3*y3) = D at *
  clear a b c d h1 h2 k1 k2
  rw [show A*(i1*i2)*(B*(j1*j2)) = (A*B)*(i1*i2*(j1*j2)) by grobner, hx]; grobner
theorem Pt.add_assoc (p q r : Pt) : (p.add q).add r = p.add (q.add r) := by
  have aX := assocX p.x p.y q.x q.y r.x r.y p.on q.on r.on
  have aY := assocY p.x p.y q.x q.y r.x r.y p.on q.on r.on
  have h1 := mul_inv (den1 p q)
  have h2 := mul_inv (den2 p q)
  have k1 := mul_inv (den1 q r)
  have k2 := mul_inv (den2 q r)
  apply Pt.ext'
  · refine div_eq (den1 (p.add q) r) (den1 p (q.add r)) ?_
    exact assoc_core _ _ _ _ _ _ _ _ r.x r.y p.x p.y _ _ _ _ h1 h2 k1 k2 aX
  · refine div_eq (den2 (p.add q) r) (den2 p (q.add r)) ?_
    exact assoc_core2 _ _ _ _ _ _ _ _ r.x r.y p.x p.y _ _ _ _ h1 h2 k1 k2 aY
end Go.Proofs.YtjjmelhhalomaaaGreatDoor
