/- The curve y^2 = x^3 + x over the field of 4051 elements: its chord and tangent sums, carried over onto the other curve, are that one's sums. No program. -/
import Derived.Test.YtjjmelhhalomaaaGreatDoorEdB
namespace Go.Proofs.YtjjmelhhalomaaaGreatDoor
theorem xx1 (x : F) : x * x + 1 ≠ 0 := fun h => neg_one_nonsq x (by grobner)
theorem x1ne {x y : F} (h : y * y = x*x*x + x) : x - 1 ≠ 0 := fun e => two_nonsq y (by
  have : x = 1 := by grobner
  rw [h, this]; decide)
/-- The other curve's X and Y of a spot (x, y). -/
def mX (x y : F) : F := y * inv (x*x+1)
def mY (x : F) : F := (x+1) * inv (x-1)
theorem m_on_core (x y i j : F) (h : y * y = x*x*x + x) (hi : (x*x+1) * i = 1) (hj : (x-1) * j = 1) :
    ((x+1)*j)^2 - 2*(y*i)^2 - 1 - 2*(y*i)^2*((x+1)*j)^2 = 0 := by
  have a : (y*i)^2 = x * i := by
    rw [show (y*i)^2 = (y*y)*(i*i) by grobner, h, show (x*x*x+x)*(i*i) = x*i*((x*x+1)*i) by grobner, hi]; grobner
  rw [a]
  clear a h
  grobner
def toPt (x y : F) (h : y * y = x*x*x + x) : Pt where
  x := mX x y
  y := mY x
  on := m_on_core x y _ _ h (mul_inv (xx1 x)) (mul_inv (x1ne h))
theorem toPt_inj {x y x' y' : F} {h : y * y = x*x*x + x} {h' : y' * y' = x'*x'*x' + x'} (e : toPt x y h = toPt x' y' h') : x = x' ∧ y = y' := by
  have eY : (x+1) * inv (x-1) = (x'+1) * inv (x'-1) := congrArg Pt.y e
  have eX : y * inv (x*x+1) = y' * inv (x'*x'+1) := congrArg Pt.x e
  have h1 := mul_inv (x1ne h); have h2 := mul_inv (x1ne h')
  have hx : x = x' := by
    have : (x+1) * inv (x-1) * ((x-1)*(x'-1)) = (x'+1) * inv (x'-1) * ((x-1)*(x'-1)) := by rw [eY]
    have t : (2 : F) * (x - x') = 0 := by
      generalize inv (x-1) = i at *; generalize inv (x'-1) = j at *
      clear eX eY e
      grobner
    rcases mul_zero_or t with h | h
    · exact absurd h (by decide)
    · grobner
  subst hx
  refine ⟨rfl, ?_⟩
  have k := mul_inv (xx1 x)
  have : y * inv (x*x+1) * (x*x+1) = y' * inv (x*x+1) * (x*x+1) := by rw [eX]
  generalize inv (x*x+1) = i at *
  clear eX eY h1 h2 e
  grobner
theorem toPt_ne_zero {x y : F} {h : y * y = x*x*x + x} : toPt x y h ≠ .zero := fun e => by
  have eY : (x+1) * inv (x-1) = 1 := congrArg Pt.y e
  have h1 := mul_inv (x1ne h)
  have t : (2 : F) = 0 := by
    generalize inv (x-1) = i at *
    have : (x+1) * i * (x-1) = 1 * (x-1) := by rw [eY]
    clear eY e
    grobner
  exact absurd t (by decide)
theorem mX_neg (x y : F) : mX x (-y) = - mX x y := by simp only [mX]; grobner
theorem toPt_neg {x y : F} (h : y * y = x*x*x + x) (h' : (-y) * (-y) = x*x*x + x) : toPt x (-y) h' = (toPt x y h).neg :=
  Pt.ext' (mX_neg x y) rfl
/-- A line meets the curve at three places: then the three spots add up to nothing, so that the turned third is the sum of two. -/
theorem lineX (x1 x2 x3 s m : F) (h1 : x1+x2+x3 = s*s) (h2 : x1*x2+x1*x3+x2*x3 = 1-2*s*m) (h3 : x1*x2*x3 = m*m) :
    ((s*x1+m)*(x2+1)*(x2*x2+1)*(x1-1)+(x1+1)*(s*x2+m)*(x1*x1+1)*(x2-1))*(x3*x3+1) = -(s*x3+m)*((x1*x1+1)*(x2*x2+1)*(x1-1)*(x2-1)+2*(s*x1+m)*(s*x2+m)*(x1+1)*(x2+1)) := by
  grobner
theorem lineY (x1 x2 x3 s m : F) (h1 : x1+x2+x3 = s*s) (h2 : x1*x2+x1*x3+x2*x3 = 1-2*s*m) (h3 : x1*x2*x3 = m*m) :
    ((x1+1)*(x2+1)*(x1*x1+1)*(x2*x2+1)+2*(s*x1+m)*(s*x2+m)*(x1-1)*(x2-1))*(x3-1) = (x3+1)*((x1*x1+1)*(x2*x2+1)*(x1-1)*(x2-1)-2*(s*x1+m)*(s*x2+m)*(x1+1)*(x2+1)) := by
  grobner
theorem f_div {a i b j c k e l : F} (hi : a * i = 1) (hj : b * j = 1) (hk : c * k = 1) (hl : e * l = 1) : (a*b*c*e) * (i*j*k*l) = 1 := by
  rw [show (a*b*c*e) * (i*j*k*l) = (a*i)*(b*j)*(c*k)*(e*l) by grobner, hi, hj, hk, hl]; grobner
theorem line_core (a1 a2 b1 b2 c1 c2 y1 y2 a3 b3 c3 y3 i1 i2 j1 j2 i3 j3 : F) (h1 : a1*i1=1) (h2 : a2*i2=1) (k1 : b1*j1=1) (k2 : b2*j2=1) (h3 : a3*i3=1) (k3 : b3*j3=1)
    (hx : (y1*c2*a2*b1+c1*y2*a1*b2)*a3 = y3*(a1*a2*b1*b2+2*y1*y2*c1*c2))
    (hy : (c1*c2*a1*a2+2*y1*y2*b1*b2)*b3 = c3*(a1*a2*b1*b2-2*y1*y2*c1*c2)) :
    (y1*i1)*(c2*j2)+(c1*j1)*(y2*i2) = (y3*i3)*(1+2*(y1*i1)*(y2*i2)*(c1*j1)*(c2*j2)) ∧
    (c1*j1)*(c2*j2)+2*(y1*i1)*(y2*i2) = (c3*j3)*(1-2*(y1*i1)*(y2*i2)*(c1*j1)*(c2*j2)) := by
  have w := f_div h1 h2 k1 k2
  have pA : (y1*i1)*(c2*j2)+(c1*j1)*(y2*i2) = (y1*c2*a2*b1+c1*y2*a1*b2)*(i1*i2*j1*j2) := by
    rw [show (y1*c2*a2*b1+c1*y2*a1*b2)*(i1*i2*j1*j2) = y1*i1*(c2*j2)*((a2*i2)*(b1*j1)) + c1*j1*(y2*i2)*((a1*i1)*(b2*j2)) by clear h1 h2 k1 k2 h3 k3 hx hy w; grobner, h1, h2, k1, k2]; clear h1 h2 k1 k2 h3 k3 hx hy w; grobner
  have pB : 1+2*(y1*i1)*(y2*i2)*(c1*j1)*(c2*j2) = (a1*a2*b1*b2+2*y1*y2*c1*c2)*(i1*i2*j1*j2) := by
    rw [show (a1*a2*b1*b2+2*y1*y2*c1*c2)*(i1*i2*j1*j2) = (a1*a2*b1*b2)*(i1*i2*j1*j2) + 2*(y1*i1)*(y2*i2)*(c1*j1)*(c2*j2) by clear h1 h2 k1 k2 h3 k3 hx hy w; grobner, w]
  have pC : 1-2*(y1*i1)*(y2*i2)*(c1*j1)*(c2*j2) = (a1*a2*b1*b2-2*y1*y2*c1*c2)*(i1*i2*j1*j2) := by
    rw [show (a1*a2*b1*b2-2*y1*y2*c1*c2)*(i1*i2*j1*j2) = (a1*a2*b1*b2)*(i1*i2*j1*j2) - 2*(y1*i1)*(y2*i2)*(c1*j1)*(c2*j2) by clear h1 h2 k1 k2 h3 k3 hx hy w; grobner, w]
  have pD : (c1*j1)*(c2*j2)+2*(y1*i1)*(y2*i2) = (c1*c2*a1*a2+2*y1*y2*b1*b2)*(i1*i2*j1*j2) := by
    rw [show (c1*c2*a1*a2+2*y1*y2*b1*b2)*(i1*i2*j1*j2) = c1*j1*(c2*j2)*((a1*i1)*(a2*i2)) + 2*(y1*i1)*(y2*i2)*((b1*j1)*(b2*j2)) by clear h1 h2 k1 k2 h3 k3 hx hy w; grobner, h1, h2, k1, k2]; clear h1 h2 k1 k2 h3 k3 hx hy w; grobner
  rw [pA, pB, pC, pD]
  clear pA pB pC pD h1 h2 k1 k2 w
  constructor
  · rw [show y3*i3*((a1*a2*b1*b2+2*y1*y2*c1*c2)*(i1*i2*j1*j2)) = (y3*(a1*a2*b1*b2+2*y1*y2*c1*c2))*(i3*(i1*i2*j1*j2)) by clear hx hy h3 k3; grobner, ← hx]
    rw [show (y1*c2*a2*b1+c1*y2*a1*b2)*a3*(i3*(i1*i2*j1*j2)) = (y1*c2*a2*b1+c1*y2*a1*b2)*(i1*i2*j1*j2)*(a3*i3) by clear hx hy h3 k3; grobner, h3]; clear hx hy h3 k3; grobner
  · rw [show c3*j3*((a1*a2*b1*b2-2*y1*y2*c1*c2)*(i1*i2*j1*j2)) = (c3*(a1*a2*b1*b2-2*y1*y2*c1*c2))*(j3*(i1*i2*j1*j2)) by clear hx hy h3 k3; grobner, ← hy]
    rw [show (c1*c2*a1*a2+2*y1*y2*b1*b2)*b3*(j3*(i1*i2*j1*j2)) = (c1*c2*a1*a2+2*y1*y2*b1*b2)*(i1*i2*j1*j2)*(b3*j3) by clear hx hy h3 k3; grobner, k3]; clear hx hy h3 k3; grobner
theorem of_div {a d q : F} (hd : d ≠ 0) (h : a = q * d) : a * inv d = q := by
  rw [h, show q * d * inv d = q * (d * inv d) by grobner, mul_inv hd]; grobner
theorem line_sum {x1 x2 x3 s m : F} (h1 : x1+x2+x3 = s*s) (h2 : x1*x2+x1*x3+x2*x3 = 1-2*s*m) (h3 : x1*x2*x3 = m*m)
    (o1 : (s*x1+m)*(s*x1+m) = x1*x1*x1+x1) (o2 : (s*x2+m)*(s*x2+m) = x2*x2*x2+x2) (o3 : (-(s*x3+m))*(-(s*x3+m)) = x3*x3*x3+x3) :
    (toPt x1 (s*x1+m) o1).add (toPt x2 (s*x2+m) o2) = toPt x3 (-(s*x3+m)) o3 := by
  have c := line_core _ _ _ _ _ _ _ _ _ _ _ _ _ _ _ _ _ _ (mul_inv (xx1 x1)) (mul_inv (xx1 x2)) (mul_inv (x1ne o1)) (mul_inv (x1ne o2)) (mul_inv (xx1 x3)) (mul_inv (x1ne o3)) (lineX x1 x2 x3 s m h1 h2 h3) (lineY x1 x2 x3 s m h1 h2 h3)
  apply Pt.ext'
  · exact of_div (den1 _ _) c.1
  · exact of_div (den2 _ _) c.2
/-- The third place of a line through two spots at unlike places. -/
theorem chord_rel {x1 y1 x2 y2 s : F} (hx : x1 - x2 ≠ 0) (o1 : y1*y1 = x1*x1*x1+x1) (o2 : y2*y2 = x2*x2*x2+x2) (hs : s*(x1-x2) = y1-y2) :
    x1*x2+x1*(s*s-(x1+x2))+x2*(s*s-(x1+x2)) = 1-2*s*(y1-s*x1) ∧ x1*x2*(s*s-(x1+x2)) = (y1-s*x1)*(y1-s*x1) := by
  have e2 : x1*x2+x1*(s*s-(x1+x2))+x2*(s*s-(x1+x2)) = 1-2*s*(y1-s*x1) := by
    apply cancel hx
    have : y2 = y1 - s*(x1-x2) := by grobner
    subst this
    clear hs hx
    grobner
  refine ⟨e2, ?_⟩
  clear hx hs o2
  grobner
theorem tangent_rel {x1 y1 s : F} (o1 : y1*y1 = x1*x1*x1+x1) (hs : s*(2*y1) = 3*(x1*x1)+1) :
    x1*x1+x1*(s*s-(x1+x1))+x1*(s*s-(x1+x1)) = 1-2*s*(y1-s*x1) ∧ x1*x1*(s*s-(x1+x1)) = (y1-s*x1)*(y1-s*x1) := by
  constructor <;> grobner
theorem third_on {x1 x2 x3 s m : F} (h1 : x1+x2+x3 = s*s) (h2 : x1*x2+x1*x3+x2*x3 = 1-2*s*m) (h3 : x1*x2*x3 = m*m) :
    (-(s*x3+m))*(-(s*x3+m)) = x3*x3*x3+x3 := by
  grobner
end Go.Proofs.YtjjmelhhalomaaaGreatDoor
