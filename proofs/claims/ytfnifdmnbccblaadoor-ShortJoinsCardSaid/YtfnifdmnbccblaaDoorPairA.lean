/- Two lines, one through three spots over the field, one through three turned ones: the products of the values of each at the places of the other are the same. No program. -/
import Derived.Test.YtfnifdmnbccblaaDoorTw
import Derived.Test.YtfnifdmnbccblaaDoorCyc
namespace Go.Proofs.YtfnifdmnbccblaaDoor
theorem recip_prod (x1 x2 x3 e1 e2 e3 a b c d : F) (h1 : x1+x2+x3 = e1) (h2 : x1*x2+x1*x3+x2*x3 = e2) (h3 : x1*x2*x3 = e3) :
    ((Z.mk (a*x1-c) (b*x1-d)).mul (Z.mk (a*x2-c) (b*x2-d))).mul (Z.mk (a*x3-c) (b*x3-d)) =
      ⟨(a*(a*a-b*b) - b*(2*a*b))*e3 - ((a*a-b*b)*c-2*a*b*d)*e2 + (a*(c*c-d*d) - b*(2*c*d))*e1 - (c*(c*c-d*d)-d*(2*c*d)),
       (a*(2*a*b)+b*(a*a-b*b))*e3 - ((a*a-b*b)*d+2*a*b*c)*e2 + (a*(2*c*d)+b*(c*c-d*d))*e1 - (c*(2*c*d)+d*(c*c-d*d))⟩ := by
  subst h1 h2 h3
  apply Z.ext'
  · simp only [Z.mul]; grobner
  · simp only [Z.mul]; grobner
/-- The value of a line with slope l, over the field, at the turned place of (x, y); of one with slope s, among the turned ones, at (t, u). -/
def lv (l v x y : F) : Z := ⟨l * x - v, y⟩
def mv (s n t u : F) : Z := ⟨u, s * t - n⟩
theorem recip (x1 x2 x3 s n t1 t2 t3 l v : F) (h1 : x1+x2+x3 = s*s) (h2 : x1*x2+x1*x3+x2*x3 = 1-2*s*n) (h3 : x1*x2*x3 = n*n)
    (k1 : t1+t2+t3 = l*l) (k2 : t1*t2+t1*t3+t2*t3 = 1-2*l*v) (k3 : t1*t2*t3 = v*v) :
    ((lv l v x1 (s*x1+n)).mul (lv l v x2 (s*x2+n))).mul (lv l v x3 (-(s*x3+n))).conj = ((mv s n t1 (l*t1+v)).mul (mv s n t2 (l*t2+v))).mul (mv s n t3 (-(l*t3+v))).conj := by
  have a := recip_prod x1 x2 x3 _ _ _ l s v (-n) h1 h2 h3
  have b := recip_prod t1 t2 t3 _ _ _ l s (-v) n k1 k2 k3
  have ea : ∀ x : F, lv l v x (s*x+n) = Z.mk (l*x-v) (s*x- -n) := fun x => Z.ext' rfl (by simp only [lv]; grobner)
  have ea3 : (lv l v x3 (-(s*x3+n))).conj = Z.mk (l*x3-v) (s*x3- -n) := Z.ext' rfl (by simp only [lv, Z.conj]; grobner)
  have eb : ∀ t : F, mv s n t (l*t+v) = Z.mk (l*t- -v) (s*t-n) := fun t => Z.ext' (by simp only [mv]; grobner) rfl
  have eb3 : (mv s n t3 (-(l*t3+v))).conj = (Z.of (-1)).mul (Z.mk (l*t3- -v) (s*t3-n)) := Z.ext' (by simp only [mv, Z.conj, Z.of, Z.mul]; grobner) (by simp only [mv, Z.conj, Z.of, Z.mul]; grobner)
  rw [ea x1, ea x2, ea3, a, eb, eb, eb3, Z.mul_left_comm, b]
  clear a b ea ea3 eb eb3 h1 h2 h3 k1 k2 k3
  apply Z.ext'
  · simp only [Z.mul, Z.of]; grobner
  · simp only [Z.mul, Z.of]; grobner
/-- What a slope says of two spots and their sum. -/
structure LineOf (a b : Sp) (l v : F) : Prop where
  ya : fi a.y = l * fi a.x + v
  yb : fi b.y = l * fi b.x + v
  yc : fi (sSum a b).y = -(l * fi (sSum a b).x + v)
  far : (sSum a b).far = false
  e1 : fi a.x + fi b.x + fi (sSum a b).x = l * l
  e2 : fi a.x * fi b.x + fi a.x * fi (sSum a b).x + fi b.x * fi (sSum a b).x = 1 - 2 * l * v
  e3 : fi a.x * fi b.x * fi (sSum a b).x = v * v
theorem third_line {a b : Sp} {s : Int} (hs : sSum a b = sThird a b s) (hl : fi s * (fi a.x - fi b.x) = fi a.y - fi b.y)
    (h : fi a.x*fi b.x+fi a.x*(fi s*fi s-(fi a.x+fi b.x))+fi b.x*(fi s*fi s-(fi a.x+fi b.x)) = 1-2*fi s*(fi a.y-fi s*fi a.x) ∧ fi a.x*fi b.x*(fi s*fi s-(fi a.x+fi b.x)) = (fi a.y-fi s*fi a.x)*(fi a.y-fi s*fi a.x)) :
    LineOf a b (fi s) (fi a.y - fi s * fi a.x) := by
  have ex : fi (sThird a b s).x = fi s*fi s-(fi a.x+fi b.x) := by
    show fi (pSub (pMul s s) (a.x + b.x)) = _
    rw [fi_pSub, fi_pMul, fi_add]
  have ey : fi (sThird a b s).y = -(fi s * (fi s*fi s-(fi a.x+fi b.x)) + (fi a.y - fi s * fi a.x)) := by
    show fi (pSub (pMul s (pSub a.x (sThird a b s).x)) a.y) = _
    rw [fi_pSub, fi_pMul, fi_pSub, ex]; grobner
  refine ⟨by grobner, by grobner, by rw [hs, ex, ey], by rw [hs]; rfl, by rw [hs, ex]; grobner, by rw [hs, ex]; exact h.1, by rw [hs, ex]; exact h.2⟩
theorem slope_line {a b : Sp} {s : Int} (ha : Ok a) (hb : Ok b) (fa : a.far = false) (fb : b.far = false) (hs : sSlope a b = some s) :
    LineOf a b (fi s) (fi a.y - fi s * fi a.x) := by
  have es : sSum a b = sThird a b s := by unfold sSum; rw [fa, fb, hs]; rfl
  have oa := ha.on fa; have ob := hb.on fb
  unfold sSlope at hs
  by_cases hx : a.x ≠ b.x
  · rw [if_pos hx] at hs
    have hne : fi a.x - fi b.x ≠ 0 := fun h => hx (fi_inj ⟨ha.x0, ha.x1⟩ ⟨hb.x0, hb.x1⟩ (by grobner))
    have e := Option.some.inj hs
    have hl : fi s * (fi a.x - fi b.x) = fi a.y - fi b.y := by
      rw [← e, fi_pMul, fi_pInv, fi_pSub, fi_pSub]
      have := inv_mul hne
      rw [show (fi a.y - fi b.y) * inv (fi a.x - fi b.x) * (fi a.x - fi b.x) = (fi a.y - fi b.y) * (inv (fi a.x - fi b.x) * (fi a.x - fi b.x)) by grobner, this]; grobner
    exact third_line es hl (chord_rel hne oa ob hl)
  · rw [if_neg hx] at hs
    by_cases hy : a.y ≠ b.y ∨ a.y = 0
    · rw [if_pos hy] at hs; cases hs
    · rw [if_neg hy] at hs
      have e := Option.some.inj hs
      have hy' : a.y = b.y ∧ a.y ≠ 0 := by omega
      have hne : 2 * fi a.y ≠ 0 := mul_ne two_ne (fun h => hy'.2 ((fi_zero_iff ⟨ha.y0, ha.y1⟩).mp h))
      have hl : fi s * (2 * fi a.y) = 3 * (fi a.x * fi a.x) + 1 := by
        rw [← e, fi_pMul, fi_pInv, fi_add, fi_pMul, fi_pMul, fi_mul]
        have h2 : fi 2 = 2 := rfl
        have h3 : fi 3 = 3 := rfl
        rw [h2, h3, fi_one]
        have := inv_mul hne
        rw [show (3 * (fi a.x * fi a.x) + 1) * inv (2 * fi a.y) * (2 * fi a.y) = (3 * (fi a.x * fi a.x) + 1) * (inv (2 * fi a.y) * (2 * fi a.y)) by grobner, this]; grobner
      have : b = a := Sp.ext' (Decidable.of_not_not hx).symm hy'.1.symm (fb.trans fa.symm)
      subst this
      exact third_line es (by grobner) (tangent_rel oa hl)
theorem slope_none {a b : Sp} (fa : a.far = false) (fb : b.far = false) (h : (sSum a b).far = false) : ∃ s, sSlope a b = some s := by
  cases e : sSlope a b with
  | none => exfalso; unfold sSum at h; rw [fa, fb, e] at h; cases h
  | some s => exact ⟨s, rfl⟩
/-- A line's value, as the program reckons it. -/
def zLine (a b t : Sp) : Z := match sSlope a b with
  | none => .one
  | some s => ⟨fi s * (fi t.x + fi a.x) - fi a.y, fi t.y⟩
theorem zLine_lv {a b t : Sp} {s : Int} (h : sSlope a b = some s) : zLine a b t = lv (fi s) (fi a.y - fi s * fi a.x) (fi t.x) (fi t.y) := by
  unfold zLine; rw [h]; exact Z.ext' (by simp only [lv]; grobner) rfl
/-- What one step of Miller's adds, of b, of c and of their sum. -/
theorem step_recip {a b T U : Sp} {s n : F} (hT : Ok T) (hU : Ok U) (fT : T.far = false) (fU : U.far = false) (fS : (sSum T U).far = false) (hl : LineOf a b s n) :
    ((zLine T U a).mul (zLine T U b)).mul (zLine T U (sSum a b)).conj =
      ((mv s n (fi T.x) (fi T.y)).mul (mv s n (fi U.x) (fi U.y))).mul (mv s n (fi (sSum T U).x) (fi (sSum T U).y)).conj := by
  obtain ⟨l, hs⟩ := slope_none fT fU fS
  have k := slope_line hT hU fT fU hs
  rw [zLine_lv hs, zLine_lv hs, zLine_lv hs, hl.ya, hl.yb, hl.yc, k.yb, k.yc]
  have := recip _ _ _ s n _ _ _ (fi l) (fi T.y - fi l * fi T.x) hl.e1 hl.e2 hl.e3 k.e1 k.e2 k.e3
  rw [this]
  have e : fi l * fi T.x + (fi T.y - fi l * fi T.x) = fi T.y := by grobner
  rw [e]
end Go.Proofs.YtfnifdmnbccblaaDoor
