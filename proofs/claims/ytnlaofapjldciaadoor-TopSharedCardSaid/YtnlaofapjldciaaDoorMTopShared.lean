/- Texts of this claim, in one. -/
import Derived.Test.YtnlaofapjldciaaDoorWb
import Derived.Test.YtnlaofapjldciaaDoorTw
import Derived.Test.YtnlaofapjldciaaDoorCyc
import Derived.Test.YtnlaofapjldciaaDoorSf
import Derived.Deep.DeepCutAuto
import Derived.Test.YtnlaofapjldciaaDoorFs
import Derived.Deep.RegionWith
import Derived.Test.YtnlaofapjldciaaDoorSn
import Derived.Test.YtnlaofapjldciaaDoorHa
import Derived.Test.YtnlaofapjldciaaDoorWs
import Derived.Test.YtnlaofapjldciaaDoorWl
import Derived.Test.YtnlaofapjldciaaDoorLf
import Derived.Test.YtnlaofapjldciaaDoorSe
import Derived.Test.YtnlaofapjldciaaDoorSpn
import Derived.Test.YtnlaofapjldciaaDoorSk
import Derived.Test.YtnlaofapjldciaaDoorOw
namespace Go.Proofs.YtnlaofapjldciaaDoor
open Go.RowKit
/-- A number of the greater field, as the program has it. -/
abbrev twR (z : Z) : Value := .agg #[.int .i64 (fz z.re), .int .i64 (fz z.im)]
set_option maxRecDepth 100000 in
set_option maxHeartbeats 400000 in
theorem twinMul_c (a b c d : Int) (w : World) : Calls Tryd.prog 128 #[.agg #[.int .i64 a, .int .i64 b], .agg #[.int .i64 c, .int .i64 d]] w fun e w' => e = .returned (twR ((zi a b).mul (zi c d))) ∧ Below w.heap.size w w' := by
  go_enter Tryd.func128, Tryd.ntmps128
  go_wp2
  refine wp_region_st 23 Tryd.mixed (by kernel_rfl) ?_
  simp only [List.take_succ_cons, List.take_zero, List.drop_succ_cons, List.drop_zero]
  repeat (first | still_step | still_call (stl (primeMul_c _ _ _)) | still_call (stl (primeSub_c _ _ _)) | still_call (stl (primeAdd_c _ _ _)) | still_call (stl (primeOf_c _ _)))
  refine wpStill_nil ?_
  rw [zmul_re, zmul_im]
  go_wp2
  refine bodyPost_ret (v := twR ((zi a b).mul (zi c d))) (by simp [results, Tryd.results128, go_sem]) rfl ⟨rfl, ?_⟩
  repeat (first | exact Below.refl _ _ | refine Below.drew ?_ | refine balloc ?_ _)
structure TwMem (w wr : World) (za zb oa ob : Int) : Prop where
  a0 : wr.cell? ⟨w.heap.size, 0, none⟩ = some (.int .i64 za)
  a1 : wr.cell? ⟨w.heap.size, 1, none⟩ = some (.int .i64 zb)
  o0 : wr.cell? ⟨w.heap.size + 1 + 1, 0, none⟩ = some (.int .i64 oa)
  o1 : wr.cell? ⟨w.heap.size + 1 + 1, 1, none⟩ = some (.int .i64 ob)
  r0 : wr.cell? ⟨w.heap.size + 1, 0, none⟩ = some (.int .i64 0)
  r1 : wr.cell? ⟨w.heap.size + 1, 1, none⟩ = some (.int .i64 0)
  fa0 : wr.frozen? ⟨w.heap.size, 0, none⟩ = false
  fa1 : wr.frozen? ⟨w.heap.size, 1, none⟩ = false
  fo0 : wr.frozen? ⟨w.heap.size + 1 + 1, 0, none⟩ = false
  fo1 : wr.frozen? ⟨w.heap.size + 1 + 1, 1, none⟩ = false
  fr0 : wr.frozen? ⟨w.heap.size + 1, 0, none⟩ = false
  fr1 : wr.frozen? ⟨w.heap.size + 1, 1, none⟩ = false
  sz : w.heap.size + 1 + 1 < wr.heap.size
  bel : Below w.heap.size w wr
theorem TwMem.below {w wr w1 : World} {za zb oa ob : Int} (h : TwMem w wr za zb oa ob) (hb : Below wr.heap.size wr w1) : TwMem w w1 za zb oa ob := by
  obtain ⟨a0, a1, o0, o1, r0, r1, fa0, fa1, fo0, fo1, fr0, fr1, hsz, hbel⟩ := h
  obtain ⟨hc, hf⟩ := bcell hb
  have := hb.size
  exact ⟨(hc _ _ (by omega)).trans a0, (hc _ _ (by omega)).trans a1, (hc _ _ (by omega)).trans o0, (hc _ _ (by omega)).trans o1, (hc _ _ (by omega)).trans r0, (hc _ _ (by omega)).trans r1,
    (hf _ _ (by omega)).trans fa0, (hf _ _ (by omega)).trans fa1, (hf _ _ (by omega)).trans fo0, (hf _ _ (by omega)).trans fo1, (hf _ _ (by omega)).trans fr0, (hf _ _ (by omega)).trans fr1, by omega, hbel.trans (hb.mono hbel.size)⟩
theorem set2_cell {w : World} {b : Nat} {u v x y : Value} (h0 : w.cell? ⟨b, 0, none⟩ = some u) (h1 : w.cell? ⟨b, 1, none⟩ = some v) :
    ((w.setCell ⟨b, 0, none⟩ x).setCell ⟨b, 1, none⟩ y).cell? ⟨b, 0, none⟩ = some x ∧ ((w.setCell ⟨b, 0, none⟩ x).setCell ⟨b, 1, none⟩ y).cell? ⟨b, 1, none⟩ = some y := by
  constructor
  · rw [World.cell?_setCell_other (h := by simp)]; exact World.cell?_setCell_same _ _ _ h0
  · exact World.cell?_setCell_same _ _ _ (by rw [World.cell?_setCell_other (h := by simp)]; exact h1)
theorem set2_other {w : World} {b c k : Nat} {x y : Value} (h : b ≠ c) : ((w.setCell ⟨b, 0, none⟩ x).setCell ⟨b, 1, none⟩ y).cell? ⟨c, k, none⟩ = w.cell? ⟨c, k, none⟩ := by
  rw [World.cell?_setCell_other (h := fun e => h (congrArg Addr.block e)), World.cell?_setCell_other (h := fun e => h (congrArg Addr.block e))]
theorem set2_below {B : Nat} {a w : World} {b : Nat} {x y : Value} (h : Below B a w) (hb : B ≤ b) : Below B a ((w.setCell ⟨b, 0, none⟩ x).setCell ⟨b, 1, none⟩ y) := (h.setCell hb x).setCell hb y
theorem set2_size {w : World} {b : Nat} {x y : Value} : ((w.setCell ⟨b, 0, none⟩ x).setCell ⟨b, 1, none⟩ y).heap.size = w.heap.size := by simp [World.setCell]
theorem TwMem.setO {w wr : World} {za zb oa ob x y : Int} (h : TwMem w wr za zb oa ob) : TwMem w ((wr.setCell ⟨w.heap.size + 1 + 1, 0, none⟩ (.int .i64 x)).setCell ⟨w.heap.size + 1 + 1, 1, none⟩ (.int .i64 y)) za zb x y := by
  obtain ⟨a0, a1, o0, o1, r0, r1, fa0, fa1, fo0, fo1, fr0, fr1, hsz, hbel⟩ := h
  have k := set2_cell (x := .int .i64 x) (y := .int .i64 y) o0 o1
  refine ⟨?_, ?_, k.1, k.2, ?_, ?_, ?_, ?_, ?_, ?_, ?_, ?_, by rw [set2_size]; exact hsz, set2_below hbel (by omega)⟩
  · rw [set2_other (by omega)]; exact a0
  · rw [set2_other (by omega)]; exact a1
  · rw [set2_other (by omega)]; exact r0
  · rw [set2_other (by omega)]; exact r1
  all_goals simp only [World.frozen?_setCell]; assumption
theorem TwMem.setA {w wr : World} {za zb oa ob x y : Int} (h : TwMem w wr za zb oa ob) : TwMem w ((wr.setCell ⟨w.heap.size, 0, none⟩ (.int .i64 x)).setCell ⟨w.heap.size, 1, none⟩ (.int .i64 y)) x y oa ob := by
  obtain ⟨a0, a1, o0, o1, r0, r1, fa0, fa1, fo0, fo1, fr0, fr1, hsz, hbel⟩ := h
  have k := set2_cell (x := .int .i64 x) (y := .int .i64 y) a0 a1
  refine ⟨k.1, k.2, ?_, ?_, ?_, ?_, ?_, ?_, ?_, ?_, ?_, ?_, by rw [set2_size]; exact hsz, set2_below hbel (by omega)⟩
  · rw [set2_other (by omega)]; exact o0
  · rw [set2_other (by omega)]; exact o1
  · rw [set2_other (by omega)]; exact r0
  · rw [set2_other (by omega)]; exact r1
  all_goals simp only [World.frozen?_setCell]; assumption
theorem TwMem.start (w : World) (a b : Int) : TwMem w (((w.alloc (.cells #[.int .i64 a, .int .i64 b] 102)).alloc (.cells #[.int .i64 0, .int .i64 0] 102)).alloc (.cells #[.int .i64 1, .int .i64 0] 102)) a b 1 0 := by
  refine ⟨?_, ?_, ?_, ?_, ?_, ?_, ?_, ?_, ?_, ?_, ?_, ?_, ?_, balloc (balloc (below_alloc _ _) _) _⟩
  all_goals go_simp
set_option maxRecDepth 100000 in
set_option maxHeartbeats 1000000 in
theorem twinPower_c (a b n : Int) (w : World) (hn : 0 ≤ n) (hm : n ≤ 9223372036854775807) : Calls Tryd.prog 147 #[.agg #[.int .i64 a, .int .i64 b], .int .i64 n] w fun e w' => e = .returned (twR ((zi a b).pow n.toNat)) ∧ Below w.heap.size w w' := by
  go_enter Tryd.func147, Tryd.ntmps147
  go_wp2
  go_loopw [1] (fun m wr => ∃ (n' : Int) (z o : Z) (za zb : Int), m = .int .i64 n' ∧ ZAt ((zi a b).pow n.toNat) z o n' ∧ TwMem w wr za zb (fz o.re) (fz o.im) ∧ Hid (zi za zb = z)) (fun m _ => (intOf m).toNat)
  case atStart =>
    exact ⟨n, zi a b, .one, a, b, rfl, zAt_start _ _ hn hm, TwMem.start w a b, rfl⟩
  case round =>
    obtain ⟨n', z, o, za, zb, rfl, h, hm0, hz⟩ := hrel
    have h1 := (zAt_bd h).1
    have h2 := (zAt_bd h).2
    have hm' := hm0
    obtain ⟨a0, a1, o0, o1, r0, r1, fa0, fa1, fo0, fo1, fr0, fr1, hsz, hbel⟩ := hm'
    by_cases hpos : 0 < n'
    · by_cases hodd : n' % 2 = 1
      · have hb1 : (bits BinOp.and IntKind.i64 n' 1 == 1) = true := by rw [and_one64 n' h1 h2]; simpa using hodd
        go_wp2_with fail
        refine (twinMul_c _ _ _ _ _).mono ?_; rintro e w1 ⟨rfl, hb⟩
        have hm1 := hm0.below hb
        clear hm0 a0 a1 o0 o1 r0 r1 fa0 fa1 fo0 fo1 fr0 fr1 hsz hbel hb
        have hm2 := hm1
        obtain ⟨a0, a1, o0, o1, r0, r1, fa0, fa1, fo0, fo1, fr0, fr1, hsz, hbel⟩ := hm2
        go_wp2_with fail
        refine (twinMul_c _ _ _ _ _).mono ?_; rintro e w2 ⟨rfl, hb2⟩
        have hm3 := (hm1.setO (x := fz ((zi (fz o.re) (fz o.im)).mul (zi za zb)).re) (y := fz ((zi (fz o.re) (fz o.im)).mul (zi za zb)).im)).below hb2
        clear hm1 a0 a1 o0 o1 r0 r1 fa0 fa1 fo0 fo1 fr0 fr1 hsz hbel hb2
        have hm4 := hm3
        obtain ⟨a0, a1, o0, o1, r0, r1, fa0, fa1, fo0, fo1, fr0, fr1, hsz, hbel⟩ := hm4
        go_wp2
        clear a0 a1 o0 o1 r0 r1 fa0 fa1 fo0 fo1 fr0 fr1 hsz hbel
        have hz' := hz.out
        rw [zi_fz, hz'] at hm3
        rw [hz']
        go_roundw
        case rel => exact ⟨n' / 2, z.mul z, o.mul z, _, _, rfl, zAt_odd h hodd, hm3.setA, zi_fz _⟩
        case measure => simp [intOf]; omega
      · have hb1 : (bits BinOp.and IntKind.i64 n' 1 == 1) = false := by rw [and_one64 n' h1 h2]; simpa using hodd
        go_wp2_with fail
        refine (twinMul_c _ _ _ _ _).mono ?_; rintro e w2 ⟨rfl, hb2⟩
        have hm3 := hm0.below hb2
        clear hm0 a0 a1 o0 o1 r0 r1 fa0 fa1 fo0 fo1 fr0 fr1 hsz hbel hb2
        have hm4 := hm3
        obtain ⟨a0, a1, o0, o1, r0, r1, fa0, fa1, fo0, fo1, fr0, fr1, hsz, hbel⟩ := hm4
        go_wp2
        clear a0 a1 o0 o1 r0 r1 fa0 fa1 fo0 fo1 fr0 fr1 hsz hbel
        have hz' := hz.out
        rw [hz']
        go_roundw
        case rel => exact ⟨n' / 2, z.mul z, o, _, _, rfl, zAt_even h (by omega), hm3.setA, zi_fz _⟩
        case measure => simp [intOf]; omega
    · have ho := Lib.hid (zAt_end h (by omega))
      go_wp2
      have k := set2_cell (x := .int .i64 (fz o.re)) (y := .int .i64 (fz o.im)) r0 r1
      have ho := ho.out
      refine bodyPost_ret (v := twR o) (by simp [results, Tryd.results147, go_sem, k.1, k.2]) rfl ⟨by rw [ho], ?_⟩
      exact set2_below hbel (by omega)
end Go.Proofs.YtnlaofapjldciaaDoor
namespace Go.Proofs.YtnlaofapjldciaaDoor
open Go.RowKit
end Go.Proofs.YtnlaofapjldciaaDoor
namespace Go.Proofs.YtnlaofapjldciaaDoor
theorem recip_prod (x1 x2 x3 e1 e2 e3 a b c d : F) (h1 : x1+x2+x3 = e1) (h2 : x1*x2+x1*x3+x2*x3 = e2) (h3 : x1*x2*x3 = e3) :
    ((Z.mk (a*x1-c) (b*x1-d)).mul (Z.mk (a*x2-c) (b*x2-d))).mul (Z.mk (a*x3-c) (b*x3-d)) =
      ⟨(a*(a*a-b*b) - b*(2*a*b))*e3 - ((a*a-b*b)*c-2*a*b*d)*e2 + (a*(c*c-d*d) - b*(2*c*d))*e1 - (c*(c*c-d*d)-d*(2*c*d)),
       (a*(2*a*b)+b*(a*a-b*b))*e3 - ((a*a-b*b)*d+2*a*b*c)*e2 + (a*(2*c*d)+b*(c*c-d*d))*e1 - (c*(2*c*d)+d*(c*c-d*d))⟩ := by
  subst h1 h2 h3
  apply Z.ext'
  · simp only [Z.mul]; grobner
  · simp only [Z.mul]; grobner
/-- The value of a line with slope l, over the field, at the turned place of (x, y); of one with slope s, among the turned ones, at (t, u). -/
def lv (l v x y : F) : Z := ⟨l * x - v, y⟩
def mv (s n t u : F) : Z := ⟨u, s * t - n⟩
theorem recip (x1 x2 x3 s n t1 t2 t3 l v : F) (h1 : x1+x2+x3 = s*s) (h2 : x1*x2+x1*x3+x2*x3 = 1-2*s*n) (h3 : x1*x2*x3 = n*n)
    (k1 : t1+t2+t3 = l*l) (k2 : t1*t2+t1*t3+t2*t3 = 1-2*l*v) (k3 : t1*t2*t3 = v*v) :
    ((lv l v x1 (s*x1+n)).mul (lv l v x2 (s*x2+n))).mul (lv l v x3 (-(s*x3+n))).conj = ((mv s n t1 (l*t1+v)).mul (mv s n t2 (l*t2+v))).mul (mv s n t3 (-(l*t3+v))).conj := by
  have a := recip_prod x1 x2 x3 _ _ _ l s v (-n) h1 h2 h3
  have b := recip_prod t1 t2 t3 _ _ _ l s (-v) n k1 k2 k3
  have ea : ∀ x : F, lv l v x (s*x+n) = Z.mk (l*x-v) (s*x- -n) := fun x => Z.ext' rfl (by simp only [lv]; grobner)
  have ea3 : (lv l v x3 (-(s*x3+n))).conj = Z.mk (l*x3-v) (s*x3- -n) := Z.ext' rfl (by simp only [lv, Z.conj]; grobner)
  have eb : ∀ t : F, mv s n t (l*t+v) = Z.mk (l*t- -v) (s*t-n) := fun t => Z.ext' (by simp only [mv]; grobner) rfl
  have eb3 : (mv s n t3 (-(l*t3+v))).conj = (Z.of (-1)).mul (Z.mk (l*t3- -v) (s*t3-n)) := Z.ext' (by simp only [mv, Z.conj, Z.of, Z.mul]; grobner) (by simp only [mv, Z.conj, Z.of, Z.mul]; grobner)
  rw [ea x1, ea x2, ea3, a, eb, eb, eb3, Z.mul_left_comm, b]
  clear a b ea ea3 eb eb3 h1 h2 h3 k1 k2 k3
  apply Z.ext'
  · simp only [Z.mul, Z.of]; grobner
  · simp only [Z.mul, Z.of]; grobner
/-- What a slope says of two spots and their sum. -/
structure LineOf (a b : Sp) (l v : F) : Prop where
  ya : fi a.y = l * fi a.x + v
  yb : fi b.y = l * fi b.x + v
  yc : fi (sSum a b).y = -(l * fi (sSum a b).x + v)
  far : (sSum a b).far = false
  e1 : fi a.x + fi b.x + fi (sSum a b).x = l * l
  e2 : fi a.x * fi b.x + fi a.x * fi (sSum a b).x + fi b.x * fi (sSum a b).x = 1 - 2 * l * v
  e3 : fi a.x * fi b.x * fi (sSum a b).x = v * v
theorem third_line {a b : Sp} {s : Int} (hs : sSum a b = sThird a b s) (hl : fi s * (fi a.x - fi b.x) = fi a.y - fi b.y)
    (h : fi a.x*fi b.x+fi a.x*(fi s*fi s-(fi a.x+fi b.x))+fi b.x*(fi s*fi s-(fi a.x+fi b.x)) = 1-2*fi s*(fi a.y-fi s*fi a.x) ∧ fi a.x*fi b.x*(fi s*fi s-(fi a.x+fi b.x)) = (fi a.y-fi s*fi a.x)*(fi a.y-fi s*fi a.x)) :
    LineOf a b (fi s) (fi a.y - fi s * fi a.x) := by
  have ex : fi (sThird a b s).x = fi s*fi s-(fi a.x+fi b.x) := by
    show fi (pSub (pMul s s) (a.x + b.x)) = _
    rw [fi_pSub, fi_pMul, fi_add]
  have ey : fi (sThird a b s).y = -(fi s * (fi s*fi s-(fi a.x+fi b.x)) + (fi a.y - fi s * fi a.x)) := by
    show fi (pSub (pMul s (pSub a.x (sThird a b s).x)) a.y) = _
    rw [fi_pSub, fi_pMul, fi_pSub, ex]; grobner
  refine ⟨by grobner, by grobner, by rw [hs, ex, ey], by rw [hs]; rfl, by rw [hs, ex]; grobner, by rw [hs, ex]; exact h.1, by rw [hs, ex]; exact h.2⟩
theorem slope_line {a b : Sp} {s : Int} (ha : Ok a) (hb : Ok b) (fa : a.far = false) (fb : b.far = false) (hs : sSlope a b = some s) :
    LineOf a b (fi s) (fi a.y - fi s * fi a.x) := by
  have es : sSum a b = sThird a b s := by unfold sSum; rw [fa, fb, hs]; rfl
  have oa := ha.on fa; have ob := hb.on fb
  unfold sSlope at hs
  by_cases hx : a.x ≠ b.x
  · rw [if_pos hx] at hs
    have hne : fi a.x - fi b.x ≠ 0 := fun h => hx (fi_inj ⟨ha.x0, ha.x1⟩ ⟨hb.x0, hb.x1⟩ (by grobner))
    have e := Option.some.inj hs
    have hl : fi s * (fi a.x - fi b.x) = fi a.y - fi b.y := by
      rw [← e, fi_pMul, fi_pInv, fi_pSub, fi_pSub]
      have := inv_mul hne
      rw [show (fi a.y - fi b.y) * inv (fi a.x - fi b.x) * (fi a.x - fi b.x) = (fi a.y - fi b.y) * (inv (fi a.x - fi b.x) * (fi a.x - fi b.x)) by grobner, this]; grobner
    exact third_line es hl (chord_rel hne oa ob hl)
  · rw [if_neg hx] at hs
    by_cases hy : a.y ≠ b.y ∨ a.y = 0
    · rw [if_pos hy] at hs; cases hs
    · rw [if_neg hy] at hs
      have e := Option.some.inj hs
      have hy' : a.y = b.y ∧ a.y ≠ 0 := by omega
      have hne : 2 * fi a.y ≠ 0 := mul_ne two_ne (fun h => hy'.2 ((fi_zero_iff ⟨ha.y0, ha.y1⟩).mp h))
      have hl : fi s * (2 * fi a.y) = 3 * (fi a.x * fi a.x) + 1 := by
        rw [← e, fi_pMul, fi_pInv, fi_add, fi_pMul, fi_pMul, fi_mul]
        have h2 : fi 2 = 2 := rfl
        have h3 : fi 3 = 3 := rfl
        rw [h2, h3, fi_one]
        have := inv_mul hne
        rw [show (3 * (fi a.x * fi a.x) + 1) * inv (2 * fi a.y) * (2 * fi a.y) = (3 * (fi a.x * fi a.x) + 1) * (inv (2 * fi a.y) * (2 * fi a.y)) by grobner, this]; grobner
      have : b = a := Sp.ext' (Decidable.of_not_not hx).symm hy'.1.symm (fb.trans fa.symm)
      subst this
      exact third_line es (by grobner) (tangent_rel oa hl)
theorem slope_none {a b : Sp} (fa : a.far = false) (fb : b.far = false) (h : (sSum a b).far = false) : ∃ s, sSlope a b = some s := by
  cases e : sSlope a b with
  | none => exfalso; unfold sSum at h; rw [fa, fb, e] at h; cases h
  | some s => exact ⟨s, rfl⟩
/-- A line's value, as the program reckons it. -/
def zLine (a b t : Sp) : Z := match sSlope a b with
  | none => .one
  | some s => ⟨fi s * (fi t.x + fi a.x) - fi a.y, fi t.y⟩
theorem zLine_lv {a b t : Sp} {s : Int} (h : sSlope a b = some s) : zLine a b t = lv (fi s) (fi a.y - fi s * fi a.x) (fi t.x) (fi t.y) := by
  unfold zLine; rw [h]; exact Z.ext' (by simp only [lv]; grobner) rfl
/-- What one step of Miller's adds, of b, of c and of their sum. -/
theorem step_recip {a b T U : Sp} {s n : F} (hT : Ok T) (hU : Ok U) (fT : T.far = false) (fU : U.far = false) (fS : (sSum T U).far = false) (hl : LineOf a b s n) :
    ((zLine T U a).mul (zLine T U b)).mul (zLine T U (sSum a b)).conj =
      ((mv s n (fi T.x) (fi T.y)).mul (mv s n (fi U.x) (fi U.y))).mul (mv s n (fi (sSum T U).x) (fi (sSum T U).y)).conj := by
  obtain ⟨l, hs⟩ := slope_none fT fU fS
  have k := slope_line hT hU fT fU hs
  rw [zLine_lv hs, zLine_lv hs, zLine_lv hs, hl.ya, hl.yb, hl.yc, k.yb, k.yc]
  have := recip _ _ _ s n _ _ _ (fi l) (fi T.y - fi l * fi T.x) hl.e1 hl.e2 hl.e3 k.e1 k.e2 k.e3
  rw [this]
  have e : fi l * fi T.x + (fi T.y - fi l * fi T.x) = fi T.y := by grobner
  rw [e]
end Go.Proofs.YtnlaofapjldciaaDoor
namespace Go.Proofs.YtnlaofapjldciaaDoor
/-- One step: false: the number is squared, times the line that touches, the spot doubled; true: times the line through the spot and a, which is added. -/
def mstep (a b : Sp) (st : Z × Sp) (o : Bool) : Z × Sp :=
  if o then (st.1.mul (zLine st.2 a b), sSum st.2 a) else ((st.1.mul st.1).mul (zLine st.2 st.2 b), sSum st.2 st.2)
def mrun (a b : Sp) (ops : List Bool) : Z × Sp := ops.foldl (mstep a b) (.one, a)
def cstep (k : Nat) (o : Bool) : Nat := if o then k + 1 else k + k
/-- All that is met on the way is below 1013. -/
def cgood : Nat → List Bool → Bool
  | k, [] => Nat.beq k 1012
  | k, o :: l => Nat.ble (cstep k o) 1012 && cgood (cstep k o) l
theorem fi_y_ne {s : Sp} (h : Ok s) (hf : s.far = false) (h2 : (sSum s s).far = false) : fi s.y ≠ 0 := fun e => by
  have hy := (fi_zero_iff ⟨h.y0, h.y1⟩).mp e
  have : sSlope s s = none := by unfold sSlope; rw [if_neg (by simp), if_pos (Or.inr hy)]
  unfold sSum at h2; rw [hf, this] at h2; cases h2
theorem sq_far_false {a : Int} : (sq a).far = false ↔ a % 4052 ≠ 0 := by
  have := @sq_far a
  cases h : (sq a).far
  · rw [h] at this; simp at this; simp [this]
  · rw [h] at this; simp at this; simp [this]
theorem of_swap (r : F) (a b : Z) : (a.mul (.of r)).mul b = (Z.of r).mul (a.mul b) := by rw [Z.mul_comm a, Z.mul_assoc]
theorem norm_mv {s n t u : F} (h : u ≠ 0) : (mv s n t u).norm ≠ 0 := fun e => h (Z.norm_zero e).1
section
variable (i : Int) (b c : Sp) (s n : F)
/-- The value at so many times the first spot. -/
def mk' (k : Nat) : Z := mv s n (fi (sq (4 * i * k)).x) (fi (sq (4 * i * k)).y)
theorem mul_i_ne {i k : Int} (hi : i % 1013 ≠ 0) (h1 : 1 ≤ k) (h2 : k ≤ 1012) : (4 * i * k) % 4052 ≠ 0 := by
  intro h
  have h4 : (4 * (i * k)) % (4 * 1013) = 0 := by rw [← Int.mul_assoc]; exact h
  rw [Int.mul_emod_mul_of_pos _ _ (by decide)] at h4
  have h3 : (i * k) % 1013 = 0 := by omega
  have d : 1013 ∣ i.natAbs * k.natAbs := by rw [← Int.natAbs_mul]; exact Int.natAbs_dvd_natAbs.mpr (Int.dvd_of_emod_eq_zero h3)
  have p : Nat.Coprime 1013 k.natAbs := by
    have g : ∀ m : Nat, m < 1012 → Nat.gcd 1013 (m + 1) = 1 := by decide +kernel
    have e : k.natAbs = (k.natAbs - 1) + 1 := by omega
    unfold Nat.Coprime; rw [e]; exact g _ (by omega)
  have := Nat.Coprime.dvd_of_dvd_mul_right p d
  exact hi (by omega)
theorem far_k {i : Int} {k : Nat} (hi : i % 1013 ≠ 0) (h1 : 1 ≤ k) (h2 : k ≤ 1012) : (sq (4 * i * k)).far = false :=
  sq_far_false.mpr (mul_i_ne hi (by omega) (by omega))
theorem y_k {i : Int} {k : Nat} (hi : i % 1013 ≠ 0) (h1 : 1 ≤ k) (h2 : k ≤ 1012) : fi (sq (4 * i * k)).y ≠ 0 := by
  refine fi_y_ne (sq_ok _) (far_k hi h1 h2) ?_
  rw [sq_add]
  refine sq_far_false.mpr fun h => ?_
  have h3 := mul_i_ne (i := i) (k := k) hi (by omega) (by omega)
  rw [Int.mul_assoc] at h h3
  generalize i * (k : Int) = m at *
  omega
def Good (k : Nat) (fb fc fd : Z) : Prop := ∃ r : F, r ≠ 0 ∧ (fb.mul fc).mul fd.conj = (Z.of r).mul (((mk' i s n 1).pow k).mul (mk' i s n k).conj)
theorem good_start (hi : i % 1013 ≠ 0) : Good i s n 1 .one .one .one := by
  refine ⟨inv (mk' i s n 1).norm, fun h => ?_, ?_⟩
  · have := mul_inv (norm_mv (s := s) (n := n) (t := fi (sq (4 * i * (1 : Nat))).x) (y_k (k := 1) hi (by decide) (by decide)))
    have e : (mk' i s n 1).norm * inv (mk' i s n 1).norm = 1 := this
    rw [h] at e; exact one_ne (by rw [← e]; grobner)
  · have h1 : ((mk' i s n 1).pow 1).mul (mk' i s n 1).conj = .of (mk' i s n 1).norm := by
      rw [← Z.mul_conj, Z.pow_one]
    have e : inv (mk' i s n 1).norm * (mk' i s n 1).norm = 1 := inv_mul (norm_mv (y_k (k := 1) hi (by decide) (by decide)))
    rw [h1, Z.of_mul, e]
    exact Z.ext' (by decide) (by decide)
instance : Std.Associative Z.mul := ⟨Z.mul_assoc⟩
instance : Std.Commutative Z.mul := ⟨Z.mul_comm⟩
theorem dbl_alg (a b c x y z : Z) : (((a.mul a).mul x).mul ((b.mul b).mul y)).mul ((c.mul c).mul z) = (((a.mul b).mul c).mul ((a.mul b).mul c)).mul ((x.mul y).mul z) := by ac_rfl
theorem add_alg (a b c x y z : Z) : ((a.mul x).mul (b.mul y)).mul (c.mul z) = ((a.mul b).mul c).mul ((x.mul y).mul z) := by ac_rfl
theorem dbl_alg2 (r p t u v : Z) : ((r.mul (p.mul u)).mul (r.mul (p.mul u))).mul ((t.mul t).mul v) = ((r.mul r).mul ((t.mul u).mul (t.mul u))).mul ((p.mul p).mul v) := by ac_rfl
theorem add_alg2 (r p m t u v : Z) : (r.mul (p.mul u)).mul ((t.mul m).mul v) = (r.mul (t.mul u)).mul ((p.mul m).mul v) := by ac_rfl
theorem good_step {i : Int} {b c : Sp} {s n : F} (hi : i % 1013 ≠ 0) (hl : LineOf b c s n) {k : Nat} {o : Bool} (h1 : 1 ≤ k) (hk : k ≤ 1012) (h2 : cstep k o ≤ 1012) {fb fc fd : Z} (h : Good i s n k fb fc fd) :
    Good i s n (cstep k o) (mstep (sq (4 * i)) b (fb, sq (4 * i * k)) o).1 (mstep (sq (4 * i)) c (fc, sq (4 * i * k)) o).1 (mstep (sq (4 * i)) (sSum b c) (fd, sq (4 * i * k)) o).1 := by
  obtain ⟨r, hr, h⟩ := h
  have hn : (mk' i s n k).norm ≠ 0 := norm_mv (y_k hi h1 hk)
  have hc : (mk' i s n k).mul (mk' i s n k).conj = .of (mk' i s n k).norm := Z.mul_conj _
  cases o
  · simp only [cstep, Bool.false_eq_true, if_false] at h2
    have e : sSum (sq (4 * i * k)) (sq (4 * i * k)) = sq (4 * i * ((k + k : Nat) : Int)) := by rw [sq_add]; congr 1; rw [Int.natCast_add, Int.mul_add]
    have st := step_recip (sq_ok _) (sq_ok _) (far_k hi h1 hk) (far_k hi h1 hk) (by rw [e]; exact far_k hi (by omega) h2) hl
    rw [e] at st
    refine ⟨r * r * ((mk' i s n k).norm * (mk' i s n k).norm), mul_ne (mul_ne hr hr) (mul_ne hn hn), ?_⟩
    simp only [mstep, cstep, Bool.false_eq_true, if_false]
    rw [Z.conj_mul, Z.conj_mul, dbl_alg, h, st]
    show (((Z.of r).mul (((mk' i s n 1).pow k).mul (mk' i s n k).conj)).mul ((Z.of r).mul (((mk' i s n 1).pow k).mul (mk' i s n k).conj))).mul (((mk' i s n k).mul (mk' i s n k)).mul (mk' i s n (k + k)).conj) = _
    rw [dbl_alg2, hc, Z.of_mul, Z.of_mul, Z.of_mul, Z.pow_add]
  · simp only [cstep, if_true] at h2
    have e : sSum (sq (4 * i * k)) (sq (4 * i)) = sq (4 * i * ((k + 1 : Nat) : Int)) := by rw [sq_add]; congr 1; rw [Int.natCast_add, Int.mul_add]; simp
    have e1 : sq (4 * i) = sq (4 * i * (1 : Nat)) := by congr 1; simp
    have st := step_recip (sq_ok _) (sq_ok (4 * i)) (far_k hi h1 hk) (by rw [e1]; exact far_k hi (by decide) (by decide)) (by rw [e]; exact far_k hi (by omega) h2) hl
    rw [e] at st
    refine ⟨r * (mk' i s n k).norm, mul_ne hr hn, ?_⟩
    simp only [mstep, cstep, if_true]
    rw [Z.conj_mul, add_alg, h, st]
    have em : mv s n (fi (sq (4 * i)).x) (fi (sq (4 * i)).y) = mk' i s n 1 := by unfold mk'; rw [← e1]
    rw [em]
    show ((Z.of r).mul (((mk' i s n 1).pow k).mul (mk' i s n k).conj)).mul (((mk' i s n k).mul (mk' i s n 1)).mul (mk' i s n (k + 1)).conj) = _
    rw [add_alg2, hc, Z.of_mul, ← Z.pow_succ]
theorem cstep_ge {k : Nat} {o : Bool} (h : 1 ≤ k) : 1 ≤ cstep k o := by cases o <;> simp only [cstep] <;> simp <;> omega
theorem mstep_sp {i : Int} {b : Sp} {f : Z} {k : Nat} {o : Bool} : (mstep (sq (4 * i)) b (f, sq (4 * i * k)) o).2 = sq (4 * i * (cstep k o : Nat)) := by
  cases o
  · simp only [mstep, cstep, Bool.false_eq_true, if_false]; rw [sq_add]; congr 1; rw [Int.natCast_add, Int.mul_add]
  · simp only [mstep, cstep, if_true]; rw [sq_add]; congr 1; rw [Int.natCast_add, Int.mul_add]; simp
theorem good_run {i : Int} {b c : Sp} {s n : F} (hi : i % 1013 ≠ 0) (hl : LineOf b c s n) : ∀ (ops : List Bool) (k : Nat) (fb fc fd : Z), 1 ≤ k → k ≤ 1012 → cgood k ops = true → Good i s n k fb fc fd →
    Good i s n 1012 (ops.foldl (mstep (sq (4 * i)) b) (fb, sq (4 * i * k))).1 (ops.foldl (mstep (sq (4 * i)) c) (fc, sq (4 * i * k))).1 (ops.foldl (mstep (sq (4 * i)) (sSum b c)) (fd, sq (4 * i * k))).1
  | [], k, fb, fc, fd, _, _, hg, h => by
    simp only [cgood, Nat.beq_eq] at hg; subst hg; exact h
  | o :: l, k, fb, fc, fd, h1, hk, hg, h => by
    simp only [cgood, Bool.and_eq_true, Nat.ble_eq] at hg
    have g := good_step hi hl h1 hk hg.1 h
    have r := good_run hi hl l (cstep k o) _ _ _ (cstep_ge h1) hg.1 hg.2 g
    simp only [List.foldl_cons]
    have pe : ∀ (x : Sp) (f : Z), mstep (sq (4 * i)) x (f, sq (4 * i * k)) o = ((mstep (sq (4 * i)) x (f, sq (4 * i * k)) o).1, sq (4 * i * (cstep k o : Nat))) := fun x f => Prod.ext rfl mstep_sp
    rw [pe b, pe c, pe (sSum b c)]
    exact r
def e16200 : Nat := 4050 * 4
theorem ppow_add (a : F) (m : Nat) : ∀ n, a ^ (m + n) = a ^ m * a ^ n
  | 0 => by grobner
  | n+1 => by
    have h1 : a ^ (m + (n + 1)) = a ^ (m + n) * a := by rw [← Nat.add_assoc]; grobner
    have h2 : a ^ (n + 1) = a ^ n * a := by grobner
    rw [h1, h2, ppow_add a m n]; grobner
theorem ppow_mul (a : F) (m : Nat) : ∀ n, a ^ (m * n) = (a ^ m) ^ n
  | 0 => by rw [Nat.mul_zero]; grobner
  | n+1 => by
    have h2 : (a ^ m) ^ (n + 1) = (a ^ m) ^ n * a ^ m := by grobner
    rw [Nat.mul_succ, ppow_add, h2, ppow_mul a m n]
theorem pone_pow : ∀ n : Nat, (1 : F) ^ n = 1
  | 0 => by grobner
  | n+1 => by have : (1 : F) ^ (n+1) = 1 ^ n * 1 := by grobner
              rw [this, pone_pow n]; grobner
theorem pof_e {r : F} (h : r ≠ 0) : (Z.of r).pow e16200 = .one := by
  rw [Z.of_pow, show e16200 = (eInv + 1) * 4 from rfl, ppow_mul, fpow_inv h, pone_pow]; rfl
theorem whole_e {z : Z} (h : z.norm ≠ 0) : (z.pow 1013).pow e16200 = .one := by
  rw [← Z.pow_mul, show 1013 * e16200 = eNorm * (eInv + 1) from rfl, Z.pow_mul, frob_norm, Z.of_pow, fpow_inv h]; rfl
theorem conj_e {z : Z} (h : z.norm ≠ 0) : (z.pow e16200).mul (z.pow e16200).conj = .one := by
  rw [Z.mul_conj, Z.norm_pow, show e16200 = (eInv + 1) * 4 from rfl, ppow_mul, fpow_inv h, pone_pow]; rfl
end
end Go.Proofs.YtnlaofapjldciaaDoor
namespace Go.Proofs.YtnlaofapjldciaaDoor
attribute [local semireducible] Z.pow
theorem norm_one : Z.one.norm = 1 := by decide
theorem norm_line {a b t : Sp} (h : fi t.y ≠ 0) : (zLine a b t).norm ≠ 0 := by
  unfold zLine
  split
  · rw [norm_one]; decide
  · exact fun e => h (Z.norm_zero e).2
theorem norm_mstep {a b : Sp} (h : fi b.y ≠ 0) {st : Z × Sp} (hs : st.1.norm ≠ 0) (o : Bool) : (mstep a b st o).1.norm ≠ 0 := by
  cases o
  · simp only [mstep, Bool.false_eq_true, if_false]; rw [Z.norm_mul, Z.norm_mul]; exact mul_ne (mul_ne hs hs) (norm_line h)
  · simp only [mstep, if_true]; rw [Z.norm_mul]; exact mul_ne hs (norm_line h)
theorem norm_run {a b : Sp} (h : fi b.y ≠ 0) : ∀ (ops : List Bool) (st : Z × Sp), st.1.norm ≠ 0 → (ops.foldl (mstep a b) st).1.norm ≠ 0
  | [], _, hs => hs
  | o :: l, st, hs => by rw [List.foldl_cons]; exact norm_run h l _ (norm_mstep h hs o)
theorem run_sp {i : Int} {b : Sp} : ∀ (ops : List Bool) (k : Nat) (f : Z), cgood k ops = true → (ops.foldl (mstep (sq (4 * i)) b) (f, sq (4 * i * k))).2 = sq (4 * i * (1012 : Nat))
  | [], k, f, hg => by simp only [cgood, Nat.beq_eq] at hg; subst hg; rfl
  | o :: l, k, f, hg => by
    simp only [cgood, Bool.and_eq_true] at hg
    rw [List.foldl_cons, show mstep (sq (4 * i)) b (f, sq (4 * i * k)) o = ((mstep (sq (4 * i)) b (f, sq (4 * i * k)) o).1, sq (4 * i * (cstep k o : Nat))) from Prod.ext rfl mstep_sp]
    exact run_sp l _ _ hg.2
theorem sq_1012 (i : Int) : sq (4 * i * (1012 : Nat)) = sTurned (sq (4 * i)) := by
  rw [sq_neg]; exact sq_eq_iff.mpr (by omega)
theorem line_last {i : Int} (hi : i % 1013 ≠ 0) (b : Sp) : zLine (sq (4 * i * (1012 : Nat))) (sq (4 * i)) b = .one := by
  unfold zLine
  have : sSlope (sq (4 * i * (1012 : Nat))) (sq (4 * i)) = none := by
    cases e : sSlope (sq (4 * i * (1012 : Nat))) (sq (4 * i)) with
    | none => rfl
    | some s =>
      exfalso
      have e1 : sq (4 * i) = sq (4 * i * (1 : Nat)) := by congr 1; simp
      have f1 : (sq (4 * i)).far = false := by rw [e1]; exact far_k hi (by decide) (by decide)
      have f2 := far_k (i := i) (k := 1012) hi (by decide) (by decide)
      have h := (slope_line (sq_ok _) (sq_ok _) f2 f1 e).far
      rw [sq_add] at h
      have : (sq (4 * i * (1012 : Nat) + 4 * i)).far = true := sq_far.mpr (by omega)
      rw [this] at h; cases h
  rw [this]
/-- Miller's number along a chain, before the last power; 'ops' ends with the last adding. -/
def zM (ops : List Bool) (a b : Sp) : Z := (mrun a b (ops ++ [true])).1
theorem zM_eq {i : Int} (hi : i % 1013 ≠ 0) {ops : List Bool} (hg : cgood 1 ops = true) (b : Sp) : zM ops (sq (4 * i)) b = (mrun (sq (4 * i)) b ops).1 := by
  unfold zM mrun
  rw [List.foldl_append]
  have e1 : sq (4 * i) = sq (4 * i * (1 : Nat)) := by congr 1; simp
  have e : (ops.foldl (mstep (sq (4 * i)) b) (.one, sq (4 * i))).2 = sq (4 * i * (1012 : Nat)) := by
    conv => lhs; rw [show (Z.one, sq (4 * i)) = (Z.one, sq (4 * i * (1 : Nat))) by rw [← e1]]
    exact run_sp ops 1 _ hg
  simp only [List.foldl_cons, List.foldl_nil, mstep, if_true]
  rw [e, line_last hi, Z.mul_one]
def zP (ops : List Bool) (a b : Sp) : Z := (zM ops a b).pow e16200
theorem zP_sum {i : Int} (hi : i % 1013 ≠ 0) {ops : List Bool} (hg : cgood 1 ops = true) {b c : Sp} (hb : Ok b) (hc : Ok c) (fb : b.far = false) (fc : c.far = false) (fs : (sSum b c).far = false) (yd : fi (sSum b c).y ≠ 0) :
    (zP ops (sq (4 * i)) b).mul (zP ops (sq (4 * i)) c) = zP ops (sq (4 * i)) (sSum b c) := by
  obtain ⟨l, hs⟩ := slope_none fb fc fs
  have hl := slope_line hb hc fb fc hs
  have e1 : sq (4 * i) = sq (4 * i * (1 : Nat)) := by congr 1; simp
  have g := good_run hi hl ops 1 _ _ _ (by decide) (by decide) hg (good_start i _ _ hi)
  have em : ∀ x, (ops.foldl (mstep (sq (4 * i)) x) (.one, sq (4 * i * (1 : Nat)))).1 = zM ops (sq (4 * i)) x := fun x => by
    rw [zM_eq hi hg, mrun]; conv => rhs; rw [show (Z.one, sq (4 * i)) = (Z.one, sq (4 * i * (1 : Nat))) by rw [← e1]]
  rw [em, em, em] at g
  obtain ⟨r, hr, g⟩ := g
  have y1 := y_k (i := i) (k := 1) hi (by decide) (by decide)
  have ec : (mk' i (fi l) (fi b.y - fi l * fi b.x) 1012).conj = (Z.of (-1)).mul (mk' i (fi l) (fi b.y - fi l * fi b.x) 1) := by
    have ex : fi (sq (4 * i * (1012 : Nat))).x = fi (sq (4 * i * (1 : Nat))).x := by rw [sq_1012, ← e1]; rfl
    have ey : fi (sq (4 * i * (1012 : Nat))).y = - fi (sq (4 * i * (1 : Nat))).y := by
      rw [sq_1012, ← e1]; show fi ((-(sq (4 * i)).y) % 4051) = _; rw [fi_mod, fi_neg]
    unfold mk' mv
    rw [ex, ey]
    apply Z.ext'
    · simp only [Z.conj, Z.of, Z.mul]; grobner
    · simp only [Z.conj, Z.of, Z.mul]; grobner
  rw [ec] at g
  generalize hM : mk' i (fi l) (fi b.y - fi l * fi b.x) 1 = M at *
  have hMn : M.norm ≠ 0 := by rw [← hM]; exact norm_mv y1
  have g2 : ((zM ops (sq (4 * i)) b).mul (zM ops (sq (4 * i)) c)).mul (zM ops (sq (4 * i)) (sSum b c)).conj = (Z.of (-r)).mul (M.pow 1013) := by
    rw [g, show Z.of (-r) = (Z.of r).mul (.of (-1)) by rw [Z.of_mul]; congr 1; grobner, show M.pow 1013 = (M.pow 1012).mul M from rfl]
    ac_rfl
  have hr' : -r ≠ 0 := fun h => hr (by grobner)
  have k := congrArg (fun z => Z.pow z e16200) g2
  simp only [Z.mul_pow] at k
  rw [pof_e hr', whole_e hMn, Z.one_mul, ← Z.conj_pow] at k
  have nd : (zM ops (sq (4 * i)) (sSum b c)).norm ≠ 0 := by
    unfold zM mrun; exact norm_run yd _ _ (by rw [norm_one]; decide)
  have w := conj_e nd
  show ((zM ops (sq (4 * i)) b).pow e16200).mul ((zM ops (sq (4 * i)) c).pow e16200) = (zM ops (sq (4 * i)) (sSum b c)).pow e16200
  have k2 := congrArg (fun z => z.mul ((zM ops (sq (4 * i)) (sSum b c)).pow e16200)) k
  rw [Z.one_mul, Z.mul_assoc, Z.mul_comm (((zM ops (sq (4 * i)) (sSum b c)).pow e16200).conj), w, Z.mul_one] at k2
  exact k2
theorem pfour_far {j : Int} (h : j % 1013 ≠ 0) : (sq (4 * j)).far = false := sq_far_false.mpr (by omega)
theorem four_y {j : Int} (h : j % 1013 ≠ 0) : fi (sq (4 * j)).y ≠ 0 := by
  have := y_k (i := j) (k := 1) h (by decide) (by decide)
  rw [show (4 * j * ((1 : Nat) : Int)) = 4 * j by simp] at this; exact this
/-- Of j times the base it is the power j. -/
theorem zP_lin {i : Int} (hi : i % 1013 ≠ 0) {ops : List Bool} (hg : cgood 1 ops = true) : ∀ j : Nat, 1 ≤ j → j ≤ 1012 → zP ops (sq (4 * i)) (sq (4 * j)) = (zP ops (sq (4 * i)) (sq 4)).pow j
  | 0, h, _ => by omega
  | 1, _, _ => (Z.one_mul _).symm
  | j+2, _, h => by
    have ih := zP_lin hi hg (j+1) (by omega) (by omega)
    show _ = ((zP ops (sq (4 * i)) (sq 4)).pow (j+1)).mul (zP ops (sq (4 * i)) (sq 4))
    rw [← ih]
    have e : sSum (sq (4 * ((j+1 : Nat) : Int))) (sq 4) = sq (4 * ((j + 2 : Nat) : Int)) := by rw [sq_add]; exact sq_eq_iff.mpr (by omega)
    rw [← e]
    exact (zP_sum hi hg (sq_ok _) (sq_ok 4) (pfour_far (by omega)) (show (sq 4).far = false from pfour_far (j := 1) (by decide)) (by rw [e]; exact pfour_far (by omega)) (by rw [e]; exact four_y (by omega))).symm
theorem zM_norm {i : Int} {ops : List Bool} {j : Int} (hj : j % 1013 ≠ 0) : (zM ops (sq i) (sq (4 * j))).norm ≠ 0 := by
  unfold zM mrun; exact norm_run (four_y hj) _ _ (by rw [norm_one]; decide)
theorem zP_whole {i : Int} {ops : List Bool} {j : Int} (hj : j % 1013 ≠ 0) : (zP ops (sq i) (sq (4 * j))).pow 1013 = .one := by
  have := whole_e (zM_norm (i := i) (ops := ops) hj)
  unfold zP; rw [← Z.pow_mul, Nat.mul_comm, Z.pow_mul]; exact this
theorem zP_norm {i : Int} {ops : List Bool} {j : Int} (hj : j % 1013 ≠ 0) : (zP ops (sq i) (sq (4 * j))).norm = 1 := by
  unfold zP; rw [Z.norm_pow, show e16200 = (eInv + 1) * 4 from rfl, ppow_mul, fpow_inv (zM_norm hj), pone_pow]
def goOps : List Bool := [false, true, false, true, false, true, false, true, false, true, false, false, true, false, false]
theorem goOps_good : cgood 1 goOps = true := by decide
end Go.Proofs.YtnlaofapjldciaaDoor
namespace Go.Proofs.YtnlaofapjldciaaDoor
attribute [local semireducible] Z.pow
def nlD (k : Nat) : Nat × Nat :=
  let x := cx k; let y := cy k
  (((3 * x * x + 1) * (1189 + x) + 2 * y * (4051 - y)) % 4051, (2 * y * 3667) % 4051)
def nlA (k m : Nat) : Nat × Nat :=
  let x := cx k; let y := cy k; let d := x + (4051 - cx m)
  (((y + (4051 - cy m)) * (1189 + x) + (4051 - y) * d) % 4051, (d * 3667) % 4051)
def qm2 (p q : Nat × Nat) : Nat × Nat := qm p.1 p.2 q.1 q.2
def nstep (a : Nat) (st : (Nat × Nat) × Nat) (o : Bool) : (Nat × Nat) × Nat :=
  match o with
  | true => (qm2 st.1 (nlA st.2 a), (st.2 + a) % 4052)
  | false => (qm2 (qm2 st.1 st.1) (nlD st.2), (st.2 + st.2) % 4052)
def nrun (a : Nat) (ops : List Bool) : (Nat × Nat) × Nat := ops.foldl (nstep a) ((1, 0), a)
def fourth (p : Nat × Nat) : Nat × Nat := qm2 (qm2 p p) (qm2 p p)
def eqP (p q : Nat × Nat) : Bool := Nat.beq p.1 q.1 && Nat.beq p.2 q.2
def pairAt (ops : List Bool) (a : Nat) (z : Nat × Nat) : Bool :=
  let f := (nrun a ops).1
  eqP (fourth (f.1, (4051 - f.2) % 4051)) (qm2 (fourth f) z)
def chkP (ops : List Bool) : Nat → Nat → Nat × Nat → Bool
  | 0, _, _ => true
  | n+1, i, z => pairAt ops (4 * i) z && chkP ops n (i + 1) (qm2 z (2824, 4013))
theorem chkP_go : chkP goOps 1012 1 (2824, 4013) = true := by decide +kernel
theorem cT {k : Nat} (h1 : 1 ≤ k) (h2 : k < 4052) : fi (sp k).x = fi (cx k : Int) ∧ fi (sp k).y = fi (cy k : Int) ∧ (sp k).far = false ∧ cx k < 4051 ∧ cy k < 4051 := by
  have e := sp_table h1 (by omega)
  have o := sp_ok k
  rw [e] at o ⊢
  have a := o.x1; have b := o.y1
  exact ⟨rfl, rfl, rfl, by simp only [cSp] at a; omega, by simp only [cSp] at b; omega⟩
theorem base_xy : fi (sq 4).x = 1189 ∧ fi (sq 4).y = 3667 := by
  have e : sq 4 = cSp 4 := (sq_nat 4).trans (sp_table (by decide) (by decide))
  rw [e]; exact ⟨by decide +kernel, by decide +kernel⟩
theorem sub_fi {a b : Nat} (h : b ≤ 4051) : fi ((a + (4051 - b) : Nat) : Int) = fi (a : Int) - fi (b : Int) := by
  rw [← fi_sub]; exact fi_eq.mpr (by omega)
theorem neg_fi {b : Nat} (h : b ≤ 4051) : fi ((4051 - b : Nat) : Int) = - fi (b : Int) := by
  rw [← fi_neg]; exact fi_eq.mpr (by omega)
theorem mod_fi (a : Nat) : fi ((a % 4051 : Nat) : Int) = fi (a : Int) := fi_eq.mpr (by omega)
theorem nlA_ok {k m : Nat} (k1 : 1 ≤ k) (k2 : k < 4052) (m1 : 1 ≤ m) (m2 : m < 4052) (hx : (sp k).x ≠ (sp m).x) :
    ∃ r : F, r ≠ 0 ∧ zn (nlA k m) = (Z.of r).mul (zLine (sp k) (sp m) (sq 4)) := by
  obtain ⟨a1, a2, _, a4, a5⟩ := cT k1 k2
  obtain ⟨b1, b2, _, b4, b5⟩ := cT m1 m2
  have ok := sp_ok k; have om := sp_ok m
  have hne : fi (sp k).x - fi (sp m).x ≠ 0 := fun h => hx (fi_inj ⟨ok.x0, ok.x1⟩ ⟨om.x0, om.x1⟩ (by grobner))
  refine ⟨_, hne, ?_⟩
  have hs : sSlope (sp k) (sp m) = some (pMul (pSub (sp k).y (sp m).y) (pInv (pSub (sp k).x (sp m).x))) := by unfold sSlope; rw [if_pos hx]
  have hl : (fi (sp k).x - fi (sp m).x) * fi (pMul (pSub (sp k).y (sp m).y) (pInv (pSub (sp k).x (sp m).x))) = fi (sp k).y - fi (sp m).y := by
    rw [fi_pMul, fi_pInv, fi_pSub, fi_pSub]
    have := inv_mul hne
    rw [show (fi (sp k).x - fi (sp m).x) * ((fi (sp k).y - fi (sp m).y) * inv (fi (sp k).x - fi (sp m).x)) = (fi (sp k).y - fi (sp m).y) * (inv (fi (sp k).x - fi (sp m).x) * (fi (sp k).x - fi (sp m).x)) by grobner, this]; grobner
  unfold zLine
  rw [hs]
  simp only
  generalize fi (pMul (pSub (sp k).y (sp m).y) (pInv (pSub (sp k).x (sp m).x))) = s at *
  rw [base_xy.1, base_xy.2]
  apply Z.ext'
  · show fi (((cy k + (4051 - cy m)) * (1189 + cx k) + (4051 - cy k) * (cx k + (4051 - cx m))) % 4051 : Nat) = (fi (sp k).x - fi (sp m).x) * (s * (1189 + fi (sp k).x) - fi (sp k).y) - 0 * 3667
    rw [mod_fi, Int.natCast_add, Int.natCast_mul, Int.natCast_mul, fi_add, fi_mul, fi_mul, sub_fi (by omega), sub_fi (by omega), neg_fi (by omega), Int.natCast_add, fi_add, ← a1, ← a2, ← b1, ← b2, show fi ((1189 : Nat) : Int) = 1189 from rfl, ← hl]
    clear hl hs hne hx; grobner
  · show fi (((cx k + (4051 - cx m)) * 3667) % 4051 : Nat) = (fi (sp k).x - fi (sp m).x) * 3667 + 0 * _
    rw [mod_fi, Int.natCast_mul, fi_mul, sub_fi (by omega), ← a1, ← b1, show fi ((3667 : Nat) : Int) = 3667 from rfl]
    clear hl hs hne hx; grobner
theorem nlD_ok {k : Nat} (k1 : 1 ≤ k) (k2 : k < 4052) (hy : fi (sp k).y ≠ 0) :
    ∃ r : F, r ≠ 0 ∧ zn (nlD k) = (Z.of r).mul (zLine (sp k) (sp k) (sq 4)) := by
  obtain ⟨a1, a2, _, a4, a5⟩ := cT k1 k2
  have hy0 : ¬ ((sp k).y ≠ (sp k).y ∨ (sp k).y = 0) := fun h => h.elim (fun h => h rfl) (fun h => hy (by rw [h]; rfl))
  have hne : 2 * fi (sp k).y ≠ 0 := mul_ne two_ne hy
  refine ⟨_, hne, ?_⟩
  have hs : sSlope (sp k) (sp k) = some (pMul (pMul 3 (pMul (sp k).x (sp k).x) + 1) (pInv (2 * (sp k).y))) := by unfold sSlope; rw [if_neg (fun h => h rfl), if_neg hy0]
  have hl : 2 * fi (sp k).y * fi (pMul (pMul 3 (pMul (sp k).x (sp k).x) + 1) (pInv (2 * (sp k).y))) = 3 * (fi (sp k).x * fi (sp k).x) + 1 := by
    rw [fi_pMul, fi_pInv, fi_add, fi_pMul, fi_pMul, fi_mul]
    have h2 : fi 2 = 2 := rfl
    have h3 : fi 3 = 3 := rfl
    rw [h2, h3, fi_one]
    have := inv_mul hne
    rw [show 2 * fi (sp k).y * ((3 * (fi (sp k).x * fi (sp k).x) + 1) * inv (2 * fi (sp k).y)) = (3 * (fi (sp k).x * fi (sp k).x) + 1) * (inv (2 * fi (sp k).y) * (2 * fi (sp k).y)) by grobner, this]; grobner
  unfold zLine
  rw [hs]
  simp only
  generalize fi (pMul (pMul 3 (pMul (sp k).x (sp k).x) + 1) (pInv (2 * (sp k).y))) = s at *
  rw [base_xy.1, base_xy.2]
  apply Z.ext'
  · show fi (((3 * cx k * cx k + 1) * (1189 + cx k) + 2 * cy k * (4051 - cy k)) % 4051 : Nat) = (2 * fi (sp k).y) * (s * (1189 + fi (sp k).x) - fi (sp k).y) - 0 * 3667
    rw [mod_fi, Int.natCast_add, Int.natCast_mul, Int.natCast_mul, Int.natCast_mul, fi_add, fi_mul, fi_mul, fi_mul, neg_fi (by omega), Int.natCast_add, Int.natCast_add, Int.natCast_mul, Int.natCast_mul, fi_add, fi_add, fi_mul, fi_mul, ← a1, ← a2, show fi ((1189 : Nat) : Int) = 1189 from rfl, show fi ((1 : Nat) : Int) = 1 from rfl, show fi ((2 : Nat) : Int) = 2 from rfl, show fi ((3 : Nat) : Int) = 3 from rfl]
    rw [show 3 * fi (sp k).x * fi (sp k).x + 1 = 3 * (fi (sp k).x * fi (sp k).x) + 1 by grobner, ← hl]
    clear hl hs hne hy hy0; grobner
  · show fi ((2 * cy k * 3667) % 4051 : Nat) = (2 * fi (sp k).y) * 3667 + 0 * _
    rw [mod_fi, Int.natCast_mul, Int.natCast_mul, fi_mul, fi_mul, ← a2, show fi ((3667 : Nat) : Int) = 3667 from rfl, show fi ((2 : Nat) : Int) = 2 from rfl]
    clear hl hs hne hy hy0; grobner
theorem xne {a b : Sp} (fa : a.far = false) (fb : b.far = false) (h : a ≠ b) (fs : (sSum a b).far = false) : a.x ≠ b.x := fun e => by
  obtain ⟨s, hs⟩ := slope_none fa fb fs
  unfold sSlope at hs
  rw [if_neg (fun k => k e)] at hs
  by_cases hy : a.y ≠ b.y ∨ a.y = 0
  · rw [if_pos hy] at hs; cases hs
  · exact h (Sp.ext' e (by omega) (fa.trans fb.symm))
/-- An adding comes at no sooner than twice. -/
def agood : Nat → List Bool → Bool
  | _, [] => true
  | k, o :: l => (!o || Nat.ble 2 k) && agood (cstep k o) l
def NR (i k : Nat) (n : (Nat × Nat) × Nat) (st : Z × Sp) : Prop :=
  n.2 = (4 * i * k) % 4052 ∧ n.1.2 ≤ 4051 ∧ st.2 = sq (4 * (i : Int) * k) ∧ ∃ r : F, r ≠ 0 ∧ zn n.1 = (Z.of r).mul st.1
theorem sq_sp (i k : Nat) : sq (4 * (i : Int) * k) = sp ((4 * i * k) % 4052) := by
  rw [sp_mod, ← sq_nat]; congr 1
theorem qm2_ok (p q : Nat × Nat) (h : p.2 ≤ 4051) : (qm2 p q).2 ≤ 4051 ∧ zn (qm2 p q) = (zn p).mul (zn q) := ⟨qm_le _ _ _ _, qm_ok _ _ _ _ h⟩
theorem alg_a (r s : F) (f l : Z) : ((Z.of r).mul f).mul ((Z.of s).mul l) = (Z.of (r * s)).mul (f.mul l) := by
  rw [← Z.of_mul]; ac_rfl
theorem NR_step {i k : Nat} {o : Bool} (hi : (i : Int) % 1013 ≠ 0) (h1 : 1 ≤ k) (hk : k ≤ 1012) (h2 : cstep k o ≤ 1012) (ho : (!o || Nat.ble 2 k) = true) {n : (Nat × Nat) × Nat} {st : Z × Sp}
    (h : NR i k n st) : NR i (cstep k o) (nstep (4 * i % 4052) n o) (mstep (sq (4 * (i : Int))) (sq 4) st o) := by
  obtain ⟨n1, n2, n3, r, hr, n4⟩ := h
  have hf := far_k hi h1 hk
  have hp : 1 ≤ (4 * i * k) % 4052 := by
    have := mul_i_ne (i := i) (k := k) hi (by omega) (by omega)
    have c : ((4 * i * k : Nat) : Int) = 4 * (i : Int) * (k : Int) := by rw [Int.natCast_mul, Int.natCast_mul]; rfl
    rw [← c] at this
    omega
  obtain ⟨⟨p, q⟩, kk⟩ := n
  obtain ⟨f, T⟩ := st
  simp only at n1 n2 n3 n4
  subst n1 n3
  cases o
  · simp only [cstep, Bool.false_eq_true, if_false] at h2 ⊢
    have e : sSum (sq (4 * (i : Int) * k)) (sq (4 * (i : Int) * k)) = sq (4 * (i : Int) * ((k + k : Nat) : Int)) := by rw [sq_add]; congr 1; rw [Int.natCast_add, Int.mul_add]
    have ay := y_k hi h1 hk
    rw [sq_sp] at ay
    obtain ⟨s, hs, nl⟩ := nlD_ok hp (Nat.mod_lt _ (by decide)) ay
    have q1 := qm2_ok (p, q) (p, q) n2
    have q2 := qm2_ok (qm2 (p, q) (p, q)) (nlD ((4 * i * k) % 4052)) q1.1
    refine ⟨?_, q2.1, ?_, r * r * s, mul_ne (mul_ne hr hr) hs, ?_⟩
    · show ((4 * i * k) % 4052 + (4 * i * k) % 4052) % 4052 = (4 * i * (k + k)) % 4052
      rw [Nat.mul_add]; omega
    · simp only [mstep, Bool.false_eq_true, if_false]; exact e
    · show zn (qm2 (qm2 (p, q) (p, q)) (nlD ((4 * i * k) % 4052))) = _
      rw [q2.2, q1.2, nl, n4]
      simp only [mstep, Bool.false_eq_true, if_false]
      rw [sq_sp, alg_a, alg_a]
  · simp only [cstep, if_true] at h2 ⊢
    simp only [Bool.not_true, Bool.false_or, Nat.ble_eq] at ho
    have e1 : sq (4 * (i : Int)) = sq (4 * (i : Int) * (1 : Nat)) := by congr 1; simp
    have e : sSum (sq (4 * (i : Int) * k)) (sq (4 * (i : Int))) = sq (4 * (i : Int) * ((k + 1 : Nat) : Int)) := by rw [sq_add, show 4 * (i : Int) * ((k + 1 : Nat) : Int) = 4 * (i : Int) * k + 4 * (i : Int) by rw [Int.natCast_add, Int.mul_add, Int.natCast_one, Int.mul_one]]
    have fa : (sq (4 * (i : Int))).far = false := by rw [e1]; exact far_k hi (by decide) (by decide)
    have ne : sq (4 * (i : Int) * k) ≠ sq (4 * (i : Int)) := fun h => by
      have := sq_eq_iff.mp h
      have w := mul_i_ne (i := i) (k := (k : Int) - 1) hi (by omega) (by omega)
      rw [Int.mul_sub] at w
      simp only [Int.mul_one] at w
      omega
    have hx := xne hf fa ne (by rw [e]; exact far_k hi (by omega) h2)
    have hm : sq (4 * (i : Int)) = sp ((4 * i) % 4052) := by have := sq_sp i 1; rw [e1, this, Nat.mul_one]
    have hp2 : 1 ≤ (4 * i) % 4052 := by omega
    rw [sq_sp, hm] at hx
    obtain ⟨s, hs, nl⟩ := nlA_ok hp (Nat.mod_lt _ (by decide)) hp2 (Nat.mod_lt _ (by decide)) hx
    have q2 := qm2_ok (p, q) (nlA ((4 * i * k) % 4052) (4 * i % 4052)) n2
    refine ⟨?_, q2.1, ?_, r * s, mul_ne hr hs, ?_⟩
    · show ((4 * i * k) % 4052 + 4 * i % 4052) % 4052 = (4 * i * (k + 1)) % 4052
      rw [Nat.mul_add]; omega
    · simp only [mstep, if_true]; exact e
    · show zn (qm2 (p, q) (nlA ((4 * i * k) % 4052) (4 * i % 4052))) = _
      rw [q2.2, nl, n4]
      simp only [mstep, if_true]
      rw [sq_sp, hm, alg_a]
theorem NR_run {i : Nat} (hi : (i : Int) % 1013 ≠ 0) : ∀ (ops : List Bool) (k : Nat) (n : (Nat × Nat) × Nat) (st : Z × Sp), 1 ≤ k → k ≤ 1012 → cgood k ops = true → agood k ops = true → NR i k n st →
    NR i 1012 (ops.foldl (nstep (4 * i % 4052)) n) (ops.foldl (mstep (sq (4 * (i : Int))) (sq 4)) st)
  | [], k, _, _, _, _, hg, _, h => by simp only [cgood, Nat.beq_eq] at hg; subst hg; exact h
  | o :: l, k, n, st, h1, hk, hg, ha, h => by
    simp only [cgood, Bool.and_eq_true, Nat.ble_eq] at hg
    simp only [agood, Bool.and_eq_true] at ha
    exact NR_run hi l _ _ _ (cstep_ge h1) hg.1 hg.2 ha.2 (NR_step hi h1 hk hg.1 ha.1 h)
theorem cancelZ {a b c : Z} (hc : c.norm ≠ 0) (h : a.mul c = b.mul c) : a = b := by
  have e : (c.mul c.conj).mul (.of (inv c.norm)) = .one := by rw [Z.mul_conj, Z.of_mul, mul_inv hc]; rfl
  have := congrArg (fun z => z.mul (c.conj.mul (.of (inv c.norm)))) h
  have k : ∀ x : Z, (x.mul c).mul (c.conj.mul (.of (inv c.norm))) = x := fun x => by
    rw [show (x.mul c).mul (c.conj.mul (.of (inv c.norm))) = x.mul ((c.mul c.conj).mul (.of (inv c.norm))) by ac_rfl, e, Z.mul_one]
  rw [← k a, ← k b]; exact this
/-- The last power by what is turned. -/
theorem pow_conj {f z : Z} (hf : f.norm ≠ 0) (h : f.conj.pow 4 = (f.pow 4).mul z) : f.pow e16200 = z := by
  have a : (f.pow eNorm) = f.mul f.conj := by rw [frob_norm, Z.mul_conj]
  have b : (f.pow 4050).mul f = f.conj := by
    apply cancelZ hf
    rw [Z.mul_comm f.conj, ← a]; rfl
  have c : (f.pow e16200).mul (f.pow 4) = f.conj.pow 4 := by
    rw [← b, Z.mul_pow, ← Z.pow_mul]; rfl
  have n4 : (f.pow 4).norm ≠ 0 := by
    have : (f.pow 4) = (((Z.one.mul f).mul f).mul f).mul f := rfl
    rw [this, Z.one_mul, Z.norm_mul, Z.norm_mul, Z.norm_mul]; exact mul_ne (mul_ne (mul_ne hf hf) hf) hf
  apply cancelZ n4
  rw [c, h, Z.mul_comm]
theorem fourth_ok (p : Nat × Nat) (h : p.2 ≤ 4051) : zn (fourth p) = (zn p).pow 4 ∧ (fourth p).2 ≤ 4051 := by
  have a := qm2_ok p p h
  have b := qm2_ok (qm2 p p) (qm2 p p) a.1
  refine ⟨?_, b.1⟩
  unfold fourth
  rw [b.2, a.2]
  show _ = (((Z.one.mul (zn p)).mul (zn p)).mul (zn p)).mul (zn p)
  rw [Z.one_mul]; ac_rfl
theorem eqP_ok {p q : Nat × Nat} (h : eqP p q = true) : p = q := by
  simp only [eqP, Bool.and_eq_true, Nat.beq_eq] at h; exact Prod.ext h.1 h.2
theorem pairAt_ok {i : Nat} (hi : (i : Int) % 1013 ≠ 0) {ops : List Bool} (hg : cgood 1 ops = true) (ha : agood 1 ops = true) {z : Nat × Nat} (h : pairAt ops (4 * i % 4052) z = true) : zP ops (sq (4 * (i : Int))) (sq 4) = zn z := by
  have h0 : NR i 1 ((1, 0), 4 * i % 4052) (.one, sq (4 * (i : Int))) := ⟨by rw [Nat.mul_one], (by show 0 ≤ 4051; decide), by congr 1; simp, 1, one_ne, by rw [Z.mul_one]; rfl⟩
  obtain ⟨_, n2, _, r, hr, n4⟩ := NR_run hi ops 1 _ _ (by decide) (by decide) hg ha h0
  have hz := eqP_ok h
  unfold pairAt at h
  have e : zP ops (sq (4 * (i : Int))) (sq 4) = (mrun (sq (4 * (i : Int))) (sq 4) ops).1.pow e16200 := by unfold zP; rw [zM_eq hi hg]
  have nn : (mrun (sq (4 * (i : Int))) (sq 4) ops).1.norm ≠ 0 := by
    rw [← zM_eq hi hg]; exact zM_norm (j := 1) (by decide)
  change zn (nrun (4 * i % 4052) ops).1 = (Z.of r).mul (mrun (sq (4 * (i : Int))) (sq 4) ops).1 at n4
  change (nrun (4 * i % 4052) ops).1.2 ≤ 4051 at n2
  rw [e]
  generalize (mrun (sq (4 * (i : Int))) (sq 4) ops).1 = f at *
  generalize (nrun (4 * i % 4052) ops).1 = p at *
  have ef : (zn p).pow e16200 = f.pow e16200 := by rw [n4, Z.mul_pow, pof_e hr, Z.one_mul]
  rw [← ef]
  have hpn : (zn p).norm ≠ 0 := by rw [n4, Z.norm_mul, Z.norm_of]; exact mul_ne (mul_ne hr hr) nn
  apply pow_conj hpn
  have c : zn (p.1, (4051 - p.2) % 4051) = (zn p).conj := Z.ext' rfl (by
    show fi ((4051 - p.2) % 4051 : Nat) = - fi (p.2 : Int)
    rw [mod_fi, neg_fi n2])
  have l := fourth_ok (p.1, (4051 - p.2) % 4051) (by show (4051 - p.2) % 4051 ≤ 4051; omega)
  have r2 := fourth_ok p n2
  have m := qm2_ok (fourth p) z r2.2
  rw [← c, ← l.1, hz, m.2, r2.1]
theorem chkP_at (ops : List Bool) : ∀ (n i : Nat) (z : Nat × Nat), z.2 ≤ 4051 → chkP ops n i z = true → ∀ j, j < n → ∃ y : Nat × Nat, pairAt ops (4 * (i + j)) y = true ∧ zn y = (zn z).mul ((zn (2824, 4013)).pow j)
  | 0, _, _, _, _, _, hj => absurd hj (Nat.not_lt_zero _)
  | n+1, i, z, hz, h, j, hj => by
    simp only [chkP, Bool.and_eq_true] at h
    match j with
    | 0 => exact ⟨z, h.1, (Z.mul_one _).symm⟩
    | j+1 =>
      have q := qm2_ok z (2824, 4013) hz
      obtain ⟨y, y1, y2⟩ := chkP_at ops n (i+1) _ q.1 h.2 j (by omega)
      refine ⟨y, by rw [show i + (j + 1) = i + 1 + j by omega]; exact y1, ?_⟩
      rw [y2, q.2]
      show _ = (zn z).mul (((zn (2824, 4013)).pow j).mul (zn (2824, 4013)))
      ac_rfl
/-- The pair of the base and itself. -/
def zeta : Z := zn (2824, 4013)
theorem zP_base {ops : List Bool} (hg : cgood 1 ops = true) (ha : agood 1 ops = true) (hc : chkP ops 1012 1 (2824, 4013) = true) {i : Nat} (h1 : 1 ≤ i) (h2 : i ≤ 1012) : zP ops (sq (4 * (i : Int))) (sq 4) = zeta.pow i := by
  obtain ⟨y, y1, y2⟩ := chkP_at ops 1012 1 _ (by decide) hc (i - 1) (by omega)
  rw [show 1 + (i - 1) = i by omega] at y1
  have e : 4 * i % 4052 = 4 * i := Nat.mod_eq_of_lt (by omega)
  rw [← e] at y1
  rw [pairAt_ok (by omega) hg ha y1, y2, Z.mul_comm, show zeta.pow i = zeta.pow ((i - 1) + 1) by congr 1; omega]; rfl
theorem zP_all {ops : List Bool} (hg : cgood 1 ops = true) (ha : agood 1 ops = true) (hc : chkP ops 1012 1 (2824, 4013) = true) {i j : Nat} (h1 : 1 ≤ i) (h2 : i ≤ 1012) (h3 : 1 ≤ j) (h4 : j ≤ 1012) :
    zP ops (sq (4 * (i : Int))) (sq (4 * (j : Int))) = zeta.pow (i * j) := by
  rw [zP_lin (by omega) hg j h3 h4, zP_base hg ha hc h1 h2, Z.pow_mul]
theorem zeta_ne : zeta ≠ .one := fun h => by
  have := congrArg Z.re h; exact absurd this (by decide +kernel)
theorem zeta_whole : zeta.pow 1013 = .one := by
  have h := zP_base goOps_good (by decide) chkP_go (i := 1) (by decide) (by decide)
  have w := zP_whole (i := 4 * 1) (ops := goOps) (j := 1) (by decide)
  have e : zeta.pow 1 = zeta := Z.one_mul _
  rw [e] at h
  rw [← h]; exact w
theorem zeta_norm : zeta.norm = 1 := by decide +kernel
end Go.Proofs.YtnlaofapjldciaaDoor
namespace Go.Proofs.YtnlaofapjldciaaDoor
open Go.RowKit
set_option maxRecDepth 100000
set_option linter.unusedVariables false
set_option linter.unusedSimpArgs false
/-- The package's variable one, where it lies. -/
structure OneAt (w : World) : Prop where
  c0 : w.cell? ⟨1, 0, none⟩ = some (.int .i64 1)
  c1 : w.cell? ⟨1, 1, none⟩ = some (.int .i64 0)
  lt : 1 < w.heap.size
theorem OneAt.below {w w' : World} (h : OneAt w) (hb : Below w.heap.size w w') : OneAt w' :=
  ⟨(hb.cell (p := ⟨1, 0, none⟩) h.lt).trans h.c0, (hb.cell (p := ⟨1, 1, none⟩) h.lt).trans h.c1, Nat.lt_of_lt_of_le h.lt hb.size⟩
/-- A number of the greater field in memory. -/
structure TwAt (w : World) (b : Nat) (z : Z) : Prop where
  c0 : w.cell? ⟨b, 0, none⟩ = some (.int .i64 (fz z.re))
  c1 : w.cell? ⟨b, 1, none⟩ = some (.int .i64 (fz z.im))
  f0 : w.frozen? ⟨b, 0, none⟩ = false
  f1 : w.frozen? ⟨b, 1, none⟩ = false
  lt : b < w.heap.size
theorem TwAt.below {w w' : World} {b : Nat} {z : Z} (h : TwAt w b z) (hb : Below w.heap.size w w') : TwAt w' b z :=
  ⟨(hb.cell (p := ⟨b, 0, none⟩) h.lt).trans h.c0, (hb.cell (p := ⟨b, 1, none⟩) h.lt).trans h.c1, (hb.frozen (p := ⟨b, 0, none⟩) h.lt).trans h.f0, (hb.frozen (p := ⟨b, 1, none⟩) h.lt).trans h.f1, Nat.lt_of_lt_of_le h.lt hb.size⟩
theorem TwAt.set2 {w : World} {b : Nat} {z : Z} (h : TwAt w b z) (v : Z) : TwAt ((w.setCell ⟨b, 0, none⟩ (.int .i64 (fz v.re))).setCell ⟨b, 1, none⟩ (.int .i64 (fz v.im))) b v := by
  have k := set2_cell (x := .int .i64 (fz v.re)) (y := .int .i64 (fz v.im)) h.c0 h.c1
  exact ⟨k.1, k.2, by simp only [World.frozen?_setCell]; exact h.f0, by simp only [World.frozen?_setCell]; exact h.f1, by simpa [World.setCell] using h.lt⟩
theorem cell_else {w : World} {b c o k : Nat} (x : Value) (h : c ≠ b) : (w.setCell ⟨c, o, none⟩ x).cell? ⟨b, k, none⟩ = w.cell? ⟨b, k, none⟩ :=
  by rw [World.cell?_setCell_other (h := fun e => h (congrArg Addr.block e))]
theorem TwAt.other {w : World} {b c o : Nat} {z : Z} (h : TwAt w b z) (x : Value) (hne : c ≠ b) : TwAt (w.setCell ⟨c, o, none⟩ x) b z :=
  ⟨(cell_else x hne).trans h.c0, (cell_else x hne).trans h.c1, by simp only [World.frozen?_setCell]; exact h.f0, by simp only [World.frozen?_setCell]; exact h.f1, by simpa [World.setCell] using h.lt⟩
theorem SpAt.other {w : World} {b c o : Nat} {s : Sp} (h : SpAt w b s) (x : Value) (hne : c ≠ b) : SpAt (w.setCell ⟨c, o, none⟩ x) b s :=
  ⟨(cell_else x hne).trans h.c0, (cell_else x hne).trans h.c1, (cell_else x hne).trans h.c2, by simp only [World.frozen?_setCell]; exact h.f0, by simp only [World.frozen?_setCell]; exact h.f1, by simp only [World.frozen?_setCell]; exact h.f2, by simpa [World.setCell] using h.lt⟩
theorem mul_z (y z : Z) (w : World) : Calls Tryd.prog 128 #[twR y, twR z] w fun e w' => e = .returned (twR (y.mul z)) ∧ Below w.heap.size w w' := by
  have := twinMul_c (fz y.re) (fz y.im) (fz z.re) (fz z.im) w; rw [zi_fz, zi_fz] at this; exact this
theorem power_z (z : Z) (n : Int) (w : World) (h0 : 0 ≤ n) (h1 : n ≤ 9223372036854775807) : Calls Tryd.prog 147 #[twR z, .int .i64 n] w fun e w' => e = .returned (twR (z.pow n.toNat)) ∧ Below w.heap.size w w' := by
  have := twinPower_c (fz z.re) (fz z.im) n w h0 h1; rw [zi_fz] at this; exact this
theorem slope_n (a b : Sp) (w : World) (h : sSlope a b = none) : Calls Tryd.prog 141 #[spV a, spV b] w fun e w' => e = .returned (.tuple #[.int .i64 0, .bool false]) ∧ Below w.heap.size w w' := by
  obtain ⟨x, y, f⟩ := a; obtain ⟨u, v, g⟩ := b
  unfold sSlope at h
  split at h
  · cases h
  · rename_i hx
    have hx' : x = u := Decidable.of_not_not hx
    split at h
    · rename_i hy
      by_cases e : y = v
      · have e0 : y = 0 := by rcases hy with h | h; exact absurd e h; exact h
        exact slope_upright2 x y u v f g w (by simpa using hx') (by simpa using e) (by simpa using e0)
      · exact slope_upright1 x y u v f g w (by simpa using hx') (by simpa using e)
    · cases h
theorem slope_s (a b : Sp) (s : Int) (w : World) (h : sSlope a b = some s) (ha : Ok a) : Calls Tryd.prog 141 #[spV a, spV b] w fun e w' => e = .returned (.tuple #[.int .i64 s, .bool true]) ∧ Below w.heap.size w w' := by
  have y0 := ha.y0; have y1 := ha.y1
  obtain ⟨x, y, f⟩ := a; obtain ⟨u, v, g⟩ := b
  unfold sSlope at h
  split at h
  · rename_i hx
    cases h
    exact slope_unlike x y u v f g w (by simpa using hx)
  · rename_i hx
    have hx' : x = u := Decidable.of_not_not hx
    split at h
    · cases h
    · rename_i hy
      cases h
      exact slope_same x y u v f g w (by simpa using hx') (by simp only [not_or] at hy; simpa using hy.1) (by simp only [not_or] at hy; simpa using hy.2) y0 y1
theorem twR_one : twR .one = .agg #[.int .i64 1, .int .i64 0] := rfl
set_option maxHeartbeats 1000000 in
theorem line_n (a b t : Sp) (w : World) (hO : OneAt w) (h : sSlope a b = none) : Calls Tryd.prog 146 #[spV a, spV b, spV t] w fun e w' => e = .returned (.agg #[.int .i64 1, .int .i64 0]) ∧ Below w.heap.size w w' := by
  go_enter Tryd.func146, Tryd.ntmps146
  go_wp2_with fail
  refine (slope_n a b _ h).mono ?_; rintro e w1 ⟨rfl, hb⟩
  obtain ⟨hc1, hf1⟩ := bcell hb
  have z1 := hb.size
  try simp only [World.size_alloc, World.size_setCell, World.size_drew] at z1
  have s1_0 : w.heap.size < w1.heap.size := by omega
  have s1_1 : w.heap.size + 1 < w1.heap.size := by omega
  have s1_2 : w.heap.size + 1 + 1 < w1.heap.size := by omega
  have s1_3 : w.heap.size + 1 + 1 + 1 < w1.heap.size := by omega
  have hB1 : Below w.heap.size w w1 := below_seq (by repeat (first | exact Below.refl _ _ | refine balloc ?_ _ | refine Below.drew ?_ | refine below_drewN ?_ _ | refine below_set ?_ (by first | omega | (dsimp only; omega)) _)) hb
  clear hb
  have hO1 := hO.below hB1
  obtain ⟨q0, q1, ql⟩ := hO
  have q2 : 0 < w.heap.size := Nat.lt_of_le_of_lt (Nat.zero_le _) ql
  obtain ⟨o0, o1, ol⟩ := hO1
  have r0 : w1.cell? ⟨w.heap.size + 1 + 1 + 1, 0, none⟩ = some (.int .i64 0) := by go_simp
  have r1 : w1.cell? ⟨w.heap.size + 1 + 1 + 1, 1, none⟩ = some (.int .i64 0) := by go_simp
  go_wp2
  have k := set2_cell (w := w1) (x := .int .i64 1) (y := .int .i64 0) r0 r1
  refine bodyPost_ret (v := .agg #[.int .i64 1, .int .i64 0]) (by simp [results, Tryd.results146, go_sem, k.1, k.2]) rfl ⟨rfl, set2_below (by repeat (first | exact hB1 | exact Below.refl _ _ | refine balloc ?_ _ | refine Below.drew ?_ | refine below_drewN ?_ _ | refine below_set ?_ (by first | omega | (dsimp only; omega)) _)) (by omega)⟩
theorem agg2_eq {a b c d : Int} (h : a = c) (k : b = d) : Ending.returned (.agg #[.int .i64 a, .int .i64 b]) = .returned (.agg #[.int .i64 c, .int .i64 d]) := by rw [h, k]
theorem line_alg (a t : Sp) (s : Int) (ht : 0 ≤ t.y ∧ t.y < 4051) : pSub (pMul s (t.x + a.x)) a.y = fz (⟨fi s * (fi t.x + fi a.x) - fi a.y, fi t.y⟩ : Z).re ∧ t.y = fz (⟨fi s * (fi t.x + fi a.x) - fi a.y, fi t.y⟩ : Z).im :=
  ⟨fz_eq (r_pSub _ _) (by rw [fi_pSub, fi_pMul, fi_add]), fz_eq ht rfl⟩
set_option maxHeartbeats 1000000 in
theorem line_s (a b t : Sp) (s : Int) (w : World) (h : sSlope a b = some s) (ha : Ok a) (ht : Ok t) : Calls Tryd.prog 146 #[spV a, spV b, spV t] w fun e w' => e = .returned (twR (zLine a b t)) ∧ Below w.heap.size w w' := by
  have hz : Hid (zLine a b t = ⟨fi s * (fi t.x + fi a.x) - fi a.y, fi t.y⟩) := by show _ = _; unfold zLine; rw [h]
  have hl := Lib.hid (line_alg a t s ⟨ht.y0, ht.y1⟩)
  have e1 : IntKind.i64.wrap (t.x + a.x) = t.x + a.x := IntWalk.i64_in _ (by have := ha.x0; have := ha.x1; have := ht.x0; have := ht.x1; omega)
  go_enter Tryd.func146, Tryd.ntmps146
  go_wp2_with fail
  refine (slope_s a b s _ h ha).mono ?_; rintro e w1 ⟨rfl, hb⟩
  obtain ⟨hc1, hf1⟩ := bcell hb
  have z1 := hb.size
  try simp only [World.size_alloc, World.size_setCell, World.size_drew] at z1
  have s1_0 : w.heap.size < w1.heap.size := by omega
  have s1_1 : w.heap.size + 1 < w1.heap.size := by omega
  have s1_2 : w.heap.size + 1 + 1 < w1.heap.size := by omega
  have s1_3 : w.heap.size + 1 + 1 + 1 < w1.heap.size := by omega
  have hB1 : Below w.heap.size w w1 := below_seq (by repeat (first | exact Below.refl _ _ | refine balloc ?_ _ | refine Below.drew ?_ | refine below_drewN ?_ _ | refine below_set ?_ (by first | omega | (dsimp only; omega)) _)) hb
  clear hb
  go_wp2_with fail
  refine wp_region_grow_tail 13 Tryd.mixed (by kernel_rfl) ?_
  simp only [List.take_succ_cons, List.take_zero, List.drop_succ_cons, List.drop_zero]
  repeat (quiet_step ((first | (go_at_call 140; exact grow_same (primeMul_c _ _ _)) | (go_at_call 142; exact grow_same (primeSub_c _ _ _)))))
  refine wpQuiet_nil ?_
  intro _ hw'
  obtain ⟨x2, rfl⟩ := hw'
  have z2 := x2.h.size
  try simp only [World.size_alloc, World.size_setCell, World.size_drew] at z2
  have s2_0 : w.heap.size < x2.w.heap.size := by omega
  have s2_1 : w.heap.size + 1 < x2.w.heap.size := by omega
  have s2_2 : w.heap.size + 1 + 1 < x2.w.heap.size := by omega
  have s2_3 : w.heap.size + 1 + 1 + 1 < x2.w.heap.size := by omega
  have hB2 : Below w.heap.size w x2.w := below_seq (by repeat (first | exact hB1 | exact Below.refl _ _ | refine balloc ?_ _ | refine Below.drew ?_ | refine below_drewN ?_ _ | refine below_set ?_ (by first | omega | (dsimp only; omega)) _)) x2.h
  have r0 : x2.w.cell? ⟨w.heap.size + 1 + 1 + 1, 0, none⟩ = some (.int .i64 0) := by go_simp
  have r1 : x2.w.cell? ⟨w.heap.size + 1 + 1 + 1, 1, none⟩ = some (.int .i64 0) := by go_simp
  clear e1
  go_wp2
  have k := set2_cell (w := x2.w) (x := .int .i64 (pSub (pMul s (t.x + a.x)) a.y)) (y := .int .i64 t.y) r0 r1
  refine bodyPost_ret (v := .agg #[.int .i64 (pSub (pMul s (t.x + a.x)) a.y), .int .i64 t.y]) (by simp [results, Tryd.results146, go_sem, k.1, k.2]) rfl ⟨?_, set2_below (by repeat (first | exact hB2 | exact Below.refl _ _ | refine balloc ?_ _ | refine Below.drew ?_ | refine below_drewN ?_ _ | refine below_set ?_ (by first | omega | (dsimp only; omega)) _)) (by omega)⟩
  rw [hz.out]
  exact agg2_eq hl.out.1 hl.out.2
theorem line_c (a b t : Sp) (w : World) (hO : OneAt w) (ha : Ok a) (ht : Ok t) : Calls Tryd.prog 146 #[spV a, spV b, spV t] w fun e w' => e = .returned (twR (zLine a b t)) ∧ Below w.heap.size w w' := by
  cases h : sSlope a b with
  | none =>
    have e : zLine a b t = .one := by unfold zLine; rw [h]
    rw [e]; exact line_n a b t w hO h
  | some s => exact line_s a b t s w h ha ht
set_option maxHeartbeats 1000000 in
theorem len_c (w : World) : Calls Tryd.prog 145 #[.int .u64 1013] w fun e w' => e = .returned (.int .i64 10) ∧ Below w.heap.size w w' := by
  go_enter Tryd.func145, Tryd.ntmps145
  go_wp2
  go_ret
  exact ⟨by kernel_rfl, Below.refl _ _⟩
end Go.Proofs.YtnlaofapjldciaaDoor
namespace Go.Proofs.YtnlaofapjldciaaDoor
open Go.RowKit
set_option maxRecDepth 100000
set_option linter.unusedVariables false
set_option linter.unusedSimpArgs false
set_option maxHeartbeats 1000000 in
theorem pairOf_farl (a b : Sp) (w : World) (hO : OneAt w) (h : a.far = true) : Calls Tryd.prog 126 #[spV a, spV b] w fun e w' => e = .returned (.agg #[.int .i64 1, .int .i64 0]) ∧ Below w.heap.size w w' := by
  obtain ⟨x, y, f⟩ := a; obtain ⟨u, v, g⟩ := b
  subst h
  obtain ⟨q0, q1, ql⟩ := hO
  have q2 : 0 < w.heap.size := Nat.lt_of_le_of_lt (Nat.zero_le _) ql
  go_enter Tryd.func126, Tryd.ntmps126
  go_wp2
  refine bodyPost_ret (v := .agg #[.int .i64 1, .int .i64 0]) (by simp [results, Tryd.results126, go_sem]) rfl ⟨rfl, (by repeat (first | exact Below.refl _ _ | refine balloc ?_ _ | refine Below.drew ?_ | refine below_drewN ?_ _ | refine below_set ?_ (by first | omega | (dsimp only; omega)) _))⟩
set_option maxHeartbeats 1000000 in
theorem pairOf_farr (a b : Sp) (w : World) (hO : OneAt w) (h0 : a.far = false) (h : b.far = true) : Calls Tryd.prog 126 #[spV a, spV b] w fun e w' => e = .returned (.agg #[.int .i64 1, .int .i64 0]) ∧ Below w.heap.size w w' := by
  obtain ⟨x, y, f⟩ := a; obtain ⟨u, v, g⟩ := b
  subst h; subst h0
  obtain ⟨q0, q1, ql⟩ := hO
  have q2 : 0 < w.heap.size := Nat.lt_of_le_of_lt (Nat.zero_le _) ql
  go_enter Tryd.func126, Tryd.ntmps126
  go_wp2
  refine bodyPost_ret (v := .agg #[.int .i64 1, .int .i64 0]) (by simp [results, Tryd.results126, go_sem]) rfl ⟨rfl, (by repeat (first | exact Below.refl _ _ | refine balloc ?_ _ | refine Below.drew ?_ | refine below_drewN ?_ _ | refine below_set ?_ (by first | omega | (dsimp only; omega)) _))⟩
/-- What pair.Of keeps in memory. -/
structure PMem (w wr : World) (g h : Nat) (a b : Sp) (f : Z) (t : Sp) : Prop where
  bel : Below w.heap.size w wr
  sa : SpAt wr w.heap.size a
  sb : SpAt wr (w.heap.size + 1) b
  sr : TwAt wr (w.heap.size + 1 + 1) ⟨0, 0⟩
  sg : TwAt wr g f
  sh : SpAt wr h t
  hg : w.heap.size + 1 + 1 < g
  hh : w.heap.size + 1 + 1 < h
  ne : g ≠ h
theorem PMem.below {w wr w1 : World} {g h : Nat} {a b : Sp} {f : Z} {t : Sp} (m : PMem w wr g h a b f t) (hb : Below wr.heap.size wr w1) : PMem w w1 g h a b f t :=
  ⟨below_seq m.bel hb, m.sa.below hb, m.sb.below hb, m.sr.below hb, m.sg.below hb, m.sh.below hb, m.hg, m.hh, m.ne⟩
theorem PMem.setG {w wr : World} {g h : Nat} {a b : Sp} {f : Z} {t : Sp} (m : PMem w wr g h a b f t) (v : Z) : PMem w ((wr.setCell ⟨g, 0, none⟩ (.int .i64 (fz v.re))).setCell ⟨g, 1, none⟩ (.int .i64 (fz v.im))) g h a b v t := by
  obtain ⟨bel, sa, sb, sr, sg, sh, hg, hh, ne⟩ := m
  exact ⟨set2_below bel (by omega), (sa.other _ (by omega)).other _ (by omega), (sb.other _ (by omega)).other _ (by omega), (sr.other _ (by omega)).other _ (by omega), sg.set2 v, (sh.other _ ne).other _ ne, hg, hh, ne⟩
theorem PMem.setH {w wr : World} {g h : Nat} {a b : Sp} {f : Z} {t : Sp} (m : PMem w wr g h a b f t) (v : Sp) : PMem w (((wr.setCell ⟨h, 0, none⟩ (.int .i64 v.x)).setCell ⟨h, 1, none⟩ (.int .i64 v.y)).setCell ⟨h, 2, none⟩ (.bool v.far)) g h a b f v := by
  obtain ⟨bel, sa, sb, sr, sg, sh, hg, hh, ne⟩ := m
  exact ⟨set3_below bel (by omega), ((sa.other _ (by omega)).other _ (by omega)).other _ (by omega), ((sb.other _ (by omega)).other _ (by omega)).other _ (by omega), ((sr.other _ (by omega)).other _ (by omega)).other _ (by omega), ((sg.other _ ne.symm).other _ ne.symm).other _ ne.symm, sh.set3 v, hg, hh, ne⟩
theorem TwAt.one_of {w : World} {b : Nat} (h0 : w.cell? ⟨b, 0, none⟩ = some (.int .i64 1)) (h1 : w.cell? ⟨b, 1, none⟩ = some (.int .i64 0)) (f0 : w.frozen? ⟨b, 0, none⟩ = false) (f1 : w.frozen? ⟨b, 1, none⟩ = false) (hl : b < w.heap.size) : TwAt w b .one := ⟨h0, h1, f0, f1, hl⟩
theorem TwAt.zero_of {w : World} {b : Nat} (h0 : w.cell? ⟨b, 0, none⟩ = some (.int .i64 0)) (h1 : w.cell? ⟨b, 1, none⟩ = some (.int .i64 0)) (f0 : w.frozen? ⟨b, 0, none⟩ = false) (f1 : w.frozen? ⟨b, 1, none⟩ = false) (hl : b < w.heap.size) : TwAt w b ⟨0, 0⟩ := ⟨h0, h1, f0, f1, hl⟩
/-- The steps that are left. -/
def restN : Nat → List Bool
  | 0 => []
  | 1 => false :: true :: restN 0
  | 2 => false :: restN 1
  | 3 => false :: true :: restN 2
  | 4 => false :: restN 3
  | n+1 => false :: true :: restN n
def bitOf (n : Nat) : Bool := n != 4 && n != 2
theorem rest_yes {n : Nat} (h1 : 1 ≤ n) (h2 : n ≤ 9) (hb : bitOf n = true) : restN n = false :: true :: restN (n - 1) := by
  have hk : n = 1 ∨ n = 2 ∨ n = 3 ∨ n = 4 ∨ n = 5 ∨ n = 6 ∨ n = 7 ∨ n = 8 ∨ n = 9 := by omega
  rcases hk with rfl | rfl | rfl | rfl | rfl | rfl | rfl | rfl | rfl <;> first | rfl | cases hb
theorem rest_no {n : Nat} (hb : bitOf n = false) : restN n = false :: restN (n - 1) := by
  have hk : n = 4 ∨ n = 2 := by unfold bitOf at hb; simp at hb; omega
  rcases hk with rfl | rfl <;> rfl
theorem rest_all : restN 9 = goOps ++ [true] := rfl
theorem sum_o {a b : Sp} (ha : Ok a) (hb : Ok b) : Ok (sSum a b) := (sum_ok ha hb).1
set_option maxHeartbeats 4000000 in
theorem pairOf_c (a b : Sp) (w : World) (hF : FarAt w) (hO : OneAt w) (ha : Ok a) (hb : Ok b) (fa : a.far = false) (fb : b.far = false) : Calls Tryd.prog 126 #[spV a, spV b] w fun e w' => e = .returned (twR (zP goOps a b)) ∧ Below w.heap.size w w' := by
  have hF' := Lib.hid hF
  have hO' := Lib.hid hO
  clear hF
  obtain ⟨q0, q1, ql⟩ := hO
  have q2 : 0 < w.heap.size := Nat.lt_of_le_of_lt (Nat.zero_le _) ql
  go_enter Tryd.func126, Tryd.ntmps126
  go_upto_region 3 with fail
  go_cut [5, 6] (fun s5 s6 wx => ∃ g h : Nat, s5 = .pointer (some ⟨g, 0, none⟩) ∧ s6 = .pointer (some ⟨h, 0, none⟩) ∧ PMem w wx g h a b .one a)
  case first =>
    go_region
    all_goals
      go_wp2_with fail
      go_meet
      refine ⟨_, _, rfl, rfl, ?_, ?_, ?_, TwAt.zero_of (by go_simp) (by go_simp) (by go_simp) (by go_simp) (by simp), TwAt.one_of (by go_simp) (by go_simp) (by go_simp) (by go_simp) (by simp), ?_, by omega, by omega, by omega⟩
      · repeat (first | exact Below.refl _ _ | refine balloc ?_ _ | refine Below.drew ?_)
      · constructor <;> go_simp
      · constructor <;> go_simp
      · constructor <;> go_simp
  case rest =>
    obtain ⟨g, h, rfl, rfl, m⟩ := hcut
    clear q0 q1 ql q2 fa fb
    have m := Lib.hid m
    have hr0 : Hid ((restN 9).foldl (mstep a b) (.one, a) = mrun a b (goOps ++ [true])) := by show _ = _; rw [rest_all]; rfl
    go_wp2_with fail
    refine (len_c _).mono ?_; rintro e w0 ⟨rfl, hb0⟩
    have m0 := Lib.hid (m.out.below hb0)
    clear m hb0
    go_wp2
    go_loopw [7] (fun s7 wr => ∃ (n : Nat) (f : Z) (t : Sp), n ≤ 9 ∧ s7 = .int .i64 ((n : Int) - 1) ∧ PMem w wr g h a b f t ∧ Ok t ∧ (restN n).foldl (mstep a b) (f, t) = mrun a b (goOps ++ [true])) (fun s7 _ => (intOf s7 + 1).toNat)
    case atStart => exact ⟨9, .one, a, by omega, rfl, m0.out, ha, hr0.out⟩
    case round =>
      clear m0 hr0
      obtain ⟨n, f, t, hn, rfl, m, ht, hr⟩ := hrel
      have m := Lib.hid m
      have hr := Lib.hid hr
      by_cases h0 : n = 0
      · subst h0
        obtain ⟨bel, ⟨a0, a1, a2, fa0, fa1, fa2, al⟩, ⟨b0, b1, b2, fb0, fb1, fb2, bl⟩, ⟨r0, r1, fr0, fr1, rl⟩, ⟨g0, g1, fg0, fg1, gl⟩, ⟨h0, h1, h2, fh0, fh1, fh2, hl⟩, hg, hh, ne⟩ := m.out
        have hW : Hid (f.pow (16200 : Int).toNat = zP goOps a b) := by
          have e : (f, t) = mrun a b (goOps ++ [true]) := hr.out
          show _ = _; unfold zP zM; rw [← e]; rfl
        go_wp2_with fail
        refine (power_z f 16200 _ (by omega) (by omega)).mono ?_; rintro e w1 ⟨rfl, hb1⟩
        generalize hV : f.pow (16200 : Int).toNat = V at *
        have hV2 := Lib.hid hV
        clear hV
        have m1 := m.out.below hb1
        clear bel a0 a1 a2 fa0 fa1 fa2 al b0 b1 b2 fb0 fb1 fb2 bl r0 r1 fr0 fr1 rl g0 g1 fg0 fg1 gl h0 h1 h2 fh0 fh1 fh2 hl hg hh ne hb1
        obtain ⟨bel, ⟨a0, a1, a2, fa0, fa1, fa2, al⟩, ⟨b0, b1, b2, fb0, fb1, fb2, bl⟩, ⟨r0, r1, fr0, fr1, rl⟩, ⟨g0, g1, fg0, fg1, gl⟩, ⟨h0, h1, h2, fh0, fh1, fh2, hl⟩, hg, hh, ne⟩ := m1
        go_wp2
        have k := set2_cell (w := w1) (x := .int .i64 (fz V.re)) (y := .int .i64 (fz V.im)) r0 r1
        refine bodyPost_ret (v := twR V) (by simp [results, Tryd.results126, go_sem, k.1, k.2]) rfl ⟨by rw [hW.out], set2_below bel (by omega)⟩
      · have hn1 : 1 ≤ n := by omega
        clear h0
        have mm := m.out
        obtain ⟨bel, ⟨a0, a1, a2, fa0, fa1, fa2, al⟩, ⟨b0, b1, b2, fb0, fb1, fb2, bl⟩, ⟨r0, r1, fr0, fr1, rl⟩, ⟨g0, g1, fg0, fg1, gl⟩, ⟨h0, h1, h2, fh0, fh1, fh2, hl⟩, hg, hh, ne⟩ := mm
        go_wp2_with fail
        refine wp_region_grow_tail 8 Tryd.mixed (by kernel_rfl) ?_
        simp only [List.take_succ_cons, List.take_zero, List.drop_succ_cons, List.drop_zero]
        repeat (quiet_step ((first | (go_at_call 128; exact grow_of (mul_z _ _ _)) | (go_at_call 146; exact grow_of (line_c t t b _ (hO'.out.below (below_seq bel (Grew.h _))) ht hb)))))
        refine wpQuiet_nil ?_
        intro _ hw'
        obtain ⟨x1, rfl⟩ := hw'
        have m1 := m.out.below x1.h
        have n1 := Lib.hid m1
        clear m
        clear bel a0 a1 a2 fa0 fa1 fa2 al b0 b1 b2 fb0 fb1 fb2 bl r0 r1 fr0 fr1 rl g0 g1 fg0 fg1 gl h0 h1 h2 fh0 fh1 fh2 hl hg hh ne
        obtain ⟨bel, ⟨a0, a1, a2, fa0, fa1, fa2, al⟩, ⟨b0, b1, b2, fb0, fb1, fb2, bl⟩, ⟨r0, r1, fr0, fr1, rl⟩, ⟨g0, g1, fg0, fg1, gl⟩, ⟨h0, h1, h2, fh0, fh1, fh2, hl⟩, hg, hh, ne⟩ := m1
        go_wp2_with fail
        refine (sum_e t t (sSum t t) _ (hF'.out.below (n1.out.setG _).bel) ht ht rfl).mono ?_; rintro e w2 ⟨rfl, hb2⟩
        have m2 := (n1.out.setG ((f.mul f).mul (zLine t t b))).below hb2
        have n2 := Lib.hid m2
        clear n1 hb2
        clear bel a0 a1 a2 fa0 fa1 fa2 al b0 b1 b2 fb0 fb1 fb2 bl r0 r1 fr0 fr1 rl g0 g1 fg0 fg1 gl h0 h1 h2 fh0 fh1 fh2 hl hg hh ne
        obtain ⟨bel, ⟨a0, a1, a2, fa0, fa1, fa2, al⟩, ⟨b0, b1, b2, fb0, fb1, fb2, bl⟩, ⟨r0, r1, fr0, fr1, rl⟩, ⟨g0, g1, fg0, fg1, gl⟩, ⟨h0, h1, h2, fh0, fh1, fh2, hl⟩, hg, hh, ne⟩ := m2
        have n2s := Lib.hid (n2.out.setH (sSum t t))
        go_upto_region 9 with fail
        go_cut [37] from 19 to 46 (fun s37 wx => s37 = .bool (bitOf n) ∧ PMem w wx g h a b ((f.mul f).mul (zLine t t b)) (sSum t t))
        case first =>
          clear bel a0 a1 a2 fa0 fa1 fa2 al b0 b1 b2 fb0 fb1 fb2 bl r0 r1 fr0 fr1 rl g0 g1 fg0 fg1 gl h0 h1 h2 fh0 fh1 fh2 hl hg hh ne
          have hk : n = 1 ∨ n = 2 ∨ n = 3 ∨ n = 4 ∨ n = 5 ∨ n = 6 ∨ n = 7 ∨ n = 8 ∨ n = 9 := by omega
          rcases hk with rfl | rfl | rfl | rfl | rfl | rfl | rfl | rfl | rfl
          all_goals
            go_wp2_with fail
            go_meet
            exact ⟨rfl, n2s.out⟩
        case rest =>
          clear bel a0 a1 a2 fa0 fa1 fa2 al b0 b1 b2 fb0 fb1 fb2 bl r0 r1 fr0 fr1 rl g0 g1 fg0 fg1 gl h0 h1 h2 fh0 fh1 fh2 hl hg hh ne n2 n2s
          obtain ⟨rfl, m3⟩ := hcut
          cases hbit : bitOf n
          · have hr2 : Hid ((restN (n - 1)).foldl (mstep a b) ((f.mul f).mul (zLine t t b), sSum t t) = mrun a b (goOps ++ [true])) := by
              have := hr.out; rw [rest_no hbit] at this; exact this
            go_wp2
            go_roundw
            case rel => exact ⟨n - 1, _, _, by omega, congrArg (Value.int .i64) (by omega), m3, sum_o ht ht, hr2.out⟩
            case measure => simp [intOf]; omega
          · have hr2 : Hid ((restN (n - 1)).foldl (mstep a b) (((f.mul f).mul (zLine t t b)).mul (zLine (sSum t t) a b), sSum (sSum t t) a) = mrun a b (goOps ++ [true])) := by
              have := hr.out; rw [rest_yes hn1 hn hbit] at this; exact this
            have n2 := Lib.hid m3
            obtain ⟨bel, ⟨a0, a1, a2, fa0, fa1, fa2, al⟩, ⟨b0, b1, b2, fb0, fb1, fb2, bl⟩, ⟨r0, r1, fr0, fr1, rl⟩, ⟨g0, g1, fg0, fg1, gl⟩, ⟨h0, h1, h2, fh0, fh1, fh2, hl⟩, hg, hh, ne⟩ := m3
            go_wp2_with fail
            refine wp_region_grow_tail 6 Tryd.mixed (by kernel_rfl) ?_
            simp only [List.take_succ_cons, List.take_zero, List.drop_succ_cons, List.drop_zero]
            repeat (quiet_step ((first | (go_at_call 128; exact grow_of (mul_z _ _ _)) | (go_at_call 146; exact grow_of (line_c (sSum t t) a b _ (hO'.out.below (below_seq bel (Grew.h _))) (sum_o ht ht) hb)))))
            refine wpQuiet_nil ?_
            intro _ hw'
            obtain ⟨x3, rfl⟩ := hw'
            have m3 := n2.out.below x3.h
            have n3 := Lib.hid m3
            clear n2
            clear bel a0 a1 a2 fa0 fa1 fa2 al b0 b1 b2 fb0 fb1 fb2 bl r0 r1 fr0 fr1 rl g0 g1 fg0 fg1 gl h0 h1 h2 fh0 fh1 fh2 hl hg hh ne
            obtain ⟨bel, ⟨a0, a1, a2, fa0, fa1, fa2, al⟩, ⟨b0, b1, b2, fb0, fb1, fb2, bl⟩, ⟨r0, r1, fr0, fr1, rl⟩, ⟨g0, g1, fg0, fg1, gl⟩, ⟨h0, h1, h2, fh0, fh1, fh2, hl⟩, hg, hh, ne⟩ := m3
            go_wp2_with fail
            refine (sum_e (sSum t t) a (sSum (sSum t t) a) _ (hF'.out.below (n3.out.setG _).bel) (sum_o ht ht) ha rfl).mono ?_; rintro e w4 ⟨rfl, hb4⟩
            have m4 := (n3.out.setG (((f.mul f).mul (zLine t t b)).mul (zLine (sSum t t) a b))).below hb4
            have n4 := Lib.hid m4
            clear n3 hb4
            clear bel a0 a1 a2 fa0 fa1 fa2 al b0 b1 b2 fb0 fb1 fb2 bl r0 r1 fr0 fr1 rl g0 g1 fg0 fg1 gl h0 h1 h2 fh0 fh1 fh2 hl hg hh ne
            obtain ⟨bel, ⟨a0, a1, a2, fa0, fa1, fa2, al⟩, ⟨b0, b1, b2, fb0, fb1, fb2, bl⟩, ⟨r0, r1, fr0, fr1, rl⟩, ⟨g0, g1, fg0, fg1, gl⟩, ⟨h0, h1, h2, fh0, fh1, fh2, hl⟩, hg, hh, ne⟩ := m4
            go_wp2
            go_roundw
            case rel => exact ⟨n - 1, _, _, by omega, congrArg (Value.int .i64) (by omega), n4.out.setH _, sum_o (sum_o ht ht) ha, hr2.out⟩
            case measure => simp [intOf]; omega
end Go.Proofs.YtnlaofapjldciaaDoor
namespace Go.Proofs.YtnlaofapjldciaaDoor
open Go.RowKit
set_option maxRecDepth 100000
set_option linter.unusedVariables false
set_option linter.unusedSimpArgs false
set_option maxHeartbeats 1000000 in
theorem ready_ok (a b : Sp) (i j : Int) (w : World) (hF : FarAt w) (ha : Hid (a = sq i)) (hb : Hid (b = sq j)) (h1 : Hid ((sq (i * 1013)).far = true)) (h2 : Hid ((sq (j * 1013)).far = true)) : Calls Tryd.prog 125 #[spV a, spV b] w fun e w' => e = .returned .nilIface ∧ Below w.heap.size w w' := by
  go_enter Tryd.func125, Tryd.ntmps125
  go_wp2_with fail
  refine (all_ok [a, b] _ 0 2 _ (hF.below (by repeat (first | exact Below.refl _ _ | refine balloc ?_ _ | refine Below.drew ?_ | refine below_drewN ?_ _ | refine below_set ?_ (by first | omega | (dsimp only; omega)) _))) (by simp) (spots_two a b _ _ (by simp) (by go_simp) (by go_simp) (by go_simp) (by go_simp) (by go_simp) (by go_simp)) (ok_two (ok_of ha.out) (ok_of hb.out))).mono ?_; rintro e w1 ⟨rfl, hb⟩
  obtain ⟨hc1, hf1⟩ := bcell hb
  have z1 := hb.size
  try simp only [World.size_alloc, World.size_setCell, World.size_drew] at z1
  have s1_0 : w.heap.size < w1.heap.size := by omega
  have s1_1 : w.heap.size + 1 < w1.heap.size := by omega
  have s1_2 : w.heap.size + 1 + 1 < w1.heap.size := by omega
  have hB1 : Below w.heap.size w w1 := below_seq (by repeat (first | exact Below.refl _ _ | refine balloc ?_ _ | refine Below.drew ?_ | refine below_drewN ?_ _ | refine below_set ?_ (by first | omega | (dsimp only; omega)) _)) hb
  clear hb
  go_wp2_with fail
  refine (inside_e a i true _ (hF.below (by repeat (first | exact hB1 | exact Below.refl _ _ | refine balloc ?_ _ | refine Below.drew ?_ | refine below_drewN ?_ _ | refine below_set ?_ (by first | omega | (dsimp only; omega)) _))) ha h1).mono ?_; rintro e w2 ⟨rfl, hb⟩
  obtain ⟨hc2, hf2⟩ := bcell hb
  have z2 := hb.size
  try simp only [World.size_alloc, World.size_setCell, World.size_drew] at z2
  have s2_0 : w.heap.size < w2.heap.size := by omega
  have s2_1 : w.heap.size + 1 < w2.heap.size := by omega
  have s2_2 : w.heap.size + 1 + 1 < w2.heap.size := by omega
  have hB2 : Below w.heap.size w w2 := below_seq (by repeat (first | exact hB1 | exact Below.refl _ _ | refine balloc ?_ _ | refine Below.drew ?_ | refine below_drewN ?_ _ | refine below_set ?_ (by first | omega | (dsimp only; omega)) _)) hb
  clear hb
  go_wp2_with fail
  refine (inside_e b j true _ (hF.below (by repeat (first | exact hB2 | exact Below.refl _ _ | refine balloc ?_ _ | refine Below.drew ?_ | refine below_drewN ?_ _ | refine below_set ?_ (by first | omega | (dsimp only; omega)) _))) hb h2).mono ?_; rintro e w3 ⟨rfl, hb⟩
  obtain ⟨hc3, hf3⟩ := bcell hb
  have z3 := hb.size
  try simp only [World.size_alloc, World.size_setCell, World.size_drew] at z3
  have s3_0 : w.heap.size < w3.heap.size := by omega
  have s3_1 : w.heap.size + 1 < w3.heap.size := by omega
  have s3_2 : w.heap.size + 1 + 1 < w3.heap.size := by omega
  have hB3 : Below w.heap.size w w3 := below_seq (by repeat (first | exact hB2 | exact Below.refl _ _ | refine balloc ?_ _ | refine Below.drew ?_ | refine below_drewN ?_ _ | refine below_set ?_ (by first | omega | (dsimp only; omega)) _)) hb
  clear hb
  go_wp2
  go_ret
  exact ⟨rfl, (by repeat (first | exact hB3 | exact Below.refl _ _ | refine balloc ?_ _ | refine Below.drew ?_ | refine below_drewN ?_ _ | refine below_set ?_ (by first | omega | (dsimp only; omega)) _))⟩
set_option maxHeartbeats 1000000 in
theorem ready_in (a b : Sp) (i j : Int) (w : World) (hF : FarAt w) (ha : Hid (a = sq i)) (hb : Hid (b = sq j)) (h1 : Hid ((sq (i * 1013)).far = false)) : Calls Tryd.prog 125 #[spV a, spV b] w fun e w' => e = .returned (.iface 125 (.int .i64 3)) ∧ Below w.heap.size w w' := by
  go_enter Tryd.func125, Tryd.ntmps125
  go_wp2_with fail
  refine (all_ok [a, b] _ 0 2 _ (hF.below (by repeat (first | exact Below.refl _ _ | refine balloc ?_ _ | refine Below.drew ?_ | refine below_drewN ?_ _ | refine below_set ?_ (by first | omega | (dsimp only; omega)) _))) (by simp) (spots_two a b _ _ (by simp) (by go_simp) (by go_simp) (by go_simp) (by go_simp) (by go_simp) (by go_simp)) (ok_two (ok_of ha.out) (ok_of hb.out))).mono ?_; rintro e w1 ⟨rfl, hb⟩
  obtain ⟨hc1, hf1⟩ := bcell hb
  have z1 := hb.size
  try simp only [World.size_alloc, World.size_setCell, World.size_drew] at z1
  have s1_0 : w.heap.size < w1.heap.size := by omega
  have s1_1 : w.heap.size + 1 < w1.heap.size := by omega
  have s1_2 : w.heap.size + 1 + 1 < w1.heap.size := by omega
  have hB1 : Below w.heap.size w w1 := below_seq (by repeat (first | exact Below.refl _ _ | refine balloc ?_ _ | refine Below.drew ?_ | refine below_drewN ?_ _ | refine below_set ?_ (by first | omega | (dsimp only; omega)) _)) hb
  clear hb
  go_wp2_with fail
  refine (inside_e a i false _ (hF.below (by repeat (first | exact hB1 | exact Below.refl _ _ | refine balloc ?_ _ | refine Below.drew ?_ | refine below_drewN ?_ _ | refine below_set ?_ (by first | omega | (dsimp only; omega)) _))) ha h1).mono ?_; rintro e w2 ⟨rfl, hb⟩
  obtain ⟨hc2, hf2⟩ := bcell hb
  have z2 := hb.size
  try simp only [World.size_alloc, World.size_setCell, World.size_drew] at z2
  have s2_0 : w.heap.size < w2.heap.size := by omega
  have s2_1 : w.heap.size + 1 < w2.heap.size := by omega
  have s2_2 : w.heap.size + 1 + 1 < w2.heap.size := by omega
  have hB2 : Below w.heap.size w w2 := below_seq (by repeat (first | exact hB1 | exact Below.refl _ _ | refine balloc ?_ _ | refine Below.drew ?_ | refine below_drewN ?_ _ | refine below_set ?_ (by first | omega | (dsimp only; omega)) _)) hb
  clear hb
  go_wp2
  go_ret
  exact ⟨rfl, (by repeat (first | exact hB2 | exact Below.refl _ _ | refine balloc ?_ _ | refine Below.drew ?_ | refine below_drewN ?_ _ | refine below_set ?_ (by first | omega | (dsimp only; omega)) _))⟩
set_option maxHeartbeats 1000000 in
theorem ready_in2 (a b : Sp) (i j : Int) (w : World) (hF : FarAt w) (ha : Hid (a = sq i)) (hb : Hid (b = sq j)) (h1 : Hid ((sq (i * 1013)).far = true)) (h2 : Hid ((sq (j * 1013)).far = false)) : Calls Tryd.prog 125 #[spV a, spV b] w fun e w' => e = .returned (.iface 125 (.int .i64 3)) ∧ Below w.heap.size w w' := by
  go_enter Tryd.func125, Tryd.ntmps125
  go_wp2_with fail
  refine (all_ok [a, b] _ 0 2 _ (hF.below (by repeat (first | exact Below.refl _ _ | refine balloc ?_ _ | refine Below.drew ?_ | refine below_drewN ?_ _ | refine below_set ?_ (by first | omega | (dsimp only; omega)) _))) (by simp) (spots_two a b _ _ (by simp) (by go_simp) (by go_simp) (by go_simp) (by go_simp) (by go_simp) (by go_simp)) (ok_two (ok_of ha.out) (ok_of hb.out))).mono ?_; rintro e w1 ⟨rfl, hb⟩
  obtain ⟨hc1, hf1⟩ := bcell hb
  have z1 := hb.size
  try simp only [World.size_alloc, World.size_setCell, World.size_drew] at z1
  have s1_0 : w.heap.size < w1.heap.size := by omega
  have s1_1 : w.heap.size + 1 < w1.heap.size := by omega
  have s1_2 : w.heap.size + 1 + 1 < w1.heap.size := by omega
  have hB1 : Below w.heap.size w w1 := below_seq (by repeat (first | exact Below.refl _ _ | refine balloc ?_ _ | refine Below.drew ?_ | refine below_drewN ?_ _ | refine below_set ?_ (by first | omega | (dsimp only; omega)) _)) hb
  clear hb
  go_wp2_with fail
  refine (inside_e a i true _ (hF.below (by repeat (first | exact hB1 | exact Below.refl _ _ | refine balloc ?_ _ | refine Below.drew ?_ | refine below_drewN ?_ _ | refine below_set ?_ (by first | omega | (dsimp only; omega)) _))) ha h1).mono ?_; rintro e w2 ⟨rfl, hb⟩
  obtain ⟨hc2, hf2⟩ := bcell hb
  have z2 := hb.size
  try simp only [World.size_alloc, World.size_setCell, World.size_drew] at z2
  have s2_0 : w.heap.size < w2.heap.size := by omega
  have s2_1 : w.heap.size + 1 < w2.heap.size := by omega
  have s2_2 : w.heap.size + 1 + 1 < w2.heap.size := by omega
  have hB2 : Below w.heap.size w w2 := below_seq (by repeat (first | exact hB1 | exact Below.refl _ _ | refine balloc ?_ _ | refine Below.drew ?_ | refine below_drewN ?_ _ | refine below_set ?_ (by first | omega | (dsimp only; omega)) _)) hb
  clear hb
  go_wp2_with fail
  refine (inside_e b j false _ (hF.below (by repeat (first | exact hB2 | exact Below.refl _ _ | refine balloc ?_ _ | refine Below.drew ?_ | refine below_drewN ?_ _ | refine below_set ?_ (by first | omega | (dsimp only; omega)) _))) hb h2).mono ?_; rintro e w3 ⟨rfl, hb⟩
  obtain ⟨hc3, hf3⟩ := bcell hb
  have z3 := hb.size
  try simp only [World.size_alloc, World.size_setCell, World.size_drew] at z3
  have s3_0 : w.heap.size < w3.heap.size := by omega
  have s3_1 : w.heap.size + 1 < w3.heap.size := by omega
  have s3_2 : w.heap.size + 1 + 1 < w3.heap.size := by omega
  have hB3 : Below w.heap.size w w3 := below_seq (by repeat (first | exact hB2 | exact Below.refl _ _ | refine balloc ?_ _ | refine Below.drew ?_ | refine below_drewN ?_ _ | refine below_set ?_ (by first | omega | (dsimp only; omega)) _)) hb
  clear hb
  go_wp2
  go_ret
  exact ⟨rfl, (by repeat (first | exact hB3 | exact Below.refl _ _ | refine balloc ?_ _ | refine Below.drew ?_ | refine below_drewN ?_ _ | refine below_set ?_ (by first | omega | (dsimp only; omega)) _))⟩
set_option maxHeartbeats 1000000 in
theorem ready_bad (a b : Sp) (E : Int) (w : World) (hF : FarAt w) (k : Nat) (hk : k < 2) (h : ∀ i (h : i < [a, b].length), i < k → Ok [a, b][i]) (he : sCheck [a, b][k] = E) (h0 : E ≠ 0) : Calls Tryd.prog 125 #[spV a, spV b] w fun e w' => e = .returned (.iface 125 (.int .i64 E)) ∧ Below w.heap.size w w' := by
  have he := Lib.hid he
  have h := Lib.hid h
  go_enter Tryd.func125, Tryd.ntmps125
  go_wp2_with fail
  refine (all_bad [a, b] _ 0 2 _ (hF.below (by repeat (first | exact Below.refl _ _ | refine balloc ?_ _ | refine Below.drew ?_ | refine below_drewN ?_ _ | refine below_set ?_ (by first | omega | (dsimp only; omega)) _))) (by simp) (spots_two a b _ _ (by simp) (by go_simp) (by go_simp) (by go_simp) (by go_simp) (by go_simp) (by go_simp)) k hk h.out (by rw [he.out]; exact h0)).mono ?_; rintro e w1 ⟨rfl, hb⟩
  rw [he.out]
  obtain ⟨hc1, hf1⟩ := bcell hb
  have z1 := hb.size
  try simp only [World.size_alloc, World.size_setCell, World.size_drew] at z1
  have s1_0 : w.heap.size < w1.heap.size := by omega
  have s1_1 : w.heap.size + 1 < w1.heap.size := by omega
  have s1_2 : w.heap.size + 1 + 1 < w1.heap.size := by omega
  have hB1 : Below w.heap.size w w1 := below_seq (by repeat (first | exact Below.refl _ _ | refine balloc ?_ _ | refine Below.drew ?_ | refine below_drewN ?_ _ | refine below_set ?_ (by first | omega | (dsimp only; omega)) _)) hb
  clear hb
  go_wp2
  go_ret
  exact ⟨rfl, (by repeat (first | exact hB1 | exact Below.refl _ _ | refine balloc ?_ _ | refine Below.drew ?_ | refine below_drewN ?_ _ | refine below_set ?_ (by first | omega | (dsimp only; omega)) _))⟩
/-- Two that count. -/
def Cnt (a : Sp) (i : Int) : Prop := a = sq (4 * i) ∧ 0 ≤ i ∧ i < 1013
theorem cnt_of {u : Int} (h : (sq (u * 1013)).far = true) : ∃ i, Cnt (sq u) i := by
  have := sq_far.mp h
  exact ⟨(u / 4) % 1013, sq_eq_iff.mpr (by omega), by omega, by omega⟩
/-- The pair, as a power of zeta. -/
theorem zP_cnt {a b : Sp} {i j : Int} (ha : Cnt a i) (hb : Cnt b j) (fa : a.far = false) (fb : b.far = false) : zP goOps a b = zeta.pow (i * j).toNat := by
  obtain ⟨rfl, i0, i1⟩ := ha
  obtain ⟨rfl, j0, j1⟩ := hb
  have hi : i ≠ 0 := fun e => by rw [e] at fa; rw [sq_far.mpr (by decide)] at fa; cases fa
  have hj : j ≠ 0 := fun e => by rw [e] at fb; rw [sq_far.mpr (by decide)] at fb; cases fb
  have := zP_all goOps_good (by decide) chkP_go (i := i.toNat) (j := j.toNat) (by omega) (by omega) (by omega) (by omega)
  rw [show ((i.toNat : Nat) : Int) = i by omega, show ((j.toNat : Nat) : Int) = j by omega] at this
  rw [this]; congr 1
  have e : ((i.toNat * j.toNat : Nat) : Int) = i * j := by rw [Int.natCast_mul, show ((i.toNat : Nat) : Int) = i by omega, show ((j.toNat : Nat) : Int) = j by omega]
  omega
theorem pairOf_z (a b : Sp) (i j : Int) (w : World) (hF : FarAt w) (hO : OneAt w) (ha : Cnt a i) (hb : Cnt b j) : Calls Tryd.prog 126 #[spV a, spV b] w fun e w' => e = .returned (twR (zeta.pow (i * j).toNat)) ∧ Below w.heap.size w w' := by
  cases fa : a.far
  · cases fb : b.far
    · rw [← zP_cnt ha hb fa fb]
      exact pairOf_c a b w hF hO (ok_of ha.1) (ok_of hb.1) fa fb
    · have : j = 0 := by have := hb.1; rw [this] at fb; have := sq_far.mp fb; have := hb.2; omega
      rw [this, Int.mul_zero, show (0 : Int).toNat = 0 from rfl, Z.pow_zero, twR_one]
      exact pairOf_farr a b w hO fa fb
  · have : i = 0 := by have := ha.1; rw [this] at fa; have := sq_far.mp fa; have := ha.2; omega
    rw [this, Int.zero_mul, show (0 : Int).toNat = 0 from rfl, Z.pow_zero, twR_one]
    exact pairOf_farl a b w hO fa
set_option maxHeartbeats 1000000 in
theorem pair_y (a b : Sp) (i j : Int) (z : Z) (w : World) (hF : FarAt w) (hO : OneAt w) (ha : Cnt a i) (hb : Cnt b j) (hz : Hid (zeta.pow (i * j).toNat = z)) : Calls Tryd.prog 67 #[spV a, spV b] w fun e w' => e = .returned (.tuple #[twR z, .nilIface]) ∧ Below w.heap.size w w' := by
  have ha := Lib.hid ha
  have hb := Lib.hid hb
  go_enter Tryd.func67, Tryd.ntmps67
  go_wp2_with fail
  refine (ready_ok a b (4 * i) (4 * j) _ (hF.below (by repeat (first | exact Below.refl _ _ | refine balloc ?_ _ | refine Below.drew ?_ | refine below_drewN ?_ _ | refine below_set ?_ (by first | omega | (dsimp only; omega)) _))) ha.out.1 hb.out.1 (sq_far.mpr (by omega)) (sq_far.mpr (by omega))).mono ?_; rintro e w1 ⟨rfl, hb⟩
  obtain ⟨hc1, hf1⟩ := bcell hb
  have z1 := hb.size
  try simp only [World.size_alloc, World.size_setCell, World.size_drew] at z1
  have s1_0 : w.heap.size < w1.heap.size := by omega
  have s1_1 : w.heap.size + 1 < w1.heap.size := by omega
  have s1_2 : w.heap.size + 1 + 1 < w1.heap.size := by omega
  have hB1 : Below w.heap.size w w1 := below_seq (by repeat (first | exact Below.refl _ _ | refine balloc ?_ _ | refine Below.drew ?_ | refine below_drewN ?_ _ | refine below_set ?_ (by first | omega | (dsimp only; omega)) _)) hb
  clear hb
  go_wp2_with fail
  refine (pairOf_z a b i j _ (hF.below (by repeat (first | exact hB1 | exact Below.refl _ _ | refine balloc ?_ _ | refine Below.drew ?_ | refine below_drewN ?_ _ | refine below_set ?_ (by first | omega | (dsimp only; omega)) _))) (hO.below (by repeat (first | exact hB1 | exact Below.refl _ _ | refine balloc ?_ _ | refine Below.drew ?_ | refine below_drewN ?_ _ | refine below_set ?_ (by first | omega | (dsimp only; omega)) _))) ha.out hb.out).mono ?_; rintro e w2 ⟨rfl, hb⟩
  rw [hz.out]
  obtain ⟨hc2, hf2⟩ := bcell hb
  have z2 := hb.size
  try simp only [World.size_alloc, World.size_setCell, World.size_drew] at z2
  have s2_0 : w.heap.size < w2.heap.size := by omega
  have s2_1 : w.heap.size + 1 < w2.heap.size := by omega
  have s2_2 : w.heap.size + 1 + 1 < w2.heap.size := by omega
  have hB2 : Below w.heap.size w w2 := below_seq (by repeat (first | exact hB1 | exact Below.refl _ _ | refine balloc ?_ _ | refine Below.drew ?_ | refine below_drewN ?_ _ | refine below_set ?_ (by first | omega | (dsimp only; omega)) _)) hb
  clear hb
  have r0 : w2.cell? ⟨w.heap.size + 1 + 1, 0, none⟩ = some (.int .i64 0) := by go_simp
  have r1 : w2.cell? ⟨w.heap.size + 1 + 1, 1, none⟩ = some (.int .i64 0) := by go_simp
  go_wp2
  have k := set2_cell (w := w2) (x := .int .i64 (fz z.re)) (y := .int .i64 (fz z.im)) r0 r1
  refine bodyPost_ret (v := .tuple #[twR z, .nilIface]) (by simp [results, Tryd.results67, go_sem, k.1, k.2]) rfl ⟨rfl, set2_below (by repeat (first | exact hB2 | exact Below.refl _ _ | refine balloc ?_ _ | refine Below.drew ?_ | refine below_drewN ?_ _ | refine below_set ?_ (by first | omega | (dsimp only; omega)) _)) (by omega)⟩
set_option maxHeartbeats 1000000 in
theorem pair_n (a b : Sp) (E : Int) (w : World) (h : Hid (∀ w1 : World, Below w.heap.size w w1 → Calls Tryd.prog 125 #[spV a, spV b] w1 fun e w' => e = .returned (.iface 125 (.int .i64 E)) ∧ Below w1.heap.size w1 w')) : Calls Tryd.prog 67 #[spV a, spV b] w fun e w' => e = .returned (.tuple #[.agg #[.int .i64 0, .int .i64 0], .iface 125 (.int .i64 E)]) ∧ Below w.heap.size w w' := by
  go_enter Tryd.func67, Tryd.ntmps67
  go_wp2_with fail
  refine (h.out _ (by repeat (first | exact Below.refl _ _ | refine balloc ?_ _ | refine Below.drew ?_ | refine below_drewN ?_ _ | refine below_set ?_ (by first | omega | (dsimp only; omega)) _))).mono ?_; rintro e w1 ⟨rfl, hb⟩
  obtain ⟨hc1, hf1⟩ := bcell hb
  have z1 := hb.size
  try simp only [World.size_alloc, World.size_setCell, World.size_drew] at z1
  have s1_0 : w.heap.size < w1.heap.size := by omega
  have s1_1 : w.heap.size + 1 < w1.heap.size := by omega
  have s1_2 : w.heap.size + 1 + 1 < w1.heap.size := by omega
  have hB1 : Below w.heap.size w w1 := below_seq (by repeat (first | exact Below.refl _ _ | refine balloc ?_ _ | refine Below.drew ?_ | refine below_drewN ?_ _ | refine below_set ?_ (by first | omega | (dsimp only; omega)) _)) hb
  clear hb
  have r0 : w1.cell? ⟨w.heap.size + 1 + 1, 0, none⟩ = some (.int .i64 0) := by go_simp
  have r1 : w1.cell? ⟨w.heap.size + 1 + 1, 1, none⟩ = some (.int .i64 0) := by go_simp
  go_wp2
  have k := set2_cell (w := w1) (x := .int .i64 0) (y := .int .i64 0) r0 r1
  refine bodyPost_ret (v := .tuple #[.agg #[.int .i64 0, .int .i64 0], .iface 125 (.int .i64 E)]) (by simp [results, Tryd.results67, go_sem, k.1, k.2]) rfl ⟨rfl, set2_below (by repeat (first | exact hB1 | exact Below.refl _ _ | refine balloc ?_ _ | refine Below.drew ?_ | refine below_drewN ?_ _ | refine below_set ?_ (by first | omega | (dsimp only; omega)) _)) (by omega)⟩
end Go.Proofs.YtnlaofapjldciaaDoor
namespace Go.Proofs.YtnlaofapjldciaaDoor
open Go.RowKit
set_option maxRecDepth 100000
set_option linter.unusedVariables false
set_option linter.unusedSimpArgs false
@[go_sem] theorem field_far4 (x y : Value) (f : Bool) (w : World) : Sem.run Tryd.prog (Instr.field 24 (.agg #[x, y, .bool f]) 2) w = .ok (.bool f) w := by kernel_rfl
set_option maxHeartbeats 1000000 in
theorem sealCheck_ok (key R : Sp) (S : Int) (t : ByteArray) (w : World) (hF : FarAt w) (hk : Ok key) (hR : Ok R) (hz : t.size ≤ 60) (s0 : 0 ≤ S) (s1 : S < 1013) :
    Calls Tryd.prog 117 #[spV key, .string t, slV R S] w fun e w' => e = .returned .nilIface ∧ Below w.heap.size w w' := by
  go_enter Tryd.func117, Tryd.ntmps117
  go_wp2_with fail
  refine (text_y t _ hz).mono ?_; rintro e w' ⟨rfl, rfl⟩
  go_wp2_with fail
  refine (all_ok [key, R] _ 0 2 _ (hF.below (by repeat (first | exact Below.refl _ _ | refine balloc ?_ _ | refine Below.drew ?_ | refine below_drewN ?_ _ | refine below_set ?_ (by first | omega | (dsimp only; omega)) _))) (by simp) (spots_two key R _ _ (by simp) (by go_simp) (by go_simp) (by go_simp) (by go_simp) (by go_simp) (by go_simp)) (ok_two hk hR)).mono ?_; rintro e w1 ⟨rfl, hb⟩
  obtain ⟨hc1, hf1⟩ := bcell hb
  have z1 := hb.size
  try simp only [World.size_alloc, World.size_setCell, World.size_drew] at z1
  have s1_0 : w.heap.size < w1.heap.size := by omega
  have s1_1 : w.heap.size + 1 < w1.heap.size := by omega
  have s1_2 : w.heap.size + 1 + 1 < w1.heap.size := by omega
  have hB1 : Below w.heap.size w w1 := below_seq (by repeat (first | exact Below.refl _ _ | refine balloc ?_ _ | refine Below.drew ?_ | refine below_drewN ?_ _ | refine below_set ?_ (by first | omega | (dsimp only; omega)) _)) hb
  clear hb
  go_wp2_with fail
  refine (rest_y S _ s0 s1).mono ?_; rintro e w' ⟨rfl, rfl⟩
  go_wp2
  go_ret
  exact ⟨rfl, (by repeat (first | exact hB1 | exact Below.refl _ _ | refine balloc ?_ _ | refine Below.drew ?_ | refine below_drewN ?_ _ | refine below_set ?_ (by first | omega | (dsimp only; omega)) _))⟩
set_option maxHeartbeats 2000000 in
theorem sealOff_ok (key R B C D E Z : Sp) (a c S : Int) (t : ByteArray) (w : World) (hF : FarAt w) (hk : Ok key) (hR : Ok R) (hz : t.size ≤ 60) (hc : Hid (askN R key t.data.toList = c)) (ha : Hid (key = sq a))
    (hB : Hid (sq (4 * S) = B)) (hC : Hid (sq (a * c) = C)) (hD : Hid (sSum R C = D)) (hE : Hid (sTurned D = E)) (hZ : Hid (sSum B E = Z)) (oB : Ok B) (oC : Ok C) (oD : Ok D) (oE : Ok E) :
    Calls Tryd.prog 118 #[spV key, .string t, slV R S] w fun e w' => e = .returned (spV Z) ∧ Below w.heap.size w w' := by
  go_enter Tryd.func118, Tryd.ntmps118
  go_wp2_with fail
  refine (ask_e R key t c _ hR hk hz hc).mono ?_; rintro e w1 ⟨rfl, hb⟩
  obtain ⟨hc1, hf1⟩ := bcell hb
  have z1 := hb.size
  try simp only [World.size_alloc, World.size_setCell, World.size_drew] at z1
  have s1_0 : w.heap.size < w1.heap.size := by omega
  have s1_1 : w.heap.size + 1 < w1.heap.size := by omega
  have s1_2 : w.heap.size + 1 + 1 < w1.heap.size := by omega
  have hB1 : Below w.heap.size w w1 := below_seq (by repeat (first | exact Below.refl _ _ | refine balloc ?_ _ | refine Below.drew ?_ | refine below_drewN ?_ _ | refine below_set ?_ (by first | omega | (dsimp only; omega)) _)) hb
  clear hb
  go_wp2_with fail
  refine wp_region_grow_tail 11 Tryd.mixed (by kernel_rfl) ?_
  simp only [List.take_succ_cons, List.take_zero, List.drop_succ_cons, List.drop_zero]
  repeat (quiet_step ((first | (go_at_call 83; exact grow_of (by_e S B _ (hF.below (below_seq (by repeat (first | exact hB1 | exact Below.refl _ _ | refine balloc ?_ _ | refine Below.drew ?_ | refine below_drewN ?_ _ | refine below_set ?_ (by first | omega | (dsimp only; omega)) _)) (Grew.h _))) hB)) | (go_at_call 102; exact grow_of (of_e key C a c _ (hF.below (below_seq (by repeat (first | exact hB1 | exact Below.refl _ _ | refine balloc ?_ _ | refine Below.drew ?_ | refine below_drewN ?_ _ | refine below_set ?_ (by first | omega | (dsimp only; omega)) _)) (Grew.h _))) ha hC)) | (go_at_call 131; exact grow_of (turned_e D E _ oD hE)) | (go_at_call_of 107 R.x; exact grow_of (sum_e R C D _ (hF.below (below_seq (by repeat (first | exact hB1 | exact Below.refl _ _ | refine balloc ?_ _ | refine Below.drew ?_ | refine below_drewN ?_ _ | refine below_set ?_ (by first | omega | (dsimp only; omega)) _)) (Grew.h _))) hR oC hD)) | (go_at_call 107; exact grow_of (sum_e B E Z _ (hF.below (below_seq (by repeat (first | exact hB1 | exact Below.refl _ _ | refine balloc ?_ _ | refine Below.drew ?_ | refine below_drewN ?_ _ | refine below_set ?_ (by first | omega | (dsimp only; omega)) _)) (Grew.h _))) oB oE hZ)))))
  refine wpQuiet_nil ?_
  intro _ hw'
  obtain ⟨x2, rfl⟩ := hw'
  have z2 := x2.h.size
  try simp only [World.size_alloc, World.size_setCell, World.size_drew] at z2
  have s2_0 : w.heap.size < x2.w.heap.size := by omega
  have s2_1 : w.heap.size + 1 < x2.w.heap.size := by omega
  have s2_2 : w.heap.size + 1 + 1 < x2.w.heap.size := by omega
  have hB2 : Below w.heap.size w x2.w := below_seq (by repeat (first | exact hB1 | exact Below.refl _ _ | refine balloc ?_ _ | refine Below.drew ?_ | refine below_drewN ?_ _ | refine below_set ?_ (by first | omega | (dsimp only; omega)) _)) x2.h
  have r0 : x2.w.cell? ⟨w.heap.size + 1 + 1, 0, none⟩ = some (.int .i64 0) := by go_simp
  have r1 : x2.w.cell? ⟨w.heap.size + 1 + 1, 1, none⟩ = some (.int .i64 0) := by go_simp
  have r2 : x2.w.cell? ⟨w.heap.size + 1 + 1, 2, none⟩ = some (.bool false) := by go_simp
  go_wp2
  have k := set3_cell (w := x2.w) (x := .int .i64 (Z).x) (y := .int .i64 (Z).y) (z := .bool (Z).far) r0 r1 r2
  refine bodyPost_ret (v := spV (Z)) (by simp [results, Tryd.results118, go_sem, k.1, k.2.1, k.2.2]) rfl ⟨rfl, set3_below (by repeat (first | exact hB2 | exact Below.refl _ _ | refine balloc ?_ _ | refine Below.drew ?_ | refine below_drewN ?_ _ | refine below_set ?_ (by first | omega | (dsimp only; omega)) _)) (by omega)⟩
set_option maxHeartbeats 1000000 in
theorem sealVerify_ok (key R Z : Sp) (S : Int) (b : Bool) (t : ByteArray) (w : World) (hF : FarAt w) (hk : Ok key) (hR : Ok R) (hz : t.size ≤ 60) (s0 : 0 ≤ S) (s1 : S < 1013)
    (hO : Hid (∀ w1 : World, FarAt w1 → Calls Tryd.prog 118 #[spV key, .string t, slV R S] w1 fun e w' => e = .returned (spV Z) ∧ Below w1.heap.size w1 w')) (hb : Z.far = b) :
    Calls Tryd.prog 122 #[spV key, .string t, slV R S] w fun e w' => e = .returned (.tuple #[.bool b, .nilIface]) ∧ Below w.heap.size w w' := by
  subst hb
  go_enter Tryd.func122, Tryd.ntmps122
  go_wp2_with fail
  refine (sealCheck_ok key R S t _ (hF.below (by repeat (first | exact Below.refl _ _ | refine balloc ?_ _ | refine Below.drew ?_ | refine below_drewN ?_ _ | refine below_set ?_ (by first | omega | (dsimp only; omega)) _))) hk hR hz s0 s1).mono ?_; rintro e w1 ⟨rfl, hb⟩
  obtain ⟨hc1, hf1⟩ := bcell hb
  have z1 := hb.size
  try simp only [World.size_alloc, World.size_setCell, World.size_drew] at z1
  have s1_0 : w.heap.size < w1.heap.size := by omega
  have s1_1 : w.heap.size + 1 < w1.heap.size := by omega
  have hB1 : Below w.heap.size w w1 := below_seq (by repeat (first | exact Below.refl _ _ | refine balloc ?_ _ | refine Below.drew ?_ | refine below_drewN ?_ _ | refine below_set ?_ (by first | omega | (dsimp only; omega)) _)) hb
  clear hb
  go_wp2_with fail
  refine (hO.out _ (hF.below (by repeat (first | exact hB1 | exact Below.refl _ _ | refine balloc ?_ _ | refine Below.drew ?_ | refine below_drewN ?_ _ | refine below_set ?_ (by first | omega | (dsimp only; omega)) _)))).mono ?_; rintro e w2 ⟨rfl, hb⟩
  obtain ⟨hc2, hf2⟩ := bcell hb
  have z2 := hb.size
  try simp only [World.size_alloc, World.size_setCell, World.size_drew] at z2
  have s2_0 : w.heap.size < w2.heap.size := by omega
  have s2_1 : w.heap.size + 1 < w2.heap.size := by omega
  have hB2 : Below w.heap.size w w2 := below_seq (by repeat (first | exact hB1 | exact Below.refl _ _ | refine balloc ?_ _ | refine Below.drew ?_ | refine below_drewN ?_ _ | refine below_set ?_ (by first | omega | (dsimp only; omega)) _)) hb
  clear hb
  go_wp2
  go_ret2
  exact ⟨rfl, (by repeat (first | exact hB2 | exact Below.refl _ _ | refine balloc ?_ _ | refine Below.drew ?_ | refine below_drewN ?_ _ | refine below_set ?_ (by first | omega | (dsimp only; omega)) _))⟩
/-- What a seal comes to: of the key sq a and the spot sq r. -/
theorem verify_e (key R : Sp) (a r c S : Int) (b : Bool) (t : ByteArray) (w : World) (hF : FarAt w) (hz : t.size ≤ 60) (s0 : 0 ≤ S) (s1 : S < 1013) (ha : Hid (key = sq a)) (hr : Hid (R = sq r)) (hc : Hid (askN R key t.data.toList = c)) (hb : Hid ((sq (4 * S + -(r + a * c))).far = b)) :
    Calls Tryd.prog 122 #[spV key, .string t, slV R S] w fun e w' => e = .returned (.tuple #[.bool b, .nilIface]) ∧ Below w.heap.size w w' := by
  have oR : Ok R := ok_of hr.out
  have oK : Ok key := ok_of ha.out
  refine sealVerify_ok key R _ S b t w hF oK oR hz s0 s1 (fun w1 hF1 => sealOff_ok key R _ _ (sq (r + a * c)) _ (sq (4 * S + -(r + a * c))) a c S t w1 hF1 oK oR hz hc ha rfl rfl ?_ rfl ?_ (sq_ok _) (sq_ok _) (sq_ok _) (turned_ok (sq_ok _)).1) hb.out
  · show _ = _; rw [hr.out, sq_add]
  · show _ = _; rw [sq_neg, sq_add]
end Go.Proofs.YtnlaofapjldciaaDoor
namespace Go.Proofs.YtnlaofapjldciaaDoor
open Go.RowKit
set_option maxRecDepth 100000
set_option linter.unusedVariables false
set_option linter.unusedSimpArgs false
set_option maxHeartbeats 1000000 in
theorem sign_n1 (x k : Int) (t : ByteArray) (w : World) (h : ¬ (1 ≤ x ∧ x < 1013)) : Calls Tryd.prog 130 #[.int .i64 x, .int .i64 k, .string t] w fun e w' => e = .returned (.tuple #[slV ⟨0, 0, false⟩ 0, .iface 125 (.int .i64 1)]) ∧ Below w.heap.size w w' := by
  go_enter Tryd.func130, Tryd.ntmps130
  go_wp2_with fail
  refine (secret_n x _ h).mono ?_; rintro e w' ⟨rfl, rfl⟩
  go_wp2
  refine bodyPost_ret (v := .tuple #[slV ⟨0, 0, false⟩ 0, .iface 125 (.int .i64 1)]) (by simp [results, Tryd.results130, go_sem]) rfl ⟨rfl, (by repeat (first | exact Below.refl _ _ | refine balloc ?_ _ | refine Below.drew ?_ | refine below_drewN ?_ _ | refine below_set ?_ (by first | omega | (dsimp only; omega)) _))⟩
set_option maxHeartbeats 1000000 in
theorem sign_n2 (x k : Int) (t : ByteArray) (w : World) (x1 : 1 ≤ x) (x2 : x < 1013) (h : ¬ (1 ≤ k ∧ k < 1013)) : Calls Tryd.prog 130 #[.int .i64 x, .int .i64 k, .string t] w fun e w' => e = .returned (.tuple #[slV ⟨0, 0, false⟩ 0, .iface 125 (.int .i64 1)]) ∧ Below w.heap.size w w' := by
  go_enter Tryd.func130, Tryd.ntmps130
  go_wp2_with fail
  refine (secret_y x _ x1 x2).mono ?_; rintro e w' ⟨rfl, rfl⟩
  go_wp2_with fail
  refine (secret_n k _ h).mono ?_; rintro e w' ⟨rfl, rfl⟩
  go_wp2
  refine bodyPost_ret (v := .tuple #[slV ⟨0, 0, false⟩ 0, .iface 125 (.int .i64 1)]) (by simp [results, Tryd.results130, go_sem]) rfl ⟨rfl, (by repeat (first | exact Below.refl _ _ | refine balloc ?_ _ | refine Below.drew ?_ | refine below_drewN ?_ _ | refine below_set ?_ (by first | omega | (dsimp only; omega)) _))⟩
set_option maxHeartbeats 1000000 in
theorem sign_n3 (x k : Int) (t : ByteArray) (w : World) (x1 : 1 ≤ x) (x2 : x < 1013) (k1 : 1 ≤ k) (k2 : k < 1013) (h : 60 < t.size) (hz : t.size ≤ 140737488351232) : Calls Tryd.prog 130 #[.int .i64 x, .int .i64 k, .string t] w fun e w' => e = .returned (.tuple #[slV ⟨0, 0, false⟩ 0, .iface 125 (.int .i64 4)]) ∧ Below w.heap.size w w' := by
  go_enter Tryd.func130, Tryd.ntmps130
  go_wp2_with fail
  refine (secret_y x _ x1 x2).mono ?_; rintro e w' ⟨rfl, rfl⟩
  go_wp2_with fail
  refine (secret_y k _ k1 k2).mono ?_; rintro e w' ⟨rfl, rfl⟩
  go_wp2_with fail
  refine (text_n t _ h hz).mono ?_; rintro e w' ⟨rfl, rfl⟩
  go_wp2
  refine bodyPost_ret (v := .tuple #[slV ⟨0, 0, false⟩ 0, .iface 125 (.int .i64 4)]) (by simp [results, Tryd.results130, go_sem]) rfl ⟨rfl, (by repeat (first | exact Below.refl _ _ | refine balloc ?_ _ | refine Below.drew ?_ | refine below_drewN ?_ _ | refine below_set ?_ (by first | omega | (dsimp only; omega)) _))⟩
/-- A seal refused, for whatever reason. -/
theorem sign_n (x k : Int) (t : ByteArray) (hz : t.size ≤ 140737488351232) (h : ¬ (1 ≤ x ∧ x < 1013 ∧ 1 ≤ k ∧ k < 1013 ∧ t.size ≤ 60)) : ∃ E : Int, ∀ w : World, Calls Tryd.prog 130 #[.int .i64 x, .int .i64 k, .string t] w fun e w' => e = .returned (.tuple #[slV ⟨0, 0, false⟩ 0, .iface 125 (.int .i64 E)]) ∧ Below w.heap.size w w' := by
  by_cases hx : 1 ≤ x ∧ x < 1013
  · by_cases hk : 1 ≤ k ∧ k < 1013
    · exact ⟨4, fun w => sign_n3 x k t w hx.1 hx.2 hk.1 hk.2 (by omega) hz⟩
    · exact ⟨1, fun w => sign_n2 x k t w hx.1 hx.2 hk⟩
  · exact ⟨1, fun w => sign_n1 x k t w hx⟩
theorem mul_q {c x : Int} (c0 : 0 ≤ c) (c1 : c < 1013) (x0 : 1 ≤ x) (x1 : x < 1013) : 0 ≤ c * x ∧ c * x ≤ 1024144 := by
  refine ⟨Int.mul_nonneg c0 (by omega), ?_⟩
  have : c * x ≤ 1012 * 1012 := Int.mul_le_mul (by omega) (by omega) (by omega) (by decide)
  omega
/-- A seal, all right. -/
theorem sign_e (x k : Int) (t : ByteArray) (R K : Sp) (c S : Int) (w : World) (hF : FarAt w) (x1 : 1 ≤ x) (x2 : x < 1013) (k1 : 1 ≤ k) (k2 : k < 1013) (hz : t.size ≤ 60) (hR : Hid (sq (4 * k) = R)) (hK : Hid (sq (4 * x) = K)) (hc : Hid (askN R K t.data.toList = c)) (hS : Hid ((k + c * x) % 1013 = S)) :
    Calls Tryd.prog 130 #[.int .i64 x, .int .i64 k, .string t] w fun e w' => e = .returned (.tuple #[slV R S, .nilIface]) ∧ Below w.heap.size w w' := by
  have hb := askN_bd R K t.data.toList
  rw [hc.out] at hb
  have hm := mul_q hb.1 hb.2 x1 x2
  exact sign_ok x k t R K c S w hF x1 x2 k1 k2 hz hR hK (ok_of hR.out.symm) (ok_of hK.out.symm) hc (IntWalk.i64_in _ (by omega)) (IntWalk.i64_in _ (by omega)) (by rw [Int.tmod_eq_emod_of_nonneg (by omega)]; exact hS.out)
theorem tmod_q (n : Int) : -1012 ≤ n.tmod 1013 ∧ n.tmod 1013 ≤ 1012 := by
  have h1 := Int.tmod_lt_of_pos n (b := 1013) (by decide)
  have h2 := Int.lt_tmod_of_pos n (b := 1013) (by decide)
  omega
theorem tmod_qe (n : Int) : n.tmod 1013 % 1013 = n % 1013 := by
  have := Int.mul_tdiv_add_tmod n 1013; omega
end Go.Proofs.YtnlaofapjldciaaDoor
namespace Go.Proofs.YtnlaofapjldciaaDoor
open Go.RowKit
set_option maxRecDepth 100000
set_option linter.unusedVariables false
set_option linter.unusedSimpArgs false
theorem zeta_mod (n : Nat) : zeta.pow n = zeta.pow (n % 1013) := by
  have : n = 1013 * (n / 1013) + n % 1013 := by omega
  conv => lhs; rw [this]
  rw [Z.pow_add, Z.pow_mul, zeta_whole, Z.one_pow, Z.one_mul]
/-- The power of zeta, of any number. -/
def zp (n : Int) : Z := zeta.pow (n % 1013).toNat
theorem zp_nat {n : Int} (h : 0 ≤ n) : zeta.pow n.toNat = zp n := by
  unfold zp; rw [zeta_mod]; congr 1; omega
theorem zp_eq {n m : Int} (h : n % 1013 = m % 1013) : zp n = zp m := by unfold zp; rw [h]
theorem zp_mul (n m : Int) : (zp n).mul (zp m) = zp (n + m) := by
  unfold zp; rw [← Z.pow_add, zeta_mod]; congr 1; omega
theorem zp_pow (a n : Int) (h : 0 ≤ n) : (zp a).pow n.toNat = zp (a * n) := by
  have e : ((((a % 1013).toNat * n.toNat) % 1013 : Nat) : Int) = (a * n) % 1013 := by
    rw [Int.natCast_emod, Int.natCast_mul, show (((a % 1013).toNat : Nat) : Int) = a % 1013 by omega, show ((n.toNat : Nat) : Int) = n by omega]
    show (a % 1013 * n) % 1013 = (a * n) % 1013
    rw [Int.mul_emod, Int.emod_emod_of_dvd _ (Int.dvd_refl _), ← Int.mul_emod]
  unfold zp; rw [← Z.pow_mul, zeta_mod]; congr 1
  generalize (a * n) % 1013 = k at *
  omega
theorem zp_norm (n : Int) : (zp n).norm = 1 := by unfold zp; rw [Z.norm_pow, zeta_norm, fone_pow]
theorem zp_one : zp 1 = zeta := by unfold zp; exact Z.pow_one _
attribute [irreducible] zp
theorem pair_e (a b : Sp) (i j : Int) (z : Z) (w : World) (hF : FarAt w) (hO : OneAt w) (ha : Hid (Cnt a i)) (hb : Hid (Cnt b j)) (hz : Hid (zp (i * j) = z)) : Calls Tryd.prog 67 #[spV a, spV b] w fun e w' => e = .returned (.tuple #[twR z, .nilIface]) ∧ Below w.heap.size w w' :=
  pair_y a b i j z w hF hO ha.out hb.out (by show _ = _; rw [zp_nat (Int.mul_nonneg ha.out.2.1 hb.out.2.1)]; exact hz.out)
theorem pair_base (w : World) (hF : FarAt w) (hO : OneAt w) : Calls Tryd.prog 67 #[spV ⟨1189, 3667, false⟩, spV ⟨1189, 3667, false⟩] w fun e w' => e = .returned (.tuple #[.agg #[.int .i64 2824, .int .i64 4013], .nilIface]) ∧ Below w.heap.size w w' :=
  pair_e _ _ 1 1 zeta w hF hO ⟨sq_4.symm, by omega, by omega⟩ ⟨sq_4.symm, by omega, by omega⟩ zp_one
theorem mul_e (y z V : Z) (w : World) (h : Hid (y.mul z = V)) : Calls Tryd.prog 128 #[twR y, twR z] w fun e w' => e = .returned (twR V) ∧ Below w.heap.size w w' := by
  have := mul_z y z w; rw [h.out] at this; exact this
/-- A pair that is refused. -/
def PairNo (a b : Sp) (E : Int) : Prop := ∀ w : World, FarAt w → Calls Tryd.prog 67 #[spV a, spV b] w fun e w' => e = .returned (.tuple #[.agg #[.int .i64 0, .int .i64 0], .iface 125 (.int .i64 E)]) ∧ Below w.heap.size w w'
theorem pair_cases (a b : Sp) : (∃ i j, Cnt a i ∧ Cnt b j) ∨ ∃ E, PairNo a b E := by
  by_cases ca : sCheck a = 0
  case neg => exact .inr ⟨_, fun w hF => pair_n a b _ w (fun w1 hb => ready_bad a b _ w1 (hF.below hb) 0 (by omega) (fun i _ h => absurd h (by omega)) rfl ca)⟩
  have oa := (ok_iff _).mp ca
  by_cases cb : sCheck b = 0
  case neg => exact .inr ⟨_, fun w hF => pair_n a b _ w (fun w1 hb => ready_bad a b _ w1 (hF.below hb) 1 (by omega) (ok_first a b oa) rfl cb)⟩
  have ob := (ok_iff _).mp cb
  obtain ⟨u, -, -, eu⟩ := sq_all oa
  obtain ⟨v, -, -, ev⟩ := sq_all ob
  cases fu : (sq (u * 1013)).far
  · exact .inr ⟨3, fun w hF => pair_n a b _ w (fun w1 hb => ready_in a b u v w1 (hF.below hb) eu ev fu)⟩
  cases fv : (sq (v * 1013)).far
  · exact .inr ⟨3, fun w hF => pair_n a b _ w (fun w1 hb => ready_in2 a b u v w1 (hF.below hb) eu ev fu fv)⟩
  obtain ⟨i, hi⟩ := cnt_of fu
  obtain ⟨j, hj⟩ := cnt_of fv
  exact .inl ⟨i, j, eu ▸ hi, ev ▸ hj⟩
theorem cnt_ok {a : Sp} {i : Int} (h : Cnt a i) : Ok a := ok_of h.1
theorem cnt_mod (i : Int) : Cnt (sq (4 * i)) (i % 1013) := ⟨sq_eq_iff.mpr (by omega), by omega, by omega⟩
set_option maxHeartbeats 2000000 in
theorem one_core (X Y : Int) (R : Sp) (c S : Int) (w : World) (hF : FarAt w) (s0 : 0 ≤ S) (s1 : S < 1013) (hK : Hid (sq (4 * 3) = ⟨X, Y, false⟩)) (hR : Hid (sq (4 * 5) = R)) (hc : Hid (askN R ⟨X, Y, false⟩ (⟨#[97]⟩ : ByteArray).data.toList = c)) (hS : Hid ((5 + c * 3) % 1013 = S)) (hv : Hid ((sq (4 * S + -(4 * 5 + 4 * 3 * c))).far = true)) :
    Calls Tryd.prog 79 #[] w fun e w' => e = .returned (.bool true) ∧ Below w.heap.size w w' := by
  go_enter Tryd.func79, Tryd.ntmps79
  go_wp2_with fail
  refine (key_e 3 ⟨X, Y, false⟩ _ (hF.below (by repeat (first | exact Below.refl _ _ | refine balloc ?_ _ | refine Below.drew ?_ | refine below_drewN ?_ _ | refine below_set ?_ (by first | omega | (dsimp only; omega)) _))) (by omega) (by omega) hK).mono ?_; rintro e w1 ⟨rfl, hb⟩
  obtain ⟨hc1, hf1⟩ := bcell hb
  have z1 := hb.size
  try simp only [World.size_alloc, World.size_setCell, World.size_drew] at z1
  have hB1 : Below w.heap.size w w1 := below_seq (by repeat (first | exact Below.refl _ _ | refine balloc ?_ _ | refine Below.drew ?_ | refine below_drewN ?_ _ | refine below_set ?_ (by first | omega | (dsimp only; omega)) _)) hb
  clear hb
  go_wp2_with fail
  refine (sign_e 3 5 ⟨#[97]⟩ R ⟨X, Y, false⟩ c S _ (hF.below (by repeat (first | exact hB1 | exact Below.refl _ _ | refine balloc ?_ _ | refine Below.drew ?_ | refine below_drewN ?_ _ | refine below_set ?_ (by first | omega | (dsimp only; omega)) _))) (by omega) (by omega) (by omega) (by omega) (by show 1 ≤ _; omega) hR hK hc hS).mono ?_; rintro e w2 ⟨rfl, hb⟩
  obtain ⟨hc2, hf2⟩ := bcell hb
  have z2 := hb.size
  try simp only [World.size_alloc, World.size_setCell, World.size_drew] at z2
  have s2_0 : w1.heap.size < w2.heap.size := by omega
  have hB2 : Below w.heap.size w w2 := below_seq (by repeat (first | exact hB1 | exact Below.refl _ _ | refine balloc ?_ _ | refine Below.drew ?_ | refine below_drewN ?_ _ | refine below_set ?_ (by first | omega | (dsimp only; omega)) _)) hb
  clear hb
  go_wp2_with fail
  refine (verify_e ⟨X, Y, false⟩ R (4 * 3) (4 * 5) c S true ⟨#[97]⟩ _ (hF.below (by repeat (first | exact hB2 | exact Below.refl _ _ | refine balloc ?_ _ | refine Below.drew ?_ | refine below_drewN ?_ _ | refine below_set ?_ (by first | omega | (dsimp only; omega)) _))) (by show 1 ≤ _; omega) s0 s1 (show _ = _ from hK.out.symm) (show _ = _ from hR.out.symm) hc hv).mono ?_; rintro e w3 ⟨rfl, hb⟩
  obtain ⟨hc3, hf3⟩ := bcell hb
  have z3 := hb.size
  try simp only [World.size_alloc, World.size_setCell, World.size_drew] at z3
  have s3_0 : w1.heap.size < w3.heap.size := by omega
  have s3_1 : w2.heap.size < w3.heap.size := by omega
  have hB3 : Below w.heap.size w w3 := below_seq (by repeat (first | exact hB2 | exact Below.refl _ _ | refine balloc ?_ _ | refine Below.drew ?_ | refine below_drewN ?_ _ | refine below_set ?_ (by first | omega | (dsimp only; omega)) _)) hb
  clear hb
  go_wp2
  go_ret
  exact ⟨rfl, (by repeat (first | exact hB3 | exact Below.refl _ _ | refine balloc ?_ _ | refine Below.drew ?_ | refine below_drewN ?_ _ | refine below_set ?_ (by first | omega | (dsimp only; omega)) _))⟩
theorem one_c (w : World) (hF : FarAt w) : Calls Tryd.prog 79 #[] w fun e w' => e = .returned (.bool true) ∧ Below w.heap.size w w' := by
  have hK : sq (4 * 3) = ⟨(sq (4 * 3)).x, (sq (4 * 3)).y, false⟩ := Sp.ext' rfl rfl (sq_far_not (by decide))
  refine one_core _ _ _ _ _ w hF (Int.emod_nonneg _ (by decide)) (Int.emod_lt_of_pos _ (by decide)) hK rfl rfl rfl (sq_far.mpr ?_)
  omega
end Go.Proofs.YtnlaofapjldciaaDoor
namespace Go.Proofs.YtnlaofapjldciaaDoor
open Go.RowKit
set_option maxRecDepth 100000
set_option linter.unusedVariables false
set_option linter.unusedSimpArgs false
theorem of_z (a b : Sp) (i j : Int) (z : Z) (w : World) (hF : FarAt w) (hO : OneAt w) (ha : Hid (Cnt a i)) (hb : Hid (Cnt b j)) (hz : Hid (zp (i * j) = z)) : Calls Tryd.prog 126 #[spV a, spV b] w fun e w' => e = .returned (twR z) ∧ Below w.heap.size w w' := by
  have := pairOf_z a b i j w hF hO ha.out hb.out
  rw [zp_nat (Int.mul_nonneg ha.out.2.1 hb.out.2.1), hz.out] at this; exact this
set_option maxHeartbeats 2000000 in
theorem same_y (a b c d : Sp) (i j k l : Int) (z : Z) (w : World) (hF : FarAt w) (hO : OneAt w) (ha : Hid (Cnt a i)) (hb : Hid (Cnt b j)) (hc : Hid (Cnt c k)) (hd : Hid (Cnt d l)) (h1 : Hid (zp (i * j) = z)) (h2 : Hid (zp (k * l) = z)) : Calls Tryd.prog 68 #[spV a, spV b, spV c, spV d] w fun e w' => e = .returned (.tuple #[.bool true, .nilIface]) ∧ Below w.heap.size w w' := by
  go_enter Tryd.func68, Tryd.ntmps68
  go_wp2_with fail
  refine (ready_ok a b (4 * i) (4 * j) _ (hF.below (by repeat (first | exact Below.refl _ _ | refine balloc ?_ _ | refine Below.drew ?_ | refine below_drewN ?_ _ | refine below_set ?_ (by first | omega | (dsimp only; omega)) _))) ha.out.1 hb.out.1 (sq_far.mpr (by omega)) (sq_far.mpr (by omega))).mono ?_; rintro e w1 ⟨rfl, hb⟩
  obtain ⟨hc1, hf1⟩ := bcell hb
  have z1 := hb.size
  try simp only [World.size_alloc, World.size_setCell, World.size_drew] at z1
  have s1_0 : w.heap.size < w1.heap.size := by omega
  have s1_1 : w.heap.size + 1 < w1.heap.size := by omega
  have s1_2 : w.heap.size + 1 + 1 < w1.heap.size := by omega
  have s1_3 : w.heap.size + 1 + 1 + 1 < w1.heap.size := by omega
  have hB1 : Below w.heap.size w w1 := below_seq (by repeat (first | exact Below.refl _ _ | refine balloc ?_ _ | refine Below.drew ?_ | refine below_drewN ?_ _ | refine below_set ?_ (by first | omega | (dsimp only; omega)) _)) hb
  clear hb
  go_wp2_with fail
  refine (ready_ok c d (4 * k) (4 * l) _ (hF.below (by repeat (first | exact hB1 | exact Below.refl _ _ | refine balloc ?_ _ | refine Below.drew ?_ | refine below_drewN ?_ _ | refine below_set ?_ (by first | omega | (dsimp only; omega)) _))) hc.out.1 hd.out.1 (sq_far.mpr (by omega)) (sq_far.mpr (by omega))).mono ?_; rintro e w2 ⟨rfl, hb⟩
  obtain ⟨hc2, hf2⟩ := bcell hb
  have z2 := hb.size
  try simp only [World.size_alloc, World.size_setCell, World.size_drew] at z2
  have s2_0 : w.heap.size < w2.heap.size := by omega
  have s2_1 : w.heap.size + 1 < w2.heap.size := by omega
  have s2_2 : w.heap.size + 1 + 1 < w2.heap.size := by omega
  have s2_3 : w.heap.size + 1 + 1 + 1 < w2.heap.size := by omega
  have hB2 : Below w.heap.size w w2 := below_seq (by repeat (first | exact hB1 | exact Below.refl _ _ | refine balloc ?_ _ | refine Below.drew ?_ | refine below_drewN ?_ _ | refine below_set ?_ (by first | omega | (dsimp only; omega)) _)) hb
  clear hb
  go_wp2_with fail
  refine wp_region_grow Tryd.mixed (by kernel_rfl) ?_
  repeat (quiet_step ((first | (go_at_call_of 126 a.x; exact grow_of (of_z a b i j z _ (hF.below (below_seq (by repeat (first | exact hB2 | exact Below.refl _ _ | refine balloc ?_ _ | refine Below.drew ?_ | refine below_drewN ?_ _ | refine below_set ?_ (by first | omega | (dsimp only; omega)) _)) (Grew.h _))) (hO.below (below_seq (by repeat (first | exact hB2 | exact Below.refl _ _ | refine balloc ?_ _ | refine Below.drew ?_ | refine below_drewN ?_ _ | refine below_set ?_ (by first | omega | (dsimp only; omega)) _)) (Grew.h _))) ha hb h1)) | (go_at_call 126; exact grow_of (of_z c d k l z _ (hF.below (below_seq (by repeat (first | exact hB2 | exact Below.refl _ _ | refine balloc ?_ _ | refine Below.drew ?_ | refine below_drewN ?_ _ | refine below_set ?_ (by first | omega | (dsimp only; omega)) _)) (Grew.h _))) (hO.below (below_seq (by repeat (first | exact hB2 | exact Below.refl _ _ | refine balloc ?_ _ | refine Below.drew ?_ | refine below_drewN ?_ _ | refine below_set ?_ (by first | omega | (dsimp only; omega)) _)) (Grew.h _))) hc hd h2)))))
  refine wpQuiet_nil ?_
  intro _ hw'
  obtain ⟨x3, rfl⟩ := hw'
  have z3 := x3.h.size
  try simp only [World.size_alloc, World.size_setCell, World.size_drew] at z3
  have s3_0 : w.heap.size < x3.w.heap.size := by omega
  have s3_1 : w.heap.size + 1 < x3.w.heap.size := by omega
  have s3_2 : w.heap.size + 1 + 1 < x3.w.heap.size := by omega
  have s3_3 : w.heap.size + 1 + 1 + 1 < x3.w.heap.size := by omega
  have hB3 : Below w.heap.size w x3.w := below_seq (by repeat (first | exact hB2 | exact Below.refl _ _ | refine balloc ?_ _ | refine Below.drew ?_ | refine below_drewN ?_ _ | refine below_set ?_ (by first | omega | (dsimp only; omega)) _)) x3.h
  go_wp2
  go_ret2
  exact ⟨rfl, (by repeat (first | exact hB3 | exact Below.refl _ _ | refine balloc ?_ _ | refine Below.drew ?_ | refine below_drewN ?_ _ | refine below_set ?_ (by first | omega | (dsimp only; omega)) _))⟩
theorem TwAt.fresh (w : World) (z : Z) (t : TypeId) : TwAt (w.alloc (.cells #[.int .i64 (fz z.re), .int .i64 (fz z.im)] t)) w.heap.size z := ⟨by go_simp, by go_simp, by go_simp, by go_simp, by simp⟩
def prodN (e : Nat → Int) : Nat → Int
  | 0 => 0
  | k+1 => prodN e k + e k
theorem prod_next (f g : Nat → Int) (k : Nat) : (zp (prodN (fun k => f k * g k) k)).mul (zp (f k * g k)) = zp (prodN (fun k => f k * g k) (k + 1)) := zp_mul _ _
theorem zp_zero : zp 0 = .one := by rw [← zp_nat (by omega)]; exact Z.pow_zero _
set_option maxHeartbeats 4000000 in
theorem product_y (L M : List Sp) (f g : Nat → Int) (b1 o1 c1 b2 o2 c2 : Nat) (w : World) (hF : FarAt w) (hO : OneAt w) (hl : L.length ≤ 12) (hm : M.length = L.length) (hL : SpotsAt w b1 o1 L) (hM : SpotsAt w b2 o2 M)
    (h : Hid (∀ k (h1 : k < L.length) (h2 : k < M.length), Cnt L[k] (f k) ∧ Cnt M[k] (g k))) :
    Calls Tryd.prog 70 #[.slice (some ⟨b1, o1, none⟩) L.length c1, .slice (some ⟨b2, o2, none⟩) M.length c2] w fun e w' => e = .returned (.tuple #[twR (zp (prodN (fun k => f k * g k) L.length)), .nilIface]) ∧ Below w.heap.size w w' := by
  have hF' := Lib.hid hF
  have hO' := Lib.hid hO
  have hL' := Lib.hid hL
  have hM' := Lib.hid hM
  have hm' := Lib.hid hm
  have hd : decide ((12 : Int) < (L.length : Int)) = false := by rw [decide_eq_false_iff_not]; omega
  have hz0 := Lib.hid zp_zero
  obtain ⟨q0, q1, ql⟩ := hO
  have q2 : 0 < w.heap.size := Nat.lt_of_le_of_lt (Nat.zero_le _) ql
  clear hF hL hM
  rw [hm]
  clear hm
  go_enter Tryd.func70, Tryd.ntmps70
  go_wp2
  have t0 : TwAt ((w.alloc (.cells #[.int .i64 0, .int .i64 0] 102)).alloc (.cells #[.int .i64 1, .int .i64 0] 102)) w.heap.size ⟨0, 0⟩ := TwAt.zero_of (by go_simp) (by go_simp) (by go_simp) (by go_simp) (by simp; omega)
  have t1 : TwAt ((w.alloc (.cells #[.int .i64 0, .int .i64 0] 102)).alloc (.cells #[.int .i64 1, .int .i64 0] 102)) (w.heap.size + 1) .one := TwAt.one_of (by go_simp) (by go_simp) (by go_simp) (by go_simp) (by simp)
  have tb := balloc (below_alloc w (.cells #[.int .i64 0, .int .i64 0] 102)) (.cells #[.int .i64 1, .int .i64 0] 102)
  have t0 := Lib.hid t0
  have t1 := Lib.hid t1
  have tb := Lib.hid tb
  clear q0 q1 ql q2 hd
  generalize (w.alloc (.cells #[.int .i64 0, .int .i64 0] 102)).alloc (.cells #[.int .i64 1, .int .i64 0] 102) = w0 at *
  go_loopw [33] (fun i wr => ∃ n : Nat, n ≤ L.length ∧ i = .int .i64 n ∧ TwAt wr w.heap.size ⟨0, 0⟩ ∧ TwAt wr (w.heap.size + 1) (zp (prodN (fun k => f k * g k) n)) ∧ Below w.heap.size w wr) (fun i _ => L.length - (intOf i).toNat)
  case atStart => exact ⟨0, Nat.zero_le _, rfl, t0.out, (by show TwAt w0 _ (zp 0); rw [hz0.out]; exact t1.out), tb.out⟩
  case round =>
    clear t0 t1 tb
    obtain ⟨n, hn, rfl, hr, ho, hB⟩ := hrel
    replace hr := Lib.hid hr
    replace ho := Lib.hid ho
    by_cases hlt : n < L.length
    · have hlt2 : n < M.length := by rw [hm'.out]; exact hlt
      have hc := Lib.hid (h.out n hlt hlt2)
      have hsL := hL'.out.below hB
      have hsM := hM'.out.below hB
      have l1 := hsL.cx n hlt
      have l2 := hsL.cy n hlt
      have l3 := hsL.cf n hlt
      have m1 := hsM.cx n hlt2
      have m2 := hsM.cy n hlt2
      have m3 := hsM.cf n hlt2
      have ml := hsM.lt
      clear hsL hsM
      generalize hA : L[n] = A at *
      generalize hC : M[n] = C at *
      clear hA hC
      have hB1 := Lib.hid hB
      go_upto_region 9 with fail
      go_cut [9, 10] from 38 to 54 (fun s9 s10 wx => ∃ k : Nat, s9 = .pointer (some ⟨k, 0, none⟩) ∧ s10 = .nilIface ∧ TwAt wx k (zp (f n * g n)) ∧ TwAt wx w.heap.size ⟨0, 0⟩ ∧ TwAt wx (w.heap.size + 1) (zp (prodN (fun k => f k * g k) n)) ∧ Below w.heap.size w wx ∧ w.heap.size + 1 < k)
      case first =>
        have hrl := hr.out.lt
        have hol := ho.out.lt
        go_region_with (first | (go_at_call 67; refine (pair_e A C (f n) (g n) _ _ (hF'.out.below (by repeat (first | exact hB1.out | refine balloc ?_ _ | refine Below.drew ?_))) (hO'.out.below (by repeat (first | exact hB1.out | refine balloc ?_ _ | refine Below.drew ?_))) hc.out.1 hc.out.2 rfl).mono ?_; rintro e w1 ⟨rfl, hb⟩; obtain ⟨hcc, hff⟩ := bcell hb))
        all_goals
          go_wp2_with fail
          go_meet
          have hbA : Below wr.heap.size wr w1 := below_seq (by repeat (first | exact Below.refl _ _ | refine balloc ?_ _ | refine Below.drew ?_)) hb
          have hB2 := below_seq hB1.out hbA
          have hr1 := hr.out.below hbA
          have ho1 := ho.out.below hbA
          have hsz := hbA.size
          first
          | exact ⟨_, rfl, rfl, TwAt.fresh _ _ _, hr1.below (below_alloc _ _), ho1.below (below_alloc _ _), balloc hB2 _, by omega⟩
          | exact ⟨_, rfl, rfl, ((TwAt.zero_of (by go_simp) (by go_simp) (by go_simp) (by go_simp) (by simp)).below hb).set2 _, (hr1.other _ (by omega)).other _ (by omega), (ho1.other _ (by omega)).other _ (by omega), set2_below hB2 (by omega), by omega⟩
      case rest =>
        clear hr ho hB1 hB l1 l2 l3 m1 m2 m3 ml
        obtain ⟨k, rfl, rfl, hk, hr, ho, hB, hlk⟩ := hcut
        have hkl := hk.lt
        have hol := ho.lt
        replace hr := Lib.hid hr
        replace hk := Lib.hid hk
        replace ho := Lib.hid ho
        obtain ⟨k0, k1, kf0, kf1, -⟩ := hk.out
        obtain ⟨o0, o1, of0, of1, -⟩ := ho.out
        have hm := Lib.hid (prod_next f g n)
        generalize hP : zp (f n * g n) = P at *
        generalize hQ : zp (prodN (fun k => f k * g k) n) = Q at *
        clear hP hQ
        go_wp2_with fail
        refine (mul_e Q P _ _ hm).mono ?_; rintro e w2 ⟨rfl, hb⟩
        have hr2 := hr.out.below hb
        have ho2 := ho.out.below hb
        have hB2 := below_seq hB hb
        have hz2 := hb.size
        have ho2' := Lib.hid ho2
        obtain ⟨p0, p1, pf0, pf1, pl⟩ := ho2
        clear hb o0 o1 of0 of1 k0 k1 kf0 kf1 hk ho
        generalize hV : zp (prodN (fun k => f k * g k) (n + 1)) = V at *
        replace hV := Lib.hid hV
        go_wp2
        go_roundw
        case rel => exact ⟨n + 1, by omega, by go_num, (hr2.other _ (by omega)).other _ (by omega), by rw [hV.out]; exact ho2'.out.set2 _, set2_below hB2 (by omega)⟩
        case measure => simp [intOf]; omega
    · have hn2 : n = L.length := by omega
      have ho2 := ho.out
      rw [hn2] at ho2
      obtain ⟨r0, r1, rf0, rf1, rl⟩ := hr.out
      obtain ⟨p0, p1, pf0, pf1, pl⟩ := ho2
      generalize hV : zp (prodN (fun k => f k * g k) L.length) = V at *
      go_wp2
      have k := set2_cell (w := wr) (x := .int .i64 (fz V.re)) (y := .int .i64 (fz V.im)) r0 r1
      refine bodyPost_ret (v := .tuple #[twR V, .nilIface]) (by simp [results, Tryd.results70, go_sem, k.1, k.2]) rfl ⟨rfl, set2_below hB (by omega)⟩
theorem product_e (L M : List Sp) (f g : Nat → Int) (b1 o1 c1 b2 o2 c2 : Nat) (T : Z) (w : World) (hF : FarAt w) (hO : OneAt w) (hl : L.length ≤ 12) (hm : M.length = L.length) (hL : SpotsAt w b1 o1 L) (hM : SpotsAt w b2 o2 M)
    (h : Hid (∀ k (h1 : k < L.length) (h2 : k < M.length), Cnt L[k] (f k) ∧ Cnt M[k] (g k))) (hT : Hid (zp (prodN (fun k => f k * g k) L.length) = T)) :
    Calls Tryd.prog 70 #[.slice (some ⟨b1, o1, none⟩) L.length c1, .slice (some ⟨b2, o2, none⟩) M.length c2] w fun e w' => e = .returned (.tuple #[twR T, .nilIface]) ∧ Below w.heap.size w w' := by
  have := product_y L M f g b1 o1 c1 b2 o2 c2 w hF hO hl hm hL hM h; rw [hT.out] at this; exact this
end Go.Proofs.YtnlaofapjldciaaDoor
namespace Go.Proofs.YtnlaofapjldciaaDoor
open Go.RowKit
set_option maxRecDepth 100000
set_option linter.unusedVariables false
set_option linter.unusedSimpArgs false
set_option maxHeartbeats 2000000 in
theorem shortVerify_y (key sig H : Sp) (j s k : Int) (z : Z) (t : ByteArray) (w : World) (hF : FarAt w) (hO : OneAt w) (hz : t.size ≤ 60) (hH : Hid (hSpot t.data.toList = H)) (cH : Hid (Cnt H j)) (cS : Hid (Cnt sig s)) (cK : Hid (Cnt key k)) (cG : Hid (Cnt ⟨1189, 3667, false⟩ 1)) (h1 : Hid (zp (s * 1) = z)) (h2 : Hid (zp (j * k) = z)) : Calls Tryd.prog 41 #[spV key, .string t, spV sig] w fun e w' => e = .returned (.tuple #[.bool true, .nilIface]) ∧ Below w.heap.size w w' := by
  go_enter Tryd.func41, Tryd.ntmps41
  go_wp2_with fail
  refine (text_y t _ hz).mono ?_; rintro e w' ⟨rfl, rfl⟩
  go_wp2_with fail
  refine wp_region_grow Tryd.mixed (by kernel_rfl) ?_
  repeat (quiet_step ((first | (go_at_call 105; exact grow_of (base_k _ (hF.below (below_seq (by repeat (first | exact Below.refl _ _ | refine balloc ?_ _ | refine Below.drew ?_ | refine below_drewN ?_ _ | refine below_set ?_ (by first | omega | (dsimp only; omega)) _)) (Grew.h _))))) | (go_at_call 30; exact grow_of (hashSpot_e t H _ (hF.below (below_seq (by repeat (first | exact Below.refl _ _ | refine balloc ?_ _ | refine Below.drew ?_ | refine below_drewN ?_ _ | refine below_set ?_ (by first | omega | (dsimp only; omega)) _)) (Grew.h _))) (by omega) hH)) | (go_at_call 68; exact grow_of (same_y sig ⟨1189, 3667, false⟩ H key s 1 j k z _ (hF.below (below_seq (by repeat (first | exact Below.refl _ _ | refine balloc ?_ _ | refine Below.drew ?_ | refine below_drewN ?_ _ | refine below_set ?_ (by first | omega | (dsimp only; omega)) _)) (Grew.h _))) (hO.below (below_seq (by repeat (first | exact Below.refl _ _ | refine balloc ?_ _ | refine Below.drew ?_ | refine below_drewN ?_ _ | refine below_set ?_ (by first | omega | (dsimp only; omega)) _)) (Grew.h _))) cS cG cH cK h1 h2)))))
  refine wpQuiet_nil ?_
  intro _ hw'
  obtain ⟨x1, rfl⟩ := hw'
  have z1 := x1.h.size
  try simp only [World.size_alloc, World.size_setCell, World.size_drew] at z1
  have s1_0 : w.heap.size < x1.w.heap.size := by omega
  have s1_1 : w.heap.size + 1 < x1.w.heap.size := by omega
  have hB1 : Below w.heap.size w x1.w := below_seq (by repeat (first | exact Below.refl _ _ | refine balloc ?_ _ | refine Below.drew ?_ | refine below_drewN ?_ _ | refine below_set ?_ (by first | omega | (dsimp only; omega)) _)) x1.h
  go_wp2
  go_ret2
  exact ⟨rfl, (by repeat (first | exact hB1 | exact Below.refl _ _ | refine balloc ?_ _ | refine Below.drew ?_ | refine below_drewN ?_ _ | refine below_set ?_ (by first | omega | (dsimp only; omega)) _))⟩
/-- Sums, as far as the first n. -/
def sumF (f : Nat → Int) : Nat → Int
  | 0 => 0
  | k+1 => sumF f k + f k
set_option maxHeartbeats 1000000 in
theorem join_nil (a : Option Addr) (cap : Nat) (w : World) (hF : FarAt w) : Calls Tryd.prog 42 #[.slice a 0 cap] w fun e w' => e = .returned (.tuple #[spV ⟨0, 0, true⟩, .nilIface]) ∧ Below w.heap.size w w' := by
  obtain ⟨q0, q1, q2, ql⟩ := hF
  go_enter Tryd.func42, Tryd.ntmps42
  go_wp2
  refine wp_loop_rounds 1 ?_
  rw [rounds_succ]
  go_wp2
  refine bodyPost_ret (v := .tuple #[spV ⟨0, 0, true⟩, .nilIface]) (by simp [results, Tryd.results42, go_sem]) rfl ⟨rfl, ?_⟩
  repeat (first | exact Below.refl _ _ | refine balloc ?_ _ | refine Below.drew ?_ | refine below_set ?_ (by simp) _)
set_option maxHeartbeats 4000000 in
theorem join_y (L : List Sp) (f : Nat → Int) (b o c : Nat) (w : World) (hF : FarAt w) (hl : L.length ≤ 12) (hL : SpotsAt w b o L) (h : Hid (∀ k (h1 : k < L.length), L[k] = sq (f k))) :
    Calls Tryd.prog 42 #[.slice (some ⟨b, o, none⟩) L.length c] w fun e w' => e = .returned (.tuple #[spV (sq (sumF f L.length)), .nilIface]) ∧ Below w.heap.size w w' := by
  have hF' := Lib.hid hF
  have hL' := Lib.hid hL
  have hd : decide ((12 : Int) < (L.length : Int)) = false := by rw [decide_eq_false_iff_not]; omega
  obtain ⟨q0, q1, q2, ql⟩ := hF
  clear hL
  go_enter Tryd.func42, Tryd.ntmps42
  go_wp2
  have t0 : SpAt ((w.alloc (.cells #[.int .i64 0, .int .i64 0, .bool false] 24)).alloc (.cells #[.int .i64 0, .int .i64 0, .bool true] 24)) w.heap.size ⟨0, 0, false⟩ := (SpAt.fresh _ _ _ _ _).alloc _
  have t1 : SpAt ((w.alloc (.cells #[.int .i64 0, .int .i64 0, .bool false] 24)).alloc (.cells #[.int .i64 0, .int .i64 0, .bool true] 24)) (w.heap.size + 1) ⟨0, 0, true⟩ := SpAt.fresh1 _ _ _ _ _ _
  have tb := balloc (below_alloc w (.cells #[.int .i64 0, .int .i64 0, .bool false] 24)) (.cells #[.int .i64 0, .int .i64 0, .bool true] 24)
  replace t0 := Lib.hid t0
  replace t1 := Lib.hid t1
  replace tb := Lib.hid tb
  clear q0 q1 q2 ql hd
  generalize (w.alloc (.cells #[.int .i64 0, .int .i64 0, .bool false] 24)).alloc (.cells #[.int .i64 0, .int .i64 0, .bool true] 24) = w0 at *
  go_loopw [16] (fun i wr => ∃ n : Nat, n ≤ L.length ∧ i = .int .i64 n ∧ SpAt wr w.heap.size ⟨0, 0, false⟩ ∧ SpAt wr (w.heap.size + 1) (sq (sumF f n)) ∧ Below w.heap.size w wr) (fun i _ => L.length - (intOf i).toNat)
  case atStart => exact ⟨0, Nat.zero_le _, rfl, t0.out, (by show SpAt w0 _ (sq 0); rw [sq_zero]; exact t1.out), tb.out⟩
  case round =>
    clear t0 t1 tb
    obtain ⟨n, hn, rfl, hr, ho, hB⟩ := hrel
    have hol := ho.lt
    have hrl := hr.lt
    replace hr := Lib.hid hr
    replace ho := Lib.hid ho
    by_cases hlt : n < L.length
    · have hsL := hL'.out.below hB
      have l1 := hsL.cx n hlt
      have l2 := hsL.cy n hlt
      have l3 := hsL.cf n hlt
      have oA : Ok L[n] := by rw [h.out n hlt]; exact sq_ok _
      have hs : Hid (sSum (sq (sumF f n)) L[n] = sq (sumF f (n + 1))) := by show _ = _; rw [h.out n hlt, sq_add]; rfl
      clear hsL
      generalize hA : L[n] = A at *
      clear hA
      go_wp2_with fail
      refine (check_ok A _ (hF'.out.below (balloc hB _)) oA).mono ?_; rintro e w1 ⟨rfl, hb⟩
      have hB1 := below_seq (balloc hB _) hb
      have hr1 := (hr.out.alloc _).below hb
      have ho1 := (ho.out.alloc _).below hb
      have ha1 := (SpAt.fresh wr A.x A.y A.far 24).below hb
      obtain ⟨a0, a1, a2, -, -, -, al⟩ := ha1
      have hz := hb.size
      have ho1' := Lib.hid ho1
      have hr1' := Lib.hid hr1
      obtain ⟨o0, o1, o2, of0, of1, of2, ol⟩ := ho1
      clear hr ho hB hb hr1 l1 l2 l3
      have oS : Ok (sq (sumF f n)) := sq_ok _
      generalize hS : sq (sumF f n) = S at *
      go_wp2_with fail
      refine (sum_e S A _ _ (hF'.out.below hB1) oS oA hs).mono ?_; rintro e w2 ⟨rfl, hb⟩
      have hB2 := below_seq hB1 hb
      have hr2 := hr1'.out.below hb
      have ho2 := ho1'.out.below hb
      have ho2' := Lib.hid ho2
      clear a0 a1 a2 al o0 o1 o2 of0 of1 of2 hb
      obtain ⟨o0, o1, o2, of0, of1, of2, ol2⟩ := ho2
      generalize hV : sq (sumF f (n + 1)) = V at *
      replace hV := Lib.hid hV
      go_wp2
      go_roundw
      case rel => exact ⟨n + 1, by omega, by go_num, hr2.set3o (by omega) _ _ _, by rw [hV.out]; exact ho2'.out.set3 _, set3_below hB2 (by omega)⟩
      case measure => simp [intOf]; omega
    · have hn2 : n = L.length := by omega
      have ho2 := ho.out
      rw [hn2] at ho2
      obtain ⟨r0, r1, r2, rf0, rf1, rf2, rl⟩ := hr.out
      obtain ⟨p0, p1, p2, pf0, pf1, pf2, pl⟩ := ho2
      generalize hV : sq (sumF f L.length) = V at *
      go_wp2
      have k := set3_cell (w := wr) (x := .int .i64 V.x) (y := .int .i64 V.y) (z := .bool V.far) r0 r1 r2
      refine bodyPost_ret (v := .tuple #[spV V, .nilIface]) (by simp [results, Tryd.results42, go_sem, k.1, k.2.1, k.2.2]) rfl ⟨rfl, set3_below hB (by omega)⟩
theorem join_e (L : List Sp) (f : Nat → Int) (b o c : Nat) (S : Sp) (w : World) (hF : FarAt w) (hl : L.length ≤ 12) (hL : SpotsAt w b o L) (h : Hid (∀ k (h1 : k < L.length), L[k] = sq (f k))) (hS : Hid (sq (sumF f L.length) = S)) :
    Calls Tryd.prog 42 #[.slice (some ⟨b, o, none⟩) L.length c] w fun e w' => e = .returned (.tuple #[spV S, .nilIface]) ∧ Below w.heap.size w w' := by
  have := join_y L f b o c w hF hl hL h; rw [hS.out] at this; exact this
end Go.Proofs.YtnlaofapjldciaaDoor
namespace Go.Proofs.YtnlaofapjldciaaDoor
open Go.RowKit
set_option maxRecDepth 100000
set_option linter.unusedVariables false
set_option linter.unusedSimpArgs false
def LiftIs (x : Int) (L : Sp) (E : Value) : Prop := ∀ w : World, Calls Tryd.prog 103 #[.int .i64 x] w fun e w' => e = .returned (.tuple #[spV L, E]) ∧ Below w.heap.size w w'
theorem wrap_two (c d : UInt8) : IntKind.i64.wrap (IntKind.i64.wrap (IntKind.i64.wrap (c.toNat : Int) * 256) + IntKind.i64.wrap (d.toNat : Int)) = (c.toNat : Int) * 256 + (d.toNat : Int) := by
  have := c.toNat_lt; have := d.toNat_lt
  rw [IntWalk.i64_in (c.toNat : Int) (by omega), IntWalk.i64_in (d.toNat : Int) (by omega), IntWalk.i64_in ((c.toNat : Int) * 256) (by omega), IntWalk.i64_in _ (by omega)]
/-- What Unpack makes of three bytes whose place lifts to L, with error E. -/
def unS (c0 : UInt8) (L : Sp) : Sp := if c0.toNat = 2 then sTurned L else L
set_option maxHeartbeats 2000000 in
theorem unpack_core (c0 c1 c2 : UInt8) (w : World) (L : Sp) (E R : Value) (hF : FarAt w) (h : LiftIs ((c1.toNat : Int) * 256 + (c2.toNat : Int)) L E)
    (hbad : Hid (∀ k, E = .iface 125 (.int .i64 k) → R = .tuple #[spV ⟨0, 0, false⟩, .iface 125 (.int .i64 2)]))
    (hE : Hid ((E = .nilIface ∧ Ok L) ∨ ∃ k, E = .iface 125 (.int .i64 k)))
    (hok : Hid (E = .nilIface → R = if ((sBytes (unS c0 L)).toList == [c0, c1, c2]) = true then .tuple #[spV (unS c0 L), .nilIface] else .tuple #[spV ⟨0, 0, false⟩, .iface 125 (.int .i64 2)])) :
    Calls Tryd.prog 81 #[.string ⟨#[c0, c1, c2]⟩] w fun e w' => e = .returned R ∧ Below w.heap.size w w' := by
  have hw := Lib.hid (wrap_two c1 c2)
  go_enter Tryd.func81, Tryd.ntmps81
  go_upto_region 5 with fail
  go_cut [4, 5] (fun s4 s5 wx => ∃ g : Nat, s4 = .pointer (some ⟨g, 0, none⟩) ∧ s5 = E ∧ Below w.heap.size w wx ∧ SpAt wx w.heap.size ⟨0, 0, false⟩ ∧ SpAt wx g L ∧ w.heap.size < g)
  case first =>
    go_region_with (first | (go_at_call 103; change Calls _ _ #[.int .i64 (IntKind.i64.wrap (IntKind.i64.wrap (IntKind.i64.wrap (c1.toNat : Int) * 256) + IntKind.i64.wrap (c2.toNat : Int)))] _ _; rw [hw.out]; refine (h _).mono ?_; rintro e w1 ⟨rfl, hb⟩; obtain ⟨hc, hf⟩ := bcell hb))
    all_goals
      go_wp2_with fail
      go_meet
      have hz := hb.size
      simp only [World.size_alloc, World.size_drew] at hz
      refine ⟨_, rfl, rfl, ?_, ?_, ?_, ?_⟩
      · have hB1 : Below w.heap.size w w1 := below_seq (by repeat (first | exact Below.refl _ _ | refine balloc ?_ _ | refine Below.drew ?_)) hb
        repeat (first | exact hB1 | refine balloc ?_ _ | refine below_set ?_ (by first | omega | (dsimp only; omega)) _)
      · repeat (first | exact SpAt.fresh _ _ _ _ _ | exact SpAt.fresh1 _ _ _ _ _ _ | refine SpAt.set3 (s := ⟨0, 0, false⟩) ?_ _ | refine SpAt.set3o ?_ (by omega) _ _ _ | refine SpAt.drew ?_ | refine SpAt.alloc ?_ _ | refine SpAt.below ?_ hb)
      · repeat (first | exact SpAt.fresh _ _ _ _ _ | exact SpAt.fresh1 _ _ _ _ _ _ | refine SpAt.set3 (s := ⟨0, 0, false⟩) ?_ _ | refine SpAt.set3o ?_ (by omega) _ _ _ | refine SpAt.drew ?_ | refine SpAt.alloc ?_ _ | refine SpAt.below ?_ hb)
      · omega
  case rest =>
    obtain ⟨g, rfl, rfl, hB, hr, hg, hlt⟩ := hcut
    rcases hE.out with ⟨rfl, hL⟩ | ⟨k, rfl⟩
    · have hg' := hg
      obtain ⟨g0, g1, g2, fg0, fg1, fg2, hgl⟩ := hg'
      go_wp2_with fail
      · refine (turned_k L _ hL).mono ?_; rintro e w2 ⟨rfl, hb⟩
        have hg2 := hg.below hb
        have hr2 := hr.below hb
        have hB2 := below_seq hB hb
        clear g0 g1 g2 fg0 fg1 fg2 hgl hg hr hb hB
        have hg' := hg2
        obtain ⟨g0, g1, g2, fg0, fg1, fg2, hgl⟩ := hg'
        go_wp2_with fail
        refine (bytesOf_c (sTurned L) _ (turned_ok hL).1).mono ?_; rintro e w3 ⟨rfl, hb⟩
        have hg3 := (hg2.set3 (sTurned L)).below hb
        have hr3 := (hr2.set3o (by omega) _ _ _).below hb
        have hB3 := below_seq (set3_below hB2 (by omega)) hb
        clear g0 g1 g2 fg0 fg1 fg2 hgl hg2 hr2 hb hB2
        obtain ⟨g0, g1, g2, fg0, fg1, fg2, hgl⟩ := hg3
        obtain ⟨r0, r1, r2, fr0, fr1, fr2, hrl⟩ := hr3
        have eS0 : unS c0 L = sTurned L := by
          have q : ((c0.toNat : Int) == 2) = true := by assumption
          unfold unS; rw [if_pos (by simp at q; omega)]
        have eS := Lib.hid eS0
        clear eS0
        have ho := Lib.hid (hok.out trivial)
        clear hbad hE h
        go_wp2
        · rename_i hq
          have hR : R = .tuple #[spV ⟨0, 0, false⟩, .iface 125 (.int .i64 2)] := by rw [ho.out, eS.out, if_neg (by simpa using hq)]
          have k := set3_cell (w := w3) (x := .int .i64 0) (y := .int .i64 0) (z := .bool false) r0 r1 r2
          rw [hR]
          refine bodyPost_ret (v := .tuple #[spV ⟨0, 0, false⟩, .iface 125 (.int .i64 2)]) (by simp [results, Tryd.results81, go_sem, k.1, k.2.1, k.2.2]) rfl ⟨rfl, set3_below hB3 (by omega)⟩
        · rename_i hq
          have hR : R = .tuple #[spV (sTurned L), .nilIface] := by rw [ho.out, eS.out, if_pos (by simpa using hq)]
          have k := set3_cell (w := w3) (x := .int .i64 (sTurned L).x) (y := .int .i64 (sTurned L).y) (z := .bool (sTurned L).far) r0 r1 r2
          rw [hR]
          refine bodyPost_ret (v := .tuple #[spV (sTurned L), .nilIface]) (by simp [results, Tryd.results81, go_sem, k.1, k.2.1, k.2.2]) rfl ⟨rfl, set3_below hB3 (by omega)⟩
      · refine (bytesOf_c L _ hL).mono ?_; rintro e w3 ⟨rfl, hb⟩
        have hg3 := hg.below hb
        have hr3 := hr.below hb
        have hB3 := below_seq hB hb
        clear g0 g1 g2 fg0 fg1 fg2 hgl hg hr hb hB
        obtain ⟨g0, g1, g2, fg0, fg1, fg2, hgl⟩ := hg3
        obtain ⟨r0, r1, r2, fr0, fr1, fr2, hrl⟩ := hr3
        have eS0 : unS c0 L = L := by
          have q : ((c0.toNat : Int) == 2) = false := by assumption
          unfold unS; rw [if_neg (by simp at q; omega)]
        have eS := Lib.hid eS0
        clear eS0
        have ho := Lib.hid (hok.out trivial)
        clear hbad hE h
        go_wp2
        · rename_i hq
          have hR : R = .tuple #[spV ⟨0, 0, false⟩, .iface 125 (.int .i64 2)] := by rw [ho.out, eS.out, if_neg (by simpa using hq)]
          have k := set3_cell (w := w3) (x := .int .i64 0) (y := .int .i64 0) (z := .bool false) r0 r1 r2
          rw [hR]
          refine bodyPost_ret (v := .tuple #[spV ⟨0, 0, false⟩, .iface 125 (.int .i64 2)]) (by simp [results, Tryd.results81, go_sem, k.1, k.2.1, k.2.2]) rfl ⟨rfl, set3_below hB3 (by omega)⟩
        · rename_i hq
          have hR : R = .tuple #[spV (L), .nilIface] := by rw [ho.out, eS.out, if_pos (by simpa using hq)]
          have k := set3_cell (w := w3) (x := .int .i64 (L).x) (y := .int .i64 (L).y) (z := .bool (L).far) r0 r1 r2
          rw [hR]
          refine bodyPost_ret (v := .tuple #[spV (L), .nilIface]) (by simp [results, Tryd.results81, go_sem, k.1, k.2.1, k.2.2]) rfl ⟨rfl, set3_below hB3 (by omega)⟩
    · have hR := Lib.hid (hbad.out k rfl)
      obtain ⟨r0, r1, r2, fr0, fr1, fr2, hrl⟩ := hr
      clear hg
      go_wp2
      have k := set3_cell (w := wc) (x := .int .i64 0) (y := .int .i64 0) (z := .bool false) r0 r1 r2
      rw [hR.out]
      refine bodyPost_ret (v := .tuple #[spV ⟨0, 0, false⟩, .iface 125 (.int .i64 2)]) (by simp [results, Tryd.results81, go_sem, k.1, k.2.1, k.2.2]) rfl ⟨rfl, set3_below hB (by omega)⟩
end Go.Proofs.YtnlaofapjldciaaDoor
namespace Go.Proofs.YtnlaofapjldciaaDoor
open Go.RowKit
set_option maxRecDepth 100000
set_option linter.unusedVariables false
set_option linter.unusedSimpArgs false
set_option maxHeartbeats 1000000 in
theorem unpack_far (w : World) (hF : FarAt w) : Calls Tryd.prog 81 #[.string ⟨#[0]⟩] w fun e w' => e = .returned (.tuple #[spV sFar, .nilIface]) ∧ Below w.heap.size w w' := by
  obtain ⟨c0, c1, c2, hlt⟩ := hF
  go_enter Tryd.func81, Tryd.ntmps81
  go_wp2
  refine bodyPost_ret (v := .tuple #[spV sFar, .nilIface]) (by simp [results, Tryd.results81, go_sem, sFar]) rfl ⟨rfl, ?_⟩
  repeat (first | exact Below.refl _ _ | refine balloc ?_ _)
set_option maxHeartbeats 1000000 in
theorem unpack_len (b : ByteArray) (w : World) (h1 : (b.toList == [0]) = false) (h2 : ((b.size : Int) != 3) = true) (hz : b.size ≤ 140737488351232) : Calls Tryd.prog 81 #[.string b] w fun e w' => e = .returned (.tuple #[spV ⟨0, 0, false⟩, .iface 125 (.int .i64 2)]) ∧ Below w.heap.size w w' := by
  go_enter Tryd.func81, Tryd.ntmps81
  go_wp2
  refine bodyPost_ret (v := .tuple #[spV ⟨0, 0, false⟩, .iface 125 (.int .i64 2)]) (by simp [results, Tryd.results81, go_sem]) rfl ⟨rfl, ?_⟩
  repeat (first | exact Below.refl _ _ | refine balloc ?_ _)
def unpackR : List UInt8 → Option Sp
  | [c] => if c = 0 then some sFar else none
  | [c0, c1, c2] => if inside ((c1.toNat : Int) * 256 + (c2.toNat : Int)) = true ∧ isSq (height ((c1.toNat : Int) * 256 + (c2.toNat : Int))) = true then
      (if ((sBytes (unS c0 (lifted ((c1.toNat : Int) * 256 + (c2.toNat : Int))))).toList == [c0, c1, c2]) = true then some (unS c0 (lifted ((c1.toNat : Int) * 256 + (c2.toNat : Int)))) else none) else none
  | _ => none
theorem unpackR_three (c0 c1 c2 : UInt8) : unpackR [c0, c1, c2] = if inside ((c1.toNat : Int) * 256 + (c2.toNat : Int)) = true ∧ isSq (height ((c1.toNat : Int) * 256 + (c2.toNat : Int))) = true then
      (if ((sBytes (unS c0 (lifted ((c1.toNat : Int) * 256 + (c2.toNat : Int))))).toList == [c0, c1, c2]) = true then some (unS c0 (lifted ((c1.toNat : Int) * 256 + (c2.toNat : Int)))) else none) else none := rfl
def unV : Option Sp → Value
  | some s => .tuple #[spV s, .nilIface]
  | none => .tuple #[spV ⟨0, 0, false⟩, .iface 125 (.int .i64 2)]
theorem unpack_c (b : ByteArray) (w : World) (hF : FarAt w) (hz : b.size ≤ 140737488351232) : Calls Tryd.prog 81 #[.string b] w fun e w' => e = .returned (unV (unpackR b.data.toList)) ∧ Below w.heap.size w w' := by
  obtain ⟨⟨l⟩⟩ := b
  have len : (⟨⟨l⟩⟩ : ByteArray).size = l.length := rfl
  have tl : (⟨⟨l⟩⟩ : ByteArray).toList = l := by rw [ByteArray.toList_eq]
  by_cases h1 : l = [0]
  · subst h1; exact unpack_far w hF
  by_cases h3 : l.length = 3
  · match l, h3 with
    | [c0, c1, c2], _ =>
      have hlt1 := c1.toNat_lt; have hlt2 := c2.toNat_lt
      by_cases hi : inside ((c1.toNat : Int) * 256 + (c2.toNat : Int)) = true
      · by_cases hs : isSq (height ((c1.toNat : Int) * 256 + (c2.toNat : Int))) = true
        · refine unpack_core c0 c1 c2 w (lifted ((c1.toNat : Int) * 256 + (c2.toNat : Int))) .nilIface _ hF (fun w => lift_yes _ w hi hs) (fun k e => by cases e) (Or.inl ⟨rfl, lifted_ok hi hs⟩) (fun _ => ?_)
          show unV (unpackR [c0, c1, c2]) = _
          rw [unpackR_three]; rw [if_pos ⟨hi, hs⟩]; split <;> rfl
        · refine unpack_core c0 c1 c2 w ⟨0, 0, false⟩ (.iface 125 (.int .i64 5)) _ hF (fun w => lift_no _ w hi (by simpa using hs)) (fun k e => ?_) (Or.inr ⟨5, rfl⟩) (fun e => by cases e)
          show unV (unpackR [c0, c1, c2]) = _
          rw [unpackR_three]; rw [if_neg (fun h => hs h.2)]; rfl
      · refine unpack_core c0 c1 c2 w ⟨0, 0, false⟩ (.iface 125 (.int .i64 1)) _ hF (fun w => lift_out _ w (by simpa using hi)) (fun k e => ?_) (Or.inr ⟨1, rfl⟩) (fun e => by cases e)
        show unV (unpackR [c0, c1, c2]) = _
        rw [unpackR_three]; rw [if_neg (fun h => hi h.1)]; rfl
  · have e : unpackR l = none := by
      match l, h1, h3 with
      | [], _, _ => rfl
      | [c], h, _ => show (if c = 0 then some sFar else none) = none; rw [if_neg (fun e => h (by rw [e]))]
      | [_, _], _, _ => rfl
      | [_, _, _], _, h => exact absurd rfl h
      | _ :: _ :: _ :: _ :: _, _, _ => rfl
    have := unpack_len ⟨⟨l⟩⟩ w (by rw [tl]; simpa using h1) (by rw [len]; rw [bne_iff_ne]; omega) hz
    rw [show unpackR (⟨⟨l⟩⟩ : ByteArray).data.toList = none from e]
    exact this
end Go.Proofs.YtnlaofapjldciaaDoor
namespace Go.Proofs.YtnlaofapjldciaaDoor
open Go.RowKit
set_option maxRecDepth 100000
set_option linter.unusedVariables false
set_option linter.unusedSimpArgs false
/-- Two bytes of a place are it again. -/
theorem two_bytes {x : Int} (h0 : 0 ≤ x) (h1 : x < 4051) : ((UInt8.ofNat (x / 256).toNat).toNat : Int) * 256 + ((UInt8.ofNat (x % 256).toNat).toNat : Int) = x := by
  rw [UInt8.toNat_ofNat', UInt8.toNat_ofNat']; omega
theorem sBytes_far {s : Sp} (hf : s.far = true) : (sBytes s).data.toList = [0] := by unfold sBytes; rw [if_pos hf]
theorem sBytes_big {s : Sp} (hf : s.far = false) (hy : pOf (-s.y) < s.y) : (sBytes s).data.toList = [2, UInt8.ofNat (s.x / 256).toNat, UInt8.ofNat (s.x % 256).toNat] := by
  unfold sBytes; rw [if_neg (by rw [hf]; decide), if_pos hy, strOfNums_data]; rfl
theorem sBytes_small {s : Sp} (hf : s.far = false) (hy : ¬ pOf (-s.y) < s.y) : (sBytes s).data.toList = [1, UInt8.ofNat (s.x / 256).toNat, UInt8.ofNat (s.x % 256).toNat] := by
  unfold sBytes; rw [if_neg (by rw [hf]; decide), if_neg hy, strOfNums_data]; rfl
theorem unpack_sBytes {s : Sp} (h : Ok s) : unpackR (sBytes s).data.toList = some s := by
  cases hf : s.far
  · have hx := two_bytes h.x0 h.x1
    have hs := ok_isSq h hf
    by_cases hy : pOf (-s.y) < s.y
    · rw [sBytes_big hf hy, unpackR_three, hx, if_pos ⟨h.ins, hs⟩]
      have e : unS 2 (lifted s.x) = s := by unfold unS; rw [if_pos (by decide)]; exact (lifted_gt h hf hy).symm
      rw [e, if_pos]; rw [ByteArray.toList_eq, sBytes_big hf hy]; simp
    · rw [sBytes_small hf hy, unpackR_three, hx, if_pos ⟨h.ins, hs⟩]
      have e : unS 1 (lifted s.x) = s := by unfold unS; rw [if_neg (by decide)]; exact (lifted_le h hf (by omega)).symm
      rw [e, if_pos]; rw [ByteArray.toList_eq, sBytes_small hf hy]; simp
  · rw [sBytes_far hf]; show (if (0 : UInt8) = 0 then some sFar else none) = some s
    rw [if_pos rfl, h.far_eq hf]
theorem unpack_some {l : List UInt8} {s : Sp} (h : unpackR l = some s) : Ok s ∧ (sBytes s).data.toList = l := by
  match l, h with
  | [c], h =>
    have h : (if c = 0 then some sFar else none) = some s := h
    split at h
    · rename_i e; cases h; exact ⟨ok_far, by rw [sBytes_far rfl, e]⟩
    · cases h
  | [c0, c1, c2], h =>
    rw [unpackR_three] at h
    split at h
    · rename_i hi
      split at h
      · rename_i he
        have hl := lifted_ok hi.1 hi.2
        rw [ByteArray.toList_eq] at he
        cases h
        refine ⟨?_, by simpa using he⟩
        unfold unS; split
        · exact (turned_ok hl).1
        · exact hl
      · cases h
    · cases h
  | [], h => cases h
  | [_, _], h => cases h
  | _ :: _ :: _ :: _ :: _, h => cases h
theorem bytes_ext {a b : ByteArray} (h : a.data.toList = b.data.toList) : a = b := by
  obtain ⟨⟨x⟩⟩ := a; obtain ⟨⟨y⟩⟩ := b; simp only at h; rw [h]
theorem sBytes_inj {s t : Sp} (hs : Ok s) (ht : Ok t) (h : sBytes s = sBytes t) : s = t := by
  have := unpack_sBytes hs; rw [h, unpack_sBytes ht] at this; exact (Option.some.inj this).symm
end Go.Proofs.YtnlaofapjldciaaDoor
namespace Go.Proofs.YtnlaofapjldciaaDoor
/-- Of two lists the sum of the products. -/
def dot : List Int → List Int → Int
  | u :: us, c :: cs => u * c + dot us cs
  | _, _ => 0
theorem dot_nil (cs : List Int) : dot [] cs = 0 := by cases cs <;> rfl
theorem dot_snoc : ∀ (us cs : List Int) (n : Nat) (h1 : n < us.length) (h2 : n < cs.length), dot (us.take (n + 1)) cs = dot (us.take n) cs + us[n] * cs[n]
  | [], _, _, h, _ => absurd h (Nat.not_lt_zero _)
  | _ :: _, [], _, _, h => absurd h (Nat.not_lt_zero _)
  | u :: us, c :: cs, 0, _, _ => by simp [dot, dot_nil]
  | u :: us, c :: cs, n + 1, h1, h2 => by
    have := dot_snoc us cs n (by simpa using h1) (by simpa using h2)
    simp only [List.take_succ_cons, dot, List.getElem_cons_succ] at this ⊢
    omega
theorem dot_four : ∀ us cs : List Int, dot (us.map (4 * ·)) cs = 4 * dot us cs
  | [], cs => by simp [dot_nil]
  | _ :: _, [] => by simp [dot]
  | u :: us, c :: cs => by simp only [List.map_cons, dot, dot_four us cs, Int.mul_add, Int.mul_assoc]
/-- The number of each key. -/
def cfs (l : List Sp) : List Int := l.map fun k => hnum (lsB l.length l ++ sBytes k).data.toList
theorem cfs_len (l : List Sp) : (cfs l).length = l.length := by simp [cfs]
theorem cfs_bd (l : List Sp) (i : Nat) (h : i < (cfs l).length) : 0 ≤ (cfs l)[i] ∧ (cfs l)[i] < 1013 := by simp only [cfs, List.getElem_map]; exact hnum_bd _
theorem cfs_get (l : List Sp) (i : Nat) (h : i < l.length) : (cfs l)[i]'(by rw [cfs_len]; exact h) = hnum (lsB l.length l ++ sBytes l[i]).data.toList := by simp only [cfs, List.getElem_map]
/-- Is it a number to sign with. -/
def okB (n : Int) : Bool := decide (1 ≤ n ∧ n < 1013)
/-- What is wrong with those that sign; 0: nothing. -/
def groupF (xs ks : List Int) (n : Nat) : Int := if 12 < xs.length then 4 else if xs.length ≠ ks.length then 3 else if xs.all okB && ks.all okB then (if 60 < n then 4 else 0) else 1
theorem all_at {l : List Int} (h : ∀ i (h : i < l.length), okB l[i] = true) : l.all okB = true := by
  rw [List.all_eq_true]
  intro x hx
  obtain ⟨i, hi, rfl⟩ := List.mem_iff_getElem.mp hx
  exact h i hi
theorem not_all {l : List Int} {i : Nat} (h : i < l.length) (hb : okB l[i] = false) : l.all okB = false := by
  rw [List.all_eq_false]
  exact ⟨l[i], List.getElem_mem h, by rw [hb]; decide⟩
theorem all_get {l : List Int} (h : l.all okB = true) (i : Nat) (hi : i < l.length) : okB l[i] = true := List.all_eq_true.mp h _ (List.getElem_mem hi)
theorem sum_snoc : ∀ (l : List Int) (n : Nat) (h : n < l.length), (l.take (n + 1)).sum = (l.take n).sum + l[n]
  | [], _, h => absurd h (Nat.not_lt_zero _)
  | a :: l, 0, _ => by simp
  | a :: l, n + 1, h => by
    have := sum_snoc l n (by simpa using h)
    simp only [List.take_succ_cons, List.sum_cons, List.getElem_cons_succ] at this ⊢
    omega
theorem sum_bd (l : List Int) (h : ∀ i (h : i < l.length), 1 ≤ l[i] ∧ l[i] < 1013) : ∀ n, n ≤ l.length → 0 ≤ (l.take n).sum ∧ (l.take n).sum ≤ 1012 * n
  | 0, _ => by simp
  | n + 1, hn => by
    have := sum_bd l h n (by omega)
    have := h n (by omega)
    rw [sum_snoc l n (by omega)]
    omega
theorem turn_step (s a c x : Int) : (s + a * c % 1013 * x) % 1013 = (s + a * (x * c)) % 1013 := by
  rw [Int.add_emod, Int.mul_emod (a * c % 1013) x, Int.emod_emod, ← Int.mul_emod, ← Int.add_emod, Int.mul_assoc, Int.mul_comm c x]
/-- One round more of the sum. -/
theorem turn_go {s K a D x c : Int} (h : s % 1013 = (K + a * D) % 1013) : (s + a * c % 1013 * x) % 1013 = (K + a * (D + x * c)) % 1013 := by
  rw [turn_step, Int.mul_add]
  omega
end Go.Proofs.YtnlaofapjldciaaDoor
namespace Go.Proofs.YtnlaofapjldciaaDoor
open Go.RowKit
set_option maxRecDepth 100000
set_option linter.unusedVariables false
set_option linter.unusedSimpArgs false
theorem take_snoc2 {α : Type} (l : List α) (n : Nat) (h : n < l.length) : l.take (n + 1) = l.take n ++ [l[n]] := by
  rw [List.take_add_one, List.getElem?_eq_getElem h]; rfl
theorem right_sy (x y : Int) (w : World) (x1 : 1 ≤ x) (x2 : x < 1013) (y0 : 0 ≤ y) (y1 : y < 1013) : Calls Tryd.prog 100 #[.agg #[.int .i64 x, .int .i64 y]] w fun e w' => e = .returned (.bool true) ∧ Below w.heap.size w w' := by
  go_enter Tryd.func100, Tryd.ntmps100
  go_wp2_with fail
  refine (secret_y x _ x1 x2).mono ?_; rintro e w' ⟨rfl, rfl⟩
  go_wp2_with fail
  refine (rest_y y _ y0 y1).mono ?_; rintro e w' ⟨rfl, rfl⟩
  go_wp2
  go_ret
  exact ⟨rfl, below_alloc _ _⟩
set_option maxHeartbeats 2000000 in
theorem part_y (x y j : Int) (t : ByteArray) (H S : Sp) (w : World) (hF : FarAt w) (x1 : 1 ≤ x) (x2 : x < 1013) (y0 : 0 ≤ y) (y1 : y < 1013) (hz : t.size ≤ 60) (hH : Hid (hSpot t.data.toList = H)) (hu : Hid (H = sq (4 * j))) (hS : Hid (sq (4 * j * y) = S)) :
    Calls Tryd.prog 29 #[.agg #[.int .i64 x, .int .i64 y], .string t] w fun e w' => e = .returned (.tuple #[spV S, .nilIface]) ∧ Below w.heap.size w w' := by
  go_enter Tryd.func29, Tryd.ntmps29
  go_wp2_with fail
  refine (right_sy x y _ x1 x2 y0 y1).mono ?_; rintro e w1 ⟨rfl, hb⟩
  obtain ⟨hc1, hf1⟩ := bcell hb
  have z1 := hb.size
  try simp only [World.size_alloc, World.size_setCell, World.size_drew] at z1
  have s1_0 : w.heap.size < w1.heap.size := by omega
  have s1_1 : w.heap.size + 1 < w1.heap.size := by omega
  have hB1 : Below w.heap.size w w1 := below_seq (by repeat (first | exact Below.refl _ _ | refine balloc ?_ _ | refine Below.drew ?_ | refine below_drewN ?_ _ | refine below_set ?_ (by first | omega | (dsimp only; omega)) _)) hb
  clear hb
  go_wp2_with fail
  refine (text_y t _ hz).mono ?_; rintro e w' ⟨rfl, rfl⟩
  go_wp2_with fail
  refine wp_region_grow_tail 5 Tryd.mixed (by kernel_rfl) ?_
  simp only [List.take_succ_cons, List.take_zero, List.drop_succ_cons, List.drop_zero]
  repeat (quiet_step ((first | (go_at_call 30; exact grow_of (hashSpot_e t H _ (hF.below (below_seq (by repeat (first | exact hB1 | exact Below.refl _ _ | refine balloc ?_ _ | refine Below.drew ?_ | refine below_drewN ?_ _ | refine below_set ?_ (by first | omega | (dsimp only; omega)) _)) (Grew.h _))) (by omega) hH)) | (go_at_call 102; exact grow_of (of_e H S (4 * j) y _ (hF.below (below_seq (by repeat (first | exact hB1 | exact Below.refl _ _ | refine balloc ?_ _ | refine Below.drew ?_ | refine below_drewN ?_ _ | refine below_set ?_ (by first | omega | (dsimp only; omega)) _)) (Grew.h _))) hu hS)))))
  refine wpQuiet_nil ?_
  intro _ hw'
  obtain ⟨x2, rfl⟩ := hw'
  have z2 := x2.h.size
  try simp only [World.size_alloc, World.size_setCell, World.size_drew] at z2
  have s2_0 : w.heap.size < x2.w.heap.size := by omega
  have s2_1 : w.heap.size + 1 < x2.w.heap.size := by omega
  have hB2 : Below w.heap.size w x2.w := below_seq (by repeat (first | exact hB1 | exact Below.refl _ _ | refine balloc ?_ _ | refine Below.drew ?_ | refine below_drewN ?_ _ | refine below_set ?_ (by first | omega | (dsimp only; omega)) _)) x2.h
  have r0 : x2.w.cell? ⟨w.heap.size + 1, 0, none⟩ = some (.int .i64 0) := by go_simp
  have r1 : x2.w.cell? ⟨w.heap.size + 1, 1, none⟩ = some (.int .i64 0) := by go_simp
  have r2 : x2.w.cell? ⟨w.heap.size + 1, 2, none⟩ = some (.bool false) := by go_simp
  go_wp2
  have k := set3_cell (w := x2.w) (x := .int .i64 (S).x) (y := .int .i64 (S).y) (z := .bool (S).far) r0 r1 r2
  refine bodyPost_ret (v := .tuple #[spV (S), .nilIface]) (by simp [results, Tryd.results29, go_sem, k.1, k.2.1, k.2.2]) rfl ⟨rfl, set3_below (by repeat (first | exact hB2 | exact Below.refl _ _ | refine balloc ?_ _ | refine Below.drew ?_ | refine below_drewN ?_ _ | refine below_set ?_ (by first | omega | (dsimp only; omega)) _)) (by omega)⟩
set_option maxHeartbeats 4000000 in
theorem public_c (l : List (Int × Int)) (v : Value) (w : World) (hF : FarAt w) (hl : l.length ≤ 12) (h : ShSl w v l) (hok : ∀ i (h : i < l.length), 1 ≤ l[i].1 ∧ l[i].1 < 1013 ∧ 0 ≤ l[i].2 ∧ l[i].2 < 1013) :
    Calls Tryd.prog 31 #[v] w fun e w' => ∃ v', e = .returned (.tuple #[v', .nilIface]) ∧ SpSl w' v' (l.map fun s => sq (4 * s.2)) ∧ Below w.heap.size w w' := by
  obtain ⟨a, cap, rfl, h0⟩ := h
  have hd : decide ((12 : Int) < (l.length : Int)) = false := by rw [decide_eq_false_iff_not]; omega
  replace h0 := Lib.hid h0
  replace hok := Lib.hid hok
  replace hF := Lib.hid hF
  go_enter Tryd.func31, Tryd.ntmps31
  go_wp2
  go_loopw [4, 13] (fun o i wr => ∃ (n : Nat) (u : Value), n ≤ l.length ∧ i = .int .i64 n ∧ u = o ∧ wr.ownsRow w.heap.size 24 3 u n (spCells ((l.map fun s => sq (4 * s.2)).take n)) ∧ Below w.heap.size w wr) (fun _ i _ => l.length - (intOf i).toNat)
  case atStart => exact ⟨0, _, Nat.zero_le _, rfl, rfl, World.ownsRow_nil _ _ _ _, Below.refl _ _⟩
  case round =>
    obtain ⟨n, u, hn, rfl, rfl, hown, hb⟩ := hrel
    replace hown := Lib.hid hown
    replace hb := Lib.hid hb
    by_cases hlt : n < l.length
    · obtain ⟨b, off, rfl, hs⟩ := h0.out (by omega)
      have hs := hs.below hb.out
      have l1 := hs.cx n hlt
      have l2 := hs.cy n hlt
      have l3 := hs.lt
      have hlw := hb.out.size
      obtain ⟨x1, x2, y0, y1⟩ := hok.out n hlt
      have hsn := take_snoc2 (l.map fun s => sq (4 * s.2)) n (by simpa using hlt)
      rw [List.getElem_map] at hsn
      have htl : Hid (((l.map fun s => sq (4 * s.2)).take n).length = n) := Lib.hid (by rw [List.length_take, List.length_map]; omega)
      clear hs
      generalize l[n] = s at *
      obtain ⟨x, y⟩ := s
      simp only at l1 l2 x1 x2 y0 y1 hsn
      obtain ⟨A, hA⟩ : ∃ A, sq (4 * y) = A := ⟨_, rfl⟩
      rw [hA] at hsn
      replace hA := Lib.hid hA
      replace hsn := Lib.hid hsn
      generalize hT : (l.map fun s => sq (4 * s.2)).take n = T at *
      clear hT
      have hFr := Lib.hid (hF.out.below hb.out)
      go_wp2_with fail
      refine (right_sy x y _ x1 x2 y0 y1).mono ?_; rintro e w1 ⟨rfl, hb1⟩
      have ow1 := Lib.hid (own_below (hown.out.alloc _) hb1)
      have hB1 := Lib.hid (below_seq (balloc hb.out _) hb1)
      obtain ⟨kc, -⟩ := bcell hb1
      have y2 := (kc wr.heap.size 1 (by simp)).trans (show (wr.alloc (.cells #[.int .i64 x, .int .i64 y] 41)).cell? ⟨wr.heap.size, 1, none⟩ = some (.int .i64 y) by simp)
      have z1 := hb1.size
      simp only [World.size_alloc] at z1
      clear kc hown hb hb1 l1 l2 l3
      go_wp2_with fail
      refine (by_e y A _ (hF.out.below hB1.out) hA).mono ?_; rintro e w2 ⟨rfl, hb2⟩
      have ow2 := Lib.hid (own_below ow1.out hb2)
      have hB2 := Lib.hid (below_seq hB1.out hb2)
      have z2 := hb2.size
      clear ow1 hB1 hb2 y2
      go_wp2_with (first | (at_builtin; refine wpl_append_spot rfl _ _ _ rfl (by kernel_rfl) w.heap.size _ T n rfl (ow2.out.alloc _) htl.out (by omega) (by simp only [World.size_alloc]; omega) w2.heap.size A rfl (by go_simp) (by go_simp) (by go_simp) ?_; intro v' w3 hown' hgrow hbel hloc; replace hown' := Lib.hid hown'; replace hbel := Lib.hid (hbel w (balloc hB2.out _)); clear hgrow hloc ow2 hB2) | fail)
      go_wp2
      go_roundw
      case rel => exact ⟨n + 1, _, by omega, by go_num, rfl, by rw [hsn.out]; exact hown'.out, hbel.out⟩
      case measure => simp [intOf]; omega
    · obtain rfl : n = l.length := by omega
      have hSp : Hid (SpSl wr u (l.map fun s => sq (4 * s.2))) := Lib.hid (own_spots (by have := hown.out; rw [List.take_of_length_le (by simp)] at this; exact this) (by simp))
      go_wp2
      go_ret2
      exact ⟨_, rfl, hSp.out, hb.out⟩
theorem ShSl.made (w : World) (l : List (Int × Int)) (k n cap : Nat) (cs : Array Value) (t : TypeId) (hk : k = w.heap.size) (hc : cs = (shCells l).toArray) (hn : n = l.length) : ShSl (w.alloc (.cells cs t)) (.slice (some ⟨k, 0, none⟩) n cap) l := by
  subst hk hc hn
  refine ⟨_, _, rfl, fun _ => ⟨w.heap.size, 0, rfl, by simp, fun i hi => ?_, fun i hi => ?_⟩⟩
  all_goals
    obtain ⟨k1, k2⟩ := shCells_get l i hi
    rw [cell_of_row _ w.heap.size _ (shCells l).toArray t (0, 0) (heap_alloc_new w _)]
    simp only [Nat.zero_add, List.getElem?_toArray]
    assumption
end Go.Proofs.YtnlaofapjldciaaDoor
namespace Go.Proofs.YtnlaofapjldciaaDoor
open Go.RowKit
set_option maxRecDepth 100000
set_option linter.unusedVariables false
set_option linter.unusedSimpArgs false
theorem chk_v (s : Sp) (n : Int) (w : World) (hF : FarAt w) (h : Hid (sCheck s = n)) (h0 : n ≠ 0) : Calls Tryd.prog 106 #[spV s] w fun e w' => e = .returned (.iface 125 (.int .i64 n)) ∧ Below w.heap.size w w' := by
  have := check_bad s w hF (by rw [h.out]; exact h0); rw [h.out] at this; exact this
set_option maxHeartbeats 8000000 in
theorem qjoin_core (xs us : List Int) (l : List Sp) (v1 v2 : Value) (k : Nat) (R : Sp) (RE : Value) (w : World) (hF : FarAt w) (h1 : 1 ≤ xs.length) (h2 : xs.length ≤ 12) (hxl : l.length = xs.length) (hul : us.length = xs.length)
    (hs : ∀ i (h : i < xs.length), 1 ≤ xs[i] ∧ xs[i] < 1013) (hd : ∀ i j (hi : i < xs.length) (hj : j < xs.length), i < j → xs[i] ≠ xs[j]) (hi : IntSl w v1 xs) (hv : CapOk v1) (hsl : SpSl w v2 l) (hk : k ≤ l.length)
    (hue : Hid (∀ i (h1 : i < l.length) (h2 : i < us.length), i < k → l[i] = sq us[i]))
    (hbad : Hid (∀ h : k < l.length, sCheck l[k] ≠ 0 ∧ R = ⟨0, 0, false⟩ ∧ RE = .iface 125 (.int .i64 (sCheck l[k]))))
    (hend : Hid (k = l.length → R = sq (dot us (wgts xs)) ∧ RE = .nilIface)) :
    Calls Tryd.prog 32 #[v1, v2] w fun e w' => e = .returned (.tuple #[spV R, RE]) ∧ Below w.heap.size w w' := by
  obtain ⟨a1, c1, rfl, hi⟩ := hi
  obtain ⟨a2, c2, rfl, h0⟩ := hsl
  have hW := Lib.hid (fun w h => weights_ok xs (.slice a1 xs.length c1) w h1 h2 hs hd h hv)
  have hlen := wgts_len xs
  have hbd := Lib.hid (wgts_bd xs)
  generalize wgts xs = ws at *
  obtain ⟨b1, o1, rfl, hi'⟩ := hi (by omega)
  obtain ⟨b2, o2, rfl, h0'⟩ := h0 (by omega)
  clear hi h0
  have hxl' := Lib.hid hxl
  rw [hxl] at hk ⊢
  clear hs hd hv
  have hi := Lib.hid hi'
  have h0 := Lib.hid h0'
  clear hi' h0'
  have hF' := Lib.hid hF
  go_enter Tryd.func32, Tryd.ntmps32
  go_wp2_with fail
  refine (hW.out _ ⟨_, c1, rfl, fun _ => ⟨b1, o1, rfl, hi.out.below (below_alloc _ _)⟩⟩).mono ?_; rintro e w1 ⟨v', rfl, hi2, hb1⟩
  obtain ⟨ac, cc, rfl, hi2⟩ := hi2
  rw [hlen] at hi2 ⊢
  obtain ⟨bc, oc, rfl, hic0⟩ := hi2 (by omega)
  clear hW hi2
  have hR := Lib.hid ((SpAt.fresh w 0 0 false 24).below hb1)
  have hB1 := Lib.hid (below_seq (below_alloc w (.cells #[.int .i64 0, .int .i64 0, .bool false] 24)) hb1)
  have hF1 := Lib.hid (hF.below hB1.out)
  have hS1 := Lib.hid (h0.out.below hB1.out)
  replace hic0 := Lib.hid hic0
  clear h0 hF hb1 hi
  obtain ⟨q0, q1, q2, ql⟩ := hF1.out
  go_wp2
  clear q0 q1 q2 ql
  have hO := Lib.hid (SpAt.fresh w1 0 0 true 24)
  have hB2 := Lib.hid (below_alloc w1 (.cells #[.int .i64 0, .int .i64 0, .bool true] 24))
  generalize w1.alloc (.cells #[.int .i64 0, .int .i64 0, .bool true] 24) = w2 at *
  go_loopw [31] (fun i wr => ∃ n : Nat, n ≤ k ∧ i = .int .i64 n ∧ SpAt wr w1.heap.size (sq (dot (us.take n) ws)) ∧ Below w1.heap.size w1 wr) (fun i _ => xs.length - (intOf i).toNat)
  case atStart => exact ⟨0, Nat.zero_le _, rfl, by rw [List.take_zero, dot_nil, sq_zero]; exact hO.out, hB2.out⟩
  case round =>
    clear hO hB2
    obtain ⟨n, hn, rfl, hP, hb⟩ := hrel
    replace hP := Lib.hid hP
    replace hb := Lib.hid hb
    by_cases hlt : n < xs.length
    · have hsr := hS1.out.below hb.out
      have l1 := hsr.cx n (by omega)
      have l2 := hsr.cy n (by omega)
      have l3 := hsr.cf n (by omega)
      have hs3 := hsr.lt
      have hic1 := Lib.hid (hic0.out.below hb.out)
      have hlw := hb.out.size
      have hlr := hP.out.lt
      have hFr := Lib.hid (hF1.out.below hb.out)
      clear hsr
      by_cases hnk : n < k
      · have hA := hue.out n (by omega) (by omega) hnk
        have hdd := dot_snoc us ws n (by omega) (by omega)
        have hwn := hic1.out.c n (by omega)
        generalize (l[n]'(by omega)) = A at *
        generalize (us[n]'(by omega)) = u at *
        generalize (ws[n]'(by omega)) = c at *
        have oA : Ok A := by rw [hA]; exact sq_ok _
        replace hdd := Lib.hid hdd
        replace hA := Lib.hid hA
        obtain ⟨C, hCe⟩ : ∃ C, sq (u * c) = C := ⟨_, rfl⟩
        obtain ⟨D, hD⟩ : ∃ D, sSum (sq (dot (us.take n) ws)) C = D := ⟨_, rfl⟩
        have oP := sq_ok (dot (us.take n) ws)
        have hDe : Hid (sq (dot (us.take (n + 1)) ws) = D) := by rw [hdd.out, ← sq_add, hCe]; exact hD
        generalize sq (dot (us.take n) ws) = P at *
        have oC : Ok C := by rw [← hCe]; exact sq_ok _
        replace hCe := Lib.hid hCe
        replace hD := Lib.hid hD
        have hwn := Lib.hid hwn
        go_wp2_with fail
        refine (check_ok A _ (hFr.out.below (below_alloc _ _)) oA).mono ?_; rintro e w3 ⟨rfl, hb3⟩
        have hA3 := (SpAt.fresh wr A.x A.y A.far 24).below hb3
        have hP3 := Lib.hid ((hP.out.alloc (.cells #[.int .i64 A.x, .int .i64 A.y, .bool A.far] 24)).below hb3)
        have hb13 := Lib.hid (below_seq (balloc hb.out _) hb3)
        have hi3 := hic0.out.below hb13.out
        have hF3 := Lib.hid (hF1.out.below hb13.out)
        obtain ⟨s0, s1, s2, -, -, -, sl⟩ := hA3
        obtain ⟨p0, p1, p2, p3, p4, p5, pl⟩ := hP3.out
        have hci := hi3.lt
        have wn : w3.cell? ⟨bc, oc + n, none⟩ = some (.int .i64 c) := ((bcell (below_seq (below_alloc wr _) hb3)).1 _ _ hic1.out.lt).trans hwn.out
        clear hi3 l1 l2 l3 hb3 hwn hP hb hFr hic1
        go_wp2_with fail
        refine wp_region_grow_tail 8 Tryd.mixed (by kernel_rfl) ?_
        simp only [List.take_succ_cons, List.take_zero, List.drop_succ_cons, List.drop_zero]
        repeat (quiet_step (first | (go_at_call 102; exact grow_of (of_e A C u c _ (hF3.out.below (Grew.h _)) hA hCe)) | (go_at_call 107; exact grow_of (sum_e P C D _ (hF3.out.below (Grew.h _)) oP oC hD))))
        refine wpQuiet_nil ?_
        intro _ hw'
        obtain ⟨x, rfl⟩ := hw'
        have hP2 := hP3.out.below x.h
        have hBx := Lib.hid (below_seq hb13.out x.h)
        have hP2' := Lib.hid hP2
        clear p0 p1 p2 p3 p4 p5 pl s0 s1 s2 sl wn
        obtain ⟨p0, p1, p2, p3, p4, p5, p6⟩ := hP2
        go_wp2
        go_roundw
        case rel => exact ⟨n + 1, by omega, by go_num, by rw [hDe.out]; exact hP2'.out.set3 D, set3_below hBx.out (Nat.le_refl _)⟩
        case measure => simp [intOf]; omega
      · obtain rfl : n = k := by omega
        obtain ⟨hbd1, hR1, hR2⟩ := hbad.out (by omega)
        have hR3 := hR.out.below hb.out
        generalize (l[n]'(by omega)) = A at *
        obtain ⟨E, hE⟩ : ∃ E, sCheck A = E := ⟨_, rfl⟩
        rw [hE] at hbd1 hR2
        subst hR1 hR2
        go_wp2_with fail
        refine (chk_v A E _ (hFr.out.below (below_alloc _ _)) (Lib.hid hE) hbd1).mono ?_; rintro e w3 ⟨rfl, hb3⟩
        have hR4 := (hR3.alloc _).below hb3
        have hB4 := Lib.hid (below_seq hB1.out (below_seq (balloc hb.out _) hb3))
        obtain ⟨r0, r1, r2, f0, f1, f2, -⟩ := hR4
        clear l1 l2 l3 hb3
        go_wp2
        have k := set3_cell (w := w3) (x := .int .i64 0) (y := .int .i64 0) (z := .bool false) r0 r1 r2
        refine bodyPost_ret (v := .tuple #[spV ⟨0, 0, false⟩, .iface 125 (.int .i64 E)]) (by simp [results, Tryd.results32, go_sem, k.1, k.2.1, k.2.2]) rfl ⟨rfl, set3_below hB4.out (Nat.le_refl _)⟩
    · obtain rfl : n = xs.length := by omega
      obtain ⟨hJ1, hJ2⟩ := hend.out (by omega)
      subst hJ2
      have hPJ : sq (dot (us.take xs.length) ws) = R := by rw [List.take_of_length_le (by omega)]; exact hJ1.symm
      rw [hPJ] at hP
      obtain ⟨p0, p1, p2, p3, p4, p5, -⟩ := hP.out
      have hR2 := hR.out.below hb.out
      obtain ⟨r0, r1, r2, f0, f1, f2, -⟩ := hR2
      have hBr := Lib.hid (below_seq hB1.out hb.out)
      clear hJ1 hPJ
      go_wp2
      have k := set3_cell (w := wr) (x := .int .i64 R.x) (y := .int .i64 R.y) (z := .bool R.far) r0 r1 r2
      refine bodyPost_ret (v := .tuple #[spV R, .nilIface]) (by simp [results, Tryd.results32, go_sem, k.1, k.2.1, k.2.2]) rfl ⟨rfl, set3_below hBr.out (Nat.le_refl _)⟩
theorem qjoin_y (xs us : List Int) (l : List Sp) (v1 v2 : Value) (R : Sp) (w : World) (hF : FarAt w) (h1 : 1 ≤ xs.length) (h2 : xs.length ≤ 12) (hxl : us.length = xs.length)
    (hs : ∀ i (h : i < xs.length), 1 ≤ xs[i] ∧ xs[i] < 1013) (hd : ∀ i j (hi : i < xs.length) (hj : j < xs.length), i < j → xs[i] ≠ xs[j]) (hi : IntSl w v1 xs) (hv : CapOk v1) (hsl : SpSl w v2 l)
    (hu : Hid (l = us.map sq)) (hR : Hid (sq (dot us (wgts xs)) = R)) :
    Calls Tryd.prog 32 #[v1, v2] w fun e w' => e = .returned (.tuple #[spV R, .nilIface]) ∧ Below w.heap.size w w' := by
  have hl : l.length = us.length := by rw [hu.out, List.length_map]
  refine qjoin_core xs us l v1 v2 l.length R .nilIface w hF h1 h2 (by omega) hxl hs hd hi hv hsl (Nat.le_refl _) (Lib.hid fun i h1 h2 _ => ?_) (Lib.hid fun h => absurd h (Nat.lt_irrefl _)) (Lib.hid fun _ => ⟨hR.out.symm, rfl⟩)
  have := hu.out
  subst this
  rw [List.getElem_map]
end Go.Proofs.YtnlaofapjldciaaDoor
namespace Go.Proofs.YtnlaofapjldciaaDoor
open Go.RowKit
set_option linter.unusedVariables false
/-- The array at block b tells which of the first m places are among ps. -/
structure IsAt (w : World) (b m : Nat) (ps : List Nat) : Prop where
  lt : b < w.heap.size
  c : ∀ j, j < m → w.cell? ⟨b, j, none⟩ = some (.bool (decide (j ∈ ps)))
  f : ∀ j, j < m → w.frozen? ⟨b, j, none⟩ = false
theorem IsAt.below {w w' : World} {b m B : Nat} {ps : List Nat} (h : IsAt w b m ps) (hb : Below B w w') (hB : b < B) : IsAt w' b m ps :=
  ⟨Nat.lt_of_lt_of_le h.lt hb.size, fun j hj => (hb.cell (p := ⟨b, j, none⟩) hB).trans (h.c j hj), fun j hj => (hb.frozen (p := ⟨b, j, none⟩) hB).trans (h.f j hj)⟩
theorem IsAt.fresh (w : World) (m : Nat) (cs : Array Value) (t : TypeId) (hc : cs = Array.replicate m (.bool false)) : IsAt (w.alloc (.cells cs t)) w.heap.size m [] := by
  subst hc
  refine ⟨by simp, fun j hj => ?_, fun j hj => ?_⟩
  · rw [cell_of_row _ w.heap.size _ (Array.replicate m (.bool false)) t (0, 0) (heap_alloc_new w _)]
    simp [hj]
  · simp
theorem IsAt.put {w : World} {b m : Nat} {ps : List Nat} (h : IsAt w b m ps) (p : Nat) (hp : p < m) : IsAt (w.setCell ⟨b, p, none⟩ (.bool true)) b m (ps ++ [p]) := by
  refine ⟨by simpa [World.setCell] using h.lt, fun j hj => ?_, fun j hj => by rw [World.frozen?_setCell]; exact h.f j hj⟩
  by_cases e : j = p
  · subst e
    rw [World.cell?_setCell_same _ _ _ (h.c j hj)]; simp
  · rw [World.cell?_setCell_other (h := fun k => e (by cases k; rfl)), h.c j hj]
    simp [e]
theorem split_is (a : List Int) (v : Value) (n : Int) (hl : a.length ≤ 9223372036854775807) : (∃ E : Int, E ≠ 0 ∧ ∀ w : World, IntSl w v a → Calls Tryd.prog 21 #[v, .int .i64 n] w fun e w' => e = .returned (.tuple #[.slice none 0 0, .iface 125 (.int .i64 E)]) ∧ Below w.heap.size w w') ∨
    (∃ m : Nat, n = m ∧ 1 ≤ m ∧ m ≤ 12 ∧ 1 ≤ a.length ∧ a.length ≤ 12 ∧ a.all okR = true ∧ ∀ w : World, IntSl w v a → Calls Tryd.prog 21 #[v, .int .i64 n] w fun e w' => ∃ v', e = .returned (.tuple #[v', .nilIface]) ∧ ShSl w' v' (splitL a m) ∧ Below w.heap.size w w') := by
  by_cases hE : splitF a n = 0
  · obtain ⟨l1, l2, hok, n1, n2⟩ := splitF_0 hE
    obtain ⟨m, rfl⟩ : ∃ m : Nat, n = (m : Int) := ⟨n.toNat, by omega⟩
    exact .inr ⟨m, rfl, by omega, by omega, l1, l2, hok, fun w h => split_ok a v m w l1 l2 hok (by omega) (by omega) h⟩
  · exact .inl ⟨_, hE, fun w h => split_n a v n _ w hl h rfl hE⟩
theorem split_tells {l : List Int} {m : Nat} (hl1 : 1 ≤ l.length) (hok : l.all okR = true) (hlm : l.length ≤ m) (hm : m ≤ 12) : comb (splitL l m) = l[0] :=
  pickL_tells (ps := List.range m) hm (fun p hp => List.mem_range.mp hp) List.nodup_range hl1 hok (by rw [List.length_range]; exact hlm)
theorem sb_split (w : World) : Calls Tryd.prog 21 #[.slice (some ⟨w.heap.size, 0, none⟩) 2 2, .int .i64 2] (w.alloc (.cells #[.int .i64 5, .int .i64 2] 3)) fun e w' => ∃ b off cap, e = .returned (.tuple #[.slice (some ⟨b, off, none⟩) 2 cap, .nilIface]) ∧ ShsAt w' b off (splitL [5, 2] 2) ∧ w'.cell? ⟨b, off + 1, none⟩ = some (.int .i64 7) ∧ b < w'.heap.size ∧ Below (w.alloc (.cells #[.int .i64 5, .int .i64 2] 3)).heap.size (w.alloc (.cells #[.int .i64 5, .int .i64 2] 3)) w' := by
  have i1 := IntSl.made w [5, 2] w.heap.size 2 2 #[.int .i64 5, .int .i64 2] 3 rfl rfl rfl
  refine (split_ok [5, 2] _ 2 _ (by decide) (by decide) (by decide) (by decide) (by decide) i1).mono ?_
  rintro e w' ⟨v', rfl, ⟨a, cap, rfl, hs⟩, hb⟩
  obtain ⟨b, off, rfl, hs'⟩ := hs (by rw [splitL_len]; decide)
  have := hs'.cy 0 (by rw [splitL_len]; decide)
  exact ⟨b, off, cap, rfl, hs', this, hs'.lt, hb⟩
theorem sb_comb (b off cap : Nat) (w : World) (h : ShsAt w b off (splitL [5, 2] 2)) : Calls Tryd.prog 28 #[.slice (some ⟨b, off, none⟩) 2 cap] w fun e w' => e = .returned (.tuple #[.int .i64 5, .nilIface]) ∧ Below w.heap.size w w' := by
  have := combine_ok (splitL [5, 2] 2) (.slice (some ⟨b, off, none⟩) 2 cap) w (by rw [splitL_len]; decide) (by rw [splitL_len]; decide)
    (pickL_ok (l := [5, 2]) (ps := List.range 2) (n := 2) (by decide) (fun p hp => List.mem_range.mp hp)) (pickL_ne (l := [5, 2]) (ps := List.range 2) List.nodup_range) ⟨_, cap, rfl, fun _ => ⟨b, off, rfl, h⟩⟩
  rw [split_tells (l := [5, 2]) (m := 2) (by decide) (by decide) (by decide) (by decide)] at this
  exact this
theorem own_sl {w : World} {B e size n : Nat} {v : Value} {xs : List Value} (h : w.ownsRow B e size v n xs) : ∃ a cap, v = .slice a n cap := by
  rcases h.2 with ⟨rfl, h0⟩ | ⟨g, cap, cur, rfl, -⟩
  · exact ⟨none, 0, by rw [h0]⟩
  · exact ⟨_, _, rfl⟩
end Go.Proofs.YtnlaofapjldciaaDoor
namespace Go.Proofs.YtnlaofapjldciaaDoor
open Go.RowKit
set_option linter.unusedVariables false
/-- Two slices that own no block together. -/
def Ap (u v : Value) : Prop := ∀ g, u.ownBlock = some g → v.ownBlock ≠ some g
theorem Ap.symm {u v : Value} (h : Ap u v) : Ap v u := fun g hv hu => h g hu hv
theorem Ap.nil (v : Value) : Ap (.slice none 0 0) v := fun g h => by cases h
/-- What is appended to one leaves the other one. -/
theorem row_pair {w w' : World} {B e size n : Nat} {u u' v : Value} {ys : List Value} (hv : w.ownsRow B e size v n ys) (ha : Ap u v) (hg : w.grownBy w' u.ownBlock) (hl : u'.ownBlock = u.ownBlock ∨ u'.ownBlock = some w.heap.size) : w'.ownsRow B e size v n ys ∧ Ap u' v := by
  refine ⟨hv.kept hg ?_, fun g h1 h2 => ?_⟩
  · cases hvb : v.ownBlock with
    | none => exact .inl rfl
    | some k => exact .inr (fun e => ha k e.symm hvb)
  · rcases hl with e | e
    · exact ha g (e.symm.trans h1) h2
    · rw [e] at h1
      have := (hv.lt g h2).2
      cases h1
      exact Nat.lt_irrefl _ this
end Go.Proofs.YtnlaofapjldciaaDoor
