/- Texts of this claim, in one. -/
import Derived.Test.YtfnifdmnbccblaaDoorWb
import Derived.Test.YtfnifdmnbccblaaDoorTw
import Derived.Test.YtfnifdmnbccblaaDoorCyc
import Derived.Test.YtfnifdmnbccblaaDoorSf
import Derived.Test.YtfnifdmnbccblaaDoorGa
import Derived.Deep.RegionWith
import Derived.Test.YtfnifdmnbccblaaDoorRb
import Derived.Test.YtfnifdmnbccblaaDoorWs
import Derived.Test.YtfnifdmnbccblaaDoorWl
import Derived.Test.YtfnifdmnbccblaaDoorLf
import Derived.Deep.DeepCutAuto
import Derived.Test.YtfnifdmnbccblaaDoorHa
import Derived.Laws.Entries
import Derived.Test.YtfnifdmnbccblaaDoorWr
import Derived.Test.YtfnifdmnbccblaaDoorKe
import Derived.Test.YtfnifdmnbccblaaDoorTn
import Derived.Test.YtfnifdmnbccblaaDoorRi
import Derived.Test.YtfnifdmnbccblaaDoorRv
namespace Go.Proofs.YtfnifdmnbccblaaDoor
open Go.RowKit
/-- A number of the greater field, as the program has it. -/
abbrev twR (z : Z) : Value := .agg #[.int .i64 (fz z.re), .int .i64 (fz z.im)]
set_option maxRecDepth 100000 in
set_option maxHeartbeats 400000 in
theorem twinMul_c (a b c d : Int) (w : World) : Calls Tryd.prog 91 #[.agg #[.int .i64 a, .int .i64 b], .agg #[.int .i64 c, .int .i64 d]] w fun e w' => e = .returned (twR ((zi a b).mul (zi c d))) ∧ Below w.heap.size w w' := by
  go_enter Tryd.func91, Tryd.ntmps91
  go_wp2
  refine wp_region_st 23 Tryd.mixed (by kernel_rfl) ?_
  simp only [List.take_succ_cons, List.take_zero, List.drop_succ_cons, List.drop_zero]
  repeat (first | still_step | still_call (stl (primeMul_c _ _ _)) | still_call (stl (primeSub_c _ _ _)) | still_call (stl (primeAdd_c _ _ _)) | still_call (stl (primeOf_c _ _)))
  refine wpStill_nil ?_
  rw [zmul_re, zmul_im]
  go_wp2
  refine bodyPost_ret (v := twR ((zi a b).mul (zi c d))) (by simp [results, Tryd.results91, go_sem]) rfl ⟨rfl, ?_⟩
  repeat (first | exact Below.refl _ _ | refine Below.drew ?_ | refine balloc ?_ _)
structure TwMem (w wr : World) (za zb oa ob : Int) : Prop where
  a0 : wr.cell? ⟨w.heap.size, 0, none⟩ = some (.int .i64 za)
  a1 : wr.cell? ⟨w.heap.size, 1, none⟩ = some (.int .i64 zb)
  o0 : wr.cell? ⟨w.heap.size + 1 + 1, 0, none⟩ = some (.int .i64 oa)
  o1 : wr.cell? ⟨w.heap.size + 1 + 1, 1, none⟩ = some (.int .i64 ob)
  r0 : wr.cell? ⟨w.heap.size + 1, 0, none⟩ = some (.int .i64 0)
  r1 : wr.cell? ⟨w.heap.size + 1, 1, none⟩ = some (.int .i64 0)
  fa0 : wr.frozen? ⟨w.heap.size, 0, none⟩ = false
  fa1 : wr.frozen? ⟨w.heap.size, 1, none⟩ = false
  fo0 : wr.frozen? ⟨w.heap.size + 1 + 1, 0, none⟩ = false
  fo1 : wr.frozen? ⟨w.heap.size + 1 + 1, 1, none⟩ = false
  fr0 : wr.frozen? ⟨w.heap.size + 1, 0, none⟩ = false
  fr1 : wr.frozen? ⟨w.heap.size + 1, 1, none⟩ = false
  sz : w.heap.size + 1 + 1 < wr.heap.size
  bel : Below w.heap.size w wr
theorem TwMem.below {w wr w1 : World} {za zb oa ob : Int} (h : TwMem w wr za zb oa ob) (hb : Below wr.heap.size wr w1) : TwMem w w1 za zb oa ob := by
  obtain ⟨a0, a1, o0, o1, r0, r1, fa0, fa1, fo0, fo1, fr0, fr1, hsz, hbel⟩ := h
  obtain ⟨hc, hf⟩ := bcell hb
  have := hb.size
  exact ⟨(hc _ _ (by omega)).trans a0, (hc _ _ (by omega)).trans a1, (hc _ _ (by omega)).trans o0, (hc _ _ (by omega)).trans o1, (hc _ _ (by omega)).trans r0, (hc _ _ (by omega)).trans r1,
    (hf _ _ (by omega)).trans fa0, (hf _ _ (by omega)).trans fa1, (hf _ _ (by omega)).trans fo0, (hf _ _ (by omega)).trans fo1, (hf _ _ (by omega)).trans fr0, (hf _ _ (by omega)).trans fr1, by omega, hbel.trans (hb.mono hbel.size)⟩
theorem set2_cell {w : World} {b : Nat} {u v x y : Value} (h0 : w.cell? ⟨b, 0, none⟩ = some u) (h1 : w.cell? ⟨b, 1, none⟩ = some v) :
    ((w.setCell ⟨b, 0, none⟩ x).setCell ⟨b, 1, none⟩ y).cell? ⟨b, 0, none⟩ = some x ∧ ((w.setCell ⟨b, 0, none⟩ x).setCell ⟨b, 1, none⟩ y).cell? ⟨b, 1, none⟩ = some y := by
  constructor
  · rw [World.cell?_setCell_other (h := by simp)]; exact World.cell?_setCell_same _ _ _ h0
  · exact World.cell?_setCell_same _ _ _ (by rw [World.cell?_setCell_other (h := by simp)]; exact h1)
theorem set2_other {w : World} {b c k : Nat} {x y : Value} (h : b ≠ c) : ((w.setCell ⟨b, 0, none⟩ x).setCell ⟨b, 1, none⟩ y).cell? ⟨c, k, none⟩ = w.cell? ⟨c, k, none⟩ := by
  rw [World.cell?_setCell_other (h := fun e => h (congrArg Addr.block e)), World.cell?_setCell_other (h := fun e => h (congrArg Addr.block e))]
theorem set2_below {B : Nat} {a w : World} {b : Nat} {x y : Value} (h : Below B a w) (hb : B ≤ b) : Below B a ((w.setCell ⟨b, 0, none⟩ x).setCell ⟨b, 1, none⟩ y) := (h.setCell hb x).setCell hb y
theorem set2_size {w : World} {b : Nat} {x y : Value} : ((w.setCell ⟨b, 0, none⟩ x).setCell ⟨b, 1, none⟩ y).heap.size = w.heap.size := by simp [World.setCell]
theorem TwMem.setO {w wr : World} {za zb oa ob x y : Int} (h : TwMem w wr za zb oa ob) : TwMem w ((wr.setCell ⟨w.heap.size + 1 + 1, 0, none⟩ (.int .i64 x)).setCell ⟨w.heap.size + 1 + 1, 1, none⟩ (.int .i64 y)) za zb x y := by
  obtain ⟨a0, a1, o0, o1, r0, r1, fa0, fa1, fo0, fo1, fr0, fr1, hsz, hbel⟩ := h
  have k := set2_cell (x := .int .i64 x) (y := .int .i64 y) o0 o1
  refine ⟨?_, ?_, k.1, k.2, ?_, ?_, ?_, ?_, ?_, ?_, ?_, ?_, by rw [set2_size]; exact hsz, set2_below hbel (by omega)⟩
  · rw [set2_other (by omega)]; exact a0
  · rw [set2_other (by omega)]; exact a1
  · rw [set2_other (by omega)]; exact r0
  · rw [set2_other (by omega)]; exact r1
  all_goals simp only [World.frozen?_setCell]; assumption
theorem TwMem.setA {w wr : World} {za zb oa ob x y : Int} (h : TwMem w wr za zb oa ob) : TwMem w ((wr.setCell ⟨w.heap.size, 0, none⟩ (.int .i64 x)).setCell ⟨w.heap.size, 1, none⟩ (.int .i64 y)) x y oa ob := by
  obtain ⟨a0, a1, o0, o1, r0, r1, fa0, fa1, fo0, fo1, fr0, fr1, hsz, hbel⟩ := h
  have k := set2_cell (x := .int .i64 x) (y := .int .i64 y) a0 a1
  refine ⟨k.1, k.2, ?_, ?_, ?_, ?_, ?_, ?_, ?_, ?_, ?_, ?_, by rw [set2_size]; exact hsz, set2_below hbel (by omega)⟩
  · rw [set2_other (by omega)]; exact o0
  · rw [set2_other (by omega)]; exact o1
  · rw [set2_other (by omega)]; exact r0
  · rw [set2_other (by omega)]; exact r1
  all_goals simp only [World.frozen?_setCell]; assumption
theorem TwMem.start (w : World) (a b : Int) : TwMem w (((w.alloc (.cells #[.int .i64 a, .int .i64 b] 40)).alloc (.cells #[.int .i64 0, .int .i64 0] 40)).alloc (.cells #[.int .i64 1, .int .i64 0] 40)) a b 1 0 := by
  refine ⟨?_, ?_, ?_, ?_, ?_, ?_, ?_, ?_, ?_, ?_, ?_, ?_, ?_, balloc (balloc (below_alloc _ _) _) _⟩
  all_goals go_simp
set_option maxRecDepth 100000 in
set_option maxHeartbeats 1000000 in
theorem twinPower_c (a b n : Int) (w : World) (hn : 0 ≤ n) (hm : n ≤ 9223372036854775807) : Calls Tryd.prog 133 #[.agg #[.int .i64 a, .int .i64 b], .int .i64 n] w fun e w' => e = .returned (twR ((zi a b).pow n.toNat)) ∧ Below w.heap.size w w' := by
  go_enter Tryd.func133, Tryd.ntmps133
  go_wp2
  go_loopw [1] (fun m wr => ∃ (n' : Int) (z o : Z) (za zb : Int), m = .int .i64 n' ∧ ZAt ((zi a b).pow n.toNat) z o n' ∧ TwMem w wr za zb (fz o.re) (fz o.im) ∧ Hid (zi za zb = z)) (fun m _ => (intOf m).toNat)
  case atStart =>
    exact ⟨n, zi a b, .one, a, b, rfl, zAt_start _ _ hn hm, TwMem.start w a b, rfl⟩
  case round =>
    obtain ⟨n', z, o, za, zb, rfl, h, hm0, hz⟩ := hrel
    have h1 := (zAt_bd h).1
    have h2 := (zAt_bd h).2
    have hm' := hm0
    obtain ⟨a0, a1, o0, o1, r0, r1, fa0, fa1, fo0, fo1, fr0, fr1, hsz, hbel⟩ := hm'
    by_cases hpos : 0 < n'
    · by_cases hodd : n' % 2 = 1
      · have hb1 : (bits BinOp.and IntKind.i64 n' 1 == 1) = true := by rw [and_one64 n' h1 h2]; simpa using hodd
        go_wp2_with fail
        refine (twinMul_c _ _ _ _ _).mono ?_; rintro e w1 ⟨rfl, hb⟩
        have hm1 := hm0.below hb
        clear hm0 a0 a1 o0 o1 r0 r1 fa0 fa1 fo0 fo1 fr0 fr1 hsz hbel hb
        have hm2 := hm1
        obtain ⟨a0, a1, o0, o1, r0, r1, fa0, fa1, fo0, fo1, fr0, fr1, hsz, hbel⟩ := hm2
        go_wp2_with fail
        refine (twinMul_c _ _ _ _ _).mono ?_; rintro e w2 ⟨rfl, hb2⟩
        have hm3 := (hm1.setO (x := fz ((zi (fz o.re) (fz o.im)).mul (zi za zb)).re) (y := fz ((zi (fz o.re) (fz o.im)).mul (zi za zb)).im)).below hb2
        clear hm1 a0 a1 o0 o1 r0 r1 fa0 fa1 fo0 fo1 fr0 fr1 hsz hbel hb2
        have hm4 := hm3
        obtain ⟨a0, a1, o0, o1, r0, r1, fa0, fa1, fo0, fo1, fr0, fr1, hsz, hbel⟩ := hm4
        go_wp2
        clear a0 a1 o0 o1 r0 r1 fa0 fa1 fo0 fo1 fr0 fr1 hsz hbel
        have hz' := hz.out
        rw [zi_fz, hz'] at hm3
        rw [hz']
        go_roundw
        case rel => exact ⟨n' / 2, z.mul z, o.mul z, _, _, rfl, zAt_odd h hodd, hm3.setA, zi_fz _⟩
        case measure => simp [intOf]; omega
      · have hb1 : (bits BinOp.and IntKind.i64 n' 1 == 1) = false := by rw [and_one64 n' h1 h2]; simpa using hodd
        go_wp2_with fail
        refine (twinMul_c _ _ _ _ _).mono ?_; rintro e w2 ⟨rfl, hb2⟩
        have hm3 := hm0.below hb2
        clear hm0 a0 a1 o0 o1 r0 r1 fa0 fa1 fo0 fo1 fr0 fr1 hsz hbel hb2
        have hm4 := hm3
        obtain ⟨a0, a1, o0, o1, r0, r1, fa0, fa1, fo0, fo1, fr0, fr1, hsz, hbel⟩ := hm4
        go_wp2
        clear a0 a1 o0 o1 r0 r1 fa0 fa1 fo0 fo1 fr0 fr1 hsz hbel
        have hz' := hz.out
        rw [hz']
        go_roundw
        case rel => exact ⟨n' / 2, z.mul z, o, _, _, rfl, zAt_even h (by omega), hm3.setA, zi_fz _⟩
        case measure => simp [intOf]; omega
    · have ho := Lib.hid (zAt_end h (by omega))
      go_wp2
      have k := set2_cell (x := .int .i64 (fz o.re)) (y := .int .i64 (fz o.im)) r0 r1
      have ho := ho.out
      refine bodyPost_ret (v := twR o) (by simp [results, Tryd.results133, go_sem, k.1, k.2]) rfl ⟨by rw [ho], ?_⟩
      exact set2_below hbel (by omega)
end Go.Proofs.YtfnifdmnbccblaaDoor
namespace Go.Proofs.YtfnifdmnbccblaaDoor
open Go.RowKit
end Go.Proofs.YtfnifdmnbccblaaDoor
namespace Go.Proofs.YtfnifdmnbccblaaDoor
theorem recip_prod (x1 x2 x3 e1 e2 e3 a b c d : F) (h1 : x1+x2+x3 = e1) (h2 : x1*x2+x1*x3+x2*x3 = e2) (h3 : x1*x2*x3 = e3) :
    ((Z.mk (a*x1-c) (b*x1-d)).mul (Z.mk (a*x2-c) (b*x2-d))).mul (Z.mk (a*x3-c) (b*x3-d)) =
      ⟨(a*(a*a-b*b) - b*(2*a*b))*e3 - ((a*a-b*b)*c-2*a*b*d)*e2 + (a*(c*c-d*d) - b*(2*c*d))*e1 - (c*(c*c-d*d)-d*(2*c*d)),
       (a*(2*a*b)+b*(a*a-b*b))*e3 - ((a*a-b*b)*d+2*a*b*c)*e2 + (a*(2*c*d)+b*(c*c-d*d))*e1 - (c*(2*c*d)+d*(c*c-d*d))⟩ := by
  subst h1 h2 h3
  apply Z.ext'
  · simp only [Z.mul]; grobner
  · simp only [Z.mul]; grobner
/-- The value of a line with slope l, over the field, at the turned place of (x, y); of one with slope s, among the turned ones, at (t, u). -/
def lv (l v x y : F) : Z := ⟨l * x - v, y⟩
def mv (s n t u : F) : Z := ⟨u, s * t - n⟩
theorem recip (x1 x2 x3 s n t1 t2 t3 l v : F) (h1 : x1+x2+x3 = s*s) (h2 : x1*x2+x1*x3+x2*x3 = 1-2*s*n) (h3 : x1*x2*x3 = n*n)
    (k1 : t1+t2+t3 = l*l) (k2 : t1*t2+t1*t3+t2*t3 = 1-2*l*v) (k3 : t1*t2*t3 = v*v) :
    ((lv l v x1 (s*x1+n)).mul (lv l v x2 (s*x2+n))).mul (lv l v x3 (-(s*x3+n))).conj = ((mv s n t1 (l*t1+v)).mul (mv s n t2 (l*t2+v))).mul (mv s n t3 (-(l*t3+v))).conj := by
  have a := recip_prod x1 x2 x3 _ _ _ l s v (-n) h1 h2 h3
  have b := recip_prod t1 t2 t3 _ _ _ l s (-v) n k1 k2 k3
  have ea : ∀ x : F, lv l v x (s*x+n) = Z.mk (l*x-v) (s*x- -n) := fun x => Z.ext' rfl (by simp only [lv]; grobner)
  have ea3 : (lv l v x3 (-(s*x3+n))).conj = Z.mk (l*x3-v) (s*x3- -n) := Z.ext' rfl (by simp only [lv, Z.conj]; grobner)
  have eb : ∀ t : F, mv s n t (l*t+v) = Z.mk (l*t- -v) (s*t-n) := fun t => Z.ext' (by simp only [mv]; grobner) rfl
  have eb3 : (mv s n t3 (-(l*t3+v))).conj = (Z.of (-1)).mul (Z.mk (l*t3- -v) (s*t3-n)) := Z.ext' (by simp only [mv, Z.conj, Z.of, Z.mul]; grobner) (by simp only [mv, Z.conj, Z.of, Z.mul]; grobner)
  rw [ea x1, ea x2, ea3, a, eb, eb, eb3, Z.mul_left_comm, b]
  clear a b ea ea3 eb eb3 h1 h2 h3 k1 k2 k3
  apply Z.ext'
  · simp only [Z.mul, Z.of]; grobner
  · simp only [Z.mul, Z.of]; grobner
/-- What a slope says of two spots and their sum. -/
structure LineOf (a b : Sp) (l v : F) : Prop where
  ya : fi a.y = l * fi a.x + v
  yb : fi b.y = l * fi b.x + v
  yc : fi (sSum a b).y = -(l * fi (sSum a b).x + v)
  far : (sSum a b).far = false
  e1 : fi a.x + fi b.x + fi (sSum a b).x = l * l
  e2 : fi a.x * fi b.x + fi a.x * fi (sSum a b).x + fi b.x * fi (sSum a b).x = 1 - 2 * l * v
  e3 : fi a.x * fi b.x * fi (sSum a b).x = v * v
theorem third_line {a b : Sp} {s : Int} (hs : sSum a b = sThird a b s) (hl : fi s * (fi a.x - fi b.x) = fi a.y - fi b.y)
    (h : fi a.x*fi b.x+fi a.x*(fi s*fi s-(fi a.x+fi b.x))+fi b.x*(fi s*fi s-(fi a.x+fi b.x)) = 1-2*fi s*(fi a.y-fi s*fi a.x) ∧ fi a.x*fi b.x*(fi s*fi s-(fi a.x+fi b.x)) = (fi a.y-fi s*fi a.x)*(fi a.y-fi s*fi a.x)) :
    LineOf a b (fi s) (fi a.y - fi s * fi a.x) := by
  have ex : fi (sThird a b s).x = fi s*fi s-(fi a.x+fi b.x) := by
    show fi (pSub (pMul s s) (a.x + b.x)) = _
    rw [fi_pSub, fi_pMul, fi_add]
  have ey : fi (sThird a b s).y = -(fi s * (fi s*fi s-(fi a.x+fi b.x)) + (fi a.y - fi s * fi a.x)) := by
    show fi (pSub (pMul s (pSub a.x (sThird a b s).x)) a.y) = _
    rw [fi_pSub, fi_pMul, fi_pSub, ex]; grobner
  refine ⟨by grobner, by grobner, by rw [hs, ex, ey], by rw [hs]; rfl, by rw [hs, ex]; grobner, by rw [hs, ex]; exact h.1, by rw [hs, ex]; exact h.2⟩
theorem slope_line {a b : Sp} {s : Int} (ha : Ok a) (hb : Ok b) (fa : a.far = false) (fb : b.far = false) (hs : sSlope a b = some s) :
    LineOf a b (fi s) (fi a.y - fi s * fi a.x) := by
  have es : sSum a b = sThird a b s := by unfold sSum; rw [fa, fb, hs]; rfl
  have oa := ha.on fa; have ob := hb.on fb
  unfold sSlope at hs
  by_cases hx : a.x ≠ b.x
  · rw [if_pos hx] at hs
    have hne : fi a.x - fi b.x ≠ 0 := fun h => hx (fi_inj ⟨ha.x0, ha.x1⟩ ⟨hb.x0, hb.x1⟩ (by grobner))
    have e := Option.some.inj hs
    have hl : fi s * (fi a.x - fi b.x) = fi a.y - fi b.y := by
      rw [← e, fi_pMul, fi_pInv, fi_pSub, fi_pSub]
      have := inv_mul hne
      rw [show (fi a.y - fi b.y) * inv (fi a.x - fi b.x) * (fi a.x - fi b.x) = (fi a.y - fi b.y) * (inv (fi a.x - fi b.x) * (fi a.x - fi b.x)) by grobner, this]; grobner
    exact third_line es hl (chord_rel hne oa ob hl)
  · rw [if_neg hx] at hs
    by_cases hy : a.y ≠ b.y ∨ a.y = 0
    · rw [if_pos hy] at hs; cases hs
    · rw [if_neg hy] at hs
      have e := Option.some.inj hs
      have hy' : a.y = b.y ∧ a.y ≠ 0 := by omega
      have hne : 2 * fi a.y ≠ 0 := mul_ne two_ne (fun h => hy'.2 ((fi_zero_iff ⟨ha.y0, ha.y1⟩).mp h))
      have hl : fi s * (2 * fi a.y) = 3 * (fi a.x * fi a.x) + 1 := by
        rw [← e, fi_pMul, fi_pInv, fi_add, fi_pMul, fi_pMul, fi_mul]
        have h2 : fi 2 = 2 := rfl
        have h3 : fi 3 = 3 := rfl
        rw [h2, h3, fi_one]
        have := inv_mul hne
        rw [show (3 * (fi a.x * fi a.x) + 1) * inv (2 * fi a.y) * (2 * fi a.y) = (3 * (fi a.x * fi a.x) + 1) * (inv (2 * fi a.y) * (2 * fi a.y)) by grobner, this]; grobner
      have : b = a := Sp.ext' (Decidable.of_not_not hx).symm hy'.1.symm (fb.trans fa.symm)
      subst this
      exact third_line es (by grobner) (tangent_rel oa hl)
theorem slope_none {a b : Sp} (fa : a.far = false) (fb : b.far = false) (h : (sSum a b).far = false) : ∃ s, sSlope a b = some s := by
  cases e : sSlope a b with
  | none => exfalso; unfold sSum at h; rw [fa, fb, e] at h; cases h
  | some s => exact ⟨s, rfl⟩
/-- A line's value, as the program reckons it. -/
def zLine (a b t : Sp) : Z := match sSlope a b with
  | none => .one
  | some s => ⟨fi s * (fi t.x + fi a.x) - fi a.y, fi t.y⟩
theorem zLine_lv {a b t : Sp} {s : Int} (h : sSlope a b = some s) : zLine a b t = lv (fi s) (fi a.y - fi s * fi a.x) (fi t.x) (fi t.y) := by
  unfold zLine; rw [h]; exact Z.ext' (by simp only [lv]; grobner) rfl
/-- What one step of Miller's adds, of b, of c and of their sum. -/
theorem step_recip {a b T U : Sp} {s n : F} (hT : Ok T) (hU : Ok U) (fT : T.far = false) (fU : U.far = false) (fS : (sSum T U).far = false) (hl : LineOf a b s n) :
    ((zLine T U a).mul (zLine T U b)).mul (zLine T U (sSum a b)).conj =
      ((mv s n (fi T.x) (fi T.y)).mul (mv s n (fi U.x) (fi U.y))).mul (mv s n (fi (sSum T U).x) (fi (sSum T U).y)).conj := by
  obtain ⟨l, hs⟩ := slope_none fT fU fS
  have k := slope_line hT hU fT fU hs
  rw [zLine_lv hs, zLine_lv hs, zLine_lv hs, hl.ya, hl.yb, hl.yc, k.yb, k.yc]
  have := recip _ _ _ s n _ _ _ (fi l) (fi T.y - fi l * fi T.x) hl.e1 hl.e2 hl.e3 k.e1 k.e2 k.e3
  rw [this]
  have e : fi l * fi T.x + (fi T.y - fi l * fi T.x) = fi T.y := by grobner
  rw [e]
end Go.Proofs.YtfnifdmnbccblaaDoor
namespace Go.Proofs.YtfnifdmnbccblaaDoor
/-- One step: false: the number is squared, times the line that touches, the spot doubled; true: times the line through the spot and a, which is added. -/
def mstep (a b : Sp) (st : Z × Sp) (o : Bool) : Z × Sp :=
  if o then (st.1.mul (zLine st.2 a b), sSum st.2 a) else ((st.1.mul st.1).mul (zLine st.2 st.2 b), sSum st.2 st.2)
def mrun (a b : Sp) (ops : List Bool) : Z × Sp := ops.foldl (mstep a b) (.one, a)
def cstep (k : Nat) (o : Bool) : Nat := if o then k + 1 else k + k
/-- All that is met on the way is below 1013. -/
def cgood : Nat → List Bool → Bool
  | k, [] => Nat.beq k 1012
  | k, o :: l => Nat.ble (cstep k o) 1012 && cgood (cstep k o) l
theorem fi_y_ne {s : Sp} (h : Ok s) (hf : s.far = false) (h2 : (sSum s s).far = false) : fi s.y ≠ 0 := fun e => by
  have hy := (fi_zero_iff ⟨h.y0, h.y1⟩).mp e
  have : sSlope s s = none := by unfold sSlope; rw [if_neg (by simp), if_pos (Or.inr hy)]
  unfold sSum at h2; rw [hf, this] at h2; cases h2
theorem sq_far_false {a : Int} : (sq a).far = false ↔ a % 4052 ≠ 0 := by
  have := @sq_far a
  cases h : (sq a).far
  · rw [h] at this; simp at this; simp [this]
  · rw [h] at this; simp at this; simp [this]
theorem of_swap (r : F) (a b : Z) : (a.mul (.of r)).mul b = (Z.of r).mul (a.mul b) := by rw [Z.mul_comm a, Z.mul_assoc]
theorem norm_mv {s n t u : F} (h : u ≠ 0) : (mv s n t u).norm ≠ 0 := fun e => h (Z.norm_zero e).1
section
variable (i : Int) (b c : Sp) (s n : F)
/-- The value at so many times the first spot. -/
def mk' (k : Nat) : Z := mv s n (fi (sq (4 * i * k)).x) (fi (sq (4 * i * k)).y)
theorem mul_i_ne {i k : Int} (hi : i % 1013 ≠ 0) (h1 : 1 ≤ k) (h2 : k ≤ 1012) : (4 * i * k) % 4052 ≠ 0 := by
  intro h
  have h4 : (4 * (i * k)) % (4 * 1013) = 0 := by rw [← Int.mul_assoc]; exact h
  rw [Int.mul_emod_mul_of_pos _ _ (by decide)] at h4
  have h3 : (i * k) % 1013 = 0 := by omega
  have d : 1013 ∣ i.natAbs * k.natAbs := by rw [← Int.natAbs_mul]; exact Int.natAbs_dvd_natAbs.mpr (Int.dvd_of_emod_eq_zero h3)
  have p : Nat.Coprime 1013 k.natAbs := by
    have g : ∀ m : Nat, m < 1012 → Nat.gcd 1013 (m + 1) = 1 := by decide +kernel
    have e : k.natAbs = (k.natAbs - 1) + 1 := by omega
    unfold Nat.Coprime; rw [e]; exact g _ (by omega)
  have := Nat.Coprime.dvd_of_dvd_mul_right p d
  exact hi (by omega)
theorem far_k {i : Int} {k : Nat} (hi : i % 1013 ≠ 0) (h1 : 1 ≤ k) (h2 : k ≤ 1012) : (sq (4 * i * k)).far = false :=
  sq_far_false.mpr (mul_i_ne hi (by omega) (by omega))
theorem y_k {i : Int} {k : Nat} (hi : i % 1013 ≠ 0) (h1 : 1 ≤ k) (h2 : k ≤ 1012) : fi (sq (4 * i * k)).y ≠ 0 := by
  refine fi_y_ne (sq_ok _) (far_k hi h1 h2) ?_
  rw [sq_add]
  refine sq_far_false.mpr fun h => ?_
  have h3 := mul_i_ne (i := i) (k := k) hi (by omega) (by omega)
  rw [Int.mul_assoc] at h h3
  generalize i * (k : Int) = m at *
  omega
def Good (k : Nat) (fb fc fd : Z) : Prop := ∃ r : F, r ≠ 0 ∧ (fb.mul fc).mul fd.conj = (Z.of r).mul (((mk' i s n 1).pow k).mul (mk' i s n k).conj)
theorem good_start (hi : i % 1013 ≠ 0) : Good i s n 1 .one .one .one := by
  refine ⟨inv (mk' i s n 1).norm, fun h => ?_, ?_⟩
  · have := mul_inv (norm_mv (s := s) (n := n) (t := fi (sq (4 * i * (1 : Nat))).x) (y_k (k := 1) hi (by decide) (by decide)))
    have e : (mk' i s n 1).norm * inv (mk' i s n 1).norm = 1 := this
    rw [h] at e; exact one_ne (by rw [← e]; grobner)
  · have h1 : ((mk' i s n 1).pow 1).mul (mk' i s n 1).conj = .of (mk' i s n 1).norm := by
      rw [← Z.mul_conj, Z.pow_one]
    have e : inv (mk' i s n 1).norm * (mk' i s n 1).norm = 1 := inv_mul (norm_mv (y_k (k := 1) hi (by decide) (by decide)))
    rw [h1, Z.of_mul, e]
    exact Z.ext' (by decide) (by decide)
instance : Std.Associative Z.mul := ⟨Z.mul_assoc⟩
instance : Std.Commutative Z.mul := ⟨Z.mul_comm⟩
theorem dbl_alg (a b c x y z : Z) : (((a.mul a).mul x).mul ((b.mul b).mul y)).mul ((c.mul c).mul z) = (((a.mul b).mul c).mul ((a.mul b).mul c)).mul ((x.mul y).mul z) := by ac_rfl
theorem add_alg (a b c x y z : Z) : ((a.mul x).mul (b.mul y)).mul (c.mul z) = ((a.mul b).mul c).mul ((x.mul y).mul z) := by ac_rfl
theorem dbl_alg2 (r p t u v : Z) : ((r.mul (p.mul u)).mul (r.mul (p.mul u))).mul ((t.mul t).mul v) = ((r.mul r).mul ((t.mul u).mul (t.mul u))).mul ((p.mul p).mul v) := by ac_rfl
theorem add_alg2 (r p m t u v : Z) : (r.mul (p.mul u)).mul ((t.mul m).mul v) = (r.mul (t.mul u)).mul ((p.mul m).mul v) := by ac_rfl
theorem good_step {i : Int} {b c : Sp} {s n : F} (hi : i % 1013 ≠ 0) (hl : LineOf b c s n) {k : Nat} {o : Bool} (h1 : 1 ≤ k) (hk : k ≤ 1012) (h2 : cstep k o ≤ 1012) {fb fc fd : Z} (h : Good i s n k fb fc fd) :
    Good i s n (cstep k o) (mstep (sq (4 * i)) b (fb, sq (4 * i * k)) o).1 (mstep (sq (4 * i)) c (fc, sq (4 * i * k)) o).1 (mstep (sq (4 * i)) (sSum b c) (fd, sq (4 * i * k)) o).1 := by
  obtain ⟨r, hr, h⟩ := h
  have hn : (mk' i s n k).norm ≠ 0 := norm_mv (y_k hi h1 hk)
  have hc : (mk' i s n k).mul (mk' i s n k).conj = .of (mk' i s n k).norm := Z.mul_conj _
  cases o
  · simp only [cstep, Bool.false_eq_true, if_false] at h2
    have e : sSum (sq (4 * i * k)) (sq (4 * i * k)) = sq (4 * i * ((k + k : Nat) : Int)) := by rw [sq_add]; congr 1; rw [Int.natCast_add, Int.mul_add]
    have st := step_recip (sq_ok _) (sq_ok _) (far_k hi h1 hk) (far_k hi h1 hk) (by rw [e]; exact far_k hi (by omega) h2) hl
    rw [e] at st
    refine ⟨r * r * ((mk' i s n k).norm * (mk' i s n k).norm), mul_ne (mul_ne hr hr) (mul_ne hn hn), ?_⟩
    simp only [mstep, cstep, Bool.false_eq_true, if_false]
    rw [Z.conj_mul, Z.conj_mul, dbl_alg, h, st]
    show (((Z.of r).mul (((mk' i s n 1).pow k).mul (mk' i s n k).conj)).mul ((Z.of r).mul (((mk' i s n 1).pow k).mul (mk' i s n k).conj))).mul (((mk' i s n k).mul (mk' i s n k)).mul (mk' i s n (k + k)).conj) = _
    rw [dbl_alg2, hc, Z.of_mul, Z.of_mul, Z.of_mul, Z.pow_add]
  · simp only [cstep, if_true] at h2
    have e : sSum (sq (4 * i * k)) (sq (4 * i)) = sq (4 * i * ((k + 1 : Nat) : Int)) := by rw [sq_add]; congr 1; rw [Int.natCast_add, Int.mul_add]; simp
    have e1 : sq (4 * i) = sq (4 * i * (1 : Nat)) := by congr 1; simp
    have st := step_recip (sq_ok _) (sq_ok (4 * i)) (far_k hi h1 hk) (by rw [e1]; exact far_k hi (by decide) (by decide)) (by rw [e]; exact far_k hi (by omega) h2) hl
    rw [e] at st
    refine ⟨r * (mk' i s n k).norm, mul_ne hr hn, ?_⟩
    simp only [mstep, cstep, if_true]
    rw [Z.conj_mul, add_alg, h, st]
    have em : mv s n (fi (sq (4 * i)).x) (fi (sq (4 * i)).y) = mk' i s n 1 := by unfold mk'; rw [← e1]
    rw [em]
    show ((Z.of r).mul (((mk' i s n 1).pow k).mul (mk' i s n k).conj)).mul (((mk' i s n k).mul (mk' i s n 1)).mul (mk' i s n (k + 1)).conj) = _
    rw [add_alg2, hc, Z.of_mul, ← Z.pow_succ]
theorem cstep_ge {k : Nat} {o : Bool} (h : 1 ≤ k) : 1 ≤ cstep k o := by cases o <;> simp only [cstep] <;> simp <;> omega
theorem mstep_sp {i : Int} {b : Sp} {f : Z} {k : Nat} {o : Bool} : (mstep (sq (4 * i)) b (f, sq (4 * i * k)) o).2 = sq (4 * i * (cstep k o : Nat)) := by
  cases o
  · simp only [mstep, cstep, Bool.false_eq_true, if_false]; rw [sq_add]; congr 1; rw [Int.natCast_add, Int.mul_add]
  · simp only [mstep, cstep, if_true]; rw [sq_add]; congr 1; rw [Int.natCast_add, Int.mul_add]; simp
theorem good_run {i : Int} {b c : Sp} {s n : F} (hi : i % 1013 ≠ 0) (hl : LineOf b c s n) : ∀ (ops : List Bool) (k : Nat) (fb fc fd : Z), 1 ≤ k → k ≤ 1012 → cgood k ops = true → Good i s n k fb fc fd →
    Good i s n 1012 (ops.foldl (mstep (sq (4 * i)) b) (fb, sq (4 * i * k))).1 (ops.foldl (mstep (sq (4 * i)) c) (fc, sq (4 * i * k))).1 (ops.foldl (mstep (sq (4 * i)) (sSum b c)) (fd, sq (4 * i * k))).1
  | [], k, fb, fc, fd, _, _, hg, h => by
    simp only [cgood, Nat.beq_eq] at hg; subst hg; exact h
  | o :: l, k, fb, fc, fd, h1, hk, hg, h => by
    simp only [cgood, Bool.and_eq_true, Nat.ble_eq] at hg
    have g := good_step hi hl h1 hk hg.1 h
    have r := good_run hi hl l (cstep k o) _ _ _ (cstep_ge h1) hg.1 hg.2 g
    simp only [List.foldl_cons]
    have pe : ∀ (x : Sp) (f : Z), mstep (sq (4 * i)) x (f, sq (4 * i * k)) o = ((mstep (sq (4 * i)) x (f, sq (4 * i * k)) o).1, sq (4 * i * (cstep k o : Nat))) := fun x f => Prod.ext rfl mstep_sp
    rw [pe b, pe c, pe (sSum b c)]
    exact r
def e16200 : Nat := 4050 * 4
theorem ppow_add (a : F) (m : Nat) : ∀ n, a ^ (m + n) = a ^ m * a ^ n
  | 0 => by grobner
  | n+1 => by
    have h1 : a ^ (m + (n + 1)) = a ^ (m + n) * a := by rw [← Nat.add_assoc]; grobner
    have h2 : a ^ (n + 1) = a ^ n * a := by grobner
    rw [h1, h2, ppow_add a m n]; grobner
theorem ppow_mul (a : F) (m : Nat) : ∀ n, a ^ (m * n) = (a ^ m) ^ n
  | 0 => by rw [Nat.mul_zero]; grobner
  | n+1 => by
    have h2 : (a ^ m) ^ (n + 1) = (a ^ m) ^ n * a ^ m := by grobner
    rw [Nat.mul_succ, ppow_add, h2, ppow_mul a m n]
theorem pone_pow : ∀ n : Nat, (1 : F) ^ n = 1
  | 0 => by grobner
  | n+1 => by have : (1 : F) ^ (n+1) = 1 ^ n * 1 := by grobner
              rw [this, pone_pow n]; grobner
theorem pof_e {r : F} (h : r ≠ 0) : (Z.of r).pow e16200 = .one := by
  rw [Z.of_pow, show e16200 = (eInv + 1) * 4 from rfl, ppow_mul, fpow_inv h, pone_pow]; rfl
theorem whole_e {z : Z} (h : z.norm ≠ 0) : (z.pow 1013).pow e16200 = .one := by
  rw [← Z.pow_mul, show 1013 * e16200 = eNorm * (eInv + 1) from rfl, Z.pow_mul, frob_norm, Z.of_pow, fpow_inv h]; rfl
theorem conj_e {z : Z} (h : z.norm ≠ 0) : (z.pow e16200).mul (z.pow e16200).conj = .one := by
  rw [Z.mul_conj, Z.norm_pow, show e16200 = (eInv + 1) * 4 from rfl, ppow_mul, fpow_inv h, pone_pow]; rfl
end
end Go.Proofs.YtfnifdmnbccblaaDoor
namespace Go.Proofs.YtfnifdmnbccblaaDoor
attribute [local semireducible] Z.pow
theorem norm_one : Z.one.norm = 1 := by decide
theorem norm_line {a b t : Sp} (h : fi t.y ≠ 0) : (zLine a b t).norm ≠ 0 := by
  unfold zLine
  split
  · rw [norm_one]; decide
  · exact fun e => h (Z.norm_zero e).2
theorem norm_mstep {a b : Sp} (h : fi b.y ≠ 0) {st : Z × Sp} (hs : st.1.norm ≠ 0) (o : Bool) : (mstep a b st o).1.norm ≠ 0 := by
  cases o
  · simp only [mstep, Bool.false_eq_true, if_false]; rw [Z.norm_mul, Z.norm_mul]; exact mul_ne (mul_ne hs hs) (norm_line h)
  · simp only [mstep, if_true]; rw [Z.norm_mul]; exact mul_ne hs (norm_line h)
theorem norm_run {a b : Sp} (h : fi b.y ≠ 0) : ∀ (ops : List Bool) (st : Z × Sp), st.1.norm ≠ 0 → (ops.foldl (mstep a b) st).1.norm ≠ 0
  | [], _, hs => hs
  | o :: l, st, hs => by rw [List.foldl_cons]; exact norm_run h l _ (norm_mstep h hs o)
theorem run_sp {i : Int} {b : Sp} : ∀ (ops : List Bool) (k : Nat) (f : Z), cgood k ops = true → (ops.foldl (mstep (sq (4 * i)) b) (f, sq (4 * i * k))).2 = sq (4 * i * (1012 : Nat))
  | [], k, f, hg => by simp only [cgood, Nat.beq_eq] at hg; subst hg; rfl
  | o :: l, k, f, hg => by
    simp only [cgood, Bool.and_eq_true] at hg
    rw [List.foldl_cons, show mstep (sq (4 * i)) b (f, sq (4 * i * k)) o = ((mstep (sq (4 * i)) b (f, sq (4 * i * k)) o).1, sq (4 * i * (cstep k o : Nat))) from Prod.ext rfl mstep_sp]
    exact run_sp l _ _ hg.2
theorem sq_1012 (i : Int) : sq (4 * i * (1012 : Nat)) = sTurned (sq (4 * i)) := by
  rw [sq_neg]; exact sq_eq_iff.mpr (by omega)
theorem line_last {i : Int} (hi : i % 1013 ≠ 0) (b : Sp) : zLine (sq (4 * i * (1012 : Nat))) (sq (4 * i)) b = .one := by
  unfold zLine
  have : sSlope (sq (4 * i * (1012 : Nat))) (sq (4 * i)) = none := by
    cases e : sSlope (sq (4 * i * (1012 : Nat))) (sq (4 * i)) with
    | none => rfl
    | some s =>
      exfalso
      have e1 : sq (4 * i) = sq (4 * i * (1 : Nat)) := by congr 1; simp
      have f1 : (sq (4 * i)).far = false := by rw [e1]; exact far_k hi (by decide) (by decide)
      have f2 := far_k (i := i) (k := 1012) hi (by decide) (by decide)
      have h := (slope_line (sq_ok _) (sq_ok _) f2 f1 e).far
      rw [sq_add] at h
      have : (sq (4 * i * (1012 : Nat) + 4 * i)).far = true := sq_far.mpr (by omega)
      rw [this] at h; cases h
  rw [this]
/-- Miller's number along a chain, before the last power; 'ops' ends with the last adding. -/
def zM (ops : List Bool) (a b : Sp) : Z := (mrun a b (ops ++ [true])).1
theorem zM_eq {i : Int} (hi : i % 1013 ≠ 0) {ops : List Bool} (hg : cgood 1 ops = true) (b : Sp) : zM ops (sq (4 * i)) b = (mrun (sq (4 * i)) b ops).1 := by
  unfold zM mrun
  rw [List.foldl_append]
  have e1 : sq (4 * i) = sq (4 * i * (1 : Nat)) := by congr 1; simp
  have e : (ops.foldl (mstep (sq (4 * i)) b) (.one, sq (4 * i))).2 = sq (4 * i * (1012 : Nat)) := by
    conv => lhs; rw [show (Z.one, sq (4 * i)) = (Z.one, sq (4 * i * (1 : Nat))) by rw [← e1]]
    exact run_sp ops 1 _ hg
  simp only [List.foldl_cons, List.foldl_nil, mstep, if_true]
  rw [e, line_last hi, Z.mul_one]
def zP (ops : List Bool) (a b : Sp) : Z := (zM ops a b).pow e16200
theorem zP_sum {i : Int} (hi : i % 1013 ≠ 0) {ops : List Bool} (hg : cgood 1 ops = true) {b c : Sp} (hb : Ok b) (hc : Ok c) (fb : b.far = false) (fc : c.far = false) (fs : (sSum b c).far = false) (yd : fi (sSum b c).y ≠ 0) :
    (zP ops (sq (4 * i)) b).mul (zP ops (sq (4 * i)) c) = zP ops (sq (4 * i)) (sSum b c) := by
  obtain ⟨l, hs⟩ := slope_none fb fc fs
  have hl := slope_line hb hc fb fc hs
  have e1 : sq (4 * i) = sq (4 * i * (1 : Nat)) := by congr 1; simp
  have g := good_run hi hl ops 1 _ _ _ (by decide) (by decide) hg (good_start i _ _ hi)
  have em : ∀ x, (ops.foldl (mstep (sq (4 * i)) x) (.one, sq (4 * i * (1 : Nat)))).1 = zM ops (sq (4 * i)) x := fun x => by
    rw [zM_eq hi hg, mrun]; conv => rhs; rw [show (Z.one, sq (4 * i)) = (Z.one, sq (4 * i * (1 : Nat))) by rw [← e1]]
  rw [em, em, em] at g
  obtain ⟨r, hr, g⟩ := g
  have y1 := y_k (i := i) (k := 1) hi (by decide) (by decide)
  have ec : (mk' i (fi l) (fi b.y - fi l * fi b.x) 1012).conj = (Z.of (-1)).mul (mk' i (fi l) (fi b.y - fi l * fi b.x) 1) := by
    have ex : fi (sq (4 * i * (1012 : Nat))).x = fi (sq (4 * i * (1 : Nat))).x := by rw [sq_1012, ← e1]; rfl
    have ey : fi (sq (4 * i * (1012 : Nat))).y = - fi (sq (4 * i * (1 : Nat))).y := by
      rw [sq_1012, ← e1]; show fi ((-(sq (4 * i)).y) % 4051) = _; rw [fi_mod, fi_neg]
    unfold mk' mv
    rw [ex, ey]
    apply Z.ext'
    · simp only [Z.conj, Z.of, Z.mul]; grobner
    · simp only [Z.conj, Z.of, Z.mul]; grobner
  rw [ec] at g
  generalize hM : mk' i (fi l) (fi b.y - fi l * fi b.x) 1 = M at *
  have hMn : M.norm ≠ 0 := by rw [← hM]; exact norm_mv y1
  have g2 : ((zM ops (sq (4 * i)) b).mul (zM ops (sq (4 * i)) c)).mul (zM ops (sq (4 * i)) (sSum b c)).conj = (Z.of (-r)).mul (M.pow 1013) := by
    rw [g, show Z.of (-r) = (Z.of r).mul (.of (-1)) by rw [Z.of_mul]; congr 1; grobner, show M.pow 1013 = (M.pow 1012).mul M from rfl]
    ac_rfl
  have hr' : -r ≠ 0 := fun h => hr (by grobner)
  have k := congrArg (fun z => Z.pow z e16200) g2
  simp only [Z.mul_pow] at k
  rw [pof_e hr', whole_e hMn, Z.one_mul, ← Z.conj_pow] at k
  have nd : (zM ops (sq (4 * i)) (sSum b c)).norm ≠ 0 := by
    unfold zM mrun; exact norm_run yd _ _ (by rw [norm_one]; decide)
  have w := conj_e nd
  show ((zM ops (sq (4 * i)) b).pow e16200).mul ((zM ops (sq (4 * i)) c).pow e16200) = (zM ops (sq (4 * i)) (sSum b c)).pow e16200
  have k2 := congrArg (fun z => z.mul ((zM ops (sq (4 * i)) (sSum b c)).pow e16200)) k
  rw [Z.one_mul, Z.mul_assoc, Z.mul_comm (((zM ops (sq (4 * i)) (sSum b c)).pow e16200).conj), w, Z.mul_one] at k2
  exact k2
theorem pfour_far {j : Int} (h : j % 1013 ≠ 0) : (sq (4 * j)).far = false := sq_far_false.mpr (by omega)
theorem four_y {j : Int} (h : j % 1013 ≠ 0) : fi (sq (4 * j)).y ≠ 0 := by
  have := y_k (i := j) (k := 1) h (by decide) (by decide)
  rw [show (4 * j * ((1 : Nat) : Int)) = 4 * j by simp] at this; exact this
/-- Of j times the base it is the power j. -/
theorem zP_lin {i : Int} (hi : i % 1013 ≠ 0) {ops : List Bool} (hg : cgood 1 ops = true) : ∀ j : Nat, 1 ≤ j → j ≤ 1012 → zP ops (sq (4 * i)) (sq (4 * j)) = (zP ops (sq (4 * i)) (sq 4)).pow j
  | 0, h, _ => by omega
  | 1, _, _ => (Z.one_mul _).symm
  | j+2, _, h => by
    have ih := zP_lin hi hg (j+1) (by omega) (by omega)
    show _ = ((zP ops (sq (4 * i)) (sq 4)).pow (j+1)).mul (zP ops (sq (4 * i)) (sq 4))
    rw [← ih]
    have e : sSum (sq (4 * ((j+1 : Nat) : Int))) (sq 4) = sq (4 * ((j + 2 : Nat) : Int)) := by rw [sq_add]; exact sq_eq_iff.mpr (by omega)
    rw [← e]
    exact (zP_sum hi hg (sq_ok _) (sq_ok 4) (pfour_far (by omega)) (show (sq 4).far = false from pfour_far (j := 1) (by decide)) (by rw [e]; exact pfour_far (by omega)) (by rw [e]; exact four_y (by omega))).symm
theorem zM_norm {i : Int} {ops : List Bool} {j : Int} (hj : j % 1013 ≠ 0) : (zM ops (sq i) (sq (4 * j))).norm ≠ 0 := by
  unfold zM mrun; exact norm_run (four_y hj) _ _ (by rw [norm_one]; decide)
theorem zP_whole {i : Int} {ops : List Bool} {j : Int} (hj : j % 1013 ≠ 0) : (zP ops (sq i) (sq (4 * j))).pow 1013 = .one := by
  have := whole_e (zM_norm (i := i) (ops := ops) hj)
  unfold zP; rw [← Z.pow_mul, Nat.mul_comm, Z.pow_mul]; exact this
theorem zP_norm {i : Int} {ops : List Bool} {j : Int} (hj : j % 1013 ≠ 0) : (zP ops (sq i) (sq (4 * j))).norm = 1 := by
  unfold zP; rw [Z.norm_pow, show e16200 = (eInv + 1) * 4 from rfl, ppow_mul, fpow_inv (zM_norm hj), pone_pow]
def goOps : List Bool := [false, true, false, true, false, true, false, true, false, true, false, false, true, false, false]
theorem goOps_good : cgood 1 goOps = true := by decide
end Go.Proofs.YtfnifdmnbccblaaDoor
namespace Go.Proofs.YtfnifdmnbccblaaDoor
attribute [local semireducible] Z.pow
def nlD (k : Nat) : Nat × Nat :=
  let x := cx k; let y := cy k
  (((3 * x * x + 1) * (1189 + x) + 2 * y * (4051 - y)) % 4051, (2 * y * 3667) % 4051)
def nlA (k m : Nat) : Nat × Nat :=
  let x := cx k; let y := cy k; let d := x + (4051 - cx m)
  (((y + (4051 - cy m)) * (1189 + x) + (4051 - y) * d) % 4051, (d * 3667) % 4051)
def qm2 (p q : Nat × Nat) : Nat × Nat := qm p.1 p.2 q.1 q.2
def nstep (a : Nat) (st : (Nat × Nat) × Nat) (o : Bool) : (Nat × Nat) × Nat :=
  match o with
  | true => (qm2 st.1 (nlA st.2 a), (st.2 + a) % 4052)
  | false => (qm2 (qm2 st.1 st.1) (nlD st.2), (st.2 + st.2) % 4052)
def nrun (a : Nat) (ops : List Bool) : (Nat × Nat) × Nat := ops.foldl (nstep a) ((1, 0), a)
def fourth (p : Nat × Nat) : Nat × Nat := qm2 (qm2 p p) (qm2 p p)
def eqP (p q : Nat × Nat) : Bool := Nat.beq p.1 q.1 && Nat.beq p.2 q.2
def pairAt (ops : List Bool) (a : Nat) (z : Nat × Nat) : Bool :=
  let f := (nrun a ops).1
  eqP (fourth (f.1, (4051 - f.2) % 4051)) (qm2 (fourth f) z)
def chkP (ops : List Bool) : Nat → Nat → Nat × Nat → Bool
  | 0, _, _ => true
  | n+1, i, z => pairAt ops (4 * i) z && chkP ops n (i + 1) (qm2 z (2824, 4013))
theorem chkP_go : chkP goOps 1012 1 (2824, 4013) = true := by decide +kernel
theorem cT {k : Nat} (h1 : 1 ≤ k) (h2 : k < 4052) : fi (sp k).x = fi (cx k : Int) ∧ fi (sp k).y = fi (cy k : Int) ∧ (sp k).far = false ∧ cx k < 4051 ∧ cy k < 4051 := by
  have e := sp_table h1 (by omega)
  have o := sp_ok k
  rw [e] at o ⊢
  have a := o.x1; have b := o.y1
  exact ⟨rfl, rfl, rfl, by simp only [cSp] at a; omega, by simp only [cSp] at b; omega⟩
theorem base_xy : fi (sq 4).x = 1189 ∧ fi (sq 4).y = 3667 := by
  have e : sq 4 = cSp 4 := (sq_nat 4).trans (sp_table (by decide) (by decide))
  rw [e]; exact ⟨by decide +kernel, by decide +kernel⟩
theorem sub_fi {a b : Nat} (h : b ≤ 4051) : fi ((a + (4051 - b) : Nat) : Int) = fi (a : Int) - fi (b : Int) := by
  rw [← fi_sub]; exact fi_eq.mpr (by omega)
theorem neg_fi {b : Nat} (h : b ≤ 4051) : fi ((4051 - b : Nat) : Int) = - fi (b : Int) := by
  rw [← fi_neg]; exact fi_eq.mpr (by omega)
theorem mod_fi (a : Nat) : fi ((a % 4051 : Nat) : Int) = fi (a : Int) := fi_eq.mpr (by omega)
theorem nlA_ok {k m : Nat} (k1 : 1 ≤ k) (k2 : k < 4052) (m1 : 1 ≤ m) (m2 : m < 4052) (hx : (sp k).x ≠ (sp m).x) :
    ∃ r : F, r ≠ 0 ∧ zn (nlA k m) = (Z.of r).mul (zLine (sp k) (sp m) (sq 4)) := by
  obtain ⟨a1, a2, _, a4, a5⟩ := cT k1 k2
  obtain ⟨b1, b2, _, b4, b5⟩ := cT m1 m2
  have ok := sp_ok k; have om := sp_ok m
  have hne : fi (sp k).x - fi (sp m).x ≠ 0 := fun h => hx (fi_inj ⟨ok.x0, ok.x1⟩ ⟨om.x0, om.x1⟩ (by grobner))
  refine ⟨_, hne, ?_⟩
  have hs : sSlope (sp k) (sp m) = some (pMul (pSub (sp k).y (sp m).y) (pInv (pSub (sp k).x (sp m).x))) := by unfold sSlope; rw [if_pos hx]
  have hl : (fi (sp k).x - fi (sp m).x) * fi (pMul (pSub (sp k).y (sp m).y) (pInv (pSub (sp k).x (sp m).x))) = fi (sp k).y - fi (sp m).y := by
    rw [fi_pMul, fi_pInv, fi_pSub, fi_pSub]
    have := inv_mul hne
    rw [show (fi (sp k).x - fi (sp m).x) * ((fi (sp k).y - fi (sp m).y) * inv (fi (sp k).x - fi (sp m).x)) = (fi (sp k).y - fi (sp m).y) * (inv (fi (sp k).x - fi (sp m).x) * (fi (sp k).x - fi (sp m).x)) by grobner, this]; grobner
  unfold zLine
  rw [hs]
  simp only
  generalize fi (pMul (pSub (sp k).y (sp m).y) (pInv (pSub (sp k).x (sp m).x))) = s at *
  rw [base_xy.1, base_xy.2]
  apply Z.ext'
  · show fi (((cy k + (4051 - cy m)) * (1189 + cx k) + (4051 - cy k) * (cx k + (4051 - cx m))) % 4051 : Nat) = (fi (sp k).x - fi (sp m).x) * (s * (1189 + fi (sp k).x) - fi (sp k).y) - 0 * 3667
    rw [mod_fi, Int.natCast_add, Int.natCast_mul, Int.natCast_mul, fi_add, fi_mul, fi_mul, sub_fi (by omega), sub_fi (by omega), neg_fi (by omega), Int.natCast_add, fi_add, ← a1, ← a2, ← b1, ← b2, show fi ((1189 : Nat) : Int) = 1189 from rfl, ← hl]
    clear hl hs hne hx; grobner
  · show fi (((cx k + (4051 - cx m)) * 3667) % 4051 : Nat) = (fi (sp k).x - fi (sp m).x) * 3667 + 0 * _
    rw [mod_fi, Int.natCast_mul, fi_mul, sub_fi (by omega), ← a1, ← b1, show fi ((3667 : Nat) : Int) = 3667 from rfl]
    clear hl hs hne hx; grobner
theorem nlD_ok {k : Nat} (k1 : 1 ≤ k) (k2 : k < 4052) (hy : fi (sp k).y ≠ 0) :
    ∃ r : F, r ≠ 0 ∧ zn (nlD k) = (Z.of r).mul (zLine (sp k) (sp k) (sq 4)) := by
  obtain ⟨a1, a2, _, a4, a5⟩ := cT k1 k2
  have hy0 : ¬ ((sp k).y ≠ (sp k).y ∨ (sp k).y = 0) := fun h => h.elim (fun h => h rfl) (fun h => hy (by rw [h]; rfl))
  have hne : 2 * fi (sp k).y ≠ 0 := mul_ne two_ne hy
  refine ⟨_, hne, ?_⟩
  have hs : sSlope (sp k) (sp k) = some (pMul (pMul 3 (pMul (sp k).x (sp k).x) + 1) (pInv (2 * (sp k).y))) := by unfold sSlope; rw [if_neg (fun h => h rfl), if_neg hy0]
  have hl : 2 * fi (sp k).y * fi (pMul (pMul 3 (pMul (sp k).x (sp k).x) + 1) (pInv (2 * (sp k).y))) = 3 * (fi (sp k).x * fi (sp k).x) + 1 := by
    rw [fi_pMul, fi_pInv, fi_add, fi_pMul, fi_pMul, fi_mul]
    have h2 : fi 2 = 2 := rfl
    have h3 : fi 3 = 3 := rfl
    rw [h2, h3, fi_one]
    have := inv_mul hne
    rw [show 2 * fi (sp k).y * ((3 * (fi (sp k).x * fi (sp k).x) + 1) * inv (2 * fi (sp k).y)) = (3 * (fi (sp k).x * fi (sp k).x) + 1) * (inv (2 * fi (sp k).y) * (2 * fi (sp k).y)) by grobner, this]; grobner
  unfold zLine
  rw [hs]
  simp only
  generalize fi (pMul (pMul 3 (pMul (sp k).x (sp k).x) + 1) (pInv (2 * (sp k).y))) = s at *
  rw [base_xy.1, base_xy.2]
  apply Z.ext'
  · show fi (((3 * cx k * cx k + 1) * (1189 + cx k) + 2 * cy k * (4051 - cy k)) % 4051 : Nat) = (2 * fi (sp k).y) * (s * (1189 + fi (sp k).x) - fi (sp k).y) - 0 * 3667
    rw [mod_fi, Int.natCast_add, Int.natCast_mul, Int.natCast_mul, Int.natCast_mul, fi_add, fi_mul, fi_mul, fi_mul, neg_fi (by omega), Int.natCast_add, Int.natCast_add, Int.natCast_mul, Int.natCast_mul, fi_add, fi_add, fi_mul, fi_mul, ← a1, ← a2, show fi ((1189 : Nat) : Int) = 1189 from rfl, show fi ((1 : Nat) : Int) = 1 from rfl, show fi ((2 : Nat) : Int) = 2 from rfl, show fi ((3 : Nat) : Int) = 3 from rfl]
    rw [show 3 * fi (sp k).x * fi (sp k).x + 1 = 3 * (fi (sp k).x * fi (sp k).x) + 1 by grobner, ← hl]
    clear hl hs hne hy hy0; grobner
  · show fi ((2 * cy k * 3667) % 4051 : Nat) = (2 * fi (sp k).y) * 3667 + 0 * _
    rw [mod_fi, Int.natCast_mul, Int.natCast_mul, fi_mul, fi_mul, ← a2, show fi ((3667 : Nat) : Int) = 3667 from rfl, show fi ((2 : Nat) : Int) = 2 from rfl]
    clear hl hs hne hy hy0; grobner
theorem xne {a b : Sp} (fa : a.far = false) (fb : b.far = false) (h : a ≠ b) (fs : (sSum a b).far = false) : a.x ≠ b.x := fun e => by
  obtain ⟨s, hs⟩ := slope_none fa fb fs
  unfold sSlope at hs
  rw [if_neg (fun k => k e)] at hs
  by_cases hy : a.y ≠ b.y ∨ a.y = 0
  · rw [if_pos hy] at hs; cases hs
  · exact h (Sp.ext' e (by omega) (fa.trans fb.symm))
/-- An adding comes at no sooner than twice. -/
def agood : Nat → List Bool → Bool
  | _, [] => true
  | k, o :: l => (!o || Nat.ble 2 k) && agood (cstep k o) l
def NR (i k : Nat) (n : (Nat × Nat) × Nat) (st : Z × Sp) : Prop :=
  n.2 = (4 * i * k) % 4052 ∧ n.1.2 ≤ 4051 ∧ st.2 = sq (4 * (i : Int) * k) ∧ ∃ r : F, r ≠ 0 ∧ zn n.1 = (Z.of r).mul st.1
theorem sq_sp (i k : Nat) : sq (4 * (i : Int) * k) = sp ((4 * i * k) % 4052) := by
  rw [sp_mod, ← sq_nat]; congr 1
theorem qm2_ok (p q : Nat × Nat) (h : p.2 ≤ 4051) : (qm2 p q).2 ≤ 4051 ∧ zn (qm2 p q) = (zn p).mul (zn q) := ⟨qm_le _ _ _ _, qm_ok _ _ _ _ h⟩
theorem alg_a (r s : F) (f l : Z) : ((Z.of r).mul f).mul ((Z.of s).mul l) = (Z.of (r * s)).mul (f.mul l) := by
  rw [← Z.of_mul]; ac_rfl
theorem NR_step {i k : Nat} {o : Bool} (hi : (i : Int) % 1013 ≠ 0) (h1 : 1 ≤ k) (hk : k ≤ 1012) (h2 : cstep k o ≤ 1012) (ho : (!o || Nat.ble 2 k) = true) {n : (Nat × Nat) × Nat} {st : Z × Sp}
    (h : NR i k n st) : NR i (cstep k o) (nstep (4 * i % 4052) n o) (mstep (sq (4 * (i : Int))) (sq 4) st o) := by
  obtain ⟨n1, n2, n3, r, hr, n4⟩ := h
  have hf := far_k hi h1 hk
  have hp : 1 ≤ (4 * i * k) % 4052 := by
    have := mul_i_ne (i := i) (k := k) hi (by omega) (by omega)
    have c : ((4 * i * k : Nat) : Int) = 4 * (i : Int) * (k : Int) := by rw [Int.natCast_mul, Int.natCast_mul]; rfl
    rw [← c] at this
    omega
  obtain ⟨⟨p, q⟩, kk⟩ := n
  obtain ⟨f, T⟩ := st
  simp only at n1 n2 n3 n4
  subst n1 n3
  cases o
  · simp only [cstep, Bool.false_eq_true, if_false] at h2 ⊢
    have e : sSum (sq (4 * (i : Int) * k)) (sq (4 * (i : Int) * k)) = sq (4 * (i : Int) * ((k + k : Nat) : Int)) := by rw [sq_add]; congr 1; rw [Int.natCast_add, Int.mul_add]
    have ay := y_k hi h1 hk
    rw [sq_sp] at ay
    obtain ⟨s, hs, nl⟩ := nlD_ok hp (Nat.mod_lt _ (by decide)) ay
    have q1 := qm2_ok (p, q) (p, q) n2
    have q2 := qm2_ok (qm2 (p, q) (p, q)) (nlD ((4 * i * k) % 4052)) q1.1
    refine ⟨?_, q2.1, ?_, r * r * s, mul_ne (mul_ne hr hr) hs, ?_⟩
    · show ((4 * i * k) % 4052 + (4 * i * k) % 4052) % 4052 = (4 * i * (k + k)) % 4052
      rw [Nat.mul_add]; omega
    · simp only [mstep, Bool.false_eq_true, if_false]; exact e
    · show zn (qm2 (qm2 (p, q) (p, q)) (nlD ((4 * i * k) % 4052))) = _
      rw [q2.2, q1.2, nl, n4]
      simp only [mstep, Bool.false_eq_true, if_false]
      rw [sq_sp, alg_a, alg_a]
  · simp only [cstep, if_true] at h2 ⊢
    simp only [Bool.not_true, Bool.false_or, Nat.ble_eq] at ho
    have e1 : sq (4 * (i : Int)) = sq (4 * (i : Int) * (1 : Nat)) := by congr 1; simp
    have e : sSum (sq (4 * (i : Int) * k)) (sq (4 * (i : Int))) = sq (4 * (i : Int) * ((k + 1 : Nat) : Int)) := by rw [sq_add, show 4 * (i : Int) * ((k + 1 : Nat) : Int) = 4 * (i : Int) * k + 4 * (i : Int) by rw [Int.natCast_add, Int.mul_add, Int.natCast_one, Int.mul_one]]
    have fa : (sq (4 * (i : Int))).far = false := by rw [e1]; exact far_k hi (by decide) (by decide)
    have ne : sq (4 * (i : Int) * k) ≠ sq (4 * (i : Int)) := fun h => by
      have := sq_eq_iff.mp h
      have w := mul_i_ne (i := i) (k := (k : Int) - 1) hi (by omega) (by omega)
      rw [Int.mul_sub] at w
      simp only [Int.mul_one] at w
      omega
    have hx := xne hf fa ne (by rw [e]; exact far_k hi (by omega) h2)
    have hm : sq (4 * (i : Int)) = sp ((4 * i) % 4052) := by have := sq_sp i 1; rw [e1, this, Nat.mul_one]
    have hp2 : 1 ≤ (4 * i) % 4052 := by omega
    rw [sq_sp, hm] at hx
    obtain ⟨s, hs, nl⟩ := nlA_ok hp (Nat.mod_lt _ (by decide)) hp2 (Nat.mod_lt _ (by decide)) hx
    have q2 := qm2_ok (p, q) (nlA ((4 * i * k) % 4052) (4 * i % 4052)) n2
    refine ⟨?_, q2.1, ?_, r * s, mul_ne hr hs, ?_⟩
    · show ((4 * i * k) % 4052 + 4 * i % 4052) % 4052 = (4 * i * (k + 1)) % 4052
      rw [Nat.mul_add]; omega
    · simp only [mstep, if_true]; exact e
    · show zn (qm2 (p, q) (nlA ((4 * i * k) % 4052) (4 * i % 4052))) = _
      rw [q2.2, nl, n4]
      simp only [mstep, if_true]
      rw [sq_sp, hm, alg_a]
theorem NR_run {i : Nat} (hi : (i : Int) % 1013 ≠ 0) : ∀ (ops : List Bool) (k : Nat) (n : (Nat × Nat) × Nat) (st : Z × Sp), 1 ≤ k → k ≤ 1012 → cgood k ops = true → agood k ops = true → NR i k n st →
    NR i 1012 (ops.foldl (nstep (4 * i % 4052)) n) (ops.foldl (mstep (sq (4 * (i : Int))) (sq 4)) st)
  | [], k, _, _, _, _, hg, _, h => by simp only [cgood, Nat.beq_eq] at hg; subst hg; exact h
  | o :: l, k, n, st, h1, hk, hg, ha, h => by
    simp only [cgood, Bool.and_eq_true, Nat.ble_eq] at hg
    simp only [agood, Bool.and_eq_true] at ha
    exact NR_run hi l _ _ _ (cstep_ge h1) hg.1 hg.2 ha.2 (NR_step hi h1 hk hg.1 ha.1 h)
theorem cancelZ {a b c : Z} (hc : c.norm ≠ 0) (h : a.mul c = b.mul c) : a = b := by
  have e : (c.mul c.conj).mul (.of (inv c.norm)) = .one := by rw [Z.mul_conj, Z.of_mul, mul_inv hc]; rfl
  have := congrArg (fun z => z.mul (c.conj.mul (.of (inv c.norm)))) h
  have k : ∀ x : Z, (x.mul c).mul (c.conj.mul (.of (inv c.norm))) = x := fun x => by
    rw [show (x.mul c).mul (c.conj.mul (.of (inv c.norm))) = x.mul ((c.mul c.conj).mul (.of (inv c.norm))) by ac_rfl, e, Z.mul_one]
  rw [← k a, ← k b]; exact this
/-- The last power by what is turned. -/
theorem pow_conj {f z : Z} (hf : f.norm ≠ 0) (h : f.conj.pow 4 = (f.pow 4).mul z) : f.pow e16200 = z := by
  have a : (f.pow eNorm) = f.mul f.conj := by rw [frob_norm, Z.mul_conj]
  have b : (f.pow 4050).mul f = f.conj := by
    apply cancelZ hf
    rw [Z.mul_comm f.conj, ← a]; rfl
  have c : (f.pow e16200).mul (f.pow 4) = f.conj.pow 4 := by
    rw [← b, Z.mul_pow, ← Z.pow_mul]; rfl
  have n4 : (f.pow 4).norm ≠ 0 := by
    have : (f.pow 4) = (((Z.one.mul f).mul f).mul f).mul f := rfl
    rw [this, Z.one_mul, Z.norm_mul, Z.norm_mul, Z.norm_mul]; exact mul_ne (mul_ne (mul_ne hf hf) hf) hf
  apply cancelZ n4
  rw [c, h, Z.mul_comm]
theorem fourth_ok (p : Nat × Nat) (h : p.2 ≤ 4051) : zn (fourth p) = (zn p).pow 4 ∧ (fourth p).2 ≤ 4051 := by
  have a := qm2_ok p p h
  have b := qm2_ok (qm2 p p) (qm2 p p) a.1
  refine ⟨?_, b.1⟩
  unfold fourth
  rw [b.2, a.2]
  show _ = (((Z.one.mul (zn p)).mul (zn p)).mul (zn p)).mul (zn p)
  rw [Z.one_mul]; ac_rfl
theorem eqP_ok {p q : Nat × Nat} (h : eqP p q = true) : p = q := by
  simp only [eqP, Bool.and_eq_true, Nat.beq_eq] at h; exact Prod.ext h.1 h.2
theorem pairAt_ok {i : Nat} (hi : (i : Int) % 1013 ≠ 0) {ops : List Bool} (hg : cgood 1 ops = true) (ha : agood 1 ops = true) {z : Nat × Nat} (h : pairAt ops (4 * i % 4052) z = true) : zP ops (sq (4 * (i : Int))) (sq 4) = zn z := by
  have h0 : NR i 1 ((1, 0), 4 * i % 4052) (.one, sq (4 * (i : Int))) := ⟨by rw [Nat.mul_one], (by show 0 ≤ 4051; decide), by congr 1; simp, 1, one_ne, by rw [Z.mul_one]; rfl⟩
  obtain ⟨_, n2, _, r, hr, n4⟩ := NR_run hi ops 1 _ _ (by decide) (by decide) hg ha h0
  have hz := eqP_ok h
  unfold pairAt at h
  have e : zP ops (sq (4 * (i : Int))) (sq 4) = (mrun (sq (4 * (i : Int))) (sq 4) ops).1.pow e16200 := by unfold zP; rw [zM_eq hi hg]
  have nn : (mrun (sq (4 * (i : Int))) (sq 4) ops).1.norm ≠ 0 := by
    rw [← zM_eq hi hg]; exact zM_norm (j := 1) (by decide)
  change zn (nrun (4 * i % 4052) ops).1 = (Z.of r).mul (mrun (sq (4 * (i : Int))) (sq 4) ops).1 at n4
  change (nrun (4 * i % 4052) ops).1.2 ≤ 4051 at n2
  rw [e]
  generalize (mrun (sq (4 * (i : Int))) (sq 4) ops).1 = f at *
  generalize (nrun (4 * i % 4052) ops).1 = p at *
  have ef : (zn p).pow e16200 = f.pow e16200 := by rw [n4, Z.mul_pow, pof_e hr, Z.one_mul]
  rw [← ef]
  have hpn : (zn p).norm ≠ 0 := by rw [n4, Z.norm_mul, Z.norm_of]; exact mul_ne (mul_ne hr hr) nn
  apply pow_conj hpn
  have c : zn (p.1, (4051 - p.2) % 4051) = (zn p).conj := Z.ext' rfl (by
    show fi ((4051 - p.2) % 4051 : Nat) = - fi (p.2 : Int)
    rw [mod_fi, neg_fi n2])
  have l := fourth_ok (p.1, (4051 - p.2) % 4051) (by show (4051 - p.2) % 4051 ≤ 4051; omega)
  have r2 := fourth_ok p n2
  have m := qm2_ok (fourth p) z r2.2
  rw [← c, ← l.1, hz, m.2, r2.1]
theorem chkP_at (ops : List Bool) : ∀ (n i : Nat) (z : Nat × Nat), z.2 ≤ 4051 → chkP ops n i z = true → ∀ j, j < n → ∃ y : Nat × Nat, pairAt ops (4 * (i + j)) y = true ∧ zn y = (zn z).mul ((zn (2824, 4013)).pow j)
  | 0, _, _, _, _, _, hj => absurd hj (Nat.not_lt_zero _)
  | n+1, i, z, hz, h, j, hj => by
    simp only [chkP, Bool.and_eq_true] at h
    match j with
    | 0 => exact ⟨z, h.1, (Z.mul_one _).symm⟩
    | j+1 =>
      have q := qm2_ok z (2824, 4013) hz
      obtain ⟨y, y1, y2⟩ := chkP_at ops n (i+1) _ q.1 h.2 j (by omega)
      refine ⟨y, by rw [show i + (j + 1) = i + 1 + j by omega]; exact y1, ?_⟩
      rw [y2, q.2]
      show _ = (zn z).mul (((zn (2824, 4013)).pow j).mul (zn (2824, 4013)))
      ac_rfl
/-- The pair of the base and itself. -/
def zeta : Z := zn (2824, 4013)
theorem zP_base {ops : List Bool} (hg : cgood 1 ops = true) (ha : agood 1 ops = true) (hc : chkP ops 1012 1 (2824, 4013) = true) {i : Nat} (h1 : 1 ≤ i) (h2 : i ≤ 1012) : zP ops (sq (4 * (i : Int))) (sq 4) = zeta.pow i := by
  obtain ⟨y, y1, y2⟩ := chkP_at ops 1012 1 _ (by decide) hc (i - 1) (by omega)
  rw [show 1 + (i - 1) = i by omega] at y1
  have e : 4 * i % 4052 = 4 * i := Nat.mod_eq_of_lt (by omega)
  rw [← e] at y1
  rw [pairAt_ok (by omega) hg ha y1, y2, Z.mul_comm, show zeta.pow i = zeta.pow ((i - 1) + 1) by congr 1; omega]; rfl
theorem zP_all {ops : List Bool} (hg : cgood 1 ops = true) (ha : agood 1 ops = true) (hc : chkP ops 1012 1 (2824, 4013) = true) {i j : Nat} (h1 : 1 ≤ i) (h2 : i ≤ 1012) (h3 : 1 ≤ j) (h4 : j ≤ 1012) :
    zP ops (sq (4 * (i : Int))) (sq (4 * (j : Int))) = zeta.pow (i * j) := by
  rw [zP_lin (by omega) hg j h3 h4, zP_base hg ha hc h1 h2, Z.pow_mul]
theorem zeta_ne : zeta ≠ .one := fun h => by
  have := congrArg Z.re h; exact absurd this (by decide +kernel)
theorem zeta_whole : zeta.pow 1013 = .one := by
  have h := zP_base goOps_good (by decide) chkP_go (i := 1) (by decide) (by decide)
  have w := zP_whole (i := 4 * 1) (ops := goOps) (j := 1) (by decide)
  have e : zeta.pow 1 = zeta := Z.one_mul _
  rw [e] at h
  rw [← h]; exact w
theorem zeta_norm : zeta.norm = 1 := by decide +kernel
end Go.Proofs.YtfnifdmnbccblaaDoor
namespace Go.Proofs.YtfnifdmnbccblaaDoor
open Go.RowKit
set_option maxRecDepth 100000
set_option linter.unusedVariables false
set_option linter.unusedSimpArgs false
/-- The package's variable one, where it lies. -/
structure OneAt (w : World) : Prop where
  c0 : w.cell? ⟨1, 0, none⟩ = some (.int .i64 1)
  c1 : w.cell? ⟨1, 1, none⟩ = some (.int .i64 0)
  lt : 1 < w.heap.size
theorem OneAt.below {w w' : World} (h : OneAt w) (hb : Below w.heap.size w w') : OneAt w' :=
  ⟨(hb.cell (p := ⟨1, 0, none⟩) h.lt).trans h.c0, (hb.cell (p := ⟨1, 1, none⟩) h.lt).trans h.c1, Nat.lt_of_lt_of_le h.lt hb.size⟩
/-- A number of the greater field in memory. -/
structure TwAt (w : World) (b : Nat) (z : Z) : Prop where
  c0 : w.cell? ⟨b, 0, none⟩ = some (.int .i64 (fz z.re))
  c1 : w.cell? ⟨b, 1, none⟩ = some (.int .i64 (fz z.im))
  f0 : w.frozen? ⟨b, 0, none⟩ = false
  f1 : w.frozen? ⟨b, 1, none⟩ = false
  lt : b < w.heap.size
theorem TwAt.below {w w' : World} {b : Nat} {z : Z} (h : TwAt w b z) (hb : Below w.heap.size w w') : TwAt w' b z :=
  ⟨(hb.cell (p := ⟨b, 0, none⟩) h.lt).trans h.c0, (hb.cell (p := ⟨b, 1, none⟩) h.lt).trans h.c1, (hb.frozen (p := ⟨b, 0, none⟩) h.lt).trans h.f0, (hb.frozen (p := ⟨b, 1, none⟩) h.lt).trans h.f1, Nat.lt_of_lt_of_le h.lt hb.size⟩
theorem TwAt.set2 {w : World} {b : Nat} {z : Z} (h : TwAt w b z) (v : Z) : TwAt ((w.setCell ⟨b, 0, none⟩ (.int .i64 (fz v.re))).setCell ⟨b, 1, none⟩ (.int .i64 (fz v.im))) b v := by
  have k := set2_cell (x := .int .i64 (fz v.re)) (y := .int .i64 (fz v.im)) h.c0 h.c1
  exact ⟨k.1, k.2, by simp only [World.frozen?_setCell]; exact h.f0, by simp only [World.frozen?_setCell]; exact h.f1, by simpa [World.setCell] using h.lt⟩
theorem cell_else {w : World} {b c o k : Nat} (x : Value) (h : c ≠ b) : (w.setCell ⟨c, o, none⟩ x).cell? ⟨b, k, none⟩ = w.cell? ⟨b, k, none⟩ :=
  by rw [World.cell?_setCell_other (h := fun e => h (congrArg Addr.block e))]
theorem TwAt.other {w : World} {b c o : Nat} {z : Z} (h : TwAt w b z) (x : Value) (hne : c ≠ b) : TwAt (w.setCell ⟨c, o, none⟩ x) b z :=
  ⟨(cell_else x hne).trans h.c0, (cell_else x hne).trans h.c1, by simp only [World.frozen?_setCell]; exact h.f0, by simp only [World.frozen?_setCell]; exact h.f1, by simpa [World.setCell] using h.lt⟩
theorem SpAt.other {w : World} {b c o : Nat} {s : Sp} (h : SpAt w b s) (x : Value) (hne : c ≠ b) : SpAt (w.setCell ⟨c, o, none⟩ x) b s :=
  ⟨(cell_else x hne).trans h.c0, (cell_else x hne).trans h.c1, (cell_else x hne).trans h.c2, by simp only [World.frozen?_setCell]; exact h.f0, by simp only [World.frozen?_setCell]; exact h.f1, by simp only [World.frozen?_setCell]; exact h.f2, by simpa [World.setCell] using h.lt⟩
theorem mul_z (y z : Z) (w : World) : Calls Tryd.prog 91 #[twR y, twR z] w fun e w' => e = .returned (twR (y.mul z)) ∧ Below w.heap.size w w' := by
  have := twinMul_c (fz y.re) (fz y.im) (fz z.re) (fz z.im) w; rw [zi_fz, zi_fz] at this; exact this
theorem power_z (z : Z) (n : Int) (w : World) (h0 : 0 ≤ n) (h1 : n ≤ 9223372036854775807) : Calls Tryd.prog 133 #[twR z, .int .i64 n] w fun e w' => e = .returned (twR (z.pow n.toNat)) ∧ Below w.heap.size w w' := by
  have := twinPower_c (fz z.re) (fz z.im) n w h0 h1; rw [zi_fz] at this; exact this
theorem slope_n (a b : Sp) (w : World) (h : sSlope a b = none) : Calls Tryd.prog 127 #[spV a, spV b] w fun e w' => e = .returned (.tuple #[.int .i64 0, .bool false]) ∧ Below w.heap.size w w' := by
  obtain ⟨x, y, f⟩ := a; obtain ⟨u, v, g⟩ := b
  unfold sSlope at h
  split at h
  · cases h
  · rename_i hx
    have hx' : x = u := Decidable.of_not_not hx
    split at h
    · rename_i hy
      by_cases e : y = v
      · have e0 : y = 0 := by rcases hy with h | h; exact absurd e h; exact h
        exact slope_upright2 x y u v f g w (by simpa using hx') (by simpa using e) (by simpa using e0)
      · exact slope_upright1 x y u v f g w (by simpa using hx') (by simpa using e)
    · cases h
theorem slope_s (a b : Sp) (s : Int) (w : World) (h : sSlope a b = some s) (ha : Ok a) : Calls Tryd.prog 127 #[spV a, spV b] w fun e w' => e = .returned (.tuple #[.int .i64 s, .bool true]) ∧ Below w.heap.size w w' := by
  have y0 := ha.y0; have y1 := ha.y1
  obtain ⟨x, y, f⟩ := a; obtain ⟨u, v, g⟩ := b
  unfold sSlope at h
  split at h
  · rename_i hx
    cases h
    exact slope_unlike x y u v f g w (by simpa using hx)
  · rename_i hx
    have hx' : x = u := Decidable.of_not_not hx
    split at h
    · cases h
    · rename_i hy
      cases h
      exact slope_same x y u v f g w (by simpa using hx') (by simp only [not_or] at hy; simpa using hy.1) (by simp only [not_or] at hy; simpa using hy.2) y0 y1
theorem twR_one : twR .one = .agg #[.int .i64 1, .int .i64 0] := rfl
set_option maxHeartbeats 1000000 in
theorem line_n (a b t : Sp) (w : World) (hO : OneAt w) (h : sSlope a b = none) : Calls Tryd.prog 132 #[spV a, spV b, spV t] w fun e w' => e = .returned (.agg #[.int .i64 1, .int .i64 0]) ∧ Below w.heap.size w w' := by
  go_enter Tryd.func132, Tryd.ntmps132
  go_wp2_with fail
  refine (slope_n a b _ h).mono ?_; rintro e w1 ⟨rfl, hb⟩
  obtain ⟨hc1, hf1⟩ := bcell hb
  have z1 := hb.size
  try simp only [World.size_alloc, World.size_setCell, World.size_drew] at z1
  have s1_0 : w.heap.size < w1.heap.size := by omega
  have s1_1 : w.heap.size + 1 < w1.heap.size := by omega
  have s1_2 : w.heap.size + 1 + 1 < w1.heap.size := by omega
  have s1_3 : w.heap.size + 1 + 1 + 1 < w1.heap.size := by omega
  have hB1 : Below w.heap.size w w1 := below_seq (by repeat (first | exact Below.refl _ _ | refine balloc ?_ _ | refine Below.drew ?_ | refine below_drewN ?_ _ | refine below_set ?_ (by first | omega | (dsimp only; omega)) _)) hb
  clear hb
  have hO1 := hO.below hB1
  obtain ⟨q0, q1, ql⟩ := hO
  have q2 : 0 < w.heap.size := Nat.lt_of_le_of_lt (Nat.zero_le _) ql
  obtain ⟨o0, o1, ol⟩ := hO1
  have r0 : w1.cell? ⟨w.heap.size + 1 + 1 + 1, 0, none⟩ = some (.int .i64 0) := by go_simp
  have r1 : w1.cell? ⟨w.heap.size + 1 + 1 + 1, 1, none⟩ = some (.int .i64 0) := by go_simp
  go_wp2
  have k := set2_cell (w := w1) (x := .int .i64 1) (y := .int .i64 0) r0 r1
  refine bodyPost_ret (v := .agg #[.int .i64 1, .int .i64 0]) (by simp [results, Tryd.results132, go_sem, k.1, k.2]) rfl ⟨rfl, set2_below (by repeat (first | exact hB1 | exact Below.refl _ _ | refine balloc ?_ _ | refine Below.drew ?_ | refine below_drewN ?_ _ | refine below_set ?_ (by first | omega | (dsimp only; omega)) _)) (by omega)⟩
theorem agg2_eq {a b c d : Int} (h : a = c) (k : b = d) : Ending.returned (.agg #[.int .i64 a, .int .i64 b]) = .returned (.agg #[.int .i64 c, .int .i64 d]) := by rw [h, k]
theorem line_alg (a t : Sp) (s : Int) (ht : 0 ≤ t.y ∧ t.y < 4051) : pSub (pMul s (t.x + a.x)) a.y = fz (⟨fi s * (fi t.x + fi a.x) - fi a.y, fi t.y⟩ : Z).re ∧ t.y = fz (⟨fi s * (fi t.x + fi a.x) - fi a.y, fi t.y⟩ : Z).im :=
  ⟨fz_eq (r_pSub _ _) (by rw [fi_pSub, fi_pMul, fi_add]), fz_eq ht rfl⟩
set_option maxHeartbeats 1000000 in
theorem line_s (a b t : Sp) (s : Int) (w : World) (h : sSlope a b = some s) (ha : Ok a) (ht : Ok t) : Calls Tryd.prog 132 #[spV a, spV b, spV t] w fun e w' => e = .returned (twR (zLine a b t)) ∧ Below w.heap.size w w' := by
  have hz : Hid (zLine a b t = ⟨fi s * (fi t.x + fi a.x) - fi a.y, fi t.y⟩) := by show _ = _; unfold zLine; rw [h]
  have hl := Lib.hid (line_alg a t s ⟨ht.y0, ht.y1⟩)
  have e1 : IntKind.i64.wrap (t.x + a.x) = t.x + a.x := IntWalk.i64_in _ (by have := ha.x0; have := ha.x1; have := ht.x0; have := ht.x1; omega)
  go_enter Tryd.func132, Tryd.ntmps132
  go_wp2_with fail
  refine (slope_s a b s _ h ha).mono ?_; rintro e w1 ⟨rfl, hb⟩
  obtain ⟨hc1, hf1⟩ := bcell hb
  have z1 := hb.size
  try simp only [World.size_alloc, World.size_setCell, World.size_drew] at z1
  have s1_0 : w.heap.size < w1.heap.size := by omega
  have s1_1 : w.heap.size + 1 < w1.heap.size := by omega
  have s1_2 : w.heap.size + 1 + 1 < w1.heap.size := by omega
  have s1_3 : w.heap.size + 1 + 1 + 1 < w1.heap.size := by omega
  have hB1 : Below w.heap.size w w1 := below_seq (by repeat (first | exact Below.refl _ _ | refine balloc ?_ _ | refine Below.drew ?_ | refine below_drewN ?_ _ | refine below_set ?_ (by first | omega | (dsimp only; omega)) _)) hb
  clear hb
  go_wp2_with fail
  refine wp_region_grow_tail 13 Tryd.mixed (by kernel_rfl) ?_
  simp only [List.take_succ_cons, List.take_zero, List.drop_succ_cons, List.drop_zero]
  repeat (quiet_step ((first | (go_at_call 126; exact grow_same (primeMul_c _ _ _)) | (go_at_call 128; exact grow_same (primeSub_c _ _ _)))))
  refine wpQuiet_nil ?_
  intro _ hw'
  obtain ⟨x2, rfl⟩ := hw'
  have z2 := x2.h.size
  try simp only [World.size_alloc, World.size_setCell, World.size_drew] at z2
  have s2_0 : w.heap.size < x2.w.heap.size := by omega
  have s2_1 : w.heap.size + 1 < x2.w.heap.size := by omega
  have s2_2 : w.heap.size + 1 + 1 < x2.w.heap.size := by omega
  have s2_3 : w.heap.size + 1 + 1 + 1 < x2.w.heap.size := by omega
  have hB2 : Below w.heap.size w x2.w := below_seq (by repeat (first | exact hB1 | exact Below.refl _ _ | refine balloc ?_ _ | refine Below.drew ?_ | refine below_drewN ?_ _ | refine below_set ?_ (by first | omega | (dsimp only; omega)) _)) x2.h
  have r0 : x2.w.cell? ⟨w.heap.size + 1 + 1 + 1, 0, none⟩ = some (.int .i64 0) := by go_simp
  have r1 : x2.w.cell? ⟨w.heap.size + 1 + 1 + 1, 1, none⟩ = some (.int .i64 0) := by go_simp
  clear e1
  go_wp2
  have k := set2_cell (w := x2.w) (x := .int .i64 (pSub (pMul s (t.x + a.x)) a.y)) (y := .int .i64 t.y) r0 r1
  refine bodyPost_ret (v := .agg #[.int .i64 (pSub (pMul s (t.x + a.x)) a.y), .int .i64 t.y]) (by simp [results, Tryd.results132, go_sem, k.1, k.2]) rfl ⟨?_, set2_below (by repeat (first | exact hB2 | exact Below.refl _ _ | refine balloc ?_ _ | refine Below.drew ?_ | refine below_drewN ?_ _ | refine below_set ?_ (by first | omega | (dsimp only; omega)) _)) (by omega)⟩
  rw [hz.out]
  exact agg2_eq hl.out.1 hl.out.2
theorem line_c (a b t : Sp) (w : World) (hO : OneAt w) (ha : Ok a) (ht : Ok t) : Calls Tryd.prog 132 #[spV a, spV b, spV t] w fun e w' => e = .returned (twR (zLine a b t)) ∧ Below w.heap.size w w' := by
  cases h : sSlope a b with
  | none =>
    have e : zLine a b t = .one := by unfold zLine; rw [h]
    rw [e]; exact line_n a b t w hO h
  | some s => exact line_s a b t s w h ha ht
set_option maxHeartbeats 1000000 in
theorem len_c (w : World) : Calls Tryd.prog 131 #[.int .u64 1013] w fun e w' => e = .returned (.int .i64 10) ∧ Below w.heap.size w w' := by
  go_enter Tryd.func131, Tryd.ntmps131
  go_wp2
  go_ret
  exact ⟨by kernel_rfl, Below.refl _ _⟩
end Go.Proofs.YtfnifdmnbccblaaDoor
namespace Go.Proofs.YtfnifdmnbccblaaDoor
open Go.RowKit
set_option maxRecDepth 100000
set_option linter.unusedVariables false
set_option linter.unusedSimpArgs false
theorem take_snoc {α : Type} (l : List α) (n : Nat) (h : n < l.length) : l.take (n + 1) = l.take n ++ [l[n]] := by
  rw [List.take_add_one, List.getElem?_eq_getElem h]; rfl
end Go.Proofs.YtfnifdmnbccblaaDoor
namespace Go.Proofs.YtfnifdmnbccblaaDoor
open Go.RowKit
set_option maxRecDepth 100000
set_option linter.unusedVariables false
set_option linter.unusedSimpArgs false
/-- The error, as nothing or something. -/
theorem errV_0 : errV 0 = .nilIface := rfl
theorem groupF_0 {xs ks : List Int} {n : Nat} (h : groupF xs ks n = 0) : xs.length ≤ 12 ∧ ks.length = xs.length ∧ (∀ i (h : i < xs.length), 1 ≤ xs[i] ∧ xs[i] < 1013) ∧ (∀ i (h : i < ks.length), 1 ≤ ks[i] ∧ ks[i] < 1013) ∧ n ≤ 60 := by
  unfold groupF at h
  split at h
  · exact absurd h (by decide)
  split at h
  · exact absurd h (by decide)
  split at h
  · rename_i g1 g2 g3
    rw [Bool.and_eq_true] at g3
    split at h
    · exact absurd h (by decide)
    · exact ⟨by omega, by omega, fun i hi => okB_y (all_get g3.1 i hi), fun i hi => okB_y (all_get g3.2 i hi), by omega⟩
  · exact absurd h (by decide)
/-- A block of four cells, a seal's, all zero. -/
structure Z4 (w : World) (b : Nat) : Prop where
  c0 : w.cell? ⟨b, 0, none⟩ = some (.int .i64 0)
  c1 : w.cell? ⟨b, 1, none⟩ = some (.int .i64 0)
  c2 : w.cell? ⟨b, 2, none⟩ = some (.bool false)
  c3 : w.cell? ⟨b, 3, none⟩ = some (.int .i64 0)
  f0 : w.frozen? ⟨b, 0, none⟩ = false
  f1 : w.frozen? ⟨b, 1, none⟩ = false
  f2 : w.frozen? ⟨b, 2, none⟩ = false
  f3 : w.frozen? ⟨b, 3, none⟩ = false
  lt : b < w.heap.size
theorem Z4.below {w w' : World} {b : Nat} (h : Z4 w b) (hb : Below w.heap.size w w') : Z4 w' b := by
  obtain ⟨k, k'⟩ := bcell hb
  exact ⟨(k _ _ h.lt).trans h.c0, (k _ _ h.lt).trans h.c1, (k _ _ h.lt).trans h.c2, (k _ _ h.lt).trans h.c3, (k' _ _ h.lt).trans h.f0, (k' _ _ h.lt).trans h.f1, (k' _ _ h.lt).trans h.f2, (k' _ _ h.lt).trans h.f3, Nat.lt_of_lt_of_le h.lt hb.size⟩
theorem Z4.fresh (w : World) (t : TypeId) : Z4 (w.alloc (.cells #[.int .i64 0, .int .i64 0, .bool false, .int .i64 0] t)) w.heap.size := ⟨by simp, by simp, by simp, by simp, by simp, by simp, by simp, by simp, by simp⟩
theorem mul_1 {a b : Int} (h0 : 0 ≤ a) (h1 : a < 1013) (k0 : 0 ≤ b) (k1 : b < 1013) : 0 ≤ a * b ∧ a * b ≤ 1024144 :=
  ⟨Int.mul_nonneg h0 k0, Int.le_trans (Int.mul_le_mul (show a ≤ 1012 by omega) (show b ≤ 1012 by omega) k0 (by decide)) (by decide)⟩
end Go.Proofs.YtfnifdmnbccblaaDoor
namespace Go.Proofs.YtfnifdmnbccblaaDoor
open Go.RowKit
set_option maxRecDepth 100000
set_option linter.unusedVariables false
set_option linter.unusedSimpArgs false
set_option maxHeartbeats 1000000 in
theorem refSpot_x0 (x y : Int) (f : Bool) (w : World) (h : x < 0) : Calls Tryd.prog 36 #[.agg #[.int .i64 x, .int .i64 y, .bool f]] w fun e w' => e = .returned (.int .i64 1) ∧ Below w.heap.size w w' := by
  go_enter Tryd.func36, Tryd.ntmps36
  go_wp2
  go_ret
  exact ⟨rfl, (by repeat (first | exact Below.refl _ _ | refine balloc ?_ _ | refine Below.drew ?_ | refine below_drewN ?_ _ | refine below_set ?_ (by first | omega | (dsimp only; omega)) _))⟩
set_option maxHeartbeats 1000000 in
theorem refSpot_x1 (x y : Int) (f : Bool) (w : World) (h0 : 0 ≤ x) (h : 4051 ≤ x) : Calls Tryd.prog 36 #[.agg #[.int .i64 x, .int .i64 y, .bool f]] w fun e w' => e = .returned (.int .i64 1) ∧ Below w.heap.size w w' := by
  go_enter Tryd.func36, Tryd.ntmps36
  go_wp2
  go_ret
  exact ⟨rfl, (by repeat (first | exact Below.refl _ _ | refine balloc ?_ _ | refine Below.drew ?_ | refine below_drewN ?_ _ | refine below_set ?_ (by first | omega | (dsimp only; omega)) _))⟩
set_option maxHeartbeats 1000000 in
theorem refSpot_y0 (x y : Int) (f : Bool) (w : World) (h0 : 0 ≤ x) (h : x < 4051) (k : y < 0) : Calls Tryd.prog 36 #[.agg #[.int .i64 x, .int .i64 y, .bool f]] w fun e w' => e = .returned (.int .i64 1) ∧ Below w.heap.size w w' := by
  go_enter Tryd.func36, Tryd.ntmps36
  go_wp2
  go_ret
  exact ⟨rfl, (by repeat (first | exact Below.refl _ _ | refine balloc ?_ _ | refine Below.drew ?_ | refine below_drewN ?_ _ | refine below_set ?_ (by first | omega | (dsimp only; omega)) _))⟩
set_option maxHeartbeats 1000000 in
theorem refSpot_y1 (x y : Int) (f : Bool) (w : World) (h0 : 0 ≤ x) (h : x < 4051) (k0 : 0 ≤ y) (k : 4051 ≤ y) : Calls Tryd.prog 36 #[.agg #[.int .i64 x, .int .i64 y, .bool f]] w fun e w' => e = .returned (.int .i64 1) ∧ Below w.heap.size w w' := by
  go_enter Tryd.func36, Tryd.ntmps36
  go_wp2
  go_ret
  exact ⟨rfl, (by repeat (first | exact Below.refl _ _ | refine balloc ?_ _ | refine Below.drew ?_ | refine below_drewN ?_ _ | refine below_set ?_ (by first | omega | (dsimp only; omega)) _))⟩
set_option maxHeartbeats 1000000 in
theorem refSpot_f1 (x y : Int) (w : World) (h0 : 0 ≤ x) (h : x < 4051) (k0 : 0 ≤ y) (k : y < 4051) (hx : (x != 0) = true) : Calls Tryd.prog 36 #[.agg #[.int .i64 x, .int .i64 y, .bool true]] w fun e w' => e = .returned (.int .i64 1) ∧ Below w.heap.size w w' := by
  go_enter Tryd.func36, Tryd.ntmps36
  go_wp2
  go_ret
  exact ⟨rfl, (by repeat (first | exact Below.refl _ _ | refine balloc ?_ _ | refine Below.drew ?_ | refine below_drewN ?_ _ | refine below_set ?_ (by first | omega | (dsimp only; omega)) _))⟩
set_option maxHeartbeats 1000000 in
theorem refSpot_f2 (x y : Int) (w : World) (h0 : 0 ≤ x) (h : x < 4051) (k0 : 0 ≤ y) (k : y < 4051) (hx : (x != 0) = false) (hy : (y != 0) = true) : Calls Tryd.prog 36 #[.agg #[.int .i64 x, .int .i64 y, .bool true]] w fun e w' => e = .returned (.int .i64 1) ∧ Below w.heap.size w w' := by
  go_enter Tryd.func36, Tryd.ntmps36
  go_wp2
  go_ret
  exact ⟨rfl, (by repeat (first | exact Below.refl _ _ | refine balloc ?_ _ | refine Below.drew ?_ | refine below_drewN ?_ _ | refine below_set ?_ (by first | omega | (dsimp only; omega)) _))⟩
set_option maxHeartbeats 1000000 in
theorem refSpot_f3 (w : World) : Calls Tryd.prog 36 #[.agg #[.int .i64 0, .int .i64 0, .bool true]] w fun e w' => e = .returned (.int .i64 0) ∧ Below w.heap.size w w' := by
  go_enter Tryd.func36, Tryd.ntmps36
  go_wp2
  go_ret
  exact ⟨rfl, (by repeat (first | exact Below.refl _ _ | refine balloc ?_ _ | refine Below.drew ?_ | refine below_drewN ?_ _ | refine below_set ?_ (by first | omega | (dsimp only; omega)) _))⟩
set_option maxHeartbeats 1000000 in
theorem refSpot_n0 (x y H : Int) (w : World) (h0 : 0 ≤ x) (h : x < 4051) (k0 : 0 ≤ y) (k : y < 4051) (p0 : 0 ≤ y * y) (p1 : y * y ≤ 16402500) (q0 : 0 ≤ x * x) (q1 : x * x ≤ 16402500) (r0 : 0 ≤ x * x % 4051 * x) (r1 : x * x % 4051 * x ≤ 16402500) (hq : (y * y % 4051 != (x * x % 4051 * x + x) % 4051) = false) : Calls Tryd.prog 36 #[.agg #[.int .i64 x, .int .i64 y, .bool false]] w fun e w' => e = .returned (.int .i64 0) ∧ Below w.heap.size w w' := by
  go_enter Tryd.func36, Tryd.ntmps36
  go_wp2
  go_ret
  exact ⟨rfl, (by repeat (first | exact Below.refl _ _ | refine balloc ?_ _ | refine Below.drew ?_ | refine below_drewN ?_ _ | refine below_set ?_ (by first | omega | (dsimp only; omega)) _))⟩
set_option maxHeartbeats 1000000 in
theorem refSpot_n3 (x y H : Int) (w : World) (h0 : 0 ≤ x) (h : x < 4051) (k0 : 0 ≤ y) (k : y < 4051) (p0 : 0 ≤ y * y) (p1 : y * y ≤ 16402500) (q0 : 0 ≤ x * x) (q1 : x * x ≤ 16402500) (r0 : 0 ≤ x * x % 4051 * x) (r1 : x * x % 4051 * x ≤ 16402500) (hq : (y * y % 4051 != (x * x % 4051 * x + x) % 4051) = true) : Calls Tryd.prog 36 #[.agg #[.int .i64 x, .int .i64 y, .bool false]] w fun e w' => e = .returned (.int .i64 3) ∧ Below w.heap.size w w' := by
  go_enter Tryd.func36, Tryd.ntmps36
  go_wp2
  go_ret
  exact ⟨rfl, (by repeat (first | exact Below.refl _ _ | refine balloc ?_ _ | refine Below.drew ?_ | refine below_drewN ?_ _ | refine below_set ?_ (by first | omega | (dsimp only; omega)) _))⟩
theorem ins_no {x : Int} (h : ¬ (0 ≤ x ∧ x < 4051)) : inside x = false := by
  cases e : inside x
  · rfl
  · exact absurd (ins_iff.mp e) h
theorem refSpot_c (s : Sp) (w : World) : Calls Tryd.prog 36 #[spV s] w fun e w' => e = .returned (.int .i64 (sCheck s)) ∧ Below w.heap.size w w' := by
  obtain ⟨x, y, f⟩ := s
  by_cases hx : 0 ≤ x ∧ x < 4051
  case neg =>
    have e : sCheck ⟨x, y, f⟩ = 1 := by unfold sCheck; rw [if_pos]; simp [ins_no hx]
    rw [e]
    by_cases c : x < 0
    · exact refSpot_x0 x y f w c
    · exact refSpot_x1 x y f w (by omega) (by omega)
  by_cases hy : 0 ≤ y ∧ y < 4051
  case neg =>
    have e : sCheck ⟨x, y, f⟩ = 1 := by unfold sCheck; rw [if_pos]; simp [ins_no hy]
    rw [e]
    by_cases c : y < 0
    · exact refSpot_y0 x y f w hx.1 hx.2 c
    · exact refSpot_y1 x y f w hx.1 hx.2 (by omega) (by omega)
  have ix := ins_iff.mpr hx
  have iy := ins_iff.mpr hy
  cases f
  · have b := lift_bd hx.1 hx.2
    have by' := sq_bd hy.1 hy.2
    have eh : (x * x % 4051 * x + x) % 4051 = height x := by rw [← height_ref, Int.emod_emod_of_dvd _ (Int.dvd_refl _)]
    by_cases c : pMul y y = height x
    · have e : sCheck ⟨x, y, false⟩ = 0 := by unfold sCheck; simp [ix, iy, c]
      rw [e]
      exact refSpot_n0 x y 0 w hx.1 hx.2 hy.1 hy.2 by'.1 by'.2 b.1.1 b.1.2 b.2.1 b.2.2 (by rw [eh, ← c]; unfold pMul; simp)
    · have e : sCheck ⟨x, y, false⟩ = 3 := by unfold sCheck; simp [ix, iy, c]
      rw [e]
      exact refSpot_n3 x y 0 w hx.1 hx.2 hy.1 hy.2 by'.1 by'.2 b.1.1 b.1.2 b.2.1 b.2.2 (by rw [eh]; simp; unfold pMul at c; exact c)
  · by_cases c : x = 0
    · subst c
      by_cases d : y = 0
      · subst d
        exact refSpot_f3 w
      · have e : sCheck ⟨0, y, true⟩ = 1 := by unfold sCheck; rw [if_pos]; simp [iy, ix, Sp.beq, sFar, d]
        rw [e]
        exact refSpot_f2 0 y w hx.1 hx.2 hy.1 hy.2 (by simp) (by simpa using d)
    · have e : sCheck ⟨x, y, true⟩ = 1 := by unfold sCheck; rw [if_pos]; simp [iy, ix, Sp.beq, sFar, c]
      rw [e]
      exact refSpot_f1 x y w hx.1 hx.2 hy.1 hy.2 (by simpa using c)
theorem refSpot_e (s : Sp) (n : Int) (w : World) (h : Hid (sCheck s = n)) : Calls Tryd.prog 36 #[spV s] w fun e w' => e = .returned (.int .i64 n) ∧ Below w.heap.size w w' := by
  have := refSpot_c s w; rw [h.out] at this; exact this
theorem check_v (s : Sp) (n : Int) (w : World) (hF : FarAt w) (h : Hid (sCheck s = n)) (h0 : n ≠ 0) : Calls Tryd.prog 82 #[spV s] w fun e w' => e = .returned (.iface 118 (.int .i64 n)) ∧ Below w.heap.size w w' := by
  have := check_bad s w hF (by rw [h.out]; exact h0); rw [h.out] at this; exact this
end Go.Proofs.YtfnifdmnbccblaaDoor
namespace Go.Proofs.YtfnifdmnbccblaaDoor
open Go.RowKit
set_option maxRecDepth 100000
set_option linter.unusedVariables false
set_option linter.unusedSimpArgs false
def LiftIs (x : Int) (L : Sp) (E : Value) : Prop := ∀ w : World, Calls Tryd.prog 80 #[.int .i64 x] w fun e w' => e = .returned (.tuple #[spV L, E]) ∧ Below w.heap.size w w'
theorem wrap_two (c d : UInt8) : IntKind.i64.wrap (IntKind.i64.wrap (IntKind.i64.wrap (c.toNat : Int) * 256) + IntKind.i64.wrap (d.toNat : Int)) = (c.toNat : Int) * 256 + (d.toNat : Int) := by
  have := c.toNat_lt; have := d.toNat_lt
  rw [IntWalk.i64_in (c.toNat : Int) (by omega), IntWalk.i64_in (d.toNat : Int) (by omega), IntWalk.i64_in ((c.toNat : Int) * 256) (by omega), IntWalk.i64_in _ (by omega)]
/-- What Unpack makes of three bytes whose place lifts to L, with error E. -/
def unS (c0 : UInt8) (L : Sp) : Sp := if c0.toNat = 2 then sTurned L else L
end Go.Proofs.YtfnifdmnbccblaaDoor
namespace Go.Proofs.YtfnifdmnbccblaaDoor
open Go.RowKit
set_option maxRecDepth 100000
set_option linter.unusedVariables false
set_option linter.unusedSimpArgs false
def unpackR : List UInt8 → Option Sp
  | [c] => if c = 0 then some sFar else none
  | [c0, c1, c2] => if inside ((c1.toNat : Int) * 256 + (c2.toNat : Int)) = true ∧ isSq (height ((c1.toNat : Int) * 256 + (c2.toNat : Int))) = true then
      (if ((sBytes (unS c0 (lifted ((c1.toNat : Int) * 256 + (c2.toNat : Int))))).toList == [c0, c1, c2]) = true then some (unS c0 (lifted ((c1.toNat : Int) * 256 + (c2.toNat : Int)))) else none) else none
  | _ => none
theorem unpackR_three (c0 c1 c2 : UInt8) : unpackR [c0, c1, c2] = if inside ((c1.toNat : Int) * 256 + (c2.toNat : Int)) = true ∧ isSq (height ((c1.toNat : Int) * 256 + (c2.toNat : Int))) = true then
      (if ((sBytes (unS c0 (lifted ((c1.toNat : Int) * 256 + (c2.toNat : Int))))).toList == [c0, c1, c2]) = true then some (unS c0 (lifted ((c1.toNat : Int) * 256 + (c2.toNat : Int)))) else none) else none := rfl
def unV : Option Sp → Value
  | some s => .tuple #[spV s, .nilIface]
  | none => .tuple #[spV ⟨0, 0, false⟩, .iface 118 (.int .i64 2)]
end Go.Proofs.YtfnifdmnbccblaaDoor
namespace Go.Proofs.YtfnifdmnbccblaaDoor
open Go.RowKit
set_option maxRecDepth 100000
set_option linter.unusedVariables false
set_option linter.unusedSimpArgs false
/-- Two bytes of a place are it again. -/
theorem two_bytes {x : Int} (h0 : 0 ≤ x) (h1 : x < 4051) : ((UInt8.ofNat (x / 256).toNat).toNat : Int) * 256 + ((UInt8.ofNat (x % 256).toNat).toNat : Int) = x := by
  rw [UInt8.toNat_ofNat', UInt8.toNat_ofNat']; omega
theorem sBytes_far {s : Sp} (hf : s.far = true) : (sBytes s).data.toList = [0] := by unfold sBytes; rw [if_pos hf]
theorem sBytes_big {s : Sp} (hf : s.far = false) (hy : pOf (-s.y) < s.y) : (sBytes s).data.toList = [2, UInt8.ofNat (s.x / 256).toNat, UInt8.ofNat (s.x % 256).toNat] := by
  unfold sBytes; rw [if_neg (by rw [hf]; decide), if_pos hy, strOfNums_data]; rfl
theorem sBytes_small {s : Sp} (hf : s.far = false) (hy : ¬ pOf (-s.y) < s.y) : (sBytes s).data.toList = [1, UInt8.ofNat (s.x / 256).toNat, UInt8.ofNat (s.x % 256).toNat] := by
  unfold sBytes; rw [if_neg (by rw [hf]; decide), if_neg hy, strOfNums_data]; rfl
theorem unpack_sBytes {s : Sp} (h : Ok s) : unpackR (sBytes s).data.toList = some s := by
  cases hf : s.far
  · have hx := two_bytes h.x0 h.x1
    have hs := ok_isSq h hf
    by_cases hy : pOf (-s.y) < s.y
    · rw [sBytes_big hf hy, unpackR_three, hx, if_pos ⟨h.ins, hs⟩]
      have e : unS 2 (lifted s.x) = s := by unfold unS; rw [if_pos (by decide)]; exact (lifted_gt h hf hy).symm
      rw [e, if_pos]; rw [ByteArray.toList_eq, sBytes_big hf hy]; simp
    · rw [sBytes_small hf hy, unpackR_three, hx, if_pos ⟨h.ins, hs⟩]
      have e : unS 1 (lifted s.x) = s := by unfold unS; rw [if_neg (by decide)]; exact (lifted_le h hf (by omega)).symm
      rw [e, if_pos]; rw [ByteArray.toList_eq, sBytes_small hf hy]; simp
  · rw [sBytes_far hf]; show (if (0 : UInt8) = 0 then some sFar else none) = some s
    rw [if_pos rfl, h.far_eq hf]
theorem unpack_some {l : List UInt8} {s : Sp} (h : unpackR l = some s) : Ok s ∧ (sBytes s).data.toList = l := by
  match l, h with
  | [c], h =>
    have h : (if c = 0 then some sFar else none) = some s := h
    split at h
    · rename_i e; cases h; exact ⟨ok_far, by rw [sBytes_far rfl, e]⟩
    · cases h
  | [c0, c1, c2], h =>
    rw [unpackR_three] at h
    split at h
    · rename_i hi
      split at h
      · rename_i he
        have hl := lifted_ok hi.1 hi.2
        rw [ByteArray.toList_eq] at he
        cases h
        refine ⟨?_, by simpa using he⟩
        unfold unS; split
        · exact (turned_ok hl).1
        · exact hl
      · cases h
    · cases h
  | [], h => cases h
  | [_, _], h => cases h
  | _ :: _ :: _ :: _ :: _, h => cases h
theorem bytes_ext {a b : ByteArray} (h : a.data.toList = b.data.toList) : a = b := by
  obtain ⟨⟨x⟩⟩ := a; obtain ⟨⟨y⟩⟩ := b; simp only at h; rw [h]
theorem sBytes_inj {s t : Sp} (hs : Ok s) (ht : Ok t) (h : sBytes s = sBytes t) : s = t := by
  have := unpack_sBytes hs; rw [h, unpack_sBytes ht] at this; exact (Option.some.inj this).symm
end Go.Proofs.YtfnifdmnbccblaaDoor
namespace Go.Proofs.YtfnifdmnbccblaaDoor
open Go.RowKit
set_option maxRecDepth 100000
set_option linter.unusedVariables false
set_option linter.unusedSimpArgs false
set_option maxHeartbeats 1000000 in
theorem refBytes_far (x y : Int) (w : World) : Calls Tryd.prog 93 #[.agg #[.int .i64 x, .int .i64 y, .bool true]] w fun e w' => e = .returned (.string ⟨#[0]⟩) ∧ Below w.heap.size w w' := by
  go_enter Tryd.func93, Tryd.ntmps93
  go_wp2
  go_ret
  exact ⟨rfl, (by repeat (first | exact Below.refl _ _ | refine balloc ?_ _ | refine Below.drew ?_ | refine below_drewN ?_ _ | refine below_set ?_ (by first | omega | (dsimp only; omega)) _))⟩
set_option maxHeartbeats 1000000 in
theorem refBytes_big (x y : Int) (w : World) (x0 : 0 ≤ x) (x1 : x < 4051) (y0 : 0 ≤ y) (y1 : y < 4051) (h : 4051 < 2 * y) : Calls Tryd.prog 93 #[.agg #[.int .i64 x, .int .i64 y, .bool false]] w fun e w' => e = .returned (.string (strOfNums [2, x / 256, x % 256])) ∧ Below w.heap.size w w' := by
  have hcv := conv3 ((w.alloc (.cells #[.int .i64 x, .int .i64 y, .bool false] 25)).alloc (.cells #[.int .u8 2, .int .u8 (x / 256), .int .u8 (x % 256)] 5)) (w.heap.size + 1) 2 (x / 256) (x % 256) (by go_simp) (by go_simp) (by go_simp)
  go_enter Tryd.func93, Tryd.ntmps93
  go_wp2
  go_ret
  exact ⟨rfl, balloc (below_alloc _ _) _⟩
set_option maxHeartbeats 1000000 in
theorem refBytes_small (x y : Int) (w : World) (x0 : 0 ≤ x) (x1 : x < 4051) (y0 : 0 ≤ y) (y1 : y < 4051) (h : ¬ 4051 < 2 * y) : Calls Tryd.prog 93 #[.agg #[.int .i64 x, .int .i64 y, .bool false]] w fun e w' => e = .returned (.string (strOfNums [1, x / 256, x % 256])) ∧ Below w.heap.size w w' := by
  have hcv := conv3 ((w.alloc (.cells #[.int .i64 x, .int .i64 y, .bool false] 25)).alloc (.cells #[.int .u8 1, .int .u8 (x / 256), .int .u8 (x % 256)] 5)) (w.heap.size + 1) 1 (x / 256) (x % 256) (by go_simp) (by go_simp) (by go_simp)
  go_enter Tryd.func93, Tryd.ntmps93
  go_wp2
  go_ret
  exact ⟨rfl, balloc (below_alloc _ _) _⟩
theorem big_iff {y : Int} (y0 : 0 ≤ y) (y1 : y < 4051) : pOf (-y) < y ↔ 4051 < 2 * y := by
  by_cases h : y = 0
  · subst h; unfold pOf; decide
  · have e : pOf (-y) = 4051 - y := by
      unfold pOf
      rw [show -y = (4051 - y) + 4051 * (-1) by omega, Int.add_mul_emod_self_left]
      exact Int.emod_eq_of_lt (by omega) (by omega)
    rw [e]; omega
theorem refBytes_c (s : Sp) (w : World) (h : Ok s) : Calls Tryd.prog 93 #[spV s] w fun e w' => e = .returned (.string (sBytes s)) ∧ Below w.heap.size w w' := by
  have x0 := h.x0; have x1 := h.x1; have y0 := h.y0; have y1 := h.y1
  obtain ⟨x, y, f⟩ := s
  simp only at x0 x1 y0 y1
  cases f
  · by_cases hy : pOf (-y) < y
    · have e : sBytes ⟨x, y, false⟩ = strOfNums [2, x / 256, x % 256] := by simp [sBytes, hy]
      rw [e]; exact refBytes_big x y w x0 x1 y0 y1 ((big_iff y0 y1).mp hy)
    · have e : sBytes ⟨x, y, false⟩ = strOfNums [1, x / 256, x % 256] := by simp [sBytes, hy]
      rw [e]; exact refBytes_small x y w x0 x1 y0 y1 (fun c => hy ((big_iff y0 y1).mpr c))
  · exact refBytes_far x y w
theorem refBytes_e (s : Sp) (B : ByteArray) (w : World) (h : Ok s) (hB : Hid (sBytes s = B)) : Calls Tryd.prog 93 #[spV s] w fun e w' => e = .returned (.string B) ∧ Below w.heap.size w w' := by
  have := refBytes_c s w h; rw [hB.out] at this; exact this
theorem refSpots_full (l : Nat) (a : Option Addr) (cap : Nat) (w : World) (hl : 12 < l) (hm : l ≤ 9223372036854775807) : Calls Tryd.prog 44 #[.slice a l cap] w fun e w' => e = .returned (.int .i64 4) ∧ Below w.heap.size w w' := by
  have hd : decide ((12 : Int) < (l : Int)) = true := by rw [decide_eq_true_iff]; omega
  go_enter Tryd.func44, Tryd.ntmps44
  go_wp2
  go_ret
  exact ⟨rfl, (by repeat (first | exact Below.refl _ _ | refine balloc ?_ _ | refine Below.drew ?_ | refine below_drewN ?_ _ | refine below_set ?_ (by first | omega | (dsimp only; omega)) _))⟩
theorem refSpots_nil (a : Option Addr) (cap : Nat) (w : World) : Calls Tryd.prog 44 #[.slice a 0 cap] w fun e w' => e = .returned (.int .i64 0) ∧ Below w.heap.size w w' := by
  go_enter Tryd.func44, Tryd.ntmps44
  go_wp2
  refine wp_loop_rounds 1 ?_
  rw [rounds_succ]
  go_wp2
  go_ret
  exact ⟨rfl, (by repeat (first | exact Below.refl _ _ | refine balloc ?_ _ | refine Below.drew ?_ | refine below_drewN ?_ _ | refine below_set ?_ (by first | omega | (dsimp only; omega)) _))⟩
set_option maxHeartbeats 1000000 in
theorem refSpots_core (l : List Sp) (b off cap : Nat) (w : World) (hl : l.length ≤ 12) (hs : SpotsAt w b off l) (k : Nat) (hk : k ≤ l.length) (R : Int) (hok : Hid (∀ i (h : i < l.length), i < k → sCheck l[i] = 0))
    (hbad : Hid (∀ h : k < l.length, (sCheck l[k] != 0) = true ∧ R = sCheck l[k])) (hend : Hid (k = l.length → R = 0)) :
    Calls Tryd.prog 44 #[.slice (some ⟨b, off, none⟩) l.length cap] w fun e w' => e = .returned (.int .i64 R) ∧ Below w.heap.size w w' := by
  have hd : decide ((12 : Int) < (l.length : Int)) = false := by rw [decide_eq_false_iff_not]; omega
  have hss := Lib.hid hs
  clear hs
  go_enter Tryd.func44, Tryd.ntmps44
  go_wp2
  go_loopw [3] (fun i wr => ∃ n : Nat, n ≤ k ∧ i = .int .i64 n ∧ Below w.heap.size w wr) (fun i _ => l.length - (intOf i).toNat)
  case atStart => exact ⟨0, Nat.zero_le _, rfl, Below.refl _ _⟩
  case round =>
    obtain ⟨n, hn, rfl, hb⟩ := hrel
    have hsr := hss.out.below hb
    by_cases hlt : n < l.length
    · have h1 := hsr.cx n hlt
      have h2 := hsr.cy n hlt
      have h3 := hsr.cf n hlt
      clear hsr
      by_cases hnk : n < k
      · have ho := Lib.hid (hok.out n hlt hnk)
        go_wp2_with fail
        refine (refSpot_e l[n] 0 _ ho).mono ?_; rintro e w1 ⟨rfl, hb1⟩
        clear h1 h2 h3
        go_wp2
        go_roundw
        case rel => exact ⟨n + 1, by omega, by go_num, below_seq hb hb1⟩
        case measure => simp [intOf]; omega
      · obtain rfl : n = k := by omega
        obtain ⟨hbd, hR⟩ := hbad.out hlt
        replace hR := Lib.hid hR
        go_wp2_with fail
        refine (refSpot_c l[n] _).mono ?_; rintro e w1 ⟨rfl, hb1⟩
        clear h1 h2 h3
        go_wp2
        go_ret
        exact ⟨ret_int hR.out.symm, below_seq hb hb1⟩
    · have hkl : k = l.length := by omega
      have hR := Lib.hid (hend.out hkl)
      clear hkl
      go_wp2
      go_ret
      exact ⟨ret_int hR.out.symm, hb⟩
set_option maxHeartbeats 1000000 in
theorem refList_nil (a : Option Addr) (cap : Nat) (w : World) : Calls Tryd.prog 102 #[.slice a 0 cap] w fun e w' => e = .returned (.string (strOfNums [0])) ∧ Below w.heap.size w w' := by
  have hcv := conv1 (w.alloc (.cells #[.int .u8 0] 5)) w.heap.size 0 (by go_simp)
  go_enter Tryd.func102, Tryd.ntmps102
  go_wp2
  refine wp_loop_rounds 1 ?_
  rw [rounds_succ]
  go_wp2
  go_ret
  exact ⟨rfl, below_alloc _ _⟩
set_option maxHeartbeats 1000000 in
theorem refList_ok (l : List Sp) (b off cap : Nat) (w : World) (hl : l.length ≤ 12) (hs : SpotsAt w b off l) (h : Hid (∀ i (h : i < l.length), Ok l[i])) :
    Calls Tryd.prog 102 #[.slice (some ⟨b, off, none⟩) l.length cap] w fun e w' => e = .returned (.string (lsB l.length l)) ∧ Below w.heap.size w w' := by
  have hcv := conv1 (w.alloc (.cells #[.int .u8 l.length] 5)) w.heap.size l.length (by go_simp)
  go_enter Tryd.func102, Tryd.ntmps102
  go_wp2
  have hss := Lib.hid (hs.below (below_alloc w (.cells #[.int .u8 l.length] 5)))
  have hBs := Lib.hid (below_alloc w (.cells #[.int .u8 l.length] 5))
  clear hcv hs
  generalize w.alloc (.cells #[.int .u8 l.length] 5) = w0 at *
  go_loopw [4, 5] (fun o i wr => ∃ n : Nat, n ≤ l.length ∧ i = .int .i64 n ∧ o = .string (lsB l.length (l.take n)) ∧ Below w0.heap.size w0 wr) (fun _ i _ => l.length - (intOf i).toNat)
  case atStart => exact ⟨0, Nat.zero_le _, rfl, rfl, Below.refl _ _⟩
  case round =>
    obtain ⟨n, hn, rfl, rfl, hb⟩ := hrel
    have hsr := hss.out.below hb
    by_cases hlt : n < l.length
    · have h1 := hsr.cx n hlt
      have h2 := hsr.cy n hlt
      have h3 := hsr.cf n hlt
      clear hsr
      have ho := h.out n hlt
      have hsn := Lib.hid (lsB_snoc l.length l n hlt)
      go_wp2_with fail
      refine (refBytes_c l[n] _ ho).mono ?_; rintro e w1 ⟨rfl, hb1⟩
      clear h1 h2 h3 ho
      have hz1 := lsB_size l.length (l.take n)
      have hz2 := sBytes_size l[n]
      have hz3 : (l.take n).length ≤ 12 := by rw [List.length_take]; omega
      have hz4 : (lsB l.length (l.take n)).size ≤ 37 := by omega
      clear hz1 hz3
      go_wp2
      go_roundw
      case rel => exact ⟨n + 1, by omega, by go_num, by rw [hsn.out], below_seq hb hb1⟩
      case measure => simp [intOf]; omega
    · have ht : Hid (l.take n = l) := List.take_of_length_le (by omega)
      go_wp2
      go_ret
      exact ⟨ret_string (by rw [ht.out]), below_seq hBs.out hb⟩
end Go.Proofs.YtfnifdmnbccblaaDoor
namespace Go.Proofs.YtfnifdmnbccblaaDoor
open Go.RowKit
set_option maxRecDepth 100000
set_option linter.unusedVariables false
set_option linter.unusedSimpArgs false
set_option maxHeartbeats 1000000 in
theorem refTimes_0 (a : Sp) (n : Int) (w : World) (n0 : -9223372036854775808 ≤ n) (n1 : n ≤ 9223372036854775807) (hm : Hid (n % 4052 = 0)) : Calls Tryd.prog 31 #[spV a, .int .i64 n] w fun e w' => e = .returned (spV ⟨0, 0, true⟩) ∧ Below w.heap.size w w' := by
  go_enter Tryd.func31, Tryd.ntmps31
  go_wp2_with fail
  refine (refMod_e n 4052 0 _ n0 n1 (by omega) (by omega) hm).mono ?_; rintro e w' ⟨rfl, rfl⟩
  go_wp2
  refine bodyPost_ret (v := spV ⟨0, 0, true⟩) (by simp [results, Tryd.results31, go_sem]) rfl ⟨rfl, ?_⟩
  repeat (first | exact Below.refl _ _ | refine Below.drew ?_ | refine balloc ?_ _ | refine below_set ?_ (by simp) _)
set_option maxHeartbeats 2000000 in
theorem refTimes_even (a H V : Sp) (n m : Int) (w : World) (n0 : -9223372036854775808 ≤ n) (n1 : n ≤ 9223372036854775807) (m0 : 0 < m) (m1 : m < 4052) (hm : Hid (n % 4052 = m)) (hp : (m % 2 == 1) = false)
    (hr : Hid (∀ w : World, Calls Tryd.prog 31 #[spV a, .int .i64 (m / 2)] w fun e w' => e = .returned (spV H) ∧ Below w.heap.size w w')) (oH : Ok H) (hV : Hid (sSum H H = V)) : Calls Tryd.prog 31 #[spV a, .int .i64 n] w fun e w' => e = .returned (spV V) ∧ Below w.heap.size w w' := by
  go_enter Tryd.func31, Tryd.ntmps31
  go_wp2_with fail
  refine (refMod_e n 4052 m _ n0 n1 (by omega) (by omega) hm).mono ?_; rintro e w' ⟨rfl, rfl⟩
  go_wp2_with fail
  refine (hr.out _).mono ?_; rintro e w1 ⟨rfl, hb⟩
  obtain ⟨hc1, hf1⟩ := bcell hb
  have z1 := hb.size
  try simp only [World.size_alloc, World.size_setCell, World.size_drew] at z1
  have s1_0 : w.heap.size < w1.heap.size := by omega
  have s1_1 : w.heap.size + 1 < w1.heap.size := by omega
  have hB1 : Below w.heap.size w w1 := below_seq (by repeat (first | exact Below.refl _ _ | refine balloc ?_ _ | refine Below.drew ?_ | refine below_drewN ?_ _ | refine below_set ?_ (by first | omega | (dsimp only; omega)) _)) hb
  clear hb
  have m1_0_0 : w1.cell? ⟨w.heap.size, 0, none⟩ = some (.int .i64 a.x) := by go_simp
  have m1_0_1 : w1.cell? ⟨w.heap.size, 1, none⟩ = some (.int .i64 a.y) := by go_simp
  have m1_0_2 : w1.cell? ⟨w.heap.size, 2, none⟩ = some (.bool a.far) := by go_simp
  have m1_1_0 : w1.cell? ⟨w.heap.size + 1, 0, none⟩ = some (.int .i64 0) := by go_simp
  have m1_1_1 : w1.cell? ⟨w.heap.size + 1, 1, none⟩ = some (.int .i64 0) := by go_simp
  have m1_1_2 : w1.cell? ⟨w.heap.size + 1, 2, none⟩ = some (.bool false) := by go_simp
  go_wp2_with fail
  refine (refAdd_e H H V _ oH oH hV).mono ?_; rintro e w2 ⟨rfl, hb⟩
  obtain ⟨hc2, hf2⟩ := bcell hb
  have z2 := hb.size
  try simp only [World.size_alloc, World.size_setCell, World.size_drew] at z2
  have s2_0 : w.heap.size < w2.heap.size := by omega
  have s2_1 : w.heap.size + 1 < w2.heap.size := by omega
  have s2_2 : w1.heap.size < w2.heap.size := by omega
  have hB2 : Below w.heap.size w w2 := below_seq (by repeat (first | exact hB1 | exact Below.refl _ _ | refine balloc ?_ _ | refine Below.drew ?_ | refine below_drewN ?_ _ | refine below_set ?_ (by first | omega | (dsimp only; omega)) _)) hb
  clear hb
  have m2_0_0 : w2.cell? ⟨w.heap.size, 0, none⟩ = some (.int .i64 a.x) := by go_simp
  have m2_0_1 : w2.cell? ⟨w.heap.size, 1, none⟩ = some (.int .i64 a.y) := by go_simp
  have m2_0_2 : w2.cell? ⟨w.heap.size, 2, none⟩ = some (.bool a.far) := by go_simp
  have m2_1_0 : w2.cell? ⟨w.heap.size + 1, 0, none⟩ = some (.int .i64 0) := by go_simp
  have m2_1_1 : w2.cell? ⟨w.heap.size + 1, 1, none⟩ = some (.int .i64 0) := by go_simp
  have m2_1_2 : w2.cell? ⟨w.heap.size + 1, 2, none⟩ = some (.bool false) := by go_simp
  have m2_2_0 : w2.cell? ⟨w1.heap.size, 0, none⟩ = some (.int .i64 H.x) := by go_simp
  have m2_2_1 : w2.cell? ⟨w1.heap.size, 1, none⟩ = some (.int .i64 H.y) := by go_simp
  have m2_2_2 : w2.cell? ⟨w1.heap.size, 2, none⟩ = some (.bool H.far) := by go_simp
  clear m1_0_0 m1_0_1 m1_0_2 m1_1_0 m1_1_1 m1_1_2
  go_wp2
  have q0 := (set3_other (w := w2) (b := w1.heap.size) (c := w.heap.size + 1) (k := 0) (x := .int .i64 V.x) (y := .int .i64 V.y) (z := .bool V.far) (by omega)).trans m2_1_0
  have q1 := (set3_other (w := w2) (b := w1.heap.size) (c := w.heap.size + 1) (k := 1) (x := .int .i64 V.x) (y := .int .i64 V.y) (z := .bool V.far) (by omega)).trans m2_1_1
  have q2 := (set3_other (w := w2) (b := w1.heap.size) (c := w.heap.size + 1) (k := 2) (x := .int .i64 V.x) (y := .int .i64 V.y) (z := .bool V.far) (by omega)).trans m2_1_2
  have k := set3_cell (x := .int .i64 V.x) (y := .int .i64 V.y) (z := .bool V.far) q0 q1 q2
  refine bodyPost_ret (v := spV V) (by simp [results, Tryd.results31, go_sem, k.1, k.2.1, k.2.2]) rfl ⟨rfl, set3_below (set3_below hB2 (by omega)) (by omega)⟩
set_option maxHeartbeats 2000000 in
theorem refTimes_odd (a H G V : Sp) (n m : Int) (w : World) (n0 : -9223372036854775808 ≤ n) (n1 : n ≤ 9223372036854775807) (m0 : 0 < m) (m1 : m < 4052) (hm : Hid (n % 4052 = m)) (hp : (m % 2 == 1) = true)
    (hr : Hid (∀ w : World, Calls Tryd.prog 31 #[spV a, .int .i64 (m / 2)] w fun e w' => e = .returned (spV H) ∧ Below w.heap.size w w')) (oH : Ok H) (oG : Ok G) (oa : Ok a) (hG : Hid (sSum H H = G)) (hV : Hid (sSum G a = V)) : Calls Tryd.prog 31 #[spV a, .int .i64 n] w fun e w' => e = .returned (spV V) ∧ Below w.heap.size w w' := by
  go_enter Tryd.func31, Tryd.ntmps31
  go_wp2_with fail
  refine (refMod_e n 4052 m _ n0 n1 (by omega) (by omega) hm).mono ?_; rintro e w' ⟨rfl, rfl⟩
  go_wp2_with fail
  refine (hr.out _).mono ?_; rintro e w1 ⟨rfl, hb⟩
  obtain ⟨hc1, hf1⟩ := bcell hb
  have z1 := hb.size
  try simp only [World.size_alloc, World.size_setCell, World.size_drew] at z1
  have s1_0 : w.heap.size < w1.heap.size := by omega
  have s1_1 : w.heap.size + 1 < w1.heap.size := by omega
  have hB1 : Below w.heap.size w w1 := below_seq (by repeat (first | exact Below.refl _ _ | refine balloc ?_ _ | refine Below.drew ?_ | refine below_drewN ?_ _ | refine below_set ?_ (by first | omega | (dsimp only; omega)) _)) hb
  clear hb
  have m1_0_0 : w1.cell? ⟨w.heap.size, 0, none⟩ = some (.int .i64 a.x) := by go_simp
  have m1_0_1 : w1.cell? ⟨w.heap.size, 1, none⟩ = some (.int .i64 a.y) := by go_simp
  have m1_0_2 : w1.cell? ⟨w.heap.size, 2, none⟩ = some (.bool a.far) := by go_simp
  have m1_1_0 : w1.cell? ⟨w.heap.size + 1, 0, none⟩ = some (.int .i64 0) := by go_simp
  have m1_1_1 : w1.cell? ⟨w.heap.size + 1, 1, none⟩ = some (.int .i64 0) := by go_simp
  have m1_1_2 : w1.cell? ⟨w.heap.size + 1, 2, none⟩ = some (.bool false) := by go_simp
  go_wp2_with fail
  refine (refAdd_e H H G _ oH oH hG).mono ?_; rintro e w2 ⟨rfl, hb⟩
  obtain ⟨hc2, hf2⟩ := bcell hb
  have z2 := hb.size
  try simp only [World.size_alloc, World.size_setCell, World.size_drew] at z2
  have s2_0 : w.heap.size < w2.heap.size := by omega
  have s2_1 : w.heap.size + 1 < w2.heap.size := by omega
  have s2_2 : w1.heap.size < w2.heap.size := by omega
  have hB2 : Below w.heap.size w w2 := below_seq (by repeat (first | exact hB1 | exact Below.refl _ _ | refine balloc ?_ _ | refine Below.drew ?_ | refine below_drewN ?_ _ | refine below_set ?_ (by first | omega | (dsimp only; omega)) _)) hb
  clear hb
  have m2_0_0 : w2.cell? ⟨w.heap.size, 0, none⟩ = some (.int .i64 a.x) := by go_simp
  have m2_0_1 : w2.cell? ⟨w.heap.size, 1, none⟩ = some (.int .i64 a.y) := by go_simp
  have m2_0_2 : w2.cell? ⟨w.heap.size, 2, none⟩ = some (.bool a.far) := by go_simp
  have m2_1_0 : w2.cell? ⟨w.heap.size + 1, 0, none⟩ = some (.int .i64 0) := by go_simp
  have m2_1_1 : w2.cell? ⟨w.heap.size + 1, 1, none⟩ = some (.int .i64 0) := by go_simp
  have m2_1_2 : w2.cell? ⟨w.heap.size + 1, 2, none⟩ = some (.bool false) := by go_simp
  have m2_2_0 : w2.cell? ⟨w1.heap.size, 0, none⟩ = some (.int .i64 H.x) := by go_simp
  have m2_2_1 : w2.cell? ⟨w1.heap.size, 1, none⟩ = some (.int .i64 H.y) := by go_simp
  have m2_2_2 : w2.cell? ⟨w1.heap.size, 2, none⟩ = some (.bool H.far) := by go_simp
  clear m1_0_0 m1_0_1 m1_0_2 m1_1_0 m1_1_1 m1_1_2
  have kG := set3_cell (w := w2) (x := .int .i64 G.x) (y := .int .i64 G.y) (z := .bool G.far) m2_2_0 m2_2_1 m2_2_2
  go_wp2_with fail
  refine (refAdd_e G a V _ oG oa hV).mono ?_; rintro e w3 ⟨rfl, hb⟩
  obtain ⟨hc3, hf3⟩ := bcell hb
  have z3 := hb.size
  try simp only [World.size_alloc, World.size_setCell, World.size_drew] at z3
  have s3_0 : w.heap.size < w3.heap.size := by omega
  have s3_1 : w.heap.size + 1 < w3.heap.size := by omega
  have s3_2 : w1.heap.size < w3.heap.size := by omega
  have hB3 : Below w.heap.size w w3 := below_seq (by repeat (first | exact hB2 | exact Below.refl _ _ | refine balloc ?_ _ | refine Below.drew ?_ | refine below_drewN ?_ _ | refine below_set ?_ (by first | omega | (dsimp only; omega)) _)) hb
  clear hb
  have m3_0_0 : w3.cell? ⟨w.heap.size, 0, none⟩ = some (.int .i64 a.x) := by go_simp
  have m3_0_1 : w3.cell? ⟨w.heap.size, 1, none⟩ = some (.int .i64 a.y) := by go_simp
  have m3_0_2 : w3.cell? ⟨w.heap.size, 2, none⟩ = some (.bool a.far) := by go_simp
  have m3_1_0 : w3.cell? ⟨w.heap.size + 1, 0, none⟩ = some (.int .i64 0) := by go_simp
  have m3_1_1 : w3.cell? ⟨w.heap.size + 1, 1, none⟩ = some (.int .i64 0) := by go_simp
  have m3_1_2 : w3.cell? ⟨w.heap.size + 1, 2, none⟩ = some (.bool false) := by go_simp
  clear m2_0_0 m2_0_1 m2_0_2 m2_1_0 m2_1_1 m2_1_2 m2_2_0 m2_2_1 m2_2_2
  have g0 := (hc3 w1.heap.size 0 (by simp only [set3_size]; omega)).trans kG.1
  have g1 := (hc3 w1.heap.size 1 (by simp only [set3_size]; omega)).trans kG.2.1
  have g2 := (hc3 w1.heap.size 2 (by simp only [set3_size]; omega)).trans kG.2.2
  go_wp2
  have q0 := (set3_other (w := w3) (b := w1.heap.size) (c := w.heap.size + 1) (k := 0) (x := .int .i64 V.x) (y := .int .i64 V.y) (z := .bool V.far) (by omega)).trans m3_1_0
  have q1 := (set3_other (w := w3) (b := w1.heap.size) (c := w.heap.size + 1) (k := 1) (x := .int .i64 V.x) (y := .int .i64 V.y) (z := .bool V.far) (by omega)).trans m3_1_1
  have q2 := (set3_other (w := w3) (b := w1.heap.size) (c := w.heap.size + 1) (k := 2) (x := .int .i64 V.x) (y := .int .i64 V.y) (z := .bool V.far) (by omega)).trans m3_1_2
  have k := set3_cell (x := .int .i64 V.x) (y := .int .i64 V.y) (z := .bool V.far) q0 q1 q2
  refine bodyPost_ret (v := spV V) (by simp [results, Tryd.results31, go_sem, k.1, k.2.1, k.2.2]) rfl ⟨rfl, set3_below (set3_below hB3 (by omega)) (by omega)⟩
theorem refTimes_n (a : Sp) (u : Int) (hu : a = sq u) : ∀ (N : Nat) (n : Int) (w : World), (n % 4052).toNat ≤ N → -9223372036854775808 ≤ n → n ≤ 9223372036854775807 → Calls Tryd.prog 31 #[spV a, .int .i64 n] w fun e w' => e = .returned (spV (sq (u * n))) ∧ Below w.heap.size w w' := by
  have zero : ∀ (n : Int) (w : World), n % 4052 = 0 → -9223372036854775808 ≤ n → n ≤ 9223372036854775807 → Calls Tryd.prog 31 #[spV a, .int .i64 n] w fun e w' => e = .returned (spV (sq (u * n))) ∧ Below w.heap.size w w' := by
    intro n w h0 n0 n1
    have e : sq (u * n) = ⟨0, 0, true⟩ := by rw [sq_left u 0 n (by rw [h0]; rfl), Int.mul_zero]; exact sq_zero
    rw [e]; exact refTimes_0 a n w n0 n1 h0
  intro N
  induction N with
  | zero => intro n w hN n0 n1; exact zero n w (by omega) n0 n1
  | succ N ih =>
    intro n w hN n0 n1
    by_cases h0 : n % 4052 = 0
    · exact zero n w h0 n0 n1
    · have r : ∀ w : World, Calls Tryd.prog 31 #[spV a, .int .i64 (n % 4052 / 2)] w fun e w' => e = .returned (spV (sq (u * (n % 4052 / 2)))) ∧ Below w.heap.size w w' := fun w => ih (n % 4052 / 2) w (by omega) (by omega) (by omega)
      have e0 : sq (u * n) = sq (0 + u * (n % 4052)) := sq_left u (n % 4052) n (by omega)
      have oa : Ok a := ok_of hu
      cases hp : (n % 4052 % 2 == 1)
      · have hp' : n % 4052 % 2 = 0 := by have : ¬ n % 4052 % 2 = 1 := by simpa using hp
                                          omega
        have e : sSum (sq (u * (n % 4052 / 2))) (sq (u * (n % 4052 / 2))) = sq (u * n) := by
          rw [sq_add, e0, ← Int.mul_add, Int.zero_add]; congr 2; omega
        exact refTimes_even a _ _ n (n % 4052) w n0 n1 (by omega) (by omega) rfl hp r (sq_ok _) e
      · have hp' : n % 4052 % 2 = 1 := by simpa using hp
        have e : sSum (sq (u * (n % 4052 / 2) + u * (n % 4052 / 2))) a = sq (u * n) := by
          rw [hu, sq_add, e0, ← Int.mul_add, Int.zero_add]
          conv => lhs; arg 1; rhs; rw [← Int.mul_one u]
          rw [← Int.mul_add]; congr 2; omega
        exact refTimes_odd a _ _ _ n (n % 4052) w n0 n1 (by omega) (by omega) rfl hp r (sq_ok _) (sq_ok _) oa (sq_add _ _) e
theorem refTimes_e (a c : Sp) (u n : Int) (w : World) (n0 : -9223372036854775808 ≤ n) (n1 : n ≤ 9223372036854775807) (ha : Hid (a = sq u)) (h : Hid (sq (u * n) = c)) : Calls Tryd.prog 31 #[spV a, .int .i64 n] w fun e w' => e = .returned (spV c) ∧ Below w.heap.size w w' := by
  have := refTimes_n a u ha.out _ n w (Nat.le_refl _) n0 n1; rw [h.out] at this; exact this
theorem refFour_c (s : Sp) (w : World) (h : Ok s) : Calls Tryd.prog 31 #[spV s, .int .i64 4] w fun e w' => e = .returned (spV (sFour s)) ∧ Below w.heap.size w w' := by
  obtain ⟨u, -, -, e⟩ := sq_all h
  exact refTimes_e s _ u 4 w (by omega) (by omega) e (by show _ = _; rw [e, four_sq])
set_option maxHeartbeats 1000000 in
theorem refBase_c (w : World) : Calls Tryd.prog 71 #[] w fun e w' => e = .returned (spV (sq 4)) ∧ Below w.heap.size w w' := by
  go_enter Tryd.func71, Tryd.ntmps71
  go_wp2
  go_loopw [1] (fun i wr => ∃ k : Int, 0 ≤ k ∧ k ≤ 3 ∧ i = .int .i64 k ∧ SpAt wr w.heap.size ⟨0, 0, false⟩ ∧ Below w.heap.size w wr) (fun i _ => (4 - intOf i).toNat)
  case atStart => exact ⟨0, by omega, by omega, rfl, SpAt.fresh _ _ _ _ _, below_alloc _ _⟩
  case round =>
    obtain ⟨k, h0, h3, rfl, hr, hB⟩ := hrel
    have hk : k = 0 ∨ k = 1 ∨ k = 2 ∨ k = 3 := by omega
    clear h0 h3
    rcases hk with rfl | rfl | rfl | rfl
    · go_wp2_with fail
      refine (refLift_y 0 ⟨0, 0, false⟩ _ (by decide) isq0 (by show _ = _; rw [lift0, sq_2026])).mono ?_; rintro e w1 ⟨rfl, hb⟩
      have hr1 := hr.below hb
      have hB1 := below_seq hB hb
      clear hr hb hB
      go_wp2_with fail
      refine (refTimes_e ⟨0, 0, false⟩ ⟨0, 0, true⟩ 2026 4 _ (by omega) (by omega) sq_2026.symm four00).mono ?_; rintro e w2 ⟨rfl, hb⟩
      have hr2 := (hr1.alloc _).below hb
      have hB2 := below_seq (balloc hB1 _) hb
      clear hr1 hb hB1
      go_wp2
      go_roundw
      case rel => exact ⟨1, by omega, by omega, rfl, hr2.alloc _, balloc hB2 _⟩
      case measure => simp [intOf]
    · go_wp2_with fail
      refine (refLift_n 1 _ (by decide) isq1).mono ?_; rintro e w1 ⟨rfl, hb⟩
      have hr1 := hr.below hb
      have hB1 := below_seq hB hb
      clear hr hb hB
      go_wp2
      go_roundw
      case rel => exact ⟨2, by omega, by omega, rfl, hr1.alloc _, balloc hB1 _⟩
      case measure => simp [intOf]
    · go_wp2_with fail
      refine (refLift_n 2 _ (by decide) isq2).mono ?_; rintro e w1 ⟨rfl, hb⟩
      have hr1 := hr.below hb
      have hB1 := below_seq hB hb
      clear hr hb hB
      go_wp2
      go_roundw
      case rel => exact ⟨3, by omega, by omega, rfl, hr1.alloc _, balloc hB1 _⟩
      case measure => simp [intOf]
    · go_wp2_with fail
      refine (refLift_y 3 ⟨3, 156, false⟩ _ (by decide) isq3 (by show _ = _; rw [lift3, sq_1])).mono ?_; rintro e w1 ⟨rfl, hb⟩
      have hr1 := hr.below hb
      have hB1 := below_seq hB hb
      clear hr hb hB
      go_wp2_with fail
      refine (refTimes_e ⟨3, 156, false⟩ (sq 4) 1 4 _ (by omega) (by omega) sq_1.symm (by show _ = _; rw [Int.one_mul])).mono ?_; rintro e w2 ⟨rfl, hb⟩
      have f4 := four1
      have hr2 := (hr1.alloc _).below hb
      have hB2 := below_seq (balloc hB1 _) hb
      clear hr1 hb hB1
      obtain ⟨r0, r1, r2, fr0, fr1, fr2, hrl⟩ := hr2
      go_wp2
      have k := set3_cell (w := w2) (x := .int .i64 (sq 4).x) (y := .int .i64 (sq 4).y) (z := .bool false) r0 r1 r2
      refine bodyPost_ret (v := spV (sq 4)) (by simp [results, Tryd.results71, go_sem, k.1, k.2.1, k.2.2, four1, hrl]) rfl ⟨rfl, balloc (set3_below hB2 (by omega)) _⟩
end Go.Proofs.YtfnifdmnbccblaaDoor
namespace Go.Proofs.YtfnifdmnbccblaaDoor
open Go.RowKit
set_option maxRecDepth 100000
set_option linter.unusedVariables false
set_option linter.unusedSimpArgs false
set_option maxHeartbeats 1000000 in
theorem refLong_c (s : ByteArray) (w : World) (hs : s.size ≤ 9223372036854775807) : Calls Tryd.prog 122 #[.string s] w fun e w' => e = .returned (.int .i64 (lng s.data.toList)) ∧ Below w.heap.size w w' := by
  have hlen : s.data.toList.length = s.size := rfl
  have HL := Lib.hid hlen; clear hlen
  go_enter Tryd.func122, Tryd.ntmps122
  go_wp2
  go_loop [3, 4] (fun n i => ∃ k : Nat, k ≤ s.size ∧ i = .int .i64 k ∧ n = .int .i64 (lng (s.data.toList.take k))) (fun _ i => s.size - (intOf i).toNat)
  case atStart => exact ⟨0, Nat.zero_le _, rfl, by rw [List.take_zero, lng_nil]⟩
  case round =>
    obtain ⟨k, hk, rfl, rfl⟩ := hrel
    have h1 := (lng_bd (s.data.toList.take k)).1
    have h2 := (lng_bd (s.data.toList.take k)).2
    by_cases hlt : k < s.size
    · have ht : Hid (lng (s.data.toList.take (k + 1)) = (lng (s.data.toList.take k) * 263 + ((s[k]'hlt).toNat : Int) + 1) % 1000003) := lng_take s.data.toList k (by have := HL.out; omega)
      have h3 : (s[k]'hlt).toNat < 256 := UInt8.toNat_lt _
      go_wp2
      go_round
      case rel => exact ⟨k + 1, by omega, by go_num, by rw [ht.out]⟩
      case measure => simp [intOf]; omega
    · go_wp2
      go_ret
      exact ⟨ret_int (by rw [List.take_of_length_le (by have := HL.out; omega)]), (by repeat (first | exact Below.refl _ _ | refine balloc ?_ _ | refine Below.drew ?_ | refine below_drewN ?_ _ | refine below_set ?_ (by first | omega | (dsimp only; omega)) _))⟩
theorem refNumber_c (s : ByteArray) (w : World) (hs : s.size ≤ 9223372036854775807) : Calls Tryd.prog 92 #[.string s] w fun e w' => e = .returned (.int .i64 (hnum s.data.toList)) ∧ Below w.heap.size w w' := by
  have h1 := (lng_bd s.data.toList).1
  have h2 := (lng_bd s.data.toList).2
  go_enter Tryd.func92, Tryd.ntmps92
  go_wp2_with fail
  refine (refLong_c s _ hs).mono ?_; rintro e w1 ⟨rfl, hb⟩
  obtain ⟨hc1, hf1⟩ := bcell hb
  have z1 := hb.size
  try simp only [World.size_alloc, World.size_setCell, World.size_drew] at z1
  have hB1 : Below w.heap.size w w1 := below_seq (by repeat (first | exact Below.refl _ _ | refine balloc ?_ _ | refine Below.drew ?_ | refine below_drewN ?_ _ | refine below_set ?_ (by first | omega | (dsimp only; omega)) _)) hb
  clear hb
  go_wp2
  go_ret
  exact ⟨rfl, (by repeat (first | exact hB1 | exact Below.refl _ _ | refine balloc ?_ _ | refine Below.drew ?_ | refine below_drewN ?_ _ | refine below_set ?_ (by first | omega | (dsimp only; omega)) _))⟩
set_option maxHeartbeats 1000000 in
theorem refOf_c (s : ByteArray) (w : World) (hF : FarAt w) (hs : s.size ≤ 140737488351232) : Calls Tryd.prog 70 #[.string s] w fun e w' => e = .returned (spV (hSpot s.data.toList)) ∧ Below w.heap.size w w' := by
  have hF' := Lib.hid hF
  clear hF
  go_enter Tryd.func70, Tryd.ntmps70
  go_wp2
  go_loopw [3] (fun i wr => ∃ k : Nat, k ≤ 256 ∧ i = .int .i64 k ∧ hGo s.data.toList (256 - k) k = hSpot s.data.toList ∧ SpAt wr w.heap.size ⟨0, 0, false⟩ ∧ Below w.heap.size w wr) (fun i _ => 256 - (intOf i).toNat)
  case atStart => exact ⟨0, by omega, rfl, rfl, SpAt.fresh _ _ _ _ _, below_alloc _ _⟩
  case round =>
    obtain ⟨k, hk, rfl, hgo, hr, hB⟩ := hrel
    have hgo := Lib.hid hgo
    by_cases hlt : k < 256
    · have hcv := conv1 (wr.alloc (.cells #[.int .u8 k] 5)) wr.heap.size k (by go_simp)
      have hsz := strOf1 (k : Int)
      have htb := Lib.hid (text_byte s k)
      have hl0 := (lng_bd (s.data.toList ++ [UInt8.ofNat k])).1
      have hl1 := (lng_bd (s.data.toList ++ [UInt8.ofNat k])).2
      go_wp2_with fail
      refine (refLong_c _ _ (by rw [ByteArray.size_append]; omega)).mono ?_; rintro e w1 ⟨rfl, hb⟩
      rw [htb.out]
      have hr1 := (hr.alloc _).below hb
      have hB1 := below_seq (balloc hB _) hb
      clear hr hb hB hcv
      go_wp2_with fail
      change Calls _ _ #[.int .i64 (hX s.data.toList k)] _ _
      cases hq : isSq (height (hX s.data.toList k))
      · refine (refLift_n _ _ (hX_in _ _) hq).mono ?_; rintro e w2 ⟨rfl, hb⟩
        have hr2 := hr1.below hb
        have hB2 := below_seq hB1 hb
        have hm := Lib.hid (hGo_miss hlt (Or.inl hq))
        clear hr1 hb hB1 hl0 hl1 hq
        go_wp2
        go_roundw
        case rel => exact ⟨k + 1, by omega, by go_num, by rw [← hm.out]; exact hgo.out, hr2.alloc _, balloc hB2 _⟩
        case measure => simp [intOf]; omega
      · refine (refLift_y _ (lifted (hX s.data.toList k)) _ (hX_in _ _) hq rfl).mono ?_; rintro e w2 ⟨rfl, hb⟩
        have hr2 := hr1.below hb
        have hB2 := below_seq hB1 hb
        have hok := lifted_ok (hX_in s.data.toList k) hq
        have hQ := Lib.hid hq
        clear hr1 hb hB1 hl0 hl1 hq
        generalize hL : lifted (hX s.data.toList k) = L at *
        have hL := Lib.hid hL
        go_wp2_with fail
        refine (refFour_c L _ hok).mono ?_; rintro e w3 ⟨rfl, hb⟩
        have hr3 := (hr2.alloc _).below hb
        have hB3 := below_seq (balloc hB2 _) hb
        clear hr2 hb hB2 hok
        cases hf : (sFour L).far
        · have hm : Hid (sFour L = hSpot s.data.toList) := by
            show _ = _
            rw [← hgo.out, hGo_hit hlt hQ.out (by rw [hL.out]; exact hf), hL.out]
          obtain ⟨r0, r1, r2, fr0, fr1, fr2, hrl⟩ := hr3
          generalize hS : sFour L = S at *
          have hS := Lib.hid hS
          go_wp2
          have k := set3_cell (w := w3) (x := .int .i64 S.x) (y := .int .i64 S.y) (z := .bool false) r0 r1 r2
          refine bodyPost_ret (v := spV S) (by simp [results, Tryd.results70, go_sem, k.1, k.2.1, k.2.2, hf, hrl]) rfl ⟨by rw [hm.out], balloc (set3_below hB3 (by omega)) _⟩
        · have hm := Lib.hid (hGo_miss hlt (Or.inr (by rw [hL.out]; exact hf)))
          go_wp2
          go_roundw
          case rel => exact ⟨k + 1, by omega, by go_num, by rw [← hm.out]; exact hgo.out, hr3.alloc _, balloc hB3 _⟩
          case measure => simp [intOf]; omega
    · obtain rfl : k = 256 := by omega
      have hm : Hid (sq 4 = hSpot s.data.toList) := by show _ = _; rw [← hgo.out, hGo_end]
      go_wp2_with fail
      refine (refBase_c _).mono ?_; rintro e w1 ⟨rfl, hb⟩
      have hr1 := hr.below hb
      have hB1 := below_seq hB hb
      clear hr hb hB
      obtain ⟨r0, r1, r2, fr0, fr1, fr2, hrl⟩ := hr1
      go_wp2
      have k := set3_cell (w := w1) (x := .int .i64 (sq 4).x) (y := .int .i64 (sq 4).y) (z := .bool (sq 4).far) r0 r1 r2
      refine bodyPost_ret (v := spV (sq 4)) (by simp [results, Tryd.results70, go_sem, k.1, k.2.1, k.2.2]) rfl ⟨by rw [hm.out], set3_below hB1 (by omega)⟩
end Go.Proofs.YtfnifdmnbccblaaDoor
namespace Go.Proofs.YtfnifdmnbccblaaDoor
open Go.RowKit
set_option maxRecDepth 100000
set_option linter.unusedVariables false
set_option linter.unusedSimpArgs false
theorem ord_dvd {u n : Int} (d : Int) (h1 : 1 ≤ n) (hn : (sq (u * n)).far = true) (hm : ∀ j : Int, 1 ≤ j → j < n → (sq (u * j)).far = false) : (sq (u * d)).far = true ↔ d % n = 0 := by
  have a := sq_far.mp hn
  constructor
  · intro h
    have b := sq_far.mp h
    by_cases e : d % n = 0
    · exact e
    · exfalso
      have r0 : 0 ≤ d % n := Int.emod_nonneg _ (by omega)
      have r1 : d % n < n := Int.emod_lt_of_pos _ (by omega)
      have k := hm (d % n) (by omega) r1
      have e3 : (u * (d % n)) % 4052 = 0 := by
        have e2 : u * (d % n) = u * d - u * n * (d / n) := by rw [Int.emod_def, Int.mul_sub, Int.mul_assoc]
        obtain ⟨x, hx⟩ := Int.dvd_of_emod_eq_zero a
        obtain ⟨y, hy⟩ := Int.dvd_of_emod_eq_zero b
        rw [e2, hx, hy, Int.mul_assoc, ← Int.mul_sub]; exact Int.mul_emod_right _ _
      rw [sq_far.mpr e3] at k; exact Bool.noConfusion k
  · intro h
    apply sq_far.mpr
    obtain ⟨x, hx⟩ := Int.dvd_of_emod_eq_zero a
    obtain ⟨y, hy⟩ := Int.dvd_of_emod_eq_zero h
    rw [hy, ← Int.mul_assoc, hx, Int.mul_assoc]; exact Int.mul_emod_right _ _
def dNat (m : Nat) : Bool := 4052 % m != 0 || m == 1 || m == 2 || m == 4 || m == 1013 || m == 2026 || m == 4052
theorem d_0 : allB dNat 0 2000 = true := by decide +kernel
theorem d_1 : allB dNat 2000 2053 = true := by decide +kernel
theorem div_52 {n : Int} (h1 : 1 ≤ n) (h : 4052 % n = 0) : n = 1 ∨ n = 2 ∨ n = 4 ∨ n = 1013 ∨ n = 2026 ∨ n = 4052 := by
  have hd : n ≤ 4052 := Int.le_of_dvd (by decide) (Int.dvd_of_emod_eq_zero h)
  have key : dNat n.toNat = true := by
    by_cases c : n < 2000
    · exact allB_at dNat 0 2000 d_0 n.toNat (by omega) (by omega)
    · exact allB_at dNat 2000 2053 d_1 n.toNat (by omega) (by omega)
  have hz : (4052 % n.toNat : Nat) = 0 := by
    have : ((4052 % n.toNat : Nat) : Int) = 0 := by rw [Int.natCast_emod, Int.toNat_of_nonneg (by omega)]; exact h
    omega
  unfold dNat at key
  rw [hz] at key
  simp at key
  omega
theorem ord_is {u n : Int} (h1 : 1 ≤ n) (hn : (sq (u * n)).far = true) (hm : ∀ j : Int, 1 ≤ j → j < n → (sq (u * j)).far = false) : n = ordOf u := by
  have dv := fun d => ord_dvd (u := u) d h1 hn hm
  have full : (sq (u * 4052)).far = true := sq_far.mpr (Int.mul_emod_left _ _)
  have six := div_52 h1 ((dv 4052).mp full)
  unfold ordOf
  simp only [dv]
  rcases six with rfl | rfl | rfl | rfl | rfl | rfl <;> decide
set_option maxHeartbeats 1000000 in
theorem refIn_e (a : Sp) (u : Int) (b : Bool) (w : World) (ha : Hid (a = sq u)) (h : Hid ((sq (u * 1013)).far = b)) : Calls Tryd.prog 84 #[spV a] w fun e w' => e = .returned (.bool b) ∧ Below w.heap.size w w' := by
  subst h
  go_enter Tryd.func84, Tryd.ntmps84
  go_wp2_with fail
  refine (refTimes_e a _ u 1013 _ (by omega) (by omega) ha rfl).mono ?_; rintro e w1 ⟨rfl, hb⟩
  obtain ⟨hc1, hf1⟩ := bcell hb
  have z1 := hb.size
  try simp only [World.size_alloc, World.size_setCell, World.size_drew] at z1
  have s1_0 : w.heap.size < w1.heap.size := by omega
  have hB1 : Below w.heap.size w w1 := below_seq (by repeat (first | exact Below.refl _ _ | refine balloc ?_ _ | refine Below.drew ?_ | refine below_drewN ?_ _ | refine below_set ?_ (by first | omega | (dsimp only; omega)) _)) hb
  clear hb
  go_wp2
  go_ret
  exact ⟨rfl, (by repeat (first | exact hB1 | exact Below.refl _ _ | refine balloc ?_ _ | refine Below.drew ?_ | refine below_drewN ?_ _ | refine below_set ?_ (by first | omega | (dsimp only; omega)) _))⟩
theorem refBase_k (w : World) : Calls Tryd.prog 71 #[] w fun e w' => e = .returned (spV ⟨1189, 3667, false⟩) ∧ Below w.heap.size w w' := by
  have := refBase_c w; rw [sq_4] at this; exact this
end Go.Proofs.YtfnifdmnbccblaaDoor
namespace Go.Proofs.YtfnifdmnbccblaaDoor
open Go.RowKit
set_option maxRecDepth 100000
set_option linter.unusedVariables false
set_option linter.unusedSimpArgs false
@[go_sem] theorem field_far4 (x y : Value) (f : Bool) (w : World) : Sem.run Tryd.prog (Instr.field 25 (.agg #[x, y, .bool f]) 2) w = .ok (.bool f) w := by kernel_rfl
set_option maxHeartbeats 1000000 in
theorem sealCheck_ok (key R : Sp) (S : Int) (t : ByteArray) (w : World) (hF : FarAt w) (hk : Ok key) (hR : Ok R) (hz : t.size ≤ 60) (s0 : 0 ≤ S) (s1 : S < 1013) :
    Calls Tryd.prog 95 #[spV key, .string t, slV R S] w fun e w' => e = .returned .nilIface ∧ Below w.heap.size w w' := by
  go_enter Tryd.func95, Tryd.ntmps95
  go_wp2_with fail
  refine (text_y t _ hz).mono ?_; rintro e w' ⟨rfl, rfl⟩
  go_wp2_with fail
  refine (all_ok [key, R] _ 0 2 _ (hF.below (by repeat (first | exact Below.refl _ _ | refine balloc ?_ _ | refine Below.drew ?_ | refine below_drewN ?_ _ | refine below_set ?_ (by first | omega | (dsimp only; omega)) _))) (by simp) (spots_two key R _ _ (by simp) (by go_simp) (by go_simp) (by go_simp) (by go_simp) (by go_simp) (by go_simp)) (ok_two hk hR)).mono ?_; rintro e w1 ⟨rfl, hb⟩
  obtain ⟨hc1, hf1⟩ := bcell hb
  have z1 := hb.size
  try simp only [World.size_alloc, World.size_setCell, World.size_drew] at z1
  have s1_0 : w.heap.size < w1.heap.size := by omega
  have s1_1 : w.heap.size + 1 < w1.heap.size := by omega
  have s1_2 : w.heap.size + 1 + 1 < w1.heap.size := by omega
  have hB1 : Below w.heap.size w w1 := below_seq (by repeat (first | exact Below.refl _ _ | refine balloc ?_ _ | refine Below.drew ?_ | refine below_drewN ?_ _ | refine below_set ?_ (by first | omega | (dsimp only; omega)) _)) hb
  clear hb
  go_wp2_with fail
  refine (rest_y S _ s0 s1).mono ?_; rintro e w' ⟨rfl, rfl⟩
  go_wp2
  go_ret
  exact ⟨rfl, (by repeat (first | exact hB1 | exact Below.refl _ _ | refine balloc ?_ _ | refine Below.drew ?_ | refine below_drewN ?_ _ | refine below_set ?_ (by first | omega | (dsimp only; omega)) _))⟩
set_option maxHeartbeats 2000000 in
theorem sealOff_ok (key R B C D E Z : Sp) (a c S : Int) (t : ByteArray) (w : World) (hF : FarAt w) (hk : Ok key) (hR : Ok R) (hz : t.size ≤ 60) (hc : Hid (askN R key t.data.toList = c)) (ha : Hid (key = sq a))
    (hB : Hid (sq (4 * S) = B)) (hC : Hid (sq (a * c) = C)) (hD : Hid (sSum R C = D)) (hE : Hid (sTurned D = E)) (hZ : Hid (sSum B E = Z)) (oB : Ok B) (oC : Ok C) (oD : Ok D) (oE : Ok E) :
    Calls Tryd.prog 96 #[spV key, .string t, slV R S] w fun e w' => e = .returned (spV Z) ∧ Below w.heap.size w w' := by
  go_enter Tryd.func96, Tryd.ntmps96
  go_wp2_with fail
  refine (ask_e R key t c _ hR hk hz hc).mono ?_; rintro e w1 ⟨rfl, hb⟩
  obtain ⟨hc1, hf1⟩ := bcell hb
  have z1 := hb.size
  try simp only [World.size_alloc, World.size_setCell, World.size_drew] at z1
  have s1_0 : w.heap.size < w1.heap.size := by omega
  have s1_1 : w.heap.size + 1 < w1.heap.size := by omega
  have s1_2 : w.heap.size + 1 + 1 < w1.heap.size := by omega
  have hB1 : Below w.heap.size w w1 := below_seq (by repeat (first | exact Below.refl _ _ | refine balloc ?_ _ | refine Below.drew ?_ | refine below_drewN ?_ _ | refine below_set ?_ (by first | omega | (dsimp only; omega)) _)) hb
  clear hb
  go_wp2_with fail
  refine wp_region_grow_tail 11 Tryd.mixed (by kernel_rfl) ?_
  simp only [List.take_succ_cons, List.take_zero, List.drop_succ_cons, List.drop_zero]
  repeat (quiet_step ((first | (go_at_call 76; exact grow_of (by_e S B _ (hF.below (below_seq (by repeat (first | exact hB1 | exact Below.refl _ _ | refine balloc ?_ _ | refine Below.drew ?_ | refine below_drewN ?_ _ | refine below_set ?_ (by first | omega | (dsimp only; omega)) _)) (Grew.h _))) hB)) | (go_at_call 78; exact grow_of (of_e key C a c _ (hF.below (below_seq (by repeat (first | exact hB1 | exact Below.refl _ _ | refine balloc ?_ _ | refine Below.drew ?_ | refine below_drewN ?_ _ | refine below_set ?_ (by first | omega | (dsimp only; omega)) _)) (Grew.h _))) ha hC)) | (go_at_call 119; exact grow_of (turned_e D E _ oD hE)) | (go_at_call_of 83 R.x; exact grow_of (sum_e R C D _ (hF.below (below_seq (by repeat (first | exact hB1 | exact Below.refl _ _ | refine balloc ?_ _ | refine Below.drew ?_ | refine below_drewN ?_ _ | refine below_set ?_ (by first | omega | (dsimp only; omega)) _)) (Grew.h _))) hR oC hD)) | (go_at_call 83; exact grow_of (sum_e B E Z _ (hF.below (below_seq (by repeat (first | exact hB1 | exact Below.refl _ _ | refine balloc ?_ _ | refine Below.drew ?_ | refine below_drewN ?_ _ | refine below_set ?_ (by first | omega | (dsimp only; omega)) _)) (Grew.h _))) oB oE hZ)))))
  refine wpQuiet_nil ?_
  intro _ hw'
  obtain ⟨x2, rfl⟩ := hw'
  have z2 := x2.h.size
  try simp only [World.size_alloc, World.size_setCell, World.size_drew] at z2
  have s2_0 : w.heap.size < x2.w.heap.size := by omega
  have s2_1 : w.heap.size + 1 < x2.w.heap.size := by omega
  have s2_2 : w.heap.size + 1 + 1 < x2.w.heap.size := by omega
  have hB2 : Below w.heap.size w x2.w := below_seq (by repeat (first | exact hB1 | exact Below.refl _ _ | refine balloc ?_ _ | refine Below.drew ?_ | refine below_drewN ?_ _ | refine below_set ?_ (by first | omega | (dsimp only; omega)) _)) x2.h
  have r0 : x2.w.cell? ⟨w.heap.size + 1 + 1, 0, none⟩ = some (.int .i64 0) := by go_simp
  have r1 : x2.w.cell? ⟨w.heap.size + 1 + 1, 1, none⟩ = some (.int .i64 0) := by go_simp
  have r2 : x2.w.cell? ⟨w.heap.size + 1 + 1, 2, none⟩ = some (.bool false) := by go_simp
  go_wp2
  have k := set3_cell (w := x2.w) (x := .int .i64 (Z).x) (y := .int .i64 (Z).y) (z := .bool (Z).far) r0 r1 r2
  refine bodyPost_ret (v := spV (Z)) (by simp [results, Tryd.results96, go_sem, k.1, k.2.1, k.2.2]) rfl ⟨rfl, set3_below (by repeat (first | exact hB2 | exact Below.refl _ _ | refine balloc ?_ _ | refine Below.drew ?_ | refine below_drewN ?_ _ | refine below_set ?_ (by first | omega | (dsimp only; omega)) _)) (by omega)⟩
set_option maxHeartbeats 1000000 in
theorem sealVerify_ok (key R Z : Sp) (S : Int) (b : Bool) (t : ByteArray) (w : World) (hF : FarAt w) (hk : Ok key) (hR : Ok R) (hz : t.size ≤ 60) (s0 : 0 ≤ S) (s1 : S < 1013)
    (hO : Hid (∀ w1 : World, FarAt w1 → Calls Tryd.prog 96 #[spV key, .string t, slV R S] w1 fun e w' => e = .returned (spV Z) ∧ Below w1.heap.size w1 w')) (hb : Z.far = b) :
    Calls Tryd.prog 97 #[spV key, .string t, slV R S] w fun e w' => e = .returned (.tuple #[.bool b, .nilIface]) ∧ Below w.heap.size w w' := by
  subst hb
  go_enter Tryd.func97, Tryd.ntmps97
  go_wp2_with fail
  refine (sealCheck_ok key R S t _ (hF.below (by repeat (first | exact Below.refl _ _ | refine balloc ?_ _ | refine Below.drew ?_ | refine below_drewN ?_ _ | refine below_set ?_ (by first | omega | (dsimp only; omega)) _))) hk hR hz s0 s1).mono ?_; rintro e w1 ⟨rfl, hb⟩
  obtain ⟨hc1, hf1⟩ := bcell hb
  have z1 := hb.size
  try simp only [World.size_alloc, World.size_setCell, World.size_drew] at z1
  have s1_0 : w.heap.size < w1.heap.size := by omega
  have s1_1 : w.heap.size + 1 < w1.heap.size := by omega
  have hB1 : Below w.heap.size w w1 := below_seq (by repeat (first | exact Below.refl _ _ | refine balloc ?_ _ | refine Below.drew ?_ | refine below_drewN ?_ _ | refine below_set ?_ (by first | omega | (dsimp only; omega)) _)) hb
  clear hb
  go_wp2_with fail
  refine (hO.out _ (hF.below (by repeat (first | exact hB1 | exact Below.refl _ _ | refine balloc ?_ _ | refine Below.drew ?_ | refine below_drewN ?_ _ | refine below_set ?_ (by first | omega | (dsimp only; omega)) _)))).mono ?_; rintro e w2 ⟨rfl, hb⟩
  obtain ⟨hc2, hf2⟩ := bcell hb
  have z2 := hb.size
  try simp only [World.size_alloc, World.size_setCell, World.size_drew] at z2
  have s2_0 : w.heap.size < w2.heap.size := by omega
  have s2_1 : w.heap.size + 1 < w2.heap.size := by omega
  have hB2 : Below w.heap.size w w2 := below_seq (by repeat (first | exact hB1 | exact Below.refl _ _ | refine balloc ?_ _ | refine Below.drew ?_ | refine below_drewN ?_ _ | refine below_set ?_ (by first | omega | (dsimp only; omega)) _)) hb
  clear hb
  go_wp2
  go_ret2
  exact ⟨rfl, (by repeat (first | exact hB2 | exact Below.refl _ _ | refine balloc ?_ _ | refine Below.drew ?_ | refine below_drewN ?_ _ | refine below_set ?_ (by first | omega | (dsimp only; omega)) _))⟩
/-- What a seal comes to: of the key sq a and the spot sq r. -/
theorem verify_e (key R : Sp) (a r c S : Int) (b : Bool) (t : ByteArray) (w : World) (hF : FarAt w) (hz : t.size ≤ 60) (s0 : 0 ≤ S) (s1 : S < 1013) (ha : Hid (key = sq a)) (hr : Hid (R = sq r)) (hc : Hid (askN R key t.data.toList = c)) (hb : Hid ((sq (4 * S + -(r + a * c))).far = b)) :
    Calls Tryd.prog 97 #[spV key, .string t, slV R S] w fun e w' => e = .returned (.tuple #[.bool b, .nilIface]) ∧ Below w.heap.size w w' := by
  have oR : Ok R := ok_of hr.out
  have oK : Ok key := ok_of ha.out
  refine sealVerify_ok key R _ S b t w hF oK oR hz s0 s1 (fun w1 hF1 => sealOff_ok key R _ _ (sq (r + a * c)) _ (sq (4 * S + -(r + a * c))) a c S t w1 hF1 oK oR hz hc ha rfl rfl ?_ rfl ?_ (sq_ok _) (sq_ok _) (sq_ok _) (turned_ok (sq_ok _)).1) hb.out
  · show _ = _; rw [hr.out, sq_add]
  · show _ = _; rw [sq_neg, sq_add]
end Go.Proofs.YtfnifdmnbccblaaDoor
namespace Go.Proofs.YtfnifdmnbccblaaDoor
open Go.RowKit
set_option maxRecDepth 100000
set_option linter.unusedVariables false
set_option linter.unusedSimpArgs false
set_option maxHeartbeats 400000 in
theorem rSecret_y (n : Int) (w : World) (h1 : 1 ≤ n) (h2 : n < 1013) : Calls Tryd.prog 27 #[.int .i64 n] w fun e w' => e = .returned (.bool true) ∧ w = w' := by
  go_enter Tryd.func27, Tryd.ntmps27
  go_wp2
  go_ret
  exact ⟨rfl, rfl⟩
set_option maxHeartbeats 400000 in
theorem rSecret_n (n : Int) (w : World) (h : ¬ (1 ≤ n ∧ n < 1013)) : Calls Tryd.prog 27 #[.int .i64 n] w fun e w' => e = .returned (.bool false) ∧ w = w' := by
  by_cases h1 : 1 ≤ n
  · have h2 : ¬ n < 1013 := fun c => h ⟨h1, c⟩
    clear h
    go_enter Tryd.func27, Tryd.ntmps27
    go_wp2
    go_ret
    exact ⟨rfl, rfl⟩
  · clear h
    go_enter Tryd.func27, Tryd.ntmps27
    go_wp2
    go_ret
    exact ⟨rfl, rfl⟩
set_option maxHeartbeats 400000 in
theorem rRest_y (n : Int) (w : World) (h1 : 0 ≤ n) (h2 : n < 1013) : Calls Tryd.prog 40 #[.int .i64 n] w fun e w' => e = .returned (.bool true) ∧ w = w' := by
  go_enter Tryd.func40, Tryd.ntmps40
  go_wp2
  go_ret
  exact ⟨rfl, rfl⟩
set_option maxHeartbeats 400000 in
theorem rRest_n (n : Int) (w : World) (h : ¬ (0 ≤ n ∧ n < 1013)) : Calls Tryd.prog 40 #[.int .i64 n] w fun e w' => e = .returned (.bool false) ∧ w = w' := by
  by_cases h1 : 0 ≤ n
  · have h2 : ¬ n < 1013 := fun c => h ⟨h1, c⟩
    clear h
    go_enter Tryd.func40, Tryd.ntmps40
    go_wp2
    go_ret
    exact ⟨rfl, rfl⟩
  · clear h
    go_enter Tryd.func40, Tryd.ntmps40
    go_wp2
    go_ret
    exact ⟨rfl, rfl⟩
/-- Both, as Booleans. -/
def secB (n : Int) : Bool := decide (1 ≤ n ∧ n < 1013)
def resB (n : Int) : Bool := decide (0 ≤ n ∧ n < 1013)
theorem rSecret_b (n : Int) (b : Bool) (w : World) (h : Hid (secB n = b)) : Calls Tryd.prog 27 #[.int .i64 n] w fun e w' => e = .returned (.bool b) ∧ w = w' := by
  rw [← h.out]; unfold secB
  by_cases c : 1 ≤ n ∧ n < 1013
  · rw [decide_eq_true c]; exact rSecret_y n w c.1 c.2
  · rw [decide_eq_false c]; exact rSecret_n n w c
theorem rRest_b (n : Int) (b : Bool) (w : World) (h : Hid (resB n = b)) : Calls Tryd.prog 40 #[.int .i64 n] w fun e w' => e = .returned (.bool b) ∧ w = w' := by
  rw [← h.out]; unfold resB
  by_cases c : 0 ≤ n ∧ n < 1013
  · rw [decide_eq_true c]; exact rRest_y n w c.1 c.2
  · rw [decide_eq_false c]; exact rRest_n n w c
theorem refTimes_b (n : Int) (c : Sp) (w : World) (n0 : -9223372036854775808 ≤ n) (n1 : n ≤ 9223372036854775807) (h : Hid (sq (4 * n) = c)) : Calls Tryd.prog 31 #[spV ⟨1189, 3667, false⟩, .int .i64 n] w fun e w' => e = .returned (spV c) ∧ Below w.heap.size w w' :=
  refTimes_e ⟨1189, 3667, false⟩ c 4 n w n0 n1 sq_4.symm h
set_option maxHeartbeats 1000000 in
theorem refBy_e (n : Int) (c : Sp) (w : World) (n0 : -9223372036854775808 ≤ n) (n1 : n ≤ 9223372036854775807) (h : Hid (sq (4 * n) = c)) : Calls Tryd.prog 37 #[.int .i64 n] w fun e w' => e = .returned (spV c) ∧ Below w.heap.size w w' := by
  go_enter Tryd.func37, Tryd.ntmps37
  go_wp2_with fail
  refine (refBase_k _).mono ?_; rintro e w1 ⟨rfl, hb⟩
  obtain ⟨hc1, hf1⟩ := bcell hb
  have z1 := hb.size
  try simp only [World.size_alloc, World.size_setCell, World.size_drew] at z1
  have s1_0 : w.heap.size < w1.heap.size := by omega
  have hB1 : Below w.heap.size w w1 := below_seq (by repeat (first | exact Below.refl _ _ | refine balloc ?_ _ | refine Below.drew ?_ | refine below_drewN ?_ _ | refine below_set ?_ (by first | omega | (dsimp only; omega)) _)) hb
  clear hb
  go_wp2_with fail
  refine (refTimes_b n c _ n0 n1 h).mono ?_; rintro e w2 ⟨rfl, hb⟩
  obtain ⟨hc2, hf2⟩ := bcell hb
  have z2 := hb.size
  try simp only [World.size_alloc, World.size_setCell, World.size_drew] at z2
  have s2_0 : w.heap.size < w2.heap.size := by omega
  have hB2 : Below w.heap.size w w2 := below_seq (by repeat (first | exact hB1 | exact Below.refl _ _ | refine balloc ?_ _ | refine Below.drew ?_ | refine below_drewN ?_ _ | refine below_set ?_ (by first | omega | (dsimp only; omega)) _)) hb
  clear hb
  have r0 : w2.cell? ⟨w.heap.size, 0, none⟩ = some (.int .i64 0) := by go_simp
  have r1 : w2.cell? ⟨w.heap.size, 1, none⟩ = some (.int .i64 0) := by go_simp
  have r2 : w2.cell? ⟨w.heap.size, 2, none⟩ = some (.bool false) := by go_simp
  go_wp2
  have k := set3_cell (w := w2) (x := .int .i64 (c).x) (y := .int .i64 (c).y) (z := .bool (c).far) r0 r1 r2
  refine bodyPost_ret (v := spV (c)) (by simp [results, Tryd.results37, go_sem, k.1, k.2.1, k.2.2]) rfl ⟨rfl, set3_below (by repeat (first | exact hB2 | exact Below.refl _ _ | refine balloc ?_ _ | refine Below.drew ?_ | refine below_drewN ?_ _ | refine below_set ?_ (by first | omega | (dsimp only; omega)) _)) (by omega)⟩
set_option maxHeartbeats 2000000 in
theorem refSum_e (n m u : Int) (s A B C : Sp) (w : World) (n0 : -9223372036854775808 ≤ n) (n1 : n ≤ 9223372036854775807) (m0 : -9223372036854775808 ≤ m) (m1 : m ≤ 9223372036854775807) (hs : Hid (s = sq u)) (hA : Hid (sq (4 * n) = A)) (hB' : Hid (sq (u * m) = B)) (oA : Ok A) (oB : Ok B) (hC : Hid (sSum A B = C)) : Calls Tryd.prog 29 #[.int .i64 n, .int .i64 m, spV s] w fun e w' => e = .returned (spV C) ∧ Below w.heap.size w w' := by
  go_enter Tryd.func29, Tryd.ntmps29
  go_wp2_with fail
  refine (refBase_k _).mono ?_; rintro e w1 ⟨rfl, hb⟩
  obtain ⟨hc1, hf1⟩ := bcell hb
  have z1 := hb.size
  try simp only [World.size_alloc, World.size_setCell, World.size_drew] at z1
  have s1_0 : w.heap.size < w1.heap.size := by omega
  have s1_1 : w.heap.size + 1 < w1.heap.size := by omega
  have hB1 : Below w.heap.size w w1 := below_seq (by repeat (first | exact Below.refl _ _ | refine balloc ?_ _ | refine Below.drew ?_ | refine below_drewN ?_ _ | refine below_set ?_ (by first | omega | (dsimp only; omega)) _)) hb
  clear hb
  go_wp2_with fail
  refine (refTimes_b n A _ n0 n1 hA).mono ?_; rintro e w2 ⟨rfl, hb⟩
  obtain ⟨hc2, hf2⟩ := bcell hb
  have z2 := hb.size
  try simp only [World.size_alloc, World.size_setCell, World.size_drew] at z2
  have s2_0 : w.heap.size < w2.heap.size := by omega
  have s2_1 : w.heap.size + 1 < w2.heap.size := by omega
  have hB2 : Below w.heap.size w w2 := below_seq (by repeat (first | exact hB1 | exact Below.refl _ _ | refine balloc ?_ _ | refine Below.drew ?_ | refine below_drewN ?_ _ | refine below_set ?_ (by first | omega | (dsimp only; omega)) _)) hb
  clear hb
  go_wp2_with fail
  refine (refTimes_e s B u m _ m0 m1 hs hB').mono ?_; rintro e w3 ⟨rfl, hb⟩
  obtain ⟨hc3, hf3⟩ := bcell hb
  have z3 := hb.size
  try simp only [World.size_alloc, World.size_setCell, World.size_drew] at z3
  have s3_0 : w.heap.size < w3.heap.size := by omega
  have s3_1 : w.heap.size + 1 < w3.heap.size := by omega
  have s3_2 : w2.heap.size < w3.heap.size := by omega
  have hB3 : Below w.heap.size w w3 := below_seq (by repeat (first | exact hB2 | exact Below.refl _ _ | refine balloc ?_ _ | refine Below.drew ?_ | refine below_drewN ?_ _ | refine below_set ?_ (by first | omega | (dsimp only; omega)) _)) hb
  clear hb
  have m3_0_0 : w3.cell? ⟨w2.heap.size, 0, none⟩ = some (.int .i64 A.x) := by go_simp
  have m3_0_1 : w3.cell? ⟨w2.heap.size, 1, none⟩ = some (.int .i64 A.y) := by go_simp
  have m3_0_2 : w3.cell? ⟨w2.heap.size, 2, none⟩ = some (.bool A.far) := by go_simp
  go_wp2_with fail
  refine (refAdd_e A B C _ oA oB hC).mono ?_; rintro e w4 ⟨rfl, hb⟩
  obtain ⟨hc4, hf4⟩ := bcell hb
  have z4 := hb.size
  try simp only [World.size_alloc, World.size_setCell, World.size_drew] at z4
  have s4_0 : w.heap.size < w4.heap.size := by omega
  have s4_1 : w.heap.size + 1 < w4.heap.size := by omega
  have s4_2 : w2.heap.size < w4.heap.size := by omega
  have s4_3 : w3.heap.size < w4.heap.size := by omega
  have hB4 : Below w.heap.size w w4 := below_seq (by repeat (first | exact hB3 | exact Below.refl _ _ | refine balloc ?_ _ | refine Below.drew ?_ | refine below_drewN ?_ _ | refine below_set ?_ (by first | omega | (dsimp only; omega)) _)) hb
  clear hb
  have m4_0_0 : w4.cell? ⟨w2.heap.size, 0, none⟩ = some (.int .i64 A.x) := by go_simp
  have m4_0_1 : w4.cell? ⟨w2.heap.size, 1, none⟩ = some (.int .i64 A.y) := by go_simp
  have m4_0_2 : w4.cell? ⟨w2.heap.size, 2, none⟩ = some (.bool A.far) := by go_simp
  have m4_1_0 : w4.cell? ⟨w3.heap.size, 0, none⟩ = some (.int .i64 B.x) := by go_simp
  have m4_1_1 : w4.cell? ⟨w3.heap.size, 1, none⟩ = some (.int .i64 B.y) := by go_simp
  have m4_1_2 : w4.cell? ⟨w3.heap.size, 2, none⟩ = some (.bool B.far) := by go_simp
  clear m3_0_0 m3_0_1 m3_0_2
  have r0 : w4.cell? ⟨w.heap.size + 1, 0, none⟩ = some (.int .i64 0) := by go_simp
  have r1 : w4.cell? ⟨w.heap.size + 1, 1, none⟩ = some (.int .i64 0) := by go_simp
  have r2 : w4.cell? ⟨w.heap.size + 1, 2, none⟩ = some (.bool false) := by go_simp
  go_wp2
  have k := set3_cell (w := w4) (x := .int .i64 (C).x) (y := .int .i64 (C).y) (z := .bool (C).far) r0 r1 r2
  refine bodyPost_ret (v := spV (C)) (by simp [results, Tryd.results29, go_sem, k.1, k.2.1, k.2.2]) rfl ⟨rfl, set3_below (by repeat (first | exact hB4 | exact Below.refl _ _ | refine balloc ?_ _ | refine Below.drew ?_ | refine below_drewN ?_ _ | refine below_set ?_ (by first | omega | (dsimp only; omega)) _)) (by omega)⟩
set_option maxHeartbeats 1000000 in
theorem rAsk_e (r key : Sp) (t : ByteArray) (c : Int) (w : World) (hr : Ok r) (hk : Ok key) (hz : t.size ≤ 60) (h : Hid (askN r key t.data.toList = c)) : Calls Tryd.prog 28 #[spV r, spV key, .string t] w fun e w' => e = .returned (.int .i64 c) ∧ Below w.heap.size w w' := by
  rw [← h.out]
  have z1 := sBytes_size r
  have z2 := sBytes_size key
  have n1 : ¬ (9223372036854775807 < (sBytes r).size + (sBytes key).size) := by omega
  have n2 : ¬ (9223372036854775807 < (sBytes r).size + (sBytes key).size + t.size) := by omega
  have z4 : Hid ((sBytes r ++ sBytes key ++ t).size ≤ 9223372036854775807) := by show _ ≤ _; rw [ByteArray.size_append, ByteArray.size_append]; omega
  go_enter Tryd.func28, Tryd.ntmps28
  go_wp2_with fail
  refine wp_region_grow Tryd.mixed (by kernel_rfl) ?_
  repeat (quiet_step ((first | (go_at_call 93; exact grow_of (refBytes_c _ _ (by assumption))) | (go_at_call 92; exact grow_of (refNumber_c _ _ z4.out)))))
  refine wpQuiet_nil ?_
  intro _ hw'
  obtain ⟨x, rfl⟩ := hw'
  go_wp2
  go_ret
  exact ⟨rfl, below_seq (balloc (below_alloc _ _) _) x.h⟩
end Go.Proofs.YtfnifdmnbccblaaDoor
namespace Go.Proofs.YtfnifdmnbccblaaDoor
open Go.RowKit
set_option maxRecDepth 100000
set_option linter.unusedVariables false
set_option linter.unusedSimpArgs false
theorem rlist_sl (l : List Sp) (v : Value) (w : World) (hl : l.length ≤ 12) (hs : SpSl w v l) (hok : ∀ z ∈ l, Ok z) :
    Calls Tryd.prog 102 #[v] w fun e w' => e = .returned (.string (lsB l.length l)) ∧ Below w.heap.size w w' := by
  obtain ⟨a, cap, rfl, hs⟩ := hs
  cases l with
  | nil => exact refList_nil a cap w
  | cons s l =>
    obtain ⟨b, off, rfl, hs'⟩ := hs (Nat.succ_pos _)
    exact refList_ok (s :: l) b off cap w hl hs' (Lib.hid fun i h => hok _ (List.getElem_mem h))
theorem refNumber_n (s : ByteArray) (n : Int) (w : World) (hs : s.size ≤ 9223372036854775807) (h : Hid (hnum s.data.toList = n)) : Calls Tryd.prog 92 #[.string s] w fun e w' => e = .returned (.int .i64 n) ∧ Below w.heap.size w w' := by
  rw [← h.out]; exact refNumber_c s w hs
set_option maxHeartbeats 4000000 in
theorem ints_same (l : List Int) (v1 v2 : Value) (w : World) (hl : l.length ≤ 1000000) (h1 : IntSl w v1 l) (h2 : IntSl w v2 l) :
    Calls Tryd.prog 35 #[v1, v2] w fun e w' => e = .returned (.bool true) ∧ Below w.heap.size w w' := by
  obtain ⟨a1, c1, rfl, i1⟩ := h1
  obtain ⟨a2, c2, rfl, i2⟩ := h2
  replace i1 := Lib.hid i1
  replace i2 := Lib.hid i2
  have g1 : ((l.length : Int) != (l.length : Int)) = false := by simp
  go_enter Tryd.func35, Tryd.ntmps35
  go_wp2
  go_loopw [5] (fun i wr => ∃ n : Nat, n ≤ l.length ∧ i = .int .i64 n ∧ Below w.heap.size w wr) (fun i _ => l.length - (intOf i).toNat)
  case atStart => exact ⟨0, Nat.zero_le _, rfl, Below.refl _ _⟩
  case round =>
    obtain ⟨n, hn, rfl, hb⟩ := hrel
    replace hb := Lib.hid hb
    by_cases hlt : n < l.length
    · obtain ⟨b1, o1, rfl, l1⟩ := i1.out (by omega)
      obtain ⟨b2, o2, rfl, l2⟩ := i2.out (by omega)
      have k1 := (l1.below hb.out).c n hlt
      have k2 := (l2.below hb.out).c n hlt
      have k3 := (l1.below hb.out).lt
      have k4 := (l2.below hb.out).lt
      clear l1 l2
      generalize l[n] = x at *
      go_wp2_with fail
      go_quiet (fail)
      go_wp2
      go_roundw
      case rel => exact ⟨n + 1, by omega, by go_num, (by repeat (first | exact hb.out | refine below_drewN ?_ _ | refine Below.drew ?_))⟩
      case measure => simp [intOf]; omega
    · obtain rfl : n = l.length := by omega
      go_wp2
      go_ret
      exact ⟨rfl, hb.out⟩
end Go.Proofs.YtfnifdmnbccblaaDoor
namespace Go.Proofs.YtfnifdmnbccblaaDoor
open Go.RowKit
set_option maxRecDepth 100000
set_option linter.unusedVariables false
set_option linter.unusedSimpArgs false
/-- The fault of keys and a text, given that of the keys. -/
def ringF (m : Int) (n sz : Nat) : Int := if m = 0 then (if n = 0 then 5 else if 60 < sz then 4 else 0) else m
set_option maxHeartbeats 1000000 in
theorem rRing_m (a : Option Addr) (n cap : Nat) (t : ByteArray) (m : Int) (w : World) (hm : (m == 0) = false) (kS : Hid (∀ w1 : World, Below w.heap.size w w1 → Calls Tryd.prog 44 #[.slice a n cap] w1 fun e w' => e = .returned (.int .i64 m) ∧ Below w1.heap.size w1 w')) :
    Calls Tryd.prog 45 #[.slice a n cap, .string t] w fun e w' => e = .returned (.int .i64 m) ∧ Below w.heap.size w w' := by
  go_enter Tryd.func45, Tryd.ntmps45
  go_wp2_with fail
  refine (kS.out _ (by repeat (first | exact Below.refl _ _ | refine balloc ?_ _ | refine Below.drew ?_ | refine below_drewN ?_ _ | refine below_set ?_ (by first | omega | (dsimp only; omega)) _))).mono ?_; rintro e w1 ⟨rfl, hb⟩
  obtain ⟨hc1, hf1⟩ := bcell hb
  have z1 := hb.size
  try simp only [World.size_alloc, World.size_setCell, World.size_drew] at z1
  have hB1 : Below w.heap.size w w1 := below_seq (by repeat (first | exact Below.refl _ _ | refine balloc ?_ _ | refine Below.drew ?_ | refine below_drewN ?_ _ | refine below_set ?_ (by first | omega | (dsimp only; omega)) _)) hb
  clear hb
  go_wp2
  go_ret
  exact ⟨rfl, (by repeat (first | exact hB1 | exact Below.refl _ _ | refine balloc ?_ _ | refine Below.drew ?_ | refine below_drewN ?_ _ | refine below_set ?_ (by first | omega | (dsimp only; omega)) _))⟩
set_option maxHeartbeats 1000000 in
theorem rRing_5 (a : Option Addr) (cap : Nat) (t : ByteArray) (w : World) (kS : Hid (∀ w1 : World, Below w.heap.size w w1 → Calls Tryd.prog 44 #[.slice a 0 cap] w1 fun e w' => e = .returned (.int .i64 0) ∧ Below w1.heap.size w1 w')) :
    Calls Tryd.prog 45 #[.slice a 0 cap, .string t] w fun e w' => e = .returned (.int .i64 5) ∧ Below w.heap.size w w' := by
  go_enter Tryd.func45, Tryd.ntmps45
  go_wp2_with fail
  refine (kS.out _ (by repeat (first | exact Below.refl _ _ | refine balloc ?_ _ | refine Below.drew ?_ | refine below_drewN ?_ _ | refine below_set ?_ (by first | omega | (dsimp only; omega)) _))).mono ?_; rintro e w1 ⟨rfl, hb⟩
  obtain ⟨hc1, hf1⟩ := bcell hb
  have z1 := hb.size
  try simp only [World.size_alloc, World.size_setCell, World.size_drew] at z1
  have hB1 : Below w.heap.size w w1 := below_seq (by repeat (first | exact Below.refl _ _ | refine balloc ?_ _ | refine Below.drew ?_ | refine below_drewN ?_ _ | refine below_set ?_ (by first | omega | (dsimp only; omega)) _)) hb
  clear hb
  go_wp2
  go_ret
  exact ⟨rfl, (by repeat (first | exact hB1 | exact Below.refl _ _ | refine balloc ?_ _ | refine Below.drew ?_ | refine below_drewN ?_ _ | refine below_set ?_ (by first | omega | (dsimp only; omega)) _))⟩
set_option maxHeartbeats 1000000 in
theorem rRing_4 (a : Option Addr) (n cap : Nat) (t : ByteArray) (w : World) (hn : ((n : Int) == 0) = false) (h : 60 < t.size) (hz : t.size ≤ 140737488351232) (kS : Hid (∀ w1 : World, Below w.heap.size w w1 → Calls Tryd.prog 44 #[.slice a n cap] w1 fun e w' => e = .returned (.int .i64 0) ∧ Below w1.heap.size w1 w')) :
    Calls Tryd.prog 45 #[.slice a n cap, .string t] w fun e w' => e = .returned (.int .i64 4) ∧ Below w.heap.size w w' := by
  go_enter Tryd.func45, Tryd.ntmps45
  go_wp2_with fail
  refine (kS.out _ (by repeat (first | exact Below.refl _ _ | refine balloc ?_ _ | refine Below.drew ?_ | refine below_drewN ?_ _ | refine below_set ?_ (by first | omega | (dsimp only; omega)) _))).mono ?_; rintro e w1 ⟨rfl, hb⟩
  obtain ⟨hc1, hf1⟩ := bcell hb
  have z1 := hb.size
  try simp only [World.size_alloc, World.size_setCell, World.size_drew] at z1
  have hB1 : Below w.heap.size w w1 := below_seq (by repeat (first | exact Below.refl _ _ | refine balloc ?_ _ | refine Below.drew ?_ | refine below_drewN ?_ _ | refine below_set ?_ (by first | omega | (dsimp only; omega)) _)) hb
  clear hb
  go_wp2
  go_ret
  exact ⟨rfl, (by repeat (first | exact hB1 | exact Below.refl _ _ | refine balloc ?_ _ | refine Below.drew ?_ | refine below_drewN ?_ _ | refine below_set ?_ (by first | omega | (dsimp only; omega)) _))⟩
set_option maxHeartbeats 1000000 in
theorem rRing_0 (a : Option Addr) (n cap : Nat) (t : ByteArray) (w : World) (hn : ((n : Int) == 0) = false) (hz : t.size ≤ 60) (kS : Hid (∀ w1 : World, Below w.heap.size w w1 → Calls Tryd.prog 44 #[.slice a n cap] w1 fun e w' => e = .returned (.int .i64 0) ∧ Below w1.heap.size w1 w')) :
    Calls Tryd.prog 45 #[.slice a n cap, .string t] w fun e w' => e = .returned (.int .i64 0) ∧ Below w.heap.size w w' := by
  go_enter Tryd.func45, Tryd.ntmps45
  go_wp2_with fail
  refine (kS.out _ (by repeat (first | exact Below.refl _ _ | refine balloc ?_ _ | refine Below.drew ?_ | refine below_drewN ?_ _ | refine below_set ?_ (by first | omega | (dsimp only; omega)) _))).mono ?_; rintro e w1 ⟨rfl, hb⟩
  obtain ⟨hc1, hf1⟩ := bcell hb
  have z1 := hb.size
  try simp only [World.size_alloc, World.size_setCell, World.size_drew] at z1
  have hB1 : Below w.heap.size w w1 := below_seq (by repeat (first | exact Below.refl _ _ | refine balloc ?_ _ | refine Below.drew ?_ | refine below_drewN ?_ _ | refine below_set ?_ (by first | omega | (dsimp only; omega)) _)) hb
  clear hb
  go_wp2
  go_ret
  exact ⟨rfl, (by repeat (first | exact hB1 | exact Below.refl _ _ | refine balloc ?_ _ | refine Below.drew ?_ | refine below_drewN ?_ _ | refine below_set ?_ (by first | omega | (dsimp only; omega)) _))⟩
theorem rRing_e (a : Option Addr) (n cap : Nat) (t : ByteArray) (m F : Int) (w : World) (hz : t.size ≤ 140737488351232) (kS : Hid (∀ w1 : World, Below w.heap.size w w1 → Calls Tryd.prog 44 #[.slice a n cap] w1 fun e w' => e = .returned (.int .i64 m) ∧ Below w1.heap.size w1 w')) (hF : Hid (ringF m n t.size = F)) :
    Calls Tryd.prog 45 #[.slice a n cap, .string t] w fun e w' => e = .returned (.int .i64 F) ∧ Below w.heap.size w w' := by
  have hE := hF.out
  clear hF
  unfold ringF at hE
  by_cases hm : m = 0
  · subst hm
    rw [if_pos rfl] at hE
    by_cases hn : n = 0
    · subst hn
      rw [if_pos rfl] at hE
      subst hE
      exact rRing_5 a cap t w kS
    · have hn' : ((n : Int) == 0) = false := by rw [beq_eq_false_iff_ne]; omega
      rw [if_neg hn] at hE
      by_cases ht : 60 < t.size
      · rw [if_pos ht] at hE; subst hE; exact rRing_4 a n cap t w hn' ht hz kS
      · rw [if_neg ht] at hE; subst hE; exact rRing_0 a n cap t w hn' (by omega) kS
  · rw [if_neg hm] at hE; subst hE; exact rRing_m a n cap t m w (by simpa using hm) kS
set_option maxHeartbeats 4000000 in
theorem rRingAsk_core (v : Value) (D : Sp) (L t : ByteArray) (c : Int) (w : World) (oD : Ok D) (hL : L.size ≤ 100) (ht : t.size ≤ 60) (kL : Hid (∀ w1 : World, Below w.heap.size w w1 → Calls Tryd.prog 102 #[v] w1 fun e w' => e = .returned (.string L) ∧ Below w1.heap.size w1 w')) (hc : Hid (rAsk L t D = c)) :
    Calls Tryd.prog 46 #[v, spV D, .string t] w fun e w' => e = .returned (.int .i64 c) ∧ Below w.heap.size w w' := by
  have hc' : Hid (hnum (L ++ sBytes D ++ t).data.toList = c) := hc
  have hz : (L ++ sBytes D ++ t).size ≤ 9223372036854775807 := by
    have := sBytes_size D
    rw [ByteArray.size_append, ByteArray.size_append]; omega
  replace hz := Lib.hid hz
  have hz1 := sBytes_size D
  have hbo := Lib.hid (fun (w : World) => refBytes_c D w oD)
  clear hc
  generalize sBytes D = BD at *
  have n1 : ¬ (9223372036854775807 < L.size + BD.size) := by omega
  have n2 : ¬ (9223372036854775807 < L.size + BD.size + t.size) := by omega
  go_enter Tryd.func46, Tryd.ntmps46
  go_wp2_with fail
  refine wp_region_grow Tryd.mixed (by kernel_rfl) ?_
  repeat (quiet_step ((first | (go_at_call 102; exact grow_of (kL.out _ (below_seq (by repeat (first | exact Below.refl _ _ | refine balloc ?_ _ | refine Below.drew ?_ | refine below_drewN ?_ _ | refine below_set ?_ (by first | omega | (dsimp only; omega)) _)) (Grew.h _)))) | (go_at_call 93; exact grow_of (hbo.out _)) | (go_at_call 92; exact grow_of (refNumber_n (L ++ BD ++ t) c _ hz.out hc')))))
  refine wpQuiet_nil ?_
  intro _ hw'
  obtain ⟨x1, rfl⟩ := hw'
  have z1 := x1.h.size
  try simp only [World.size_alloc, World.size_setCell, World.size_drew] at z1
  have s1_0 : w.heap.size < x1.w.heap.size := by omega
  have hB1 : Below w.heap.size w x1.w := below_seq (by repeat (first | exact Below.refl _ _ | refine balloc ?_ _ | refine Below.drew ?_ | refine below_drewN ?_ _ | refine below_set ?_ (by first | omega | (dsimp only; omega)) _)) x1.h
  go_wp2
  go_ret
  exact ⟨rfl, (by repeat (first | exact hB1 | exact Below.refl _ _ | refine balloc ?_ _ | refine Below.drew ?_ | refine below_drewN ?_ _ | refine below_set ?_ (by first | omega | (dsimp only; omega)) _))⟩
theorem rRingAsk_e (l : List Sp) (v : Value) (D : Sp) (t : ByteArray) (c : Int) (w : World) (hl : l.length ≤ 12) (hs : SpSl w v l) (hok : ∀ z ∈ l, Ok z) (oD : Ok D) (ht : t.size ≤ 60) (hc : Hid (rAsk (lsB l.length l) t D = c)) :
    Calls Tryd.prog 46 #[v, spV D, .string t] w fun e w' => e = .returned (.int .i64 c) ∧ Below w.heap.size w w' :=
  rRingAsk_core v D (lsB l.length l) t c w oD (by have := lsB_size l.length l; omega) ht (Lib.hid fun w1 hb => rlist_sl l v w1 hl (hs.below hb) hok) hc
end Go.Proofs.YtfnifdmnbccblaaDoor
namespace Go.Proofs.YtfnifdmnbccblaaDoor
open Go.RowKit
set_option maxRecDepth 100000
set_option linter.unusedVariables false
set_option linter.unusedSimpArgs false
set_option maxHeartbeats 4000000 in
theorem rRingNext_core (a : Option Addr) (n cap i : Nat) (L t : ByteArray) (K A B D : Sp) (u c s v : Int) (bk ok : Nat) (w : World) (hi : i < n) (hn : n ≤ 12) (ha : a = some ⟨bk, ok, none⟩) (l : List Sp) (hl : Hid (l.length = n)) (hk : SpotsAt w bk ok l) (hK : Hid (∀ h : i < l.length, l[i] = K))
    (c0 : 0 ≤ c) (c1 : c < 1013) (s0 : 0 ≤ s) (s1 : s < 1013) (hu : Hid (K = sq u)) (hA : Hid (sq (4 * s) = A)) (hB' : Hid (sq (u * c) = B)) (oA : Ok A) (oB : Ok B) (hD : Hid (sSum A B = D)) (oD : Ok D)
    (kA : Hid (∀ w1 : World, Below w.heap.size w w1 → Calls Tryd.prog 46 #[.slice a n cap, spV D, .string t] w1 fun e w' => e = .returned (.int .i64 v) ∧ Below w1.heap.size w1 w')) :
    Calls Tryd.prog 107 #[.slice a n cap, .int .i64 i, .int .i64 c, .int .i64 s, .string t] w fun e w' => e = .returned (.int .i64 v) ∧ Below w.heap.size w w' := by
  have hin : i < l.length := by rw [hl.out]; exact hi
  have l1 := hk.cx i hin
  have l2 := hk.cy i hin
  have l3 := hk.cf i hin
  have l4 := hk.lt
  rw [hK.out hin] at l1 l2 l3
  clear hk hK hl hin
  subst ha
  have e1 : (i : Int) < (n : Int) := by omega
  have e0 : (0 : Int) ≤ (i : Int) := by omega
  go_enter Tryd.func107, Tryd.ntmps107
  go_wp2_with fail
  refine (refSum_e s c u K A B D _ (by omega) (by omega) (by omega) (by omega) hu hA hB' oA oB hD).mono ?_; rintro e w1 ⟨rfl, hb⟩
  obtain ⟨hc1, hf1⟩ := bcell hb
  have z1 := hb.size
  try simp only [World.size_alloc, World.size_setCell, World.size_drew] at z1
  have hB1 : Below w.heap.size w w1 := below_seq (by repeat (first | exact Below.refl _ _ | refine balloc ?_ _ | refine Below.drew ?_ | refine below_drewN ?_ _ | refine below_set ?_ (by first | omega | (dsimp only; omega)) _)) hb
  clear hb
  go_wp2_with fail
  refine (kA.out _ (by repeat (first | exact hB1 | exact Below.refl _ _ | refine balloc ?_ _ | refine Below.drew ?_ | refine below_drewN ?_ _ | refine below_set ?_ (by first | omega | (dsimp only; omega)) _))).mono ?_; rintro e w2 ⟨rfl, hb⟩
  obtain ⟨hc2, hf2⟩ := bcell hb
  have z2 := hb.size
  try simp only [World.size_alloc, World.size_setCell, World.size_drew] at z2
  have hB2 : Below w.heap.size w w2 := below_seq (by repeat (first | exact hB1 | exact Below.refl _ _ | refine balloc ?_ _ | refine Below.drew ?_ | refine below_drewN ?_ _ | refine below_set ?_ (by first | omega | (dsimp only; omega)) _)) hb
  clear hb
  go_wp2
  go_ret
  exact ⟨rfl, (by repeat (first | exact hB2 | exact Below.refl _ _ | refine balloc ?_ _ | refine Below.drew ?_ | refine below_drewN ?_ _ | refine below_set ?_ (by first | omega | (dsimp only; omega)) _))⟩
theorem rRingNext_e (us : List Int) (l : List Sp) (n cap i : Nat) (bk ok : Nat) (L t : ByteArray) (c s v : Int) (w : World) (hi : i < n) (hn : n ≤ 12) (hln : Hid (l.length = n)) (hl : Hid (l = us.map sq)) (hk : SpotsAt w bk ok l) (ht : t.size ≤ 60) (hL : Hid (lsB n l = L))
    (c0 : 0 ≤ c) (c1 : c < 1013) (s0 : 0 ≤ s) (s1 : s < 1013) (hv : Hid (rNext L t (us.getD i 0) c s = v)) :
    Calls Tryd.prog 107 #[.slice (some ⟨bk, ok, none⟩) n cap, .int .i64 i, .int .i64 c, .int .i64 s, .string t] w fun e w' => e = .returned (.int .i64 v) ∧ Below w.heap.size w w' := by
  have hok : ∀ z ∈ l, Ok z := by rw [hl.out]; intro z hz; obtain ⟨u, -, rfl⟩ := List.mem_map.mp hz; exact sq_ok u
  have hul : us.length = l.length := by rw [hl.out, List.length_map]
  have hKi : ∀ h : i < l.length, l[i] = sq (us.getD i 0) := by
    intro h
    have e := hl.out
    subst e
    rw [List.getElem_map, getD_at (by omega)]
  refine rRingNext_core _ n cap i L t (sq (us.getD i 0)) _ _ _ (us.getD i 0) c s v bk ok w hi hn rfl l hln hk (Lib.hid hKi) c0 c1 s0 s1 (Lib.hid rfl) (Lib.hid rfl) (Lib.hid rfl) (sq_ok _) (sq_ok _) (Lib.hid rfl) (by rw [sq_add]; exact sq_ok _) (Lib.hid fun w1 hb => ?_)
  have hs : SpSl w1 (.slice (some ⟨bk, ok, none⟩) n cap) l := ⟨some ⟨bk, ok, none⟩, cap, by rw [hln.out], fun _ => ⟨bk, ok, rfl, hk.below hb⟩⟩
  refine rRingAsk_e l _ _ t v w1 (by have := hln.out; omega) hs hok (by rw [sq_add]; exact sq_ok _) ht (Lib.hid ?_)
  have h1 := hln.out
  rw [h1, hL.out, sq_add]
  exact hv.out
set_option maxHeartbeats 8000000 in
theorem rRingRight_c (us : List Int) (l : List Sp) (ss : List Int) (vk vs : Value) (t : ByteArray) (C : Int) (b : Bool) (w : World) (h1 : 1 ≤ l.length) (h2 : l.length ≤ 12) (hl : Hid (l = us.map sq)) (hsl : ss.length = l.length) (hss : ss.all okR = true) (c0 : 0 ≤ C) (c1 : C < 1013) (ht : t.size ≤ 60)
    (hk : SpSl w vk l) (hv : IntSl w vs ss) (hb : Hid ((rChain (lsB l.length l) t us ss C l.length == C) = b)) :
    Calls Tryd.prog 50 #[vk, .string t, .agg #[.int .i64 C, vs]] w fun e w' => e = .returned (.bool b) ∧ Below w.heap.size w w' := by
  obtain ⟨a1, k1, rfl, h3⟩ := hk
  obtain ⟨a2, k2, rfl, h4⟩ := hv
  obtain ⟨bk, ok, rfl, h5⟩ := h3 (by omega)
  obtain ⟨bs, os, rfl, h6⟩ := h4 (by omega)
  clear h3 h4
  rw [hsl]
  obtain ⟨n, hn⟩ : ∃ n, l.length = n := ⟨_, rfl⟩
  rw [hn] at h1 h2 hsl hb ⊢
  have hch : Hid (∀ q, rChain (lsB n l) t us ss C (q + 1) = rNext (lsB n l) t (us.getD q 0) (rChain (lsB n l) t us ss C q) (ss.getD q 0)) := Lib.hid fun q => rfl
  have hch0 : Hid (rChain (lsB n l) t us ss C 0 = C) := Lib.hid rfl
  have hbd := Lib.hid (rChain_bd (L := lsB n l) (t := t) (us := us) (ss := ss) c0 c1)
  have hsb := Lib.hid (fun i (hi : i < ss.length) => okR_y (all_okR hss i hi))
  obtain ⟨L, hL⟩ : ∃ L, lsB n l = L := ⟨_, rfl⟩
  rw [hL] at hch hch0 hbd hb
  generalize rChain L t us ss C = ch at *
  replace h5 := Lib.hid h5
  replace h6 := Lib.hid h6
  replace hL := Lib.hid hL
  replace hn := Lib.hid hn
  clear hss
  go_enter Tryd.func50, Tryd.ntmps50
  go_wp2
  have hz0 : (w.alloc (.cells #[.int .i64 C, .slice (some ⟨bs, os, none⟩) n k2] 76)).cell? ⟨w.heap.size, 0, none⟩ = some (.int .i64 C) := by simp
  have hz1 : (w.alloc (.cells #[.int .i64 C, .slice (some ⟨bs, os, none⟩) n k2] 76)).cell? ⟨w.heap.size, 1, none⟩ = some (.slice (some ⟨bs, os, none⟩) n k2) := by simp
  have hB0 := below_alloc w (.cells #[.int .i64 C, .slice (some ⟨bs, os, none⟩) n k2] 76)
  have hlt0 : w.heap.size < (w.alloc (.cells #[.int .i64 C, .slice (some ⟨bs, os, none⟩) n k2] 76)).heap.size := by simp
  generalize w.alloc (.cells #[.int .i64 C, .slice (some ⟨bs, os, none⟩) n k2] 76) = w0 at *
  replace hz0 := Lib.hid hz0
  replace hz1 := Lib.hid hz1
  replace hB0 := Lib.hid hB0
  go_loopw [7, 8] (fun c i wr => ∃ q : Nat, q ≤ n ∧ i = .int .i64 q ∧ c = .int .i64 (ch q) ∧ Below w0.heap.size w0 wr) (fun _ i _ => n - (intOf i).toNat)
  case atStart => exact ⟨0, Nat.zero_le _, rfl, by rw [hch0.out], Below.refl _ _⟩
  case round =>
    obtain ⟨q, hq, rfl, rfl, hbr⟩ := hrel
    have z1 := ((bcell hbr).1 _ 1 hlt0).trans hz1.out
    have z0 := ((bcell hbr).1 _ 0 hlt0).trans hz0.out
    have z2 := Nat.lt_of_lt_of_le hlt0 hbr.size
    by_cases hlt : q < n
    · have hBr := below_seq hB0.out hbr
      have k := h6.out.below hBr
      have l1 := k.c q (by omega)
      have l2 := k.lt
      have hk5 := h5.out.below hBr
      have hs1 := hsb.out q (by omega)
      have hgd := getD_at (l := ss) (i := q) (by omega)
      have hcs := hch.out q
      rw [hgd] at hcs
      have hcb := hbd.out q
      clear k hgd
      generalize (ss[q]'(by omega)) = s at *
      obtain ⟨v, hve⟩ : ∃ v, ch (q + 1) = v := ⟨_, rfl⟩
      rw [hve] at hcs
      replace hve := Lib.hid hve
      generalize ch q = c at *
      have e1 : (q : Int) < (n : Int) := by omega
      have hc' : Hid (rNext L t (us.getD q 0) c s = v) := Lib.hid hcs.symm
      have hkN := Lib.hid (fun (w1 : World) (hb1 : Below wr.heap.size wr w1) => rRingNext_e us l n k1 q bk ok L t c s v w1 hlt h2 hn hl (hk5.below hb1) ht hL hcb.1 hcb.2 hs1.1 hs1.2 hc')
      replace hbr := Lib.hid hbr
      clear hk5 hBr hcs
      go_wp2_with fail
      refine (hkN.out _ (Below.refl _ _)).mono ?_; rintro e w1 ⟨rfl, hb1⟩
      have hb2 := Lib.hid (below_seq hbr.out hb1)
      clear hb1 hbr l1 l2 z0 z1 z2 hkN
      go_wp2
      go_roundw
      case rel => exact ⟨q + 1, by omega, by go_num, by rw [hve.out], hb2.out⟩
      case measure => simp [intOf]; omega
    · obtain rfl : q = n := by omega
      have hbb := hb.out
      have hBr := Lib.hid (below_seq hB0.out hbr)
      generalize ch q = c at *
      clear hbr
      go_wp2
      go_ret
      exact ⟨rfl, hBr.out⟩
end Go.Proofs.YtfnifdmnbccblaaDoor
namespace Go.Proofs.YtfnifdmnbccblaaDoor
open Go.RowKit
set_option maxRecDepth 100000
set_option linter.unusedVariables false
set_option linter.unusedSimpArgs false
/-- What the document's seal's block holds: a challenge, and a slice. -/
structure Z2v (w : World) (b : Nat) (c : Int) (v : Value) : Prop where
  c0 : w.cell? ⟨b, 0, none⟩ = some (.int .i64 c)
  c1 : w.cell? ⟨b, 1, none⟩ = some v
  f0 : w.frozen? ⟨b, 0, none⟩ = false
  f1 : w.frozen? ⟨b, 1, none⟩ = false
  lt : b < w.heap.size
theorem Z2v.below {w w' : World} {b B : Nat} {c : Int} {v : Value} (h : Z2v w b c v) (hb : Below B w w') (hB : b < B) : Z2v w' b c v :=
  ⟨(hb.cell (p := ⟨b, 0, none⟩) hB).trans h.c0, (hb.cell (p := ⟨b, 1, none⟩) hB).trans h.c1, (hb.frozen (p := ⟨b, 0, none⟩) hB).trans h.f0, (hb.frozen (p := ⟨b, 1, none⟩) hB).trans h.f1, Nat.lt_of_lt_of_le h.lt hb.size⟩
theorem Z2v.put0 {w : World} {b : Nat} {c : Int} {v : Value} (h : Z2v w b c v) (x : Int) : Z2v (w.setCell ⟨b, 0, none⟩ (.int .i64 x)) b x v :=
  ⟨World.cell?_setCell_same _ _ _ h.c0, by rw [World.cell?_setCell_other (h := fun k => by cases k)]; exact h.c1, by rw [World.frozen?_setCell]; exact h.f0, by rw [World.frozen?_setCell]; exact h.f1, by simpa [World.setCell] using h.lt⟩
theorem Z2v.put1 {w : World} {b : Nat} {c : Int} {v : Value} (h : Z2v w b c v) (x : Value) : Z2v (w.setCell ⟨b, 1, none⟩ x) b c x :=
  ⟨by rw [World.cell?_setCell_other (h := fun k => by cases k)]; exact h.c0, World.cell?_setCell_same _ _ _ h.c1, by rw [World.frozen?_setCell]; exact h.f0, by rw [World.frozen?_setCell]; exact h.f1, by simpa [World.setCell] using h.lt⟩
theorem Z2v.other {w : World} {b b' o : Nat} {c : Int} {v : Value} (h : Z2v w b c v) (hne : b' ≠ b) (x : Value) : Z2v (w.setCell ⟨b', o, none⟩ x) b c v :=
  ⟨by rw [World.cell?_setCell_other (h := fun e => hne (congrArg Addr.block e))]; exact h.c0, by rw [World.cell?_setCell_other (h := fun e => hne (congrArg Addr.block e))]; exact h.c1, by rw [World.frozen?_setCell]; exact h.f0, by rw [World.frozen?_setCell]; exact h.f1, by simpa [World.setCell] using h.lt⟩
/-- The place that is the beginning again: behind so many steps. -/
theorem turn_zero {a q n : Nat} (ha : a < n) (hq : q + 1 ≤ n) : (a + q + 1) % n = 0 ↔ q = n - 1 - a := by
  constructor
  · intro h
    by_cases e : a + q + 1 < n
    · rw [Nat.mod_eq_of_lt e] at h; omega
    · rw [Nat.mod_eq_sub_mod (by omega), Nat.mod_eq_of_lt (by omega)] at h; omega
  · intro h; subst h
    rw [show a + (n - 1 - a) + 1 = n by omega]; exact Nat.mod_self n
theorem turn_at {a q n : Nat} (ha : a < n) (hq : q + 1 < n) : (a + q + 1) % n ≠ a := by
  intro h
  by_cases e : a + q + 1 < n
  · rw [Nat.mod_eq_of_lt e] at h; omega
  · rw [Nat.mod_eq_sub_mod (by omega), Nat.mod_eq_of_lt (by omega)] at h; omega
/-- What comes of the document's ringed seal. -/
def RRg (L t : ByteArray) (us : List Int) (o : Nat → Int) (at' n : Nat) (k x : Int) (w : World) (e : Ending) (w' : World) : Prop :=
  ∃ (g cap : Nat), e = .returned (.agg #[.int .i64 (rD L t us o at' n k (n - 1 - at')), .slice (some ⟨g, 0, none⟩) n cap]) ∧ w.heap.size ≤ g ∧ IntsF w' g n (fun j => if j = at' then (k - rD L t us o at' n k (n - 1) * x) % 1013 else o j) ∧ Below w.heap.size w w'
theorem refMod_g (n m r : Int) (w : World) (n0 : -9223372036854775808 ≤ n) (n1 : n ≤ 9223372036854775807) (m0 : 0 < m) (m1 : m ≤ 5000) (h : Hid (n % m = r)) : Calls Tryd.prog 42 #[.int .i64 n, .int .i64 m] w fun e w' => e = .returned (.int .i64 r) ∧ Below w.heap.size w w' :=
  (refMod_e n m r w n0 n1 m0 m1 h).mono fun e w' ⟨a, b⟩ => ⟨a, b ▸ Below.refl _ _⟩
set_option maxHeartbeats 16000000 in
theorem rRingSign_c (us : List Int) (l : List Sp) (ss : List Int) (vk vs : Value) (t : ByteArray) (at' n : Nat) (x k : Int) (L : ByteArray) (Dk : Sp) (w : World) (h1 : at' < n) (h2 : n ≤ 12) (hn : Hid (l.length = n)) (hl : Hid (l = us.map sq)) (hsl : Hid (ss.length = n)) (hss : ∀ j, j < n → j ≠ at' → 0 ≤ ss.getD j 0 ∧ ss.getD j 0 < 1013) (ht : t.size ≤ 60)
    (x1 : 1 ≤ x) (x2 : x < 1013) (k1 : 1 ≤ k) (k2 : k < 1013) (hDk : Hid (sq (4 * k) = Dk))
    (hk : SpSl w vk l) (hv : IntSl w vs ss) (hL : Hid (lsB n l = L)) (o : Nat → Int) (ho : Hid (∀ j, ss.getD j 0 = o j)) :
    Calls Tryd.prog 48 #[vk, .int .i64 at', .int .i64 x, .int .i64 k, vs, .string t] w fun e w' => RRg L t us o at' n k x w e w' := by
  have hok : Hid (∀ z ∈ l, Ok z) := Lib.hid (by rw [hl.out]; intro z hz; obtain ⟨u, -, rfl⟩ := List.mem_map.mp hz; exact sq_ok u)
  obtain ⟨a1, c1, rfl, h3⟩ := hk
  obtain ⟨a2, c2, rfl, h4⟩ := hv
  obtain ⟨bk, ok, rfl, h5⟩ := h3 (by have := hn.out; omega)
  obtain ⟨bs, os, rfl, h6⟩ := h4 (by have := hsl.out; omega)
  rw [hn.out, hsl.out]
  clear h3 h4
  obtain ⟨i0, hi, hz0, hz1, hz2⟩ := info_parts info_int
  have oDk : Ok Dk := by rw [← hDk.out]; exact sq_ok _
  obtain ⟨d0, hd0⟩ : ∃ d0, rD L t us o at' n k 0 = d0 := ⟨_, rfl⟩
  have hd0' : Hid (rAsk L t Dk = d0) := Lib.hid (by rw [← hd0, rD, hDk.out])
  have hkA := Lib.hid (fun (w1 : World) (hb : Below w.heap.size w w1) => rRingAsk_e l (.slice (some ⟨bk, ok, none⟩) n c1) Dk t d0 w1 (by have := hn.out; omega) ⟨some ⟨bk, ok, none⟩, c1, by rw [hn.out], fun _ => ⟨bk, ok, rfl, h5.below hb⟩⟩ hok.out oDk ht (Lib.hid (by rw [hn.out, hL.out]; exact hd0'.out)))
  have hkN := Lib.hid (fun (i : Nat) (c s v : Int) (w1 : World) (hb : Below w.heap.size w w1) hi' c0 c1' s0 s1 hv => rRingNext_e us l n c1 i bk ok L t c s v w1 hi' h2 hn hl (h5.below hb) ht hL c0 c1' s0 s1 hv)
  have hbk : bk < w.heap.size := h5.lt
  have hrD : Hid (∀ i, rD L t us o at' n k (i + 1) = rNext L t (us.getD ((at' + (i + 1)) % n) 0) (rD L t us o at' n k i) (o ((at' + (i + 1)) % n))) := Lib.hid (fun i => rfl)
  have hbd := Lib.hid (fun i => rD_bd (L := L) (t := t) (us := us) (o := o) (at' := at') (n := n) (k := k) i)
  have hss' : Hid (∀ j, j < n → j ≠ at' → 0 ≤ o j ∧ o j < 1013) := Lib.hid (fun j h1 h2 => by rw [← ho.out]; exact hss j h1 h2)
  unfold RRg
  generalize rD L t us o at' n k = dd at *
  replace hd0 := Lib.hid hd0
  have h6' := Lib.hid h6
  clear h5 h6 hss
  go_enter Tryd.func48, Tryd.ntmps48
  go_wp2_with (at_builtin; refine wpList_append_own _ rfl _ _ 22 rfl (w.heap.size + 2) 3 i0 (.int .i64 0) 1 8 (by kernel_rfl) hi hz0 hz1 hz2 rfl (by decide) _ _ _ rfl (World.ownsRow_nil _ _ _ _) ⟨bs, os, none⟩ n c2 (ss.map (Value.int .i64)) rfl ?qc1 ?qc2 ?qc3 ?qc4 ?qc5 ?qc6 ?_)
  case qc1 => simp [hsl.out]
  case qc2 =>
    intro j u hj
    have hjn : j < ss.length := by
      have := (List.getElem?_eq_some_iff.1 hj).1
      simpa using this
    rw [add_none]
    have e := ((bcell (balloc (below_alloc w (.cells #[.int .i64 0, .slice none 0 0] 76)) (.cells #[.int .i64 0, .slice none 0 0] 76))).1 bs (os + j) h6'.out.lt)
    refine e.trans ?_
    rw [h6'.out.c j hjn]
    simpa [hjn] using hj
  case qc3 => intro u hu; obtain ⟨x, _, rfl⟩ := List.mem_map.1 hu; rfl
  case qc4 => unfold maxLen; omega
  case qc5 => omega
  case qc6 => simp
  intro v' w1 hown hgrow hnil
  obtain ⟨g, cap, rfl, hg1, hg2⟩ := hown.form (by omega)
  have hW : Below (w.heap.size + 2) ((w.alloc (.cells #[.int .i64 0, .slice none 0 0] 76)).alloc (.cells #[.int .i64 0, .slice none 0 0] 76)) w1 := (Below.refl _ _).grown hgrow (by simp) (by intro k hk; simp [Value.ownBlock] at hk)
  have zr0 : Z2v ((w.alloc (.cells #[.int .i64 0, .slice none 0 0] 76)).alloc (.cells #[.int .i64 0, .slice none 0 0] 76)) w.heap.size 0 (.slice none 0 0) := ⟨by go_simp, by go_simp, by go_simp, by go_simp, by simp only [World.size_alloc]; omega⟩
  have zo0 : Z2v ((w.alloc (.cells #[.int .i64 0, .slice none 0 0] 76)).alloc (.cells #[.int .i64 0, .slice none 0 0] 76)) (w.heap.size + 1) 0 (.slice none 0 0) := ⟨by go_simp, by go_simp, by go_simp, by go_simp, by simp⟩
  have zr1 := Lib.hid (zr0.below hW (by omega))
  have zo1 := zo0.below hW (by omega)
  have hB1 : Below w.heap.size w w1 := (balloc (below_alloc w (.cells #[.int .i64 0, .slice none 0 0] 76)) (.cells #[.int .i64 0, .slice none 0 0] 76)).grown hgrow (by simp; omega) (by intro k hk; simp [Value.ownBlock] at hk)
  have hO1 := IntsF.of_row hown hsl.out.symm (by omega)
  have hoe : (fun j => ss.getD j 0) = o := funext ho.out
  rw [hoe] at hO1
  clear hown hgrow hnil hW zr0 zo0 hoe
  have hzo2 := Lib.hid (zo1.put1 (.slice (some ⟨g, 0, none⟩) n cap))
  have hzr2 := Lib.hid (zr1.out.other (b' := w.heap.size + 1) (o := 1) (by omega) (.slice (some ⟨g, 0, none⟩) n cap))
  have hO2 := Lib.hid (hO1.other (b' := w.heap.size + 1) (o := 1) (by omega) (.slice (some ⟨g, 0, none⟩) n cap))
  have hB2 := Lib.hid (below_set (p := ⟨w.heap.size + 1, 1, none⟩) hB1 (by simp) (.slice (some ⟨g, 0, none⟩) n cap))
  obtain ⟨q0, q1, q2, q3, q4⟩ := zo1
  clear zr1 hO1 hB1
  obtain ⟨i1, hi1⟩ : ∃ q, (at' + 1) % n = q := ⟨_, rfl⟩
  have i1n : i1 < n := by rw [← hi1]; exact Nat.mod_lt _ (by omega)
  have wr1 : IntKind.i64.wrap ((at' : Int) + 1) = (at' : Int) + 1 := IntWalk.i64_in _ (by omega)
  have t1' : ((at' : Int) + 1).tmod (n : Int) = (i1 : Int) := by rw [← hi1]; exact tmod_nat (at' + 1) n
  have n0 : ((n : Int) == 0) = false := by rw [beq_eq_false_iff_ne]; omega
  have hnn : ¬ n = 0 := by omega
  have hnz : ¬ (n : Int) = 0 := by omega
  replace hi1 := Lib.hid hi1
  go_wp2_with fail
  generalize w1.setCell ⟨w.heap.size + 1, 1, none⟩ (.slice (some ⟨g, 0, none⟩) n cap) = w2 at *
  clear q0 q1 q2 q3 q4
  refine (refBy_e k Dk _ (by omega) (by omega) hDk).mono ?_; rintro e w3 ⟨rfl, hb3⟩
  have hB3 := Lib.hid (below_seq hB2.out hb3)
  have hzo3 := Lib.hid (hzo2.out.below hb3 hzo2.out.lt)
  have hzr3 := Lib.hid (hzr2.out.below hb3 hzr2.out.lt)
  have hO3 := Lib.hid (hO2.out.below hb3 hO2.out.lt)
  clear hb3 hB2 hzo2 hzr2 hO2
  go_wp2_with fail
  refine (hkA.out _ hB3.out).mono ?_; rintro e w4 ⟨rfl, hb4⟩
  have hB4 := Lib.hid (below_seq hB3.out hb4)
  have hzo4 := Lib.hid (hzo3.out.below hb4 hzo3.out.lt)
  have hzr4 := Lib.hid (hzr3.out.below hb4 hzr3.out.lt)
  have hO4 := Lib.hid (hO3.out.below hb4 hO3.out.lt)
  clear hb4 hB3 hzo3 hzr3 hO3 hkA
  obtain ⟨C1, hC1⟩ : ∃ C, (if n - 1 - at' ≤ 0 then dd (n - 1 - at') else 0) = C := ⟨_, rfl⟩
  obtain ⟨b1, hb1⟩ : ∃ b, ((i1 : Int) == 0) = b := ⟨_, rfl⟩
  have hC1a : b1 = true → C1 = d0 := fun c => by
    have := turn_zero (a := at') (q := 0) (n := n) h1 (by omega)
    rw [Nat.add_zero, hi1.out] at this
    rw [c, beq_iff_eq] at hb1
    have h0 := this.mp (by omega)
    rw [← hC1, if_pos (by omega), ← h0, hd0.out]
  have hC1b : b1 = false → C1 = 0 := fun c => by
    have := turn_zero (a := at') (q := 0) (n := n) h1 (by omega)
    rw [Nat.add_zero, hi1.out] at this
    rw [c, beq_eq_false_iff_ne] at hb1
    rw [← hC1, if_neg (fun h => hb1 (by have := this.mpr (by omega); omega))]
  replace hC1 := Lib.hid hC1
  replace hC1a := Lib.hid hC1a
  replace hC1b := Lib.hid hC1b
  go_upto_if 34 with fail
  go_cut [37] from 35 to 36 (fun s37 wx => Z2v wx (w.heap.size + 1) C1 (.slice (some ⟨g, 0, none⟩) n cap) ∧ Z2v wx w.heap.size 0 (.slice none 0 0) ∧ IntsF wx g n o ∧ Below w.heap.size w wx)
  case first =>
    cases b1
    · have he := hC1b.out rfl
      subst he
      clear hb1
      go_wp2_with fail
      go_meet
      exact ⟨hzo4.out, hzr4.out, hO4.out, hB4.out⟩
    · have he := hC1a.out rfl
      subst he
      clear hb1
      obtain ⟨q0, q1, q2, q3, q4⟩ := hzo4.out
      go_wp2_with fail
      go_meet
      exact ⟨hzo4.out.put0 _, hzr4.out.other (by omega) _, hO4.out.other (by omega) _, below_set hB4.out (by simp) _⟩
  case rest =>
    obtain ⟨w5, hwq⟩ : ∃ x, x = wc := ⟨_, rfl⟩
    subst hwq
    obtain ⟨hzo5, hzr5, hO5, hB5⟩ := hcut
    clear hzo4 hzr4 hO4 hB4
    replace hzo5 := Lib.hid hzo5
    replace hzr5 := Lib.hid hzr5
    replace hO5 := Lib.hid hO5
    replace hB5 := Lib.hid hB5
    clear wr1 t1' hC1a hC1b
    have hi1s : Hid ((i1 : Int) = (((at' + 0 + 1) % n : Nat) : Int)) := Lib.hid (by rw [Nat.add_zero, hi1.out])
    go_wp2_with fail
    go_loopw [15, 16] (fun c i wr => ∃ q : Nat, q + 1 ≤ n ∧ i = .int .i64 ((at' + q + 1) % n : Nat) ∧ c = .int .i64 (dd q) ∧ Z2v wr (w.heap.size + 1) (if n - 1 - at' ≤ q then dd (n - 1 - at') else 0) (.slice (some ⟨g, 0, none⟩) n cap) ∧ Z2v wr w.heap.size 0 (.slice none 0 0) ∧ IntsF wr g n o ∧ Below w.heap.size w wr) (fun _ i _ => (at' + n - (intOf i).toNat) % n)
    case atStart => exact ⟨0, by omega, by rw [hi1s.out], by rw [hd0.out], by rw [hC1.out]; exact hzo5.out, hzr5.out, hO5.out, hB5.out⟩
    case round =>
      clear hzo5 hzr5 hO5 hB5 hi1s hC1
      obtain ⟨q, hq, rfl, rfl, hzo, hzr, hO, hB⟩ := hrel
      replace hzo := Lib.hid hzo
      replace hzr := Lib.hid hzr
      replace hO := Lib.hid hO
      replace hB := Lib.hid hB
      generalize hiq : (at' + q + 1) % n = iq
      have iqn : iq < n := by rw [← hiq]; exact Nat.mod_lt _ (by omega)
      have hms : (at' + n - iq) % n = n - 1 - q := by
        by_cases c : at' + q + 1 < n
        · rw [Nat.mod_eq_of_lt c] at hiq; rw [show at' + n - iq = n - 1 - q by omega]; exact Nat.mod_eq_of_lt (by omega)
        · rw [Nat.mod_eq_sub_mod (by omega), Nat.mod_eq_of_lt (by omega)] at hiq
          rw [show at' + n - iq = n - 1 - q + n by omega, Nat.add_mod_right]; exact Nat.mod_eq_of_lt (by omega)
      by_cases hlt : q + 1 < n
      · have hia : iq ≠ at' := by rw [← hiq]; exact turn_at h1 hlt
        obtain ⟨ir, hir⟩ : ∃ i, (at' + (q + 1) + 1) % n = i := ⟨_, rfl⟩
        have irn : ir < n := by rw [← hir]; exact Nat.mod_lt _ (by omega)
        have hqr : (iq + 1) % n = ir := by rw [← hiq, ← hir, Nat.mod_add_mod]; rfl
        have hms2 : (at' + n - ir) % n = n - 1 - (q + 1) := by
          by_cases c : at' + (q + 1) + 1 < n
          · rw [Nat.mod_eq_of_lt c] at hir; rw [show at' + n - ir = n - 1 - (q + 1) by omega]; exact Nat.mod_eq_of_lt (by omega)
          · rw [Nat.mod_eq_sub_mod (by omega), Nat.mod_eq_of_lt (by omega)] at hir
            rw [show at' + n - ir = n - 1 - (q + 1) + n by omega, Nat.add_mod_right]; exact Nat.mod_eq_of_lt (by omega)
        have hz0 : ir = 0 ↔ q + 1 = n - 1 - at' := by rw [← hir]; exact turn_zero h1 (by omega)
        have l1 := (h6'.out.below hB.out).c iq (by have := hsl.out; omega)
        have l2 := (h6'.out.below hB.out).lt
        have hoi := ho.out iq
        rw [getD_at (show iq < ss.length by have := hsl.out; omega)] at hoi
        rw [hoi] at l1
        clear hoi
        have hr1 := hrD.out q
        rw [show at' + (q + 1) = at' + q + 1 from rfl, hiq] at hr1
        obtain ⟨s0, s1⟩ := hss'.out iq iqn hia
        obtain ⟨d1, d2⟩ := hbd.out q
        generalize o iq = s at *
        have hir' : Hid ((((at' + (q + 1) + 1) % n : Nat) : Int) = (ir : Int)) := Lib.hid (by rw [hir])
        obtain ⟨v, hve⟩ : ∃ v, dd (q + 1) = v := ⟨_, rfl⟩
        rw [hve] at hr1
        have hcl := Lib.hid (hkN.out iq (dd q) s v wr hB.out iqn d1 d2 s0 s1 (Lib.hid hr1.symm))
        have hvn : Hid (∀ c0 : Bool, ((ir : Int) == 0) = c0 → (if n - 1 - at' ≤ q + 1 then dd (n - 1 - at') else 0) = (if c0 then v else (if n - 1 - at' ≤ q then dd (n - 1 - at') else 0))) := Lib.hid (fun c0 hc0 => by
          cases c0
          · rw [beq_eq_false_iff_ne] at hc0
            have hne : q + 1 ≠ n - 1 - at' := fun h => hc0 (by have := hz0.mpr h; omega)
            by_cases c : n - 1 - at' ≤ q
            · rw [if_pos (show n - 1 - at' ≤ q + 1 by omega), if_pos c]; rfl
            · rw [if_neg (show ¬ n - 1 - at' ≤ q + 1 by omega), if_neg c]; rfl
          · rw [beq_iff_eq] at hc0
            have he := hz0.mp (by omega)
            rw [if_pos (show n - 1 - at' ≤ q + 1 by omega), ← he, hve]; rfl)
        generalize (if n - 1 - at' ≤ q then dd (n - 1 - at') else 0) = CC at *
        replace hve := Lib.hid hve
        generalize dd q = c at *
        have g1 : ((iq : Int) != (at' : Int)) = true := by rw [bne_iff_ne]; omega
        have wr1 : IntKind.i64.wrap ((iq : Int) + 1) = (iq : Int) + 1 := IntWalk.i64_in _ (by omega)
        have t1' : ((iq : Int) + 1).tmod (n : Int) = (ir : Int) := by rw [← hqr]; exact tmod_nat (iq + 1) n
        have e0 : (0 : Int) ≤ (iq : Int) := by omega
        have e1 : (iq : Int) < (n : Int) := by omega
        clear hrD hkN hr1 hqr hz0 hir
        replace hms := Lib.hid hms
        replace hms2 := Lib.hid hms2
        replace hiq := Lib.hid hiq
        obtain ⟨b2, hb2⟩ : ∃ b, ((ir : Int) == 0) = b := ⟨_, rfl⟩
        have hvn2 := Lib.hid (hvn.out b2 hb2)
        go_wp2_with fail
        refine hcl.out.mono ?_; rintro e w6 ⟨rfl, hb6⟩
        have hB6 := Lib.hid (below_seq hB.out hb6)
        have hzo6 := Lib.hid (hzo.out.below hb6 hzo.out.lt)
        have hzr6 := Lib.hid (hzr.out.below hb6 hzr.out.lt)
        have hO6 := Lib.hid (hO.out.below hb6 hO.out.lt)
        clear hb6 hB hzo hzr hO hcl l1 l2
        cases b2
        · rw [if_neg Bool.false_ne_true] at hvn2
          replace hvn2 := Lib.hid hvn2.out
          go_wp2
          go_roundw
          case rel => exact ⟨q + 1, by omega, by rw [hir'.out], by rw [hve.out], by rw [hvn2.out]; exact hzo6.out, hzr6.out, hO6.out, hB6.out⟩
          case measure => simp only [intOf, Int.toNat_natCast]; rw [hms.out, hms2.out]; omega
        · rw [if_pos rfl] at hvn2
          replace hvn2 := Lib.hid hvn2.out
          obtain ⟨q0, q1, q2, q3, q4⟩ := hzo6.out
          go_wp2
          go_roundw
          case rel => exact ⟨q + 1, by omega, by rw [hir'.out], by rw [hve.out], by rw [hvn2.out]; exact hzo6.out.put0 v, hzr6.out.other (by omega) _, hO6.out.other (by omega) _, below_set hB6.out (by simp) _⟩
          case measure => simp only [intOf, Int.toNat_natCast]; rw [hms.out, hms2.out]; omega
      · have hqn : q = n - 1 := by omega
        have hia : iq = at' := by rw [← hiq, show at' + q + 1 = at' + n by omega, Nat.add_mod_right, Nat.mod_eq_of_lt h1]
        have g1 : ((iq : Int) != (at' : Int)) = false := by rw [hia]; simp
        have hzo' := hzo.out
        rw [if_pos (show n - 1 - at' ≤ q by omega)] at hzo'
        obtain ⟨d1, d2⟩ := hbd.out q
        have hdq : dd (n - 1) = dd q := by rw [hqn]
        obtain ⟨C0, hC0⟩ : ∃ C, dd (n - 1 - at') = C := ⟨_, rfl⟩
        rw [hC0] at hzo'
        generalize hcq : dd q = c at hdq d1 d2 ⊢
        replace hdq := Lib.hid hdq
        replace hC0 := Lib.hid hC0
        clear hcq
        obtain ⟨p0, p1⟩ := mul_bq d1 d2 (show 0 ≤ x by omega) x2
        have v1 : IntKind.i64.wrap (c * x) = c * x := IntWalk.i64_in _ (by omega)
        have v2 : IntKind.i64.wrap (k - c * x) = k - c * x := IntWalk.i64_in _ (by omega)
        obtain ⟨S, hS⟩ : ∃ S, (k - c * x) % 1013 = S := ⟨_, rfl⟩
        have hMod := Lib.hid (fun (w : World) => refMod_g (k - c * x) 1013 S w (by omega) (by omega) (by omega) (by omega) (Lib.hid hS))
        have q0 := hzo'.c0
        have q1 := hzo'.c1
        have q4 := hzo'.lt
        have e0 : (0 : Int) ≤ (at' : Int) := by omega
        have e1 : (at' : Int) < (n : Int) := by omega
        replace hzo' := Lib.hid hzo'
        replace hS := Lib.hid hS
        replace hia := Lib.hid hia
        replace hiq := Lib.hid hiq
        clear hzo hrD hkN hms
        go_wp2_with fail
        refine wp_region_grow_tail 10 Tryd.mixed (by kernel_rfl) ?_
        simp only [List.take_succ_cons, List.take_zero, List.drop_succ_cons, List.drop_zero]
        repeat (quiet_step ((go_at_call 42; exact grow_of (hMod.out _))))
        refine wpQuiet_nil ?_
        intro _ hw'
        obtain ⟨y, rfl⟩ := hw'
        have hB8 := Lib.hid (below_seq hB.out y.h)
        have hO8 := Lib.hid (hO.out.below y.h hO.out.lt)
        have hzo8 := Lib.hid (hzo'.out.below y.h hzo'.out.lt)
        have hzr8 := Lib.hid (hzr.out.below y.h hzr.out.lt)
        clear hB hO hzo' hzr q0 q1 q4
        generalize hyw : y.w = w8 at *
        clear hyw y
        have o1 := hO8.out.c at' h1
        have o3 := hO8.out.f at' h1
        have o2 := hO8.out.lt
        have hgo : g ≠ w.heap.size + 1 := by omega
        have hgr : g ≠ w.heap.size := by omega
        have hO9 := Lib.hid (hO8.out.put at' h1 S)
        have hzo9 := hzo8.out.other (b' := g) (o := at') hgo (.int .i64 S)
        have hzr9 := hzr8.out.other (b' := g) (o := at') hgr (.int .i64 S)
        have hB9 := Lib.hid (below_set (p := ⟨g, at', none⟩) hB8.out (by show w.heap.size ≤ g; omega) (.int .i64 S))
        obtain ⟨q0, q1, q2, q3, q4⟩ := hzo9
        obtain ⟨z0, z1, z2, z3, z4⟩ := hzr9
        go_wp2
        have kk := set2b_cell (w := w8.setCell ⟨g, at', none⟩ (.int .i64 S)) (x := .int .i64 C0) (y := .slice (some ⟨g, 0, none⟩) n cap) z0 z1
        refine bodyPost_ret (v := .agg #[.int .i64 C0, .slice (some ⟨g, 0, none⟩) n cap]) (by simp [results, Tryd.results48, go_sem, kk.1, kk.2]) rfl ?_
        have h9 := (hO9.out.other (b' := w.heap.size) (o := 0) (by omega) (.int .i64 C0)).other (b' := w.heap.size) (o := 1) (by omega) (.slice (some ⟨g, 0, none⟩) n cap)
        refine ⟨g, cap, by rw [hC0.out], by omega, ?_, below_set (p := ⟨w.heap.size, 1, none⟩) (below_set (p := ⟨w.heap.size, 0, none⟩) hB9.out (Nat.le_refl _) _) (Nat.le_refl _) _⟩
        rw [hdq.out, hS.out]
        exact h9
end Go.Proofs.YtfnifdmnbccblaaDoor
namespace Go.Proofs.YtfnifdmnbccblaaDoor
open Go.RowKit
set_option maxRecDepth 100000
set_option linter.unusedVariables false
set_option linter.unusedSimpArgs false
theorem secB_ok (n : Int) : secB n = okB n := rfl
theorem turn_go2 {s K a D x d : Int} (h : s % 1013 = (K + a * D) % 1013) : (s + a * (d * x % 1013)) % 1013 = (K + a * (D + x * d)) % 1013 := by
  have e : (a * (d * x % 1013)) % 1013 = (a * (d * x)) % 1013 := by rw [Int.mul_emod, Int.emod_emod, ← Int.mul_emod]
  rw [Int.mul_add, Int.mul_comm x d]
  generalize a * (d * x % 1013) = p at *
  generalize a * (d * x) = q at *
  generalize a * D = r at *
  omega
end Go.Proofs.YtfnifdmnbccblaaDoor
namespace Go.Proofs.YtfnifdmnbccblaaDoor
open Go.RowKit
set_option maxRecDepth 100000
set_option linter.unusedVariables false
set_option linter.unusedSimpArgs false
/-- A slice of these ints, in a block that is not older than B. -/
def IntF (B : Nat) (w : World) (v : Value) (l : List Int) : Prop := ∃ a cap, v = .slice a l.length cap ∧ (0 < l.length → ∃ b off, a = some ⟨b, off, none⟩ ∧ B ≤ b ∧ IntsAt w b off l)
theorem IntF.sl {B : Nat} {w : World} {v : Value} {l : List Int} (h : IntF B w v l) : IntSl w v l := by
  obtain ⟨a, cap, rfl, h⟩ := h
  exact ⟨a, cap, rfl, fun h0 => by obtain ⟨b, off, e, -, hs⟩ := h h0; exact ⟨b, off, e, hs⟩⟩
theorem IntF.below {B : Nat} {w w' : World} {v : Value} {l : List Int} (h : IntF B w v l) (hb : Below w.heap.size w w') : IntF B w' v l := by
  obtain ⟨a, cap, rfl, h⟩ := h
  exact ⟨a, cap, rfl, fun h0 => by obtain ⟨b, off, e, hB, hs⟩ := h h0; exact ⟨b, off, e, hB, hs.below hb⟩⟩
theorem IntF.set {B : Nat} {w : World} {v u : Value} {p : Addr} {l : List Int} (h : IntF B w v l) (hp : p.block < B) : IntF B (w.setCell p u) v l := by
  obtain ⟨a, cap, rfl, h⟩ := h
  refine ⟨a, cap, rfl, fun h0 => ?_⟩
  obtain ⟨b, off, e, hB, hs⟩ := h h0
  refine ⟨b, off, e, hB, by rw [World.size_setCell]; exact hs.lt, fun i hi => ?_⟩
  rw [World.cell?_setCell_other (h := fun e => by subst e; exact absurd hp (Nat.not_lt.mpr hB))]
  exact hs.c i hi
theorem own_intf {w0 w : World} {B e : Nat} {v : Value} {l : List Int} {n : Nat} (h0 : w0.heap.size ≤ B) (h : w.ownsRow B e 1 v n (l.map (Value.int .i64))) (hn : n = l.length) : IntF w0.heap.size w v l := by
  subst hn
  obtain ⟨hl, h | ⟨g, cap, cur, rfl, hb, hg, hc, -, -, ht⟩⟩ := h
  · obtain ⟨rfl, h0⟩ := h
    exact ⟨none, 0, by rw [h0], fun hp => absurd h0 (by omega)⟩
  · refine ⟨_, _, rfl, fun _ => ⟨g, 0, rfl, Nat.le_trans h0 hb, (Array.getElem?_eq_some_iff.1 hg).1, fun i hi => ?_⟩⟩
    have k1 : (l.map (Value.int .i64))[i]? = some (.int .i64 l[i]) := by simp [hi]
    rw [cell_of_row w g _ cur e (0, 0) hg]
    simp only [Nat.zero_add]
    rw [← ht, List.getElem?_take, if_pos (by omega), Array.getElem?_toList] at k1
    assumption
end Go.Proofs.YtfnifdmnbccblaaDoor
