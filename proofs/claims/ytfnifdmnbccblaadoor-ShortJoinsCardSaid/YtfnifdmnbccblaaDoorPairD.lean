/- The pair of i times the base and the base is the power i of that of the base and itself: reckoned by the kernel at each i. No program. -/
import Derived.Test.YtfnifdmnbccblaaDoorPairC
namespace Go.Proofs.YtfnifdmnbccblaaDoor
attribute [local semireducible] Z.pow
def nlD (k : Nat) : Nat × Nat :=
  let x := cx k; let y := cy k
  (((3 * x * x + 1) * (1189 + x) + 2 * y * (4051 - y)) % 4051, (2 * y * 3667) % 4051)
def nlA (k m : Nat) : Nat × Nat :=
  let x := cx k; let y := cy k; let d := x + (4051 - cx m)
  (((y + (4051 - cy m)) * (1189 + x) + (4051 - y) * d) % 4051, (d * 3667) % 4051)
def qm2 (p q : Nat × Nat) : Nat × Nat := qm p.1 p.2 q.1 q.2
def nstep (a : Nat) (st : (Nat × Nat) × Nat) (o : Bool) : (Nat × Nat) × Nat :=
  match o with
  | true => (qm2 st.1 (nlA st.2 a), (st.2 + a) % 4052)
  | false => (qm2 (qm2 st.1 st.1) (nlD st.2), (st.2 + st.2) % 4052)
def nrun (a : Nat) (ops : List Bool) : (Nat × Nat) × Nat := ops.foldl (nstep a) ((1, 0), a)
def fourth (p : Nat × Nat) : Nat × Nat := qm2 (qm2 p p) (qm2 p p)
def eqP (p q : Nat × Nat) : Bool := Nat.beq p.1 q.1 && Nat.beq p.2 q.2
def pairAt (ops : List Bool) (a : Nat) (z : Nat × Nat) : Bool :=
  let f := (nrun a ops).1
  eqP (fourth (f.1, (4051 - f.2) % 4051)) (qm2 (fourth f) z)
def chkP (ops : List Bool) : Nat → Nat → Nat × Nat → Bool
  | 0, _, _ => true
  | n+1, i, z => pairAt ops (4 * i) z && chkP ops n (i + 1) (qm2 z (2824, 4013))
theorem chkP_go : chkP goOps 1012 1 (2824, 4013) = true := by decide +kernel
theorem cT {k : Nat} (h1 : 1 ≤ k) (h2 : k < 4052) : fi (sp k).x = fi (cx k : Int) ∧ fi (sp k).y = fi (cy k : Int) ∧ (sp k).far = false ∧ cx k < 4051 ∧ cy k < 4051 := by
  have e := sp_table h1 (by omega)
  have o := sp_ok k
  rw [e] at o ⊢
  have a := o.x1; have b := o.y1
  exact ⟨rfl, rfl, rfl, by simp only [cSp] at a; omega, by simp only [cSp] at b; omega⟩
theorem base_xy : fi (sq 4).x = 1189 ∧ fi (sq 4).y = 3667 := by
  have e : sq 4 = cSp 4 := (sq_nat 4).trans (sp_table (by decide) (by decide))
  rw [e]; exact ⟨by decide +kernel, by decide +kernel⟩
theorem sub_fi {a b : Nat} (h : b ≤ 4051) : fi ((a + (4051 - b) : Nat) : Int) = fi (a : Int) - fi (b : Int) := by
  rw [← fi_sub]; exact fi_eq.mpr (by omega)
theorem neg_fi {b : Nat} (h : b ≤ 4051) : fi ((4051 - b : Nat) : Int) = - fi (b : Int) := by
  rw [← fi_neg]; exact fi_eq.mpr (by omega)
theorem mod_fi (a : Nat) : fi ((a % 4051 : Nat) : Int) = fi (a : Int) := fi_eq.mpr (by omega)
theorem nlA_ok {k m : Nat} (k1 : 1 ≤ k) (k2 : k < 4052) (m1 : 1 ≤ m) (m2 : m < 4052) (hx : (sp k).x ≠ (sp m).x) :
    ∃ r : F, r ≠ 0 ∧ zn (nlA k m) = (Z.of r).mul (zLine (sp k) (sp m) (sq 4)) := by
  obtain ⟨a1, a2, _, a4, a5⟩ := cT k1 k2
  obtain ⟨b1, b2, _, b4, b5⟩ := cT m1 m2
  have ok := sp_ok k; have om := sp_ok m
  have hne : fi (sp k).x - fi (sp m).x ≠ 0 := fun h => hx (fi_inj ⟨ok.x0, ok.x1⟩ ⟨om.x0, om.x1⟩ (by grobner))
  refine ⟨_, hne, ?_⟩
  have hs : sSlope (sp k) (sp m) = some (pMul (pSub (sp k).y (sp m).y) (pInv (pSub (sp k).x (sp m).x))) := by unfold sSlope; rw [if_pos hx]
  have hl : (fi (sp k).x - fi (sp m).x) * fi (pMul (pSub (sp k).y (sp m).y) (pInv (pSub (sp k).x (sp m).x))) = fi (sp k).y - fi (sp m).y := by
    rw [fi_pMul, fi_pInv, fi_pSub, fi_pSub]
    have := inv_mul hne
    rw [show (fi (sp k).x - fi (sp m).x) * ((fi (sp k).y - fi (sp m).y) * inv (fi (sp k).x - fi (sp m).x)) = (fi (sp k).y - fi (sp m).y) * (inv (fi (sp k).x - fi (sp m).x) * (fi (sp k).x - fi (sp m).x)) by grobner, this]; grobner
  unfold zLine
  rw [hs]
  simp only
  generalize fi (pMul (pSub (sp k).y (sp m).y) (pInv (pSub (sp k).x (sp m).x))) = s at *
  rw [base_xy.1, base_xy.2]
  apply Z.ext'
  · show fi (((cy k + (4051 - cy m)) * (1189 + cx k) + (4051 - cy k) * (cx k + (4051 - cx m))) % 4051 : Nat) = (fi (sp k).x - fi (sp m).x) * (s * (1189 + fi (sp k).x) - fi (sp k).y) - 0 * 3667
    rw [mod_fi, Int.natCast_add, Int.natCast_mul, Int.natCast_mul, fi_add, fi_mul, fi_mul, sub_fi (by omega), sub_fi (by omega), neg_fi (by omega), Int.natCast_add, fi_add, ← a1, ← a2, ← b1, ← b2, show fi ((1189 : Nat) : Int) = 1189 from rfl, ← hl]
    clear hl hs hne hx; grobner
  · show fi (((cx k + (4051 - cx m)) * 3667) % 4051 : Nat) = (fi (sp k).x - fi (sp m).x) * 3667 + 0 * _
    rw [mod_fi, Int.natCast_mul, fi_mul, sub_fi (by omega), ← a1, ← b1, show fi ((3667 : Nat) : Int) = 3667 from rfl]
    clear hl hs hne hx; grobner
theorem nlD_ok {k : Nat} (k1 : 1 ≤ k) (k2 : k < 4052) (hy : fi (sp k).y ≠ 0) :
    ∃ r : F, r ≠ 0 ∧ zn (nlD k) = (Z.of r).mul (zLine (sp k) (sp k) (sq 4)) := by
  obtain ⟨a1, a2, _, a4, a5⟩ := cT k1 k2
  have hy0 : ¬ ((sp k).y ≠ (sp k).y ∨ (sp k).y = 0) := fun h => h.elim (fun h => h rfl) (fun h => hy (by rw [h]; rfl))
  have hne : 2 * fi (sp k).y ≠ 0 := mul_ne two_ne hy
  refine ⟨_, hne, ?_⟩
  have hs : sSlope (sp k) (sp k) = some (pMul (pMul 3 (pMul (sp k).x (sp k).x) + 1) (pInv (2 * (sp k).y))) := by unfold sSlope; rw [if_neg (fun h => h rfl), if_neg hy0]
  have hl : 2 * fi (sp k).y * fi (pMul (pMul 3 (pMul (sp k).x (sp k).x) + 1) (pInv (2 * (sp k).y))) = 3 * (fi (sp k).x * fi (sp k).x) + 1 := by
    rw [fi_pMul, fi_pInv, fi_add, fi_pMul, fi_pMul, fi_mul]
    have h2 : fi 2 = 2 := rfl
    have h3 : fi 3 = 3 := rfl
    rw [h2, h3, fi_one]
    have := inv_mul hne
    rw [show 2 * fi (sp k).y * ((3 * (fi (sp k).x * fi (sp k).x) + 1) * inv (2 * fi (sp k).y)) = (3 * (fi (sp k).x * fi (sp k).x) + 1) * (inv (2 * fi (sp k).y) * (2 * fi (sp k).y)) by grobner, this]; grobner
  unfold zLine
  rw [hs]
  simp only
  generalize fi (pMul (pMul 3 (pMul (sp k).x (sp k).x) + 1) (pInv (2 * (sp k).y))) = s at *
  rw [base_xy.1, base_xy.2]
  apply Z.ext'
  · show fi (((3 * cx k * cx k + 1) * (1189 + cx k) + 2 * cy k * (4051 - cy k)) % 4051 : Nat) = (2 * fi (sp k).y) * (s * (1189 + fi (sp k).x) - fi (sp k).y) - 0 * 3667
    rw [mod_fi, Int.natCast_add, Int.natCast_mul, Int.natCast_mul, Int.natCast_mul, fi_add, fi_mul, fi_mul, fi_mul, neg_fi (by omega), Int.natCast_add, Int.natCast_add, Int.natCast_mul, Int.natCast_mul, fi_add, fi_add, fi_mul, fi_mul, ← a1, ← a2, show fi ((1189 : Nat) : Int) = 1189 from rfl, show fi ((1 : Nat) : Int) = 1 from rfl, show fi ((2 : Nat) : Int) = 2 from rfl, show fi ((3 : Nat) : Int) = 3 from rfl]
    rw [show 3 * fi (sp k).x * fi (sp k).x + 1 = 3 * (fi (sp k).x * fi (sp k).x) + 1 by grobner, ← hl]
    clear hl hs hne hy hy0; grobner
  · show fi ((2 * cy k * 3667) % 4051 : Nat) = (2 * fi (sp k).y) * 3667 + 0 * _
    rw [mod_fi, Int.natCast_mul, Int.natCast_mul, fi_mul, fi_mul, ← a2, show fi ((3667 : Nat) : Int) = 3667 from rfl, show fi ((2 : Nat) : Int) = 2 from rfl]
    clear hl hs hne hy hy0; grobner
theorem xne {a b : Sp} (fa : a.far = false) (fb : b.far = false) (h : a ≠ b) (fs : (sSum a b).far = false) : a.x ≠ b.x := fun e => by
  obtain ⟨s, hs⟩ := slope_none fa fb fs
  unfold sSlope at hs
  rw [if_neg (fun k => k e)] at hs
  by_cases hy : a.y ≠ b.y ∨ a.y = 0
  · rw [if_pos hy] at hs; cases hs
  · exact h (Sp.ext' e (by omega) (fa.trans fb.symm))
/-- An adding comes at no sooner than twice. -/
def agood : Nat → List Bool → Bool
  | _, [] => true
  | k, o :: l => (!o || Nat.ble 2 k) && agood (cstep k o) l
def NR (i k : Nat) (n : (Nat × Nat) × Nat) (st : Z × Sp) : Prop :=
  n.2 = (4 * i * k) % 4052 ∧ n.1.2 ≤ 4051 ∧ st.2 = sq (4 * (i : Int) * k) ∧ ∃ r : F, r ≠ 0 ∧ zn n.1 = (Z.of r).mul st.1
theorem sq_sp (i k : Nat) : sq (4 * (i : Int) * k) = sp ((4 * i * k) % 4052) := by
  rw [sp_mod, ← sq_nat]; congr 1
theorem qm2_ok (p q : Nat × Nat) (h : p.2 ≤ 4051) : (qm2 p q).2 ≤ 4051 ∧ zn (qm2 p q) = (zn p).mul (zn q) := ⟨qm_le _ _ _ _, qm_ok _ _ _ _ h⟩
theorem alg_a (r s : F) (f l : Z) : ((Z.of r).mul f).mul ((Z.of s).mul l) = (Z.of (r * s)).mul (f.mul l) := by
  rw [← Z.of_mul]; ac_rfl
theorem NR_step {i k : Nat} {o : Bool} (hi : (i : Int) % 1013 ≠ 0) (h1 : 1 ≤ k) (hk : k ≤ 1012) (h2 : cstep k o ≤ 1012) (ho : (!o || Nat.ble 2 k) = true) {n : (Nat × Nat) × Nat} {st : Z × Sp}
    (h : NR i k n st) : NR i (cstep k o) (nstep (4 * i % 4052) n o) (mstep (sq (4 * (i : Int))) (sq 4) st o) := by
  obtain ⟨n1, n2, n3, r, hr, n4⟩ := h
  have hf := far_k hi h1 hk
  have hp : 1 ≤ (4 * i * k) % 4052 := by
    have := mul_i_ne (i := i) (k := k) hi (by omega) (by omega)
    have c : ((4 * i * k : Nat) : Int) = 4 * (i : Int) * (k : Int) := by rw [Int.natCast_mul, Int.natCast_mul]; rfl
    rw [← c] at this
    omega
  obtain ⟨⟨p, q⟩, kk⟩ := n
  obtain ⟨f, T⟩ := st
  simp only at n1 n2 n3 n4
  subst n1 n3
  cases o
  · simp only [cstep, Bool.false_eq_true, if_false] at h2 ⊢
    have e : sSum (sq (4 * (i : Int) * k)) (sq (4 * (i : Int) * k)) = sq (4 * (i : Int) * ((k + k : Nat) : Int)) := by rw [sq_add]; congr 1; rw [Int.natCast_add, Int.mul_add]
    have ay := y_k hi h1 hk
    rw [sq_sp] at ay
    obtain ⟨s, hs, nl⟩ := nlD_ok hp (Nat.mod_lt _ (by decide)) ay
    have q1 := qm2_ok (p, q) (p, q) n2
    have q2 := qm2_ok (qm2 (p, q) (p, q)) (nlD ((4 * i * k) % 4052)) q1.1
    refine ⟨?_, q2.1, ?_, r * r * s, mul_ne (mul_ne hr hr) hs, ?_⟩
    · show ((4 * i * k) % 4052 + (4 * i * k) % 4052) % 4052 = (4 * i * (k + k)) % 4052
      rw [Nat.mul_add]; omega
    · simp only [mstep, Bool.false_eq_true, if_false]; exact e
    · show zn (qm2 (qm2 (p, q) (p, q)) (nlD ((4 * i * k) % 4052))) = _
      rw [q2.2, q1.2, nl, n4]
      simp only [mstep, Bool.false_eq_true, if_false]
      rw [sq_sp, alg_a, alg_a]
  · simp only [cstep, if_true] at h2 ⊢
    simp only [Bool.not_true, Bool.false_or, Nat.ble_eq] at ho
    have e1 : sq (4 * (i : Int)) = sq (4 * (i : Int) * (1 : Nat)) := by congr 1; simp
    have e : sSum (sq (4 * (i : Int) * k)) (sq (4 * (i : Int))) = sq (4 * (i : Int) * ((k + 1 : Nat) : Int)) := by rw [sq_add, show 4 * (i : Int) * ((k + 1 : Nat) : Int) = 4 * (i : Int) * k + 4 * (i : Int) by rw [Int.natCast_add, Int.mul_add, Int.natCast_one, Int.mul_one]]
    have fa : (sq (4 * (i : Int))).far = false := by rw [e1]; exact far_k hi (by decide) (by decide)
    have ne : sq (4 * (i : Int) * k) ≠ sq (4 * (i : Int)) := fun h => by
      have := sq_eq_iff.mp h
      have w := mul_i_ne (i := i) (k := (k : Int) - 1) hi (by omega) (by omega)
      rw [Int.mul_sub] at w
      simp only [Int.mul_one] at w
      omega
    have hx := xne hf fa ne (by rw [e]; exact far_k hi (by omega) h2)
    have hm : sq (4 * (i : Int)) = sp ((4 * i) % 4052) := by have := sq_sp i 1; rw [e1, this, Nat.mul_one]
    have hp2 : 1 ≤ (4 * i) % 4052 := by omega
    rw [sq_sp, hm] at hx
    obtain ⟨s, hs, nl⟩ := nlA_ok hp (Nat.mod_lt _ (by decide)) hp2 (Nat.mod_lt _ (by decide)) hx
    have q2 := qm2_ok (p, q) (nlA ((4 * i * k) % 4052) (4 * i % 4052)) n2
    refine ⟨?_, q2.1, ?_, r * s, mul_ne hr hs, ?_⟩
    · show ((4 * i * k) % 4052 + 4 * i % 4052) % 4052 = (4 * i * (k + 1)) % 4052
      rw [Nat.mul_add]; omega
    · simp only [mstep, if_true]; exact e
    · show zn (qm2 (p, q) (nlA ((4 * i * k) % 4052) (4 * i % 4052))) = _
      rw [q2.2, nl, n4]
      simp only [mstep, if_true]
      rw [sq_sp, hm, alg_a]
theorem NR_run {i : Nat} (hi : (i : Int) % 1013 ≠ 0) : ∀ (ops : List Bool) (k : Nat) (n : (Nat × Nat) × Nat) (st : Z × Sp), 1 ≤ k → k ≤ 1012 → cgood k ops = true → agood k ops = true → NR i k n st →
    NR i 1012 (ops.foldl (nstep (4 * i % 4052)) n) (ops.foldl (mstep (sq (4 * (i : Int))) (sq 4)) st)
  | [], k, _, _, _, _, hg, _, h => by simp only [cgood, Nat.beq_eq] at hg; subst hg; exact h
  | o :: l, k, n, st, h1, hk, hg, ha, h => by
    simp only [cgood, Bool.and_eq_true, Nat.ble_eq] at hg
    simp only [agood, Bool.and_eq_true] at ha
    exact NR_run hi l _ _ _ (cstep_ge h1) hg.1 hg.2 ha.2 (NR_step hi h1 hk hg.1 ha.1 h)
theorem cancelZ {a b c : Z} (hc : c.norm ≠ 0) (h : a.mul c = b.mul c) : a = b := by
  have e : (c.mul c.conj).mul (.of (inv c.norm)) = .one := by rw [Z.mul_conj, Z.of_mul, mul_inv hc]; rfl
  have := congrArg (fun z => z.mul (c.conj.mul (.of (inv c.norm)))) h
  have k : ∀ x : Z, (x.mul c).mul (c.conj.mul (.of (inv c.norm))) = x := fun x => by
    rw [show (x.mul c).mul (c.conj.mul (.of (inv c.norm))) = x.mul ((c.mul c.conj).mul (.of (inv c.norm))) by ac_rfl, e, Z.mul_one]
  rw [← k a, ← k b]; exact this
/-- The last power by what is turned. -/
theorem pow_conj {f z : Z} (hf : f.norm ≠ 0) (h : f.conj.pow 4 = (f.pow 4).mul z) : f.pow e16200 = z := by
  have a : (f.pow eNorm) = f.mul f.conj := by rw [frob_norm, Z.mul_conj]
  have b : (f.pow 4050).mul f = f.conj := by
    apply cancelZ hf
    rw [Z.mul_comm f.conj, ← a]; rfl
  have c : (f.pow e16200).mul (f.pow 4) = f.conj.pow 4 := by
    rw [← b, Z.mul_pow, ← Z.pow_mul]; rfl
  have n4 : (f.pow 4).norm ≠ 0 := by
    have : (f.pow 4) = (((Z.one.mul f).mul f).mul f).mul f := rfl
    rw [this, Z.one_mul, Z.norm_mul, Z.norm_mul, Z.norm_mul]; exact mul_ne (mul_ne (mul_ne hf hf) hf) hf
  apply cancelZ n4
  rw [c, h, Z.mul_comm]
theorem fourth_ok (p : Nat × Nat) (h : p.2 ≤ 4051) : zn (fourth p) = (zn p).pow 4 ∧ (fourth p).2 ≤ 4051 := by
  have a := qm2_ok p p h
  have b := qm2_ok (qm2 p p) (qm2 p p) a.1
  refine ⟨?_, b.1⟩
  unfold fourth
  rw [b.2, a.2]
  show _ = (((Z.one.mul (zn p)).mul (zn p)).mul (zn p)).mul (zn p)
  rw [Z.one_mul]; ac_rfl
theorem eqP_ok {p q : Nat × Nat} (h : eqP p q = true) : p = q := by
  simp only [eqP, Bool.and_eq_true, Nat.beq_eq] at h; exact Prod.ext h.1 h.2
theorem pairAt_ok {i : Nat} (hi : (i : Int) % 1013 ≠ 0) {ops : List Bool} (hg : cgood 1 ops = true) (ha : agood 1 ops = true) {z : Nat × Nat} (h : pairAt ops (4 * i % 4052) z = true) : zP ops (sq (4 * (i : Int))) (sq 4) = zn z := by
  have h0 : NR i 1 ((1, 0), 4 * i % 4052) (.one, sq (4 * (i : Int))) := ⟨by rw [Nat.mul_one], (by show 0 ≤ 4051; decide), by congr 1; simp, 1, one_ne, by rw [Z.mul_one]; rfl⟩
  obtain ⟨_, n2, _, r, hr, n4⟩ := NR_run hi ops 1 _ _ (by decide) (by decide) hg ha h0
  have hz := eqP_ok h
  unfold pairAt at h
  have e : zP ops (sq (4 * (i : Int))) (sq 4) = (mrun (sq (4 * (i : Int))) (sq 4) ops).1.pow e16200 := by unfold zP; rw [zM_eq hi hg]
  have nn : (mrun (sq (4 * (i : Int))) (sq 4) ops).1.norm ≠ 0 := by
    rw [← zM_eq hi hg]; exact zM_norm (j := 1) (by decide)
  change zn (nrun (4 * i % 4052) ops).1 = (Z.of r).mul (mrun (sq (4 * (i : Int))) (sq 4) ops).1 at n4
  change (nrun (4 * i % 4052) ops).1.2 ≤ 4051 at n2
  rw [e]
  generalize (mrun (sq (4 * (i : Int))) (sq 4) ops).1 = f at *
  generalize (nrun (4 * i % 4052) ops).1 = p at *
  have ef : (zn p).pow e16200 = f.pow e16200 := by rw [n4, Z.mul_pow, pof_e hr, Z.one_mul]
  rw [← ef]
  have hpn : (zn p).norm ≠ 0 := by rw [n4, Z.norm_mul, Z.norm_of]; exact mul_ne (mul_ne hr hr) nn
  apply pow_conj hpn
  have c : zn (p.1, (4051 - p.2) % 4051) = (zn p).conj := Z.ext' rfl (by
    show fi ((4051 - p.2) % 4051 : Nat) = - fi (p.2 : Int)
    rw [mod_fi, neg_fi n2])
  have l := fourth_ok (p.1, (4051 - p.2) % 4051) (by show (4051 - p.2) % 4051 ≤ 4051; omega)
  have r2 := fourth_ok p n2
  have m := qm2_ok (fourth p) z r2.2
  rw [← c, ← l.1, hz, m.2, r2.1]
theorem chkP_at (ops : List Bool) : ∀ (n i : Nat) (z : Nat × Nat), z.2 ≤ 4051 → chkP ops n i z = true → ∀ j, j < n → ∃ y : Nat × Nat, pairAt ops (4 * (i + j)) y = true ∧ zn y = (zn z).mul ((zn (2824, 4013)).pow j)
  | 0, _, _, _, _, _, hj => absurd hj (Nat.not_lt_zero _)
  | n+1, i, z, hz, h, j, hj => by
    simp only [chkP, Bool.and_eq_true] at h
    match j with
    | 0 => exact ⟨z, h.1, (Z.mul_one _).symm⟩
    | j+1 =>
      have q := qm2_ok z (2824, 4013) hz
      obtain ⟨y, y1, y2⟩ := chkP_at ops n (i+1) _ q.1 h.2 j (by omega)
      refine ⟨y, by rw [show i + (j + 1) = i + 1 + j by omega]; exact y1, ?_⟩
      rw [y2, q.2]
      show _ = (zn z).mul (((zn (2824, 4013)).pow j).mul (zn (2824, 4013)))
      ac_rfl
/-- The pair of the base and itself. -/
def zeta : Z := zn (2824, 4013)
theorem zP_base {ops : List Bool} (hg : cgood 1 ops = true) (ha : agood 1 ops = true) (hc : chkP ops 1012 1 (2824, 4013) = true) {i : Nat} (h1 : 1 ≤ i) (h2 : i ≤ 1012) : zP ops (sq (4 * (i : Int))) (sq 4) = zeta.pow i := by
  obtain ⟨y, y1, y2⟩ := chkP_at ops 1012 1 _ (by decide) hc (i - 1) (by omega)
  rw [show 1 + (i - 1) = i by omega] at y1
  have e : 4 * i % 4052 = 4 * i := Nat.mod_eq_of_lt (by omega)
  rw [← e] at y1
  rw [pairAt_ok (by omega) hg ha y1, y2, Z.mul_comm, show zeta.pow i = zeta.pow ((i - 1) + 1) by congr 1; omega]; rfl
theorem zP_all {ops : List Bool} (hg : cgood 1 ops = true) (ha : agood 1 ops = true) (hc : chkP ops 1012 1 (2824, 4013) = true) {i j : Nat} (h1 : 1 ≤ i) (h2 : i ≤ 1012) (h3 : 1 ≤ j) (h4 : j ≤ 1012) :
    zP ops (sq (4 * (i : Int))) (sq (4 * (j : Int))) = zeta.pow (i * j) := by
  rw [zP_lin (by omega) hg j h3 h4, zP_base hg ha hc h1 h2, Z.pow_mul]
theorem zeta_ne : zeta ≠ .one := fun h => by
  have := congrArg Z.re h; exact absurd this (by decide +kernel)
theorem zeta_whole : zeta.pow 1013 = .one := by
  have h := zP_base goOps_good (by decide) chkP_go (i := 1) (by decide) (by decide)
  have w := zP_whole (i := 4 * 1) (ops := goOps) (j := 1) (by decide)
  have e : zeta.pow 1 = zeta := Z.one_mul _
  rw [e] at h
  rw [← h]; exact w
theorem zeta_norm : zeta.norm = 1 := by decide +kernel
end Go.Proofs.YtfnifdmnbccblaaDoor
