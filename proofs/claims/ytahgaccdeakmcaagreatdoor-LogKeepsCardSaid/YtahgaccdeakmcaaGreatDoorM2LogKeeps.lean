/- Texts of this claim, in one. -/
import Derived.Test.YtahgaccdeakmcaaGreatDoorM3LogKeeps
import Derived.Test.YtahgaccdeakmcaaGreatDoorSf
import Derived.Test.YtahgaccdeakmcaaGreatDoorM4LogKeeps
import Derived.Deep.RegionWith
import Derived.Test.YtahgaccdeakmcaaGreatDoorRd
import Derived.Laws.Entries
import Derived.Test.YtahgaccdeakmcaaGreatDoorRo
import Derived.Deep.AppendLies
import Derived.Deep.RegionLaw
import Derived.Deep.DrawnRows
namespace Go.Proofs.YtahgaccdeakmcaaGreatDoor
/-- One step: false: the number is squared, times the line that touches, the spot doubled; true: times the line through the spot and a, which is added. -/
def mstep (a b : Sp) (st : Z × Sp) (o : Bool) : Z × Sp :=
  if o then (st.1.mul (zLine st.2 a b), sSum st.2 a) else ((st.1.mul st.1).mul (zLine st.2 st.2 b), sSum st.2 st.2)
def mrun (a b : Sp) (ops : List Bool) : Z × Sp := ops.foldl (mstep a b) (.one, a)
def cstep (k : Nat) (o : Bool) : Nat := if o then k + 1 else k + k
/-- All that is met on the way is below 1013. -/
def cgood : Nat → List Bool → Bool
  | k, [] => Nat.beq k 1012
  | k, o :: l => Nat.ble (cstep k o) 1012 && cgood (cstep k o) l
theorem fi_y_ne {s : Sp} (h : Ok s) (hf : s.far = false) (h2 : (sSum s s).far = false) : fi s.y ≠ 0 := fun e => by
  have hy := (fi_zero_iff ⟨h.y0, h.y1⟩).mp e
  have : sSlope s s = none := by unfold sSlope; rw [if_neg (by simp), if_pos (Or.inr hy)]
  unfold sSum at h2; rw [hf, this] at h2; cases h2
theorem sq_far_false {a : Int} : (sq a).far = false ↔ a % 4052 ≠ 0 := by
  have := @sq_far a
  cases h : (sq a).far
  · rw [h] at this; simp at this; simp [this]
  · rw [h] at this; simp at this; simp [this]
theorem of_swap (r : F) (a b : Z) : (a.mul (.of r)).mul b = (Z.of r).mul (a.mul b) := by rw [Z.mul_comm a, Z.mul_assoc]
theorem norm_mv {s n t u : F} (h : u ≠ 0) : (mv s n t u).norm ≠ 0 := fun e => h (Z.norm_zero e).1
section
variable (i : Int) (b c : Sp) (s n : F)
/-- The value at so many times the first spot. -/
def mk' (k : Nat) : Z := mv s n (fi (sq (4 * i * k)).x) (fi (sq (4 * i * k)).y)
theorem mul_i_ne {i k : Int} (hi : i % 1013 ≠ 0) (h1 : 1 ≤ k) (h2 : k ≤ 1012) : (4 * i * k) % 4052 ≠ 0 := by
  intro h
  have h4 : (4 * (i * k)) % (4 * 1013) = 0 := by rw [← Int.mul_assoc]; exact h
  rw [Int.mul_emod_mul_of_pos _ _ (by decide)] at h4
  have h3 : (i * k) % 1013 = 0 := by omega
  have d : 1013 ∣ i.natAbs * k.natAbs := by rw [← Int.natAbs_mul]; exact Int.natAbs_dvd_natAbs.mpr (Int.dvd_of_emod_eq_zero h3)
  have p : Nat.Coprime 1013 k.natAbs := by
    have g : ∀ m : Nat, m < 1012 → Nat.gcd 1013 (m + 1) = 1 := by decide +kernel
    have e : k.natAbs = (k.natAbs - 1) + 1 := by omega
    unfold Nat.Coprime; rw [e]; exact g _ (by omega)
  have := Nat.Coprime.dvd_of_dvd_mul_right p d
  exact hi (by omega)
theorem far_k {i : Int} {k : Nat} (hi : i % 1013 ≠ 0) (h1 : 1 ≤ k) (h2 : k ≤ 1012) : (sq (4 * i * k)).far = false :=
  sq_far_false.mpr (mul_i_ne hi (by omega) (by omega))
theorem y_k {i : Int} {k : Nat} (hi : i % 1013 ≠ 0) (h1 : 1 ≤ k) (h2 : k ≤ 1012) : fi (sq (4 * i * k)).y ≠ 0 := by
  refine fi_y_ne (sq_ok _) (far_k hi h1 h2) ?_
  rw [sq_add]
  refine sq_far_false.mpr fun h => ?_
  have h3 := mul_i_ne (i := i) (k := k) hi (by omega) (by omega)
  rw [Int.mul_assoc] at h h3
  generalize i * (k : Int) = m at *
  omega
def Good (k : Nat) (fb fc fd : Z) : Prop := ∃ r : F, r ≠ 0 ∧ (fb.mul fc).mul fd.conj = (Z.of r).mul (((mk' i s n 1).pow k).mul (mk' i s n k).conj)
theorem good_start (hi : i % 1013 ≠ 0) : Good i s n 1 .one .one .one := by
  refine ⟨inv (mk' i s n 1).norm, fun h => ?_, ?_⟩
  · have := mul_inv (norm_mv (s := s) (n := n) (t := fi (sq (4 * i * (1 : Nat))).x) (y_k (k := 1) hi (by decide) (by decide)))
    have e : (mk' i s n 1).norm * inv (mk' i s n 1).norm = 1 := this
    rw [h] at e; exact one_ne (by rw [← e]; grobner)
  · have h1 : ((mk' i s n 1).pow 1).mul (mk' i s n 1).conj = .of (mk' i s n 1).norm := by
      rw [← Z.mul_conj, Z.pow_one]
    have e : inv (mk' i s n 1).norm * (mk' i s n 1).norm = 1 := inv_mul (norm_mv (y_k (k := 1) hi (by decide) (by decide)))
    rw [h1, Z.of_mul, e]
    exact Z.ext' (by decide) (by decide)
instance : Std.Associative Z.mul := ⟨Z.mul_assoc⟩
instance : Std.Commutative Z.mul := ⟨Z.mul_comm⟩
theorem dbl_alg (a b c x y z : Z) : (((a.mul a).mul x).mul ((b.mul b).mul y)).mul ((c.mul c).mul z) = (((a.mul b).mul c).mul ((a.mul b).mul c)).mul ((x.mul y).mul z) := by ac_rfl
theorem add_alg (a b c x y z : Z) : ((a.mul x).mul (b.mul y)).mul (c.mul z) = ((a.mul b).mul c).mul ((x.mul y).mul z) := by ac_rfl
theorem dbl_alg2 (r p t u v : Z) : ((r.mul (p.mul u)).mul (r.mul (p.mul u))).mul ((t.mul t).mul v) = ((r.mul r).mul ((t.mul u).mul (t.mul u))).mul ((p.mul p).mul v) := by ac_rfl
theorem add_alg2 (r p m t u v : Z) : (r.mul (p.mul u)).mul ((t.mul m).mul v) = (r.mul (t.mul u)).mul ((p.mul m).mul v) := by ac_rfl
theorem good_step {i : Int} {b c : Sp} {s n : F} (hi : i % 1013 ≠ 0) (hl : LineOf b c s n) {k : Nat} {o : Bool} (h1 : 1 ≤ k) (hk : k ≤ 1012) (h2 : cstep k o ≤ 1012) {fb fc fd : Z} (h : Good i s n k fb fc fd) :
    Good i s n (cstep k o) (mstep (sq (4 * i)) b (fb, sq (4 * i * k)) o).1 (mstep (sq (4 * i)) c (fc, sq (4 * i * k)) o).1 (mstep (sq (4 * i)) (sSum b c) (fd, sq (4 * i * k)) o).1 := by
  obtain ⟨r, hr, h⟩ := h
  have hn : (mk' i s n k).norm ≠ 0 := norm_mv (y_k hi h1 hk)
  have hc : (mk' i s n k).mul (mk' i s n k).conj = .of (mk' i s n k).norm := Z.mul_conj _
  cases o
  · simp only [cstep, Bool.false_eq_true, if_false] at h2
    have e : sSum (sq (4 * i * k)) (sq (4 * i * k)) = sq (4 * i * ((k + k : Nat) : Int)) := by rw [sq_add]; congr 1; rw [Int.natCast_add, Int.mul_add]
    have st := step_recip (sq_ok _) (sq_ok _) (far_k hi h1 hk) (far_k hi h1 hk) (by rw [e]; exact far_k hi (by omega) h2) hl
    rw [e] at st
    refine ⟨r * r * ((mk' i s n k).norm * (mk' i s n k).norm), mul_ne (mul_ne hr hr) (mul_ne hn hn), ?_⟩
    simp only [mstep, cstep, Bool.false_eq_true, if_false]
    rw [Z.conj_mul, Z.conj_mul, dbl_alg, h, st]
    show (((Z.of r).mul (((mk' i s n 1).pow k).mul (mk' i s n k).conj)).mul ((Z.of r).mul (((mk' i s n 1).pow k).mul (mk' i s n k).conj))).mul (((mk' i s n k).mul (mk' i s n k)).mul (mk' i s n (k + k)).conj) = _
    rw [dbl_alg2, hc, Z.of_mul, Z.of_mul, Z.of_mul, Z.pow_add]
  · simp only [cstep, if_true] at h2
    have e : sSum (sq (4 * i * k)) (sq (4 * i)) = sq (4 * i * ((k + 1 : Nat) : Int)) := by rw [sq_add]; congr 1; rw [Int.natCast_add, Int.mul_add]; simp
    have e1 : sq (4 * i) = sq (4 * i * (1 : Nat)) := by congr 1; simp
    have st := step_recip (sq_ok _) (sq_ok (4 * i)) (far_k hi h1 hk) (by rw [e1]; exact far_k hi (by decide) (by decide)) (by rw [e]; exact far_k hi (by omega) h2) hl
    rw [e] at st
    refine ⟨r * (mk' i s n k).norm, mul_ne hr hn, ?_⟩
    simp only [mstep, cstep, if_true]
    rw [Z.conj_mul, add_alg, h, st]
    have em : mv s n (fi (sq (4 * i)).x) (fi (sq (4 * i)).y) = mk' i s n 1 := by unfold mk'; rw [← e1]
    rw [em]
    show ((Z.of r).mul (((mk' i s n 1).pow k).mul (mk' i s n k).conj)).mul (((mk' i s n k).mul (mk' i s n 1)).mul (mk' i s n (k + 1)).conj) = _
    rw [add_alg2, hc, Z.of_mul, ← Z.pow_succ]
theorem cstep_ge {k : Nat} {o : Bool} (h : 1 ≤ k) : 1 ≤ cstep k o := by cases o <;> simp only [cstep] <;> simp <;> omega
theorem mstep_sp {i : Int} {b : Sp} {f : Z} {k : Nat} {o : Bool} : (mstep (sq (4 * i)) b (f, sq (4 * i * k)) o).2 = sq (4 * i * (cstep k o : Nat)) := by
  cases o
  · simp only [mstep, cstep, Bool.false_eq_true, if_false]; rw [sq_add]; congr 1; rw [Int.natCast_add, Int.mul_add]
  · simp only [mstep, cstep, if_true]; rw [sq_add]; congr 1; rw [Int.natCast_add, Int.mul_add]; simp
theorem good_run {i : Int} {b c : Sp} {s n : F} (hi : i % 1013 ≠ 0) (hl : LineOf b c s n) : ∀ (ops : List Bool) (k : Nat) (fb fc fd : Z), 1 ≤ k → k ≤ 1012 → cgood k ops = true → Good i s n k fb fc fd →
    Good i s n 1012 (ops.foldl (mstep (sq (4 * i)) b) (fb, sq (4 * i * k))).1 (ops.foldl (mstep (sq (4 * i)) c) (fc, sq (4 * i * k))).1 (ops.foldl (mstep (sq (4 * i)) (sSum b c)) (fd, sq (4 * i * k))).1
  | [], k, fb, fc, fd, _, _, hg, h => by
    simp only [cgood, Nat.beq_eq] at hg; subst hg; exact h
  | o :: l, k, fb, fc, fd, h1, hk, hg, h => by
    simp only [cgood, Bool.and_eq_true, Nat.ble_eq] at hg
    have g := good_step hi hl h1 hk hg.1 h
    have r := good_run hi hl l (cstep k o) _ _ _ (cstep_ge h1) hg.1 hg.2 g
    simp only [List.foldl_cons]
    have pe : ∀ (x : Sp) (f : Z), mstep (sq (4 * i)) x (f, sq (4 * i * k)) o = ((mstep (sq (4 * i)) x (f, sq (4 * i * k)) o).1, sq (4 * i * (cstep k o : Nat))) := fun x f => Prod.ext rfl mstep_sp
    rw [pe b, pe c, pe (sSum b c)]
    exact r
def e16200 : Nat := 4050 * 4
theorem ppow_add (a : F) (m : Nat) : ∀ n, a ^ (m + n) = a ^ m * a ^ n
  | 0 => by grobner
  | n+1 => by
    have h1 : a ^ (m + (n + 1)) = a ^ (m + n) * a := by rw [← Nat.add_assoc]; grobner
    have h2 : a ^ (n + 1) = a ^ n * a := by grobner
    rw [h1, h2, ppow_add a m n]; grobner
theorem ppow_mul (a : F) (m : Nat) : ∀ n, a ^ (m * n) = (a ^ m) ^ n
  | 0 => by rw [Nat.mul_zero]; grobner
  | n+1 => by
    have h2 : (a ^ m) ^ (n + 1) = (a ^ m) ^ n * a ^ m := by grobner
    rw [Nat.mul_succ, ppow_add, h2, ppow_mul a m n]
theorem pone_pow : ∀ n : Nat, (1 : F) ^ n = 1
  | 0 => by grobner
  | n+1 => by have : (1 : F) ^ (n+1) = 1 ^ n * 1 := by grobner
              rw [this, pone_pow n]; grobner
theorem pof_e {r : F} (h : r ≠ 0) : (Z.of r).pow e16200 = .one := by
  rw [Z.of_pow, show e16200 = (eInv + 1) * 4 from rfl, ppow_mul, fpow_inv h, pone_pow]; rfl
theorem whole_e {z : Z} (h : z.norm ≠ 0) : (z.pow 1013).pow e16200 = .one := by
  rw [← Z.pow_mul, show 1013 * e16200 = eNorm * (eInv + 1) from rfl, Z.pow_mul, frob_norm, Z.of_pow, fpow_inv h]; rfl
theorem conj_e {z : Z} (h : z.norm ≠ 0) : (z.pow e16200).mul (z.pow e16200).conj = .one := by
  rw [Z.mul_conj, Z.norm_pow, show e16200 = (eInv + 1) * 4 from rfl, ppow_mul, fpow_inv h, pone_pow]; rfl
end
end Go.Proofs.YtahgaccdeakmcaaGreatDoor
namespace Go.Proofs.YtahgaccdeakmcaaGreatDoor
attribute [local semireducible] Z.pow
theorem norm_one : Z.one.norm = 1 := by decide
theorem norm_line {a b t : Sp} (h : fi t.y ≠ 0) : (zLine a b t).norm ≠ 0 := by
  unfold zLine
  split
  · rw [norm_one]; decide
  · exact fun e => h (Z.norm_zero e).2
theorem norm_mstep {a b : Sp} (h : fi b.y ≠ 0) {st : Z × Sp} (hs : st.1.norm ≠ 0) (o : Bool) : (mstep a b st o).1.norm ≠ 0 := by
  cases o
  · simp only [mstep, Bool.false_eq_true, if_false]; rw [Z.norm_mul, Z.norm_mul]; exact mul_ne (mul_ne hs hs) (norm_line h)
  · simp only [mstep, if_true]; rw [Z.norm_mul]; exact mul_ne hs (norm_line h)
theorem norm_run {a b : Sp} (h : fi b.y ≠ 0) : ∀ (ops : List Bool) (st : Z × Sp), st.1.norm ≠ 0 → (ops.foldl (mstep a b) st).1.norm ≠ 0
  | [], _, hs => hs
  | o :: l, st, hs => by rw [List.foldl_cons]; exact norm_run h l _ (norm_mstep h hs o)
theorem run_sp {i : Int} {b : Sp} : ∀ (ops : List Bool) (k : Nat) (f : Z), cgood k ops = true → (ops.foldl (mstep (sq (4 * i)) b) (f, sq (4 * i * k))).2 = sq (4 * i * (1012 : Nat))
  | [], k, f, hg => by simp only [cgood, Nat.beq_eq] at hg; subst hg; rfl
  | o :: l, k, f, hg => by
    simp only [cgood, Bool.and_eq_true] at hg
    rw [List.foldl_cons, show mstep (sq (4 * i)) b (f, sq (4 * i * k)) o = ((mstep (sq (4 * i)) b (f, sq (4 * i * k)) o).1, sq (4 * i * (cstep k o : Nat))) from Prod.ext rfl mstep_sp]
    exact run_sp l _ _ hg.2
theorem sq_1012 (i : Int) : sq (4 * i * (1012 : Nat)) = sTurned (sq (4 * i)) := by
  rw [sq_neg]; exact sq_eq_iff.mpr (by omega)
theorem line_last {i : Int} (hi : i % 1013 ≠ 0) (b : Sp) : zLine (sq (4 * i * (1012 : Nat))) (sq (4 * i)) b = .one := by
  unfold zLine
  have : sSlope (sq (4 * i * (1012 : Nat))) (sq (4 * i)) = none := by
    cases e : sSlope (sq (4 * i * (1012 : Nat))) (sq (4 * i)) with
    | none => rfl
    | some s =>
      exfalso
      have e1 : sq (4 * i) = sq (4 * i * (1 : Nat)) := by congr 1; simp
      have f1 : (sq (4 * i)).far = false := by rw [e1]; exact far_k hi (by decide) (by decide)
      have f2 := far_k (i := i) (k := 1012) hi (by decide) (by decide)
      have h := (slope_line (sq_ok _) (sq_ok _) f2 f1 e).far
      rw [sq_add] at h
      have : (sq (4 * i * (1012 : Nat) + 4 * i)).far = true := sq_far.mpr (by omega)
      rw [this] at h; cases h
  rw [this]
/-- Miller's number along a chain, before the last power; 'ops' ends with the last adding. -/
def zM (ops : List Bool) (a b : Sp) : Z := (mrun a b (ops ++ [true])).1
theorem zM_eq {i : Int} (hi : i % 1013 ≠ 0) {ops : List Bool} (hg : cgood 1 ops = true) (b : Sp) : zM ops (sq (4 * i)) b = (mrun (sq (4 * i)) b ops).1 := by
  unfold zM mrun
  rw [List.foldl_append]
  have e1 : sq (4 * i) = sq (4 * i * (1 : Nat)) := by congr 1; simp
  have e : (ops.foldl (mstep (sq (4 * i)) b) (.one, sq (4 * i))).2 = sq (4 * i * (1012 : Nat)) := by
    conv => lhs; rw [show (Z.one, sq (4 * i)) = (Z.one, sq (4 * i * (1 : Nat))) by rw [← e1]]
    exact run_sp ops 1 _ hg
  simp only [List.foldl_cons, List.foldl_nil, mstep, if_true]
  rw [e, line_last hi, Z.mul_one]
def zP (ops : List Bool) (a b : Sp) : Z := (zM ops a b).pow e16200
theorem zP_sum {i : Int} (hi : i % 1013 ≠ 0) {ops : List Bool} (hg : cgood 1 ops = true) {b c : Sp} (hb : Ok b) (hc : Ok c) (fb : b.far = false) (fc : c.far = false) (fs : (sSum b c).far = false) (yd : fi (sSum b c).y ≠ 0) :
    (zP ops (sq (4 * i)) b).mul (zP ops (sq (4 * i)) c) = zP ops (sq (4 * i)) (sSum b c) := by
  obtain ⟨l, hs⟩ := slope_none fb fc fs
  have hl := slope_line hb hc fb fc hs
  have e1 : sq (4 * i) = sq (4 * i * (1 : Nat)) := by congr 1; simp
  have g := good_run hi hl ops 1 _ _ _ (by decide) (by decide) hg (good_start i _ _ hi)
  have em : ∀ x, (ops.foldl (mstep (sq (4 * i)) x) (.one, sq (4 * i * (1 : Nat)))).1 = zM ops (sq (4 * i)) x := fun x => by
    rw [zM_eq hi hg, mrun]; conv => rhs; rw [show (Z.one, sq (4 * i)) = (Z.one, sq (4 * i * (1 : Nat))) by rw [← e1]]
  rw [em, em, em] at g
  obtain ⟨r, hr, g⟩ := g
  have y1 := y_k (i := i) (k := 1) hi (by decide) (by decide)
  have ec : (mk' i (fi l) (fi b.y - fi l * fi b.x) 1012).conj = (Z.of (-1)).mul (mk' i (fi l) (fi b.y - fi l * fi b.x) 1) := by
    have ex : fi (sq (4 * i * (1012 : Nat))).x = fi (sq (4 * i * (1 : Nat))).x := by rw [sq_1012, ← e1]; rfl
    have ey : fi (sq (4 * i * (1012 : Nat))).y = - fi (sq (4 * i * (1 : Nat))).y := by
      rw [sq_1012, ← e1]; show fi ((-(sq (4 * i)).y) % 4051) = _; rw [fi_mod, fi_neg]
    unfold mk' mv
    rw [ex, ey]
    apply Z.ext'
    · simp only [Z.conj, Z.of, Z.mul]; grobner
    · simp only [Z.conj, Z.of, Z.mul]; grobner
  rw [ec] at g
  generalize hM : mk' i (fi l) (fi b.y - fi l * fi b.x) 1 = M at *
  have hMn : M.norm ≠ 0 := by rw [← hM]; exact norm_mv y1
  have g2 : ((zM ops (sq (4 * i)) b).mul (zM ops (sq (4 * i)) c)).mul (zM ops (sq (4 * i)) (sSum b c)).conj = (Z.of (-r)).mul (M.pow 1013) := by
    rw [g, show Z.of (-r) = (Z.of r).mul (.of (-1)) by rw [Z.of_mul]; congr 1; grobner, show M.pow 1013 = (M.pow 1012).mul M from rfl]
    ac_rfl
  have hr' : -r ≠ 0 := fun h => hr (by grobner)
  have k := congrArg (fun z => Z.pow z e16200) g2
  simp only [Z.mul_pow] at k
  rw [pof_e hr', whole_e hMn, Z.one_mul, ← Z.conj_pow] at k
  have nd : (zM ops (sq (4 * i)) (sSum b c)).norm ≠ 0 := by
    unfold zM mrun; exact norm_run yd _ _ (by rw [norm_one]; decide)
  have w := conj_e nd
  show ((zM ops (sq (4 * i)) b).pow e16200).mul ((zM ops (sq (4 * i)) c).pow e16200) = (zM ops (sq (4 * i)) (sSum b c)).pow e16200
  have k2 := congrArg (fun z => z.mul ((zM ops (sq (4 * i)) (sSum b c)).pow e16200)) k
  rw [Z.one_mul, Z.mul_assoc, Z.mul_comm (((zM ops (sq (4 * i)) (sSum b c)).pow e16200).conj), w, Z.mul_one] at k2
  exact k2
theorem pfour_far {j : Int} (h : j % 1013 ≠ 0) : (sq (4 * j)).far = false := sq_far_false.mpr (by omega)
theorem four_y {j : Int} (h : j % 1013 ≠ 0) : fi (sq (4 * j)).y ≠ 0 := by
  have := y_k (i := j) (k := 1) h (by decide) (by decide)
  rw [show (4 * j * ((1 : Nat) : Int)) = 4 * j by simp] at this; exact this
/-- Of j times the base it is the power j. -/
theorem zP_lin {i : Int} (hi : i % 1013 ≠ 0) {ops : List Bool} (hg : cgood 1 ops = true) : ∀ j : Nat, 1 ≤ j → j ≤ 1012 → zP ops (sq (4 * i)) (sq (4 * j)) = (zP ops (sq (4 * i)) (sq 4)).pow j
  | 0, h, _ => by omega
  | 1, _, _ => (Z.one_mul _).symm
  | j+2, _, h => by
    have ih := zP_lin hi hg (j+1) (by omega) (by omega)
    show _ = ((zP ops (sq (4 * i)) (sq 4)).pow (j+1)).mul (zP ops (sq (4 * i)) (sq 4))
    rw [← ih]
    have e : sSum (sq (4 * ((j+1 : Nat) : Int))) (sq 4) = sq (4 * ((j + 2 : Nat) : Int)) := by rw [sq_add]; exact sq_eq_iff.mpr (by omega)
    rw [← e]
    exact (zP_sum hi hg (sq_ok _) (sq_ok 4) (pfour_far (by omega)) (show (sq 4).far = false from pfour_far (j := 1) (by decide)) (by rw [e]; exact pfour_far (by omega)) (by rw [e]; exact four_y (by omega))).symm
theorem zM_norm {i : Int} {ops : List Bool} {j : Int} (hj : j % 1013 ≠ 0) : (zM ops (sq i) (sq (4 * j))).norm ≠ 0 := by
  unfold zM mrun; exact norm_run (four_y hj) _ _ (by rw [norm_one]; decide)
theorem zP_whole {i : Int} {ops : List Bool} {j : Int} (hj : j % 1013 ≠ 0) : (zP ops (sq i) (sq (4 * j))).pow 1013 = .one := by
  have := whole_e (zM_norm (i := i) (ops := ops) hj)
  unfold zP; rw [← Z.pow_mul, Nat.mul_comm, Z.pow_mul]; exact this
theorem zP_norm {i : Int} {ops : List Bool} {j : Int} (hj : j % 1013 ≠ 0) : (zP ops (sq i) (sq (4 * j))).norm = 1 := by
  unfold zP; rw [Z.norm_pow, show e16200 = (eInv + 1) * 4 from rfl, ppow_mul, fpow_inv (zM_norm hj), pone_pow]
def goOps : List Bool := [false, true, false, true, false, true, false, true, false, true, false, false, true, false, false]
theorem goOps_good : cgood 1 goOps = true := by decide
end Go.Proofs.YtahgaccdeakmcaaGreatDoor
namespace Go.Proofs.YtahgaccdeakmcaaGreatDoor
attribute [local semireducible] Z.pow
def nlD (k : Nat) : Nat × Nat :=
  let x := cx k; let y := cy k
  (((3 * x * x + 1) * (1189 + x) + 2 * y * (4051 - y)) % 4051, (2 * y * 3667) % 4051)
def nlA (k m : Nat) : Nat × Nat :=
  let x := cx k; let y := cy k; let d := x + (4051 - cx m)
  (((y + (4051 - cy m)) * (1189 + x) + (4051 - y) * d) % 4051, (d * 3667) % 4051)
def qm2 (p q : Nat × Nat) : Nat × Nat := qm p.1 p.2 q.1 q.2
def nstep (a : Nat) (st : (Nat × Nat) × Nat) (o : Bool) : (Nat × Nat) × Nat :=
  match o with
  | true => (qm2 st.1 (nlA st.2 a), (st.2 + a) % 4052)
  | false => (qm2 (qm2 st.1 st.1) (nlD st.2), (st.2 + st.2) % 4052)
def nrun (a : Nat) (ops : List Bool) : (Nat × Nat) × Nat := ops.foldl (nstep a) ((1, 0), a)
def fourth (p : Nat × Nat) : Nat × Nat := qm2 (qm2 p p) (qm2 p p)
def eqP (p q : Nat × Nat) : Bool := Nat.beq p.1 q.1 && Nat.beq p.2 q.2
def pairAt (ops : List Bool) (a : Nat) (z : Nat × Nat) : Bool :=
  let f := (nrun a ops).1
  eqP (fourth (f.1, (4051 - f.2) % 4051)) (qm2 (fourth f) z)
def chkP (ops : List Bool) : Nat → Nat → Nat × Nat → Bool
  | 0, _, _ => true
  | n+1, i, z => pairAt ops (4 * i) z && chkP ops n (i + 1) (qm2 z (2824, 4013))
theorem chkP_go : chkP goOps 1012 1 (2824, 4013) = true := by decide +kernel
theorem cT {k : Nat} (h1 : 1 ≤ k) (h2 : k < 4052) : fi (sp k).x = fi (cx k : Int) ∧ fi (sp k).y = fi (cy k : Int) ∧ (sp k).far = false ∧ cx k < 4051 ∧ cy k < 4051 := by
  have e := sp_table h1 (by omega)
  have o := sp_ok k
  rw [e] at o ⊢
  have a := o.x1; have b := o.y1
  exact ⟨rfl, rfl, rfl, by simp only [cSp] at a; omega, by simp only [cSp] at b; omega⟩
theorem base_xy : fi (sq 4).x = 1189 ∧ fi (sq 4).y = 3667 := by
  have e : sq 4 = cSp 4 := (sq_nat 4).trans (sp_table (by decide) (by decide))
  rw [e]; exact ⟨by decide +kernel, by decide +kernel⟩
theorem sub_fi {a b : Nat} (h : b ≤ 4051) : fi ((a + (4051 - b) : Nat) : Int) = fi (a : Int) - fi (b : Int) := by
  rw [← fi_sub]; exact fi_eq.mpr (by omega)
theorem neg_fi {b : Nat} (h : b ≤ 4051) : fi ((4051 - b : Nat) : Int) = - fi (b : Int) := by
  rw [← fi_neg]; exact fi_eq.mpr (by omega)
theorem mod_fi (a : Nat) : fi ((a % 4051 : Nat) : Int) = fi (a : Int) := fi_eq.mpr (by omega)
theorem nlA_ok {k m : Nat} (k1 : 1 ≤ k) (k2 : k < 4052) (m1 : 1 ≤ m) (m2 : m < 4052) (hx : (sp k).x ≠ (sp m).x) :
    ∃ r : F, r ≠ 0 ∧ zn (nlA k m) = (Z.of r).mul (zLine (sp k) (sp m) (sq 4)) := by
  obtain ⟨a1, a2, _, a4, a5⟩ := cT k1 k2
  obtain ⟨b1, b2, _, b4, b5⟩ := cT m1 m2
  have ok := sp_ok k; have om := sp_ok m
  have hne : fi (sp k).x - fi (sp m).x ≠ 0 := fun h => hx (fi_inj ⟨ok.x0, ok.x1⟩ ⟨om.x0, om.x1⟩ (by grobner))
  refine ⟨_, hne, ?_⟩
  have hs : sSlope (sp k) (sp m) = some (pMul (pSub (sp k).y (sp m).y) (pInv (pSub (sp k).x (sp m).x))) := by unfold sSlope; rw [if_pos hx]
  have hl : (fi (sp k).x - fi (sp m).x) * fi (pMul (pSub (sp k).y (sp m).y) (pInv (pSub (sp k).x (sp m).x))) = fi (sp k).y - fi (sp m).y := by
    rw [fi_pMul, fi_pInv, fi_pSub, fi_pSub]
    have := inv_mul hne
    rw [show (fi (sp k).x - fi (sp m).x) * ((fi (sp k).y - fi (sp m).y) * inv (fi (sp k).x - fi (sp m).x)) = (fi (sp k).y - fi (sp m).y) * (inv (fi (sp k).x - fi (sp m).x) * (fi (sp k).x - fi (sp m).x)) by grobner, this]; grobner
  unfold zLine
  rw [hs]
  simp only
  generalize fi (pMul (pSub (sp k).y (sp m).y) (pInv (pSub (sp k).x (sp m).x))) = s at *
  rw [base_xy.1, base_xy.2]
  apply Z.ext'
  · show fi (((cy k + (4051 - cy m)) * (1189 + cx k) + (4051 - cy k) * (cx k + (4051 - cx m))) % 4051 : Nat) = (fi (sp k).x - fi (sp m).x) * (s * (1189 + fi (sp k).x) - fi (sp k).y) - 0 * 3667
    rw [mod_fi, Int.natCast_add, Int.natCast_mul, Int.natCast_mul, fi_add, fi_mul, fi_mul, sub_fi (by omega), sub_fi (by omega), neg_fi (by omega), Int.natCast_add, fi_add, ← a1, ← a2, ← b1, ← b2, show fi ((1189 : Nat) : Int) = 1189 from rfl, ← hl]
    clear hl hs hne hx; grobner
  · show fi (((cx k + (4051 - cx m)) * 3667) % 4051 : Nat) = (fi (sp k).x - fi (sp m).x) * 3667 + 0 * _
    rw [mod_fi, Int.natCast_mul, fi_mul, sub_fi (by omega), ← a1, ← b1, show fi ((3667 : Nat) : Int) = 3667 from rfl]
    clear hl hs hne hx; grobner
theorem nlD_ok {k : Nat} (k1 : 1 ≤ k) (k2 : k < 4052) (hy : fi (sp k).y ≠ 0) :
    ∃ r : F, r ≠ 0 ∧ zn (nlD k) = (Z.of r).mul (zLine (sp k) (sp k) (sq 4)) := by
  obtain ⟨a1, a2, _, a4, a5⟩ := cT k1 k2
  have hy0 : ¬ ((sp k).y ≠ (sp k).y ∨ (sp k).y = 0) := fun h => h.elim (fun h => h rfl) (fun h => hy (by rw [h]; rfl))
  have hne : 2 * fi (sp k).y ≠ 0 := mul_ne two_ne hy
  refine ⟨_, hne, ?_⟩
  have hs : sSlope (sp k) (sp k) = some (pMul (pMul 3 (pMul (sp k).x (sp k).x) + 1) (pInv (2 * (sp k).y))) := by unfold sSlope; rw [if_neg (fun h => h rfl), if_neg hy0]
  have hl : 2 * fi (sp k).y * fi (pMul (pMul 3 (pMul (sp k).x (sp k).x) + 1) (pInv (2 * (sp k).y))) = 3 * (fi (sp k).x * fi (sp k).x) + 1 := by
    rw [fi_pMul, fi_pInv, fi_add, fi_pMul, fi_pMul, fi_mul]
    have h2 : fi 2 = 2 := rfl
    have h3 : fi 3 = 3 := rfl
    rw [h2, h3, fi_one]
    have := inv_mul hne
    rw [show 2 * fi (sp k).y * ((3 * (fi (sp k).x * fi (sp k).x) + 1) * inv (2 * fi (sp k).y)) = (3 * (fi (sp k).x * fi (sp k).x) + 1) * (inv (2 * fi (sp k).y) * (2 * fi (sp k).y)) by grobner, this]; grobner
  unfold zLine
  rw [hs]
  simp only
  generalize fi (pMul (pMul 3 (pMul (sp k).x (sp k).x) + 1) (pInv (2 * (sp k).y))) = s at *
  rw [base_xy.1, base_xy.2]
  apply Z.ext'
  · show fi (((3 * cx k * cx k + 1) * (1189 + cx k) + 2 * cy k * (4051 - cy k)) % 4051 : Nat) = (2 * fi (sp k).y) * (s * (1189 + fi (sp k).x) - fi (sp k).y) - 0 * 3667
    rw [mod_fi, Int.natCast_add, Int.natCast_mul, Int.natCast_mul, Int.natCast_mul, fi_add, fi_mul, fi_mul, fi_mul, neg_fi (by omega), Int.natCast_add, Int.natCast_add, Int.natCast_mul, Int.natCast_mul, fi_add, fi_add, fi_mul, fi_mul, ← a1, ← a2, show fi ((1189 : Nat) : Int) = 1189 from rfl, show fi ((1 : Nat) : Int) = 1 from rfl, show fi ((2 : Nat) : Int) = 2 from rfl, show fi ((3 : Nat) : Int) = 3 from rfl]
    rw [show 3 * fi (sp k).x * fi (sp k).x + 1 = 3 * (fi (sp k).x * fi (sp k).x) + 1 by grobner, ← hl]
    clear hl hs hne hy hy0; grobner
  · show fi ((2 * cy k * 3667) % 4051 : Nat) = (2 * fi (sp k).y) * 3667 + 0 * _
    rw [mod_fi, Int.natCast_mul, Int.natCast_mul, fi_mul, fi_mul, ← a2, show fi ((3667 : Nat) : Int) = 3667 from rfl, show fi ((2 : Nat) : Int) = 2 from rfl]
    clear hl hs hne hy hy0; grobner
theorem xne {a b : Sp} (fa : a.far = false) (fb : b.far = false) (h : a ≠ b) (fs : (sSum a b).far = false) : a.x ≠ b.x := fun e => by
  obtain ⟨s, hs⟩ := slope_none fa fb fs
  unfold sSlope at hs
  rw [if_neg (fun k => k e)] at hs
  by_cases hy : a.y ≠ b.y ∨ a.y = 0
  · rw [if_pos hy] at hs; cases hs
  · exact h (Sp.ext' e (by omega) (fa.trans fb.symm))
/-- An adding comes at no sooner than twice. -/
def agood : Nat → List Bool → Bool
  | _, [] => true
  | k, o :: l => (!o || Nat.ble 2 k) && agood (cstep k o) l
def NR (i k : Nat) (n : (Nat × Nat) × Nat) (st : Z × Sp) : Prop :=
  n.2 = (4 * i * k) % 4052 ∧ n.1.2 ≤ 4051 ∧ st.2 = sq (4 * (i : Int) * k) ∧ ∃ r : F, r ≠ 0 ∧ zn n.1 = (Z.of r).mul st.1
theorem sq_sp (i k : Nat) : sq (4 * (i : Int) * k) = sp ((4 * i * k) % 4052) := by
  rw [sp_mod, ← sq_nat]; congr 1
theorem qm2_ok (p q : Nat × Nat) (h : p.2 ≤ 4051) : (qm2 p q).2 ≤ 4051 ∧ zn (qm2 p q) = (zn p).mul (zn q) := ⟨qm_le _ _ _ _, qm_ok _ _ _ _ h⟩
theorem alg_a (r s : F) (f l : Z) : ((Z.of r).mul f).mul ((Z.of s).mul l) = (Z.of (r * s)).mul (f.mul l) := by
  rw [← Z.of_mul]; ac_rfl
theorem NR_step {i k : Nat} {o : Bool} (hi : (i : Int) % 1013 ≠ 0) (h1 : 1 ≤ k) (hk : k ≤ 1012) (h2 : cstep k o ≤ 1012) (ho : (!o || Nat.ble 2 k) = true) {n : (Nat × Nat) × Nat} {st : Z × Sp}
    (h : NR i k n st) : NR i (cstep k o) (nstep (4 * i % 4052) n o) (mstep (sq (4 * (i : Int))) (sq 4) st o) := by
  obtain ⟨n1, n2, n3, r, hr, n4⟩ := h
  have hf := far_k hi h1 hk
  have hp : 1 ≤ (4 * i * k) % 4052 := by
    have := mul_i_ne (i := i) (k := k) hi (by omega) (by omega)
    have c : ((4 * i * k : Nat) : Int) = 4 * (i : Int) * (k : Int) := by rw [Int.natCast_mul, Int.natCast_mul]; rfl
    rw [← c] at this
    omega
  obtain ⟨⟨p, q⟩, kk⟩ := n
  obtain ⟨f, T⟩ := st
  simp only at n1 n2 n3 n4
  subst n1 n3
  cases o
  · simp only [cstep, Bool.false_eq_true, if_false] at h2 ⊢
    have e : sSum (sq (4 * (i : Int) * k)) (sq (4 * (i : Int) * k)) = sq (4 * (i : Int) * ((k + k : Nat) : Int)) := by rw [sq_add]; congr 1; rw [Int.natCast_add, Int.mul_add]
    have ay := y_k hi h1 hk
    rw [sq_sp] at ay
    obtain ⟨s, hs, nl⟩ := nlD_ok hp (Nat.mod_lt _ (by decide)) ay
    have q1 := qm2_ok (p, q) (p, q) n2
    have q2 := qm2_ok (qm2 (p, q) (p, q)) (nlD ((4 * i * k) % 4052)) q1.1
    refine ⟨?_, q2.1, ?_, r * r * s, mul_ne (mul_ne hr hr) hs, ?_⟩
    · show ((4 * i * k) % 4052 + (4 * i * k) % 4052) % 4052 = (4 * i * (k + k)) % 4052
      rw [Nat.mul_add]; omega
    · simp only [mstep, Bool.false_eq_true, if_false]; exact e
    · show zn (qm2 (qm2 (p, q) (p, q)) (nlD ((4 * i * k) % 4052))) = _
      rw [q2.2, q1.2, nl, n4]
      simp only [mstep, Bool.false_eq_true, if_false]
      rw [sq_sp, alg_a, alg_a]
  · simp only [cstep, if_true] at h2 ⊢
    simp only [Bool.not_true, Bool.false_or, Nat.ble_eq] at ho
    have e1 : sq (4 * (i : Int)) = sq (4 * (i : Int) * (1 : Nat)) := by congr 1; simp
    have e : sSum (sq (4 * (i : Int) * k)) (sq (4 * (i : Int))) = sq (4 * (i : Int) * ((k + 1 : Nat) : Int)) := by rw [sq_add, show 4 * (i : Int) * ((k + 1 : Nat) : Int) = 4 * (i : Int) * k + 4 * (i : Int) by rw [Int.natCast_add, Int.mul_add, Int.natCast_one, Int.mul_one]]
    have fa : (sq (4 * (i : Int))).far = false := by rw [e1]; exact far_k hi (by decide) (by decide)
    have ne : sq (4 * (i : Int) * k) ≠ sq (4 * (i : Int)) := fun h => by
      have := sq_eq_iff.mp h
      have w := mul_i_ne (i := i) (k := (k : Int) - 1) hi (by omega) (by omega)
      rw [Int.mul_sub] at w
      simp only [Int.mul_one] at w
      omega
    have hx := xne hf fa ne (by rw [e]; exact far_k hi (by omega) h2)
    have hm : sq (4 * (i : Int)) = sp ((4 * i) % 4052) := by have := sq_sp i 1; rw [e1, this, Nat.mul_one]
    have hp2 : 1 ≤ (4 * i) % 4052 := by omega
    rw [sq_sp, hm] at hx
    obtain ⟨s, hs, nl⟩ := nlA_ok hp (Nat.mod_lt _ (by decide)) hp2 (Nat.mod_lt _ (by decide)) hx
    have q2 := qm2_ok (p, q) (nlA ((4 * i * k) % 4052) (4 * i % 4052)) n2
    refine ⟨?_, q2.1, ?_, r * s, mul_ne hr hs, ?_⟩
    · show ((4 * i * k) % 4052 + 4 * i % 4052) % 4052 = (4 * i * (k + 1)) % 4052
      rw [Nat.mul_add]; omega
    · simp only [mstep, if_true]; exact e
    · show zn (qm2 (p, q) (nlA ((4 * i * k) % 4052) (4 * i % 4052))) = _
      rw [q2.2, nl, n4]
      simp only [mstep, if_true]
      rw [sq_sp, hm, alg_a]
theorem NR_run {i : Nat} (hi : (i : Int) % 1013 ≠ 0) : ∀ (ops : List Bool) (k : Nat) (n : (Nat × Nat) × Nat) (st : Z × Sp), 1 ≤ k → k ≤ 1012 → cgood k ops = true → agood k ops = true → NR i k n st →
    NR i 1012 (ops.foldl (nstep (4 * i % 4052)) n) (ops.foldl (mstep (sq (4 * (i : Int))) (sq 4)) st)
  | [], k, _, _, _, _, hg, _, h => by simp only [cgood, Nat.beq_eq] at hg; subst hg; exact h
  | o :: l, k, n, st, h1, hk, hg, ha, h => by
    simp only [cgood, Bool.and_eq_true, Nat.ble_eq] at hg
    simp only [agood, Bool.and_eq_true] at ha
    exact NR_run hi l _ _ _ (cstep_ge h1) hg.1 hg.2 ha.2 (NR_step hi h1 hk hg.1 ha.1 h)
theorem cancelZ {a b c : Z} (hc : c.norm ≠ 0) (h : a.mul c = b.mul c) : a = b := by
  have e : (c.mul c.conj).mul (.of (inv c.norm)) = .one := by rw [Z.mul_conj, Z.of_mul, mul_inv hc]; rfl
  have := congrArg (fun z => z.mul (c.conj.mul (.of (inv c.norm)))) h
  have k : ∀ x : Z, (x.mul c).mul (c.conj.mul (.of (inv c.norm))) = x := fun x => by
    rw [show (x.mul c).mul (c.conj.mul (.of (inv c.norm))) = x.mul ((c.mul c.conj).mul (.of (inv c.norm))) by ac_rfl, e, Z.mul_one]
  rw [← k a, ← k b]; exact this
/-- The last power by what is turned. -/
theorem pow_conj {f z : Z} (hf : f.norm ≠ 0) (h : f.conj.pow 4 = (f.pow 4).mul z) : f.pow e16200 = z := by
  have a : (f.pow eNorm) = f.mul f.conj := by rw [frob_norm, Z.mul_conj]
  have b : (f.pow 4050).mul f = f.conj := by
    apply cancelZ hf
    rw [Z.mul_comm f.conj, ← a]; rfl
  have c : (f.pow e16200).mul (f.pow 4) = f.conj.pow 4 := by
    rw [← b, Z.mul_pow, ← Z.pow_mul]; rfl
  have n4 : (f.pow 4).norm ≠ 0 := by
    have : (f.pow 4) = (((Z.one.mul f).mul f).mul f).mul f := rfl
    rw [this, Z.one_mul, Z.norm_mul, Z.norm_mul, Z.norm_mul]; exact mul_ne (mul_ne (mul_ne hf hf) hf) hf
  apply cancelZ n4
  rw [c, h, Z.mul_comm]
theorem fourth_ok (p : Nat × Nat) (h : p.2 ≤ 4051) : zn (fourth p) = (zn p).pow 4 ∧ (fourth p).2 ≤ 4051 := by
  have a := qm2_ok p p h
  have b := qm2_ok (qm2 p p) (qm2 p p) a.1
  refine ⟨?_, b.1⟩
  unfold fourth
  rw [b.2, a.2]
  show _ = (((Z.one.mul (zn p)).mul (zn p)).mul (zn p)).mul (zn p)
  rw [Z.one_mul]; ac_rfl
theorem eqP_ok {p q : Nat × Nat} (h : eqP p q = true) : p = q := by
  simp only [eqP, Bool.and_eq_true, Nat.beq_eq] at h; exact Prod.ext h.1 h.2
theorem pairAt_ok {i : Nat} (hi : (i : Int) % 1013 ≠ 0) {ops : List Bool} (hg : cgood 1 ops = true) (ha : agood 1 ops = true) {z : Nat × Nat} (h : pairAt ops (4 * i % 4052) z = true) : zP ops (sq (4 * (i : Int))) (sq 4) = zn z := by
  have h0 : NR i 1 ((1, 0), 4 * i % 4052) (.one, sq (4 * (i : Int))) := ⟨by rw [Nat.mul_one], (by show 0 ≤ 4051; decide), by congr 1; simp, 1, one_ne, by rw [Z.mul_one]; rfl⟩
  obtain ⟨_, n2, _, r, hr, n4⟩ := NR_run hi ops 1 _ _ (by decide) (by decide) hg ha h0
  have hz := eqP_ok h
  unfold pairAt at h
  have e : zP ops (sq (4 * (i : Int))) (sq 4) = (mrun (sq (4 * (i : Int))) (sq 4) ops).1.pow e16200 := by unfold zP; rw [zM_eq hi hg]
  have nn : (mrun (sq (4 * (i : Int))) (sq 4) ops).1.norm ≠ 0 := by
    rw [← zM_eq hi hg]; exact zM_norm (j := 1) (by decide)
  change zn (nrun (4 * i % 4052) ops).1 = (Z.of r).mul (mrun (sq (4 * (i : Int))) (sq 4) ops).1 at n4
  change (nrun (4 * i % 4052) ops).1.2 ≤ 4051 at n2
  rw [e]
  generalize (mrun (sq (4 * (i : Int))) (sq 4) ops).1 = f at *
  generalize (nrun (4 * i % 4052) ops).1 = p at *
  have ef : (zn p).pow e16200 = f.pow e16200 := by rw [n4, Z.mul_pow, pof_e hr, Z.one_mul]
  rw [← ef]
  have hpn : (zn p).norm ≠ 0 := by rw [n4, Z.norm_mul, Z.norm_of]; exact mul_ne (mul_ne hr hr) nn
  apply pow_conj hpn
  have c : zn (p.1, (4051 - p.2) % 4051) = (zn p).conj := Z.ext' rfl (by
    show fi ((4051 - p.2) % 4051 : Nat) = - fi (p.2 : Int)
    rw [mod_fi, neg_fi n2])
  have l := fourth_ok (p.1, (4051 - p.2) % 4051) (by show (4051 - p.2) % 4051 ≤ 4051; omega)
  have r2 := fourth_ok p n2
  have m := qm2_ok (fourth p) z r2.2
  rw [← c, ← l.1, hz, m.2, r2.1]
theorem chkP_at (ops : List Bool) : ∀ (n i : Nat) (z : Nat × Nat), z.2 ≤ 4051 → chkP ops n i z = true → ∀ j, j < n → ∃ y : Nat × Nat, pairAt ops (4 * (i + j)) y = true ∧ zn y = (zn z).mul ((zn (2824, 4013)).pow j)
  | 0, _, _, _, _, _, hj => absurd hj (Nat.not_lt_zero _)
  | n+1, i, z, hz, h, j, hj => by
    simp only [chkP, Bool.and_eq_true] at h
    match j with
    | 0 => exact ⟨z, h.1, (Z.mul_one _).symm⟩
    | j+1 =>
      have q := qm2_ok z (2824, 4013) hz
      obtain ⟨y, y1, y2⟩ := chkP_at ops n (i+1) _ q.1 h.2 j (by omega)
      refine ⟨y, by rw [show i + (j + 1) = i + 1 + j by omega]; exact y1, ?_⟩
      rw [y2, q.2]
      show _ = (zn z).mul (((zn (2824, 4013)).pow j).mul (zn (2824, 4013)))
      ac_rfl
/-- The pair of the base and itself. -/
def zeta : Z := zn (2824, 4013)
theorem zP_base {ops : List Bool} (hg : cgood 1 ops = true) (ha : agood 1 ops = true) (hc : chkP ops 1012 1 (2824, 4013) = true) {i : Nat} (h1 : 1 ≤ i) (h2 : i ≤ 1012) : zP ops (sq (4 * (i : Int))) (sq 4) = zeta.pow i := by
  obtain ⟨y, y1, y2⟩ := chkP_at ops 1012 1 _ (by decide) hc (i - 1) (by omega)
  rw [show 1 + (i - 1) = i by omega] at y1
  have e : 4 * i % 4052 = 4 * i := Nat.mod_eq_of_lt (by omega)
  rw [← e] at y1
  rw [pairAt_ok (by omega) hg ha y1, y2, Z.mul_comm, show zeta.pow i = zeta.pow ((i - 1) + 1) by congr 1; omega]; rfl
theorem zP_all {ops : List Bool} (hg : cgood 1 ops = true) (ha : agood 1 ops = true) (hc : chkP ops 1012 1 (2824, 4013) = true) {i j : Nat} (h1 : 1 ≤ i) (h2 : i ≤ 1012) (h3 : 1 ≤ j) (h4 : j ≤ 1012) :
    zP ops (sq (4 * (i : Int))) (sq (4 * (j : Int))) = zeta.pow (i * j) := by
  rw [zP_lin (by omega) hg j h3 h4, zP_base hg ha hc h1 h2, Z.pow_mul]
theorem zeta_ne : zeta ≠ .one := fun h => by
  have := congrArg Z.re h; exact absurd this (by decide +kernel)
theorem zeta_whole : zeta.pow 1013 = .one := by
  have h := zP_base goOps_good (by decide) chkP_go (i := 1) (by decide) (by decide)
  have w := zP_whole (i := 4 * 1) (ops := goOps) (j := 1) (by decide)
  have e : zeta.pow 1 = zeta := Z.one_mul _
  rw [e] at h
  rw [← h]; exact w
theorem zeta_norm : zeta.norm = 1 := by decide +kernel
end Go.Proofs.YtahgaccdeakmcaaGreatDoor
namespace Go.Proofs.YtahgaccdeakmcaaGreatDoor
open Go.RowKit
set_option maxRecDepth 100000
set_option linter.unusedVariables false
set_option linter.unusedSimpArgs false
/-- The package's variable one, where it lies. -/
structure OneAt (w : World) : Prop where
  c0 : w.cell? ⟨6, 0, none⟩ = some (.int .i64 1)
  c1 : w.cell? ⟨6, 1, none⟩ = some (.int .i64 0)
  lt : 6 < w.heap.size
theorem OneAt.below {w w' : World} (h : OneAt w) (hb : Below w.heap.size w w') : OneAt w' :=
  ⟨(hb.cell (p := ⟨6, 0, none⟩) h.lt).trans h.c0, (hb.cell (p := ⟨6, 1, none⟩) h.lt).trans h.c1, Nat.lt_of_lt_of_le h.lt hb.size⟩
/-- A number of the greater field in memory. -/
structure TwAt (w : World) (b : Nat) (z : Z) : Prop where
  c0 : w.cell? ⟨b, 0, none⟩ = some (.int .i64 (fz z.re))
  c1 : w.cell? ⟨b, 1, none⟩ = some (.int .i64 (fz z.im))
  f0 : w.frozen? ⟨b, 0, none⟩ = false
  f1 : w.frozen? ⟨b, 1, none⟩ = false
  lt : b < w.heap.size
theorem TwAt.below {w w' : World} {b : Nat} {z : Z} (h : TwAt w b z) (hb : Below w.heap.size w w') : TwAt w' b z :=
  ⟨(hb.cell (p := ⟨b, 0, none⟩) h.lt).trans h.c0, (hb.cell (p := ⟨b, 1, none⟩) h.lt).trans h.c1, (hb.frozen (p := ⟨b, 0, none⟩) h.lt).trans h.f0, (hb.frozen (p := ⟨b, 1, none⟩) h.lt).trans h.f1, Nat.lt_of_lt_of_le h.lt hb.size⟩
theorem TwAt.set2 {w : World} {b : Nat} {z : Z} (h : TwAt w b z) (v : Z) : TwAt ((w.setCell ⟨b, 0, none⟩ (.int .i64 (fz v.re))).setCell ⟨b, 1, none⟩ (.int .i64 (fz v.im))) b v := by
  have k := set2_cell (x := .int .i64 (fz v.re)) (y := .int .i64 (fz v.im)) h.c0 h.c1
  exact ⟨k.1, k.2, by simp only [World.frozen?_setCell]; exact h.f0, by simp only [World.frozen?_setCell]; exact h.f1, by simpa [World.setCell] using h.lt⟩
theorem cell_else {w : World} {b c o k : Nat} (x : Value) (h : c ≠ b) : (w.setCell ⟨c, o, none⟩ x).cell? ⟨b, k, none⟩ = w.cell? ⟨b, k, none⟩ :=
  by rw [World.cell?_setCell_other (h := fun e => h (congrArg Addr.block e))]
theorem TwAt.other {w : World} {b c o : Nat} {z : Z} (h : TwAt w b z) (x : Value) (hne : c ≠ b) : TwAt (w.setCell ⟨c, o, none⟩ x) b z :=
  ⟨(cell_else x hne).trans h.c0, (cell_else x hne).trans h.c1, by simp only [World.frozen?_setCell]; exact h.f0, by simp only [World.frozen?_setCell]; exact h.f1, by simpa [World.setCell] using h.lt⟩
theorem SpAt.other {w : World} {b c o : Nat} {s : Sp} (h : SpAt w b s) (x : Value) (hne : c ≠ b) : SpAt (w.setCell ⟨c, o, none⟩ x) b s :=
  ⟨(cell_else x hne).trans h.c0, (cell_else x hne).trans h.c1, (cell_else x hne).trans h.c2, by simp only [World.frozen?_setCell]; exact h.f0, by simp only [World.frozen?_setCell]; exact h.f1, by simp only [World.frozen?_setCell]; exact h.f2, by simpa [World.setCell] using h.lt⟩
theorem mul_z (y z : Z) (w : World) : Calls Tryz.prog 203 #[twR y, twR z] w fun e w' => e = .returned (twR (y.mul z)) ∧ Below w.heap.size w w' := by
  have := twinMul_c (fz y.re) (fz y.im) (fz z.re) (fz z.im) w; rw [zi_fz, zi_fz] at this; exact this
theorem power_z (z : Z) (n : Int) (w : World) (h0 : 0 ≤ n) (h1 : n ≤ 9223372036854775807) : Calls Tryz.prog 205 #[twR z, .int .i64 n] w fun e w' => e = .returned (twR (z.pow n.toNat)) ∧ Below w.heap.size w w' := by
  have := twinPower_c (fz z.re) (fz z.im) n w h0 h1; rw [zi_fz] at this; exact this
theorem slope_n (a b : Sp) (w : World) (h : sSlope a b = none) : Calls Tryz.prog 123 #[spV a, spV b] w fun e w' => e = .returned (.tuple #[.int .i64 0, .bool false]) ∧ Below w.heap.size w w' := by
  obtain ⟨x, y, f⟩ := a; obtain ⟨u, v, g⟩ := b
  unfold sSlope at h
  split at h
  · cases h
  · rename_i hx
    have hx' : x = u := Decidable.of_not_not hx
    split at h
    · rename_i hy
      by_cases e : y = v
      · have e0 : y = 0 := by rcases hy with h | h; exact absurd e h; exact h
        exact slope_upright2 x y u v f g w (by simpa using hx') (by simpa using e) (by simpa using e0)
      · exact slope_upright1 x y u v f g w (by simpa using hx') (by simpa using e)
    · cases h
theorem slope_s (a b : Sp) (s : Int) (w : World) (h : sSlope a b = some s) (ha : Ok a) : Calls Tryz.prog 123 #[spV a, spV b] w fun e w' => e = .returned (.tuple #[.int .i64 s, .bool true]) ∧ Below w.heap.size w w' := by
  have y0 := ha.y0; have y1 := ha.y1
  obtain ⟨x, y, f⟩ := a; obtain ⟨u, v, g⟩ := b
  unfold sSlope at h
  split at h
  · rename_i hx
    cases h
    exact slope_unlike x y u v f g w (by simpa using hx)
  · rename_i hx
    have hx' : x = u := Decidable.of_not_not hx
    split at h
    · cases h
    · rename_i hy
      cases h
      exact slope_same x y u v f g w (by simpa using hx') (by simp only [not_or] at hy; simpa using hy.1) (by simp only [not_or] at hy; simpa using hy.2) y0 y1
theorem twR_one : twR .one = .agg #[.int .i64 1, .int .i64 0] := rfl
set_option maxHeartbeats 1000000 in
theorem line_n (a b t : Sp) (w : World) (hO : OneAt w) (h : sSlope a b = none) : Calls Tryz.prog 204 #[spV a, spV b, spV t] w fun e w' => e = .returned (.agg #[.int .i64 1, .int .i64 0]) ∧ Below w.heap.size w w' := by
  go_enter Tryz.func204, Tryz.ntmps204
  go_wp2_with fail
  refine (slope_n a b _ h).mono ?_; rintro e w1 ⟨rfl, hb⟩
  obtain ⟨hc1, hf1⟩ := bcell hb
  have z1 := hb.size
  try simp only [World.size_alloc, World.size_setCell, World.size_drew] at z1
  have s1_0 : w.heap.size < w1.heap.size := by omega
  have s1_1 : w.heap.size + 1 < w1.heap.size := by omega
  have s1_2 : w.heap.size + 1 + 1 < w1.heap.size := by omega
  have s1_3 : w.heap.size + 1 + 1 + 1 < w1.heap.size := by omega
  have hB1 : Below w.heap.size w w1 := below_seq (by repeat (first | exact Below.refl _ _ | refine balloc ?_ _ | refine Below.drew ?_ | refine below_drewN ?_ _ | refine below_set ?_ (by first | omega | (dsimp only; omega)) _)) hb
  clear hb
  have hO1 := hO.below hB1
  obtain ⟨q0, q1, ql⟩ := hO
  have q2 : 0 < w.heap.size := Nat.lt_of_le_of_lt (Nat.zero_le _) ql
  obtain ⟨o0, o1, ol⟩ := hO1
  have r0 : w1.cell? ⟨w.heap.size + 1 + 1 + 1, 0, none⟩ = some (.int .i64 0) := by go_simp
  have r1 : w1.cell? ⟨w.heap.size + 1 + 1 + 1, 1, none⟩ = some (.int .i64 0) := by go_simp
  go_wp2
  have k := set2_cell (w := w1) (x := .int .i64 1) (y := .int .i64 0) r0 r1
  refine bodyPost_ret (v := .agg #[.int .i64 1, .int .i64 0]) (by simp [results, Tryz.results204, go_sem, k.1, k.2]) rfl ⟨rfl, set2_below (by repeat (first | exact hB1 | exact Below.refl _ _ | refine balloc ?_ _ | refine Below.drew ?_ | refine below_drewN ?_ _ | refine below_set ?_ (by first | omega | (dsimp only; omega)) _)) (by omega)⟩
theorem agg2_eq {a b c d : Int} (h : a = c) (k : b = d) : Ending.returned (.agg #[.int .i64 a, .int .i64 b]) = .returned (.agg #[.int .i64 c, .int .i64 d]) := by rw [h, k]
theorem line_alg (a t : Sp) (s : Int) (ht : 0 ≤ t.y ∧ t.y < 4051) : pSub (pMul s (t.x + a.x)) a.y = fz (⟨fi s * (fi t.x + fi a.x) - fi a.y, fi t.y⟩ : Z).re ∧ t.y = fz (⟨fi s * (fi t.x + fi a.x) - fi a.y, fi t.y⟩ : Z).im :=
  ⟨fz_eq (r_pSub _ _) (by rw [fi_pSub, fi_pMul, fi_add]), fz_eq ht rfl⟩
set_option maxHeartbeats 1000000 in
theorem line_s (a b t : Sp) (s : Int) (w : World) (h : sSlope a b = some s) (ha : Ok a) (ht : Ok t) : Calls Tryz.prog 204 #[spV a, spV b, spV t] w fun e w' => e = .returned (twR (zLine a b t)) ∧ Below w.heap.size w w' := by
  have hz : Hid (zLine a b t = ⟨fi s * (fi t.x + fi a.x) - fi a.y, fi t.y⟩) := by show _ = _; unfold zLine; rw [h]
  have hl := Lib.hid (line_alg a t s ⟨ht.y0, ht.y1⟩)
  have e1 : IntKind.i64.wrap (t.x + a.x) = t.x + a.x := IntWalk.i64_in _ (by have := ha.x0; have := ha.x1; have := ht.x0; have := ht.x1; omega)
  go_enter Tryz.func204, Tryz.ntmps204
  go_wp2_with fail
  refine (slope_s a b s _ h ha).mono ?_; rintro e w1 ⟨rfl, hb⟩
  obtain ⟨hc1, hf1⟩ := bcell hb
  have z1 := hb.size
  try simp only [World.size_alloc, World.size_setCell, World.size_drew] at z1
  have s1_0 : w.heap.size < w1.heap.size := by omega
  have s1_1 : w.heap.size + 1 < w1.heap.size := by omega
  have s1_2 : w.heap.size + 1 + 1 < w1.heap.size := by omega
  have s1_3 : w.heap.size + 1 + 1 + 1 < w1.heap.size := by omega
  have hB1 : Below w.heap.size w w1 := below_seq (by repeat (first | exact Below.refl _ _ | refine balloc ?_ _ | refine Below.drew ?_ | refine below_drewN ?_ _ | refine below_set ?_ (by first | omega | (dsimp only; omega)) _)) hb
  clear hb
  go_wp2_with fail
  refine wp_region_grow_tail 13 Tryz.mixed (by kernel_rfl) ?_
  simp only [List.take_succ_cons, List.take_zero, List.drop_succ_cons, List.drop_zero]
  repeat (quiet_step ((first | (go_at_call 99; exact grow_same (primeMul_c _ _ _)) | (go_at_call 124; exact grow_same (primeSub_c _ _ _)))))
  refine wpQuiet_nil ?_
  intro _ hw'
  obtain ⟨x2, rfl⟩ := hw'
  have z2 := x2.h.size
  try simp only [World.size_alloc, World.size_setCell, World.size_drew] at z2
  have s2_0 : w.heap.size < x2.w.heap.size := by omega
  have s2_1 : w.heap.size + 1 < x2.w.heap.size := by omega
  have s2_2 : w.heap.size + 1 + 1 < x2.w.heap.size := by omega
  have s2_3 : w.heap.size + 1 + 1 + 1 < x2.w.heap.size := by omega
  have hB2 : Below w.heap.size w x2.w := below_seq (by repeat (first | exact hB1 | exact Below.refl _ _ | refine balloc ?_ _ | refine Below.drew ?_ | refine below_drewN ?_ _ | refine below_set ?_ (by first | omega | (dsimp only; omega)) _)) x2.h
  have r0 : x2.w.cell? ⟨w.heap.size + 1 + 1 + 1, 0, none⟩ = some (.int .i64 0) := by go_simp
  have r1 : x2.w.cell? ⟨w.heap.size + 1 + 1 + 1, 1, none⟩ = some (.int .i64 0) := by go_simp
  clear e1
  go_wp2
  have k := set2_cell (w := x2.w) (x := .int .i64 (pSub (pMul s (t.x + a.x)) a.y)) (y := .int .i64 t.y) r0 r1
  refine bodyPost_ret (v := .agg #[.int .i64 (pSub (pMul s (t.x + a.x)) a.y), .int .i64 t.y]) (by simp [results, Tryz.results204, go_sem, k.1, k.2]) rfl ⟨?_, set2_below (by repeat (first | exact hB2 | exact Below.refl _ _ | refine balloc ?_ _ | refine Below.drew ?_ | refine below_drewN ?_ _ | refine below_set ?_ (by first | omega | (dsimp only; omega)) _)) (by omega)⟩
  rw [hz.out]
  exact agg2_eq hl.out.1 hl.out.2
theorem line_c (a b t : Sp) (w : World) (hO : OneAt w) (ha : Ok a) (ht : Ok t) : Calls Tryz.prog 204 #[spV a, spV b, spV t] w fun e w' => e = .returned (twR (zLine a b t)) ∧ Below w.heap.size w w' := by
  cases h : sSlope a b with
  | none =>
    have e : zLine a b t = .one := by unfold zLine; rw [h]
    rw [e]; exact line_n a b t w hO h
  | some s => exact line_s a b t s w h ha ht
set_option maxHeartbeats 1000000 in
theorem len_c (w : World) : Calls Tryz.prog 202 #[.int .u64 1013] w fun e w' => e = .returned (.int .i64 10) ∧ Below w.heap.size w w' := by
  go_enter Tryz.func202, Tryz.ntmps202
  go_wp2
  go_ret
  exact ⟨by kernel_rfl, Below.refl _ _⟩
end Go.Proofs.YtahgaccdeakmcaaGreatDoor
namespace Go.Proofs.YtahgaccdeakmcaaGreatDoor
open Go.RowKit
set_option maxRecDepth 100000
set_option linter.unusedVariables false
set_option linter.unusedSimpArgs false
theorem take_snoc {α : Type} (l : List α) (n : Nat) (h : n < l.length) : l.take (n + 1) = l.take n ++ [l[n]] := by
  rw [List.take_add_one, List.getElem?_eq_getElem h]; rfl
end Go.Proofs.YtahgaccdeakmcaaGreatDoor
namespace Go.Proofs.YtahgaccdeakmcaaGreatDoor
open Go.RowKit
set_option maxRecDepth 100000
set_option linter.unusedVariables false
set_option linter.unusedSimpArgs false
/-- The error, as nothing or something. -/
theorem errV_0 : errV 0 = .nilIface := rfl
theorem groupF_0 {xs ks : List Int} {n : Nat} (h : groupF xs ks n = 0) : xs.length ≤ 12 ∧ ks.length = xs.length ∧ (∀ i (h : i < xs.length), 1 ≤ xs[i] ∧ xs[i] < 1013) ∧ (∀ i (h : i < ks.length), 1 ≤ ks[i] ∧ ks[i] < 1013) ∧ n ≤ 60 := by
  unfold groupF at h
  split at h
  · exact absurd h (by decide)
  split at h
  · exact absurd h (by decide)
  split at h
  · rename_i g1 g2 g3
    rw [Bool.and_eq_true] at g3
    split at h
    · exact absurd h (by decide)
    · exact ⟨by omega, by omega, fun i hi => okB_y (all_get g3.1 i hi), fun i hi => okB_y (all_get g3.2 i hi), by omega⟩
  · exact absurd h (by decide)
/-- A block of four cells, a seal's, all zero. -/
structure Z4 (w : World) (b : Nat) : Prop where
  c0 : w.cell? ⟨b, 0, none⟩ = some (.int .i64 0)
  c1 : w.cell? ⟨b, 1, none⟩ = some (.int .i64 0)
  c2 : w.cell? ⟨b, 2, none⟩ = some (.bool false)
  c3 : w.cell? ⟨b, 3, none⟩ = some (.int .i64 0)
  f0 : w.frozen? ⟨b, 0, none⟩ = false
  f1 : w.frozen? ⟨b, 1, none⟩ = false
  f2 : w.frozen? ⟨b, 2, none⟩ = false
  f3 : w.frozen? ⟨b, 3, none⟩ = false
  lt : b < w.heap.size
theorem Z4.below {w w' : World} {b : Nat} (h : Z4 w b) (hb : Below w.heap.size w w') : Z4 w' b := by
  obtain ⟨k, k'⟩ := bcell hb
  exact ⟨(k _ _ h.lt).trans h.c0, (k _ _ h.lt).trans h.c1, (k _ _ h.lt).trans h.c2, (k _ _ h.lt).trans h.c3, (k' _ _ h.lt).trans h.f0, (k' _ _ h.lt).trans h.f1, (k' _ _ h.lt).trans h.f2, (k' _ _ h.lt).trans h.f3, Nat.lt_of_lt_of_le h.lt hb.size⟩
theorem Z4.fresh (w : World) (t : TypeId) : Z4 (w.alloc (.cells #[.int .i64 0, .int .i64 0, .bool false, .int .i64 0] t)) w.heap.size := ⟨by simp, by simp, by simp, by simp, by simp, by simp, by simp, by simp, by simp⟩
theorem mul_1 {a b : Int} (h0 : 0 ≤ a) (h1 : a < 1013) (k0 : 0 ≤ b) (k1 : b < 1013) : 0 ≤ a * b ∧ a * b ≤ 1024144 :=
  ⟨Int.mul_nonneg h0 k0, Int.le_trans (Int.mul_le_mul (show a ≤ 1012 by omega) (show b ≤ 1012 by omega) k0 (by decide)) (by decide)⟩
end Go.Proofs.YtahgaccdeakmcaaGreatDoor
namespace Go.Proofs.YtahgaccdeakmcaaGreatDoor
open Go.RowKit
set_option maxRecDepth 100000
set_option linter.unusedVariables false
set_option linter.unusedSimpArgs false
set_option maxHeartbeats 1000000 in
theorem refLong_c (s : ByteArray) (w : World) (hs : s.size ≤ 9223372036854775807) : Calls Tryz.prog 138 #[.string s] w fun e w' => e = .returned (.int .i64 (lng s.data.toList)) ∧ Below w.heap.size w w' := by
  have hlen : s.data.toList.length = s.size := rfl
  have HL := Lib.hid hlen; clear hlen
  go_enter Tryz.func138, Tryz.ntmps138
  go_wp2
  go_loop [3, 4] (fun n i => ∃ k : Nat, k ≤ s.size ∧ i = .int .i64 k ∧ n = .int .i64 (lng (s.data.toList.take k))) (fun _ i => s.size - (intOf i).toNat)
  case atStart => exact ⟨0, Nat.zero_le _, rfl, by rw [List.take_zero, lng_nil]⟩
  case round =>
    obtain ⟨k, hk, rfl, rfl⟩ := hrel
    have h1 := (lng_bd (s.data.toList.take k)).1
    have h2 := (lng_bd (s.data.toList.take k)).2
    by_cases hlt : k < s.size
    · have ht : Hid (lng (s.data.toList.take (k + 1)) = (lng (s.data.toList.take k) * 263 + ((s[k]'hlt).toNat : Int) + 1) % 1000003) := lng_take s.data.toList k (by have := HL.out; omega)
      have h3 : (s[k]'hlt).toNat < 256 := UInt8.toNat_lt _
      go_wp2
      go_round
      case rel => exact ⟨k + 1, by omega, by go_num, by rw [ht.out]⟩
      case measure => simp [intOf]; omega
    · go_wp2
      go_ret
      exact ⟨ret_int (by rw [List.take_of_length_le (by have := HL.out; omega)]), (by repeat (first | exact Below.refl _ _ | refine balloc ?_ _ | refine Below.drew ?_ | refine below_drewN ?_ _ | refine below_set ?_ (by first | omega | (dsimp only; omega)) _))⟩
theorem refNumber_c (s : ByteArray) (w : World) (hs : s.size ≤ 9223372036854775807) : Calls Tryz.prog 92 #[.string s] w fun e w' => e = .returned (.int .i64 (hnum s.data.toList)) ∧ Below w.heap.size w w' := by
  have h1 := (lng_bd s.data.toList).1
  have h2 := (lng_bd s.data.toList).2
  go_enter Tryz.func92, Tryz.ntmps92
  go_wp2_with fail
  refine (refLong_c s _ hs).mono ?_; rintro e w1 ⟨rfl, hb⟩
  obtain ⟨hc1, hf1⟩ := bcell hb
  have z1 := hb.size
  try simp only [World.size_alloc, World.size_setCell, World.size_drew] at z1
  have hB1 : Below w.heap.size w w1 := below_seq (by repeat (first | exact Below.refl _ _ | refine balloc ?_ _ | refine Below.drew ?_ | refine below_drewN ?_ _ | refine below_set ?_ (by first | omega | (dsimp only; omega)) _)) hb
  clear hb
  go_wp2
  go_ret
  exact ⟨rfl, (by repeat (first | exact hB1 | exact Below.refl _ _ | refine balloc ?_ _ | refine Below.drew ?_ | refine below_drewN ?_ _ | refine below_set ?_ (by first | omega | (dsimp only; omega)) _))⟩
set_option maxHeartbeats 1000000 in
theorem refOf_c (s : ByteArray) (w : World) (hF : FarAt w) (hs : s.size ≤ 140737488351232) : Calls Tryz.prog 95 #[.string s] w fun e w' => e = .returned (spV (hSpot s.data.toList)) ∧ Below w.heap.size w w' := by
  have hF' := Lib.hid hF
  clear hF
  go_enter Tryz.func95, Tryz.ntmps95
  go_wp2
  go_loopw [3] (fun i wr => ∃ k : Nat, k ≤ 256 ∧ i = .int .i64 k ∧ hGo s.data.toList (256 - k) k = hSpot s.data.toList ∧ SpAt wr w.heap.size ⟨0, 0, false⟩ ∧ Below w.heap.size w wr) (fun i _ => 256 - (intOf i).toNat)
  case atStart => exact ⟨0, by omega, rfl, rfl, SpAt.fresh _ _ _ _ _, below_alloc _ _⟩
  case round =>
    obtain ⟨k, hk, rfl, hgo, hr, hB⟩ := hrel
    have hgo := Lib.hid hgo
    by_cases hlt : k < 256
    · have hcv := conv1 (wr.alloc (.cells #[.int .u8 k] 5)) wr.heap.size k (by go_simp)
      have hsz := strOf1 (k : Int)
      have htb := Lib.hid (text_byte s k)
      have hl0 := (lng_bd (s.data.toList ++ [UInt8.ofNat k])).1
      have hl1 := (lng_bd (s.data.toList ++ [UInt8.ofNat k])).2
      go_wp2_with fail
      refine (refLong_c _ _ (by rw [ByteArray.size_append]; omega)).mono ?_; rintro e w1 ⟨rfl, hb⟩
      rw [htb.out]
      have hr1 := (hr.alloc _).below hb
      have hB1 := below_seq (balloc hB _) hb
      clear hr hb hB hcv
      go_wp2_with fail
      change Calls _ _ #[.int .i64 (hX s.data.toList k)] _ _
      cases hq : isSq (height (hX s.data.toList k))
      · refine (refLift_n _ _ (hX_in _ _) hq).mono ?_; rintro e w2 ⟨rfl, hb⟩
        have hr2 := hr1.below hb
        have hB2 := below_seq hB1 hb
        have hm := Lib.hid (hGo_miss hlt (Or.inl hq))
        clear hr1 hb hB1 hl0 hl1 hq
        go_wp2
        go_roundw
        case rel => exact ⟨k + 1, by omega, by go_num, by rw [← hm.out]; exact hgo.out, hr2.alloc _, balloc hB2 _⟩
        case measure => simp [intOf]; omega
      · refine (refLift_y _ (lifted (hX s.data.toList k)) _ (hX_in _ _) hq rfl).mono ?_; rintro e w2 ⟨rfl, hb⟩
        have hr2 := hr1.below hb
        have hB2 := below_seq hB1 hb
        have hok := lifted_ok (hX_in s.data.toList k) hq
        have hQ := Lib.hid hq
        clear hr1 hb hB1 hl0 hl1 hq
        generalize hL : lifted (hX s.data.toList k) = L at *
        have hL := Lib.hid hL
        go_wp2_with fail
        refine (refFour_c L _ hok).mono ?_; rintro e w3 ⟨rfl, hb⟩
        have hr3 := (hr2.alloc _).below hb
        have hB3 := below_seq (balloc hB2 _) hb
        clear hr2 hb hB2 hok
        cases hf : (sFour L).far
        · have hm : Hid (sFour L = hSpot s.data.toList) := by
            show _ = _
            rw [← hgo.out, hGo_hit hlt hQ.out (by rw [hL.out]; exact hf), hL.out]
          obtain ⟨r0, r1, r2, fr0, fr1, fr2, hrl⟩ := hr3
          generalize hS : sFour L = S at *
          have hS := Lib.hid hS
          go_wp2
          have k := set3_cell (w := w3) (x := .int .i64 S.x) (y := .int .i64 S.y) (z := .bool false) r0 r1 r2
          refine bodyPost_ret (v := spV S) (by simp [results, Tryz.results95, go_sem, k.1, k.2.1, k.2.2, hf, hrl]) rfl ⟨by rw [hm.out], balloc (set3_below hB3 (by omega)) _⟩
        · have hm := Lib.hid (hGo_miss hlt (Or.inr (by rw [hL.out]; exact hf)))
          go_wp2
          go_roundw
          case rel => exact ⟨k + 1, by omega, by go_num, by rw [← hm.out]; exact hgo.out, hr3.alloc _, balloc hB3 _⟩
          case measure => simp [intOf]; omega
    · obtain rfl : k = 256 := by omega
      have hm : Hid (sq 4 = hSpot s.data.toList) := by show _ = _; rw [← hgo.out, hGo_end]
      go_wp2_with fail
      refine (refBase_c _).mono ?_; rintro e w1 ⟨rfl, hb⟩
      have hr1 := hr.below hb
      have hB1 := below_seq hB hb
      clear hr hb hB
      obtain ⟨r0, r1, r2, fr0, fr1, fr2, hrl⟩ := hr1
      go_wp2
      have k := set3_cell (w := w1) (x := .int .i64 (sq 4).x) (y := .int .i64 (sq 4).y) (z := .bool (sq 4).far) r0 r1 r2
      refine bodyPost_ret (v := spV (sq 4)) (by simp [results, Tryz.results95, go_sem, k.1, k.2.1, k.2.2]) rfl ⟨by rw [hm.out], set3_below hB1 (by omega)⟩
end Go.Proofs.YtahgaccdeakmcaaGreatDoor
namespace Go.Proofs.YtahgaccdeakmcaaGreatDoor
open Go.RowKit
set_option maxRecDepth 100000
set_option linter.unusedVariables false
set_option linter.unusedSimpArgs false
set_option maxHeartbeats 400000 in
theorem rSecret_y (n : Int) (w : World) (h1 : 1 ≤ n) (h2 : n < 1013) : Calls Tryz.prog 86 #[.int .i64 n] w fun e w' => e = .returned (.bool true) ∧ w = w' := by
  go_enter Tryz.func86, Tryz.ntmps86
  go_wp2
  go_ret
  exact ⟨rfl, rfl⟩
set_option maxHeartbeats 400000 in
theorem rSecret_n (n : Int) (w : World) (h : ¬ (1 ≤ n ∧ n < 1013)) : Calls Tryz.prog 86 #[.int .i64 n] w fun e w' => e = .returned (.bool false) ∧ w = w' := by
  by_cases h1 : 1 ≤ n
  · have h2 : ¬ n < 1013 := fun c => h ⟨h1, c⟩
    clear h
    go_enter Tryz.func86, Tryz.ntmps86
    go_wp2
    go_ret
    exact ⟨rfl, rfl⟩
  · clear h
    go_enter Tryz.func86, Tryz.ntmps86
    go_wp2
    go_ret
    exact ⟨rfl, rfl⟩
set_option maxHeartbeats 400000 in
theorem rRest_y (n : Int) (w : World) (h1 : 0 ≤ n) (h2 : n < 1013) : Calls Tryz.prog 65 #[.int .i64 n] w fun e w' => e = .returned (.bool true) ∧ w = w' := by
  go_enter Tryz.func65, Tryz.ntmps65
  go_wp2
  go_ret
  exact ⟨rfl, rfl⟩
set_option maxHeartbeats 400000 in
theorem rRest_n (n : Int) (w : World) (h : ¬ (0 ≤ n ∧ n < 1013)) : Calls Tryz.prog 65 #[.int .i64 n] w fun e w' => e = .returned (.bool false) ∧ w = w' := by
  by_cases h1 : 0 ≤ n
  · have h2 : ¬ n < 1013 := fun c => h ⟨h1, c⟩
    clear h
    go_enter Tryz.func65, Tryz.ntmps65
    go_wp2
    go_ret
    exact ⟨rfl, rfl⟩
  · clear h
    go_enter Tryz.func65, Tryz.ntmps65
    go_wp2
    go_ret
    exact ⟨rfl, rfl⟩
/-- Both, as Booleans. -/
def secB (n : Int) : Bool := decide (1 ≤ n ∧ n < 1013)
def resB (n : Int) : Bool := decide (0 ≤ n ∧ n < 1013)
theorem rSecret_b (n : Int) (b : Bool) (w : World) (h : Hid (secB n = b)) : Calls Tryz.prog 86 #[.int .i64 n] w fun e w' => e = .returned (.bool b) ∧ w = w' := by
  rw [← h.out]; unfold secB
  by_cases c : 1 ≤ n ∧ n < 1013
  · rw [decide_eq_true c]; exact rSecret_y n w c.1 c.2
  · rw [decide_eq_false c]; exact rSecret_n n w c
theorem rRest_b (n : Int) (b : Bool) (w : World) (h : Hid (resB n = b)) : Calls Tryz.prog 65 #[.int .i64 n] w fun e w' => e = .returned (.bool b) ∧ w = w' := by
  rw [← h.out]; unfold resB
  by_cases c : 0 ≤ n ∧ n < 1013
  · rw [decide_eq_true c]; exact rRest_y n w c.1 c.2
  · rw [decide_eq_false c]; exact rRest_n n w c
theorem refTimes_b (n : Int) (c : Sp) (w : World) (n0 : -9223372036854775808 ≤ n) (n1 : n ≤ 9223372036854775807) (h : Hid (sq (4 * n) = c)) : Calls Tryz.prog 67 #[spV ⟨1189, 3667, false⟩, .int .i64 n] w fun e w' => e = .returned (spV c) ∧ Below w.heap.size w w' :=
  refTimes_e ⟨1189, 3667, false⟩ c 4 n w n0 n1 sq_4.symm h
set_option maxHeartbeats 1000000 in
theorem refBy_e (n : Int) (c : Sp) (w : World) (n0 : -9223372036854775808 ≤ n) (n1 : n ≤ 9223372036854775807) (h : Hid (sq (4 * n) = c)) : Calls Tryz.prog 88 #[.int .i64 n] w fun e w' => e = .returned (spV c) ∧ Below w.heap.size w w' := by
  go_enter Tryz.func88, Tryz.ntmps88
  go_wp2_with fail
  refine (refBase_k _).mono ?_; rintro e w1 ⟨rfl, hb⟩
  obtain ⟨hc1, hf1⟩ := bcell hb
  have z1 := hb.size
  try simp only [World.size_alloc, World.size_setCell, World.size_drew] at z1
  have s1_0 : w.heap.size < w1.heap.size := by omega
  have hB1 : Below w.heap.size w w1 := below_seq (by repeat (first | exact Below.refl _ _ | refine balloc ?_ _ | refine Below.drew ?_ | refine below_drewN ?_ _ | refine below_set ?_ (by first | omega | (dsimp only; omega)) _)) hb
  clear hb
  go_wp2_with fail
  refine (refTimes_b n c _ n0 n1 h).mono ?_; rintro e w2 ⟨rfl, hb⟩
  obtain ⟨hc2, hf2⟩ := bcell hb
  have z2 := hb.size
  try simp only [World.size_alloc, World.size_setCell, World.size_drew] at z2
  have s2_0 : w.heap.size < w2.heap.size := by omega
  have hB2 : Below w.heap.size w w2 := below_seq (by repeat (first | exact hB1 | exact Below.refl _ _ | refine balloc ?_ _ | refine Below.drew ?_ | refine below_drewN ?_ _ | refine below_set ?_ (by first | omega | (dsimp only; omega)) _)) hb
  clear hb
  have r0 : w2.cell? ⟨w.heap.size, 0, none⟩ = some (.int .i64 0) := by go_simp
  have r1 : w2.cell? ⟨w.heap.size, 1, none⟩ = some (.int .i64 0) := by go_simp
  have r2 : w2.cell? ⟨w.heap.size, 2, none⟩ = some (.bool false) := by go_simp
  go_wp2
  have k := set3_cell (w := w2) (x := .int .i64 (c).x) (y := .int .i64 (c).y) (z := .bool (c).far) r0 r1 r2
  refine bodyPost_ret (v := spV (c)) (by simp [results, Tryz.results88, go_sem, k.1, k.2.1, k.2.2]) rfl ⟨rfl, set3_below (by repeat (first | exact hB2 | exact Below.refl _ _ | refine balloc ?_ _ | refine Below.drew ?_ | refine below_drewN ?_ _ | refine below_set ?_ (by first | omega | (dsimp only; omega)) _)) (by omega)⟩
set_option maxHeartbeats 2000000 in
theorem refSum_e (n m u : Int) (s A B C : Sp) (w : World) (n0 : -9223372036854775808 ≤ n) (n1 : n ≤ 9223372036854775807) (m0 : -9223372036854775808 ≤ m) (m1 : m ≤ 9223372036854775807) (hs : Hid (s = sq u)) (hA : Hid (sq (4 * n) = A)) (hB' : Hid (sq (u * m) = B)) (oA : Ok A) (oB : Ok B) (hC : Hid (sSum A B = C)) : Calls Tryz.prog 141 #[.int .i64 n, .int .i64 m, spV s] w fun e w' => e = .returned (spV C) ∧ Below w.heap.size w w' := by
  go_enter Tryz.func141, Tryz.ntmps141
  go_wp2_with fail
  refine (refBase_k _).mono ?_; rintro e w1 ⟨rfl, hb⟩
  obtain ⟨hc1, hf1⟩ := bcell hb
  have z1 := hb.size
  try simp only [World.size_alloc, World.size_setCell, World.size_drew] at z1
  have s1_0 : w.heap.size < w1.heap.size := by omega
  have s1_1 : w.heap.size + 1 < w1.heap.size := by omega
  have hB1 : Below w.heap.size w w1 := below_seq (by repeat (first | exact Below.refl _ _ | refine balloc ?_ _ | refine Below.drew ?_ | refine below_drewN ?_ _ | refine below_set ?_ (by first | omega | (dsimp only; omega)) _)) hb
  clear hb
  go_wp2_with fail
  refine (refTimes_b n A _ n0 n1 hA).mono ?_; rintro e w2 ⟨rfl, hb⟩
  obtain ⟨hc2, hf2⟩ := bcell hb
  have z2 := hb.size
  try simp only [World.size_alloc, World.size_setCell, World.size_drew] at z2
  have s2_0 : w.heap.size < w2.heap.size := by omega
  have s2_1 : w.heap.size + 1 < w2.heap.size := by omega
  have hB2 : Below w.heap.size w w2 := below_seq (by repeat (first | exact hB1 | exact Below.refl _ _ | refine balloc ?_ _ | refine Below.drew ?_ | refine below_drewN ?_ _ | refine below_set ?_ (by first | omega | (dsimp only; omega)) _)) hb
  clear hb
  go_wp2_with fail
  refine (refTimes_e s B u m _ m0 m1 hs hB').mono ?_; rintro e w3 ⟨rfl, hb⟩
  obtain ⟨hc3, hf3⟩ := bcell hb
  have z3 := hb.size
  try simp only [World.size_alloc, World.size_setCell, World.size_drew] at z3
  have s3_0 : w.heap.size < w3.heap.size := by omega
  have s3_1 : w.heap.size + 1 < w3.heap.size := by omega
  have s3_2 : w2.heap.size < w3.heap.size := by omega
  have hB3 : Below w.heap.size w w3 := below_seq (by repeat (first | exact hB2 | exact Below.refl _ _ | refine balloc ?_ _ | refine Below.drew ?_ | refine below_drewN ?_ _ | refine below_set ?_ (by first | omega | (dsimp only; omega)) _)) hb
  clear hb
  have m3_0_0 : w3.cell? ⟨w2.heap.size, 0, none⟩ = some (.int .i64 A.x) := by go_simp
  have m3_0_1 : w3.cell? ⟨w2.heap.size, 1, none⟩ = some (.int .i64 A.y) := by go_simp
  have m3_0_2 : w3.cell? ⟨w2.heap.size, 2, none⟩ = some (.bool A.far) := by go_simp
  go_wp2_with fail
  refine (refAdd_e A B C _ oA oB hC).mono ?_; rintro e w4 ⟨rfl, hb⟩
  obtain ⟨hc4, hf4⟩ := bcell hb
  have z4 := hb.size
  try simp only [World.size_alloc, World.size_setCell, World.size_drew] at z4
  have s4_0 : w.heap.size < w4.heap.size := by omega
  have s4_1 : w.heap.size + 1 < w4.heap.size := by omega
  have s4_2 : w2.heap.size < w4.heap.size := by omega
  have s4_3 : w3.heap.size < w4.heap.size := by omega
  have hB4 : Below w.heap.size w w4 := below_seq (by repeat (first | exact hB3 | exact Below.refl _ _ | refine balloc ?_ _ | refine Below.drew ?_ | refine below_drewN ?_ _ | refine below_set ?_ (by first | omega | (dsimp only; omega)) _)) hb
  clear hb
  have m4_0_0 : w4.cell? ⟨w2.heap.size, 0, none⟩ = some (.int .i64 A.x) := by go_simp
  have m4_0_1 : w4.cell? ⟨w2.heap.size, 1, none⟩ = some (.int .i64 A.y) := by go_simp
  have m4_0_2 : w4.cell? ⟨w2.heap.size, 2, none⟩ = some (.bool A.far) := by go_simp
  have m4_1_0 : w4.cell? ⟨w3.heap.size, 0, none⟩ = some (.int .i64 B.x) := by go_simp
  have m4_1_1 : w4.cell? ⟨w3.heap.size, 1, none⟩ = some (.int .i64 B.y) := by go_simp
  have m4_1_2 : w4.cell? ⟨w3.heap.size, 2, none⟩ = some (.bool B.far) := by go_simp
  clear m3_0_0 m3_0_1 m3_0_2
  have r0 : w4.cell? ⟨w.heap.size + 1, 0, none⟩ = some (.int .i64 0) := by go_simp
  have r1 : w4.cell? ⟨w.heap.size + 1, 1, none⟩ = some (.int .i64 0) := by go_simp
  have r2 : w4.cell? ⟨w.heap.size + 1, 2, none⟩ = some (.bool false) := by go_simp
  go_wp2
  have k := set3_cell (w := w4) (x := .int .i64 (C).x) (y := .int .i64 (C).y) (z := .bool (C).far) r0 r1 r2
  refine bodyPost_ret (v := spV (C)) (by simp [results, Tryz.results141, go_sem, k.1, k.2.1, k.2.2]) rfl ⟨rfl, set3_below (by repeat (first | exact hB4 | exact Below.refl _ _ | refine balloc ?_ _ | refine Below.drew ?_ | refine below_drewN ?_ _ | refine below_set ?_ (by first | omega | (dsimp only; omega)) _)) (by omega)⟩
set_option maxHeartbeats 1000000 in
theorem rAsk_e (r key : Sp) (t : ByteArray) (c : Int) (w : World) (hr : Ok r) (hk : Ok key) (hz : t.size ≤ 60) (h : Hid (askN r key t.data.toList = c)) : Calls Tryz.prog 142 #[spV r, spV key, .string t] w fun e w' => e = .returned (.int .i64 c) ∧ Below w.heap.size w w' := by
  rw [← h.out]
  have z1 := sBytes_size r
  have z2 := sBytes_size key
  have n1 : ¬ (9223372036854775807 < (sBytes r).size + (sBytes key).size) := by omega
  have n2 : ¬ (9223372036854775807 < (sBytes r).size + (sBytes key).size + t.size) := by omega
  have z4 : Hid ((sBytes r ++ sBytes key ++ t).size ≤ 9223372036854775807) := by show _ ≤ _; rw [ByteArray.size_append, ByteArray.size_append]; omega
  go_enter Tryz.func142, Tryz.ntmps142
  go_wp2_with fail
  refine wp_region_grow Tryz.mixed (by kernel_rfl) ?_
  repeat (quiet_step ((first | (go_at_call 153; exact grow_of (refBytes_c _ _ (by assumption))) | (go_at_call 92; exact grow_of (refNumber_c _ _ z4.out)))))
  refine wpQuiet_nil ?_
  intro _ hw'
  obtain ⟨x, rfl⟩ := hw'
  go_wp2
  go_ret
  exact ⟨rfl, below_seq (balloc (below_alloc _ _) _) x.h⟩
set_option maxHeartbeats 2000000 in
theorem rSign_e (x k : Int) (t : ByteArray) (R K : Sp) (c S : Int) (w : World) (x1 : 1 ≤ x) (x2 : x < 1013) (k1 : 1 ≤ k) (k2 : k < 1013) (hz : t.size ≤ 60) (hR : Hid (sq (4 * k) = R)) (hK : Hid (sq (4 * x) = K)) (oR : Ok R) (oK : Ok K) (hc : Hid (askN R K t.data.toList = c)) (m0 : 0 ≤ c * x) (m1 : c * x ≤ 1024144) (hS : Hid ((k + c * x) % 1013 = S)) :
    Calls Tryz.prog 96 #[.int .i64 x, .int .i64 k, .string t] w fun e w' => e = .returned (slV R S) ∧ Below w.heap.size w w' := by
  go_enter Tryz.func96, Tryz.ntmps96
  go_wp2_with fail
  refine (refBy_e k R _ (by omega) (by omega) hR).mono ?_; rintro e w1 ⟨rfl, hb⟩
  obtain ⟨hc1, hf1⟩ := bcell hb
  have z1 := hb.size
  try simp only [World.size_alloc, World.size_setCell, World.size_drew] at z1
  have s1_0 : w.heap.size < w1.heap.size := by omega
  have hB1 : Below w.heap.size w w1 := below_seq (by repeat (first | exact Below.refl _ _ | refine balloc ?_ _ | refine Below.drew ?_ | refine below_drewN ?_ _ | refine below_set ?_ (by first | omega | (dsimp only; omega)) _)) hb
  clear hb
  have m1_0_0 : w1.cell? ⟨w.heap.size, 0, none⟩ = some (.int .i64 0) := by go_simp
  have m1_0_1 : w1.cell? ⟨w.heap.size, 1, none⟩ = some (.int .i64 0) := by go_simp
  have m1_0_2 : w1.cell? ⟨w.heap.size, 2, none⟩ = some (.bool false) := by go_simp
  have m1_0_3 : w1.cell? ⟨w.heap.size, 3, none⟩ = some (.int .i64 0) := by go_simp
  go_wp2_with fail
  refine (refBy_e x K _ (by omega) (by omega) hK).mono ?_; rintro e w2 ⟨rfl, hb⟩
  obtain ⟨hc2, hf2⟩ := bcell hb
  have z2 := hb.size
  try simp only [World.size_alloc, World.size_setCell, World.size_drew] at z2
  have s2_0 : w.heap.size < w2.heap.size := by omega
  have s2_1 : w1.heap.size < w2.heap.size := by omega
  have hB2 : Below w.heap.size w w2 := below_seq (by repeat (first | exact hB1 | exact Below.refl _ _ | refine balloc ?_ _ | refine Below.drew ?_ | refine below_drewN ?_ _ | refine below_set ?_ (by first | omega | (dsimp only; omega)) _)) hb
  clear hb
  have m2_0_0 : w2.cell? ⟨w.heap.size, 0, none⟩ = some (.int .i64 0) := by go_simp
  have m2_0_1 : w2.cell? ⟨w.heap.size, 1, none⟩ = some (.int .i64 0) := by go_simp
  have m2_0_2 : w2.cell? ⟨w.heap.size, 2, none⟩ = some (.bool false) := by go_simp
  have m2_0_3 : w2.cell? ⟨w.heap.size, 3, none⟩ = some (.int .i64 0) := by go_simp
  have m2_1_0 : w2.cell? ⟨w1.heap.size, 0, none⟩ = some (.int .i64 R.x) := by go_simp
  have m2_1_1 : w2.cell? ⟨w1.heap.size, 1, none⟩ = some (.int .i64 R.y) := by go_simp
  have m2_1_2 : w2.cell? ⟨w1.heap.size, 2, none⟩ = some (.bool R.far) := by go_simp
  clear m1_0_0 m1_0_1 m1_0_2 m1_0_3
  go_wp2_with fail
  refine (rAsk_e R K t c _ oR oK hz hc).mono ?_; rintro e w3 ⟨rfl, hb⟩
  obtain ⟨hc3, hf3⟩ := bcell hb
  have z3 := hb.size
  try simp only [World.size_alloc, World.size_setCell, World.size_drew] at z3
  have s3_0 : w.heap.size < w3.heap.size := by omega
  have s3_1 : w1.heap.size < w3.heap.size := by omega
  have s3_2 : w2.heap.size < w3.heap.size := by omega
  have hB3 : Below w.heap.size w w3 := below_seq (by repeat (first | exact hB2 | exact Below.refl _ _ | refine balloc ?_ _ | refine Below.drew ?_ | refine below_drewN ?_ _ | refine below_set ?_ (by first | omega | (dsimp only; omega)) _)) hb
  clear hb
  have m3_0_0 : w3.cell? ⟨w.heap.size, 0, none⟩ = some (.int .i64 0) := by go_simp
  have m3_0_1 : w3.cell? ⟨w.heap.size, 1, none⟩ = some (.int .i64 0) := by go_simp
  have m3_0_2 : w3.cell? ⟨w.heap.size, 2, none⟩ = some (.bool false) := by go_simp
  have m3_0_3 : w3.cell? ⟨w.heap.size, 3, none⟩ = some (.int .i64 0) := by go_simp
  have m3_1_0 : w3.cell? ⟨w1.heap.size, 0, none⟩ = some (.int .i64 R.x) := by go_simp
  have m3_1_1 : w3.cell? ⟨w1.heap.size, 1, none⟩ = some (.int .i64 R.y) := by go_simp
  have m3_1_2 : w3.cell? ⟨w1.heap.size, 2, none⟩ = some (.bool R.far) := by go_simp
  have m3_2_0 : w3.cell? ⟨w2.heap.size, 0, none⟩ = some (.int .i64 K.x) := by go_simp
  have m3_2_1 : w3.cell? ⟨w2.heap.size, 1, none⟩ = some (.int .i64 K.y) := by go_simp
  have m3_2_2 : w3.cell? ⟨w2.heap.size, 2, none⟩ = some (.bool K.far) := by go_simp
  clear m2_0_0 m2_0_1 m2_0_2 m2_0_3 m2_1_0 m2_1_1 m2_1_2
  go_wp2
  have k := set4_cell (w := w3) (x := .int .i64 R.x) (y := .int .i64 R.y) (z := .bool R.far) (p := .int .i64 ((k + c * x) % 1013)) m3_0_0 m3_0_1 m3_0_2 m3_0_3
  rw [hS.out] at k
  refine bodyPost_ret (v := slV R S) (by simp [results, Tryz.results96, go_sem, k.1, k.2.1, k.2.2.1, k.2.2.2, hS.out]) rfl ⟨rfl, set4_below (by repeat (first | exact hB3 | exact Below.refl _ _ | refine balloc ?_ _ | refine Below.drew ?_ | refine below_drewN ?_ _ | refine below_set ?_ (by first | omega | (dsimp only; omega)) _)) (by omega)⟩
end Go.Proofs.YtahgaccdeakmcaaGreatDoor
namespace Go.Proofs.YtahgaccdeakmcaaGreatDoor
open Go.RowKit
set_option maxRecDepth 100000
set_option linter.unusedVariables false
set_option linter.unusedSimpArgs false
theorem rlist_sl (l : List Sp) (v : Value) (w : World) (hl : l.length ≤ 12) (hs : SpSl w v l) (hok : ∀ z ∈ l, Ok z) :
    Calls Tryz.prog 114 #[v] w fun e w' => e = .returned (.string (lsB l.length l)) ∧ Below w.heap.size w w' := by
  obtain ⟨a, cap, rfl, hs⟩ := hs
  cases l with
  | nil => exact refList_nil a cap w
  | cons s l =>
    obtain ⟨b, off, rfl, hs'⟩ := hs (Nat.succ_pos _)
    exact refList_ok (s :: l) b off cap w hl hs' (Lib.hid fun i h => hok _ (List.getElem_mem h))
theorem refNumber_n (s : ByteArray) (n : Int) (w : World) (hs : s.size ≤ 9223372036854775807) (h : Hid (hnum s.data.toList = n)) : Calls Tryz.prog 92 #[.string s] w fun e w' => e = .returned (.int .i64 n) ∧ Below w.heap.size w w' := by
  rw [← h.out]; exact refNumber_c s w hs
set_option maxHeartbeats 4000000 in
theorem ints_same (l : List Int) (v1 v2 : Value) (w : World) (hl : l.length ≤ 1000000) (h1 : IntSl w v1 l) (h2 : IntSl w v2 l) :
    Calls Tryz.prog 29 #[v1, v2] w fun e w' => e = .returned (.bool true) ∧ Below w.heap.size w w' := by
  obtain ⟨a1, c1, rfl, i1⟩ := h1
  obtain ⟨a2, c2, rfl, i2⟩ := h2
  replace i1 := Lib.hid i1
  replace i2 := Lib.hid i2
  have g1 : ((l.length : Int) != (l.length : Int)) = false := by simp
  go_enter Tryz.func29, Tryz.ntmps29
  go_wp2
  go_loopw [5] (fun i wr => ∃ n : Nat, n ≤ l.length ∧ i = .int .i64 n ∧ Below w.heap.size w wr) (fun i _ => l.length - (intOf i).toNat)
  case atStart => exact ⟨0, Nat.zero_le _, rfl, Below.refl _ _⟩
  case round =>
    obtain ⟨n, hn, rfl, hb⟩ := hrel
    replace hb := Lib.hid hb
    by_cases hlt : n < l.length
    · obtain ⟨b1, o1, rfl, l1⟩ := i1.out (by omega)
      obtain ⟨b2, o2, rfl, l2⟩ := i2.out (by omega)
      have k1 := (l1.below hb.out).c n hlt
      have k2 := (l2.below hb.out).c n hlt
      have k3 := (l1.below hb.out).lt
      have k4 := (l2.below hb.out).lt
      clear l1 l2
      generalize l[n] = x at *
      go_wp2_with fail
      go_quiet (fail)
      go_wp2
      go_roundw
      case rel => exact ⟨n + 1, by omega, by go_num, (by repeat (first | exact hb.out | refine below_drewN ?_ _ | refine Below.drew ?_))⟩
      case measure => simp [intOf]; omega
    · obtain rfl : n = l.length := by omega
      go_wp2
      go_ret
      exact ⟨rfl, hb.out⟩
end Go.Proofs.YtahgaccdeakmcaaGreatDoor
namespace Go.Proofs.YtahgaccdeakmcaaGreatDoor
open Go.RowKit
set_option maxRecDepth 100000
set_option linter.unusedVariables false
set_option linter.unusedSimpArgs false
set_option maxHeartbeats 4000000 in
theorem rcoins_core (L : List Sp) (kk : Nat) (E : Int) (a1 : Option Addr) (c : Nat) (w : World) (hl : L.length ≤ 12) (hL : 0 < L.length → ∃ b o, a1 = some ⟨b, o, none⟩ ∧ SpotsAt w b o L) (h : Hid (∀ k (h1 : k < L.length), k < kk → ∃ n, L[k] = qS n)) (hkk : kk ≤ L.length) (hbad : Hid (∀ h : kk < L.length, NoCoin L[kk]))
    (hR0 : Hid (kk < L.length → E = 3)) (hR1 : Hid (kk = L.length → E = 0)) :
    Calls Tryz.prog 25 #[.slice a1 L.length c] w fun e w' => e = .returned (.int .i64 E) ∧ Below w.heap.size w w' := by
  have hL' := Lib.hid hL
  have hd : decide ((12 : Int) < (L.length : Int)) = false := by rw [decide_eq_false_iff_not]; omega
  clear hL
  go_enter Tryz.func25, Tryz.ntmps25
  go_wp2
  go_loopw [3] (fun i wr => ∃ n : Nat, n ≤ L.length ∧ n ≤ kk ∧ i = .int .i64 n ∧ Below w.heap.size w wr) (fun i _ => L.length - (intOf i).toNat)
  case atStart => exact ⟨0, Nat.zero_le _, Nat.zero_le _, rfl, Below.refl _ _⟩
  case round =>
    obtain ⟨n, hn, hnk, rfl, hB⟩ := hrel
    replace hB := Lib.hid hB
    by_cases hlt : n < L.length
    · obtain ⟨b, o, rfl, hs0⟩ := hL'.out (by omega)
      have hsL := hs0.below hB.out
      have l1 := hsL.cx n hlt
      have l2 := hsL.cy n hlt
      have l3 := hsL.cf n hlt
      have l4 := hsL.lt
      have hgd := Lib.hid (h.out n hlt)
      have hbd := Lib.hid (fun e : n = kk => hbad.out (by omega))
      have hR0' := Lib.hid (fun e : n = kk => hR0.out (by omega))
      have hbn : n = kk → NoCoin L[n] := fun e => by subst e; exact hbad.out hlt
      replace hbn := Lib.hid hbn
      clear hsL hs0 h hbad hR0 hR1 hbd
      generalize L[n] = A at *
      by_cases hlk : n < kk
      · obtain ⟨m, rfl⟩ := hgd.out hlk
        have cC := Lib.hid (fun (w1 : World) => refSpot_e (qS m) 0 w1 (Lib.hid ((ok_iff _).mpr (qS_ok m))))
        have cI := Lib.hid (fun (w1 : World) => refIn_e (qS m) (4 * m) true w1 (Lib.hid rfl) (Lib.hid (sq_far.mpr (by omega))))
        generalize qS m = A at *
        go_wp2_with fail
        refine (cC.out _).mono ?_; rintro e w1 ⟨rfl, hb1⟩
        have hB1 := Lib.hid (below_seq hB.out hb1)
        have k1 := ((bcell hb1).1 _ _ l4).trans l1
        have k2 := ((bcell hb1).1 _ _ l4).trans l2
        have k3 := ((bcell hb1).1 _ _ l4).trans l3
        have k4 := Nat.lt_of_lt_of_le l4 hb1.size
        clear l1 l2 l3 l4 cC hb1
        go_wp2_with fail
        refine (cI.out _).mono ?_; rintro e w2 ⟨rfl, hb2⟩
        have hB2 := below_seq hB1.out hb2
        clear k1 k2 k3 k4
        go_wp2
        go_roundw
        case rel => exact ⟨n + 1, by omega, by omega, by go_num, hB2⟩
        case measure => simp [intOf]; omega
      · have hnk' : n = kk := by omega
        have hR := hR0'.out hnk'
        have hNo := hbn.out hnk'
        clear hnk' hbn hgd hR0' hlk
        rcases hNo with ⟨E1, e1, e2⟩ | ⟨u, rfl, e2⟩
        · have cC := Lib.hid (fun (w1 : World) => refSpot_e A E1 w1 (Lib.hid e1))
          have e3 : (E1 != 0) = true := by simpa using e2
          clear e1 e2
          go_wp2_with fail
          refine (cC.out _).mono ?_; rintro e w1 ⟨rfl, hb1⟩
          have hB2 := below_seq hB.out hb1
          clear l1 l2 l3 l4 cC
          go_wp2
          go_ret
          exact ⟨by rw [hR]; rfl, hB2⟩
        · have cC := Lib.hid (fun (w1 : World) => refSpot_e (sq u) 0 w1 (Lib.hid ((ok_iff _).mpr (sq_ok u))))
          have cI := Lib.hid (fun (w1 : World) => refIn_e (sq u) u false w1 (Lib.hid rfl) (Lib.hid e2))
          generalize sq u = A at *
          go_wp2_with fail
          refine (cC.out _).mono ?_; rintro e w1 ⟨rfl, hb1⟩
          have hB1 := Lib.hid (below_seq hB.out hb1)
          have k1 := ((bcell hb1).1 _ _ l4).trans l1
          have k2 := ((bcell hb1).1 _ _ l4).trans l2
          have k3 := ((bcell hb1).1 _ _ l4).trans l3
          have k4 := Nat.lt_of_lt_of_le l4 hb1.size
          clear l1 l2 l3 l4 cC hb1
          go_wp2_with fail
          refine (cI.out _).mono ?_; rintro e w2 ⟨rfl, hb2⟩
          have hB2 := below_seq hB1.out hb2
          clear k1 k2 k3 k4
          go_wp2
          go_ret
          exact ⟨by rw [hR]; rfl, hB2⟩
    · have hR := hR1.out (by omega)
      go_wp2
      go_ret
      exact ⟨by rw [hR]; rfl, hB.out⟩
theorem rcoins_full (n : Nat) (a1 : Option Addr) (c : Nat) (w : World) (h : 12 < n) (hn : n ≤ 9223372036854775807) :
    Calls Tryz.prog 25 #[.slice a1 n c] w fun e w' => e = .returned (.int .i64 4) ∧ Below w.heap.size w w' := by
  go_enter Tryz.func25, Tryz.ntmps25
  go_wp2
  go_ret
  exact ⟨rfl, Below.refl _ _⟩
set_option maxHeartbeats 4000000 in
theorem rbook_y (N : List Int) (a : Option Addr) (c : Nat) (w : World) (hn : N.length ≤ 12) (hL : 0 < (N.map qS).length → ∃ b o, a = some ⟨b, o, none⟩ ∧ SpotsAt w b o (N.map qS)) :
    Calls Tryz.prog 26 #[.slice a N.length c] w fun e w' => ∃ p, e = .returned (.pointer (some ⟨p, 0, none⟩)) ∧ BkAt w' w.heap.size p N (List.replicate N.length false) ∧ Below w.heap.size w w' := by
  have hl : (N.map qS).length = N.length := List.length_map _
  have hmk := mk_bols N.length (by omega)
  obtain ⟨w1, hw1⟩ : ∃ x, x = (w.alloc (.cells (madeCells #[.bool false] N.length) 4)).alloc (.cells #[.slice none 0 0, .slice (some ⟨w.heap.size, 0, none⟩) N.length N.length] 107) := ⟨_, rfl⟩
  have hb1 : Below w.heap.size w w1 := by rw [hw1]; exact balloc (below_alloc _ _) _
  have hrg : w1.ownsRow w.heap.size 4 1 (.slice (some ⟨w.heap.size, 0, none⟩) N.length N.length) N.length ((List.replicate N.length false).map Value.bool) := by rw [hw1]; exact (own_made w w.heap.size N.length (Nat.le_refl _) (by omega)).alloc _
  have p0 : w1.cell? ⟨w.heap.size + 1, 0, none⟩ = some (.slice none 0 0) := by rw [hw1]; go_simp
  have p1 : w1.cell? ⟨w.heap.size + 1, 1, none⟩ = some (.slice (some ⟨w.heap.size, 0, none⟩) N.length N.length) := by rw [hw1]; go_simp
  have f0 : w1.frozen? ⟨w.heap.size + 1, 0, none⟩ = false := by rw [hw1]; go_simp
  have f1 : w1.frozen? ⟨w.heap.size + 1, 1, none⟩ = false := by rw [hw1]; go_simp
  have pl : w.heap.size + 1 < w1.heap.size := by rw [hw1]; simp
  have hA := Lib.hid (AppRun.spots (w := w1) (B := w.heap.size + 2) (v := .slice none 0 0) (l := []) (m := N.map qS) (n := 0) (a := a) (c := c) (World.ownsRow_nil _ _ _ _) (fun h => by obtain ⟨b, o, e, hs⟩ := hL h; exact ⟨b, o, e, hs.below hb1⟩) (by omega) (by omega) (by omega))
  rw [hl] at hA
  replace hb1 := Lib.hid hb1
  replace hrg := Lib.hid hrg
  clear hL
  rw [hw1] at p0 p1 f0 f1 pl hA hb1 hrg
  clear hw1
  go_enter Tryz.func26, Tryz.ntmps26
  go_wp2_with (first | (at_builtin; refine wpl_app (by rfl) _ _ (by rfl) hA.out (by rfl) (by rfl) ?_; intro v' w2 hown hgr hloc; obtain ⟨av, cv, rfl⟩ := own_slB hown; have hbk : ∀ k, k < w.heap.size + 2 → w2.heap[k]? = ((w.alloc (.cells (madeCells #[.bool false] N.length) 4)).alloc (.cells #[.slice none 0 0, .slice (some ⟨w.heap.size, 0, none⟩) N.length N.length] 107)).heap[k]? := fun k hk => hgr.block k (by simp; omega) (by simp [Value.ownBlock]); have n0 := (World.cell?_of_block (a := ⟨w.heap.size + 1, 0, none⟩) (hbk (w.heap.size + 1) (by omega))).trans p0; have n1 := (World.cell?_of_block (a := ⟨w.heap.size + 1, 1, none⟩) (hbk (w.heap.size + 1) (by omega))).trans p1; have n2 := (World.frozen?_of_block (a := ⟨w.heap.size + 1, 0, none⟩) (hbk (w.heap.size + 1) (by omega))).trans f0; have n3 := (World.frozen?_of_block (a := ⟨w.heap.size + 1, 1, none⟩) (hbk (w.heap.size + 1) (by omega))).trans f1; have n4 : w.heap.size + 1 < w2.heap.size := Nat.lt_of_lt_of_le pl hgr.size; have hrg2 := own_keep hrg.out (fun k hk => hbk k (by have := (hrg.out.lt k hk).2; simp at this; omega)); replace hown := Lib.hid hown; replace hgr := Lib.hid hgr; replace hrg2 := Lib.hid hrg2; clear hloc hbk p0 p1 f0 f1 pl) | fail)
  have hne : (Value.slice av (0 + N.length) cv).ownBlock ≠ some (w.heap.size + 1) := fun e => by have := (hown.out.lt _ e).1; omega
  have hng : (Value.slice (some ⟨w.heap.size, 0, none⟩) N.length N.length).ownBlock ≠ some (w.heap.size + 1) := by simp [Value.ownBlock]
  obtain ⟨y0, y1, y2, y3, y5, y6⟩ := half n0 n1 n2 n3 n4 hrg2.out (own_base hown.out (Nat.le_add_right w.heap.size 2)) hne hng
  have hsz := hgr.out.size
  simp at hsz
  have hbe : Below w.heap.size w (w2.setCell ⟨w.heap.size + 1, 0, none⟩ (.slice av (0 + N.length) cv)) := (hb1.out.trans (Below.grown (Below.refl w.heap.size _) hgr.out (by simp; omega) (fun k hk => by simp [Value.ownBlock] at hk))).setCell (p := ⟨w.heap.size + 1, 0, none⟩) (by show w.heap.size ≤ w.heap.size + 1; omega) _
  rw [Nat.zero_add] at *
  go_wp2
  go_ret
  exact ⟨_, rfl, ⟨_, _, ⟨y0, y1, y2, y3, by simpa using n4, by omega, by simpa [spCells] using y6, y5, by simp, fun g h1 h2 => by simp [Value.ownBlock] at h2; have := (hown.out.lt g h1).1; omega, hne, hng⟩⟩, hbe⟩
/-- What is joined of coins. -/
theorem rjoinB_c (M : List Int) (a1 : Option Addr) (c : Nat) (w : World) (hl : M.length ≤ 12) (hL : 0 < M.length → ∃ b o, a1 = some ⟨b, o, none⟩ ∧ SpotsAt w b o (M.map qS)) :
    Calls Tryz.prog 113 #[.slice a1 M.length c] w fun e w' => e = .returned (spV (qS M.sum)) ∧ Below w.heap.size w w' := by
  have hL' := Lib.hid hL
  clear hL
  go_enter Tryz.func113, Tryz.ntmps113
  go_wp2
  have t0 : SpAt ((w.alloc (.cells #[.int .i64 0, .int .i64 0, .bool false] 28)).alloc (.cells #[.int .i64 0, .int .i64 0, .bool true] 28)) w.heap.size ⟨0, 0, false⟩ := (SpAt.fresh _ _ _ _ _).alloc _
  have t1 : SpAt ((w.alloc (.cells #[.int .i64 0, .int .i64 0, .bool false] 28)).alloc (.cells #[.int .i64 0, .int .i64 0, .bool true] 28)) (w.heap.size + 1) ⟨0, 0, true⟩ := SpAt.fresh1 _ _ _ _ _ _
  have tb := balloc (below_alloc w (.cells #[.int .i64 0, .int .i64 0, .bool false] 28)) (.cells #[.int .i64 0, .int .i64 0, .bool true] 28)
  replace t0 := Lib.hid t0
  replace t1 := Lib.hid t1
  replace tb := Lib.hid tb
  generalize (w.alloc (.cells #[.int .i64 0, .int .i64 0, .bool false] 28)).alloc (.cells #[.int .i64 0, .int .i64 0, .bool true] 28) = w0 at *
  go_loopw [4] (fun i wr => ∃ n : Nat, n ≤ M.length ∧ i = .int .i64 n ∧ SpAt wr w.heap.size ⟨0, 0, false⟩ ∧ SpAt wr (w.heap.size + 1) (qS (M.take n).sum) ∧ Below w.heap.size w wr) (fun i _ => M.length - (intOf i).toNat)
  case atStart => exact ⟨0, Nat.zero_le _, rfl, t0.out, (by show SpAt w0 _ (qS 0); rw [qS_zero]; exact t1.out), tb.out⟩
  case round =>
    clear t0 t1 tb
    obtain ⟨n, hn, rfl, hr, ho, hB⟩ := hrel
    have hol := ho.lt
    have hrl := hr.lt
    replace hr := Lib.hid hr
    replace ho := Lib.hid ho
    by_cases hlt : n < M.length
    · obtain ⟨b, o, rfl, hs0⟩ := hL'.out (by omega)
      have hsL := hs0.below hB
      have hjm : n < (M.map qS).length := by rw [List.length_map]; exact hlt
      have l1 := hsL.cx n hjm
      have l2 := hsL.cy n hjm
      have l3 := hsL.cf n hjm
      have l4 := hsL.lt
      rw [List.getElem_map] at l1 l2 l3
      have oA := qS_ok M[n]
      have hs : Hid (sSum (qS (M.take n).sum) (qS M[n]) = qS (M.take (n + 1)).sum) := by show _ = _; rw [qS_add, sumB_snoc M n hlt]
      clear hsL hs0
      generalize qS M[n] = A at *
      have oS := qS_ok (M.take n).sum
      generalize hS : qS (M.take n).sum = S at *
      obtain ⟨V, hV⟩ : ∃ V, qS (M.take (n + 1)).sum = V := ⟨_, rfl⟩
      rw [hV] at hs
      replace hV := Lib.hid hV
      obtain ⟨o0, o1, o2, of0, of1, of2, ol⟩ := ho.out
      go_wp2_with fail
      refine wp_region_grow_tail 6 Tryz.mixed (by kernel_rfl) ?_
      simp only [List.take_succ_cons, List.take_zero, List.drop_succ_cons, List.drop_zero]
      repeat (quiet_step ((go_at_call 69; exact grow_of (refAdd_e S A V _ oS oA hs))))
      refine wpQuiet_nil ?_
      intro _ hw'
      obtain ⟨x5, rfl⟩ := hw'
      have hB5 := Lib.hid (below_seq hB x5.h)
      have hr5 := Lib.hid (hr.out.below x5.h)
      have ho5 := Lib.hid (ho.out.below x5.h)
      clear o0 o1 o2 of0 of1 of2 ol l1 l2 l3 l4 hB hr ho hS
      generalize hyw : x5.w = w5 at *
      clear hyw x5
      obtain ⟨o0, o1, o2, of0, of1, of2, ol⟩ := ho5.out
      go_wp2
      go_roundw
      case rel => exact ⟨n + 1, by omega, by go_num, hr5.out.set3o (by omega) _ _ _, by rw [hV.out]; exact ho5.out.set3 _, set3_below hB5.out (by omega)⟩
      case measure => simp [intOf]; omega
    · obtain rfl : n = M.length := by omega
      rw [List.take_of_length_le (Nat.le_refl _)] at ho
      obtain ⟨k0, k1, k2, kf0, kf1, kf2, kl⟩ := hr.out
      obtain ⟨o0', o1', o2', of0, of1, of2, ol⟩ := ho.out
      generalize hDe : qS M.sum = D at *
      replace hDe := Lib.hid hDe
      go_wp2
      have kk' := set3_cell (w := wr) (x := .int .i64 D.x) (y := .int .i64 D.y) (z := .bool D.far) k0 k1 k2
      refine bodyPost_ret (v := spV D) (by simp [results, Tryz.results113, go_sem, kk'.1, kk'.2.1, kk'.2.2]) rfl ⟨by rw [hDe.out], set3_below hB (Nat.le_refl _)⟩
end Go.Proofs.YtahgaccdeakmcaaGreatDoor
namespace Go.Proofs.YtahgaccdeakmcaaGreatDoor
open Go.RowKit
set_option maxRecDepth 100000
set_option linter.unusedVariables false
set_option linter.unusedSimpArgs false
set_option maxHeartbeats 16000000 in
theorem rbex_core (N : List Int) (G : List Bool) (B p : Nat) (gl : List Int) (C : List Sp) (a0 a1 : Option Addr) (c0 c1 : Nat) (kk : Nat) (E EC : Int) (R : Value) (w : World) (hBk : BkAt w B p N G) (hNl : N.length ≤ 1000000) (hgl : gl.length ≤ 9223372036854775807)
    (h0 : 0 < gl.length → ∃ b o, a0 = some ⟨b, o, none⟩ ∧ IntsAt w b o gl) (h1 : 0 < C.length → ∃ b o, a1 = some ⟨b, o, none⟩ ∧ SpotsAt w b o C) (hCl : C.length ≤ 9223372036854775807)
    (hkk : kk ≤ gl.length) (hgood : ∀ i (h : i < gl.length), i < kk → gErrB G (gl.take i) gl[i] = 0) (hbad : ∀ h : kk < gl.length, gErrB G (gl.take kk) gl[kk] = E ∧ E ≠ 0)
    (hck : Hid (∀ w1 : World, Below w.heap.size w w1 → Calls Tryz.prog 25 #[.slice a1 C.length c1] w1 fun e w' => e = .returned (.int .i64 EC) ∧ Below w1.heap.size w1 w'))
    (hR0 : Hid (kk < gl.length → R = .tuple #[spV ⟨0, 0, false⟩, .int .i64 E]))
    (hR1 : Hid (kk = gl.length → ((EC != 0) = true ∧ R = .tuple #[spV ⟨0, 0, false⟩, .int .i64 EC]) ∨ (EC = 0 ∧ ∃ M : List Int, M.length ≤ 12 ∧ C = M.map qS ∧ R = .tuple #[spV (qS (outN N gl + M.sum)), .int .i64 0]))) :
    Calls Tryz.prog 64 #[.pointer (some ⟨p, 0, none⟩), .slice a0 gl.length c0, .slice a1 C.length c1] w fun e w' => e = .returned R ∧ Below w.heap.size w w' := by
  obtain ⟨vc, vg, hBk⟩ := hBk
  obtain ⟨ac, cc, rfl⟩ := own_slB hBk.rc
  obtain ⟨ag, cg, rfl⟩ := own_slB hBk.rg
  have hNs : 0 < N.length → ∃ b o, ac = some ⟨b, o, none⟩ ∧ SpotsAt w b o (N.map qS) := fun h => by
    obtain ⟨a, c, e, hs⟩ := hBk.sp
    simp only [Value.slice.injEq] at e
    obtain ⟨rfl, -, -⟩ := e
    exact hs (by rw [List.length_map]; exact h)
  have hGs : 0 < N.length → ∃ b o, ag = some ⟨b, o, none⟩ ∧ BolsAt w b o G := fun h => by
    obtain ⟨a, c, e, hs⟩ := hBk.bo
    simp only [Value.slice.injEq] at e
    obtain ⟨rfl, -, -⟩ := e
    exact hs (by rw [hBk.ln]; exact h)
  have hGl := hBk.ln
  have p0 := hBk.c0
  have p1 := hBk.c1
  have hp := hBk.lt
  have hcp := Lib.hid (fun (w' : World) (hb : Below w.heap.size w w') => (⟨((bcell hb).1 _ 0 hp).trans p0, ((bcell hb).1 _ 1 hp).trans p1, Nat.lt_of_lt_of_le hp hb.size⟩ : w'.cell? ⟨p, 0, none⟩ = some (.slice ac N.length cc) ∧ w'.cell? ⟨p, 1, none⟩ = some (.slice ag N.length cg) ∧ p < w'.heap.size))
  clear hBk p0 p1
  replace h0 := Lib.hid h0
  replace h1 := Lib.hid h1
  replace hNs := Lib.hid hNs
  replace hGs := Lib.hid hGs
  replace hgood := Lib.hid hgood
  replace hbad := Lib.hid hbad
  go_enter Tryz.func64, Tryz.ntmps64
  go_wp2
  have t0 : SpAt ((w.alloc (.cells #[.int .i64 0, .int .i64 0, .bool false] 28)).alloc (.cells #[.int .i64 0, .int .i64 0, .bool true] 28)) w.heap.size ⟨0, 0, false⟩ := (SpAt.fresh _ _ _ _ _).alloc _
  have t1 : SpAt ((w.alloc (.cells #[.int .i64 0, .int .i64 0, .bool false] 28)).alloc (.cells #[.int .i64 0, .int .i64 0, .bool true] 28)) (w.heap.size + 1) ⟨0, 0, true⟩ := SpAt.fresh1 _ _ _ _ _ _
  have tb := balloc (below_alloc w (.cells #[.int .i64 0, .int .i64 0, .bool false] 28)) (.cells #[.int .i64 0, .int .i64 0, .bool true] 28)
  replace t0 := Lib.hid t0
  replace t1 := Lib.hid t1
  replace tb := Lib.hid tb
  generalize (w.alloc (.cells #[.int .i64 0, .int .i64 0, .bool false] 28)).alloc (.cells #[.int .i64 0, .int .i64 0, .bool true] 28) = w0 at *
  go_loopw [9] (fun i wr => ∃ n : Nat, n ≤ gl.length ∧ n ≤ kk ∧ i = .int .i64 n ∧ SpAt wr w.heap.size ⟨0, 0, false⟩ ∧ SpAt wr (w.heap.size + 1) (qS (outN N (gl.take n))) ∧ Below w.heap.size w wr) (fun i _ => gl.length - (intOf i).toNat)
  case atStart => exact ⟨0, Nat.zero_le _, Nat.zero_le _, rfl, t0.out, (by show SpAt w0 _ (qS 0); rw [qS_zero]; exact t1.out), tb.out⟩
  case round =>
    clear t0 t1 tb
    obtain ⟨n, hn, hnk, rfl, hr, ho, hB⟩ := hrel
    have hol := ho.lt
    have hrl := hr.lt
    replace hr := Lib.hid hr
    replace ho := Lib.hid ho
    replace hB := Lib.hid hB
    by_cases hlt : n < gl.length
    · obtain ⟨b0, o0, rfl, hs0⟩ := h0.out (by omega)
      have hsI := hs0.below hB.out
      have l1 := hsI.c n hlt
      have l2 := hsI.lt
      obtain ⟨r0, r1, r2⟩ := hcp.out _ hB.out
      have hgd := Lib.hid (hgood.out n hlt)
      have hbn : n = kk → gErrB G (gl.take n) gl[n] = E ∧ E ≠ 0 := fun e => by subst e; exact hbad.out hlt
      replace hbn := Lib.hid hbn
      have hRn := Lib.hid (fun e : n = kk => hR0.out (by omega))
      have hsn := Lib.hid (take_snocI gl n hlt)
      have hst := Lib.hid (hsI.take n)
      have htl : (gl.take n).length = n := by rw [List.length_take]; omega
      clear hsI hs0 hgood hbad hR0 hR1 h1 hck
      generalize gl[n] = g at *
      generalize gl.take n = pre at *
      by_cases hrg : g < 0 ∨ (N.length : Int) ≤ g
      · have hE : gErrB G pre g = 1 := if_pos (by rw [hGl]; exact hrg)
        have hnk2 : n = kk := by
          by_cases e : n = kk
          · exact e
          · have := hgd.out (by omega); omega
        obtain ⟨e1, -⟩ := hbn.out hnk2
        have hR := hRn.out hnk2
        obtain rfl : E = 1 := by omega
        clear hgd hbn hRn hnk2 hE e1 hNs hGs hsn hst
        obtain ⟨k0, k1, k2, kf0, kf1, kf2, kl⟩ := hr.out
        rcases hrg with hrg | hrg
        · have d1 : decide (g < 0) = true := decide_eq_true hrg
          go_wp2
          have k := set3_cell (w := wr) (x := .int .i64 0) (y := .int .i64 0) (z := .bool false) k0 k1 k2
          refine bodyPost_ret (v := .tuple #[spV ⟨0, 0, false⟩, .int .i64 1]) (by simp [results, Tryz.results64, go_sem, k.1, k.2.1, k.2.2]) rfl ⟨by first | rfl | rw [hR], set3_below hB.out (Nat.le_refl _)⟩
        · have d1 : decide (g < 0) = false := decide_eq_false (by omega)
          have d2 : decide ((N.length : Int) ≤ g) = true := decide_eq_true hrg
          go_wp2
          have k := set3_cell (w := wr) (x := .int .i64 0) (y := .int .i64 0) (z := .bool false) k0 k1 k2
          refine bodyPost_ret (v := .tuple #[spV ⟨0, 0, false⟩, .int .i64 1]) (by simp [results, Tryz.results64, go_sem, k.1, k.2.1, k.2.2]) rfl ⟨by first | rfl | rw [hR], set3_below hB.out (Nat.le_refl _)⟩
      · obtain ⟨j, rfl⟩ : ∃ j : Nat, g = (j : Int) := ⟨g.toNat, by omega⟩
        have hj : j < N.length := by omega
        have d1 : decide ((j : Int) < 0) = false := decide_eq_false (by omega)
        have d2 : decide ((N.length : Int) ≤ (j : Int)) = false := decide_eq_false (by omega)
        have hjG : j < G.length := by rw [hGl]; exact hj
        obtain ⟨bg, og, rfl, hsG⟩ := hGs.out (by omega)
        have g1 := (hsG.below hB.out).c j hjG
        have g2 := (hsG.below hB.out).lt
        have hgE : gErrB G pre (j : Int) = if G[j] = true then 6 else if (j : Int) ∈ pre then 7 else 0 := by
          unfold gErrB
          rw [if_neg (by rw [hGl]; exact hrg), Int.toNat_natCast, List.getD_eq_getElem?_getD, List.getElem?_eq_getElem hjG]; rfl
        rw [hgE] at hgd hbn
        clear hgE hsG hGs hrg
        generalize G[j] = gj at *
        cases gj
        · have hsn1 : Hid ((j : Int) ∉ pre → qS (outN N (gl.take (n + 1))) = sSum (qS (outN N pre)) (qS (-N[j]))) := by
            show _ → _
            intro _
            rw [hsn.out, outN_snoc, qS_add, Int.toNat_natCast, List.getD_eq_getElem?_getD, List.getElem?_eq_getElem hj]; rfl
          obtain ⟨bc, oc, rfl, hsN⟩ := hNs.out (by omega)
          have hjm : j < (N.map qS).length := by rw [List.length_map]; exact hj
          have m1 := (hsN.below hB.out).cx j hjm
          have m2 := (hsN.below hB.out).cy j hjm
          have m3 := (hsN.below hB.out).cf j hjm
          have m4 := (hsN.below hB.out).lt
          rw [List.getElem_map] at m1 m2 m3
          have hKc := Lib.hid (fun (w' : World) (hb : Below w.heap.size w w') => (⟨by have := (hsN.below hb).cx j hjm; rw [List.getElem_map] at this; exact this, by have := (hsN.below hb).cy j hjm; rw [List.getElem_map] at this; exact this, by have := (hsN.below hb).cf j hjm; rw [List.getElem_map] at this; exact this, (hsN.below hb).lt⟩ : w'.cell? ⟨bc, oc + j * 3, none⟩ = some (.int .i64 (qS N[j]).x) ∧ w'.cell? ⟨bc, oc + j * 3 + 1, none⟩ = some (.int .i64 (qS N[j]).y) ∧ w'.cell? ⟨bc, oc + j * 3 + 2, none⟩ = some (.bool (qS N[j]).far) ∧ bc < w'.heap.size))
          have hT := Lib.hid (qS_neg N[j])
          have oK := qS_ok N[j]
          have oT := qS_ok (-N[j])
          have oS := qS_ok (outN N pre)
          generalize qS N[j] = K at *
          generalize qS (-N[j]) = T at *
          generalize qS (outN N pre) = S at *
          generalize hD : qS (outN N (gl.take (n + 1))) = D at *
          replace hD := Lib.hid hD
          clear hsn hNs hsN
          have hmn : Hid ((j : Int) ∈ pre → n = kk ∧ E = 7) := Lib.hid fun hmem => by
            have hnk2 : n = kk := by
              by_cases e : n = kk
              · exact e
              · have := hgd.out (by omega); rw [if_neg (by simp), if_pos hmem] at this; omega
            obtain ⟨e1, -⟩ := hbn.out hnk2
            rw [if_neg (by simp), if_pos hmem] at e1
            exact ⟨hnk2, e1.symm⟩
          have hml : Hid ((j : Int) ∉ pre → n < kk) := Lib.hid fun hmem => by
            by_cases e : n = kk
            · obtain ⟨e1, e2⟩ := hbn.out e
              rw [if_neg (by simp), if_neg hmem] at e1
              exact absurd e1.symm e2
            · omega
          clear hgd hbn
          go_wp2_with fail
          clear l1 r0 r1 g1 m1 m2 m3
          obtain ⟨wA, rfl⟩ : ∃ x : World, x = wr := ⟨_, rfl⟩
          go_loopw [11] (fun i w2 => ∃ q : Nat, q ≤ n ∧ i = .int .i64 q ∧ (∀ (k : Nat) (h : k < pre.length), k < q → pre[k] ≠ (j : Int)) ∧ w2 = wA) (fun i _ => n - (intOf i).toNat)
          case atStart => exact ⟨0, Nat.zero_le _, rfl, fun k _ h => absurd h (Nat.not_lt_zero _), rfl⟩
          case round =>
            obtain ⟨q, hq, rfl, hno, hw2⟩ := hrel
            replace hno := Lib.hid hno
            subst hw2
            by_cases hql : q < n
            · have hqp : q < pre.length := by omega
              have z1 := hst.out.c q hqp
              have d3 : (q : Int) < (gl.length : Int) := by omega
              by_cases heq : pre[q] = (j : Int)
              · obtain ⟨e0, rfl⟩ := hmn.out (heq ▸ List.getElem_mem hqp)
                have hR := hRn.out e0
                rw [heq] at z1
                clear heq e0 hmn hml hRn hst hsn1
                obtain ⟨k0, k1, k2, kf0, kf1, kf2, kl⟩ := hr.out
                go_wp2
                have k := set3_cell (w := wr) (x := .int .i64 0) (y := .int .i64 0) (z := .bool false) k0 k1 k2
                refine bodyPost_ret (v := .tuple #[spV ⟨0, 0, false⟩, .int .i64 7]) (by simp [results, Tryz.results64, go_sem, k.1, k.2.1, k.2.2]) rfl ⟨by first | rfl | rw [hR], set3_below hB.out (Nat.le_refl _)⟩
              · have g5 : (pre[q] == (j : Int)) = false := by rw [beq_eq_false_iff_ne]; exact heq
                have hno2 := Lib.hid (show ∀ (k : Nat) (h : k < pre.length), k < q + 1 → pre[k] ≠ (j : Int) from fun k h hk => by
                  by_cases e : k < q
                  · exact hno.out k h e
                  · obtain rfl : k = q := by omega
                    exact heq)
                clear heq hno
                generalize pre[q] = pq at *
                go_wp2
                go_roundw
                case rel => exact ⟨q + 1, by omega, by go_num, hno2.out, by first | trivial | rfl⟩
                case measure => simp [intOf]; omega
            · have hmem : (j : Int) ∉ pre := fun h => by
                obtain ⟨k, hk, e⟩ := List.getElem_of_mem h
                exact hno.out k hk (by omega) e
              have hD2 : Hid (sSum S T = D) := Lib.hid (hsn1.out hmem).symm
              have hnk2 := hml.out hmem
              have d5 : decide (q < n) = false := decide_eq_false hql
              obtain ⟨r0, r1, r2⟩ := hcp.out _ hB.out
              obtain ⟨m1, m2, m3, m4⟩ := hKc.out _ hB.out
              clear hno hmem hsn1 hml hmn hRn hst
              obtain ⟨o0', o1', o2', of0, of1, of2, ol⟩ := ho.out
              go_wp2_with fail
              refine wp_region_grow_tail 10 Tryz.mixed (by kernel_rfl) ?_
              simp only [List.take_succ_cons, List.take_zero, List.drop_succ_cons, List.drop_zero]
              repeat (quiet_step (first | (go_at_call 112; exact grow_of (refNeg_e K T _ oK hT)) | (go_at_call 69; exact grow_of (refAdd_e S T D _ oS oT hD2))))
              refine wpQuiet_nil ?_
              intro _ hw'
              obtain ⟨x, rfl⟩ := hw'
              have hr2 := hr.out.below x.h
              have ho2 := ho.out.below x.h
              have ho2' := Lib.hid ho2
              have hB2 := Lib.hid (below_seq hB.out x.h)
              clear l2 r0 r1 r2 g2 m1 m2 m3 m4 o0' o1' o2' of0 of1 of2 ol
              obtain ⟨o0', o1', o2', of0, of1, of2, ol⟩ := ho2
              go_wp2
              go_roundw
              case rel => exact ⟨n + 1, by omega, by omega, by go_num, hr2.set3o (by omega) _ _ _, by rw [hD.out]; exact ho2'.out.set3 _, set3_below hB2.out (by omega)⟩
              case measure => simp [intOf]; omega
        · have hnk2 : n = kk := by
            by_cases e : n = kk
            · exact e
            · have := hgd.out (by omega); simp at this
          obtain ⟨e1, -⟩ := hbn.out hnk2
          have hR := hRn.out hnk2
          obtain rfl : E = 6 := by rw [if_pos rfl] at e1; exact e1.symm
          clear hgd hbn hRn hnk2 e1 hNs hsn hst
          obtain ⟨k0, k1, k2, kf0, kf1, kf2, kl⟩ := hr.out
          go_wp2
          have k := set3_cell (w := wr) (x := .int .i64 0) (y := .int .i64 0) (z := .bool false) k0 k1 k2
          refine bodyPost_ret (v := .tuple #[spV ⟨0, 0, false⟩, .int .i64 6]) (by simp [results, Tryz.results64, go_sem, k.1, k.2.1, k.2.2]) rfl ⟨by first | rfl | rw [hR], set3_below hB.out (Nat.le_refl _)⟩
    · obtain rfl : n = gl.length := by omega
      have hR := hR1.out (by omega)
      rw [List.take_of_length_le (Nat.le_refl _)] at ho
      clear hR0 hR1 hgood hbad hNs hGs
      replace hR := Lib.hid hR
      have hc1 := Lib.hid (hck.out _ hB.out)
      clear hck
      go_wp2_with fail
      refine hc1.out.mono ?_; rintro e w1 ⟨rfl, hb1⟩
      have hB1 := Lib.hid (below_seq hB.out hb1)
      have hr1 := Lib.hid (hr.out.below hb1)
      have ho1 := Lib.hid (ho.out.below hb1)
      clear hc1 hB hr ho hb1 hcp
      rcases hR.out with ⟨hne, rfl⟩ | ⟨rfl, M, hM, rfl, rfl⟩
      · obtain ⟨k0, k1, k2, kf0, kf1, kf2, kl⟩ := hr1.out
        go_wp2
        have kk' := set3_cell (w := w1) (x := .int .i64 0) (y := .int .i64 0) (z := .bool false) k0 k1 k2
        refine bodyPost_ret (v := .tuple #[spV ⟨0, 0, false⟩, .int .i64 EC]) (by simp [results, Tryz.results64, go_sem, kk'.1, kk'.2.1, kk'.2.2]) rfl ⟨rfl, set3_below hB1.out (Nat.le_refl _)⟩
      · clear hR
        rw [List.length_map] at h1 hCl
        have hJ := Lib.hid (fun (w2 : World) (hb : Below w.heap.size w w2) => rjoinB_c M a1 c1 w2 hM (fun h => by obtain ⟨b, o, e, hs⟩ := h1.out h; exact ⟨b, o, e, hs.below hb⟩))
        have oO := qS_ok (outN N gl)
        have oM := qS_ok M.sum
        have hs : Hid (sSum (qS (outN N gl)) (qS M.sum) = qS (outN N gl + M.sum)) := Lib.hid (qS_add _ _)
        generalize qS (outN N gl) = O at *
        generalize qS M.sum = Q at *
        generalize hD : qS (outN N gl + M.sum) = D at *
        replace hD := Lib.hid hD
        obtain ⟨o0', o1', o2', of0, of1, of2, ol⟩ := ho1.out
        simp only [List.length_map]
        go_wp2_with fail
        refine wp_region_grow_tail 4 Tryz.mixed (by kernel_rfl) ?_
        simp only [List.take_succ_cons, List.take_zero, List.drop_succ_cons, List.drop_zero]
        repeat (quiet_step (first | (go_at_call 113; exact grow_of (hJ.out _ (below_seq hB1.out (Grew.h _)))) | (go_at_call 69; exact grow_of (refAdd_e O Q D _ oO oM hs))))
        refine wpQuiet_nil ?_
        intro _ hw'
        obtain ⟨x, rfl⟩ := hw'
        have hr2 := hr1.out.below x.h
        have hB2 := Lib.hid (below_seq hB1.out x.h)
        clear o0' o1' o2' of0 of1 of2 ol
        obtain ⟨k0, k1, k2, kf0, kf1, kf2, kl⟩ := hr2
        go_wp2
        have kk' := set3_cell (w := x.w) (x := .int .i64 D.x) (y := .int .i64 D.y) (z := .bool D.far) k0 k1 k2
        refine bodyPost_ret (v := .tuple #[spV D, .int .i64 0]) (by simp [results, Tryz.results64, go_sem, kk'.1, kk'.2.1, kk'.2.2]) rfl ⟨by rw [hD.out], set3_below hB2.out (Nat.le_refl _)⟩
end Go.Proofs.YtahgaccdeakmcaaGreatDoor
namespace Go.Proofs.YtahgaccdeakmcaaGreatDoor
open Go.RowKit
set_option maxRecDepth 100000
set_option linter.unusedVariables false
set_option linter.unusedSimpArgs false
set_option maxHeartbeats 8000000 in
theorem rblive_c (N : List Int) (G : List Bool) (B p : Nat) (w : World) (hBk : BkAt w B p N G) (hN : N.length ≤ 1000000) :
    Calls Tryz.prog 31 #[.pointer (some ⟨p, 0, none⟩)] w fun e w' => ∃ v', e = .returned v' ∧ w'.ownsRow w.heap.size 3 1 v' (liveN G N.length).length ((liveN G N.length).map (Value.int .i64)) ∧ Below w.heap.size w w' := by
  obtain ⟨vc, vg, hBk⟩ := hBk
  obtain ⟨ag, cg, rfl⟩ := own_slB hBk.rg
  have hGs : 0 < N.length → ∃ b o, ag = some ⟨b, o, none⟩ ∧ BolsAt w b o G := fun h => by
    obtain ⟨a, c, e, hs⟩ := hBk.bo
    simp only [Value.slice.injEq] at e
    obtain ⟨rfl, -, -⟩ := e
    exact hs (by rw [hBk.ln]; exact h)
  have hGl := hBk.ln
  have p1 := hBk.c1
  have hp := hBk.lt
  have hcp := Lib.hid (fun (w' : World) (hb : Below w.heap.size w w') => (⟨((bcell hb).1 _ 1 hp).trans p1, Nat.lt_of_lt_of_le hp hb.size⟩ : w'.cell? ⟨p, 1, none⟩ = some (.slice ag N.length cg) ∧ p < w'.heap.size))
  clear hBk p1
  replace hGs := Lib.hid hGs
  go_enter Tryz.func31, Tryz.ntmps31
  go_wp2
  go_loopw [3, 4] (fun v i wr => ∃ n : Nat, n ≤ N.length ∧ i = .int .i64 n ∧ wr.ownsRow w.heap.size 3 1 v (liveN G n).length ((liveN G n).map (Value.int .i64)) ∧ Below w.heap.size w wr) (fun _ i _ => N.length - (intOf i).toNat)
  case atStart => exact ⟨0, Nat.zero_le _, rfl, World.ownsRow_nil _ _ _ _, Below.refl _ _⟩
  case round =>
    obtain ⟨n, hn, rfl, hown, hB⟩ := hrel
    replace hown := Lib.hid hown
    replace hB := Lib.hid hB
    obtain ⟨r1, r2⟩ := hcp.out _ hB.out
    by_cases hlt : n < N.length
    · obtain ⟨bg, og, rfl, hsG⟩ := hGs.out (by omega)
      have hjG : n < G.length := by omega
      have m1 := (hsG.below hB.out).c n hjG
      have m2 := (hsG.below hB.out).lt
      have hz := hB.out.size
      have hll := liveN_len G n
      have hst : Hid (liveN G (n + 1) = liveN G n ++ (if G[n] = true then [] else [(n : Int)])) := by
        show _ = _
        show liveN G n ++ _ = _
        rw [List.getD_eq_getElem?_getD, List.getElem?_eq_getElem hjG]; rfl
      clear hsG hGs
      generalize G[n] = gn at *
      cases gn
      · rw [if_neg (by simp)] at hst
        go_wp2_with (first | (at_builtin; refine wpl_append_int rfl _ _ _ rfl (by kernel_rfl) w.heap.size _ (liveN G n) (liveN G n).length rfl (hown.out.alloc _) rfl (by omega) (by simp only [World.size_alloc]; omega) wr.heap.size (n : Int) rfl (by go_simp) ?_; intro v1 w7 hown' hgrow hbel hloc; replace hown' := Lib.hid hown'; replace hbel := Lib.hid (hbel w (balloc hB.out _)); clear hgrow hloc) | fail)
        go_wp2
        go_roundw
        case rel => exact ⟨n + 1, by omega, by go_num, by rw [hst.out, List.length_append]; exact hown'.out, hbel.out⟩
        case measure => simp [intOf]; omega
      · rw [if_pos rfl, List.append_nil] at hst
        go_wp2
        go_roundw
        case rel => exact ⟨n + 1, by omega, by go_num, by rw [hst.out]; exact hown.out, hB.out⟩
        case measure => simp [intOf]; omega
    · obtain rfl : n = N.length := by omega
      go_wp2
      go_ret
      exact ⟨_, rfl, hown.out, hB.out⟩
set_option maxHeartbeats 8000000 in
theorem rbtotal_c (N : List Int) (G : List Bool) (B p : Nat) (w : World) (hBk : BkAt w B p N G) (hN : N.length ≤ 1000000) :
    Calls Tryz.prog 32 #[.pointer (some ⟨p, 0, none⟩)] w fun e w' => e = .returned (spV (qS (totN N G N.length))) ∧ Below w.heap.size w w' := by
  obtain ⟨vc, vg, hBk⟩ := hBk
  obtain ⟨ac, cc, rfl⟩ := own_slB hBk.rc
  obtain ⟨ag, cg, rfl⟩ := own_slB hBk.rg
  have hNs : 0 < N.length → ∃ b o, ac = some ⟨b, o, none⟩ ∧ SpotsAt w b o (N.map qS) := fun h => by
    obtain ⟨a, c, e, hs⟩ := hBk.sp
    simp only [Value.slice.injEq] at e
    obtain ⟨rfl, -, -⟩ := e
    exact hs (by rw [List.length_map]; exact h)
  have hGs : 0 < N.length → ∃ b o, ag = some ⟨b, o, none⟩ ∧ BolsAt w b o G := fun h => by
    obtain ⟨a, c, e, hs⟩ := hBk.bo
    simp only [Value.slice.injEq] at e
    obtain ⟨rfl, -, -⟩ := e
    exact hs (by rw [hBk.ln]; exact h)
  have hGl := hBk.ln
  have p0 := hBk.c0
  have p1 := hBk.c1
  have hp := hBk.lt
  have hcp := Lib.hid (fun (w' : World) (hb : Below w.heap.size w w') => (⟨((bcell hb).1 _ 0 hp).trans p0, ((bcell hb).1 _ 1 hp).trans p1, Nat.lt_of_lt_of_le hp hb.size⟩ : w'.cell? ⟨p, 0, none⟩ = some (.slice ac N.length cc) ∧ w'.cell? ⟨p, 1, none⟩ = some (.slice ag N.length cg) ∧ p < w'.heap.size))
  clear hBk p0 p1
  replace hNs := Lib.hid hNs
  replace hGs := Lib.hid hGs
  go_enter Tryz.func32, Tryz.ntmps32
  go_wp2
  have t0 : SpAt ((w.alloc (.cells #[.int .i64 0, .int .i64 0, .bool false] 28)).alloc (.cells #[.int .i64 0, .int .i64 0, .bool true] 28)) w.heap.size ⟨0, 0, false⟩ := (SpAt.fresh _ _ _ _ _).alloc _
  have t1 : SpAt ((w.alloc (.cells #[.int .i64 0, .int .i64 0, .bool false] 28)).alloc (.cells #[.int .i64 0, .int .i64 0, .bool true] 28)) (w.heap.size + 1) ⟨0, 0, true⟩ := SpAt.fresh1 _ _ _ _ _ _
  have tb := balloc (below_alloc w (.cells #[.int .i64 0, .int .i64 0, .bool false] 28)) (.cells #[.int .i64 0, .int .i64 0, .bool true] 28)
  replace t0 := Lib.hid t0
  replace t1 := Lib.hid t1
  replace tb := Lib.hid tb
  generalize (w.alloc (.cells #[.int .i64 0, .int .i64 0, .bool false] 28)).alloc (.cells #[.int .i64 0, .int .i64 0, .bool true] 28) = w0 at *
  go_loopw [4] (fun i wr => ∃ n : Nat, n ≤ N.length ∧ i = .int .i64 n ∧ SpAt wr w.heap.size ⟨0, 0, false⟩ ∧ SpAt wr (w.heap.size + 1) (qS (totN N G n)) ∧ Below w.heap.size w wr) (fun i _ => N.length - (intOf i).toNat)
  case atStart => exact ⟨0, Nat.zero_le _, rfl, t0.out, (by show SpAt w0 _ (qS 0); rw [qS_zero]; exact t1.out), tb.out⟩
  case round =>
    clear t0 t1 tb
    obtain ⟨n, hn, rfl, hr, ho, hB⟩ := hrel
    have hol := ho.lt
    have hrl := hr.lt
    replace hr := Lib.hid hr
    replace ho := Lib.hid ho
    replace hB := Lib.hid hB
    obtain ⟨r0, r1, r2⟩ := hcp.out _ hB.out
    by_cases hlt : n < N.length
    · obtain ⟨bc, oc, rfl, hsN⟩ := hNs.out (by omega)
      obtain ⟨bg, og, rfl, hsG⟩ := hGs.out (by omega)
      have hjm : n < (N.map qS).length := by rw [List.length_map]; exact hlt
      have hjG : n < G.length := by omega
      have l1 := (hsN.below hB.out).cx n hjm
      have l2 := (hsN.below hB.out).cy n hjm
      have l3 := (hsN.below hB.out).cf n hjm
      have l4 := (hsN.below hB.out).lt
      rw [List.getElem_map] at l1 l2 l3
      have m1 := (hsG.below hB.out).c n hjG
      have m2 := (hsG.below hB.out).lt
      have hst : totN N G (n + 1) = totN N G n + (if G[n] = true then 0 else N[n]) := by
        show totN N G n + _ = _
        rw [List.getD_eq_getElem?_getD, List.getElem?_eq_getElem hjG, List.getD_eq_getElem?_getD, List.getElem?_eq_getElem hlt]; rfl
      have oA := qS_ok N[n]
      have oS := qS_ok (totN N G n)
      have hsum : Hid (sSum (qS (totN N G n)) (qS N[n]) = qS (totN N G n + N[n])) := Lib.hid (qS_add _ _)
      replace hst := Lib.hid hst
      clear hsN hsG hNs hGs
      generalize N[n] = a at *
      generalize G[n] = gn at *
      generalize qS a = A at *
      obtain ⟨o0', o1', o2', of0, of1, of2, ol⟩ := ho.out
      cases gn
      · obtain ⟨D, hD⟩ : ∃ D, qS (totN N G n + a) = D := ⟨_, rfl⟩
        rw [hD] at hsum
        replace hD := Lib.hid hD
        generalize qS (totN N G n) = S at *
        go_wp2_with fail
        refine wp_region_grow_tail 9 Tryz.mixed (by kernel_rfl) ?_
        simp only [List.take_succ_cons, List.take_zero, List.drop_succ_cons, List.drop_zero]
        repeat (quiet_step ((go_at_call 69; exact grow_of (refAdd_e S A D _ oS oA hsum))))
        refine wpQuiet_nil ?_
        intro _ hw'
        obtain ⟨x5, rfl⟩ := hw'
        have hr2 := hr.out.below x5.h
        have ho2 := ho.out.below x5.h
        have ho2' := Lib.hid ho2
        have hB2 := Lib.hid (below_seq hB.out x5.h)
        clear l1 l2 l3 l4 m1 m2 r0 r1 r2 o0' o1' o2' of0 of1 of2 ol
        obtain ⟨o0', o1', o2', of0, of1, of2, ol⟩ := ho2
        go_wp2
        go_roundw
        case rel => exact ⟨n + 1, by omega, by go_num, hr2.set3o (by omega) _ _ _, by rw [hst.out, if_neg (by simp), hD.out]; exact ho2'.out.set3 _, set3_below hB2.out (by omega)⟩
        case measure => simp [intOf]; omega
      · go_wp2
        go_roundw
        case rel => exact ⟨n + 1, by omega, by go_num, hr.out, by rw [hst.out, if_pos rfl, Int.add_zero]; exact ho.out, hB.out⟩
        case measure => simp [intOf]; omega
    · obtain rfl : n = N.length := by omega
      obtain ⟨k0, k1, k2, kf0, kf1, kf2, kl⟩ := hr.out
      obtain ⟨o0', o1', o2', of0, of1, of2, ol⟩ := ho.out
      generalize hDe : qS (totN N G N.length) = D at *
      replace hDe := Lib.hid hDe
      go_wp2
      have kk' := set3_cell (w := wr) (x := .int .i64 D.x) (y := .int .i64 D.y) (z := .bool D.far) k0 k1 k2
      refine bodyPost_ret (v := spV D) (by simp [results, Tryz.results32, go_sem, kk'.1, kk'.2.1, kk'.2.2]) rfl ⟨by rw [hDe.out], set3_below hB.out (Nat.le_refl _)⟩
set_option maxHeartbeats 4000000 in
theorem rbask_c (a b : Sp) (c : Int) (w : World) (oa : Ok a) (ob : Ok b) (hc : Hid (bAsk a b = c)) : Calls Tryz.prog 66 #[spV a, spV b] w fun e w' => e = .returned (.int .i64 c) ∧ Below w.heap.size w w' := by
  rw [← hc.out]
  obtain ⟨w1, hw1⟩ : ∃ x, x = ((w.alloc (.cells #[.int .i64 a.x, .int .i64 a.y, .bool a.far] 28)).alloc (.cells #[.int .i64 b.x, .int .i64 b.y, .bool b.far] 28)).alloc (.cells #[.int .i64 a.x, .int .i64 a.y, .bool a.far, .int .i64 b.x, .int .i64 b.y, .bool b.far] 28) := ⟨_, rfl⟩
  have hm : SpSl w1 (.slice (some ⟨w.heap.size + 1 + 1, 0, none⟩) 2 2) [a, b] := by rw [hw1]; exact SpSl.made ((w.alloc (.cells #[.int .i64 a.x, .int .i64 a.y, .bool a.far] 28)).alloc (.cells #[.int .i64 b.x, .int .i64 b.y, .bool b.far] 28)) [a, b] (w.heap.size + 1 + 1) 2 2 #[.int .i64 a.x, .int .i64 a.y, .bool a.far, .int .i64 b.x, .int .i64 b.y, .bool b.far] 28 (by simp) rfl rfl
  have hb : Below w.heap.size w w1 := by rw [hw1]; exact balloc (balloc (below_alloc _ _) _) _
  have hsz := lsB_size 2 [a, b]
  have hLs := Lib.hid (rlist_sl [a, b] _ w1 (by simp) hm (two_oks oa ob))
  replace hb := Lib.hid hb
  clear hm
  rw [hw1] at hLs hb
  clear hw1
  go_enter Tryz.func66, Tryz.ntmps66
  go_wp2_with fail
  refine hLs.out.mono ?_; rintro e w2 ⟨rfl, hb2⟩
  go_wp2_with fail
  refine (refNumber_c _ _ (by simp at hsz; omega)).mono ?_; rintro e w3 ⟨rfl, hb3⟩
  go_wp2
  go_ret
  exact ⟨rfl, below_seq (below_seq hb.out hb2) hb3⟩
end Go.Proofs.YtahgaccdeakmcaaGreatDoor
namespace Go.Proofs.YtahgaccdeakmcaaGreatDoor
open Go.RowKit
set_option maxRecDepth 100000
set_option linter.unusedVariables false
set_option linter.unusedSimpArgs false
set_option maxHeartbeats 1000000 in
theorem rSecond_c (w : World) (hF : FarAt w) : Calls Tryz.prog 68 #[] w fun e w' => e = .returned (spV (sq (4 * hJ))) ∧ Below w.heap.size w w' := by
  go_enter Tryz.func68, Tryz.ntmps68
  go_wp2_with fail
  refine (refOf_c ⟨#[115, 101, 99, 111, 110, 100]⟩ _ (hF.below (by repeat (first | exact Below.refl _ _ | refine balloc ?_ _ | refine Below.drew ?_ | refine below_drewN ?_ _ | refine below_set ?_ (by first | omega | (dsimp only; omega)) _))) (by show 6 ≤ _; omega)).mono ?_; rintro e w1 ⟨rfl, hb⟩
  rw [show hSpot (⟨#[115, 101, 99, 111, 110, 100]⟩ : ByteArray).data.toList = sq (4 * hJ) from hJ_spec.2.2]
  obtain ⟨hc1, hf1⟩ := bcell hb
  have z1 := hb.size
  try simp only [World.size_alloc, World.size_setCell, World.size_drew] at z1
  have s1_0 : w.heap.size < w1.heap.size := by omega
  have hB1 : Below w.heap.size w w1 := below_seq (by repeat (first | exact Below.refl _ _ | refine balloc ?_ _ | refine Below.drew ?_ | refine below_drewN ?_ _ | refine below_set ?_ (by first | omega | (dsimp only; omega)) _)) hb
  clear hb
  have r0 : w1.cell? ⟨w.heap.size, 0, none⟩ = some (.int .i64 0) := by go_simp
  have r1 : w1.cell? ⟨w.heap.size, 1, none⟩ = some (.int .i64 0) := by go_simp
  have r2 : w1.cell? ⟨w.heap.size, 2, none⟩ = some (.bool false) := by go_simp
  go_wp2
  have k := set3_cell (w := w1) (x := .int .i64 (sq (4 * hJ)).x) (y := .int .i64 (sq (4 * hJ)).y) (z := .bool (sq (4 * hJ)).far) r0 r1 r2
  refine bodyPost_ret (v := spV (sq (4 * hJ))) (by simp [results, Tryz.results68, go_sem, k.1, k.2.1, k.2.2]) rfl ⟨rfl, set3_below (by repeat (first | exact hB1 | exact Below.refl _ _ | refine balloc ?_ _ | refine Below.drew ?_ | refine below_drewN ?_ _ | refine below_set ?_ (by first | omega | (dsimp only; omega)) _)) (by omega)⟩
set_option maxHeartbeats 1000000 in
theorem rHide_e (v r : Int) (C : Sp) (w : World) (hF : FarAt w) (v0 : 0 ≤ v) (v1 : v < 1013) (r0 : 0 ≤ r) (r1 : r < 1013) (hC : Hid (sq (4 * v + 4 * hJ * r) = C)) : Calls Tryz.prog 94 #[.int .i64 v, .int .i64 r] w fun e w' => e = .returned (spV C) ∧ Below w.heap.size w w' := by
  have hs : Hid (sSum (sq (4 * v)) (sq (4 * hJ * r)) = C) := by show _ = _; rw [sq_add, hC.out]
  have v2 : -9223372036854775808 ≤ v := by omega
  have v3 : v ≤ 9223372036854775807 := by omega
  have r2 : -9223372036854775808 ≤ r := by omega
  have r3 : r ≤ 9223372036854775807 := by omega
  clear v0 v1 r0 r1 hC
  go_enter Tryz.func94, Tryz.ntmps94
  go_wp2_with fail
  refine (rSecond_c _ (hF.below (by repeat (first | exact Below.refl _ _ | refine balloc ?_ _ | refine Below.drew ?_ | refine below_drewN ?_ _ | refine below_set ?_ (by first | omega | (dsimp only; omega)) _)))).mono ?_; rintro e w1 ⟨rfl, hb⟩
  obtain ⟨hc1, hf1⟩ := bcell hb
  have z1 := hb.size
  try simp only [World.size_alloc, World.size_setCell, World.size_drew] at z1
  have s1_0 : w.heap.size < w1.heap.size := by omega
  have hB1 : Below w.heap.size w w1 := below_seq (by repeat (first | exact Below.refl _ _ | refine balloc ?_ _ | refine Below.drew ?_ | refine below_drewN ?_ _ | refine below_set ?_ (by first | omega | (dsimp only; omega)) _)) hb
  clear hb
  go_wp2_with fail
  refine (refSum_e v r (4 * hJ) (sq (4 * hJ)) _ _ C _ v2 v3 r2 r3 rfl rfl rfl (sq_ok _) (sq_ok _) hs).mono ?_; rintro e w2 ⟨rfl, hb⟩
  obtain ⟨hc2, hf2⟩ := bcell hb
  have z2 := hb.size
  try simp only [World.size_alloc, World.size_setCell, World.size_drew] at z2
  have s2_0 : w.heap.size < w2.heap.size := by omega
  have hB2 : Below w.heap.size w w2 := below_seq (by repeat (first | exact hB1 | exact Below.refl _ _ | refine balloc ?_ _ | refine Below.drew ?_ | refine below_drewN ?_ _ | refine below_set ?_ (by first | omega | (dsimp only; omega)) _)) hb
  clear hb
  have r0 : w2.cell? ⟨w.heap.size, 0, none⟩ = some (.int .i64 0) := by go_simp
  have r1 : w2.cell? ⟨w.heap.size, 1, none⟩ = some (.int .i64 0) := by go_simp
  have r2 : w2.cell? ⟨w.heap.size, 2, none⟩ = some (.bool false) := by go_simp
  go_wp2
  have k := set3_cell (w := w2) (x := .int .i64 (C).x) (y := .int .i64 (C).y) (z := .bool (C).far) r0 r1 r2
  refine bodyPost_ret (v := spV (C)) (by simp [results, Tryz.results94, go_sem, k.1, k.2.1, k.2.2]) rfl ⟨rfl, set3_below (by repeat (first | exact hB2 | exact Below.refl _ _ | refine balloc ?_ _ | refine Below.drew ?_ | refine below_drewN ?_ _ | refine below_set ?_ (by first | omega | (dsimp only; omega)) _)) (by omega)⟩
end Go.Proofs.YtahgaccdeakmcaaGreatDoor
namespace Go.Proofs.YtahgaccdeakmcaaGreatDoor
open Go.RowKit
set_option maxRecDepth 100000
set_option linter.unusedVariables false
set_option linter.unusedSimpArgs false
attribute [local go_sem ↓] Go.wp_at_zero Go.wp_at_succ
set_option maxHeartbeats 16000000 in
theorem rbdo_n (N : List Int) (G : List Bool) (B p : Nat) (a0 a1 : Option Addr) (n m c0 c1 : Nat) (RS : Sp) (s : Int) (X : Sp) (x E : Int) (RX : Value) (w : World) (hF : FarAt w) (hBk : BkAt w B p N G) (hNl : N.length ≤ 1000000) (hm : m ≤ 1000000) (hX : Hid (X = sq (4 * x)))
    (hEx : Hid (∀ w1 : World, Below w.heap.size w w1 → Calls Tryz.prog 64 #[.pointer (some ⟨p, 0, none⟩), .slice a0 n c0, .slice a1 m c1] w1 fun e w' => e = .returned RX ∧ Below w1.heap.size w1 w'))
    (hR : Hid (((E != 0) = true ∧ RX = .tuple #[spV ⟨0, 0, false⟩, .int .i64 E]) ∨ (RX = .tuple #[spV X, .int .i64 0] ∧ ((1000 < N.length + m ∧ E = 4) ∨ (N.length + m ≤ 1000 ∧ ((¬ (0 ≤ s ∧ s < 1013) ∧ E = 1) ∨ ((0 ≤ s ∧ s < 1013) ∧ ((sCheck RS = E ∧ E ≠ 0) ∨ (Ok RS ∧ E = 8 ∧ Sp.beq (sq (4 * hJ * s)) (sSum RS (sq (4 * x * bAsk RS X))) = false))))))))) :
    Calls Tryz.prog 28 #[.pointer (some ⟨p, 0, none⟩), dlV (.slice a0 n c0) (.slice a1 m c1) RS s] w fun e w' => e = .returned (.int .i64 E) ∧ Below w.heap.size w w' := by
  obtain ⟨vc, vg, hBk⟩ := hBk
  obtain ⟨ac, cc, rfl⟩ := own_slB hBk.rc
  have p0 := hBk.c0
  have hp := hBk.lt
  have hcp := Lib.hid (fun (w' : World) (hb : Below w.heap.size w w') => (⟨((bcell hb).1 _ 0 hp).trans p0, Nat.lt_of_lt_of_le hp hb.size⟩ : w'.cell? ⟨p, 0, none⟩ = some (.slice ac N.length cc) ∧ p < w'.heap.size))
  have hF' := Lib.hid hF
  clear hBk p0 hF
  go_enter Tryz.func28, Tryz.ntmps28
  go_wp2_with fail
  have hb0 := Lib.hid (below_alloc w (.cells #[.slice a0 n c0, .slice a1 m c1, .int .i64 RS.x, .int .i64 RS.y, .bool RS.far, .int .i64 s] 46))
  refine (hEx.out _ hb0.out).mono ?_; rintro e w1 ⟨rfl, hb1⟩
  have hB1 := Lib.hid (below_seq hb0.out hb1)
  obtain ⟨hcc, -⟩ := bcell hb1
  have e0 : w1.cell? ⟨w.heap.size, 0, none⟩ = some (.slice a0 n c0) := by rw [hcc _ _ (by simp)]; go_simp
  have e1 : w1.cell? ⟨w.heap.size, 1, none⟩ = some (.slice a1 m c1) := by rw [hcc _ _ (by simp)]; go_simp
  have e2 : w1.cell? ⟨w.heap.size, 2, none⟩ = some (.int .i64 RS.x) := by rw [hcc _ _ (by simp)]; go_simp
  have e3 : w1.cell? ⟨w.heap.size, 3, none⟩ = some (.int .i64 RS.y) := by rw [hcc _ _ (by simp)]; go_simp
  have e4 : w1.cell? ⟨w.heap.size, 4, none⟩ = some (.bool RS.far) := by rw [hcc _ _ (by simp)]; go_simp
  have e5 : w1.cell? ⟨w.heap.size, 5, none⟩ = some (.int .i64 s) := by rw [hcc _ _ (by simp)]; go_simp
  have el : w.heap.size < w1.heap.size := by have := hb1.size; simp at this; omega
  have hd := Lib.hid (fun (w' : World) (hb : Below w1.heap.size w1 w') => (⟨((bcell hb).1 _ 0 el).trans e0, ((bcell hb).1 _ 1 el).trans e1, ((bcell hb).1 _ 2 el).trans e2, ((bcell hb).1 _ 3 el).trans e3, ((bcell hb).1 _ 4 el).trans e4, ((bcell hb).1 _ 5 el).trans e5, Nat.lt_of_lt_of_le el hb.size⟩ : w'.cell? ⟨w.heap.size, 0, none⟩ = some (.slice a0 n c0) ∧ w'.cell? ⟨w.heap.size, 1, none⟩ = some (.slice a1 m c1) ∧ w'.cell? ⟨w.heap.size, 2, none⟩ = some (.int .i64 RS.x) ∧ w'.cell? ⟨w.heap.size, 3, none⟩ = some (.int .i64 RS.y) ∧ w'.cell? ⟨w.heap.size, 4, none⟩ = some (.bool RS.far) ∧ w'.cell? ⟨w.heap.size, 5, none⟩ = some (.int .i64 s) ∧ w.heap.size < w'.heap.size))
  obtain ⟨r0, r1⟩ := hcp.out _ hB1.out
  clear hcc hb1 hb0 hEx
  rcases hR.out with ⟨hne, rfl⟩ | ⟨rfl, h⟩
  · go_wp2
    go_ret
    exact ⟨rfl, balloc hB1.out _⟩
  have hB2 := Lib.hid (balloc hB1.out (.cells #[.int .i64 X.x, .int .i64 X.y, .bool X.far] 28))
  have hX2 := Lib.hid (SpAt.fresh w1 X.x X.y X.far 28)
  have hbX := Lib.hid (below_alloc w1 (.cells #[.int .i64 X.x, .int .i64 X.y, .bool X.far] 28))
  clear hR
  rcases h with ⟨h1, rfl⟩ | ⟨h1, h⟩
  · have d1 : decide ((1000 : Int) < (N.length : Int) + (m : Int)) = true := decide_eq_true (by omega)
    go_upto_region 4 with fail
    generalize w1.alloc (.cells #[.int .i64 X.x, .int .i64 X.y, .bool X.far] 28) = w2 at *
    clear r0 r1
    obtain ⟨r0, r1⟩ := hcp.out _ hB2.out
    clear e0 e1 e2 e3 e4 e5 el
    obtain ⟨e0, e1, e2, e3, e4, e5, el⟩ := hd.out _ hbX.out
    go_quiet (fail)
    go_wp2
    go_ret
    exact ⟨rfl, below_drewN hB2.out _⟩
  · have d1 : decide ((1000 : Int) < (N.length : Int) + (m : Int)) = false := decide_eq_false (by omega)
    go_upto_region 4 with fail
    generalize w1.alloc (.cells #[.int .i64 X.x, .int .i64 X.y, .bool X.far] 28) = w2 at *
    clear r0 r1
    obtain ⟨r0, r1⟩ := hcp.out _ hB2.out
    clear e0 e1 e2 e3 e4 e5 el
    obtain ⟨e0, e1, e2, e3, e4, e5, el⟩ := hd.out _ hbX.out
    go_quiet (fail)
    have hbq := below_drewN (Below.refl w2.heap.size w2) nq
    have hB3 := Lib.hid (below_seq hB2.out hbq)
    have hX3 := Lib.hid (hX2.out.below hbq)
    have hbX3 := Lib.hid (below_seq hbX.out hbq)
    generalize w2.drewN nq = w3 at *
    clear r0 r1 e0 e1 e2 e3 e4 e5 el hbq hB2 hX2 hbX
    obtain ⟨e0, e1, e2, e3, e4, e5, el⟩ := hd.out _ hbX3.out
    rcases h with ⟨h2, rfl⟩ | ⟨⟨s0, s1⟩, h⟩
    · go_wp2_with fail
      refine (rRest_n s _ h2).mono ?_; rintro e w' ⟨rfl, rfl⟩
      go_wp2
      go_ret
      exact ⟨rfl, hB3.out⟩
    · rcases h with ⟨hc, hE⟩ | ⟨oR, rfl, hq⟩
      · have hE2 : (E != 0) = true := by simpa using hE
        replace hc := Lib.hid hc
        clear hE
        go_wp2_with fail
        refine (rRest_y s _ s0 s1).mono ?_; rintro e w' ⟨rfl, rfl⟩
        go_wp2_with fail
        refine (refSpot_e RS E _ hc).mono ?_; rintro e w4 ⟨rfl, hb4⟩
        go_wp2
        go_ret
        exact ⟨rfl, below_seq hB3.out hb4⟩
      · replace hq := Lib.hid hq
        go_wp2_with fail
        refine (rRest_y s _ s0 s1).mono ?_; rintro e w' ⟨rfl, rfl⟩
        go_wp2_with fail
        refine (refSpot_e RS 0 _ (Lib.hid ((ok_iff _).mpr oR))).mono ?_; rintro e w4 ⟨rfl, hb4⟩
        have hB4 := Lib.hid (below_seq hB3.out hb4)
        have hX4 := Lib.hid (hX3.out.below hb4)
        have hbX4 := Lib.hid (below_seq hbX3.out hb4)
        clear e0 e1 e2 e3 e4 e5 el hb4 hB3 hX3 hbX3
        obtain ⟨e0, e1, e2, e3, e4, e5, el⟩ := hd.out _ hbX4.out
        obtain ⟨x0, x1, x2, -, -, -, xl⟩ := hX4.out
        have oX : Ok X := by rw [hX.out]; exact sq_ok _
        obtain ⟨c, hc⟩ : ∃ c, bAsk RS X = c := ⟨_, rfl⟩
        have hcb := bAsk_bd RS X
        rw [hc] at hq hcb
        replace hc := Lib.hid hc
        go_wp2_with fail
        refine (rbask_c RS X c _ oR oX hc).mono ?_; rintro e w5 ⟨rfl, hb5⟩
        have hB5 := Lib.hid (below_seq hB4.out hb5)
        have hX5 := Lib.hid (hX4.out.below hb5)
        have hq5 := Lib.hid (below_seq hbX4.out hb5)
        clear e0 e1 e2 e3 e4 e5 el x0 x1 x2 xl hb5 hB4 hX4 hbX4
        obtain ⟨e0, e1, e2, e3, e4, e5, el⟩ := hd.out _ hq5.out
        obtain ⟨x0, x1, x2, -, -, -, xl⟩ := hX5.out
        obtain ⟨P, hP⟩ : ∃ P, sq (4 * hJ * s) = P := ⟨_, rfl⟩
        obtain ⟨T, hT⟩ : ∃ T, sq (4 * x * c) = T := ⟨_, rfl⟩
        obtain ⟨D, hD⟩ : ∃ D, sSum RS T = D := ⟨_, rfl⟩
        have oT : Ok T := by rw [← hT]; exact sq_ok _
        rw [hP, hT, hD] at hq
        have hq := hq.out
        replace hP := Lib.hid hP
        replace hT := Lib.hid hT
        replace hD := Lib.hid hD
        have hF5 := Lib.hid (hF'.out.below hB5.out)
        have hX' := hX
        have cS := Lib.hid (fun (w1 : World) hF1 => rSecond_c w1 hF1)
        obtain ⟨Z, hZ⟩ : ∃ Z, Z = sq (4 * hJ) := ⟨_, rfl⟩
        rw [← hZ] at cS
        replace hZ := Lib.hid hZ
        clear hX
        go_upto_region 13 with fail
        go_cut [9] from 53 to 57 (fun s9 wx => ∃ q : Nat, s9 = .pointer (some ⟨q, 0, none⟩) ∧ SpAt wx q P ∧ Below w5.heap.size w5 wx)
        case first =>
          clear hcp
          go_region_with (first | (go_at_call 68; refine (cS.out _ (hF5.out.below (by repeat (first | exact Below.refl _ _ | exact hwt.out | refine balloc ?_ _ | refine Below.drew ?_)))).mono ?_; rintro e wt ⟨rfl, hbt⟩; have hwt := Lib.hid (show Below w5.heap.size w5 wt from below_seq (by repeat (first | exact Below.refl _ _ | exact hwt.out | refine balloc ?_ _ | refine Below.drew ?_)) hbt); have hza := hwt.out.size; obtain ⟨e0, e1, e2, e3, e4, e5, el⟩ := hd.out _ (below_seq hq5.out hwt.out); obtain ⟨x0, x1, x2, -, -, -, xl⟩ := hX5.out.below hwt.out; (first | (refine hav_ (P := SpAt wt _ ⟨0, 0, false⟩) (SpAt.below hz0.out hbt) (fun kC => ?_); have hz0 := Lib.hid kC; obtain ⟨c0', c1', c2', c3', c4', c5', c6'⟩ := kC) | (refine hav_ (P := SpAt wt _ ⟨0, 0, false⟩) (SpAt.below (SpAt.fresh _ _ _ _ _) hbt) (fun kC => ?_); have hz0 := Lib.hid kC; obtain ⟨c0', c1', c2', c3', c4', c5', c6'⟩ := kC) | (refine hav_ (P := SpAt wt _ ⟨0, 0, false⟩) (SpAt.below (SpAt.drew (SpAt.fresh _ _ _ _ _)) hbt) (fun kC => ?_); have hz0 := Lib.hid kC; obtain ⟨c0', c1', c2', c3', c4', c5', c6'⟩ := kC) | skip); clear hbt) | (go_at_call 67; refine (refTimes_e Z P (4 * hJ) s _ (by omega) (by omega) hZ hP).mono ?_; rintro e wt ⟨rfl, hbt⟩; have hwt := Lib.hid (show Below w5.heap.size w5 wt from below_seq (by repeat (first | exact Below.refl _ _ | exact hwt.out | refine balloc ?_ _ | refine Below.drew ?_)) hbt); have hza := hwt.out.size; obtain ⟨e0, e1, e2, e3, e4, e5, el⟩ := hd.out _ (below_seq hq5.out hwt.out); obtain ⟨x0, x1, x2, -, -, -, xl⟩ := hX5.out.below hwt.out; (first | (refine hav_ (P := SpAt wt _ ⟨0, 0, false⟩) (SpAt.below hz0.out hbt) (fun kC => ?_); have hz0 := Lib.hid kC; obtain ⟨c0', c1', c2', c3', c4', c5', c6'⟩ := kC) | (refine hav_ (P := SpAt wt _ ⟨0, 0, false⟩) (SpAt.below (SpAt.fresh _ _ _ _ _) hbt) (fun kC => ?_); have hz0 := Lib.hid kC; obtain ⟨c0', c1', c2', c3', c4', c5', c6'⟩ := kC) | (refine hav_ (P := SpAt wt _ ⟨0, 0, false⟩) (SpAt.below (SpAt.drew (SpAt.fresh _ _ _ _ _)) hbt) (fun kC => ?_); have hz0 := Lib.hid kC; obtain ⟨c0', c1', c2', c3', c4', c5', c6'⟩ := kC) | skip); clear hbt))
          all_goals
            go_wp2_with fail
            go_meet
            first
            | exact ⟨_, rfl, SpAt.fresh _ _ _ _ _, balloc hwt.out _⟩
            | exact ⟨_, rfl, (SpAt.zero_of (by assumption) (by assumption) (by assumption) (by assumption) (by assumption) (by assumption) (by assumption)).set3 P, set3_below hwt.out (by omega)⟩
        case rest =>
        obtain ⟨p9, rfl, hp9, hw9⟩ := hcut
        obtain ⟨w6, hu⟩ : ∃ x, x = wc := ⟨_, rfl⟩
        subst hu
        have hB6 := Lib.hid (below_seq hB5.out hw9)
        have hX6 := Lib.hid (hX5.out.below hw9)
        have hq6 := Lib.hid (below_seq hq5.out hw9)
        clear e0 e1 e2 e3 e4 e5 el x0 x1 x2 xl hw9 hB5 hX5 hq5 hF5 cS
        obtain ⟨e0, e1, e2, e3, e4, e5, el⟩ := hd.out _ hq6.out
        obtain ⟨x0, x1, x2, -, -, -, xl⟩ := hX6.out
        go_upto_region 14 with fail
        go_cut [10] from 58 to 64 (fun s10 wx => ∃ q : Nat, s10 = .pointer (some ⟨q, 0, none⟩) ∧ SpAt wx q D ∧ Below w6.heap.size w6 wx)
        case first =>
          clear hcp
          go_region_with (first | (go_at_call 67; refine (refTimes_e X T (4 * x) c _ (by omega) (by omega) hX' hT).mono ?_; rintro e wt ⟨rfl, hbt⟩; have hwt := Lib.hid (show Below w6.heap.size w6 wt from below_seq (by repeat (first | exact Below.refl _ _ | exact hwt.out | refine balloc ?_ _ | refine Below.drew ?_)) hbt); have hza := hwt.out.size; obtain ⟨e0, e1, e2, e3, e4, e5, el⟩ := hd.out _ (below_seq hq6.out hwt.out); obtain ⟨x0, x1, x2, -, -, -, xl⟩ := hX6.out.below hwt.out; (first | (refine hav_ (P := SpAt wt _ ⟨0, 0, false⟩) (SpAt.below hz0.out hbt) (fun kC => ?_); have hz0 := Lib.hid kC; obtain ⟨c0', c1', c2', c3', c4', c5', c6'⟩ := kC) | (refine hav_ (P := SpAt wt _ ⟨0, 0, false⟩) (SpAt.below (SpAt.fresh _ _ _ _ _) hbt) (fun kC => ?_); have hz0 := Lib.hid kC; obtain ⟨c0', c1', c2', c3', c4', c5', c6'⟩ := kC) | (refine hav_ (P := SpAt wt _ ⟨0, 0, false⟩) (SpAt.below (SpAt.drew (SpAt.fresh _ _ _ _ _)) hbt) (fun kC => ?_); have hz0 := Lib.hid kC; obtain ⟨c0', c1', c2', c3', c4', c5', c6'⟩ := kC) | skip); clear hbt) | (go_at_call 69; refine (refAdd_e RS T D _ oR oT hD).mono ?_; rintro e wt ⟨rfl, hbt⟩; have hwt := Lib.hid (show Below w6.heap.size w6 wt from below_seq (by repeat (first | exact Below.refl _ _ | exact hwt.out | refine balloc ?_ _ | refine Below.drew ?_)) hbt); have hza := hwt.out.size; obtain ⟨e0, e1, e2, e3, e4, e5, el⟩ := hd.out _ (below_seq hq6.out hwt.out); obtain ⟨x0, x1, x2, -, -, -, xl⟩ := hX6.out.below hwt.out; (first | (refine hav_ (P := SpAt wt _ ⟨0, 0, false⟩) (SpAt.below hz0.out hbt) (fun kC => ?_); have hz0 := Lib.hid kC; obtain ⟨c0', c1', c2', c3', c4', c5', c6'⟩ := kC) | (refine hav_ (P := SpAt wt _ ⟨0, 0, false⟩) (SpAt.below (SpAt.fresh _ _ _ _ _) hbt) (fun kC => ?_); have hz0 := Lib.hid kC; obtain ⟨c0', c1', c2', c3', c4', c5', c6'⟩ := kC) | (refine hav_ (P := SpAt wt _ ⟨0, 0, false⟩) (SpAt.below (SpAt.drew (SpAt.fresh _ _ _ _ _)) hbt) (fun kC => ?_); have hz0 := Lib.hid kC; obtain ⟨c0', c1', c2', c3', c4', c5', c6'⟩ := kC) | skip); clear hbt))
          all_goals
            go_wp2_with fail
            go_meet
            first
            | exact ⟨_, rfl, SpAt.fresh _ _ _ _ _, balloc hwt.out _⟩
            | exact ⟨_, rfl, (SpAt.zero_of (by assumption) (by assumption) (by assumption) (by assumption) (by assumption) (by assumption) (by assumption)).set3 D, set3_below hwt.out (by omega)⟩
        case rest =>
        obtain ⟨p10, rfl, hp10, hw10⟩ := hcut
        obtain ⟨w7, hu⟩ : ∃ x, x = wc := ⟨_, rfl⟩
        subst hu
        have hB7 := Lib.hid (below_seq hB6.out hw10)
        have hq7 := Lib.hid (below_seq hq6.out hw10)
        have hP7 := hp9.below hw10
        clear e0 e1 e2 e3 e4 e5 el x0 x1 x2 xl hw10 hB6 hX6 hq6
        obtain ⟨u0, u1, u2, -, -, -, ul⟩ := hP7
        obtain ⟨v0, v1, v2, -, -, -, vl⟩ := hp10
        obtain ⟨e0, e1, e2, e3, e4, e5, el⟩ := hd.out _ hq7.out
        go_wp2
        go_ret
        exact ⟨rfl, hB7.out⟩
theorem AppRun.bit {w : World} {B : Nat} {v : Value} {G : List Bool} {n g : Nat} {c : Bool} (hown : w.ownsRow B 4 1 v n (G.map .bool)) (h0 : w.cell? ⟨g, 0, none⟩ = some (.bool c)) (hB : B ≤ w.heap.size) (hn : n ≤ 1000000) :
    AppRun w 105 105 B 4 1 v (.slice (some ⟨g, 0, none⟩) 1 1) (n + 1) ((G ++ [c]).map .bool) := by
  intro ty
  obtain ⟨i0, hi, hz0, hz1, hz2⟩ := info_parts info_bool
  obtain ⟨v', w', h1, h2, h3, h4, h5⟩ := run_append_own_at w B 105 ty 4 i0 (.bool false) 1 1 Tryz.underlying105 hi hz0 hz1 hz2 rfl (by decide) v n (G.map .bool) hown ⟨g, 0, none⟩ 1 1 [.bool c] rfl (fun j u hj => by
    match j, hj with
    | 0, hj => cases hj; rw [add_none]; exact h0) (fun u hu => by simp only [List.mem_cons, List.not_mem_nil, or_false] at hu; subst hu; rfl) (by unfold maxLen; omega) (by omega) hB
  rw [List.map_append]
  exact ⟨v', w', h1, h2, h3, h5⟩
section
variable {ops : Array Oper} {o : Oper} {a : Act} {w : World} {K : Act → World → Prop} {Q : Exit → Act → World → Prop} {E : Prop}
theorem steps_app (hgd : o.guard = none) (s x : Operand) (t : TypeId)
    (ho : o.op = .call { callee := .builtin .append, args := #[s, x], argTypes := #[t, t] }) (ht : Tryz.prog.underlying t = some (.slice 28)) (B : Nat) (v : Value) (l : List Sp) (n : Nat) (hs : a.eval s = v)
    (hown : w.ownsRow B 28 3 v n (spCells l)) (hn : l.length = n) (hl : n ≤ 1000000) (hB : B ≤ w.heap.size) (g : Nat) (c : Sp) (hx : a.eval x = .slice (some ⟨g, 0, none⟩) 1 1)
    (h0 : w.cell? ⟨g, 0, none⟩ = some (.int .i64 c.x)) (h1 : w.cell? ⟨g, 1, none⟩ = some (.int .i64 c.y)) (h2 : w.cell? ⟨g, 2, none⟩ = some (.bool c.far))
    (h : ∀ v' w', w'.ownsRow B 28 3 v' (n + 1) (spCells l ++ spCells [c]) → w.grownBy w' v.ownBlock → (v'.ownBlock = v.ownBlock ∨ v'.ownBlock = some w.heap.size) → K (a.put o.dst v') w') :
    if Region.wanted o (yielded ops a.tmps) = true then Oper.wp Tryz.prog o a w K Q else E := by
  obtain ⟨i0, hi, hz0, hz1, hz2⟩ := info_parts info_spot
  refine step_append_lies w hgd s x _ ho B _ i0 _ 3 24 ht hi hz0 hz1 hz2 rfl (by decide) v n _ hs hown ⟨g, 0, none⟩ 1 1 [.int .i64 c.x, .int .i64 c.y, .bool c.far] hx rfl ?_ ?_ (by decide) (by unfold maxLen; omega) (by omega) hB _ rfl ?_
  · intro j u hj
    have e : ∀ k, (⟨g, 0, none⟩ : Addr).add k = ⟨g, k, none⟩ := fun k => by rw [add_none, Nat.zero_add]
    rw [e]
    match j, hj with
    | 0, hj => cases hj; exact h0
    | 1, hj => cases hj; exact h1
    | 2, hj => cases hj; exact h2
  · intro u hu
    simp only [List.mem_cons, List.not_mem_nil, or_false] at hu
    rcases hu with rfl | rfl | rfl <;> rfl
  · intro k cap w' h3 h4 h5 _
    refine h _ w' h3 h4 ?_
    rcases h5 with h5 | h5
    · exact .inl (by rw [h5]; rfl)
    · exact .inr (by rw [h5]; rfl)
end
set_option maxHeartbeats 32000000 in
theorem rbdo_y (N M : List Int) (G : List Bool) (B p : Nat) (vc vg : Value) (gl : List Int) (a0 a1 : Option Addr) (n m c0 c1 : Nat) (RS : Sp) (s : Int) (X : Sp) (x : Int) (w : World) (hF : FarAt w) (hBk : BkV w B p vc vg N G) (hB0 : B ≤ w.heap.size) (hNl : N.length ≤ 1000) (hX : Hid (X = sq (4 * x))) (hn : gl.length = n) (hm' : M.length = m) (hnb : n ≤ 9223372036854775807)
    (h0 : 0 < gl.length → ∃ b o, a0 = some ⟨b, o, none⟩ ∧ IntsAt w b o gl ∧ ¬ inB p vc vg b) (h1 : 0 < (M.map qS).length → ∃ b o, a1 = some ⟨b, o, none⟩ ∧ SpotsAt w b o (M.map qS) ∧ ¬ inB p vc vg b) (hin : ∀ g ∈ gl, 0 ≤ g ∧ g < N.length)
    (hEx : Hid (∀ w1 : World, Below w.heap.size w w1 → Calls Tryz.prog 64 #[.pointer (some ⟨p, 0, none⟩), .slice a0 n c0, .slice a1 m c1] w1 fun e w' => e = .returned (.tuple #[spV X, .int .i64 0]) ∧ Below w1.heap.size w1 w'))
    (hm : N.length + m ≤ 1000) (s0 : 0 ≤ s) (s1 : s < 1013) (oR : Ok RS) (hq : Hid (Sp.beq (sq (4 * hJ * s)) (sSum RS (sq (4 * x * bAsk RS X))) = true)) :
    Calls Tryz.prog 28 #[.pointer (some ⟨p, 0, none⟩), dlV (.slice a0 n c0) (.slice a1 m c1) RS s] w fun e w' => e = .returned (.int .i64 0) ∧ Did w w' B p vc vg (N ++ M) (goneL G gl ++ List.replicate m false) := by
  replace hn := Lib.hid hn
  replace hm' := Lib.hid hm'
  obtain ⟨ac, cc, rfl⟩ := own_slB hBk.rc
  obtain ⟨ag, cg, rfl⟩ := own_slB hBk.rg
  have p0 := hBk.c0
  have hp := hBk.lt
  have hcp := Lib.hid (fun (w' : World) (hb : Below w.heap.size w w') => (⟨((bcell hb).1 _ 0 hp).trans p0, Nat.lt_of_lt_of_le hp hb.size⟩ : w'.cell? ⟨p, 0, none⟩ = some (.slice ac N.length cc) ∧ p < w'.heap.size))
  have hF' := Lib.hid hF
  replace hBk := Lib.hid hBk
  replace h0 := Lib.hid h0
  replace h1 := Lib.hid h1
  replace hin := Lib.hid hin
  clear p0 hF
  go_enter Tryz.func28, Tryz.ntmps28
  go_wp2_with fail
  have hb0 := Lib.hid (below_alloc w (.cells #[.slice a0 n c0, .slice a1 m c1, .int .i64 RS.x, .int .i64 RS.y, .bool RS.far, .int .i64 s] 46))
  refine (hEx.out _ hb0.out).mono ?_; rintro e w1 ⟨rfl, hb1⟩
  have hB1 := Lib.hid (below_seq hb0.out hb1)
  obtain ⟨hcc, -⟩ := bcell hb1
  have e0 : w1.cell? ⟨w.heap.size, 0, none⟩ = some (.slice a0 n c0) := by rw [hcc _ _ (by simp)]; go_simp
  have e1 : w1.cell? ⟨w.heap.size, 1, none⟩ = some (.slice a1 m c1) := by rw [hcc _ _ (by simp)]; go_simp
  have e2 : w1.cell? ⟨w.heap.size, 2, none⟩ = some (.int .i64 RS.x) := by rw [hcc _ _ (by simp)]; go_simp
  have e3 : w1.cell? ⟨w.heap.size, 3, none⟩ = some (.int .i64 RS.y) := by rw [hcc _ _ (by simp)]; go_simp
  have e4 : w1.cell? ⟨w.heap.size, 4, none⟩ = some (.bool RS.far) := by rw [hcc _ _ (by simp)]; go_simp
  have e5 : w1.cell? ⟨w.heap.size, 5, none⟩ = some (.int .i64 s) := by rw [hcc _ _ (by simp)]; go_simp
  have el : w.heap.size < w1.heap.size := by have := hb1.size; simp at this; omega
  have hd := Lib.hid (fun (w' : World) (hb : Below w1.heap.size w1 w') => (⟨((bcell hb).1 _ 0 el).trans e0, ((bcell hb).1 _ 1 el).trans e1, ((bcell hb).1 _ 2 el).trans e2, ((bcell hb).1 _ 3 el).trans e3, ((bcell hb).1 _ 4 el).trans e4, ((bcell hb).1 _ 5 el).trans e5, Nat.lt_of_lt_of_le el hb.size⟩ : w'.cell? ⟨w.heap.size, 0, none⟩ = some (.slice a0 n c0) ∧ w'.cell? ⟨w.heap.size, 1, none⟩ = some (.slice a1 m c1) ∧ w'.cell? ⟨w.heap.size, 2, none⟩ = some (.int .i64 RS.x) ∧ w'.cell? ⟨w.heap.size, 3, none⟩ = some (.int .i64 RS.y) ∧ w'.cell? ⟨w.heap.size, 4, none⟩ = some (.bool RS.far) ∧ w'.cell? ⟨w.heap.size, 5, none⟩ = some (.int .i64 s) ∧ w.heap.size < w'.heap.size))
  obtain ⟨r0, r1⟩ := hcp.out _ hB1.out
  clear hcc hb1 hb0 hEx
  have hB2 := Lib.hid (balloc hB1.out (.cells #[.int .i64 X.x, .int .i64 X.y, .bool X.far] 28))
  have hX2 := Lib.hid (SpAt.fresh w1 X.x X.y X.far 28)
  have hbX := Lib.hid (below_alloc w1 (.cells #[.int .i64 X.x, .int .i64 X.y, .bool X.far] 28))
  have d1 : decide ((1000 : Int) < (N.length : Int) + (m : Int)) = false := decide_eq_false (by omega)
  go_upto_region 4 with fail
  generalize w1.alloc (.cells #[.int .i64 X.x, .int .i64 X.y, .bool X.far] 28) = w2 at *
  clear r0 r1
  obtain ⟨r0, r1⟩ := hcp.out _ hB2.out
  clear e0 e1 e2 e3 e4 e5 el
  obtain ⟨e0, e1, e2, e3, e4, e5, el⟩ := hd.out _ hbX.out
  go_quiet (fail)
  have hbq := below_drewN (Below.refl w2.heap.size w2) nq
  have hB3 := Lib.hid (below_seq hB2.out hbq)
  have hX3 := Lib.hid (hX2.out.below hbq)
  have hbX3 := Lib.hid (below_seq hbX.out hbq)
  generalize w2.drewN nq = w3 at *
  clear r0 r1 e0 e1 e2 e3 e4 e5 el hbq hB2 hX2 hbX
  obtain ⟨e0, e1, e2, e3, e4, e5, el⟩ := hd.out _ hbX3.out
  go_wp2_with fail
  refine (rRest_y s _ s0 s1).mono ?_; rintro e w' ⟨rfl, rfl⟩
  go_wp2_with fail
  refine (refSpot_e RS 0 _ (Lib.hid ((ok_iff _).mpr oR))).mono ?_; rintro e w4 ⟨rfl, hb4⟩
  have hB4 := Lib.hid (below_seq hB3.out hb4)
  have hX4 := Lib.hid (hX3.out.below hb4)
  have hbX4 := Lib.hid (below_seq hbX3.out hb4)
  clear e0 e1 e2 e3 e4 e5 el hb4 hB3 hX3 hbX3
  obtain ⟨e0, e1, e2, e3, e4, e5, el⟩ := hd.out _ hbX4.out
  obtain ⟨x0, x1, x2, -, -, -, xl⟩ := hX4.out
  have oX : Ok X := by rw [hX.out]; exact sq_ok _
  obtain ⟨c, hc⟩ : ∃ c, bAsk RS X = c := ⟨_, rfl⟩
  have hcb := bAsk_bd RS X
  rw [hc] at hq hcb
  replace hc := Lib.hid hc
  go_wp2_with fail
  refine (rbask_c RS X c _ oR oX hc).mono ?_; rintro e w5 ⟨rfl, hb5⟩
  have hB5 := Lib.hid (below_seq hB4.out hb5)
  have hX5 := Lib.hid (hX4.out.below hb5)
  have hq5 := Lib.hid (below_seq hbX4.out hb5)
  clear e0 e1 e2 e3 e4 e5 el x0 x1 x2 xl hb5 hB4 hX4 hbX4
  obtain ⟨e0, e1, e2, e3, e4, e5, el⟩ := hd.out _ hq5.out
  obtain ⟨x0, x1, x2, -, -, -, xl⟩ := hX5.out
  obtain ⟨P, hP⟩ : ∃ P, sq (4 * hJ * s) = P := ⟨_, rfl⟩
  obtain ⟨T, hT⟩ : ∃ T, sq (4 * x * c) = T := ⟨_, rfl⟩
  obtain ⟨D, hD⟩ : ∃ D, sSum RS T = D := ⟨_, rfl⟩
  have oT : Ok T := by rw [← hT]; exact sq_ok _
  rw [hP, hT, hD] at hq
  have hq := hq.out
  replace hP := Lib.hid hP
  replace hT := Lib.hid hT
  replace hD := Lib.hid hD
  have hF5 := Lib.hid (hF'.out.below hB5.out)
  have hX' := hX
  have cS := Lib.hid (fun (w1 : World) hF1 => rSecond_c w1 hF1)
  obtain ⟨Z, hZ⟩ : ∃ Z, Z = sq (4 * hJ) := ⟨_, rfl⟩
  rw [← hZ] at cS
  replace hZ := Lib.hid hZ
  clear hX
  go_upto_region 13 with fail
  go_cut [9] from 53 to 57 (fun s9 wx => ∃ q : Nat, s9 = .pointer (some ⟨q, 0, none⟩) ∧ SpAt wx q P ∧ Below w5.heap.size w5 wx)
  case first =>
    clear hcp
    go_region_with (first | (go_at_call 68; refine (cS.out _ (hF5.out.below (by repeat (first | exact Below.refl _ _ | exact hwt.out | refine balloc ?_ _ | refine Below.drew ?_)))).mono ?_; rintro e wt ⟨rfl, hbt⟩; have hwt := Lib.hid (show Below w5.heap.size w5 wt from below_seq (by repeat (first | exact Below.refl _ _ | exact hwt.out | refine balloc ?_ _ | refine Below.drew ?_)) hbt); have hza := hwt.out.size; obtain ⟨e0, e1, e2, e3, e4, e5, el⟩ := hd.out _ (below_seq hq5.out hwt.out); obtain ⟨x0, x1, x2, -, -, -, xl⟩ := hX5.out.below hwt.out; (first | (refine hav_ (P := SpAt wt _ ⟨0, 0, false⟩) (SpAt.below hz0.out hbt) (fun kC => ?_); have hz0 := Lib.hid kC; obtain ⟨c0', c1', c2', c3', c4', c5', c6'⟩ := kC) | (refine hav_ (P := SpAt wt _ ⟨0, 0, false⟩) (SpAt.below (SpAt.fresh _ _ _ _ _) hbt) (fun kC => ?_); have hz0 := Lib.hid kC; obtain ⟨c0', c1', c2', c3', c4', c5', c6'⟩ := kC) | (refine hav_ (P := SpAt wt _ ⟨0, 0, false⟩) (SpAt.below (SpAt.drew (SpAt.fresh _ _ _ _ _)) hbt) (fun kC => ?_); have hz0 := Lib.hid kC; obtain ⟨c0', c1', c2', c3', c4', c5', c6'⟩ := kC) | skip); clear hbt) | (go_at_call 67; refine (refTimes_e Z P (4 * hJ) s _ (by omega) (by omega) hZ hP).mono ?_; rintro e wt ⟨rfl, hbt⟩; have hwt := Lib.hid (show Below w5.heap.size w5 wt from below_seq (by repeat (first | exact Below.refl _ _ | exact hwt.out | refine balloc ?_ _ | refine Below.drew ?_)) hbt); have hza := hwt.out.size; obtain ⟨e0, e1, e2, e3, e4, e5, el⟩ := hd.out _ (below_seq hq5.out hwt.out); obtain ⟨x0, x1, x2, -, -, -, xl⟩ := hX5.out.below hwt.out; (first | (refine hav_ (P := SpAt wt _ ⟨0, 0, false⟩) (SpAt.below hz0.out hbt) (fun kC => ?_); have hz0 := Lib.hid kC; obtain ⟨c0', c1', c2', c3', c4', c5', c6'⟩ := kC) | (refine hav_ (P := SpAt wt _ ⟨0, 0, false⟩) (SpAt.below (SpAt.fresh _ _ _ _ _) hbt) (fun kC => ?_); have hz0 := Lib.hid kC; obtain ⟨c0', c1', c2', c3', c4', c5', c6'⟩ := kC) | (refine hav_ (P := SpAt wt _ ⟨0, 0, false⟩) (SpAt.below (SpAt.drew (SpAt.fresh _ _ _ _ _)) hbt) (fun kC => ?_); have hz0 := Lib.hid kC; obtain ⟨c0', c1', c2', c3', c4', c5', c6'⟩ := kC) | skip); clear hbt))
    all_goals
      go_wp2_with fail
      go_meet
      first
      | exact ⟨_, rfl, SpAt.fresh _ _ _ _ _, balloc hwt.out _⟩
      | exact ⟨_, rfl, (SpAt.zero_of (by assumption) (by assumption) (by assumption) (by assumption) (by assumption) (by assumption) (by assumption)).set3 P, set3_below hwt.out (by omega)⟩
  case rest =>
  obtain ⟨p9, rfl, hp9, hw9⟩ := hcut
  obtain ⟨w6, hu⟩ : ∃ x, x = wc := ⟨_, rfl⟩
  subst hu
  have hB6 := Lib.hid (below_seq hB5.out hw9)
  have hX6 := Lib.hid (hX5.out.below hw9)
  have hq6 := Lib.hid (below_seq hq5.out hw9)
  clear e0 e1 e2 e3 e4 e5 el x0 x1 x2 xl hw9 hB5 hX5 hq5 hF5 cS
  obtain ⟨e0, e1, e2, e3, e4, e5, el⟩ := hd.out _ hq6.out
  obtain ⟨x0, x1, x2, -, -, -, xl⟩ := hX6.out
  go_upto_region 14 with fail
  go_cut [10] from 58 to 64 (fun s10 wx => ∃ q : Nat, s10 = .pointer (some ⟨q, 0, none⟩) ∧ SpAt wx q D ∧ Below w6.heap.size w6 wx)
  case first =>
    clear hcp
    go_region_with (first | (go_at_call 67; refine (refTimes_e X T (4 * x) c _ (by omega) (by omega) hX' hT).mono ?_; rintro e wt ⟨rfl, hbt⟩; have hwt := Lib.hid (show Below w6.heap.size w6 wt from below_seq (by repeat (first | exact Below.refl _ _ | exact hwt.out | refine balloc ?_ _ | refine Below.drew ?_)) hbt); have hza := hwt.out.size; obtain ⟨e0, e1, e2, e3, e4, e5, el⟩ := hd.out _ (below_seq hq6.out hwt.out); obtain ⟨x0, x1, x2, -, -, -, xl⟩ := hX6.out.below hwt.out; (first | (refine hav_ (P := SpAt wt _ ⟨0, 0, false⟩) (SpAt.below hz0.out hbt) (fun kC => ?_); have hz0 := Lib.hid kC; obtain ⟨c0', c1', c2', c3', c4', c5', c6'⟩ := kC) | (refine hav_ (P := SpAt wt _ ⟨0, 0, false⟩) (SpAt.below (SpAt.fresh _ _ _ _ _) hbt) (fun kC => ?_); have hz0 := Lib.hid kC; obtain ⟨c0', c1', c2', c3', c4', c5', c6'⟩ := kC) | (refine hav_ (P := SpAt wt _ ⟨0, 0, false⟩) (SpAt.below (SpAt.drew (SpAt.fresh _ _ _ _ _)) hbt) (fun kC => ?_); have hz0 := Lib.hid kC; obtain ⟨c0', c1', c2', c3', c4', c5', c6'⟩ := kC) | skip); clear hbt) | (go_at_call 69; refine (refAdd_e RS T D _ oR oT hD).mono ?_; rintro e wt ⟨rfl, hbt⟩; have hwt := Lib.hid (show Below w6.heap.size w6 wt from below_seq (by repeat (first | exact Below.refl _ _ | exact hwt.out | refine balloc ?_ _ | refine Below.drew ?_)) hbt); have hza := hwt.out.size; obtain ⟨e0, e1, e2, e3, e4, e5, el⟩ := hd.out _ (below_seq hq6.out hwt.out); obtain ⟨x0, x1, x2, -, -, -, xl⟩ := hX6.out.below hwt.out; (first | (refine hav_ (P := SpAt wt _ ⟨0, 0, false⟩) (SpAt.below hz0.out hbt) (fun kC => ?_); have hz0 := Lib.hid kC; obtain ⟨c0', c1', c2', c3', c4', c5', c6'⟩ := kC) | (refine hav_ (P := SpAt wt _ ⟨0, 0, false⟩) (SpAt.below (SpAt.fresh _ _ _ _ _) hbt) (fun kC => ?_); have hz0 := Lib.hid kC; obtain ⟨c0', c1', c2', c3', c4', c5', c6'⟩ := kC) | (refine hav_ (P := SpAt wt _ ⟨0, 0, false⟩) (SpAt.below (SpAt.drew (SpAt.fresh _ _ _ _ _)) hbt) (fun kC => ?_); have hz0 := Lib.hid kC; obtain ⟨c0', c1', c2', c3', c4', c5', c6'⟩ := kC) | skip); clear hbt))
    all_goals
      go_wp2_with fail
      go_meet
      first
      | exact ⟨_, rfl, SpAt.fresh _ _ _ _ _, balloc hwt.out _⟩
      | exact ⟨_, rfl, (SpAt.zero_of (by assumption) (by assumption) (by assumption) (by assumption) (by assumption) (by assumption) (by assumption)).set3 D, set3_below hwt.out (by omega)⟩
  case rest =>
  obtain ⟨p10, rfl, hp10, hw10⟩ := hcut
  obtain ⟨w7, hu⟩ : ∃ x, x = wc := ⟨_, rfl⟩
  subst hu
  have hB7 := Lib.hid (below_seq hB6.out hw10)
  have hq7 := Lib.hid (below_seq hq6.out hw10)
  have hP7 := hp9.below hw10
  clear e0 e1 e2 e3 e4 e5 el x0 x1 x2 xl hw10 hB6 hX6 hq6
  obtain ⟨u0, u1, u2, -, -, -, ul⟩ := hP7
  obtain ⟨v0, v1, v2, -, -, -, vl⟩ := hp10
  obtain ⟨e0, e1, e2, e3, e4, e5, el⟩ := hd.out _ hq7.out
  have bk7 := Lib.hid (hBk.out.below hB7.out)
  have hdn : ¬ inB p (.slice ac N.length cc) (.slice ag N.length cg) w.heap.size := fun h => Nat.lt_irrefl _ (hBk.out.blk _ h).2
  go_wp2
  clear u0 u1 u2 ul v0 v1 v2 vl e2 e3 e4 e5
  have hD7 := Lib.hid (fun (w' : World) (hb : But (inB p (.slice ac N.length cc) (.slice ag N.length cg)) w7 w') => (⟨(hb.cell el hdn 0).trans e0, (hb.cell el hdn 1).trans e1, Nat.lt_of_lt_of_le el hb.size⟩ : w'.cell? ⟨w.heap.size, 0, none⟩ = some (.slice a0 n c0) ∧ w'.cell? ⟨w.heap.size, 1, none⟩ = some (.slice a1 m c1) ∧ w.heap.size < w'.heap.size))
  clear e0 e1 el
  go_loopw [11] (fun i wr => ∃ k : Nat, k ≤ n ∧ i = .int .i64 k ∧ BkV wr B p (.slice ac N.length cc) (.slice ag N.length cg) N (goneL G (gl.take k)) ∧ But (inB p (.slice ac N.length cc) (.slice ag N.length cg)) w7 wr) (fun i _ => n - (intOf i).toNat)
  case atStart => exact ⟨0, Nat.zero_le _, rfl, bk7.out, But.refl _ _⟩
  case round =>
    obtain ⟨k, hk, rfl, bk, hbt⟩ := hrel
    replace bk := Lib.hid bk
    replace hbt := Lib.hid hbt
    obtain ⟨e0, e1, el⟩ := hD7.out _ hbt.out
    by_cases hlt : k < n
    · have hkl : k < gl.length := by rw [hn.out]; exact hlt
      obtain ⟨b0, o0, rfl, hI, hnb⟩ := h0.out (by omega)
      have hI6 := hI.below hB7.out
      have l1 := (hbt.out.cell hI6.lt hnb (o0 + k)).trans (hI6.c k hkl)
      have l2 := Nat.lt_of_lt_of_le hI6.lt hbt.out.size
      obtain ⟨g0, g1⟩ := hin.out _ (List.getElem_mem hkl)
      have hsn := Lib.hid (goneL_snoc G (gl.take k) gl[k])
      rw [← take_snocI gl k hkl] at hsn
      have ek : (k : Int) < (n : Int) := by omega
      clear hI hI6
      generalize gl[k] = g at *
      obtain ⟨j, rfl⟩ : ∃ j : Nat, g = (j : Int) := ⟨g.toNat, by omega⟩
      have hj : j < N.length := by omega
      have hrg := bk.out.rg
      have hag : ∃ gb, ag = some ⟨gb, 0, none⟩ := by
        rcases hrg.2 with ⟨h2, h3⟩ | ⟨gb, cap, cur, h2, -⟩
        · omega
        · simp only [Value.slice.injEq] at h2; exact ⟨gb, h2.1⟩
      obtain ⟨gb, rfl⟩ := hag
      have m1 := hrg.cellAt j (by omega)
      have m2 := hrg.frozenAt j
      have m3 : gb < wr.heap.size := (hrg.lt gb rfl).2
      have hjl : j < ((goneL G (gl.take k)).map Value.bool).length := by rw [List.length_map, goneL_len]; have := hBk.out.ln; omega
      rw [List.getElem?_eq_getElem hjl] at m1
      have p1 := bk.out.c1
      have p2 := bk.out.lt
      clear hrg
      generalize ((goneL G (gl.take k)).map Value.bool)[j] = ov at *
      have hbn := Lib.hid ((bk.out.below (Below.refl wr.heap.size wr).drew).setg (g := gb) (c := cg) j)
      have hbd := Lib.hid (hbt.out.trans (But.of_below (Below.refl wr.heap.size wr).drew))
      go_wp2_with fail
      go_region
      all_goals
        go_wp2
        go_roundw
        case rel => exact ⟨k + 1, by omega, by go_num, by rw [hsn.out, Int.toNat_natCast]; exact hbn.out, hbd.out.trans (But.setCell (p := ⟨gb, j, none⟩) (.inr (.inr rfl)) _)⟩
        case measure => simp [intOf]; omega
    · obtain rfl : k = n := by omega
      rw [List.take_of_length_le (by have := hn.out; omega)] at bk
      obtain ⟨w8, rfl⟩ : ∃ x : World, x = wr := ⟨_, rfl⟩
      have hw8 : B ≤ w8.heap.size := Nat.le_trans hB0 (Nat.le_trans hB7.out.size hbt.out.size)
      have hsp : Hid (∀ w', But (inB p (.slice ac N.length cc) (.slice ag N.length cg)) w7 w' → 0 < (M.map qS).length → ∃ b o, a1 = some ⟨b, o, none⟩ ∧ SpotsAt w' b o (M.map qS)) := Lib.hid fun w' hb h => by
        obtain ⟨b, o, e, hs, hnb⟩ := h1.out h
        exact ⟨b, o, e, (hs.below hB7.out).but hb hnb⟩
      have hGl : (goneL G gl).length = N.length := by rw [goneL_len]; exact hBk.out.ln
      have hng := hBk.out.ng
      clear h0 h1 hin hd hcp
      go_wp2_with fail
      go_loopw [12] (fun i wr => ∃ (k : Nat) (vc' vg' : Value), k ≤ m ∧ i = .int .i64 k ∧ BkV wr B p vc' vg' (N ++ M.take k) (goneL G gl ++ List.replicate k false) ∧ (∀ j, inB p vc' vg' j → inB p (.slice ac N.length cc) (.slice ag N.length cg) j ∨ w8.heap.size ≤ j) ∧ But (inB p (.slice ac N.length cc) (.slice ag N.length cg)) w8 wr) (fun i _ => m - (intOf i).toNat)
      case atStart => exact ⟨0, _, _, Nat.zero_le _, rfl, by rw [List.take_zero, List.append_nil, List.replicate_zero, List.append_nil]; exact bk.out, fun j h => .inl h, But.refl _ _⟩
      case round =>
        clear bk e0 e1 el
        obtain ⟨k, vc', vg', hk, rfl, bk, hinb, hbr⟩ := hrel
        replace bk := Lib.hid bk
        replace hinb := Lib.hid hinb
        have hbz := hbr.size
        replace hbr := Lib.hid hbr
        have hb7r := Lib.hid (hbt.out.trans hbr.out)
        obtain ⟨e0, e1, el⟩ := hD7.out _ hb7r.out
        by_cases hlt : k < m
        · have hkM : k < M.length := by rw [hm'.out]; exact hlt
          obtain ⟨b1, o1, rfl, hs⟩ := hsp.out _ hb7r.out (by rw [List.length_map]; omega)
          have hjm : k < (M.map qS).length := by rw [List.length_map]; exact hkM
          have l1 := hs.cx k hjm
          have l2 := hs.cy k hjm
          have l3 := hs.cf k hjm
          have l4 := hs.lt
          rw [List.getElem_map] at l1 l2 l3
          have hsn := Lib.hid (take_snocI M k hkM)
          have ek : (k : Int) < (m : Int) := by omega
          have hlk : (N ++ M.take k).length = N.length + k := by rw [List.length_append, List.length_take]; omega
          have hgk : (goneL G gl ++ List.replicate k false).length = N.length + k := by rw [List.length_append, hGl, List.length_replicate]
          have hrs := Lib.hid (show goneL G gl ++ List.replicate k false ++ [false] = goneL G gl ++ List.replicate (k + 1) false by rw [List.append_assoc, ← List.replicate_succ'])
          clear hs hsp
          generalize hy : M[k] = y at *
          obtain ⟨C, hC⟩ : ∃ C, qS y = C := ⟨_, rfl⟩
          rw [hC] at l1 l2 l3
          replace hC := Lib.hid hC
          generalize hNk : N ++ M.take k = Nk at *
          generalize hGk : goneL G gl ++ List.replicate k false = Gk at *
          replace hNk := Lib.hid hNk
          replace hGk := Lib.hid hGk
          replace hy := Lib.hid hy
          obtain ⟨acr, ccr, rfl⟩ := own_slB bk.out.rc
          obtain ⟨agr, cgr, rfl⟩ := own_slB bk.out.rg
          rw [hlk] at bk hinb
          have p0 := bk.out.c0
          have p1 := bk.out.c1
          have pl := bk.out.lt
          have hBr : B ≤ wr.heap.size := by omega
          have hngr : (Value.slice agr (N.length + k) cgr).ownBlock ≠ some p := bk.out.ng
          go_upto_region 24 with fail
          go_cut [12] from 92 to 105 (fun s12 wx => s12 = .int .i64 k ∧ ∃ (av : Option Addr) (cv : Nat), wx.cell? ⟨p, 0, none⟩ = some (.slice av (N.length + k + 1) cv) ∧ wx.cell? ⟨p, 1, none⟩ = some (.slice agr (N.length + k) cgr) ∧ wx.frozen? ⟨p, 0, none⟩ = false ∧ wx.frozen? ⟨p, 1, none⟩ = false ∧ wx.ownsRow B 4 1 (.slice agr (N.length + k) cgr) (N.length + k) (Gk.map Value.bool) ∧ wx.ownsRow B 28 3 (.slice av (N.length + k + 1) cv) (N.length + k + 1) (spCells (Nk.map qS) ++ spCells [C]) ∧ Ap (.slice av (N.length + k + 1) cv) (.slice agr (N.length + k) cgr) ∧ (Value.slice av (N.length + k + 1) cv).ownBlock ≠ some p ∧ But (fun j => inB p (.slice ac N.length cc) (.slice ag N.length cg) j ∨ w8.heap.size ≤ j) w8 wx ∧ (∀ j, (Value.slice av (N.length + k + 1) cv).ownBlock = some j → inB p (.slice ac N.length cc) (.slice ag N.length cg) j ∨ w8.heap.size ≤ j) ∧ p < wx.heap.size)
          case first =>
            go_region_law (refine steps_app (by rfl) _ _ _ (by rfl) (by kernel_rfl) B _ (Nk.map qS) (N.length + k) (by rfl) (own_below (by have := bk.out.rc; rw [hlk] at this; exact this) (by repeat (first | exact Below.refl _ _ | refine balloc ?_ _ | refine Below.drew ?_))) (by rw [List.length_map]; exact hlk) (by omega) (by simp only [World.size_alloc, World.size_drew]; omega) _ C (by rfl) (by go_simp) (by go_simp) (by go_simp) ?_; intro v' w4 hrow hgr hloc; obtain ⟨z0, z1, z2, z3, z4, z5, z6, z7⟩ := BkV.grow (M := [y]) (bk.out.below (by repeat (first | exact Below.refl _ _ | refine balloc ?_ _ | refine Below.drew ?_))) (by simp only [World.size_alloc, World.size_drew]; omega) (by show w4.ownsRow B _ 3 v' (Nk.length + 1) (spCells (Nk.map qS) ++ spCells [qS y]); rw [hlk, hC.out]; exact hrow) hgr hloc; obtain ⟨av, cv, rfl⟩ := own_slB hrow; have hb4 := Lib.hid (((hbr.out.mono (T := fun j => inB p (.slice ac N.length cc) (.slice ag N.length cg) j ∨ w8.heap.size ≤ j) (fun j _ h => .inl h)).trans (But.of_below (by repeat (first | exact Below.refl _ _ | refine balloc ?_ _ | refine Below.drew ?_)))).trans (But.of_grown hgr (fun j hj => hinb.out j (.inr (.inl hj))))); have hl4 := Lib.hid (show ∀ j, (Value.slice av (N.length + k + 1) cv).ownBlock = some j → inB p (.slice ac N.length cc) (.slice ag N.length cg) j ∨ w8.heap.size ≤ j from fun j hj => by (rcases hloc with e | e; exact hinb.out j (.inr (.inl (e ▸ hj))); (rw [e] at hj; have := Option.some.inj hj; simp only [World.size_alloc, World.size_drew] at this; exact .inr (by omega)))); replace hrow := Lib.hid hrow; replace z5 := Lib.hid z5; replace z6 := Lib.hid z6; replace z7 := Lib.hid z7; clear hgr hloc)
            all_goals
              obtain ⟨y0, y1, y2, y3, y5, y6⟩ := half z0 z1 z2 z3 z4 z5.out hrow.out z7.out hngr
              have hbw := hb4.out.trans (But.setCell (S := (fun j => inB p (.slice ac N.length cc) (.slice ag N.length cg) j ∨ w8.heap.size ≤ j)) (p := ⟨p, 0, none⟩) (.inl (.inl rfl)) (.slice av (N.length + k + 1) cv))
              rw [hlk] at y5
              go_wp2_with fail
              go_meet
              exact ⟨rfl, av, cv, y0, y1, y2, y3, y5, y6, z6.out, z7.out, hbw, hl4.out, by simpa using z4⟩
          case rest =>
            obtain ⟨rfl, av, cv, y0, y1, y2, y3, y5, y6, z6, z7, hbw, hl4, pl9⟩ := hcut
            obtain ⟨w9, hw9⟩ : ∃ x, x = wc := ⟨_, rfl⟩
            subst hw9
            have hz9 := hbw.size
            replace hbw := Lib.hid hbw
            replace hl4 := Lib.hid hl4
            replace z6 := Lib.hid z6
            replace z7 := Lib.hid z7
            clear p0 p1 l1 l2 l3 l4 e0 e1 el
            replace y5 := Lib.hid y5
            replace y6 := Lib.hid y6
            have hBz9 : B ≤ w9.heap.size := by omega
            have y5' := y5.out
            have hA2 := Lib.hid (AppRun.bit (w := w9.alloc (.cells #[.bool false] 4)) (G := Gk) (n := N.length + k) (c := false) (g := w9.heap.size) (y5'.alloc _) (by go_simp) (by simp; omega) (by omega))
            clear y5'
            go_wp2_with (first | (at_builtin; refine wpl_app (by rfl) _ _ (by rfl) hA2.out (by rfl) (by rfl) ?_; intro v2 w10 hrow2 hgr2 hloc2; obtain ⟨i1, i2⟩ := row_pair (own_below y6.out (by repeat (first | exact Below.refl _ _ | refine balloc ?_ _ | refine Below.drew ?_))) z6.out.symm hgr2 hloc2; have hb10 := hgr2.block p (by simp only [World.size_alloc, World.size_drew]; omega) (fun e => hngr e.symm); have k0 : w10.cell? ⟨p, 0, none⟩ = some (.slice av (N.length + k + 1) cv) := (World.cell?_of_block (a := ⟨p, 0, none⟩) hb10).trans (by go_simp); have k1 : w10.cell? ⟨p, 1, none⟩ = some (.slice agr (N.length + k) cgr) := (World.cell?_of_block (a := ⟨p, 1, none⟩) hb10).trans (by go_simp); have k2 : w10.frozen? ⟨p, 0, none⟩ = false := (World.frozen?_of_block (a := ⟨p, 0, none⟩) hb10).trans (by go_simp); have k3 : w10.frozen? ⟨p, 1, none⟩ = false := (World.frozen?_of_block (a := ⟨p, 1, none⟩) hb10).trans (by go_simp); have k4 : p < w10.heap.size := Nat.lt_of_lt_of_le (by simp only [World.size_alloc, World.size_drew]; omega) hgr2.size; obtain ⟨av2, cv2, rfl⟩ := own_slB hrow2; have hb11 := Lib.hid ((hbw.out.trans (But.of_below (by repeat (first | exact Below.refl _ _ | refine balloc ?_ _ | refine Below.drew ?_)))).trans (But.of_grown hgr2 (fun j hj => hinb.out j (.inr (.inr hj))))); have hl5 := Lib.hid (show ∀ j, (Value.slice av2 (N.length + k + 1) cv2).ownBlock = some j → inB p (.slice ac N.length cc) (.slice ag N.length cg) j ∨ w8.heap.size ≤ j from fun j hj => by (rcases hloc2 with e | e; exact hinb.out j (.inr (.inr (e ▸ hj))); (rw [e] at hj; have := Option.some.inj hj; simp only [World.size_alloc, World.size_drew] at this; exact .inr (by omega)))); have hng2 : (Value.slice av2 (N.length + k + 1) cv2).ownBlock ≠ some p := fun e => hloc2.elim (fun e2 => hngr (e2.symm.trans e)) (fun e2 => by have := Option.some.inj (e2.symm.trans e); simp only [World.size_alloc, World.size_drew] at this; omega); replace hrow2 := Lib.hid hrow2; replace i1 := Lib.hid i1; replace i2 := Lib.hid i2; clear hgr2 hloc2) | fail)
            all_goals
              have hNl1 : (Nk ++ [y]).length = N.length + k + 1 := by rw [List.length_append, hlk]; rfl
              have hfin := full k0 k1 k2 k3 k4 bk.out.bp (N := Nk ++ [y]) (G := Gk ++ [false]) (by rw [hNl1]; exact hrow2.out) (by rw [hNl1, List.map_append, ← spCells_app]; show _; rw [List.map_cons, List.map_nil, hC.out]; exact i1.out) (by rw [List.length_append, hgk, hNl1]; rfl) i2.out.symm z7.out hng2
              have hbu := (hb11.out.trans (But.setCell (S := fun j => inB p (.slice ac N.length cc) (.slice ag N.length cg) j ∨ w8.heap.size ≤ j) (p := ⟨p, 1, none⟩) (.inl (.inl rfl)) (.slice av2 (N.length + k + 1) cv2))).mono (T := inB p (.slice ac N.length cc) (.slice ag N.length cg)) (fun j hj h => h.elim id (fun h2 => absurd h2 (by omega)))
              rw [hrs.out, ← hNk.out, List.append_assoc, ← hsn.out] at hfin
              go_wp2
              go_roundw
              case rel => exact ⟨k + 1, _, _, by omega, by go_num, hfin, (fun j hj => by (rcases hj with hj | hj | hj; exact .inl (.inl hj); exact hl4.out j hj; exact hl5.out j hj)), hbu⟩
              case measure => simp [intOf]; omega
        · obtain rfl : k = m := by omega
          go_wp2
          go_ret
          refine ⟨rfl, vc', vg', ?_, fun j hj => ?_, (But.of_below hB7.out).trans hb7r.out⟩
          · have := bk.out; rw [List.take_of_length_le (by have := hm'.out; omega)] at this; exact this
          · rcases hinb.out j hj with h | h
            · exact .inl h
            · exact .inr (Nat.le_trans (Nat.le_trans hB7.out.size hbt.out.size) h)
end Go.Proofs.YtahgaccdeakmcaaGreatDoor
namespace Go.Proofs.YtahgaccdeakmcaaGreatDoor
open Go.RowKit
set_option maxRecDepth 100000
set_option linter.unusedVariables false
set_option linter.unusedSimpArgs false
theorem first_no (p : Nat → Prop) : ∀ n : Nat, ∃ k, k ≤ n ∧ (∀ i, i < k → p i) ∧ (k < n → ¬ p k)
  | 0 => ⟨0, Nat.le_refl _, fun i h => absurd h (Nat.not_lt_zero _), fun h => absurd h (Nat.lt_irrefl _)⟩
  | n + 1 => by
    obtain ⟨k, h1, h2, h3⟩ := first_no p n
    by_cases hk : k < n
    · exact ⟨k, by omega, h2, fun _ => h3 hk⟩
    · obtain rfl : k = n := by omega
      by_cases hp : p k
      · exact ⟨k + 1, Nat.le_refl _, fun i hi => by
          by_cases e : i < k
          · exact h2 i e
          · obtain rfl : i = k := by omega
            exact hp, fun h => absurd h (Nat.lt_irrefl _)⟩
      · exact ⟨k, by omega, h2, fun _ => hp⟩
theorem coins_all : ∀ (C : List Sp), (∀ i (h : i < C.length), ∃ n, C[i] = qS n) → ∃ M : List Int, C = M.map qS
  | [], _ => ⟨[], rfl⟩
  | s :: C, h => by
    obtain ⟨n, e⟩ := h 0 (Nat.succ_pos _)
    obtain ⟨M, hM⟩ := coins_all C (fun i hi => h (i + 1) (Nat.succ_lt_succ hi))
    simp only [List.getElem_cons_zero] at e
    exact ⟨n :: M, by rw [List.map_cons, ← e, ← hM]⟩
/-- Coins looked at: alike. -/
theorem coins_out (C : List Sp) (hCl : C.length ≤ 9223372036854775807) : ∃ EC : Int, (EC = 0 → ∃ M : List Int, M.length ≤ 12 ∧ C = M.map qS) ∧ ∀ (a : Option Addr) (c : Nat) (w : World), FarAt w → (0 < C.length → ∃ b o, a = some ⟨b, o, none⟩ ∧ SpotsAt w b o C) →
    (Calls Tryz.prog 75 #[.slice a C.length c] w fun e w' => e = .returned (errV EC) ∧ Below w.heap.size w w') ∧ (Calls Tryz.prog 25 #[.slice a C.length c] w fun e w' => e = .returned (.int .i64 EC) ∧ Below w.heap.size w w') := by
  by_cases h12 : C.length ≤ 12
  · obtain ⟨kk, k1, k2, k3⟩ := first_no (fun i => ∀ h : i < C.length, ∃ n, C[i] = qS n) C.length
    by_cases hk : kk < C.length
    · have hno : NoCoin C[kk] := by
        rcases coin_is C[kk] with h | h
        · exact absurd (fun _ => h) (k3 hk)
        · exact h
      refine ⟨3, fun h => by omega, fun a c w hF hs => ⟨?_, ?_⟩⟩
      · exact bcheck_core C kk (errV 3) a c w hF h12 hs (Lib.hid fun k h1 h2 => k2 k h2 h1) k1 (Lib.hid fun _ => hno) (Lib.hid fun _ => errVB_ne (by decide)) (Lib.hid fun h => by omega)
      · exact rcoins_core C kk 3 a c w h12 hs (Lib.hid fun k h1 h2 => k2 k h2 h1) k1 (Lib.hid fun _ => hno) (Lib.hid fun _ => rfl) (Lib.hid fun h => by omega)
    · obtain rfl : kk = C.length := by omega
      obtain ⟨M, hM⟩ := coins_all C (fun i h => k2 i h h)
      refine ⟨0, fun _ => ⟨M, by rw [hM, List.length_map] at h12; exact h12, hM⟩, fun a c w hF hs => ⟨?_, ?_⟩⟩
      · exact bcheck_core C C.length (errV 0) a c w hF h12 hs (Lib.hid fun k h1 h2 => k2 k h2 h1) k1 (Lib.hid fun h => absurd h (Nat.lt_irrefl _)) (Lib.hid fun h => absurd h (Nat.lt_irrefl _)) (Lib.hid fun _ => rfl)
      · exact rcoins_core C C.length 0 a c w h12 hs (Lib.hid fun k h1 h2 => k2 k h2 h1) k1 (Lib.hid fun h => absurd h (Nat.lt_irrefl _)) (Lib.hid fun h => absurd h (Nat.lt_irrefl _)) (Lib.hid fun _ => rfl)
  · refine ⟨4, fun h => by omega, fun a c w hF hs => ⟨?_, ?_⟩⟩
    · rw [errVB_ne (by decide)]; exact bcheck_full C.length a c w (by omega) hCl
    · exact rcoins_full C.length a c w (by omega) hCl
/-- What is left between: alike. -/
theorem ex_out (N : List Int) (G : List Bool) (gl : List Int) (C : List Sp) (hG : G.length = N.length) (hN : N.length ≤ 1000000) (hgl : gl.length ≤ 9223372036854775807) (hCl : C.length ≤ 9223372036854775807) :
    ∃ (V : Sp) (E : Int), (E = 0 → ∃ M : List Int, M.length ≤ 12 ∧ C = M.map qS ∧ V = qS (outN N gl + M.sum) ∧ ∀ g ∈ gl, 0 ≤ g ∧ g < N.length) ∧ (E ≠ 0 → V = ⟨0, 0, false⟩) ∧
      (∀ (B p : Nat) (a0 a1 : Option Addr) (c0 c1 : Nat) (w : World), FarAt w → BkAt w B p N G → gl.length ≤ c0 → c0 ≤ 9223372036854775807 → (0 < gl.length → ∃ b o, a0 = some ⟨b, o, none⟩ ∧ IntsAt w b o gl) → (0 < C.length → ∃ b o, a1 = some ⟨b, o, none⟩ ∧ SpotsAt w b o C) →
        Calls Tryz.prog 36 #[.pointer (some ⟨p, 0, none⟩), .slice a0 gl.length c0, .slice a1 C.length c1] w fun e w' => e = .returned (.tuple #[spV V, errV E]) ∧ Below w.heap.size w w') ∧
      (∀ (B p : Nat) (a0 a1 : Option Addr) (c0 c1 : Nat) (w : World), FarAt w → BkAt w B p N G → (0 < gl.length → ∃ b o, a0 = some ⟨b, o, none⟩ ∧ IntsAt w b o gl) → (0 < C.length → ∃ b o, a1 = some ⟨b, o, none⟩ ∧ SpotsAt w b o C) →
        Calls Tryz.prog 64 #[.pointer (some ⟨p, 0, none⟩), .slice a0 gl.length c0, .slice a1 C.length c1] w fun e w' => e = .returned (.tuple #[spV V, .int .i64 E]) ∧ Below w.heap.size w w') := by
  obtain ⟨EC, hM, hC⟩ := coins_out C hCl
  obtain ⟨kk, k1, k2, k3⟩ := first_no (fun i => ∀ h : i < gl.length, gErrB G (gl.take i) gl[i] = 0) gl.length
  have hsm : ∀ (a1 : Option Addr) (w : World), (0 < C.length → ∃ b o, a1 = some ⟨b, o, none⟩ ∧ SpotsAt w b o C) → ∀ w1, Below w.heap.size w w1 → (0 < C.length → ∃ b o, a1 = some ⟨b, o, none⟩ ∧ SpotsAt w1 b o C) := fun a1 w h w1 hb h0 => by obtain ⟨b, o, e, hs⟩ := h h0; exact ⟨b, o, e, hs.below hb⟩
  by_cases hk : kk < gl.length
  · obtain ⟨E, hE⟩ : ∃ E, gErrB G (gl.take kk) gl[kk] = E := ⟨_, rfl⟩
    have hE0 : E ≠ 0 := fun h => k3 hk (fun _ => hE.trans h)
    refine ⟨⟨0, 0, false⟩, E, fun h => absurd h hE0, fun _ => rfl, fun B p a0 a1 c0 c1 w hF hB g0 g1 hi hs => ?_, fun B p a0 a1 c0 c1 w hF hB hi hs => ?_⟩
    · rw [errVB_ne hE0]
      exact bex_core N G B p gl C a0 a1 c0 c1 kk E (errV EC) _ w hF hB hN hgl g0 g1 hi hs hCl k1 (fun i h hi => k2 i hi h) (fun _ => ⟨hE, hE0⟩) (Lib.hid fun w1 hb => (hC a1 c1 w1 (hF.below hb) (hsm a1 w hs w1 hb)).1) (Lib.hid fun _ => rfl) (Lib.hid fun h => by omega)
    · exact rbex_core N G B p gl C a0 a1 c0 c1 kk E EC _ w hB hN hgl hi hs hCl k1 (fun i h hi => k2 i hi h) (fun _ => ⟨hE, hE0⟩) (Lib.hid fun w1 hb => (hC a1 c1 w1 (hF.below hb) (hsm a1 w hs w1 hb)).2) (Lib.hid fun _ => rfl) (Lib.hid fun h => by omega)
  · obtain rfl : kk = gl.length := by omega
    by_cases hEC : EC = 0
    · subst hEC
      obtain ⟨M, hM1, hM2⟩ := hM rfl
      refine ⟨qS (outN N gl + M.sum), 0, fun _ => ⟨M, hM1, hM2, rfl, fun g hg => ?_⟩, fun h => absurd rfl h, fun B p a0 a1 c0 c1 w hF hB g0 g1 hi hs => ?_, fun B p a0 a1 c0 c1 w hF hB hi hs => ?_⟩
      · obtain ⟨i, hi, rfl⟩ := List.getElem_of_mem hg
        have := gErrB_0 (k2 i hi hi)
        rw [hG] at this; exact this
      · exact bex_core N G B p gl C a0 a1 c0 c1 gl.length 0 (errV 0) _ w hF hB hN hgl g0 g1 hi hs hCl k1 (fun i h hi => k2 i hi h) (fun h => absurd h (Nat.lt_irrefl _)) (Lib.hid fun w1 hb => (hC a1 c1 w1 (hF.below hb) (hsm a1 w hs w1 hb)).1) (Lib.hid fun h => absurd h (Nat.lt_irrefl _)) (Lib.hid fun _ => .inr ⟨rfl, M, hM2, rfl⟩)
      · exact rbex_core N G B p gl C a0 a1 c0 c1 gl.length 0 0 _ w hB hN hgl hi hs hCl k1 (fun i h hi => k2 i hi h) (fun h => absurd h (Nat.lt_irrefl _)) (Lib.hid fun w1 hb => (hC a1 c1 w1 (hF.below hb) (hsm a1 w hs w1 hb)).2) (Lib.hid fun h => absurd h (Nat.lt_irrefl _)) (Lib.hid fun _ => .inr ⟨rfl, M, hM1, hM2, rfl⟩)
    · refine ⟨⟨0, 0, false⟩, EC, fun h => absurd h hEC, fun _ => rfl, fun B p a0 a1 c0 c1 w hF hB g0 g1 hi hs => ?_, fun B p a0 a1 c0 c1 w hF hB hi hs => ?_⟩
      · exact bex_core N G B p gl C a0 a1 c0 c1 gl.length 0 (errV EC) _ w hF hB hN hgl g0 g1 hi hs hCl k1 (fun i h hi => k2 i hi h) (fun h => absurd h (Nat.lt_irrefl _)) (Lib.hid fun w1 hb => (hC a1 c1 w1 (hF.below hb) (hsm a1 w hs w1 hb)).1) (Lib.hid fun h => absurd h (Nat.lt_irrefl _)) (Lib.hid fun _ => .inl ⟨EC, errVB_ne hEC, rfl⟩)
      · exact rbex_core N G B p gl C a0 a1 c0 c1 gl.length 0 EC _ w hB hN hgl hi hs hCl k1 (fun i h hi => k2 i hi h) (fun h => absurd h (Nat.lt_irrefl _)) (Lib.hid fun w1 hb => (hC a1 c1 w1 (hF.below hb) (hsm a1 w hs w1 hb)).2) (Lib.hid fun h => absurd h (Nat.lt_irrefl _)) (Lib.hid fun _ => .inl ⟨by simpa using hEC, rfl⟩)
end Go.Proofs.YtahgaccdeakmcaaGreatDoor
namespace Go.Proofs.YtahgaccdeakmcaaGreatDoor
open Go.RowKit
set_option maxRecDepth 100000
set_option linter.unusedVariables false
set_option linter.unusedSimpArgs false
set_option maxHeartbeats 4000000 in
theorem rbdo_e (p : Nat) (a0 a1 : Option Addr) (n m c0 c1 : Nat) (RS : Sp) (s E : Int) (w : World) (hE : (E != 0) = true)
    (hEx : Hid (∀ w1 : World, Below w.heap.size w w1 → Calls Tryz.prog 64 #[.pointer (some ⟨p, 0, none⟩), .slice a0 n c0, .slice a1 m c1] w1 fun e w' => e = .returned (.tuple #[spV ⟨0, 0, false⟩, .int .i64 E]) ∧ Below w1.heap.size w1 w')) :
    Calls Tryz.prog 28 #[.pointer (some ⟨p, 0, none⟩), dlV (.slice a0 n c0) (.slice a1 m c1) RS s] w fun e w' => e = .returned (.int .i64 E) ∧ Below w.heap.size w w' := by
  go_enter Tryz.func28, Tryz.ntmps28
  go_wp2_with fail
  have hb0 := Lib.hid (below_alloc w (.cells #[.slice a0 n c0, .slice a1 m c1, .int .i64 RS.x, .int .i64 RS.y, .bool RS.far, .int .i64 s] 46))
  refine (hEx.out _ hb0.out).mono ?_; rintro e w1 ⟨rfl, hb1⟩
  have hB1 := Lib.hid (below_seq hb0.out hb1)
  clear hb1 hb0 hEx
  go_wp2
  go_ret
  exact ⟨rfl, balloc hB1.out _⟩
theorem do_out (N : List Int) (G : List Bool) (gl : List Int) (C : List Sp) (RS : Sp) (s : Int) (hG : G.length = N.length) (hN : N.length ≤ 1000) (hgl : gl.length ≤ 9223372036854775807) (hCl : C.length ≤ 9223372036854775807) :
    ∃ (E : Int) (N' : List Int) (G' : List Bool), N'.length ≤ 1000 ∧ G'.length = N'.length ∧
      (∀ (B p : Nat) (vc vg : Value) (a0 a1 : Option Addr) (c0 c1 : Nat) (w : World), FarAt w → BkV w B p vc vg N G → B ≤ w.heap.size → gl.length ≤ c0 → c0 ≤ 9223372036854775807 → Lies w p vc vg a0 a1 gl C →
        Calls Tryz.prog 38 #[.pointer (some ⟨p, 0, none⟩), dlV (.slice a0 gl.length c0) (.slice a1 C.length c1) RS s] w fun e w' => e = .returned (errV E) ∧ Did w w' B p vc vg N' G') ∧
      (∀ (B p : Nat) (vc vg : Value) (a0 a1 : Option Addr) (c0 c1 : Nat) (w : World), FarAt w → BkV w B p vc vg N G → B ≤ w.heap.size → Lies w p vc vg a0 a1 gl C →
        Calls Tryz.prog 28 #[.pointer (some ⟨p, 0, none⟩), dlV (.slice a0 gl.length c0) (.slice a1 C.length c1) RS s] w fun e w' => e = .returned (.int .i64 E) ∧ Did w w' B p vc vg N' G') := by
  obtain ⟨V, E, h0, hne, hP, hD⟩ := ex_out N G gl C hG (by omega) hgl hCl
  have sm : ∀ (p : Nat) (vc vg : Value) (a0 a1 : Option Addr) (w w1 : World), Lies w p vc vg a0 a1 gl C → Below w.heap.size w w1 → (0 < gl.length → ∃ b o, a0 = some ⟨b, o, none⟩ ∧ IntsAt w1 b o gl) ∧ (0 < C.length → ∃ b o, a1 = some ⟨b, o, none⟩ ∧ SpotsAt w1 b o C) := fun p vc vg a0 a1 w w1 h hb =>
    ⟨fun h1 => by obtain ⟨b, o, e, hs, -⟩ := h.g h1; exact ⟨b, o, e, hs.below hb⟩, fun h1 => by obtain ⟨b, o, e, hs, -⟩ := h.n h1; exact ⟨b, o, e, hs.below hb⟩⟩
  have exP : ∀ (B p : Nat) (vc vg : Value) (a0 a1 : Option Addr) (c0 c1 : Nat) (w : World), FarAt w → BkV w B p vc vg N G → gl.length ≤ c0 → c0 ≤ 9223372036854775807 → Lies w p vc vg a0 a1 gl C → ∀ w1 : World, Below w.heap.size w w1 → Calls Tryz.prog 36 #[.pointer (some ⟨p, 0, none⟩), .slice a0 gl.length c0, .slice a1 C.length c1] w1 fun e w' => e = .returned (.tuple #[spV V, errV E]) ∧ Below w1.heap.size w1 w' :=
    fun B p vc vg a0 a1 c0 c1 w hF hv g0 g1 hl w1 hb => hP B p a0 a1 c0 c1 w1 (hF.below hb) ⟨_, _, hv.below hb⟩ g0 g1 (sm p vc vg a0 a1 w w1 hl hb).1 (sm p vc vg a0 a1 w w1 hl hb).2
  have exD : ∀ (B p : Nat) (vc vg : Value) (a0 a1 : Option Addr) (c0 c1 : Nat) (w : World), FarAt w → BkV w B p vc vg N G → Lies w p vc vg a0 a1 gl C → ∀ w1 : World, Below w.heap.size w w1 → Calls Tryz.prog 64 #[.pointer (some ⟨p, 0, none⟩), .slice a0 gl.length c0, .slice a1 C.length c1] w1 fun e w' => e = .returned (.tuple #[spV V, .int .i64 E]) ∧ Below w1.heap.size w1 w' :=
    fun B p vc vg a0 a1 c0 c1 w hF hv hl w1 hb => hD B p a0 a1 c0 c1 w1 (hF.below hb) ⟨_, _, hv.below hb⟩ (sm p vc vg a0 a1 w w1 hl hb).1 (sm p vc vg a0 a1 w w1 hl hb).2
  by_cases hE : E = 0
  · subst hE
    obtain ⟨M, hM1, rfl, rfl, hin⟩ := h0 rfl
    have hl : (M.map qS).length = M.length := List.length_map _
    have refuse : ∀ E : Int, E ≠ 0 → ((1000 < N.length + M.length ∧ E = 4) ∨ (N.length + M.length ≤ 1000 ∧ ((¬ (0 ≤ s ∧ s < 1013) ∧ E = 1) ∨ ((0 ≤ s ∧ s < 1013) ∧ ((sCheck RS = E ∧ E ≠ 0) ∨ (Ok RS ∧ E = 8 ∧ Sp.beq (sq (4 * hJ * s)) (sSum RS (sq (4 * (outN N gl + M.sum) * bAsk RS (qS (outN N gl + M.sum))))) = false)))))) →
        ∃ (E : Int) (N' : List Int) (G' : List Bool), N'.length ≤ 1000 ∧ G'.length = N'.length ∧
      (∀ (B p : Nat) (vc vg : Value) (a0 a1 : Option Addr) (c0 c1 : Nat) (w : World), FarAt w → BkV w B p vc vg N G → B ≤ w.heap.size → gl.length ≤ c0 → c0 ≤ 9223372036854775807 → Lies w p vc vg a0 a1 gl (M.map qS) →
        Calls Tryz.prog 38 #[.pointer (some ⟨p, 0, none⟩), dlV (.slice a0 gl.length c0) (.slice a1 (M.map qS).length c1) RS s] w fun e w' => e = .returned (errV E) ∧ Did w w' B p vc vg N' G') ∧
      (∀ (B p : Nat) (vc vg : Value) (a0 a1 : Option Addr) (c0 c1 : Nat) (w : World), FarAt w → BkV w B p vc vg N G → B ≤ w.heap.size → Lies w p vc vg a0 a1 gl (M.map qS) →
        Calls Tryz.prog 28 #[.pointer (some ⟨p, 0, none⟩), dlV (.slice a0 gl.length c0) (.slice a1 (M.map qS).length c1) RS s] w fun e w' => e = .returned (.int .i64 E) ∧ Did w w' B p vc vg N' G') := fun E hE hR => by
      refine ⟨E, N, G, hN, hG, fun B p vc vg a0 a1 c0 c1 w hF hv hB g0 g1 hli => ?_, fun B p vc vg a0 a1 c0 c1 w hF hv hB hli => ?_⟩
      · rw [errVB_ne hE]
        exact (bdo_n N G B p a0 a1 gl.length (M.map qS).length c0 c1 RS s _ (outN N gl + M.sum) E _ w hF ⟨_, _, hv⟩ (by omega) (by omega) (Lib.hid rfl) (Lib.hid (exP B p vc vg a0 a1 c0 c1 w hF hv g0 g1 hli)) (Lib.hid (.inr ⟨rfl, by rw [hl]; exact hR⟩))).mono fun e w' ⟨h1, h2⟩ => ⟨h1, did_same hv h2⟩
      · exact (rbdo_n N G B p a0 a1 gl.length (M.map qS).length c0 c1 RS s _ (outN N gl + M.sum) E _ w hF ⟨_, _, hv⟩ (by omega) (by omega) (Lib.hid rfl) (Lib.hid (exD B p vc vg a0 a1 c0 c1 w hF hv hli)) (Lib.hid (.inr ⟨rfl, by rw [hl]; exact hR⟩))).mono fun e w' ⟨h1, h2⟩ => ⟨h1, did_same hv h2⟩
    by_cases hm : N.length + M.length ≤ 1000
    case neg => exact refuse 4 (by decide) (.inl ⟨by omega, rfl⟩)
    by_cases hs : 0 ≤ s ∧ s < 1013
    case neg => exact refuse 1 (by decide) (.inr ⟨hm, .inl ⟨hs, rfl⟩⟩)
    by_cases hr : sCheck RS = 0
    case neg => exact refuse _ hr (.inr ⟨hm, .inr ⟨hs, .inl ⟨rfl, hr⟩⟩⟩)
    have oR : Ok RS := (ok_iff RS).mp hr
    cases hq : Sp.beq (sq (4 * hJ * s)) (sSum RS (sq (4 * (outN N gl + M.sum) * bAsk RS (qS (outN N gl + M.sum)))))
    case false => exact refuse 8 (by decide) (.inr ⟨hm, .inr ⟨hs, .inr ⟨oR, rfl, hq⟩⟩⟩)
    refine ⟨0, N ++ M, goneL G gl ++ List.replicate M.length false, by rw [List.length_append]; exact hm, by rw [List.length_append, List.length_append, goneL_len, List.length_replicate, hG], fun B p vc vg a0 a1 c0 c1 w hF hv hB g0 g1 hli => ?_, fun B p vc vg a0 a1 c0 c1 w hF hv hB hli => ?_⟩
    · have hex := exP B p vc vg a0 a1 c0 c1 w hF hv g0 g1 hli
      have hn := hli.n
      rw [hl] at hex ⊢
      exact bdo_y N M G B p vc vg gl [] a0 a1 c0 c1 RS s _ (outN N gl + M.sum) w hF hv hB hN (Lib.hid rfl) hgl hli.g hn hin (Lib.hid hex) hm hs.1 hs.2 oR (Lib.hid hq)
    · have hex := exD B p vc vg a0 a1 c0 c1 w hF hv hli
      have hn := hli.n
      rw [hl] at hex ⊢
      exact rbdo_y N M G B p vc vg gl a0 a1 gl.length M.length c0 c1 RS s _ (outN N gl + M.sum) w hF hv hB hN (Lib.hid rfl) rfl rfl hgl hli.g hn hin (Lib.hid hex) hm hs.1 hs.2 oR (Lib.hid hq)
  · obtain rfl := hne hE
    rw [errVB_ne hE] at exP
    refine ⟨E, N, G, hN, hG, fun B p vc vg a0 a1 c0 c1 w hF hv hB g0 g1 hli => ?_, fun B p vc vg a0 a1 c0 c1 w hF hv hB hli => ?_⟩
    · rw [errVB_ne hE]
      exact (bdo_e p a0 a1 gl.length C.length c0 c1 RS s E w (Lib.hid (exP B p vc vg a0 a1 c0 c1 w hF hv g0 g1 hli))).mono fun e w' ⟨h1, h2⟩ => ⟨h1, did_same hv h2⟩
    · exact (rbdo_e p a0 a1 gl.length C.length c0 c1 RS s E w (by simpa using hE) (Lib.hid (exD B p vc vg a0 a1 c0 c1 w hF hv hli))).mono fun e w' ⟨h1, h2⟩ => ⟨h1, did_same hv h2⟩
end Go.Proofs.YtahgaccdeakmcaaGreatDoor
namespace Go.Proofs.YtahgaccdeakmcaaGreatDoor
open Go.RowKit
set_option maxRecDepth 100000
set_option linter.unusedVariables false
set_option linter.unusedSimpArgs false
theorem nodup_gErr {G : List Bool} {gl : List Int} (h : ∀ i (hi : i < gl.length), gErrB G (gl.take i) gl[i] = 0) : gl.Nodup := by
  unfold List.Nodup
  rw [List.pairwise_iff_getElem]
  intro i j hi hj hij e
  have h1 := h j hj
  have hm : gl[j] ∈ gl.take j := by
    rw [← e, List.mem_take_iff_getElem]
    exact ⟨i, by omega, rfl⟩
  unfold gErrB at h1
  split at h1
  · omega
  · split at h1
    · omega
    · first | (rw [if_pos hm] at h1; omega) | omega
/-- What is left between: alike. -/
theorem ex_out2 (N : List Int) (G : List Bool) (gl : List Int) (C : List Sp) (hG : G.length = N.length) (hN : N.length ≤ 1000000) (hgl : gl.length ≤ 9223372036854775807) (hCl : C.length ≤ 9223372036854775807) :
    ∃ (V : Sp) (E : Int), (E = 0 → ∃ M : List Int, M.length ≤ 12 ∧ C = M.map qS ∧ V = qS (outN N gl + M.sum) ∧ (∀ g ∈ gl, 0 ≤ g ∧ g < N.length) ∧ gl.Nodup) ∧ (E ≠ 0 → V = ⟨0, 0, false⟩) ∧
      (∀ (B p : Nat) (a0 a1 : Option Addr) (c0 c1 : Nat) (w : World), FarAt w → BkAt w B p N G → gl.length ≤ c0 → c0 ≤ 9223372036854775807 → (0 < gl.length → ∃ b o, a0 = some ⟨b, o, none⟩ ∧ IntsAt w b o gl) → (0 < C.length → ∃ b o, a1 = some ⟨b, o, none⟩ ∧ SpotsAt w b o C) →
        Calls Tryz.prog 36 #[.pointer (some ⟨p, 0, none⟩), .slice a0 gl.length c0, .slice a1 C.length c1] w fun e w' => e = .returned (.tuple #[spV V, errV E]) ∧ Below w.heap.size w w') ∧
      (∀ (B p : Nat) (a0 a1 : Option Addr) (c0 c1 : Nat) (w : World), FarAt w → BkAt w B p N G → (0 < gl.length → ∃ b o, a0 = some ⟨b, o, none⟩ ∧ IntsAt w b o gl) → (0 < C.length → ∃ b o, a1 = some ⟨b, o, none⟩ ∧ SpotsAt w b o C) →
        Calls Tryz.prog 64 #[.pointer (some ⟨p, 0, none⟩), .slice a0 gl.length c0, .slice a1 C.length c1] w fun e w' => e = .returned (.tuple #[spV V, .int .i64 E]) ∧ Below w.heap.size w w') := by
  obtain ⟨EC, hM, hC⟩ := coins_out C hCl
  obtain ⟨kk, k1, k2, k3⟩ := first_no (fun i => ∀ h : i < gl.length, gErrB G (gl.take i) gl[i] = 0) gl.length
  have hsm : ∀ (a1 : Option Addr) (w : World), (0 < C.length → ∃ b o, a1 = some ⟨b, o, none⟩ ∧ SpotsAt w b o C) → ∀ w1, Below w.heap.size w w1 → (0 < C.length → ∃ b o, a1 = some ⟨b, o, none⟩ ∧ SpotsAt w1 b o C) := fun a1 w h w1 hb h0 => by obtain ⟨b, o, e, hs⟩ := h h0; exact ⟨b, o, e, hs.below hb⟩
  by_cases hk : kk < gl.length
  · obtain ⟨E, hE⟩ : ∃ E, gErrB G (gl.take kk) gl[kk] = E := ⟨_, rfl⟩
    have hE0 : E ≠ 0 := fun h => k3 hk (fun _ => hE.trans h)
    refine ⟨⟨0, 0, false⟩, E, fun h => absurd h hE0, fun _ => rfl, fun B p a0 a1 c0 c1 w hF hB g0 g1 hi hs => ?_, fun B p a0 a1 c0 c1 w hF hB hi hs => ?_⟩
    · rw [errVB_ne hE0]
      exact bex_core N G B p gl C a0 a1 c0 c1 kk E (errV EC) _ w hF hB hN hgl g0 g1 hi hs hCl k1 (fun i h hi => k2 i hi h) (fun _ => ⟨hE, hE0⟩) (Lib.hid fun w1 hb => (hC a1 c1 w1 (hF.below hb) (hsm a1 w hs w1 hb)).1) (Lib.hid fun _ => rfl) (Lib.hid fun h => by omega)
    · exact rbex_core N G B p gl C a0 a1 c0 c1 kk E EC _ w hB hN hgl hi hs hCl k1 (fun i h hi => k2 i hi h) (fun _ => ⟨hE, hE0⟩) (Lib.hid fun w1 hb => (hC a1 c1 w1 (hF.below hb) (hsm a1 w hs w1 hb)).2) (Lib.hid fun _ => rfl) (Lib.hid fun h => by omega)
  · obtain rfl : kk = gl.length := by omega
    by_cases hEC : EC = 0
    · subst hEC
      obtain ⟨M, hM1, hM2⟩ := hM rfl
      refine ⟨qS (outN N gl + M.sum), 0, fun _ => ⟨M, hM1, hM2, rfl, fun g hg => ?_, nodup_gErr (G := G) fun i hi => k2 i hi hi⟩, fun h => absurd rfl h, fun B p a0 a1 c0 c1 w hF hB g0 g1 hi hs => ?_, fun B p a0 a1 c0 c1 w hF hB hi hs => ?_⟩
      · obtain ⟨i, hi, rfl⟩ := List.getElem_of_mem hg
        have := gErrB_0 (k2 i hi hi)
        rw [hG] at this; exact this
      · exact bex_core N G B p gl C a0 a1 c0 c1 gl.length 0 (errV 0) _ w hF hB hN hgl g0 g1 hi hs hCl k1 (fun i h hi => k2 i hi h) (fun h => absurd h (Nat.lt_irrefl _)) (Lib.hid fun w1 hb => (hC a1 c1 w1 (hF.below hb) (hsm a1 w hs w1 hb)).1) (Lib.hid fun h => absurd h (Nat.lt_irrefl _)) (Lib.hid fun _ => .inr ⟨rfl, M, hM2, rfl⟩)
      · exact rbex_core N G B p gl C a0 a1 c0 c1 gl.length 0 0 _ w hB hN hgl hi hs hCl k1 (fun i h hi => k2 i hi h) (fun h => absurd h (Nat.lt_irrefl _)) (Lib.hid fun w1 hb => (hC a1 c1 w1 (hF.below hb) (hsm a1 w hs w1 hb)).2) (Lib.hid fun h => absurd h (Nat.lt_irrefl _)) (Lib.hid fun _ => .inr ⟨rfl, M, hM1, hM2, rfl⟩)
    · refine ⟨⟨0, 0, false⟩, EC, fun h => absurd h hEC, fun _ => rfl, fun B p a0 a1 c0 c1 w hF hB g0 g1 hi hs => ?_, fun B p a0 a1 c0 c1 w hF hB hi hs => ?_⟩
      · exact bex_core N G B p gl C a0 a1 c0 c1 gl.length 0 (errV EC) _ w hF hB hN hgl g0 g1 hi hs hCl k1 (fun i h hi => k2 i hi h) (fun h => absurd h (Nat.lt_irrefl _)) (Lib.hid fun w1 hb => (hC a1 c1 w1 (hF.below hb) (hsm a1 w hs w1 hb)).1) (Lib.hid fun h => absurd h (Nat.lt_irrefl _)) (Lib.hid fun _ => .inl ⟨EC, errVB_ne hEC, rfl⟩)
      · exact rbex_core N G B p gl C a0 a1 c0 c1 gl.length 0 EC _ w hB hN hgl hi hs hCl k1 (fun i h hi => k2 i hi h) (fun h => absurd h (Nat.lt_irrefl _)) (Lib.hid fun w1 hb => (hC a1 c1 w1 (hF.below hb) (hsm a1 w hs w1 hb)).2) (Lib.hid fun h => absurd h (Nat.lt_irrefl _)) (Lib.hid fun _ => .inl ⟨by simpa using hEC, rfl⟩)
set_option maxHeartbeats 4000000 in
theorem do_out2 (N : List Int) (G : List Bool) (gl : List Int) (C : List Sp) (RS : Sp) (s : Int) (hG : G.length = N.length) (hN : N.length ≤ 1000) (hgl : gl.length ≤ 9223372036854775807) (hCl : C.length ≤ 9223372036854775807) :
    ∃ (E : Int) (N' : List Int) (G' : List Bool), N'.length ≤ 1000 ∧ G'.length = N'.length ∧
      (E ≠ 0 → N' = N ∧ G' = G) ∧ (E = 0 → ∃ Q : List Int, Q.length ≤ 12 ∧ C = Q.map qS ∧ N' = N ++ Q ∧ G' = goneL G gl ++ List.replicate Q.length false ∧ (∀ g ∈ gl, 0 ≤ g ∧ g < N.length) ∧ gl.Nodup ∧ Ok RS ∧ 0 ≤ s ∧ s < 1013 ∧ N.length + Q.length ≤ 1000) ∧
      (∀ (B p : Nat) (vc vg : Value) (a0 a1 : Option Addr) (c0 c1 : Nat) (w : World), FarAt w → BkV w B p vc vg N G → B ≤ w.heap.size → gl.length ≤ c0 → c0 ≤ 9223372036854775807 → Lies w p vc vg a0 a1 gl C →
        Calls Tryz.prog 38 #[.pointer (some ⟨p, 0, none⟩), dlV (.slice a0 gl.length c0) (.slice a1 C.length c1) RS s] w fun e w' => e = .returned (errV E) ∧ Did w w' B p vc vg N' G') ∧
      (∀ (B p : Nat) (vc vg : Value) (a0 a1 : Option Addr) (c0 c1 : Nat) (w : World), FarAt w → BkV w B p vc vg N G → B ≤ w.heap.size → Lies w p vc vg a0 a1 gl C →
        Calls Tryz.prog 28 #[.pointer (some ⟨p, 0, none⟩), dlV (.slice a0 gl.length c0) (.slice a1 C.length c1) RS s] w fun e w' => e = .returned (.int .i64 E) ∧ Did w w' B p vc vg N' G') := by
  obtain ⟨V, E, h0, hne, hP, hD⟩ := ex_out2 N G gl C hG (by omega) hgl hCl
  have sm : ∀ (p : Nat) (vc vg : Value) (a0 a1 : Option Addr) (w w1 : World), Lies w p vc vg a0 a1 gl C → Below w.heap.size w w1 → (0 < gl.length → ∃ b o, a0 = some ⟨b, o, none⟩ ∧ IntsAt w1 b o gl) ∧ (0 < C.length → ∃ b o, a1 = some ⟨b, o, none⟩ ∧ SpotsAt w1 b o C) := fun p vc vg a0 a1 w w1 h hb =>
    ⟨fun h1 => by obtain ⟨b, o, e, hs, -⟩ := h.g h1; exact ⟨b, o, e, hs.below hb⟩, fun h1 => by obtain ⟨b, o, e, hs, -⟩ := h.n h1; exact ⟨b, o, e, hs.below hb⟩⟩
  have exP : ∀ (B p : Nat) (vc vg : Value) (a0 a1 : Option Addr) (c0 c1 : Nat) (w : World), FarAt w → BkV w B p vc vg N G → gl.length ≤ c0 → c0 ≤ 9223372036854775807 → Lies w p vc vg a0 a1 gl C → ∀ w1 : World, Below w.heap.size w w1 → Calls Tryz.prog 36 #[.pointer (some ⟨p, 0, none⟩), .slice a0 gl.length c0, .slice a1 C.length c1] w1 fun e w' => e = .returned (.tuple #[spV V, errV E]) ∧ Below w1.heap.size w1 w' :=
    fun B p vc vg a0 a1 c0 c1 w hF hv g0 g1 hl w1 hb => hP B p a0 a1 c0 c1 w1 (hF.below hb) ⟨_, _, hv.below hb⟩ g0 g1 (sm p vc vg a0 a1 w w1 hl hb).1 (sm p vc vg a0 a1 w w1 hl hb).2
  have exD : ∀ (B p : Nat) (vc vg : Value) (a0 a1 : Option Addr) (c0 c1 : Nat) (w : World), FarAt w → BkV w B p vc vg N G → Lies w p vc vg a0 a1 gl C → ∀ w1 : World, Below w.heap.size w w1 → Calls Tryz.prog 64 #[.pointer (some ⟨p, 0, none⟩), .slice a0 gl.length c0, .slice a1 C.length c1] w1 fun e w' => e = .returned (.tuple #[spV V, .int .i64 E]) ∧ Below w1.heap.size w1 w' :=
    fun B p vc vg a0 a1 c0 c1 w hF hv hl w1 hb => hD B p a0 a1 c0 c1 w1 (hF.below hb) ⟨_, _, hv.below hb⟩ (sm p vc vg a0 a1 w w1 hl hb).1 (sm p vc vg a0 a1 w w1 hl hb).2
  by_cases hE : E = 0
  · subst hE
    obtain ⟨M, hM1, rfl, rfl, hin, hnd⟩ := h0 rfl
    have hl : (M.map qS).length = M.length := List.length_map _
    have refuse : ∀ E : Int, E ≠ 0 → ((1000 < N.length + M.length ∧ E = 4) ∨ (N.length + M.length ≤ 1000 ∧ ((¬ (0 ≤ s ∧ s < 1013) ∧ E = 1) ∨ ((0 ≤ s ∧ s < 1013) ∧ ((sCheck RS = E ∧ E ≠ 0) ∨ (Ok RS ∧ E = 8 ∧ Sp.beq (sq (4 * hJ * s)) (sSum RS (sq (4 * (outN N gl + M.sum) * bAsk RS (qS (outN N gl + M.sum))))) = false)))))) →
        ∃ (E : Int) (N' : List Int) (G' : List Bool), N'.length ≤ 1000 ∧ G'.length = N'.length ∧
      (E ≠ 0 → N' = N ∧ G' = G) ∧ (E = 0 → ∃ Q : List Int, Q.length ≤ 12 ∧ M.map qS = Q.map qS ∧ N' = N ++ Q ∧ G' = goneL G gl ++ List.replicate Q.length false ∧ (∀ g ∈ gl, 0 ≤ g ∧ g < N.length) ∧ gl.Nodup ∧ Ok RS ∧ 0 ≤ s ∧ s < 1013 ∧ N.length + Q.length ≤ 1000) ∧
      (∀ (B p : Nat) (vc vg : Value) (a0 a1 : Option Addr) (c0 c1 : Nat) (w : World), FarAt w → BkV w B p vc vg N G → B ≤ w.heap.size → gl.length ≤ c0 → c0 ≤ 9223372036854775807 → Lies w p vc vg a0 a1 gl (M.map qS) →
        Calls Tryz.prog 38 #[.pointer (some ⟨p, 0, none⟩), dlV (.slice a0 gl.length c0) (.slice a1 (M.map qS).length c1) RS s] w fun e w' => e = .returned (errV E) ∧ Did w w' B p vc vg N' G') ∧
      (∀ (B p : Nat) (vc vg : Value) (a0 a1 : Option Addr) (c0 c1 : Nat) (w : World), FarAt w → BkV w B p vc vg N G → B ≤ w.heap.size → Lies w p vc vg a0 a1 gl (M.map qS) →
        Calls Tryz.prog 28 #[.pointer (some ⟨p, 0, none⟩), dlV (.slice a0 gl.length c0) (.slice a1 (M.map qS).length c1) RS s] w fun e w' => e = .returned (.int .i64 E) ∧ Did w w' B p vc vg N' G') := fun E hE hR => by
      refine ⟨E, N, G, hN, hG, fun _ => ⟨rfl, rfl⟩, fun h => absurd h hE, fun B p vc vg a0 a1 c0 c1 w hF hv hB g0 g1 hli => ?_, fun B p vc vg a0 a1 c0 c1 w hF hv hB hli => ?_⟩
      · rw [errVB_ne hE]
        exact (bdo_n N G B p a0 a1 gl.length (M.map qS).length c0 c1 RS s _ (outN N gl + M.sum) E _ w hF ⟨_, _, hv⟩ (by omega) (by omega) (Lib.hid rfl) (Lib.hid (exP B p vc vg a0 a1 c0 c1 w hF hv g0 g1 hli)) (Lib.hid (.inr ⟨rfl, by rw [hl]; exact hR⟩))).mono fun e w' ⟨h1, h2⟩ => ⟨h1, did_same hv h2⟩
      · exact (rbdo_n N G B p a0 a1 gl.length (M.map qS).length c0 c1 RS s _ (outN N gl + M.sum) E _ w hF ⟨_, _, hv⟩ (by omega) (by omega) (Lib.hid rfl) (Lib.hid (exD B p vc vg a0 a1 c0 c1 w hF hv hli)) (Lib.hid (.inr ⟨rfl, by rw [hl]; exact hR⟩))).mono fun e w' ⟨h1, h2⟩ => ⟨h1, did_same hv h2⟩
    by_cases hm : N.length + M.length ≤ 1000
    case neg => exact refuse 4 (by decide) (.inl ⟨by omega, rfl⟩)
    by_cases hs : 0 ≤ s ∧ s < 1013
    case neg => exact refuse 1 (by decide) (.inr ⟨hm, .inl ⟨hs, rfl⟩⟩)
    by_cases hr : sCheck RS = 0
    case neg => exact refuse _ hr (.inr ⟨hm, .inr ⟨hs, .inl ⟨rfl, hr⟩⟩⟩)
    have oR : Ok RS := (ok_iff RS).mp hr
    cases hq : Sp.beq (sq (4 * hJ * s)) (sSum RS (sq (4 * (outN N gl + M.sum) * bAsk RS (qS (outN N gl + M.sum)))))
    case false => exact refuse 8 (by decide) (.inr ⟨hm, .inr ⟨hs, .inr ⟨oR, rfl, hq⟩⟩⟩)
    refine ⟨0, N ++ M, goneL G gl ++ List.replicate M.length false, by rw [List.length_append]; exact hm, by rw [List.length_append, List.length_append, goneL_len, List.length_replicate, hG], fun h => absurd rfl h, fun _ => ⟨M, hM1, rfl, rfl, rfl, hin, hnd, oR, hs.1, hs.2, hm⟩, fun B p vc vg a0 a1 c0 c1 w hF hv hB g0 g1 hli => ?_, fun B p vc vg a0 a1 c0 c1 w hF hv hB hli => ?_⟩
    · have hex := exP B p vc vg a0 a1 c0 c1 w hF hv g0 g1 hli
      have hn := hli.n
      rw [hl] at hex ⊢
      exact bdo_y N M G B p vc vg gl [] a0 a1 c0 c1 RS s _ (outN N gl + M.sum) w hF hv hB hN (Lib.hid rfl) hgl hli.g hn hin (Lib.hid hex) hm hs.1 hs.2 oR (Lib.hid hq)
    · have hex := exD B p vc vg a0 a1 c0 c1 w hF hv hli
      have hn := hli.n
      rw [hl] at hex ⊢
      exact rbdo_y N M G B p vc vg gl a0 a1 gl.length M.length c0 c1 RS s _ (outN N gl + M.sum) w hF hv hB hN (Lib.hid rfl) rfl rfl hgl hli.g hn hin (Lib.hid hex) hm hs.1 hs.2 oR (Lib.hid hq)
  · obtain rfl := hne hE
    rw [errVB_ne hE] at exP
    refine ⟨E, N, G, hN, hG, fun _ => ⟨rfl, rfl⟩, fun h => absurd h hE, fun B p vc vg a0 a1 c0 c1 w hF hv hB g0 g1 hli => ?_, fun B p vc vg a0 a1 c0 c1 w hF hv hB hli => ?_⟩
    · rw [errVB_ne hE]
      exact (bdo_e p a0 a1 gl.length C.length c0 c1 RS s E w (Lib.hid (exP B p vc vg a0 a1 c0 c1 w hF hv g0 g1 hli))).mono fun e w' ⟨h1, h2⟩ => ⟨h1, did_same hv h2⟩
    · exact (rbdo_e p a0 a1 gl.length C.length c0 c1 RS s E w (by simpa using hE) (Lib.hid (exD B p vc vg a0 a1 c0 c1 w hF hv hli))).mono fun e w' ⟨h1, h2⟩ => ⟨h1, did_same hv h2⟩
end Go.Proofs.YtahgaccdeakmcaaGreatDoor
namespace Go.Proofs.YtahgaccdeakmcaaGreatDoor
open Go.RowKit
set_option maxRecDepth 100000
set_option linter.unusedVariables false
set_option linter.unusedSimpArgs false
theorem nodup_len : ∀ (n : Nat) (l : List Int), l.Nodup → (∀ g ∈ l, 0 ≤ g ∧ g < (n : Int)) → l.length ≤ n
  | 0, l, _, h => by
    cases l with
    | nil => exact Nat.le_refl _
    | cons a l => have := h a List.mem_cons_self; omega
  | n + 1, l, hd, h => by
    by_cases hm : (n : Int) ∈ l
    · have h1 := nodup_len n (l.erase (n : Int)) (hd.erase _) (fun g hg => by
        have h2 := h g (List.mem_of_mem_erase hg)
        have h3 : g ≠ (n : Int) := fun e => by
          rw [e] at hg
          exact (List.Nodup.not_mem_erase hd) hg
        omega)
      rw [List.length_erase_of_mem hm] at h1
      omega
    · have h1 := nodup_len n l hd (fun g hg => by
        have h2 := h g hg
        have h3 : g ≠ (n : Int) := fun e => hm (e ▸ hg)
        omega)
      omega
theorem toNat_all : ∀ (l : List Int), (∀ g ∈ l, 0 ≤ g) → (l.map Int.toNat).map (fun n : Nat => (n : Int)) = l
  | [], _ => rfl
  | a :: l, h => by
    have h1 := h a List.mem_cons_self
    rw [List.map_cons, List.map_cons, toNat_all l (fun g hg => h g (List.mem_cons_of_mem _ hg))]
    congr 1
    omega
/-- A deal that is done, as a record. -/
theorem rec_of (N : List Int) (G : List Bool) (gl : List Int) (C : List Sp) (RS : Sp) (s : Int) (N' : List Int) (G' : List Bool) (hN0 : N.length ≤ 1000)
    (h : ∃ Q : List Int, Q.length ≤ 12 ∧ C = Q.map qS ∧ N' = N ++ Q ∧ G' = goneL G gl ++ List.replicate Q.length false ∧ (∀ g ∈ gl, 0 ≤ g ∧ g < N.length) ∧ gl.Nodup ∧ Ok RS ∧ 0 ≤ s ∧ s < 1013 ∧ N.length + Q.length ≤ 1000)
    (hD : ∀ (B p : Nat) (vc vg : Value) (a0 a1 : Option Addr) (c0 c1 : Nat) (w : World), FarAt w → BkV w B p vc vg N G → B ≤ w.heap.size → gl.length ≤ c0 → c0 ≤ 9223372036854775807 → Lies w p vc vg a0 a1 gl C →
        Calls Tryz.prog 38 #[.pointer (some ⟨p, 0, none⟩), dlV (.slice a0 gl.length c0) (.slice a1 C.length c1) RS s] w fun e w' => e = .returned .nilIface ∧ Did w w' B p vc vg N' G') :
    ∃ d : Rec, Done N G d ∧ d.G = gl ∧ d.M.map qS = C ∧ d.R = RS ∧ (d.s : Int) = s ∧ N' = N ++ d.M ∧ G' = stepG G d := by
  obtain ⟨Q, q12, rfl, rfl, rfl, hin, hnd, oR, s0, s1, hm⟩ := h
  have hg : (gl.map Int.toNat).map (fun n : Nat => (n : Int)) = gl := toNat_all gl (fun g h => (hin g h).1)
  have hl := nodup_len N.length gl hnd (fun g h => hin g h)
  have hs : ((s.toNat : Nat) : Int) = s := by omega
  have hst : stepG G ⟨gl.map Int.toNat, Q, RS, s.toNat⟩ = goneL G gl ++ List.replicate Q.length false := by
    unfold stepG Rec.G; rw [hg]
  refine ⟨⟨gl.map Int.toNat, Q, RS, s.toNat⟩, ⟨⟨by rw [List.length_map]; omega, fun g hgm => ?_, q12, oR, by show s.toNat < 1013; omega⟩, hm, fun B p vc vg a0 a1 c0 c1 w hF hv hB g0 g1 hli => ?_⟩, hg, rfl, rfl, hs, rfl, hst.symm⟩
  · obtain ⟨x, hx, rfl⟩ := List.mem_map.mp hgm
    have := hin x hx; omega
  · have e1 : (gl.map Int.toNat).length = gl.length := List.length_map _
    have e2 : (Q.map qS).length = Q.length := List.length_map _
    have hli' : Lies w p vc vg a0 a1 gl (Q.map qS) := by
      have := hli
      unfold Rec.G at this
      rw [hg] at this
      exact this
    have := hD B p vc vg a0 a1 c0 c1 w hF hv hB (by rw [← e1]; exact g0) g1 hli'
    rw [e2] at this
    show Calls _ _ #[_, dlV (.slice a0 (gl.map Int.toNat).length c0) (.slice a1 Q.length c1) RS ((s.toNat : Nat) : Int)] _ _
    rw [e1, hs, hst]
    exact this
theorem LgP.grow {M0 : List Int} {s : LgS} (h : LgP M0 s) (hs : s.st = false) {d : Rec} (hd : RecOk d) : s.bytes.length + 2 ≤ (s.done d).bytes.length ∧ (s.done d).bytes = (recsB (s.done d).ds).flatten := by
  have h1 := h.bytes0 hs
  have h2 : (s.done d).bytes = (recsB (s.done d).ds).flatten := by unfold LgS.bytes; exact List.append_nil _
  refine ⟨?_, h2⟩
  rw [h2, h1]
  show _ ≤ (recsB (s.ds ++ [d])).flatten.length
  rw [recsB_snoc, List.length_append]
  have := hd.len.1
  omega
/-- Any deal. -/
theorem lk_do (M0 : List Int) (s : LgS) (hP : LgP M0 s) (hn : s.ds.length < 500) (d : DealR) (g0 : d.G.length ≤ d.cg) (g1 : d.cg ≤ 9223372036854775807) (n1 : d.C.length ≤ 9223372036854775807) :
    ∃ (E E2 : Int) (s' : LgS) (N' : List Int) (G' : List Bool), LgP M0 s' ∧ s'.ds.length ≤ s.ds.length + 1 ∧
      ((E2 = 0 ∧ E = 0 ∧ (∃ r, s'.ds = s.ds ++ [r]) ∧ N' = stN M0 s'.ds ∧ G' = stG M0 s'.ds ∧ s.bytes.length + 2 ≤ s'.bytes.length ∧ s'.bytes = (recsB s'.ds).flatten) ∨ (E2 ≠ 0 ∧ s'.ds = s.ds ∧ (E2 = 6 ∨ E2 = E))) ∧
      (∀ (B p : Nat) (vc vg : Value) (w : World), FarAt w → BkV w B p vc vg (stN M0 s.ds) (stG M0 s.ds) → B ≤ w.heap.size → Lies w p vc vg d.ag d.an d.G d.C →
        Calls Tryz.prog 28 #[.pointer (some ⟨p, 0, none⟩), dlV (.slice d.ag d.G.length d.cg) (.slice d.an d.C.length d.cn) d.r d.s] w fun e w' => e = .returned (.int .i64 E) ∧ Did w w' B p vc vg N' G') ∧
      (∀ (B q : Nat) (h : LgH) (w : World), LgV w B q M0 h s → B ≤ w.heap.size → Glo B w → DealOk w d → (0 < d.G.length → ∀ b o, d.ag = some ⟨b, o, none⟩ → ¬ inL M0 q h b) → (0 < d.C.length → ∀ b o, d.an = some ⟨b, o, none⟩ → ¬ inL M0 q h b) →
        Calls Tryz.prog 18 #[.pointer (some ⟨q, 0, none⟩), dlV (.slice d.ag d.G.length d.cg) (.slice d.an d.C.length d.cn) d.r d.s] w fun e w' => e = .returned (errV E2) ∧ LgDid w w' B q M0 h s') := by
  have hN := hP.all.bound hP.m
  obtain ⟨E, N', G', hN', hG', hne, h0, dP, dD⟩ := do_out2 (stN M0 s.ds) (stG M0 s.ds) d.G d.C d.r d.s (stG_len _ _) hN (by omega) n1
  have dD' := fun (B p : Nat) (vc vg : Value) (w : World) hF hv hB hL => dD B p vc vg d.ag d.an d.cg d.cn w hF hv hB hL
  have lie : ∀ (B q : Nat) (h : LgH) (w : World), LgV w B q M0 h s → DealOk w d → (0 < d.G.length → ∀ b o, d.ag = some ⟨b, o, none⟩ → ¬ inL M0 q h b) → (0 < d.C.length → ∀ b o, d.an = some ⟨b, o, none⟩ → ¬ inL M0 q h b) → ∀ w1, Below w.heap.size w w1 → Lies w1 h.p h.vc h.vg d.ag d.an d.G d.C := fun B q h w v ok ha hb w1 hw =>
    ⟨fun h1 => by obtain ⟨b, o, e, hs⟩ := ok.gi h1; exact ⟨b, o, e, hs.below hw, fun hi => ha h1 b o e (.inr (.inr hi))⟩, fun h1 => by obtain ⟨b, o, e, hs⟩ := ok.ni h1; exact ⟨b, o, e, hs.below hw, fun hi => hb h1 b o e (.inr (.inr hi))⟩⟩
  cases hst : s.st
  case true =>
    refine ⟨E, 6, s, N', G', hP, Nat.le_succ _, .inr ⟨by decide, rfl, .inl rfl⟩, dD', fun B q h w v hB hg ok ha hb => ?_⟩
    exact (v.do_st hst d.ag d.an d.G.length d.C.length d.cg d.cn d.r d.s).mono fun e w' ⟨e1, e2⟩ => ⟨e1, LgDid.same v e2⟩
  case false =>
  by_cases hE : E = 0
  case neg =>
    obtain ⟨rfl, rfl⟩ := hne hE
    refine ⟨E, E, s, _, _, hP, Nat.le_succ _, .inr ⟨hE, rfl, .inr rfl⟩, dD', fun B q h w v hB hg ok ha hb => ?_⟩
    exact v.do_no hst d.ag d.an d.G.length d.C.length d.cg d.cn d.r d.s E hE (fun w1 hw => dP B h.p h.vc h.vg d.ag d.an d.cg d.cn w1 (hg w1 (hw.mono hB)).1 (v.bk.below hw) (Nat.le_trans hB hw.size) g0 g1 (lie B q h w v ok ha hb w1 hw))
  case pos =>
  subst hE
  obtain ⟨r, hr, rG, rC, rR, rs, rfl, rfl⟩ := rec_of _ _ _ _ _ _ _ _ hN (h0 rfl) (fun B p vc vg a0 a1 c0 c1 w hF hv hB k0 k1 hL => dP B p vc vg a0 a1 c0 c1 w hF hv hB k0 k1 hL)
  have l1 : r.gl.length = d.G.length := by rw [← rG]; unfold Rec.G; rw [List.length_map]
  have l2 : r.M.length = d.C.length := by rw [← rC, List.length_map]
  have run : ∀ (B q : Nat) (h : LgH) (w : World), LgV w B q M0 h s → B ≤ w.heap.size → Glo B w → DealOk w d → (0 < d.G.length → ∀ b o, d.ag = some ⟨b, o, none⟩ → ¬ inL M0 q h b) → (0 < d.C.length → ∀ b o, d.an = some ⟨b, o, none⟩ → ¬ inL M0 q h b) → ∀ w1, Below w.heap.size w w1 → Calls Tryz.prog 38 #[.pointer (some ⟨h.p, 0, none⟩), dlV (.slice d.ag r.gl.length d.cg) (.slice d.an r.M.length d.cn) r.R (r.s : Int)] w1 fun e w' => e = .returned .nilIface ∧ Did w1 w' B h.p h.vc h.vg (stN M0 (s.ds ++ [r])) (stG M0 (s.ds ++ [r])) := fun B q h w v hB hg ok ha hb w1 hw => by
    rw [stN_snoc, stG_snoc]
    exact hr.run B h.p h.vc h.vg d.ag d.an d.cg d.cn w1 (hg w1 (hw.mono hB)).1 (v.bk.below hw) (Nat.le_trans hB hw.size) (by rw [l1]; exact g0) g1 (by rw [rG, rC]; exact lie B q h w v ok ha hb w1 hw)
  have arg : ∀ (B q : Nat) (h : LgH) (w : World), DealOk w d → (0 < d.C.length → ∀ b o, d.an = some ⟨b, o, none⟩ → ¬ inL M0 q h b) → IntSl w (.slice d.ag r.gl.length d.cg) r.G ∧ (0 < r.M.length → ∃ b o, d.an = some ⟨b, o, none⟩ ∧ SpotsAt w b o (r.M.map qS) ∧ ¬ inL M0 q h b) := fun B q h w ok hb => by
    refine ⟨⟨d.ag, d.cg, by unfold Rec.G; rw [List.length_map], fun h1 => by rw [rG] at h1 ⊢; exact ok.gi h1⟩, fun h1 => ?_⟩
    rw [l2] at h1
    obtain ⟨b, o, e, hs⟩ := ok.ni h1
    exact ⟨b, o, e, by rw [rC]; exact hs, hb h1 b o e⟩
  have hgr := hP.grow hst hr.ok
  by_cases hlf : s.lf = 0
  case pos =>
    refine ⟨0, 6, s.halt r, _, _, hP.halt hst hr.ok, Nat.le_succ _, .inr ⟨by decide, rfl, .inl rfl⟩, dD', fun B q h w v hB hg ok ha hb => ?_⟩
    have := v.do_0 hP hB hg hst r hr d.ag d.an d.cg d.cn (arg B q h w ok hb).1 (fun hz => ha (by rw [← l1]; exact hz)) (arg B q h w ok hb).2 (run B q h w v hB hg ok ha hb) hlf
    rw [l1, l2, rR, rs] at this
    exact this
  case neg =>
    refine ⟨0, 0, s.done r, _, _, hP.done hst hn hr, by show (s.ds ++ [r]).length ≤ _; simp, .inl ⟨rfl, rfl, ⟨r, rfl⟩, (stN_snoc _ _ _).symm, (stG_snoc _ _ _).symm, hgr.1, hgr.2⟩, dD', fun B q h w v hB hg ok ha hb => ?_⟩
    have := v.do_y hP hB hg hst r hr d.ag d.an d.cg d.cn (arg B q h w ok hb).1 (fun hz => ha (by rw [← l1]; exact hz)) (arg B q h w ok hb).2 (run B q h w v hB hg ok ha hb) hlf
    rw [l1, l2, rR, rs] at this
    exact this
/-- A sync. -/
theorem lk_sync (M0 : List Int) (s : LgS) (hP : LgP M0 s) : ∃ (E : Int) (s' : LgS), LgP M0 s' ∧ s'.ds = s.ds ∧ (E = 0 → s'.sf = (s'.bytes.length : Int)) ∧
    ∀ (B q : Nat) (h : LgH) (w : World), LgV w B q M0 h s → Calls Tryz.prog 20 #[.pointer (some ⟨q, 0, none⟩)] w fun e w' => e = .returned (errV E) ∧ LgDid w w' B q M0 h s' := by
  have hl := dec1_bd hP.l0 hP.l1
  cases hst : s.st
  case true => exact ⟨6, s, hP, rfl, fun h => absurd h (by decide), fun B q h w v => v.sync_st hst⟩
  case false =>
  by_cases hlf : s.lf = 0
  · exact ⟨6, { s with lf := dec1 s.lf, st := true }, hP.nums s.sf _ true (fun e => by cases e) hP.s0 hP.s1 hl.1 hl.2, rfl, fun h => absurd h (by decide), fun B q h w v => v.sync_0 hP hst hlf⟩
  · exact ⟨0, { s with sf := (s.bytes.length : Int), lf := dec1 s.lf, st := false }, hP.nums _ _ false (fun _ => hst) (Int.natCast_nonneg _) (Int.le_refl _) hl.1 hl.2, rfl, fun _ => rfl, fun B q h w v => v.sync_1 hP hst hlf⟩
end Go.Proofs.YtahgaccdeakmcaaGreatDoor
namespace Go.Proofs.YtahgaccdeakmcaaGreatDoor
open Go.RowKit
set_option maxRecDepth 100000
set_option linter.unusedVariables false
set_option linter.unusedSimpArgs false
/-- A seal that lies in a block. -/
structure SeAt (w : World) (b : Nat) (s : Sp) (z : Int) : Prop where
  c0 : w.cell? ⟨b, 0, none⟩ = some (.int .i64 s.x)
  c1 : w.cell? ⟨b, 1, none⟩ = some (.int .i64 s.y)
  c2 : w.cell? ⟨b, 2, none⟩ = some (.bool s.far)
  c3 : w.cell? ⟨b, 3, none⟩ = some (.int .i64 z)
  f0 : w.frozen? ⟨b, 0, none⟩ = false
  f1 : w.frozen? ⟨b, 1, none⟩ = false
  f2 : w.frozen? ⟨b, 2, none⟩ = false
  f3 : w.frozen? ⟨b, 3, none⟩ = false
  lt : b < w.heap.size
theorem SeAt.below {w w' : World} {b : Nat} {s : Sp} {z : Int} (h : SeAt w b s z) (hb : Below w.heap.size w w') : SeAt w' b s z :=
  ⟨((bcell hb).1 _ _ h.lt).trans h.c0, ((bcell hb).1 _ _ h.lt).trans h.c1, ((bcell hb).1 _ _ h.lt).trans h.c2, ((bcell hb).1 _ _ h.lt).trans h.c3, ((bcell hb).2 _ _ h.lt).trans h.f0, ((bcell hb).2 _ _ h.lt).trans h.f1, ((bcell hb).2 _ _ h.lt).trans h.f2, ((bcell hb).2 _ _ h.lt).trans h.f3, Nat.lt_of_lt_of_le h.lt hb.size⟩
theorem SeAt.fresh (w : World) (x y : Int) (f : Bool) (z : Int) (t : TypeId) : SeAt (w.alloc (.cells #[.int .i64 x, .int .i64 y, .bool f, .int .i64 z] t)) w.heap.size ⟨x, y, f⟩ z := ⟨by simp, by simp, by simp, by simp, by simp, by simp, by simp, by simp, by simp⟩
theorem SeAt.drew {w : World} {b : Nat} {s : Sp} {z : Int} (h : SeAt w b s z) : SeAt w.drew b s z := ⟨h.c0, h.c1, h.c2, h.c3, h.f0, h.f1, h.f2, h.f3, h.lt⟩
theorem SeAt.alloc {w : World} {b : Nat} {s : Sp} {z : Int} (h : SeAt w b s z) (o : Obj) : SeAt (w.alloc o) b s z := h.below (below_alloc w o)
theorem SeAt.set4 {w : World} {b : Nat} {s : Sp} {z : Int} (h : SeAt w b s z) (v : Sp) (y : Int) : SeAt ((((w.setCell ⟨b, 0, none⟩ (.int .i64 v.x)).setCell ⟨b, 1, none⟩ (.int .i64 v.y)).setCell ⟨b, 2, none⟩ (.bool v.far)).setCell ⟨b, 3, none⟩ (.int .i64 y)) b v y := by
  obtain ⟨h0, h1, h2, h3, f0, f1, f2, f3, hl⟩ := h
  have k := set4_cell (x := .int .i64 v.x) (y := .int .i64 v.y) (z := .bool v.far) (p := .int .i64 y) h0 h1 h2 h3
  exact ⟨k.1, k.2.1, k.2.2.1, k.2.2.2, by simpa using f0, by simpa using f1, by simpa using f2, by simpa using f3, by simpa [World.setCell] using hl⟩
theorem SeAt.zero_of {w : World} {b : Nat} (h0 : w.cell? ⟨b, 0, none⟩ = some (.int .i64 0)) (h1 : w.cell? ⟨b, 1, none⟩ = some (.int .i64 0)) (h2 : w.cell? ⟨b, 2, none⟩ = some (.bool false)) (h3 : w.cell? ⟨b, 3, none⟩ = some (.int .i64 0)) (f0 : w.frozen? ⟨b, 0, none⟩ = false) (f1 : w.frozen? ⟨b, 1, none⟩ = false) (f2 : w.frozen? ⟨b, 2, none⟩ = false) (f3 : w.frozen? ⟨b, 3, none⟩ = false) (hl : b < w.heap.size) : SeAt w b ⟨0, 0, false⟩ 0 := ⟨h0, h1, h2, h3, f0, f1, f2, f3, hl⟩
theorem nocoin0 : NoCoin ⟨0, 0, false⟩ := by
  rcases coin_is ⟨0, 0, false⟩ with ⟨n, h⟩ | h
  · exfalso
    have h2 : sSum ⟨0, 0, false⟩ ⟨0, 0, false⟩ = ⟨0, 0, true⟩ := by rfl
    rw [h, qS_add] at h2
    have h3 : (qS (n + n)).far = true := by rw [h2]
    unfold qS at h3 h
    have h4 := sq_far.mp h3
    have h5 : (sq (4 * n)).far = true := sq_far.mpr (by omega)
    rw [← h] at h5
    exact Bool.noConfusion h5
  · exact h
/-- What is no spot makes no book. -/
theorem bnew_zero (v : Value) (w : World) (hF : FarAt w) (hv : SpSl w v [⟨0, 0, false⟩]) : Calls Tryz.prog 35 #[v] w fun e w' => e = .returned (.tuple #[.pointer none, .iface 94 (.int .i64 3)]) ∧ Below w.heap.size w w' := by
  obtain ⟨a, c, rfl, h⟩ := hv
  exact bnew_n 1 (.iface 94 (.int .i64 3)) a c w ⟨3, rfl⟩ (bcheck_core [⟨0, 0, false⟩] 0 _ a c w hF (by decide) h (Lib.hid fun k _ h => absurd h (Nat.not_lt_zero _)) (by decide) (Lib.hid fun _ => nocoin0) (Lib.hid fun _ => rfl) (Lib.hid fun h => absurd h (by decide)))
theorem bnew_one (n : Int) (A : Sp) (v : Value) (w : World) (hF : FarAt w) (hA : Hid (A = qS n)) (hv : SpSl w v [A]) : Calls Tryz.prog 35 #[v] w fun e w' => ∃ p, e = .returned (.tuple #[.pointer (some ⟨p, 0, none⟩), .nilIface]) ∧ BkAt w' w.heap.size p [n] [false] ∧ Below w.heap.size w w' := by
  rw [hA.out] at hv
  obtain ⟨a, c, rfl, h⟩ := hv
  exact bnew_y [n] a c w (by simp) hF h
theorem bcheck_one (y : Int) (TO : Sp) (b1 : Nat) (w : World) (hF : FarAt w) (hT : Hid (TO = qS y)) (h1 : SpotsAt w b1 0 [TO]) : Calls Tryz.prog 75 #[.slice (some ⟨b1, 0, none⟩) 1 1] w fun e w' => e = .returned .nilIface ∧ Below w.heap.size w w' :=
  bcheck_core [TO] 1 .nilIface _ 1 w hF (by simp) (fun _ => ⟨_, _, rfl, h1⟩) (Lib.hid fun k h _ => ⟨y, by obtain rfl : k = 0 := (by simp at h; omega); exact hT.out⟩) (by simp) (Lib.hid fun h => absurd h (by simp)) (Lib.hid fun h => absurd h (by simp)) (Lib.hid fun _ => rfl)
theorem bcheck_nil (w : World) (hF : FarAt w) : Calls Tryz.prog 75 #[.slice none 0 0] w fun e w' => e = .returned .nilIface ∧ Below w.heap.size w w' :=
  bcheck_core [] 0 .nilIface _ 0 w hF (by simp) (fun h => absurd h (by simp)) (Lib.hid fun k h _ => absurd h (Nat.not_lt_zero _)) (by simp) (Lib.hid fun h => absurd h (by simp)) (Lib.hid fun h => absurd h (by simp)) (Lib.hid fun _ => rfl)
theorem gErr_ok {G : List Bool} {n : Nat} (h : n < G.length) (hg : G.getD n true = false) : gErrB G [] (n : Int) = 0 := by
  unfold gErrB
  rw [if_neg (by omega), if_neg (by rw [Int.toNat_natCast, hg]; simp), if_neg (by simp)]
theorem gErr_gone {G : List Bool} {n : Nat} (h : n < G.length) (hg : G.getD n true = true) : gErrB G [] (n : Int) = 6 := by
  unfold gErrB
  rw [if_neg (by omega), if_pos (by rw [Int.toNat_natCast, hg])]
theorem bex_one (N : List Int) (G : List Bool) (B p n b0 b1 : Nat) (x y : Int) (TO X : Sp) (w : World) (hF : FarAt w) (hBk : BkAt w B p N G) (hNl : N.length ≤ 1000) (hl : n < G.length) (hg : Hid (G.getD n true = false)) (hx : Hid (N.getD n 0 = x)) (hT : Hid (TO = qS y)) (hX : Hid (qS (-x + y) = X)) (h0 : IntsAt w b0 0 [(n : Int)]) (h1 : SpotsAt w b1 0 [TO]) :
    Calls Tryz.prog 36 #[.pointer (some ⟨p, 0, none⟩), .slice (some ⟨b0, 0, none⟩) 1 1, .slice (some ⟨b1, 0, none⟩) 1 1] w fun e w' => e = .returned (.tuple #[spV X, .nilIface]) ∧ Below w.heap.size w w' := by
  refine bex_core N G B p [(n : Int)] [TO] _ _ 1 1 1 0 .nilIface _ w hF hBk (by omega) (by simp) (Nat.le_refl _) (by simp) (fun _ => ⟨_, _, rfl, h0⟩) (fun _ => ⟨_, _, rfl, h1⟩) (by simp) (Nat.le_refl _) (fun i h _ => ?_) (fun h => absurd h (Nat.lt_irrefl _)) (Lib.hid fun w1 hb => bcheck_one y TO b1 w1 (hF.below hb) hT (h1.below hb)) (Lib.hid fun h => absurd h (Nat.lt_irrefl _)) (Lib.hid fun _ => .inr ⟨rfl, [y], by rw [hT.out]; rfl, ?_⟩)
  · obtain rfl : i = 0 := by simp at h; omega
    exact gErr_ok hl hg.out
  · have : outN N [(n : Int)] + [y].sum = -x + y := by unfold outN; simp only [List.map_cons, List.map_nil, Int.toNat_natCast, hx.out, List.sum_cons, List.sum_nil]; omega
    rw [this, hX.out]
theorem bex_gone (N : List Int) (G : List Bool) (B p n b0 : Nat) (w : World) (hF : FarAt w) (hBk : BkAt w B p N G) (hNl : N.length ≤ 1000) (hl : n < G.length) (hg : Hid (G.getD n true = true)) (h0 : IntsAt w b0 0 [(n : Int)]) :
    Calls Tryz.prog 36 #[.pointer (some ⟨p, 0, none⟩), .slice (some ⟨b0, 0, none⟩) 1 1, .slice none 0 0] w fun e w' => e = .returned (.tuple #[spV ⟨0, 0, false⟩, .iface 94 (.int .i64 6)]) ∧ Below w.heap.size w w' :=
  bex_core N G B p [(n : Int)] [] _ _ 1 0 0 6 .nilIface _ w hF hBk (by omega) (by simp) (Nat.le_refl _) (by simp) (fun _ => ⟨_, _, rfl, h0⟩) (fun h => absurd h (by simp)) (by simp) (by simp) (fun i _ h => absurd h (Nat.not_lt_zero _)) (fun h => ⟨gErr_gone hl hg.out, by decide⟩) (Lib.hid fun w1 hb => bcheck_nil w1 (hF.below hb)) (Lib.hid fun _ => rfl) (Lib.hid fun h => absurd h (by simp))
theorem bdo_one (N : List Int) (G : List Bool) (B p n b0 b1 : Nat) (vc vg : Value) (x y : Int) (TO X RS : Sp) (s : Int) (w : World) (hF : FarAt w) (hBk : BkV w B p vc vg N G) (hB0 : B ≤ w.heap.size) (hNl : N.length ≤ 900) (hl : n < G.length) (hg : Hid (G.getD n true = false)) (hx : Hid (N.getD n 0 = x)) (hT : Hid (TO = qS y)) (hX : Hid (qS (-x + y) = X)) (h0 : IntsAt w b0 0 [(n : Int)]) (h1 : SpotsAt w b1 0 [TO]) (hn0 : ¬ inB p vc vg b0) (hn1 : ¬ inB p vc vg b1)
    (s0 : 0 ≤ s) (s1 : s < 1013) (oR : Ok RS) (hq : Hid (Sp.beq (sq (4 * hJ * s)) (sSum RS (sq (4 * (-x + y) * bAsk RS X))) = true)) :
    Calls Tryz.prog 38 #[.pointer (some ⟨p, 0, none⟩), dlV (.slice (some ⟨b0, 0, none⟩) 1 1) (.slice (some ⟨b1, 0, none⟩) 1 1) RS s] w fun e w' => e = .returned .nilIface ∧ Did w w' B p vc vg (N ++ [y]) (G.set n true ++ [false]) := by
  have := hBk.ln
  have h1' : SpotsAt w b1 0 ([y].map qS) := by rw [hT.out] at h1; exact h1
  have hb := bdo_y N [y] G B p vc vg [(n : Int)] [TO] (some ⟨b0, 0, none⟩) (some ⟨b1, 0, none⟩) 1 1 RS s X (-x + y) w hF hBk hB0 (by omega) (Lib.hid hX.out.symm) (by simp) (fun _ => ⟨_, _, rfl, h0, hn0⟩) (fun _ => ⟨_, _, rfl, h1', hn1⟩)
    (fun g hg => by rw [List.mem_singleton] at hg; omega) (Lib.hid fun w1 hb => bex_one N G B p n b0 b1 x y TO X w1 (hF.below hb) ⟨_, _, hBk.below hb⟩ (by omega) hl hg hx hT hX (h0.below hb) (h1.below hb)) (by simp; omega) s0 s1 oR hq
  exact hb
theorem blive_one (N : List Int) (G : List Bool) (B p m : Nat) (w : World) (hBk : BkAt w B p N G) (hN : N.length ≤ 1000) (hm : Hid (liveN G N.length = [(m : Int)])) :
    Calls Tryz.prog 70 #[.pointer (some ⟨p, 0, none⟩)] w fun e w' => ∃ b off cap, e = .returned (.slice (some ⟨b, off, none⟩) 1 cap) ∧ w'.cell? ⟨b, off, none⟩ = some (.int .i64 m) ∧ b < w'.heap.size ∧ Below w.heap.size w w' := by
  refine (blive_c N G B p w hBk (by omega)).mono ?_
  rintro e w' ⟨v, rfl, ho, hb⟩
  rw [hm.out] at ho
  obtain ⟨a, cap, rfl, h'⟩ := own_ints ho rfl
  obtain ⟨b, off, rfl, h''⟩ := h' (by simp)
  exact ⟨b, off, cap, rfl, h''.c 0 (by simp), h''.lt, hb⟩
end Go.Proofs.YtahgaccdeakmcaaGreatDoor
