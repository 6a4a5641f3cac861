/- Walk of times.Of: so many times a spot. (Printed by gen_q.py.) -/
import Derived.Test.YtjjmelhhalomaaaGreatDoorWz
import Derived.Test.YtjjmelhhalomaaaGreatDoorCyc
namespace Go.Proofs.YtjjmelhhalomaaaGreatDoor
open Go.RowKit
structure SpMem (w wr : World) (s o : Sp) : Prop where
  a0 : wr.cell? ⟨w.heap.size, 0, none⟩ = some (.int .i64 s.x)
  a1 : wr.cell? ⟨w.heap.size, 1, none⟩ = some (.int .i64 s.y)
  a2 : wr.cell? ⟨w.heap.size, 2, none⟩ = some (.bool s.far)
  o0 : wr.cell? ⟨w.heap.size + 1 + 1, 0, none⟩ = some (.int .i64 o.x)
  o1 : wr.cell? ⟨w.heap.size + 1 + 1, 1, none⟩ = some (.int .i64 o.y)
  o2 : wr.cell? ⟨w.heap.size + 1 + 1, 2, none⟩ = some (.bool o.far)
  r0 : wr.cell? ⟨w.heap.size + 1, 0, none⟩ = some (.int .i64 0)
  r1 : wr.cell? ⟨w.heap.size + 1, 1, none⟩ = some (.int .i64 0)
  r2 : wr.cell? ⟨w.heap.size + 1, 2, none⟩ = some (.bool false)
  fa0 : wr.frozen? ⟨w.heap.size, 0, none⟩ = false
  fa1 : wr.frozen? ⟨w.heap.size, 1, none⟩ = false
  fa2 : wr.frozen? ⟨w.heap.size, 2, none⟩ = false
  fo0 : wr.frozen? ⟨w.heap.size + 1 + 1, 0, none⟩ = false
  fo1 : wr.frozen? ⟨w.heap.size + 1 + 1, 1, none⟩ = false
  fo2 : wr.frozen? ⟨w.heap.size + 1 + 1, 2, none⟩ = false
  fr0 : wr.frozen? ⟨w.heap.size + 1, 0, none⟩ = false
  fr1 : wr.frozen? ⟨w.heap.size + 1, 1, none⟩ = false
  fr2 : wr.frozen? ⟨w.heap.size + 1, 2, none⟩ = false
  sz : w.heap.size + 1 + 1 < wr.heap.size
  bel : Below w.heap.size w wr
theorem SpMem.below {w wr w1 : World} {s o : Sp} (h : SpMem w wr s o) (hb : Below wr.heap.size wr w1) : SpMem w w1 s o := by
  obtain ⟨a0, a1, a2, o0, o1, o2, r0, r1, r2, fa0, fa1, fa2, fo0, fo1, fo2, fr0, fr1, fr2, hsz, hbel⟩ := h
  obtain ⟨hc, hf⟩ := bcell hb
  have := hb.size
  exact ⟨(hc _ _ (by omega)).trans a0, (hc _ _ (by omega)).trans a1, (hc _ _ (by omega)).trans a2, (hc _ _ (by omega)).trans o0, (hc _ _ (by omega)).trans o1, (hc _ _ (by omega)).trans o2, (hc _ _ (by omega)).trans r0, (hc _ _ (by omega)).trans r1, (hc _ _ (by omega)).trans r2,
    (hf _ _ (by omega)).trans fa0, (hf _ _ (by omega)).trans fa1, (hf _ _ (by omega)).trans fa2, (hf _ _ (by omega)).trans fo0, (hf _ _ (by omega)).trans fo1, (hf _ _ (by omega)).trans fo2, (hf _ _ (by omega)).trans fr0, (hf _ _ (by omega)).trans fr1, (hf _ _ (by omega)).trans fr2, by omega, hbel.trans (hb.mono hbel.size)⟩
theorem set3_other {w : World} {b c k : Nat} {x y z : Value} (h : b ≠ c) : (((w.setCell ⟨b, 0, none⟩ x).setCell ⟨b, 1, none⟩ y).setCell ⟨b, 2, none⟩ z).cell? ⟨c, k, none⟩ = w.cell? ⟨c, k, none⟩ := by
  rw [World.cell?_setCell_other (h := fun e => h (congrArg Addr.block e)), World.cell?_setCell_other (h := fun e => h (congrArg Addr.block e)), World.cell?_setCell_other (h := fun e => h (congrArg Addr.block e))]
theorem set3_size {w : World} {b : Nat} {x y z : Value} : (((w.setCell ⟨b, 0, none⟩ x).setCell ⟨b, 1, none⟩ y).setCell ⟨b, 2, none⟩ z).heap.size = w.heap.size := by simp [World.setCell]
theorem SpMem.setO {w wr : World} {s o : Sp} (h : SpMem w wr s o) (v : Sp) : SpMem w (((wr.setCell ⟨w.heap.size + 1 + 1, 0, none⟩ (.int .i64 v.x)).setCell ⟨w.heap.size + 1 + 1, 1, none⟩ (.int .i64 v.y)).setCell ⟨w.heap.size + 1 + 1, 2, none⟩ (.bool v.far)) s v := by
  obtain ⟨a0, a1, a2, o0, o1, o2, r0, r1, r2, fa0, fa1, fa2, fo0, fo1, fo2, fr0, fr1, fr2, hsz, hbel⟩ := h
  have k := set3_cell (x := .int .i64 v.x) (y := .int .i64 v.y) (z := .bool v.far) o0 o1 o2
  refine ⟨?_, ?_, ?_, k.1, k.2.1, k.2.2, ?_, ?_, ?_, ?_, ?_, ?_, ?_, ?_, ?_, ?_, ?_, ?_, by rw [set3_size]; exact hsz, set3_below hbel (by omega)⟩
  · rw [set3_other (by omega)]; exact a0
  · rw [set3_other (by omega)]; exact a1
  · rw [set3_other (by omega)]; exact a2
  · rw [set3_other (by omega)]; exact r0
  · rw [set3_other (by omega)]; exact r1
  · rw [set3_other (by omega)]; exact r2
  all_goals simp only [World.frozen?_setCell]; assumption
theorem SpMem.setA {w wr : World} {s o : Sp} (h : SpMem w wr s o) (v : Sp) : SpMem w (((wr.setCell ⟨w.heap.size, 0, none⟩ (.int .i64 v.x)).setCell ⟨w.heap.size, 1, none⟩ (.int .i64 v.y)).setCell ⟨w.heap.size, 2, none⟩ (.bool v.far)) v o := by
  obtain ⟨a0, a1, a2, o0, o1, o2, r0, r1, r2, fa0, fa1, fa2, fo0, fo1, fo2, fr0, fr1, fr2, hsz, hbel⟩ := h
  have k := set3_cell (x := .int .i64 v.x) (y := .int .i64 v.y) (z := .bool v.far) a0 a1 a2
  refine ⟨k.1, k.2.1, k.2.2, ?_, ?_, ?_, ?_, ?_, ?_, ?_, ?_, ?_, ?_, ?_, ?_, ?_, ?_, ?_, by rw [set3_size]; exact hsz, set3_below hbel (by omega)⟩
  · rw [set3_other (by omega)]; exact o0
  · rw [set3_other (by omega)]; exact o1
  · rw [set3_other (by omega)]; exact o2
  · rw [set3_other (by omega)]; exact r0
  · rw [set3_other (by omega)]; exact r1
  · rw [set3_other (by omega)]; exact r2
  all_goals simp only [World.frozen?_setCell]; assumption
theorem SpMem.start (w : World) (s : Sp) : SpMem w (((w.alloc (.cells #[.int .i64 s.x, .int .i64 s.y, .bool s.far] 28)).alloc (.cells #[.int .i64 0, .int .i64 0, .bool false] 28)).alloc (.cells #[.int .i64 0, .int .i64 0, .bool true] 28)) s ⟨0, 0, true⟩ := by
  refine ⟨?_, ?_, ?_, ?_, ?_, ?_, ?_, ?_, ?_, ?_, ?_, ?_, ?_, ?_, ?_, ?_, ?_, ?_, ?_, balloc (balloc (below_alloc _ _) _) _⟩
  all_goals go_simp
/-- So far: out and the turned one, and what is left. -/
def TimesAt (S s o : Sp) (n : Int) : Prop := 0 ≤ n ∧ n ≤ 4052 ∧ ∃ u v : Int, s = sq u ∧ o = sq v ∧ S = sq (v + u * n)
theorem timesAt_bd {S s o : Sp} {n : Int} (h : TimesAt S s o n) : 0 ≤ n ∧ n ≤ 9223372036854775807 := ⟨h.1, by have := h.2.1; omega⟩
theorem timesAt_ok {S s o : Sp} {n : Int} (h : TimesAt S s o n) : Ok s ∧ Ok o := by
  obtain ⟨_, _, u, v, rfl, rfl, _⟩ := h; exact ⟨sq_ok _, sq_ok _⟩
theorem timesAt_odd {S s o : Sp} {n : Int} (h : TimesAt S s o n) (hb : n % 2 = 1) : TimesAt S (sSum s s) (sSum o s) (n / 2) := by
  obtain ⟨h0, h1, u, v, rfl, rfl, rfl⟩ := h
  refine ⟨by omega, by omega, u + u, v + u, sq_add _ _, sq_add _ _, ?_⟩
  have e : n = n / 2 + n / 2 + 1 := by omega
  generalize n / 2 = m at e
  subst e
  congr 1
  rw [Int.mul_add, Int.mul_add, Int.add_mul]; omega
theorem timesAt_even {S s o : Sp} {n : Int} (h : TimesAt S s o n) (hb : n % 2 = 0) : TimesAt S (sSum s s) o (n / 2) := by
  obtain ⟨h0, h1, u, v, rfl, rfl, rfl⟩ := h
  refine ⟨by omega, by omega, u + u, v, sq_add _ _, rfl, ?_⟩
  have e : n = n / 2 + n / 2 := by omega
  generalize n / 2 = m at e
  subst e
  congr 1
  rw [Int.mul_add, Int.add_mul]
theorem timesAt_end {S s o : Sp} {n : Int} (h : TimesAt S s o n) (hn : n ≤ 0) : o = S := by
  obtain ⟨h0, h1, u, v, rfl, rfl, rfl⟩ := h
  obtain rfl : n = 0 := by omega
  congr 1; omega
theorem tmod52 (n : Int) : -4051 ≤ n.tmod 4052 ∧ n.tmod 4052 ≤ 4051 := by
  have h1 := Int.tmod_lt_of_pos n (b := 4052) (by decide)
  have h2 := Int.lt_tmod_of_pos n (b := 4052) (by decide)
  omega
theorem tmod52_eq (n : Int) : n.tmod 4052 % 4052 = n % 4052 := by
  have := Int.mul_tdiv_add_tmod n 4052; omega
theorem sq_left (u m n : Int) (h : m % 4052 = n % 4052) : sq (u * n) = sq (0 + u * m) := by
  rw [Int.zero_add]; exact sq_eq_iff.mpr (by rw [Int.mul_emod, ← h, ← Int.mul_emod])
theorem timesAt_start (u n m : Int) (h0 : 0 ≤ m) (h1 : m ≤ 4052) (h : m % 4052 = n % 4052) : TimesAt (sq (u * n)) (sq u) ⟨0, 0, true⟩ m :=
  ⟨h0, h1, u, 0, rfl, sq_zero.symm, sq_left u m n h⟩
set_option maxHeartbeats 2000000 in
theorem times_neg (u n : Int) (w : World) (hF : FarAt w) (hn : n.tmod 4052 < 0) : Calls Tryz.prog 37 #[spV (sq u), .int .i64 n] w fun e w' => e = .returned (spV (sq (u * n))) ∧ Below w.heap.size w w' := by
  have hbd := tmod52 n
  obtain ⟨hbd1, hbd2⟩ := hbd
  have hS := Lib.hid (timesAt_start u n (n.tmod 4052 + 4052) (by omega) (by omega) (by have := tmod52_eq n; omega))
  obtain ⟨c0, c1, c2, hlt⟩ := hF
  have hF : Hid (FarAt w) := ⟨c0, c1, c2, hlt⟩
  have hl : 0 < w.heap.size := hlt
  go_enter Tryz.func37, Tryz.ntmps37
  go_wp2
  clear c0 c1 c2 hl hlt
  go_loopw [1] (fun m wr => ∃ (n' : Int) (s o : Sp), m = .int .i64 n' ∧ TimesAt (sq (u * n)) s o n' ∧ SpMem w wr s o) (fun m _ => (intOf m).toNat)
  case atStart => exact ⟨_, _, _, rfl, hS.out, SpMem.start w _⟩
  case round =>
    clear hS hbd1 hbd2 hn
    obtain ⟨n', s, o, rfl, h, hm0⟩ := hrel
    have h1 := (timesAt_bd h).1
    have h2 := (timesAt_bd h).2
    have oks := (timesAt_ok h).1
    have oko := (timesAt_ok h).2
    have hm' := hm0
    obtain ⟨a0, a1, a2, o0, o1, o2, r0, r1, r2, fa0, fa1, fa2, fo0, fo1, fo2, fr0, fr1, fr2, hsz, hbel⟩ := hm'
    by_cases hpos : 0 < n'
    · by_cases hodd : n' % 2 = 1
      · have hb1 : (bits BinOp.and IntKind.i64 n' 1 == 1) = true := by rw [and_one64 n' h1 h2]; simpa using hodd
        go_wp2_with fail
        refine (sum_k o s _ (hF.out.below hm0.bel) oko oks).mono ?_; rintro e w1 ⟨rfl, hb⟩
        have hm1 := hm0.below hb
        clear hm0 a0 a1 a2 o0 o1 o2 r0 r1 r2 fa0 fa1 fa2 fo0 fo1 fo2 fr0 fr1 fr2 hsz hbel hb
        have hm2 := hm1
        obtain ⟨a0, a1, a2, o0, o1, o2, r0, r1, r2, fa0, fa1, fa2, fo0, fo1, fo2, fr0, fr1, fr2, hsz, hbel⟩ := hm2
        go_wp2_with fail
        refine (sum_k s s _ (hF.out.below (hm1.setO _).bel) oks oks).mono ?_; rintro e w2 ⟨rfl, hb2⟩
        have hm3 := (hm1.setO (sSum o s)).below hb2
        clear hm1 a0 a1 a2 o0 o1 o2 r0 r1 r2 fa0 fa1 fa2 fo0 fo1 fo2 fr0 fr1 fr2 hsz hbel hb2
        have hm4 := hm3
        obtain ⟨a0, a1, a2, o0, o1, o2, r0, r1, r2, fa0, fa1, fa2, fo0, fo1, fo2, fr0, fr1, fr2, hsz, hbel⟩ := hm4
        go_wp2
        clear a0 a1 a2 o0 o1 o2 r0 r1 r2 fa0 fa1 fa2 fo0 fo1 fo2 fr0 fr1 fr2 hsz hbel
        go_roundw
        case rel => exact ⟨n' / 2, _, _, rfl, timesAt_odd h hodd, hm3.setA _⟩
        case measure => simp [intOf]; omega
      · have hb1 : (bits BinOp.and IntKind.i64 n' 1 == 1) = false := by rw [and_one64 n' h1 h2]; simpa using hodd
        go_wp2_with fail
        refine (sum_k s s _ (hF.out.below hm0.bel) oks oks).mono ?_; rintro e w2 ⟨rfl, hb2⟩
        have hm3 := hm0.below hb2
        clear hm0 a0 a1 a2 o0 o1 o2 r0 r1 r2 fa0 fa1 fa2 fo0 fo1 fo2 fr0 fr1 fr2 hsz hbel hb2
        have hm4 := hm3
        obtain ⟨a0, a1, a2, o0, o1, o2, r0, r1, r2, fa0, fa1, fa2, fo0, fo1, fo2, fr0, fr1, fr2, hsz, hbel⟩ := hm4
        go_wp2
        clear a0 a1 a2 o0 o1 o2 r0 r1 r2 fa0 fa1 fa2 fo0 fo1 fo2 fr0 fr1 fr2 hsz hbel
        go_roundw
        case rel => exact ⟨n' / 2, _, _, rfl, timesAt_even h (by omega), hm3.setA _⟩
        case measure => simp [intOf]; omega
    · have ho := Lib.hid (timesAt_end h (by omega))
      go_wp2
      have k := set3_cell (x := .int .i64 o.x) (y := .int .i64 o.y) (z := .bool o.far) r0 r1 r2
      have ho := ho.out
      refine bodyPost_ret (v := spV o) (by simp [results, Tryz.results37, go_sem, k.1, k.2.1, k.2.2]) rfl ⟨by rw [ho], ?_⟩
      exact set3_below hbel (by omega)
set_option maxHeartbeats 2000000 in
theorem times_pos (u n : Int) (w : World) (hF : FarAt w) (hn : ¬ n.tmod 4052 < 0) : Calls Tryz.prog 37 #[spV (sq u), .int .i64 n] w fun e w' => e = .returned (spV (sq (u * n))) ∧ Below w.heap.size w w' := by
  have hbd := tmod52 n
  obtain ⟨hbd1, hbd2⟩ := hbd
  have hS := Lib.hid (timesAt_start u n (n.tmod 4052) (by omega) (by omega) (by have := tmod52_eq n; omega))
  obtain ⟨c0, c1, c2, hlt⟩ := hF
  have hF : Hid (FarAt w) := ⟨c0, c1, c2, hlt⟩
  have hl : 0 < w.heap.size := hlt
  go_enter Tryz.func37, Tryz.ntmps37
  go_wp2
  clear c0 c1 c2 hl hlt
  go_loopw [1] (fun m wr => ∃ (n' : Int) (s o : Sp), m = .int .i64 n' ∧ TimesAt (sq (u * n)) s o n' ∧ SpMem w wr s o) (fun m _ => (intOf m).toNat)
  case atStart => exact ⟨_, _, _, rfl, hS.out, SpMem.start w _⟩
  case round =>
    clear hS hbd1 hbd2 hn
    obtain ⟨n', s, o, rfl, h, hm0⟩ := hrel
    have h1 := (timesAt_bd h).1
    have h2 := (timesAt_bd h).2
    have oks := (timesAt_ok h).1
    have oko := (timesAt_ok h).2
    have hm' := hm0
    obtain ⟨a0, a1, a2, o0, o1, o2, r0, r1, r2, fa0, fa1, fa2, fo0, fo1, fo2, fr0, fr1, fr2, hsz, hbel⟩ := hm'
    by_cases hpos : 0 < n'
    · by_cases hodd : n' % 2 = 1
      · have hb1 : (bits BinOp.and IntKind.i64 n' 1 == 1) = true := by rw [and_one64 n' h1 h2]; simpa using hodd
        go_wp2_with fail
        refine (sum_k o s _ (hF.out.below hm0.bel) oko oks).mono ?_; rintro e w1 ⟨rfl, hb⟩
        have hm1 := hm0.below hb
        clear hm0 a0 a1 a2 o0 o1 o2 r0 r1 r2 fa0 fa1 fa2 fo0 fo1 fo2 fr0 fr1 fr2 hsz hbel hb
        have hm2 := hm1
        obtain ⟨a0, a1, a2, o0, o1, o2, r0, r1, r2, fa0, fa1, fa2, fo0, fo1, fo2, fr0, fr1, fr2, hsz, hbel⟩ := hm2
        go_wp2_with fail
        refine (sum_k s s _ (hF.out.below (hm1.setO _).bel) oks oks).mono ?_; rintro e w2 ⟨rfl, hb2⟩
        have hm3 := (hm1.setO (sSum o s)).below hb2
        clear hm1 a0 a1 a2 o0 o1 o2 r0 r1 r2 fa0 fa1 fa2 fo0 fo1 fo2 fr0 fr1 fr2 hsz hbel hb2
        have hm4 := hm3
        obtain ⟨a0, a1, a2, o0, o1, o2, r0, r1, r2, fa0, fa1, fa2, fo0, fo1, fo2, fr0, fr1, fr2, hsz, hbel⟩ := hm4
        go_wp2
        clear a0 a1 a2 o0 o1 o2 r0 r1 r2 fa0 fa1 fa2 fo0 fo1 fo2 fr0 fr1 fr2 hsz hbel
        go_roundw
        case rel => exact ⟨n' / 2, _, _, rfl, timesAt_odd h hodd, hm3.setA _⟩
        case measure => simp [intOf]; omega
      · have hb1 : (bits BinOp.and IntKind.i64 n' 1 == 1) = false := by rw [and_one64 n' h1 h2]; simpa using hodd
        go_wp2_with fail
        refine (sum_k s s _ (hF.out.below hm0.bel) oks oks).mono ?_; rintro e w2 ⟨rfl, hb2⟩
        have hm3 := hm0.below hb2
        clear hm0 a0 a1 a2 o0 o1 o2 r0 r1 r2 fa0 fa1 fa2 fo0 fo1 fo2 fr0 fr1 fr2 hsz hbel hb2
        have hm4 := hm3
        obtain ⟨a0, a1, a2, o0, o1, o2, r0, r1, r2, fa0, fa1, fa2, fo0, fo1, fo2, fr0, fr1, fr2, hsz, hbel⟩ := hm4
        go_wp2
        clear a0 a1 a2 o0 o1 o2 r0 r1 r2 fa0 fa1 fa2 fo0 fo1 fo2 fr0 fr1 fr2 hsz hbel
        go_roundw
        case rel => exact ⟨n' / 2, _, _, rfl, timesAt_even h (by omega), hm3.setA _⟩
        case measure => simp [intOf]; omega
    · have ho := Lib.hid (timesAt_end h (by omega))
      go_wp2
      have k := set3_cell (x := .int .i64 o.x) (y := .int .i64 o.y) (z := .bool o.far) r0 r1 r2
      have ho := ho.out
      refine bodyPost_ret (v := spV o) (by simp [results, Tryz.results37, go_sem, k.1, k.2.1, k.2.2]) rfl ⟨by rw [ho], ?_⟩
      exact set3_below hbel (by omega)
theorem timesOf_c (u n : Int) (w : World) (hF : FarAt w) : Calls Tryz.prog 37 #[spV (sq u), .int .i64 n] w fun e w' => e = .returned (spV (sq (u * n))) ∧ Below w.heap.size w w' := by
  by_cases hn : n.tmod 4052 < 0
  · exact times_neg u n w hF hn
  · exact times_pos u n w hF hn
end Go.Proofs.YtjjmelhhalomaaaGreatDoor
