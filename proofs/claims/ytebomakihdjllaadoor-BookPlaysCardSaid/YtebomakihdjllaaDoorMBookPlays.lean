/- Texts of this claim, in one. -/
import Derived.Test.YtebomakihdjllaaDoorM2BookPlays
import Derived.Test.YtebomakihdjllaaDoorWb
import Derived.Test.YtebomakihdjllaaDoorSf
import Derived.Deep.RegionWith
import Derived.Deep.AppendLies
import Derived.Deep.RegionLaw
import Derived.Deep.DrawnRows
import Derived.Test.YtebomakihdjllaaDoorFs
import Derived.Test.YtebomakihdjllaaDoorOw
import Derived.Test.YtebomakihdjllaaDoorWv
import Derived.LaidEql
import Derived.Stop.Asserts
import Derived.RowKitTokens
namespace Go.Proofs.YtebomakihdjllaaDoor
open Go.RowKit
set_option maxRecDepth 100000
set_option linter.unusedVariables false
set_option linter.unusedSimpArgs false
/-- A deal. -/
abbrev dlV (g n : Value) (r : Sp) (s : Int) : Value := .agg #[g, n, .int .i64 r.x, .int .i64 r.y, .bool r.far, .int .i64 s]
set_option maxHeartbeats 16000000 in
/-- Why a deal is refused. -/
theorem bdo_n (N : List Int) (G : List Bool) (B p : Nat) (a0 a1 : Option Addr) (n m c0 c1 : Nat) (RS : Sp) (s : Int) (X : Sp) (x E : Int) (RX : Value) (w : World) (hF : FarAt w) (hBk : BkAt w B p N G) (hNl : N.length ≤ 1000000) (hm : m ≤ 1000000) (hX : Hid (X = sq (4 * x)))
    (hEx : Hid (∀ w1 : World, Below w.heap.size w w1 → Calls Tryd.prog 9 #[.pointer (some ⟨p, 0, none⟩), .slice a0 n c0, .slice a1 m c1] w1 fun e w' => e = .returned RX ∧ Below w1.heap.size w1 w'))
    (hR : Hid (RX = .tuple #[spV ⟨0, 0, false⟩, .iface 69 (.int .i64 E)] ∨ (RX = .tuple #[spV X, .nilIface] ∧ ((1000 < N.length + m ∧ E = 4) ∨ (N.length + m ≤ 1000 ∧ ((¬ (0 ≤ s ∧ s < 1013) ∧ E = 1) ∨ ((0 ≤ s ∧ s < 1013) ∧ ((sCheck RS = E ∧ E ≠ 0) ∨ (Ok RS ∧ E = 8 ∧ Sp.beq (sq (4 * hJ * s)) (sSum RS (sq (4 * x * bAsk RS X))) = false))))))))) :
    Calls Tryd.prog 12 #[.pointer (some ⟨p, 0, none⟩), dlV (.slice a0 n c0) (.slice a1 m c1) RS s] w fun e w' => e = .returned (.iface 69 (.int .i64 E)) ∧ Below w.heap.size w w' := by
  obtain ⟨vc, vg, hBk⟩ := hBk
  obtain ⟨ac, cc, rfl⟩ := own_slB hBk.rc
  have p0 := hBk.c0
  have hp := hBk.lt
  have hcp := Lib.hid (fun (w' : World) (hb : Below w.heap.size w w') => (⟨((bcell hb).1 _ 0 hp).trans p0, Nat.lt_of_lt_of_le hp hb.size⟩ : w'.cell? ⟨p, 0, none⟩ = some (.slice ac N.length cc) ∧ p < w'.heap.size))
  have hF' := Lib.hid hF
  clear hBk p0 hF
  go_enter Tryd.func12, Tryd.ntmps12
  go_wp2_with fail
  have hb0 := Lib.hid (below_alloc w (.cells #[.slice a0 n c0, .slice a1 m c1, .int .i64 RS.x, .int .i64 RS.y, .bool RS.far, .int .i64 s] 42))
  refine (hEx.out _ hb0.out).mono ?_; rintro e w1 ⟨rfl, hb1⟩
  have hB1 := Lib.hid (below_seq hb0.out hb1)
  obtain ⟨hcc, -⟩ := bcell hb1
  have e0 : w1.cell? ⟨w.heap.size, 0, none⟩ = some (.slice a0 n c0) := by rw [hcc _ _ (by simp)]; go_simp
  have e1 : w1.cell? ⟨w.heap.size, 1, none⟩ = some (.slice a1 m c1) := by rw [hcc _ _ (by simp)]; go_simp
  have e2 : w1.cell? ⟨w.heap.size, 2, none⟩ = some (.int .i64 RS.x) := by rw [hcc _ _ (by simp)]; go_simp
  have e3 : w1.cell? ⟨w.heap.size, 3, none⟩ = some (.int .i64 RS.y) := by rw [hcc _ _ (by simp)]; go_simp
  have e4 : w1.cell? ⟨w.heap.size, 4, none⟩ = some (.bool RS.far) := by rw [hcc _ _ (by simp)]; go_simp
  have e5 : w1.cell? ⟨w.heap.size, 5, none⟩ = some (.int .i64 s) := by rw [hcc _ _ (by simp)]; go_simp
  have el : w.heap.size < w1.heap.size := by have := hb1.size; simp at this; omega
  have hd := Lib.hid (fun (w' : World) (hb : Below w1.heap.size w1 w') => (⟨((bcell hb).1 _ 0 el).trans e0, ((bcell hb).1 _ 1 el).trans e1, ((bcell hb).1 _ 2 el).trans e2, ((bcell hb).1 _ 3 el).trans e3, ((bcell hb).1 _ 4 el).trans e4, ((bcell hb).1 _ 5 el).trans e5, Nat.lt_of_lt_of_le el hb.size⟩ : w'.cell? ⟨w.heap.size, 0, none⟩ = some (.slice a0 n c0) ∧ w'.cell? ⟨w.heap.size, 1, none⟩ = some (.slice a1 m c1) ∧ w'.cell? ⟨w.heap.size, 2, none⟩ = some (.int .i64 RS.x) ∧ w'.cell? ⟨w.heap.size, 3, none⟩ = some (.int .i64 RS.y) ∧ w'.cell? ⟨w.heap.size, 4, none⟩ = some (.bool RS.far) ∧ w'.cell? ⟨w.heap.size, 5, none⟩ = some (.int .i64 s) ∧ w.heap.size < w'.heap.size))
  obtain ⟨r0, r1⟩ := hcp.out _ hB1.out
  clear hcc hb1 hb0 hEx
  rcases hR.out with rfl | ⟨rfl, h⟩
  · go_wp2
    go_ret
    exact ⟨rfl, balloc hB1.out _⟩
  have hB2 := Lib.hid (balloc hB1.out (.cells #[.int .i64 X.x, .int .i64 X.y, .bool X.far] 23))
  have hX2 := Lib.hid (SpAt.fresh w1 X.x X.y X.far 23)
  have hbX := Lib.hid (below_alloc w1 (.cells #[.int .i64 X.x, .int .i64 X.y, .bool X.far] 23))
  clear hR
  rcases h with ⟨h1, rfl⟩ | ⟨h1, h⟩
  · have d1 : decide ((1000 : Int) < (N.length : Int) + (m : Int)) = true := decide_eq_true (by omega)
    go_upto_region 4 with fail
    generalize w1.alloc (.cells #[.int .i64 X.x, .int .i64 X.y, .bool X.far] 23) = w2 at *
    clear r0 r1
    obtain ⟨r0, r1⟩ := hcp.out _ hB2.out
    clear e0 e1 e2 e3 e4 e5 el
    obtain ⟨e0, e1, e2, e3, e4, e5, el⟩ := hd.out _ hbX.out
    go_quiet (fail)
    go_wp2
    go_ret
    exact ⟨rfl, below_drewN hB2.out _⟩
  · have d1 : decide ((1000 : Int) < (N.length : Int) + (m : Int)) = false := decide_eq_false (by omega)
    go_upto_region 4 with fail
    generalize w1.alloc (.cells #[.int .i64 X.x, .int .i64 X.y, .bool X.far] 23) = w2 at *
    clear r0 r1
    obtain ⟨r0, r1⟩ := hcp.out _ hB2.out
    clear e0 e1 e2 e3 e4 e5 el
    obtain ⟨e0, e1, e2, e3, e4, e5, el⟩ := hd.out _ hbX.out
    go_quiet (fail)
    have hbq := below_drewN (Below.refl w2.heap.size w2) nq
    have hB3 := Lib.hid (below_seq hB2.out hbq)
    have hX3 := Lib.hid (hX2.out.below hbq)
    have hbX3 := Lib.hid (below_seq hbX.out hbq)
    generalize w2.drewN nq = w3 at *
    clear r0 r1 e0 e1 e2 e3 e4 e5 el hbq hB2 hX2 hbX hcp
    obtain ⟨e0, e1, e2, e3, e4, e5, el⟩ := hd.out _ hbX3.out
    rcases h with ⟨h2, rfl⟩ | ⟨⟨s0, s1⟩, h⟩
    · go_wp2_with fail
      refine (rest_n s _ h2).mono ?_; rintro e w' ⟨rfl, rfl⟩
      go_wp2
      go_ret
      exact ⟨rfl, hB3.out⟩
    · replace h := Lib.hid h
      go_wp2_with fail
      refine (rest_y s _ s0 s1).mono ?_; rintro e w' ⟨rfl, rfl⟩
      go_wp2_with fail
      rcases h.out with ⟨hc, hE⟩ | ⟨oR, rfl, hq⟩
      · have := check_bad RS w3 (hF'.out.below hB3.out) (by rw [hc]; exact hE)
        rw [hc] at this
        refine this.mono ?_; rintro e w4 ⟨rfl, hb4⟩
        go_wp2
        go_ret
        exact ⟨rfl, below_seq hB3.out hb4⟩
      · clear h
        replace hq := Lib.hid hq
        refine (check_ok RS _ (hF'.out.below hB3.out) oR).mono ?_; rintro e w4 ⟨rfl, hb4⟩
        have hB4 := Lib.hid (below_seq hB3.out hb4)
        have hX4 := Lib.hid (hX3.out.below hb4)
        have hbX4 := Lib.hid (below_seq hbX3.out hb4)
        clear e0 e1 e2 e3 e4 e5 el hb4 hB3 hX3 hbX3
        obtain ⟨e0, e1, e2, e3, e4, e5, el⟩ := hd.out _ hbX4.out
        obtain ⟨x0, x1, x2, -, -, -, xl⟩ := hX4.out
        have oX : Ok X := by rw [hX.out]; exact sq_ok _
        obtain ⟨c, hc⟩ : ∃ c, bAsk RS X = c := ⟨_, rfl⟩
        rw [hc] at hq
        replace hc := Lib.hid hc
        go_wp2_with fail
        refine (bask_y RS X c _ (hF'.out.below hB4.out) oR oX hc).mono ?_; rintro e w5 ⟨rfl, hb5⟩
        have hB5 := Lib.hid (below_seq hB4.out hb5)
        have hX5 := Lib.hid (hX4.out.below hb5)
        have hbX5 := Lib.hid (below_seq hbX4.out hb5)
        clear e0 e1 e2 e3 e4 e5 el x0 x1 x2 xl hb5 hB4 hX4 hbX4
        obtain ⟨e0, e1, e2, e3, e4, e5, el⟩ := hd.out _ hbX5.out
        obtain ⟨x0, x1, x2, -, -, -, xl⟩ := hX5.out
        obtain ⟨P, hP⟩ : ∃ P, sq (4 * hJ * s) = P := ⟨_, rfl⟩
        obtain ⟨T, hT⟩ : ∃ T, sq (4 * x * c) = T := ⟨_, rfl⟩
        obtain ⟨D, hD⟩ : ∃ D, sSum RS T = D := ⟨_, rfl⟩
        have oT : Ok T := by rw [← hT]; exact sq_ok _
        rw [hP, hT, hD] at hq
        have hq := hq.out
        replace hP := Lib.hid hP
        replace hT := Lib.hid hT
        replace hD := Lib.hid hD
        have hF5 := Lib.hid (hF'.out.below hB5.out)
        have hX' := hX
        have cS := Lib.hid (fun (w1 : World) hF1 => second_c w1 hF1)
        obtain ⟨Z, hZ⟩ : ∃ Z, Z = sq (4 * hJ) := ⟨_, rfl⟩
        rw [← hZ] at cS
        replace hZ := Lib.hid hZ
        clear hX hd
        go_upto_region 14 with fail
        refine wp_region_grow Tryd.mixed (by kernel_rfl) ?_
        iterate 8 (quiet_step (first | (go_at_call 42; exact grow_of (cS.out _ (hF5.out.below (Grew.h _)))) | (go_at_call 41; exact grow_of (of_e Z P (4 * hJ) s _ (hF5.out.below (Grew.h _)) hZ hP))))
        repeat (quiet_step (first | (go_at_call 41; exact grow_of (of_e X T (4 * x) c _ (hF5.out.below (Grew.h _)) hX' hT)) | (go_at_call 38; exact grow_of (sum_e RS T D _ (hF5.out.below (Grew.h _)) oR oT hD))))
        refine wpQuiet_nil ?_
        intro _ hw'
        obtain ⟨y, rfl⟩ := hw'
        have hB6 := below_seq hB5.out y.h
        clear e0 e1 e2 e3 e4 e5 el x0 x1 x2 xl
        go_wp2
        go_ret
        exact ⟨rfl, hB6⟩
end Go.Proofs.YtebomakihdjllaaDoor
namespace Go.Proofs.YtebomakihdjllaaDoor
open Go.RowKit
set_option maxRecDepth 100000
set_option linter.unusedVariables false
set_option linter.unusedSimpArgs false
/-- The blocks of a book. -/
def inB (p : Nat) (vc vg : Value) (k : Nat) : Prop := k = p ∨ vc.ownBlock = some k ∨ vg.ownBlock = some k
/-- All blocks but some stay. -/
structure But (S : Nat → Prop) (w w' : World) : Prop where
  os : w'.os = w.os
  tape : w'.tape = w.tape
  output : w'.output = w.output
  size : w.heap.size ≤ w'.heap.size
  block : ∀ k, k < w.heap.size → ¬ S k → w'.heap[k]? = w.heap[k]?
theorem But.refl (S : Nat → Prop) (w : World) : But S w w := ⟨rfl, rfl, rfl, Nat.le_refl _, fun _ _ _ => rfl⟩
theorem But.trans {S : Nat → Prop} {a b c : World} (h : But S a b) (k : But S b c) : But S a c :=
  ⟨k.os.trans h.os, k.tape.trans h.tape, k.output.trans h.output, Nat.le_trans h.size k.size, fun i hi hs => (k.block i (Nat.lt_of_lt_of_le hi h.size) hs).trans (h.block i hi hs)⟩
/-- Blocks that were not there may be let out. -/
theorem But.mono {S T : Nat → Prop} {a b : World} (h : But S a b) (hs : ∀ k, k < a.heap.size → S k → T k) : But T a b :=
  ⟨h.os, h.tape, h.output, h.size, fun k hk ht => h.block k hk fun s => ht (hs k hk s)⟩
theorem But.of_below {S : Nat → Prop} {a b : World} (h : Below a.heap.size a b) : But S a b := ⟨h.os, h.tape, h.output, h.size, fun k hk _ => h.block k hk⟩
theorem But.of_grown {S : Nat → Prop} {a b : World} {r : Option Nat} (h : a.grownBy b r) (hr : ∀ k, r = some k → S k) : But S a b :=
  ⟨h.os, h.tape, h.output, h.size, fun k hk hs => h.block k hk fun e => hs (hr k e.symm)⟩
theorem But.below {S : Nat → Prop} {a b : World} {B : Nat} (h : But S a b) (hB : B ≤ a.heap.size) (hs : ∀ k, S k → B ≤ k) : Below B a b :=
  ⟨h.os, h.tape, h.output, h.size, fun k hk => h.block k (Nat.lt_of_lt_of_le hk hB) fun s => Nat.lt_irrefl _ (Nat.lt_of_lt_of_le hk (hs k s))⟩
theorem But.cell {S : Nat → Prop} {a b : World} (h : But S a b) {k : Nat} (hk : k < a.heap.size) (hs : ¬ S k) (o : Nat) : b.cell? ⟨k, o, none⟩ = a.cell? ⟨k, o, none⟩ := World.cell?_of_block (h.block k hk hs)
theorem But.setCell {S : Nat → Prop} {a : World} {p : Addr} (hp : S p.block) (u : Value) : But S a (a.setCell p u) :=
  ⟨rfl, rfl, rfl, by simp, fun k _ hk => heap_setCell_other a p k u (fun e => hk (e ▸ hp))⟩
/-- Another book stays. -/
theorem BkV.but {w w' : World} {B p : Nat} {vc vg : Value} {N : List Int} {G : List Bool} {S : Nat → Prop} (h : BkV w B p vc vg N G) (hb : But S w w') (hs : ∀ k, inB p vc vg k → ¬ S k) : BkV w' B p vc vg N G :=
  h.keep hb.size fun k hk => hb.block k (h.blk k hk).2 (hs k hk)
/-- A coin goes. -/
theorem BkV.setg {w : World} {B p : Nat} {vc : Value} {g c : Nat} {N : List Int} {G : List Bool} (h : BkV w B p vc (.slice (some ⟨g, 0, none⟩) N.length c) N G) (j : Nat) : BkV (w.setCell ⟨g, j, none⟩ (.bool true)) B p vc (.slice (some ⟨g, 0, none⟩) N.length c) N (G.set j true) := by
  obtain ⟨s1, s2⟩ := h.rg.stored j (.bool true)
  have hne : (⟨p, 0, none⟩ : Addr).block ≠ g := fun e => h.ng (by simp [Value.ownBlock]; exact e.symm)
  have hb : (w.setCell ⟨g, j, none⟩ (.bool true)).heap[p]? = w.heap[p]? := s2.block p h.lt (fun e => hne (Option.some.inj e))
  refine ⟨(World.cell?_of_block hb).trans h.c0, (World.cell?_of_block hb).trans h.c1, (World.frozen?_of_block hb).trans h.f0, (World.frozen?_of_block hb).trans h.f1, Nat.lt_of_lt_of_le h.lt s2.size, h.bp, ?_, ?_, by rw [List.length_set]; exact h.ln, h.ap, h.nc, h.ng⟩
  · refine own_keep h.rc fun k hk => s2.block k (h.rc.lt k hk).2 fun e => h.ap k hk (by simp [Value.ownBlock]; exact (Option.some.inj e).symm)
  · rw [List.map_set]; exact s1
/-- Which are gone behind a deal. -/
def goneL (G : List Bool) (l : List Int) : List Bool := l.foldl (fun G g => G.set g.toNat true) G
theorem goneL_snoc (G : List Bool) (l : List Int) (g : Int) : goneL G (l ++ [g]) = (goneL G l).set g.toNat true := by unfold goneL; rw [List.foldl_append]; rfl
theorem goneL_len (G : List Bool) (l : List Int) : (goneL G l).length = G.length := by
  induction l generalizing G with
  | nil => rfl
  | cons a l ih => show (goneL (G.set a.toNat true) l).length = _; rw [ih, List.length_set]
/-- What a deal that is done leaves: the book with its new coins; its blocks are its own elder ones or new; all others stay. -/
def Did (w w' : World) (B p : Nat) (vc vg : Value) (N' : List Int) (G' : List Bool) : Prop :=
  ∃ vc' vg', BkV w' B p vc' vg' N' G' ∧ (∀ k, inB p vc' vg' k → inB p vc vg k ∨ w.heap.size ≤ k) ∧ But (inB p vc vg) w w'
/-- The coins' row grown and stored. -/
theorem BkV.grow {w w1 : World} {B p : Nat} {vc vg v' : Value} {N M : List Int} {G : List Bool} (h : BkV w B p vc vg N G) (hB : B ≤ w.heap.size) (hr : w1.ownsRow B 23 3 v' (N.length + M.length) (spCells (N.map qS) ++ spCells (M.map qS))) (hg : w.grownBy w1 vc.ownBlock) (hl : v'.ownBlock = vc.ownBlock ∨ v'.ownBlock = some w.heap.size) :
    w1.cell? ⟨p, 0, none⟩ = some vc ∧ w1.cell? ⟨p, 1, none⟩ = some vg ∧ w1.frozen? ⟨p, 0, none⟩ = false ∧ w1.frozen? ⟨p, 1, none⟩ = false ∧ p < w1.heap.size ∧ w1.ownsRow B 4 1 vg N.length (G.map Value.bool) ∧ Ap v' vg ∧ v'.ownBlock ≠ some p := by
  have hb : w1.heap[p]? = w.heap[p]? := hg.block p h.lt (fun e => h.nc e.symm)
  obtain ⟨r1, r2⟩ := row_pair h.rg h.ap hg hl
  refine ⟨(World.cell?_of_block hb).trans h.c0, (World.cell?_of_block hb).trans h.c1, (World.frozen?_of_block hb).trans h.f0, (World.frozen?_of_block hb).trans h.f1, Nat.lt_of_lt_of_le h.lt hg.size, r1, r2, ?_⟩
  rcases hl with e | e
  · rw [e]; exact h.nc
  · rw [e]; intro e2; have := h.lt; cases e2; omega
/-- A field of the book stored: its rows stay. -/
theorem half {w : World} {B p n1 n2 : Nat} {vg V V0 : Value} {xs ys : List Value} (z0 : w.cell? ⟨p, 0, none⟩ = some V0) (z1 : w.cell? ⟨p, 1, none⟩ = some vg) (z2 : w.frozen? ⟨p, 0, none⟩ = false) (z3 : w.frozen? ⟨p, 1, none⟩ = false) (z4 : p < w.heap.size) (rg : w.ownsRow B 4 1 vg n2 ys) (rc : w.ownsRow B 23 3 V n1 xs) (hc : V.ownBlock ≠ some p) (hg : vg.ownBlock ≠ some p) :
    (w.setCell ⟨p, 0, none⟩ V).cell? ⟨p, 0, none⟩ = some V ∧ (w.setCell ⟨p, 0, none⟩ V).cell? ⟨p, 1, none⟩ = some vg ∧ (w.setCell ⟨p, 0, none⟩ V).frozen? ⟨p, 0, none⟩ = false ∧ (w.setCell ⟨p, 0, none⟩ V).frozen? ⟨p, 1, none⟩ = false ∧ (w.setCell ⟨p, 0, none⟩ V).ownsRow B 4 1 vg n2 ys ∧ (w.setCell ⟨p, 0, none⟩ V).ownsRow B 23 3 V n1 xs := by
  refine ⟨World.cell?_setCell_same _ _ _ z0, by rw [World.cell?_setCell_other (h := by simp)]; exact z1, by simpa using z2, by simpa using z3, own_keep rg fun k hk => ?_, own_keep rc fun k hk => ?_⟩
  · exact heap_setCell_other w ⟨p, 0, none⟩ k V (fun e => hg (by rw [hk]; exact congrArg some e))
  · exact heap_setCell_other w ⟨p, 0, none⟩ k V (fun e => hc (by rw [hk]; exact congrArg some e))
theorem full {w : World} {B p : Nat} {vc V V0 : Value} {N : List Int} {G : List Bool} (z0 : w.cell? ⟨p, 0, none⟩ = some vc) (z1 : w.cell? ⟨p, 1, none⟩ = some V0) (z2 : w.frozen? ⟨p, 0, none⟩ = false) (z3 : w.frozen? ⟨p, 1, none⟩ = false) (z4 : p < w.heap.size) (hB : B ≤ p) (rg : w.ownsRow B 4 1 V N.length (G.map Value.bool)) (rc : w.ownsRow B 23 3 vc N.length (spCells (N.map qS))) (ln : G.length = N.length) (ap : Ap vc V) (hc : vc.ownBlock ≠ some p) (hg : V.ownBlock ≠ some p) :
    BkV (w.setCell ⟨p, 1, none⟩ V) B p vc V N G := by
  refine ⟨by rw [World.cell?_setCell_other (h := by simp)]; exact z0, World.cell?_setCell_same _ _ _ z1, by simpa using z2, by simpa using z3, by simpa using z4, hB, own_keep rc fun k hk => ?_, own_keep rg fun k hk => ?_, ln, ap, hc, hg⟩
  · exact heap_setCell_other w ⟨p, 1, none⟩ k V (fun e => hc (by rw [hk]; exact congrArg some e))
  · exact heap_setCell_other w ⟨p, 1, none⟩ k V (fun e => hg (by rw [hk]; exact congrArg some e))
end Go.Proofs.YtebomakihdjllaaDoor
namespace Go.Proofs.YtebomakihdjllaaDoor
open Go.RowKit
set_option maxRecDepth 100000
set_option linter.unusedVariables false
set_option linter.unusedSimpArgs false
set_option maxHeartbeats 4000000 in
theorem bcoins_c (N : List Int) (G : List Bool) (B p : Nat) (w : World) (hBk : BkAt w B p N G) (hN : N.length ≤ 1000000) :
    Calls Tryd.prog 15 #[.pointer (some ⟨p, 0, none⟩)] w fun e w' => ∃ v', e = .returned v' ∧ w'.ownsRow w.heap.size 23 3 v' N.length (spCells (N.map qS)) ∧ Below w.heap.size w w' := by
  obtain ⟨vc, vg, hBk⟩ := hBk
  obtain ⟨a, c, e, hs⟩ := hBk.sp
  have hl : (N.map qS).length = N.length := List.length_map _
  have hcl := cloneS_c (N.map qS) a c w (by omega) hs
  rw [hl] at hcl e
  subst e
  have p0 := hBk.c0
  have pl := hBk.lt
  replace hcl := Lib.hid hcl
  clear hs hBk
  go_enter Tryd.func15, Tryd.ntmps15
  go_wp2_with fail
  refine hcl.out.mono ?_; rintro e w1 ⟨v', rfl, h1, h2⟩
  go_wp2
  go_ret
  exact ⟨v', rfl, h1, h2⟩
/-- The sum of the first k that are not gone. -/
def totN (N : List Int) (G : List Bool) : Nat → Int
  | 0 => 0
  | k + 1 => totN N G k + (if G.getD k true = true then 0 else N.getD k 0)
set_option maxHeartbeats 8000000 in
theorem btotal_c (N : List Int) (G : List Bool) (B p : Nat) (w : World) (hF : FarAt w) (hBk : BkAt w B p N G) (hN : N.length ≤ 1000000) :
    Calls Tryd.prog 14 #[.pointer (some ⟨p, 0, none⟩)] w fun e w' => e = .returned (spV (qS (totN N G N.length))) ∧ Below w.heap.size w w' := by
  obtain ⟨vc, vg, hBk⟩ := hBk
  obtain ⟨ac, cc, rfl⟩ := own_slB hBk.rc
  obtain ⟨ag, cg, rfl⟩ := own_slB hBk.rg
  have hNs : 0 < N.length → ∃ b o, ac = some ⟨b, o, none⟩ ∧ SpotsAt w b o (N.map qS) := fun h => by
    obtain ⟨a, c, e, hs⟩ := hBk.sp
    simp only [Value.slice.injEq] at e
    obtain ⟨rfl, -, -⟩ := e
    exact hs (by rw [List.length_map]; exact h)
  have hGs : 0 < N.length → ∃ b o, ag = some ⟨b, o, none⟩ ∧ BolsAt w b o G := fun h => by
    obtain ⟨a, c, e, hs⟩ := hBk.bo
    simp only [Value.slice.injEq] at e
    obtain ⟨rfl, -, -⟩ := e
    exact hs (by rw [hBk.ln]; exact h)
  have hGl := hBk.ln
  have p0 := hBk.c0
  have p1 := hBk.c1
  have hp := hBk.lt
  have hcp := Lib.hid (fun (w' : World) (hb : Below w.heap.size w w') => (⟨((bcell hb).1 _ 0 hp).trans p0, ((bcell hb).1 _ 1 hp).trans p1, Nat.lt_of_lt_of_le hp hb.size⟩ : w'.cell? ⟨p, 0, none⟩ = some (.slice ac N.length cc) ∧ w'.cell? ⟨p, 1, none⟩ = some (.slice ag N.length cg) ∧ p < w'.heap.size))
  clear hBk
  replace hNs := Lib.hid hNs
  replace hGs := Lib.hid hGs
  have hF' := Lib.hid hF
  obtain ⟨q0, q1, q2, ql⟩ := hF
  go_enter Tryd.func14, Tryd.ntmps14
  go_wp2
  have t0 : SpAt ((w.alloc (.cells #[.int .i64 0, .int .i64 0, .bool false] 23)).alloc (.cells #[.int .i64 0, .int .i64 0, .bool true] 23)) w.heap.size ⟨0, 0, false⟩ := (SpAt.fresh _ _ _ _ _).alloc _
  have t1 : SpAt ((w.alloc (.cells #[.int .i64 0, .int .i64 0, .bool false] 23)).alloc (.cells #[.int .i64 0, .int .i64 0, .bool true] 23)) (w.heap.size + 1) ⟨0, 0, true⟩ := SpAt.fresh1 _ _ _ _ _ _
  have tb := balloc (below_alloc w (.cells #[.int .i64 0, .int .i64 0, .bool false] 23)) (.cells #[.int .i64 0, .int .i64 0, .bool true] 23)
  replace t0 := Lib.hid t0
  replace t1 := Lib.hid t1
  replace tb := Lib.hid tb
  clear q0 q1 q2 ql
  generalize (w.alloc (.cells #[.int .i64 0, .int .i64 0, .bool false] 23)).alloc (.cells #[.int .i64 0, .int .i64 0, .bool true] 23) = w0 at *
  clear p0 p1
  go_loopw [12] (fun i wr => ∃ n : Nat, n ≤ N.length ∧ i = .int .i64 n ∧ SpAt wr w.heap.size ⟨0, 0, false⟩ ∧ SpAt wr (w.heap.size + 1) (qS (totN N G n)) ∧ Below w.heap.size w wr) (fun i _ => N.length - (intOf i).toNat)
  case atStart => exact ⟨0, Nat.zero_le _, rfl, t0.out, (by show SpAt w0 _ (qS 0); rw [qS_zero]; exact t1.out), tb.out⟩
  case round =>
    clear t0 t1 tb
    obtain ⟨n, hn, rfl, hr, ho, hB⟩ := hrel
    have hol := ho.lt
    have hrl := hr.lt
    replace hr := Lib.hid hr
    replace ho := Lib.hid ho
    replace hB := Lib.hid hB
    by_cases hlt : n < N.length
    · obtain ⟨bc, oc, rfl, hsN⟩ := hNs.out (by omega)
      obtain ⟨bg, og, rfl, hsG⟩ := hGs.out (by omega)
      have hjm : n < (N.map qS).length := by rw [List.length_map]; exact hlt
      have hjG : n < G.length := by omega
      have l1 := (hsN.below hB.out).cx n hjm
      have l2 := (hsN.below hB.out).cy n hjm
      have l3 := (hsN.below hB.out).cf n hjm
      have l4 := (hsN.below hB.out).lt
      rw [List.getElem_map] at l1 l2 l3
      have m1 := (hsG.below hB.out).c n hjG
      have m2 := (hsG.below hB.out).lt
      obtain ⟨r0, r1, r2⟩ := hcp.out _ hB.out
      have hst : totN N G (n + 1) = totN N G n + (if G[n] = true then 0 else N[n]) := by
        show totN N G n + _ = _
        rw [List.getD_eq_getElem?_getD, List.getElem?_eq_getElem hjG, List.getD_eq_getElem?_getD, List.getElem?_eq_getElem hlt]; rfl
      have oA := qS_ok N[n]
      have oS := qS_ok (totN N G n)
      have hsum : Hid (sSum (qS (totN N G n)) (qS N[n]) = qS (totN N G n + N[n])) := Lib.hid (qS_add _ _)
      replace hst := Lib.hid hst
      clear hsN hsG hNs hGs
      generalize N[n] = a at *
      generalize G[n] = gn at *
      generalize qS a = A at *
      obtain ⟨o0', o1', o2', of0, of1, of2, ol⟩ := ho.out
      cases gn
      · obtain ⟨D, hD⟩ : ∃ D, qS (totN N G n + a) = D := ⟨_, rfl⟩
        rw [hD] at hsum
        replace hD := Lib.hid hD
        generalize qS (totN N G n) = S at *
        go_wp2_with fail
        refine (sum_e S A D _ (hF'.out.below (balloc hB.out _)) oS oA hsum).mono ?_; rintro e w2 ⟨rfl, hb2⟩
        have hr2 := (hr.out.alloc _).below hb2
        have ho2 := (ho.out.alloc _).below hb2
        have ho2' := Lib.hid ho2
        have hB2 := Lib.hid (below_seq (balloc hB.out _) hb2)
        clear l1 l2 l3 l4 m1 m2 r0 r1 r2 o0' o1' o2' of0 of1 of2 ol hb2
        obtain ⟨o0', o1', o2', of0, of1, of2, ol⟩ := ho2
        go_wp2
        go_roundw
        case rel => exact ⟨n + 1, by omega, by go_num, hr2.set3o (by omega) _ _ _, by rw [hst.out, if_neg (by simp), hD.out]; exact ho2'.out.set3 _, set3_below hB2.out (by omega)⟩
        case measure => simp [intOf]; omega
      · go_wp2
        go_roundw
        case rel => exact ⟨n + 1, by omega, by go_num, hr.out.alloc _, by rw [hst.out, if_pos rfl, Int.add_zero]; exact ho.out.alloc _, balloc hB.out _⟩
        case measure => simp [intOf]; omega
    · obtain rfl : n = N.length := by omega
      obtain ⟨k0, k1, k2, kf0, kf1, kf2, kl⟩ := hr.out
      obtain ⟨o0', o1', o2', of0, of1, of2, ol⟩ := ho.out
      generalize hDe : qS (totN N G N.length) = D at *
      replace hDe := Lib.hid hDe
      go_wp2
      have kk' := set3_cell (w := wr) (x := .int .i64 D.x) (y := .int .i64 D.y) (z := .bool D.far) k0 k1 k2
      refine bodyPost_ret (v := spV D) (by simp [results, Tryd.results14, go_sem, kk'.1, kk'.2.1, kk'.2.2]) rfl ⟨by rw [hDe.out], set3_below hB.out (Nat.le_refl _)⟩
/-- The places of the first k that are not gone. -/
def liveN (G : List Bool) : Nat → List Int
  | 0 => []
  | k + 1 => liveN G k ++ (if G.getD k true = true then [] else [(k : Int)])
theorem liveN_len (G : List Bool) : ∀ k, (liveN G k).length ≤ k
  | 0 => Nat.le_refl _
  | k + 1 => by have := liveN_len G k; unfold liveN; rw [List.length_append]; split <;> simp <;> omega
set_option maxHeartbeats 8000000 in
theorem blive_c (N : List Int) (G : List Bool) (B p : Nat) (w : World) (hBk : BkAt w B p N G) (hN : N.length ≤ 1000000) :
    Calls Tryd.prog 13 #[.pointer (some ⟨p, 0, none⟩)] w fun e w' => ∃ v', e = .returned v' ∧ w'.ownsRow w.heap.size 3 1 v' (liveN G N.length).length ((liveN G N.length).map (Value.int .i64)) ∧ Below w.heap.size w w' := by
  obtain ⟨vc, vg, hBk⟩ := hBk
  obtain ⟨ag, cg, rfl⟩ := own_slB hBk.rg
  have hGs : 0 < N.length → ∃ b o, ag = some ⟨b, o, none⟩ ∧ BolsAt w b o G := fun h => by
    obtain ⟨a, c, e, hs⟩ := hBk.bo
    simp only [Value.slice.injEq] at e
    obtain ⟨rfl, -, -⟩ := e
    exact hs (by rw [hBk.ln]; exact h)
  have hGl := hBk.ln
  have p1 := hBk.c1
  have hp := hBk.lt
  clear hBk
  replace hGs := Lib.hid hGs
  go_enter Tryd.func13, Tryd.ntmps13
  go_wp2
  clear p1
  go_loopw [3, 11] (fun v i wr => ∃ n : Nat, n ≤ N.length ∧ i = .int .i64 n ∧ wr.ownsRow w.heap.size 3 1 v (liveN G n).length ((liveN G n).map (Value.int .i64)) ∧ Below w.heap.size w wr) (fun _ i _ => N.length - (intOf i).toNat)
  case atStart => exact ⟨0, Nat.zero_le _, rfl, World.ownsRow_nil _ _ _ _, Below.refl _ _⟩
  case round =>
    obtain ⟨n, hn, rfl, hown, hB⟩ := hrel
    replace hown := Lib.hid hown
    replace hB := Lib.hid hB
    by_cases hlt : n < N.length
    · obtain ⟨bg, og, rfl, hsG⟩ := hGs.out (by omega)
      have hjG : n < G.length := by omega
      have m1 := (hsG.below hB.out).c n hjG
      have m2 := (hsG.below hB.out).lt
      have hz := hB.out.size
      have hll := liveN_len G n
      have hst : Hid (liveN G (n + 1) = liveN G n ++ (if G[n] = true then [] else [(n : Int)])) := by
        show _ = _
        show liveN G n ++ _ = _
        rw [List.getD_eq_getElem?_getD, List.getElem?_eq_getElem hjG]; rfl
      clear hsG hGs
      generalize G[n] = gn at *
      cases gn
      · rw [if_neg (by simp)] at hst
        go_wp2_with (first | (at_builtin; refine wpl_append_int rfl _ _ _ rfl (by kernel_rfl) w.heap.size _ (liveN G n) (liveN G n).length rfl (hown.out.alloc _) rfl (by omega) (by simp only [World.size_alloc]; omega) wr.heap.size (n : Int) rfl (by go_simp) ?_; intro v1 w7 hown' hgrow hbel hloc; replace hown' := Lib.hid hown'; replace hbel := Lib.hid (hbel w (balloc hB.out _)); clear hgrow hloc) | fail)
        go_wp2
        go_roundw
        case rel => exact ⟨n + 1, by omega, by go_num, by rw [hst.out, List.length_append]; exact hown'.out, hbel.out⟩
        case measure => simp [intOf]; omega
      · rw [if_pos rfl, List.append_nil] at hst
        go_wp2
        go_roundw
        case rel => exact ⟨n + 1, by omega, by go_num, by rw [hst.out]; exact hown.out, hB.out⟩
        case measure => simp [intOf]; omega
    · obtain rfl : n = N.length := by omega
      go_wp2
      go_ret
      exact ⟨_, rfl, hown.out, hB.out⟩
end Go.Proofs.YtebomakihdjllaaDoor
namespace Go.Proofs.YtebomakihdjllaaDoor
open Go.RowKit
/-- A number of the greater field, as the program has it. -/
abbrev twR (z : Z) : Value := .agg #[.int .i64 (fz z.re), .int .i64 (fz z.im)]
structure TwMem (w wr : World) (za zb oa ob : Int) : Prop where
  a0 : wr.cell? ⟨w.heap.size, 0, none⟩ = some (.int .i64 za)
  a1 : wr.cell? ⟨w.heap.size, 1, none⟩ = some (.int .i64 zb)
  o0 : wr.cell? ⟨w.heap.size + 1 + 1, 0, none⟩ = some (.int .i64 oa)
  o1 : wr.cell? ⟨w.heap.size + 1 + 1, 1, none⟩ = some (.int .i64 ob)
  r0 : wr.cell? ⟨w.heap.size + 1, 0, none⟩ = some (.int .i64 0)
  r1 : wr.cell? ⟨w.heap.size + 1, 1, none⟩ = some (.int .i64 0)
  fa0 : wr.frozen? ⟨w.heap.size, 0, none⟩ = false
  fa1 : wr.frozen? ⟨w.heap.size, 1, none⟩ = false
  fo0 : wr.frozen? ⟨w.heap.size + 1 + 1, 0, none⟩ = false
  fo1 : wr.frozen? ⟨w.heap.size + 1 + 1, 1, none⟩ = false
  fr0 : wr.frozen? ⟨w.heap.size + 1, 0, none⟩ = false
  fr1 : wr.frozen? ⟨w.heap.size + 1, 1, none⟩ = false
  sz : w.heap.size + 1 + 1 < wr.heap.size
  bel : Below w.heap.size w wr
theorem TwMem.below {w wr w1 : World} {za zb oa ob : Int} (h : TwMem w wr za zb oa ob) (hb : Below wr.heap.size wr w1) : TwMem w w1 za zb oa ob := by
  obtain ⟨a0, a1, o0, o1, r0, r1, fa0, fa1, fo0, fo1, fr0, fr1, hsz, hbel⟩ := h
  obtain ⟨hc, hf⟩ := bcell hb
  have := hb.size
  exact ⟨(hc _ _ (by omega)).trans a0, (hc _ _ (by omega)).trans a1, (hc _ _ (by omega)).trans o0, (hc _ _ (by omega)).trans o1, (hc _ _ (by omega)).trans r0, (hc _ _ (by omega)).trans r1,
    (hf _ _ (by omega)).trans fa0, (hf _ _ (by omega)).trans fa1, (hf _ _ (by omega)).trans fo0, (hf _ _ (by omega)).trans fo1, (hf _ _ (by omega)).trans fr0, (hf _ _ (by omega)).trans fr1, by omega, hbel.trans (hb.mono hbel.size)⟩
theorem set2_cell {w : World} {b : Nat} {u v x y : Value} (h0 : w.cell? ⟨b, 0, none⟩ = some u) (h1 : w.cell? ⟨b, 1, none⟩ = some v) :
    ((w.setCell ⟨b, 0, none⟩ x).setCell ⟨b, 1, none⟩ y).cell? ⟨b, 0, none⟩ = some x ∧ ((w.setCell ⟨b, 0, none⟩ x).setCell ⟨b, 1, none⟩ y).cell? ⟨b, 1, none⟩ = some y := by
  constructor
  · rw [World.cell?_setCell_other (h := by simp)]; exact World.cell?_setCell_same _ _ _ h0
  · exact World.cell?_setCell_same _ _ _ (by rw [World.cell?_setCell_other (h := by simp)]; exact h1)
theorem set2_other {w : World} {b c k : Nat} {x y : Value} (h : b ≠ c) : ((w.setCell ⟨b, 0, none⟩ x).setCell ⟨b, 1, none⟩ y).cell? ⟨c, k, none⟩ = w.cell? ⟨c, k, none⟩ := by
  rw [World.cell?_setCell_other (h := fun e => h (congrArg Addr.block e)), World.cell?_setCell_other (h := fun e => h (congrArg Addr.block e))]
theorem set2_below {B : Nat} {a w : World} {b : Nat} {x y : Value} (h : Below B a w) (hb : B ≤ b) : Below B a ((w.setCell ⟨b, 0, none⟩ x).setCell ⟨b, 1, none⟩ y) := (h.setCell hb x).setCell hb y
theorem set2_size {w : World} {b : Nat} {x y : Value} : ((w.setCell ⟨b, 0, none⟩ x).setCell ⟨b, 1, none⟩ y).heap.size = w.heap.size := by simp [World.setCell]
theorem TwMem.setO {w wr : World} {za zb oa ob x y : Int} (h : TwMem w wr za zb oa ob) : TwMem w ((wr.setCell ⟨w.heap.size + 1 + 1, 0, none⟩ (.int .i64 x)).setCell ⟨w.heap.size + 1 + 1, 1, none⟩ (.int .i64 y)) za zb x y := by
  obtain ⟨a0, a1, o0, o1, r0, r1, fa0, fa1, fo0, fo1, fr0, fr1, hsz, hbel⟩ := h
  have k := set2_cell (x := .int .i64 x) (y := .int .i64 y) o0 o1
  refine ⟨?_, ?_, k.1, k.2, ?_, ?_, ?_, ?_, ?_, ?_, ?_, ?_, by rw [set2_size]; exact hsz, set2_below hbel (by omega)⟩
  · rw [set2_other (by omega)]; exact a0
  · rw [set2_other (by omega)]; exact a1
  · rw [set2_other (by omega)]; exact r0
  · rw [set2_other (by omega)]; exact r1
  all_goals simp only [World.frozen?_setCell]; assumption
theorem TwMem.setA {w wr : World} {za zb oa ob x y : Int} (h : TwMem w wr za zb oa ob) : TwMem w ((wr.setCell ⟨w.heap.size, 0, none⟩ (.int .i64 x)).setCell ⟨w.heap.size, 1, none⟩ (.int .i64 y)) x y oa ob := by
  obtain ⟨a0, a1, o0, o1, r0, r1, fa0, fa1, fo0, fo1, fr0, fr1, hsz, hbel⟩ := h
  have k := set2_cell (x := .int .i64 x) (y := .int .i64 y) a0 a1
  refine ⟨k.1, k.2, ?_, ?_, ?_, ?_, ?_, ?_, ?_, ?_, ?_, ?_, by rw [set2_size]; exact hsz, set2_below hbel (by omega)⟩
  · rw [set2_other (by omega)]; exact o0
  · rw [set2_other (by omega)]; exact o1
  · rw [set2_other (by omega)]; exact r0
  · rw [set2_other (by omega)]; exact r1
  all_goals simp only [World.frozen?_setCell]; assumption
end Go.Proofs.YtebomakihdjllaaDoor
namespace Go.Proofs.YtebomakihdjllaaDoor
open Go.RowKit
end Go.Proofs.YtebomakihdjllaaDoor
namespace Go.Proofs.YtebomakihdjllaaDoor
open Go.RowKit
set_option maxRecDepth 100000
set_option linter.unusedVariables false
set_option linter.unusedSimpArgs false
/-- A number of the greater field in memory. -/
structure TwAt (w : World) (b : Nat) (z : Z) : Prop where
  c0 : w.cell? ⟨b, 0, none⟩ = some (.int .i64 (fz z.re))
  c1 : w.cell? ⟨b, 1, none⟩ = some (.int .i64 (fz z.im))
  f0 : w.frozen? ⟨b, 0, none⟩ = false
  f1 : w.frozen? ⟨b, 1, none⟩ = false
  lt : b < w.heap.size
theorem TwAt.below {w w' : World} {b : Nat} {z : Z} (h : TwAt w b z) (hb : Below w.heap.size w w') : TwAt w' b z :=
  ⟨(hb.cell (p := ⟨b, 0, none⟩) h.lt).trans h.c0, (hb.cell (p := ⟨b, 1, none⟩) h.lt).trans h.c1, (hb.frozen (p := ⟨b, 0, none⟩) h.lt).trans h.f0, (hb.frozen (p := ⟨b, 1, none⟩) h.lt).trans h.f1, Nat.lt_of_lt_of_le h.lt hb.size⟩
theorem TwAt.set2 {w : World} {b : Nat} {z : Z} (h : TwAt w b z) (v : Z) : TwAt ((w.setCell ⟨b, 0, none⟩ (.int .i64 (fz v.re))).setCell ⟨b, 1, none⟩ (.int .i64 (fz v.im))) b v := by
  have k := set2_cell (x := .int .i64 (fz v.re)) (y := .int .i64 (fz v.im)) h.c0 h.c1
  exact ⟨k.1, k.2, by simp only [World.frozen?_setCell]; exact h.f0, by simp only [World.frozen?_setCell]; exact h.f1, by simpa [World.setCell] using h.lt⟩
theorem cell_else {w : World} {b c o k : Nat} (x : Value) (h : c ≠ b) : (w.setCell ⟨c, o, none⟩ x).cell? ⟨b, k, none⟩ = w.cell? ⟨b, k, none⟩ :=
  by rw [World.cell?_setCell_other (h := fun e => h (congrArg Addr.block e))]
theorem TwAt.other {w : World} {b c o : Nat} {z : Z} (h : TwAt w b z) (x : Value) (hne : c ≠ b) : TwAt (w.setCell ⟨c, o, none⟩ x) b z :=
  ⟨(cell_else x hne).trans h.c0, (cell_else x hne).trans h.c1, by simp only [World.frozen?_setCell]; exact h.f0, by simp only [World.frozen?_setCell]; exact h.f1, by simpa [World.setCell] using h.lt⟩
theorem SpAt.other {w : World} {b c o : Nat} {s : Sp} (h : SpAt w b s) (x : Value) (hne : c ≠ b) : SpAt (w.setCell ⟨c, o, none⟩ x) b s :=
  ⟨(cell_else x hne).trans h.c0, (cell_else x hne).trans h.c1, (cell_else x hne).trans h.c2, by simp only [World.frozen?_setCell]; exact h.f0, by simp only [World.frozen?_setCell]; exact h.f1, by simp only [World.frozen?_setCell]; exact h.f2, by simpa [World.setCell] using h.lt⟩
theorem slope_n (a b : Sp) (w : World) (h : sSlope a b = none) : Calls Tryd.prog 58 #[spV a, spV b] w fun e w' => e = .returned (.tuple #[.int .i64 0, .bool false]) ∧ Below w.heap.size w w' := by
  obtain ⟨x, y, f⟩ := a; obtain ⟨u, v, g⟩ := b
  unfold sSlope at h
  split at h
  · cases h
  · rename_i hx
    have hx' : x = u := Decidable.of_not_not hx
    split at h
    · rename_i hy
      by_cases e : y = v
      · have e0 : y = 0 := by rcases hy with h | h; exact absurd e h; exact h
        exact slope_upright2 x y u v f g w (by simpa using hx') (by simpa using e) (by simpa using e0)
      · exact slope_upright1 x y u v f g w (by simpa using hx') (by simpa using e)
    · cases h
theorem slope_s (a b : Sp) (s : Int) (w : World) (h : sSlope a b = some s) (ha : Ok a) : Calls Tryd.prog 58 #[spV a, spV b] w fun e w' => e = .returned (.tuple #[.int .i64 s, .bool true]) ∧ Below w.heap.size w w' := by
  have y0 := ha.y0; have y1 := ha.y1
  obtain ⟨x, y, f⟩ := a; obtain ⟨u, v, g⟩ := b
  unfold sSlope at h
  split at h
  · rename_i hx
    cases h
    exact slope_unlike x y u v f g w (by simpa using hx)
  · rename_i hx
    have hx' : x = u := Decidable.of_not_not hx
    split at h
    · cases h
    · rename_i hy
      cases h
      exact slope_same x y u v f g w (by simpa using hx') (by simp only [not_or] at hy; simpa using hy.1) (by simp only [not_or] at hy; simpa using hy.2) y0 y1
theorem twR_one : twR .one = .agg #[.int .i64 1, .int .i64 0] := rfl
theorem agg2_eq {a b c d : Int} (h : a = c) (k : b = d) : Ending.returned (.agg #[.int .i64 a, .int .i64 b]) = .returned (.agg #[.int .i64 c, .int .i64 d]) := by rw [h, k]
theorem line_alg (a t : Sp) (s : Int) (ht : 0 ≤ t.y ∧ t.y < 4051) : pSub (pMul s (t.x + a.x)) a.y = fz (⟨fi s * (fi t.x + fi a.x) - fi a.y, fi t.y⟩ : Z).re ∧ t.y = fz (⟨fi s * (fi t.x + fi a.x) - fi a.y, fi t.y⟩ : Z).im :=
  ⟨fz_eq (r_pSub _ _) (by rw [fi_pSub, fi_pMul, fi_add]), fz_eq ht rfl⟩
end Go.Proofs.YtebomakihdjllaaDoor
namespace Go.Proofs.YtebomakihdjllaaDoor
open Go.RowKit
set_option maxRecDepth 100000
set_option linter.unusedVariables false
set_option linter.unusedSimpArgs false
theorem take_snoc {α : Type} (l : List α) (n : Nat) (h : n < l.length) : l.take (n + 1) = l.take n ++ [l[n]] := by
  rw [List.take_add_one, List.getElem?_eq_getElem h]; rfl
end Go.Proofs.YtebomakihdjllaaDoor
namespace Go.Proofs.YtebomakihdjllaaDoor
open Go.RowKit
set_option maxRecDepth 100000
set_option linter.unusedVariables false
set_option linter.unusedSimpArgs false
/-- The error, as nothing or something. -/
theorem errV_0 : errV 0 = .nilIface := rfl
theorem groupF_0 {xs ks : List Int} {n : Nat} (h : groupF xs ks n = 0) : xs.length ≤ 12 ∧ ks.length = xs.length ∧ (∀ i (h : i < xs.length), 1 ≤ xs[i] ∧ xs[i] < 1013) ∧ (∀ i (h : i < ks.length), 1 ≤ ks[i] ∧ ks[i] < 1013) ∧ n ≤ 60 := by
  unfold groupF at h
  split at h
  · exact absurd h (by decide)
  split at h
  · exact absurd h (by decide)
  split at h
  · rename_i g1 g2 g3
    rw [Bool.and_eq_true] at g3
    split at h
    · exact absurd h (by decide)
    · exact ⟨by omega, by omega, fun i hi => okB_y (all_get g3.1 i hi), fun i hi => okB_y (all_get g3.2 i hi), by omega⟩
  · exact absurd h (by decide)
/-- A block of four cells, a seal's, all zero. -/
structure Z4 (w : World) (b : Nat) : Prop where
  c0 : w.cell? ⟨b, 0, none⟩ = some (.int .i64 0)
  c1 : w.cell? ⟨b, 1, none⟩ = some (.int .i64 0)
  c2 : w.cell? ⟨b, 2, none⟩ = some (.bool false)
  c3 : w.cell? ⟨b, 3, none⟩ = some (.int .i64 0)
  f0 : w.frozen? ⟨b, 0, none⟩ = false
  f1 : w.frozen? ⟨b, 1, none⟩ = false
  f2 : w.frozen? ⟨b, 2, none⟩ = false
  f3 : w.frozen? ⟨b, 3, none⟩ = false
  lt : b < w.heap.size
theorem Z4.below {w w' : World} {b : Nat} (h : Z4 w b) (hb : Below w.heap.size w w') : Z4 w' b := by
  obtain ⟨k, k'⟩ := bcell hb
  exact ⟨(k _ _ h.lt).trans h.c0, (k _ _ h.lt).trans h.c1, (k _ _ h.lt).trans h.c2, (k _ _ h.lt).trans h.c3, (k' _ _ h.lt).trans h.f0, (k' _ _ h.lt).trans h.f1, (k' _ _ h.lt).trans h.f2, (k' _ _ h.lt).trans h.f3, Nat.lt_of_lt_of_le h.lt hb.size⟩
theorem Z4.fresh (w : World) (t : TypeId) : Z4 (w.alloc (.cells #[.int .i64 0, .int .i64 0, .bool false, .int .i64 0] t)) w.heap.size := ⟨by simp, by simp, by simp, by simp, by simp, by simp, by simp, by simp, by simp⟩
theorem mul_1 {a b : Int} (h0 : 0 ≤ a) (h1 : a < 1013) (k0 : 0 ≤ b) (k1 : b < 1013) : 0 ≤ a * b ∧ a * b ≤ 1024144 :=
  ⟨Int.mul_nonneg h0 k0, Int.le_trans (Int.mul_le_mul (show a ≤ 1012 by omega) (show b ≤ 1012 by omega) k0 (by decide)) (by decide)⟩
end Go.Proofs.YtebomakihdjllaaDoor
namespace Go.Proofs.YtebomakihdjllaaDoor
open Go.RowKit
set_option maxRecDepth 100000
set_option linter.unusedVariables false
set_option linter.unusedSimpArgs false
theorem rlist_sl (l : List Sp) (v : Value) (w : World) (hl : l.length ≤ 12) (hs : SpSl w v l) (hok : ∀ z ∈ l, Ok z) :
    Calls Tryd.prog 45 #[v] w fun e w' => e = .returned (.string (lsB l.length l)) ∧ Below w.heap.size w w' := by
  obtain ⟨a, cap, rfl, hs⟩ := hs
  cases l with
  | nil => exact refList_nil a cap w
  | cons s l =>
    obtain ⟨b, off, rfl, hs'⟩ := hs (Nat.succ_pos _)
    exact refList_ok (s :: l) b off cap w hl hs' (Lib.hid fun i h => hok _ (List.getElem_mem h))
theorem refNumber_n (s : ByteArray) (n : Int) (w : World) (hs : s.size ≤ 9223372036854775807) (h : Hid (hnum s.data.toList = n)) : Calls Tryd.prog 44 #[.string s] w fun e w' => e = .returned (.int .i64 n) ∧ Below w.heap.size w w' := by
  rw [← h.out]; exact refNumber_c s w hs
set_option maxHeartbeats 4000000 in
theorem ints_same (l : List Int) (v1 v2 : Value) (w : World) (hl : l.length ≤ 1000000) (h1 : IntSl w v1 l) (h2 : IntSl w v2 l) :
    Calls Tryd.prog 27 #[v1, v2] w fun e w' => e = .returned (.bool true) ∧ Below w.heap.size w w' := by
  obtain ⟨a1, c1, rfl, i1⟩ := h1
  obtain ⟨a2, c2, rfl, i2⟩ := h2
  replace i1 := Lib.hid i1
  replace i2 := Lib.hid i2
  have g1 : ((l.length : Int) != (l.length : Int)) = false := by simp
  go_enter Tryd.func27, Tryd.ntmps27
  go_wp2
  go_loopw [5] (fun i wr => ∃ n : Nat, n ≤ l.length ∧ i = .int .i64 n ∧ Below w.heap.size w wr) (fun i _ => l.length - (intOf i).toNat)
  case atStart => exact ⟨0, Nat.zero_le _, rfl, Below.refl _ _⟩
  case round =>
    obtain ⟨n, hn, rfl, hb⟩ := hrel
    replace hb := Lib.hid hb
    by_cases hlt : n < l.length
    · obtain ⟨b1, o1, rfl, l1⟩ := i1.out (by omega)
      obtain ⟨b2, o2, rfl, l2⟩ := i2.out (by omega)
      have k1 := (l1.below hb.out).c n hlt
      have k2 := (l2.below hb.out).c n hlt
      have k3 := (l1.below hb.out).lt
      have k4 := (l2.below hb.out).lt
      clear l1 l2
      generalize l[n] = x at *
      go_wp2_with fail
      go_quiet (fail)
      go_wp2
      go_roundw
      case rel => exact ⟨n + 1, by omega, by go_num, (by repeat (first | exact hb.out | refine below_drewN ?_ _ | refine Below.drew ?_))⟩
      case measure => simp [intOf]; omega
    · obtain rfl : n = l.length := by omega
      go_wp2
      go_ret
      exact ⟨rfl, hb.out⟩
end Go.Proofs.YtebomakihdjllaaDoor
namespace Go.Proofs.YtebomakihdjllaaDoor
open Go.RowKit
set_option maxRecDepth 100000
set_option linter.unusedVariables false
set_option linter.unusedSimpArgs false
set_option maxHeartbeats 4000000 in
theorem rcoins_core (L : List Sp) (kk : Nat) (E : Int) (a1 : Option Addr) (c : Nat) (w : World) (hl : L.length ≤ 12) (hL : 0 < L.length → ∃ b o, a1 = some ⟨b, o, none⟩ ∧ SpotsAt w b o L) (h : Hid (∀ k (h1 : k < L.length), k < kk → ∃ n, L[k] = qS n)) (hkk : kk ≤ L.length) (hbad : Hid (∀ h : kk < L.length, NoCoin L[kk]))
    (hR0 : Hid (kk < L.length → E = 3)) (hR1 : Hid (kk = L.length → E = 0)) :
    Calls Tryd.prog 23 #[.slice a1 L.length c] w fun e w' => e = .returned (.int .i64 E) ∧ Below w.heap.size w w' := by
  have hL' := Lib.hid hL
  have hd : decide ((12 : Int) < (L.length : Int)) = false := by rw [decide_eq_false_iff_not]; omega
  clear hL
  go_enter Tryd.func23, Tryd.ntmps23
  go_wp2
  go_loopw [3] (fun i wr => ∃ n : Nat, n ≤ L.length ∧ n ≤ kk ∧ i = .int .i64 n ∧ Below w.heap.size w wr) (fun i _ => L.length - (intOf i).toNat)
  case atStart => exact ⟨0, Nat.zero_le _, Nat.zero_le _, rfl, Below.refl _ _⟩
  case round =>
    obtain ⟨n, hn, hnk, rfl, hB⟩ := hrel
    replace hB := Lib.hid hB
    by_cases hlt : n < L.length
    · obtain ⟨b, o, rfl, hs0⟩ := hL'.out (by omega)
      have hsL := hs0.below hB.out
      have l1 := hsL.cx n hlt
      have l2 := hsL.cy n hlt
      have l3 := hsL.cf n hlt
      have l4 := hsL.lt
      have hgd := Lib.hid (h.out n hlt)
      have hbd := Lib.hid (fun e : n = kk => hbad.out (by omega))
      have hR0' := Lib.hid (fun e : n = kk => hR0.out (by omega))
      have hbn : n = kk → NoCoin L[n] := fun e => by subst e; exact hbad.out hlt
      replace hbn := Lib.hid hbn
      clear hsL hs0 h hbad hR0 hR1 hbd
      generalize L[n] = A at *
      by_cases hlk : n < kk
      · obtain ⟨m, rfl⟩ := hgd.out hlk
        have cC := Lib.hid (fun (w1 : World) => refSpot_e (qS m) 0 w1 (Lib.hid ((ok_iff _).mpr (qS_ok m))))
        have cI := Lib.hid (fun (w1 : World) => refIn_e (qS m) (4 * m) true w1 (Lib.hid rfl) (Lib.hid (sq_far.mpr (by omega))))
        generalize qS m = A at *
        go_wp2_with fail
        refine (cC.out _).mono ?_; rintro e w1 ⟨rfl, hb1⟩
        have hB1 := Lib.hid (below_seq hB.out hb1)
        have k1 := ((bcell hb1).1 _ _ l4).trans l1
        have k2 := ((bcell hb1).1 _ _ l4).trans l2
        have k3 := ((bcell hb1).1 _ _ l4).trans l3
        have k4 := Nat.lt_of_lt_of_le l4 hb1.size
        clear l1 l2 l3 l4 cC hb1
        go_wp2_with fail
        refine (cI.out _).mono ?_; rintro e w2 ⟨rfl, hb2⟩
        have hB2 := below_seq hB1.out hb2
        clear k1 k2 k3 k4
        go_wp2
        go_roundw
        case rel => exact ⟨n + 1, by omega, by omega, by go_num, hB2⟩
        case measure => simp [intOf]; omega
      · have hnk' : n = kk := by omega
        have hR := hR0'.out hnk'
        have hNo := hbn.out hnk'
        clear hnk' hbn hgd hR0' hlk
        rcases hNo with ⟨E1, e1, e2⟩ | ⟨u, rfl, e2⟩
        · have cC := Lib.hid (fun (w1 : World) => refSpot_e A E1 w1 (Lib.hid e1))
          have e3 : (E1 != 0) = true := by simpa using e2
          clear e1 e2
          go_wp2_with fail
          refine (cC.out _).mono ?_; rintro e w1 ⟨rfl, hb1⟩
          have hB2 := below_seq hB.out hb1
          clear l1 l2 l3 l4 cC
          go_wp2
          go_ret
          exact ⟨by rw [hR]; rfl, hB2⟩
        · have cC := Lib.hid (fun (w1 : World) => refSpot_e (sq u) 0 w1 (Lib.hid ((ok_iff _).mpr (sq_ok u))))
          have cI := Lib.hid (fun (w1 : World) => refIn_e (sq u) u false w1 (Lib.hid rfl) (Lib.hid e2))
          generalize sq u = A at *
          go_wp2_with fail
          refine (cC.out _).mono ?_; rintro e w1 ⟨rfl, hb1⟩
          have hB1 := Lib.hid (below_seq hB.out hb1)
          have k1 := ((bcell hb1).1 _ _ l4).trans l1
          have k2 := ((bcell hb1).1 _ _ l4).trans l2
          have k3 := ((bcell hb1).1 _ _ l4).trans l3
          have k4 := Nat.lt_of_lt_of_le l4 hb1.size
          clear l1 l2 l3 l4 cC hb1
          go_wp2_with fail
          refine (cI.out _).mono ?_; rintro e w2 ⟨rfl, hb2⟩
          have hB2 := below_seq hB1.out hb2
          clear k1 k2 k3 k4
          go_wp2
          go_ret
          exact ⟨by rw [hR]; rfl, hB2⟩
    · have hR := hR1.out (by omega)
      go_wp2
      go_ret
      exact ⟨by rw [hR]; rfl, hB.out⟩
theorem rcoins_full (n : Nat) (a1 : Option Addr) (c : Nat) (w : World) (h : 12 < n) (hn : n ≤ 9223372036854775807) :
    Calls Tryd.prog 23 #[.slice a1 n c] w fun e w' => e = .returned (.int .i64 4) ∧ Below w.heap.size w w' := by
  go_enter Tryd.func23, Tryd.ntmps23
  go_wp2
  go_ret
  exact ⟨rfl, Below.refl _ _⟩
set_option maxHeartbeats 4000000 in
theorem rbook_y (N : List Int) (a : Option Addr) (c : Nat) (w : World) (hn : N.length ≤ 12) (hL : 0 < (N.map qS).length → ∃ b o, a = some ⟨b, o, none⟩ ∧ SpotsAt w b o (N.map qS)) :
    Calls Tryd.prog 24 #[.slice a N.length c] w fun e w' => ∃ p, e = .returned (.pointer (some ⟨p, 0, none⟩)) ∧ BkAt w' w.heap.size p N (List.replicate N.length false) ∧ Below w.heap.size w w' := by
  have hl : (N.map qS).length = N.length := List.length_map _
  have hmk := mk_bols N.length (by omega)
  obtain ⟨w1, hw1⟩ : ∃ x, x = (w.alloc (.cells (madeCells #[.bool false] N.length) 4)).alloc (.cells #[.slice none 0 0, .slice (some ⟨w.heap.size, 0, none⟩) N.length N.length] 64) := ⟨_, rfl⟩
  have hb1 : Below w.heap.size w w1 := by rw [hw1]; exact balloc (below_alloc _ _) _
  have hrg : w1.ownsRow w.heap.size 4 1 (.slice (some ⟨w.heap.size, 0, none⟩) N.length N.length) N.length ((List.replicate N.length false).map Value.bool) := by rw [hw1]; exact (own_made w w.heap.size N.length (Nat.le_refl _) (by omega)).alloc _
  have p0 : w1.cell? ⟨w.heap.size + 1, 0, none⟩ = some (.slice none 0 0) := by rw [hw1]; go_simp
  have p1 : w1.cell? ⟨w.heap.size + 1, 1, none⟩ = some (.slice (some ⟨w.heap.size, 0, none⟩) N.length N.length) := by rw [hw1]; go_simp
  have f0 : w1.frozen? ⟨w.heap.size + 1, 0, none⟩ = false := by rw [hw1]; go_simp
  have f1 : w1.frozen? ⟨w.heap.size + 1, 1, none⟩ = false := by rw [hw1]; go_simp
  have pl : w.heap.size + 1 < w1.heap.size := by rw [hw1]; simp
  have hA := Lib.hid (AppRun.spots (w := w1) (B := w.heap.size + 2) (v := .slice none 0 0) (l := []) (m := N.map qS) (n := 0) (a := a) (c := c) (World.ownsRow_nil _ _ _ _) (fun h => by obtain ⟨b, o, e, hs⟩ := hL h; exact ⟨b, o, e, hs.below hb1⟩) (by omega) (by omega) (by omega))
  rw [hl] at hA
  replace hb1 := Lib.hid hb1
  replace hrg := Lib.hid hrg
  clear hL
  rw [hw1] at p0 p1 f0 f1 pl hA hb1 hrg
  clear hw1
  go_enter Tryd.func24, Tryd.ntmps24
  go_wp2_with (first | (at_builtin; refine wpl_app (by rfl) _ _ (by rfl) hA.out (by rfl) (by rfl) ?_; intro v' w2 hown hgr hloc; obtain ⟨av, cv, rfl⟩ := own_slB hown; have hbk : ∀ k, k < w.heap.size + 2 → w2.heap[k]? = ((w.alloc (.cells (madeCells #[.bool false] N.length) 4)).alloc (.cells #[.slice none 0 0, .slice (some ⟨w.heap.size, 0, none⟩) N.length N.length] 64)).heap[k]? := fun k hk => hgr.block k (by simp; omega) (by simp [Value.ownBlock]); have n0 := (World.cell?_of_block (a := ⟨w.heap.size + 1, 0, none⟩) (hbk (w.heap.size + 1) (by omega))).trans p0; have n1 := (World.cell?_of_block (a := ⟨w.heap.size + 1, 1, none⟩) (hbk (w.heap.size + 1) (by omega))).trans p1; have n2 := (World.frozen?_of_block (a := ⟨w.heap.size + 1, 0, none⟩) (hbk (w.heap.size + 1) (by omega))).trans f0; have n3 := (World.frozen?_of_block (a := ⟨w.heap.size + 1, 1, none⟩) (hbk (w.heap.size + 1) (by omega))).trans f1; have n4 : w.heap.size + 1 < w2.heap.size := Nat.lt_of_lt_of_le pl hgr.size; have hrg2 := own_keep hrg.out (fun k hk => hbk k (by have := (hrg.out.lt k hk).2; simp at this; omega)); replace hown := Lib.hid hown; replace hgr := Lib.hid hgr; replace hrg2 := Lib.hid hrg2; clear hloc hbk p0 p1 f0 f1 pl) | fail)
  have hne : (Value.slice av (0 + N.length) cv).ownBlock ≠ some (w.heap.size + 1) := fun e => by have := (hown.out.lt _ e).1; omega
  have hng : (Value.slice (some ⟨w.heap.size, 0, none⟩) N.length N.length).ownBlock ≠ some (w.heap.size + 1) := by simp [Value.ownBlock]
  obtain ⟨y0, y1, y2, y3, y5, y6⟩ := half n0 n1 n2 n3 n4 hrg2.out (own_base hown.out (Nat.le_add_right w.heap.size 2)) hne hng
  have hsz := hgr.out.size
  simp at hsz
  have hbe : Below w.heap.size w (w2.setCell ⟨w.heap.size + 1, 0, none⟩ (.slice av (0 + N.length) cv)) := (hb1.out.trans (Below.grown (Below.refl w.heap.size _) hgr.out (by simp; omega) (fun k hk => by simp [Value.ownBlock] at hk))).setCell (p := ⟨w.heap.size + 1, 0, none⟩) (by show w.heap.size ≤ w.heap.size + 1; omega) _
  rw [Nat.zero_add] at *
  go_wp2
  go_ret
  exact ⟨_, rfl, ⟨_, _, ⟨y0, y1, y2, y3, by simpa using n4, by omega, by simpa [spCells] using y6, y5, by simp, fun g h1 h2 => by simp [Value.ownBlock] at h2; have := (hown.out.lt g h1).1; omega, hne, hng⟩⟩, hbe⟩
/-- What is joined of coins. -/
theorem rjoinB_c (M : List Int) (a1 : Option Addr) (c : Nat) (w : World) (hl : M.length ≤ 12) (hL : 0 < M.length → ∃ b o, a1 = some ⟨b, o, none⟩ ∧ SpotsAt w b o (M.map qS)) :
    Calls Tryd.prog 52 #[.slice a1 M.length c] w fun e w' => e = .returned (spV (qS M.sum)) ∧ Below w.heap.size w w' := by
  have hL' := Lib.hid hL
  clear hL
  go_enter Tryd.func52, Tryd.ntmps52
  go_wp2
  have t0 : SpAt ((w.alloc (.cells #[.int .i64 0, .int .i64 0, .bool false] 23)).alloc (.cells #[.int .i64 0, .int .i64 0, .bool true] 23)) w.heap.size ⟨0, 0, false⟩ := (SpAt.fresh _ _ _ _ _).alloc _
  have t1 : SpAt ((w.alloc (.cells #[.int .i64 0, .int .i64 0, .bool false] 23)).alloc (.cells #[.int .i64 0, .int .i64 0, .bool true] 23)) (w.heap.size + 1) ⟨0, 0, true⟩ := SpAt.fresh1 _ _ _ _ _ _
  have tb := balloc (below_alloc w (.cells #[.int .i64 0, .int .i64 0, .bool false] 23)) (.cells #[.int .i64 0, .int .i64 0, .bool true] 23)
  replace t0 := Lib.hid t0
  replace t1 := Lib.hid t1
  replace tb := Lib.hid tb
  generalize (w.alloc (.cells #[.int .i64 0, .int .i64 0, .bool false] 23)).alloc (.cells #[.int .i64 0, .int .i64 0, .bool true] 23) = w0 at *
  go_loopw [4] (fun i wr => ∃ n : Nat, n ≤ M.length ∧ i = .int .i64 n ∧ SpAt wr w.heap.size ⟨0, 0, false⟩ ∧ SpAt wr (w.heap.size + 1) (qS (M.take n).sum) ∧ Below w.heap.size w wr) (fun i _ => M.length - (intOf i).toNat)
  case atStart => exact ⟨0, Nat.zero_le _, rfl, t0.out, (by show SpAt w0 _ (qS 0); rw [qS_zero]; exact t1.out), tb.out⟩
  case round =>
    clear t0 t1 tb
    obtain ⟨n, hn, rfl, hr, ho, hB⟩ := hrel
    have hol := ho.lt
    have hrl := hr.lt
    replace hr := Lib.hid hr
    replace ho := Lib.hid ho
    by_cases hlt : n < M.length
    · obtain ⟨b, o, rfl, hs0⟩ := hL'.out (by omega)
      have hsL := hs0.below hB
      have hjm : n < (M.map qS).length := by rw [List.length_map]; exact hlt
      have l1 := hsL.cx n hjm
      have l2 := hsL.cy n hjm
      have l3 := hsL.cf n hjm
      have l4 := hsL.lt
      rw [List.getElem_map] at l1 l2 l3
      have oA := qS_ok M[n]
      have hs : Hid (sSum (qS (M.take n).sum) (qS M[n]) = qS (M.take (n + 1)).sum) := by show _ = _; rw [qS_add, sumB_snoc M n hlt]
      clear hsL hs0
      generalize qS M[n] = A at *
      have oS := qS_ok (M.take n).sum
      generalize hS : qS (M.take n).sum = S at *
      obtain ⟨V, hV⟩ : ∃ V, qS (M.take (n + 1)).sum = V := ⟨_, rfl⟩
      rw [hV] at hs
      replace hV := Lib.hid hV
      obtain ⟨o0, o1, o2, of0, of1, of2, ol⟩ := ho.out
      go_wp2_with fail
      refine wp_region_grow_tail 6 Tryd.mixed (by kernel_rfl) ?_
      simp only [List.take_succ_cons, List.take_zero, List.drop_succ_cons, List.drop_zero]
      repeat (quiet_step ((go_at_call 48; exact grow_of (refAdd_e S A V _ oS oA hs))))
      refine wpQuiet_nil ?_
      intro _ hw'
      obtain ⟨x5, rfl⟩ := hw'
      have hB5 := Lib.hid (below_seq hB x5.h)
      have hr5 := Lib.hid (hr.out.below x5.h)
      have ho5 := Lib.hid (ho.out.below x5.h)
      clear o0 o1 o2 of0 of1 of2 ol l1 l2 l3 l4 hB hr ho hS
      generalize hyw : x5.w = w5 at *
      clear hyw x5
      obtain ⟨o0, o1, o2, of0, of1, of2, ol⟩ := ho5.out
      go_wp2
      go_roundw
      case rel => exact ⟨n + 1, by omega, by go_num, hr5.out.set3o (by omega) _ _ _, by rw [hV.out]; exact ho5.out.set3 _, set3_below hB5.out (by omega)⟩
      case measure => simp [intOf]; omega
    · obtain rfl : n = M.length := by omega
      rw [List.take_of_length_le (Nat.le_refl _)] at ho
      obtain ⟨k0, k1, k2, kf0, kf1, kf2, kl⟩ := hr.out
      obtain ⟨o0', o1', o2', of0, of1, of2, ol⟩ := ho.out
      generalize hDe : qS M.sum = D at *
      replace hDe := Lib.hid hDe
      go_wp2
      have kk' := set3_cell (w := wr) (x := .int .i64 D.x) (y := .int .i64 D.y) (z := .bool D.far) k0 k1 k2
      refine bodyPost_ret (v := spV D) (by simp [results, Tryd.results52, go_sem, kk'.1, kk'.2.1, kk'.2.2]) rfl ⟨by rw [hDe.out], set3_below hB (Nat.le_refl _)⟩
end Go.Proofs.YtebomakihdjllaaDoor
namespace Go.Proofs.YtebomakihdjllaaDoor
open Go.RowKit
set_option maxRecDepth 100000
set_option linter.unusedVariables false
set_option linter.unusedSimpArgs false
set_option maxHeartbeats 16000000 in
theorem rbex_core (N : List Int) (G : List Bool) (B p : Nat) (gl : List Int) (C : List Sp) (a0 a1 : Option Addr) (c0 c1 : Nat) (kk : Nat) (E EC : Int) (R : Value) (w : World) (hBk : BkAt w B p N G) (hNl : N.length ≤ 1000000) (hgl : gl.length ≤ 9223372036854775807)
    (h0 : 0 < gl.length → ∃ b o, a0 = some ⟨b, o, none⟩ ∧ IntsAt w b o gl) (h1 : 0 < C.length → ∃ b o, a1 = some ⟨b, o, none⟩ ∧ SpotsAt w b o C) (hCl : C.length ≤ 9223372036854775807)
    (hkk : kk ≤ gl.length) (hgood : ∀ i (h : i < gl.length), i < kk → gErrB G (gl.take i) gl[i] = 0) (hbad : ∀ h : kk < gl.length, gErrB G (gl.take kk) gl[kk] = E ∧ E ≠ 0)
    (hck : Hid (∀ w1 : World, Below w.heap.size w w1 → Calls Tryd.prog 23 #[.slice a1 C.length c1] w1 fun e w' => e = .returned (.int .i64 EC) ∧ Below w1.heap.size w1 w'))
    (hR0 : Hid (kk < gl.length → R = .tuple #[spV ⟨0, 0, false⟩, .int .i64 E]))
    (hR1 : Hid (kk = gl.length → ((EC != 0) = true ∧ R = .tuple #[spV ⟨0, 0, false⟩, .int .i64 EC]) ∨ (EC = 0 ∧ ∃ M : List Int, M.length ≤ 12 ∧ C = M.map qS ∧ R = .tuple #[spV (qS (outN N gl + M.sum)), .int .i64 0]))) :
    Calls Tryd.prog 25 #[.pointer (some ⟨p, 0, none⟩), .slice a0 gl.length c0, .slice a1 C.length c1] w fun e w' => e = .returned R ∧ Below w.heap.size w w' := by
  obtain ⟨vc, vg, hBk⟩ := hBk
  obtain ⟨ac, cc, rfl⟩ := own_slB hBk.rc
  obtain ⟨ag, cg, rfl⟩ := own_slB hBk.rg
  have hNs : 0 < N.length → ∃ b o, ac = some ⟨b, o, none⟩ ∧ SpotsAt w b o (N.map qS) := fun h => by
    obtain ⟨a, c, e, hs⟩ := hBk.sp
    simp only [Value.slice.injEq] at e
    obtain ⟨rfl, -, -⟩ := e
    exact hs (by rw [List.length_map]; exact h)
  have hGs : 0 < N.length → ∃ b o, ag = some ⟨b, o, none⟩ ∧ BolsAt w b o G := fun h => by
    obtain ⟨a, c, e, hs⟩ := hBk.bo
    simp only [Value.slice.injEq] at e
    obtain ⟨rfl, -, -⟩ := e
    exact hs (by rw [hBk.ln]; exact h)
  have hGl := hBk.ln
  have p0 := hBk.c0
  have p1 := hBk.c1
  have hp := hBk.lt
  have hcp := Lib.hid (fun (w' : World) (hb : Below w.heap.size w w') => (⟨((bcell hb).1 _ 0 hp).trans p0, ((bcell hb).1 _ 1 hp).trans p1, Nat.lt_of_lt_of_le hp hb.size⟩ : w'.cell? ⟨p, 0, none⟩ = some (.slice ac N.length cc) ∧ w'.cell? ⟨p, 1, none⟩ = some (.slice ag N.length cg) ∧ p < w'.heap.size))
  clear hBk p0 p1
  replace h0 := Lib.hid h0
  replace h1 := Lib.hid h1
  replace hNs := Lib.hid hNs
  replace hGs := Lib.hid hGs
  replace hgood := Lib.hid hgood
  replace hbad := Lib.hid hbad
  go_enter Tryd.func25, Tryd.ntmps25
  go_wp2
  have t0 : SpAt ((w.alloc (.cells #[.int .i64 0, .int .i64 0, .bool false] 23)).alloc (.cells #[.int .i64 0, .int .i64 0, .bool true] 23)) w.heap.size ⟨0, 0, false⟩ := (SpAt.fresh _ _ _ _ _).alloc _
  have t1 : SpAt ((w.alloc (.cells #[.int .i64 0, .int .i64 0, .bool false] 23)).alloc (.cells #[.int .i64 0, .int .i64 0, .bool true] 23)) (w.heap.size + 1) ⟨0, 0, true⟩ := SpAt.fresh1 _ _ _ _ _ _
  have tb := balloc (below_alloc w (.cells #[.int .i64 0, .int .i64 0, .bool false] 23)) (.cells #[.int .i64 0, .int .i64 0, .bool true] 23)
  replace t0 := Lib.hid t0
  replace t1 := Lib.hid t1
  replace tb := Lib.hid tb
  generalize (w.alloc (.cells #[.int .i64 0, .int .i64 0, .bool false] 23)).alloc (.cells #[.int .i64 0, .int .i64 0, .bool true] 23) = w0 at *
  go_loopw [9] (fun i wr => ∃ n : Nat, n ≤ gl.length ∧ n ≤ kk ∧ i = .int .i64 n ∧ SpAt wr w.heap.size ⟨0, 0, false⟩ ∧ SpAt wr (w.heap.size + 1) (qS (outN N (gl.take n))) ∧ Below w.heap.size w wr) (fun i _ => gl.length - (intOf i).toNat)
  case atStart => exact ⟨0, Nat.zero_le _, Nat.zero_le _, rfl, t0.out, (by show SpAt w0 _ (qS 0); rw [qS_zero]; exact t1.out), tb.out⟩
  case round =>
    clear t0 t1 tb
    obtain ⟨n, hn, hnk, rfl, hr, ho, hB⟩ := hrel
    have hol := ho.lt
    have hrl := hr.lt
    replace hr := Lib.hid hr
    replace ho := Lib.hid ho
    replace hB := Lib.hid hB
    by_cases hlt : n < gl.length
    · obtain ⟨b0, o0, rfl, hs0⟩ := h0.out (by omega)
      have hsI := hs0.below hB.out
      have l1 := hsI.c n hlt
      have l2 := hsI.lt
      obtain ⟨r0, r1, r2⟩ := hcp.out _ hB.out
      have hgd := Lib.hid (hgood.out n hlt)
      have hbn : n = kk → gErrB G (gl.take n) gl[n] = E ∧ E ≠ 0 := fun e => by subst e; exact hbad.out hlt
      replace hbn := Lib.hid hbn
      have hRn := Lib.hid (fun e : n = kk => hR0.out (by omega))
      have hsn := Lib.hid (take_snocI gl n hlt)
      have hst := Lib.hid (hsI.take n)
      have htl : (gl.take n).length = n := by rw [List.length_take]; omega
      clear hsI hs0 hgood hbad hR0 hR1 h1 hck
      generalize gl[n] = g at *
      generalize gl.take n = pre at *
      by_cases hrg : g < 0 ∨ (N.length : Int) ≤ g
      · have hE : gErrB G pre g = 1 := if_pos (by rw [hGl]; exact hrg)
        have hnk2 : n = kk := by
          by_cases e : n = kk
          · exact e
          · have := hgd.out (by omega); omega
        obtain ⟨e1, -⟩ := hbn.out hnk2
        have hR := hRn.out hnk2
        obtain rfl : E = 1 := by omega
        clear hgd hbn hRn hnk2 hE e1 hNs hGs hsn hst
        obtain ⟨k0, k1, k2, kf0, kf1, kf2, kl⟩ := hr.out
        rcases hrg with hrg | hrg
        · have d1 : decide (g < 0) = true := decide_eq_true hrg
          go_wp2
          have k := set3_cell (w := wr) (x := .int .i64 0) (y := .int .i64 0) (z := .bool false) k0 k1 k2
          refine bodyPost_ret (v := .tuple #[spV ⟨0, 0, false⟩, .int .i64 1]) (by simp [results, Tryd.results25, go_sem, k.1, k.2.1, k.2.2]) rfl ⟨by first | rfl | rw [hR], set3_below hB.out (Nat.le_refl _)⟩
        · have d1 : decide (g < 0) = false := decide_eq_false (by omega)
          have d2 : decide ((N.length : Int) ≤ g) = true := decide_eq_true hrg
          go_wp2
          have k := set3_cell (w := wr) (x := .int .i64 0) (y := .int .i64 0) (z := .bool false) k0 k1 k2
          refine bodyPost_ret (v := .tuple #[spV ⟨0, 0, false⟩, .int .i64 1]) (by simp [results, Tryd.results25, go_sem, k.1, k.2.1, k.2.2]) rfl ⟨by first | rfl | rw [hR], set3_below hB.out (Nat.le_refl _)⟩
      · obtain ⟨j, rfl⟩ : ∃ j : Nat, g = (j : Int) := ⟨g.toNat, by omega⟩
        have hj : j < N.length := by omega
        have d1 : decide ((j : Int) < 0) = false := decide_eq_false (by omega)
        have d2 : decide ((N.length : Int) ≤ (j : Int)) = false := decide_eq_false (by omega)
        have hjG : j < G.length := by rw [hGl]; exact hj
        obtain ⟨bg, og, rfl, hsG⟩ := hGs.out (by omega)
        have g1 := (hsG.below hB.out).c j hjG
        have g2 := (hsG.below hB.out).lt
        have hgE : gErrB G pre (j : Int) = if G[j] = true then 6 else if (j : Int) ∈ pre then 7 else 0 := by
          unfold gErrB
          rw [if_neg (by rw [hGl]; exact hrg), Int.toNat_natCast, List.getD_eq_getElem?_getD, List.getElem?_eq_getElem hjG]; rfl
        rw [hgE] at hgd hbn
        clear hgE hsG hGs hrg
        generalize G[j] = gj at *
        cases gj
        · have hsn1 : Hid ((j : Int) ∉ pre → qS (outN N (gl.take (n + 1))) = sSum (qS (outN N pre)) (qS (-N[j]))) := by
            show _ → _
            intro _
            rw [hsn.out, outN_snoc, qS_add, Int.toNat_natCast, List.getD_eq_getElem?_getD, List.getElem?_eq_getElem hj]; rfl
          obtain ⟨bc, oc, rfl, hsN⟩ := hNs.out (by omega)
          have hjm : j < (N.map qS).length := by rw [List.length_map]; exact hj
          have m1 := (hsN.below hB.out).cx j hjm
          have m2 := (hsN.below hB.out).cy j hjm
          have m3 := (hsN.below hB.out).cf j hjm
          have m4 := (hsN.below hB.out).lt
          rw [List.getElem_map] at m1 m2 m3
          have hKc := Lib.hid (fun (w' : World) (hb : Below w.heap.size w w') => (⟨by have := (hsN.below hb).cx j hjm; rw [List.getElem_map] at this; exact this, by have := (hsN.below hb).cy j hjm; rw [List.getElem_map] at this; exact this, by have := (hsN.below hb).cf j hjm; rw [List.getElem_map] at this; exact this, (hsN.below hb).lt⟩ : w'.cell? ⟨bc, oc + j * 3, none⟩ = some (.int .i64 (qS N[j]).x) ∧ w'.cell? ⟨bc, oc + j * 3 + 1, none⟩ = some (.int .i64 (qS N[j]).y) ∧ w'.cell? ⟨bc, oc + j * 3 + 2, none⟩ = some (.bool (qS N[j]).far) ∧ bc < w'.heap.size))
          have hT := Lib.hid (qS_neg N[j])
          have oK := qS_ok N[j]
          have oT := qS_ok (-N[j])
          have oS := qS_ok (outN N pre)
          generalize qS N[j] = K at *
          generalize qS (-N[j]) = T at *
          generalize qS (outN N pre) = S at *
          generalize hD : qS (outN N (gl.take (n + 1))) = D at *
          replace hD := Lib.hid hD
          clear hsn hNs hsN
          have hmn : Hid ((j : Int) ∈ pre → n = kk ∧ E = 7) := Lib.hid fun hmem => by
            have hnk2 : n = kk := by
              by_cases e : n = kk
              · exact e
              · have := hgd.out (by omega); rw [if_neg (by simp), if_pos hmem] at this; omega
            obtain ⟨e1, -⟩ := hbn.out hnk2
            rw [if_neg (by simp), if_pos hmem] at e1
            exact ⟨hnk2, e1.symm⟩
          have hml : Hid ((j : Int) ∉ pre → n < kk) := Lib.hid fun hmem => by
            by_cases e : n = kk
            · obtain ⟨e1, e2⟩ := hbn.out e
              rw [if_neg (by simp), if_neg hmem] at e1
              exact absurd e1.symm e2
            · omega
          clear hgd hbn
          go_wp2_with fail
          clear l1 r0 r1 g1 m1 m2 m3
          obtain ⟨wA, rfl⟩ : ∃ x : World, x = wr := ⟨_, rfl⟩
          go_loopw [11] (fun i w2 => ∃ q : Nat, q ≤ n ∧ i = .int .i64 q ∧ (∀ (k : Nat) (h : k < pre.length), k < q → pre[k] ≠ (j : Int)) ∧ w2 = wA) (fun i _ => n - (intOf i).toNat)
          case atStart => exact ⟨0, Nat.zero_le _, rfl, fun k _ h => absurd h (Nat.not_lt_zero _), rfl⟩
          case round =>
            obtain ⟨q, hq, rfl, hno, hw2⟩ := hrel
            replace hno := Lib.hid hno
            subst hw2
            by_cases hql : q < n
            · have hqp : q < pre.length := by omega
              have z1 := hst.out.c q hqp
              have d3 : (q : Int) < (gl.length : Int) := by omega
              by_cases heq : pre[q] = (j : Int)
              · obtain ⟨e0, rfl⟩ := hmn.out (heq ▸ List.getElem_mem hqp)
                have hR := hRn.out e0
                rw [heq] at z1
                clear heq e0 hmn hml hRn hst hsn1
                obtain ⟨k0, k1, k2, kf0, kf1, kf2, kl⟩ := hr.out
                go_wp2
                have k := set3_cell (w := wr) (x := .int .i64 0) (y := .int .i64 0) (z := .bool false) k0 k1 k2
                refine bodyPost_ret (v := .tuple #[spV ⟨0, 0, false⟩, .int .i64 7]) (by simp [results, Tryd.results25, go_sem, k.1, k.2.1, k.2.2]) rfl ⟨by first | rfl | rw [hR], set3_below hB.out (Nat.le_refl _)⟩
              · have g5 : (pre[q] == (j : Int)) = false := by rw [beq_eq_false_iff_ne]; exact heq
                have hno2 := Lib.hid (show ∀ (k : Nat) (h : k < pre.length), k < q + 1 → pre[k] ≠ (j : Int) from fun k h hk => by
                  by_cases e : k < q
                  · exact hno.out k h e
                  · obtain rfl : k = q := by omega
                    exact heq)
                clear heq hno
                generalize pre[q] = pq at *
                go_wp2
                go_roundw
                case rel => exact ⟨q + 1, by omega, by go_num, hno2.out, by first | trivial | rfl⟩
                case measure => simp [intOf]; omega
            · have hmem : (j : Int) ∉ pre := fun h => by
                obtain ⟨k, hk, e⟩ := List.getElem_of_mem h
                exact hno.out k hk (by omega) e
              have hD2 : Hid (sSum S T = D) := Lib.hid (hsn1.out hmem).symm
              have hnk2 := hml.out hmem
              have d5 : decide (q < n) = false := decide_eq_false hql
              obtain ⟨r0, r1, r2⟩ := hcp.out _ hB.out
              obtain ⟨m1, m2, m3, m4⟩ := hKc.out _ hB.out
              clear hno hmem hsn1 hml hmn hRn hst
              obtain ⟨o0', o1', o2', of0, of1, of2, ol⟩ := ho.out
              go_wp2_with fail
              refine wp_region_grow_tail 10 Tryd.mixed (by kernel_rfl) ?_
              simp only [List.take_succ_cons, List.take_zero, List.drop_succ_cons, List.drop_zero]
              repeat (quiet_step (first | (go_at_call 51; exact grow_of (refNeg_e K T _ oK hT)) | (go_at_call 48; exact grow_of (refAdd_e S T D _ oS oT hD2))))
              refine wpQuiet_nil ?_
              intro _ hw'
              obtain ⟨x, rfl⟩ := hw'
              have hr2 := hr.out.below x.h
              have ho2 := ho.out.below x.h
              have ho2' := Lib.hid ho2
              have hB2 := Lib.hid (below_seq hB.out x.h)
              clear l2 r0 r1 r2 g2 m1 m2 m3 m4 o0' o1' o2' of0 of1 of2 ol
              obtain ⟨o0', o1', o2', of0, of1, of2, ol⟩ := ho2
              go_wp2
              go_roundw
              case rel => exact ⟨n + 1, by omega, by omega, by go_num, hr2.set3o (by omega) _ _ _, by rw [hD.out]; exact ho2'.out.set3 _, set3_below hB2.out (by omega)⟩
              case measure => simp [intOf]; omega
        · have hnk2 : n = kk := by
            by_cases e : n = kk
            · exact e
            · have := hgd.out (by omega); simp at this
          obtain ⟨e1, -⟩ := hbn.out hnk2
          have hR := hRn.out hnk2
          obtain rfl : E = 6 := by rw [if_pos rfl] at e1; exact e1.symm
          clear hgd hbn hRn hnk2 e1 hNs hsn hst
          obtain ⟨k0, k1, k2, kf0, kf1, kf2, kl⟩ := hr.out
          go_wp2
          have k := set3_cell (w := wr) (x := .int .i64 0) (y := .int .i64 0) (z := .bool false) k0 k1 k2
          refine bodyPost_ret (v := .tuple #[spV ⟨0, 0, false⟩, .int .i64 6]) (by simp [results, Tryd.results25, go_sem, k.1, k.2.1, k.2.2]) rfl ⟨by first | rfl | rw [hR], set3_below hB.out (Nat.le_refl _)⟩
    · obtain rfl : n = gl.length := by omega
      have hR := hR1.out (by omega)
      rw [List.take_of_length_le (Nat.le_refl _)] at ho
      clear hR0 hR1 hgood hbad hNs hGs
      replace hR := Lib.hid hR
      have hc1 := Lib.hid (hck.out _ hB.out)
      clear hck
      go_wp2_with fail
      refine hc1.out.mono ?_; rintro e w1 ⟨rfl, hb1⟩
      have hB1 := Lib.hid (below_seq hB.out hb1)
      have hr1 := Lib.hid (hr.out.below hb1)
      have ho1 := Lib.hid (ho.out.below hb1)
      clear hc1 hB hr ho hb1 hcp
      rcases hR.out with ⟨hne, rfl⟩ | ⟨rfl, M, hM, rfl, rfl⟩
      · obtain ⟨k0, k1, k2, kf0, kf1, kf2, kl⟩ := hr1.out
        go_wp2
        have kk' := set3_cell (w := w1) (x := .int .i64 0) (y := .int .i64 0) (z := .bool false) k0 k1 k2
        refine bodyPost_ret (v := .tuple #[spV ⟨0, 0, false⟩, .int .i64 EC]) (by simp [results, Tryd.results25, go_sem, kk'.1, kk'.2.1, kk'.2.2]) rfl ⟨rfl, set3_below hB1.out (Nat.le_refl _)⟩
      · clear hR
        rw [List.length_map] at h1 hCl
        have hJ := Lib.hid (fun (w2 : World) (hb : Below w.heap.size w w2) => rjoinB_c M a1 c1 w2 hM (fun h => by obtain ⟨b, o, e, hs⟩ := h1.out h; exact ⟨b, o, e, hs.below hb⟩))
        have oO := qS_ok (outN N gl)
        have oM := qS_ok M.sum
        have hs : Hid (sSum (qS (outN N gl)) (qS M.sum) = qS (outN N gl + M.sum)) := Lib.hid (qS_add _ _)
        generalize qS (outN N gl) = O at *
        generalize qS M.sum = Q at *
        generalize hD : qS (outN N gl + M.sum) = D at *
        replace hD := Lib.hid hD
        obtain ⟨o0', o1', o2', of0, of1, of2, ol⟩ := ho1.out
        simp only [List.length_map]
        go_wp2_with fail
        refine wp_region_grow_tail 4 Tryd.mixed (by kernel_rfl) ?_
        simp only [List.take_succ_cons, List.take_zero, List.drop_succ_cons, List.drop_zero]
        repeat (quiet_step (first | (go_at_call 52; exact grow_of (hJ.out _ (below_seq hB1.out (Grew.h _)))) | (go_at_call 48; exact grow_of (refAdd_e O Q D _ oO oM hs))))
        refine wpQuiet_nil ?_
        intro _ hw'
        obtain ⟨x, rfl⟩ := hw'
        have hr2 := hr1.out.below x.h
        have hB2 := Lib.hid (below_seq hB1.out x.h)
        clear o0' o1' o2' of0 of1 of2 ol
        obtain ⟨k0, k1, k2, kf0, kf1, kf2, kl⟩ := hr2
        go_wp2
        have kk' := set3_cell (w := x.w) (x := .int .i64 D.x) (y := .int .i64 D.y) (z := .bool D.far) k0 k1 k2
        refine bodyPost_ret (v := .tuple #[spV D, .int .i64 0]) (by simp [results, Tryd.results25, go_sem, kk'.1, kk'.2.1, kk'.2.2]) rfl ⟨by rw [hD.out], set3_below hB2.out (Nat.le_refl _)⟩
end Go.Proofs.YtebomakihdjllaaDoor
namespace Go.Proofs.YtebomakihdjllaaDoor
open Go.RowKit
set_option maxRecDepth 100000
set_option linter.unusedVariables false
set_option linter.unusedSimpArgs false
set_option maxHeartbeats 8000000 in
theorem rblive_c (N : List Int) (G : List Bool) (B p : Nat) (w : World) (hBk : BkAt w B p N G) (hN : N.length ≤ 1000000) :
    Calls Tryd.prog 28 #[.pointer (some ⟨p, 0, none⟩)] w fun e w' => ∃ v', e = .returned v' ∧ w'.ownsRow w.heap.size 3 1 v' (liveN G N.length).length ((liveN G N.length).map (Value.int .i64)) ∧ Below w.heap.size w w' := by
  obtain ⟨vc, vg, hBk⟩ := hBk
  obtain ⟨ag, cg, rfl⟩ := own_slB hBk.rg
  have hGs : 0 < N.length → ∃ b o, ag = some ⟨b, o, none⟩ ∧ BolsAt w b o G := fun h => by
    obtain ⟨a, c, e, hs⟩ := hBk.bo
    simp only [Value.slice.injEq] at e
    obtain ⟨rfl, -, -⟩ := e
    exact hs (by rw [hBk.ln]; exact h)
  have hGl := hBk.ln
  have p1 := hBk.c1
  have hp := hBk.lt
  have hcp := Lib.hid (fun (w' : World) (hb : Below w.heap.size w w') => (⟨((bcell hb).1 _ 1 hp).trans p1, Nat.lt_of_lt_of_le hp hb.size⟩ : w'.cell? ⟨p, 1, none⟩ = some (.slice ag N.length cg) ∧ p < w'.heap.size))
  clear hBk p1
  replace hGs := Lib.hid hGs
  go_enter Tryd.func28, Tryd.ntmps28
  go_wp2
  go_loopw [3, 4] (fun v i wr => ∃ n : Nat, n ≤ N.length ∧ i = .int .i64 n ∧ wr.ownsRow w.heap.size 3 1 v (liveN G n).length ((liveN G n).map (Value.int .i64)) ∧ Below w.heap.size w wr) (fun _ i _ => N.length - (intOf i).toNat)
  case atStart => exact ⟨0, Nat.zero_le _, rfl, World.ownsRow_nil _ _ _ _, Below.refl _ _⟩
  case round =>
    obtain ⟨n, hn, rfl, hown, hB⟩ := hrel
    replace hown := Lib.hid hown
    replace hB := Lib.hid hB
    obtain ⟨r1, r2⟩ := hcp.out _ hB.out
    by_cases hlt : n < N.length
    · obtain ⟨bg, og, rfl, hsG⟩ := hGs.out (by omega)
      have hjG : n < G.length := by omega
      have m1 := (hsG.below hB.out).c n hjG
      have m2 := (hsG.below hB.out).lt
      have hz := hB.out.size
      have hll := liveN_len G n
      have hst : Hid (liveN G (n + 1) = liveN G n ++ (if G[n] = true then [] else [(n : Int)])) := by
        show _ = _
        show liveN G n ++ _ = _
        rw [List.getD_eq_getElem?_getD, List.getElem?_eq_getElem hjG]; rfl
      clear hsG hGs
      generalize G[n] = gn at *
      cases gn
      · rw [if_neg (by simp)] at hst
        go_wp2_with (first | (at_builtin; refine wpl_append_int rfl _ _ _ rfl (by kernel_rfl) w.heap.size _ (liveN G n) (liveN G n).length rfl (hown.out.alloc _) rfl (by omega) (by simp only [World.size_alloc]; omega) wr.heap.size (n : Int) rfl (by go_simp) ?_; intro v1 w7 hown' hgrow hbel hloc; replace hown' := Lib.hid hown'; replace hbel := Lib.hid (hbel w (balloc hB.out _)); clear hgrow hloc) | fail)
        go_wp2
        go_roundw
        case rel => exact ⟨n + 1, by omega, by go_num, by rw [hst.out, List.length_append]; exact hown'.out, hbel.out⟩
        case measure => simp [intOf]; omega
      · rw [if_pos rfl, List.append_nil] at hst
        go_wp2
        go_roundw
        case rel => exact ⟨n + 1, by omega, by go_num, by rw [hst.out]; exact hown.out, hB.out⟩
        case measure => simp [intOf]; omega
    · obtain rfl : n = N.length := by omega
      go_wp2
      go_ret
      exact ⟨_, rfl, hown.out, hB.out⟩
set_option maxHeartbeats 8000000 in
theorem rbtotal_c (N : List Int) (G : List Bool) (B p : Nat) (w : World) (hBk : BkAt w B p N G) (hN : N.length ≤ 1000000) :
    Calls Tryd.prog 30 #[.pointer (some ⟨p, 0, none⟩)] w fun e w' => e = .returned (spV (qS (totN N G N.length))) ∧ Below w.heap.size w w' := by
  obtain ⟨vc, vg, hBk⟩ := hBk
  obtain ⟨ac, cc, rfl⟩ := own_slB hBk.rc
  obtain ⟨ag, cg, rfl⟩ := own_slB hBk.rg
  have hNs : 0 < N.length → ∃ b o, ac = some ⟨b, o, none⟩ ∧ SpotsAt w b o (N.map qS) := fun h => by
    obtain ⟨a, c, e, hs⟩ := hBk.sp
    simp only [Value.slice.injEq] at e
    obtain ⟨rfl, -, -⟩ := e
    exact hs (by rw [List.length_map]; exact h)
  have hGs : 0 < N.length → ∃ b o, ag = some ⟨b, o, none⟩ ∧ BolsAt w b o G := fun h => by
    obtain ⟨a, c, e, hs⟩ := hBk.bo
    simp only [Value.slice.injEq] at e
    obtain ⟨rfl, -, -⟩ := e
    exact hs (by rw [hBk.ln]; exact h)
  have hGl := hBk.ln
  have p0 := hBk.c0
  have p1 := hBk.c1
  have hp := hBk.lt
  have hcp := Lib.hid (fun (w' : World) (hb : Below w.heap.size w w') => (⟨((bcell hb).1 _ 0 hp).trans p0, ((bcell hb).1 _ 1 hp).trans p1, Nat.lt_of_lt_of_le hp hb.size⟩ : w'.cell? ⟨p, 0, none⟩ = some (.slice ac N.length cc) ∧ w'.cell? ⟨p, 1, none⟩ = some (.slice ag N.length cg) ∧ p < w'.heap.size))
  clear hBk p0 p1
  replace hNs := Lib.hid hNs
  replace hGs := Lib.hid hGs
  go_enter Tryd.func30, Tryd.ntmps30
  go_wp2
  have t0 : SpAt ((w.alloc (.cells #[.int .i64 0, .int .i64 0, .bool false] 23)).alloc (.cells #[.int .i64 0, .int .i64 0, .bool true] 23)) w.heap.size ⟨0, 0, false⟩ := (SpAt.fresh _ _ _ _ _).alloc _
  have t1 : SpAt ((w.alloc (.cells #[.int .i64 0, .int .i64 0, .bool false] 23)).alloc (.cells #[.int .i64 0, .int .i64 0, .bool true] 23)) (w.heap.size + 1) ⟨0, 0, true⟩ := SpAt.fresh1 _ _ _ _ _ _
  have tb := balloc (below_alloc w (.cells #[.int .i64 0, .int .i64 0, .bool false] 23)) (.cells #[.int .i64 0, .int .i64 0, .bool true] 23)
  replace t0 := Lib.hid t0
  replace t1 := Lib.hid t1
  replace tb := Lib.hid tb
  generalize (w.alloc (.cells #[.int .i64 0, .int .i64 0, .bool false] 23)).alloc (.cells #[.int .i64 0, .int .i64 0, .bool true] 23) = w0 at *
  go_loopw [4] (fun i wr => ∃ n : Nat, n ≤ N.length ∧ i = .int .i64 n ∧ SpAt wr w.heap.size ⟨0, 0, false⟩ ∧ SpAt wr (w.heap.size + 1) (qS (totN N G n)) ∧ Below w.heap.size w wr) (fun i _ => N.length - (intOf i).toNat)
  case atStart => exact ⟨0, Nat.zero_le _, rfl, t0.out, (by show SpAt w0 _ (qS 0); rw [qS_zero]; exact t1.out), tb.out⟩
  case round =>
    clear t0 t1 tb
    obtain ⟨n, hn, rfl, hr, ho, hB⟩ := hrel
    have hol := ho.lt
    have hrl := hr.lt
    replace hr := Lib.hid hr
    replace ho := Lib.hid ho
    replace hB := Lib.hid hB
    obtain ⟨r0, r1, r2⟩ := hcp.out _ hB.out
    by_cases hlt : n < N.length
    · obtain ⟨bc, oc, rfl, hsN⟩ := hNs.out (by omega)
      obtain ⟨bg, og, rfl, hsG⟩ := hGs.out (by omega)
      have hjm : n < (N.map qS).length := by rw [List.length_map]; exact hlt
      have hjG : n < G.length := by omega
      have l1 := (hsN.below hB.out).cx n hjm
      have l2 := (hsN.below hB.out).cy n hjm
      have l3 := (hsN.below hB.out).cf n hjm
      have l4 := (hsN.below hB.out).lt
      rw [List.getElem_map] at l1 l2 l3
      have m1 := (hsG.below hB.out).c n hjG
      have m2 := (hsG.below hB.out).lt
      have hst : totN N G (n + 1) = totN N G n + (if G[n] = true then 0 else N[n]) := by
        show totN N G n + _ = _
        rw [List.getD_eq_getElem?_getD, List.getElem?_eq_getElem hjG, List.getD_eq_getElem?_getD, List.getElem?_eq_getElem hlt]; rfl
      have oA := qS_ok N[n]
      have oS := qS_ok (totN N G n)
      have hsum : Hid (sSum (qS (totN N G n)) (qS N[n]) = qS (totN N G n + N[n])) := Lib.hid (qS_add _ _)
      replace hst := Lib.hid hst
      clear hsN hsG hNs hGs
      generalize N[n] = a at *
      generalize G[n] = gn at *
      generalize qS a = A at *
      obtain ⟨o0', o1', o2', of0, of1, of2, ol⟩ := ho.out
      cases gn
      · obtain ⟨D, hD⟩ : ∃ D, qS (totN N G n + a) = D := ⟨_, rfl⟩
        rw [hD] at hsum
        replace hD := Lib.hid hD
        generalize qS (totN N G n) = S at *
        go_wp2_with fail
        refine wp_region_grow_tail 9 Tryd.mixed (by kernel_rfl) ?_
        simp only [List.take_succ_cons, List.take_zero, List.drop_succ_cons, List.drop_zero]
        repeat (quiet_step ((go_at_call 48; exact grow_of (refAdd_e S A D _ oS oA hsum))))
        refine wpQuiet_nil ?_
        intro _ hw'
        obtain ⟨x5, rfl⟩ := hw'
        have hr2 := hr.out.below x5.h
        have ho2 := ho.out.below x5.h
        have ho2' := Lib.hid ho2
        have hB2 := Lib.hid (below_seq hB.out x5.h)
        clear l1 l2 l3 l4 m1 m2 r0 r1 r2 o0' o1' o2' of0 of1 of2 ol
        obtain ⟨o0', o1', o2', of0, of1, of2, ol⟩ := ho2
        go_wp2
        go_roundw
        case rel => exact ⟨n + 1, by omega, by go_num, hr2.set3o (by omega) _ _ _, by rw [hst.out, if_neg (by simp), hD.out]; exact ho2'.out.set3 _, set3_below hB2.out (by omega)⟩
        case measure => simp [intOf]; omega
      · go_wp2
        go_roundw
        case rel => exact ⟨n + 1, by omega, by go_num, hr.out, by rw [hst.out, if_pos rfl, Int.add_zero]; exact ho.out, hB.out⟩
        case measure => simp [intOf]; omega
    · obtain rfl : n = N.length := by omega
      obtain ⟨k0, k1, k2, kf0, kf1, kf2, kl⟩ := hr.out
      obtain ⟨o0', o1', o2', of0, of1, of2, ol⟩ := ho.out
      generalize hDe : qS (totN N G N.length) = D at *
      replace hDe := Lib.hid hDe
      go_wp2
      have kk' := set3_cell (w := wr) (x := .int .i64 D.x) (y := .int .i64 D.y) (z := .bool D.far) k0 k1 k2
      refine bodyPost_ret (v := spV D) (by simp [results, Tryd.results30, go_sem, kk'.1, kk'.2.1, kk'.2.2]) rfl ⟨by rw [hDe.out], set3_below hB.out (Nat.le_refl _)⟩
set_option maxHeartbeats 4000000 in
theorem rbask_c (a b : Sp) (c : Int) (w : World) (oa : Ok a) (ob : Ok b) (hc : Hid (bAsk a b = c)) : Calls Tryd.prog 17 #[spV a, spV b] w fun e w' => e = .returned (.int .i64 c) ∧ Below w.heap.size w w' := by
  rw [← hc.out]
  obtain ⟨w1, hw1⟩ : ∃ x, x = ((w.alloc (.cells #[.int .i64 a.x, .int .i64 a.y, .bool a.far] 23)).alloc (.cells #[.int .i64 b.x, .int .i64 b.y, .bool b.far] 23)).alloc (.cells #[.int .i64 a.x, .int .i64 a.y, .bool a.far, .int .i64 b.x, .int .i64 b.y, .bool b.far] 23) := ⟨_, rfl⟩
  have hm : SpSl w1 (.slice (some ⟨w.heap.size + 1 + 1, 0, none⟩) 2 2) [a, b] := by rw [hw1]; exact SpSl.made ((w.alloc (.cells #[.int .i64 a.x, .int .i64 a.y, .bool a.far] 23)).alloc (.cells #[.int .i64 b.x, .int .i64 b.y, .bool b.far] 23)) [a, b] (w.heap.size + 1 + 1) 2 2 #[.int .i64 a.x, .int .i64 a.y, .bool a.far, .int .i64 b.x, .int .i64 b.y, .bool b.far] 23 (by simp) rfl rfl
  have hb : Below w.heap.size w w1 := by rw [hw1]; exact balloc (balloc (below_alloc _ _) _) _
  have hsz := lsB_size 2 [a, b]
  have hLs := Lib.hid (rlist_sl [a, b] _ w1 (by simp) hm (two_oks oa ob))
  replace hb := Lib.hid hb
  clear hm
  rw [hw1] at hLs hb
  clear hw1
  go_enter Tryd.func17, Tryd.ntmps17
  go_wp2_with fail
  refine hLs.out.mono ?_; rintro e w2 ⟨rfl, hb2⟩
  go_wp2_with fail
  refine (refNumber_c _ _ (by simp at hsz; omega)).mono ?_; rintro e w3 ⟨rfl, hb3⟩
  go_wp2
  go_ret
  exact ⟨rfl, below_seq (below_seq hb.out hb2) hb3⟩
end Go.Proofs.YtebomakihdjllaaDoor
namespace Go.Proofs.YtebomakihdjllaaDoor
open Go.RowKit
set_option maxRecDepth 100000
set_option linter.unusedVariables false
set_option linter.unusedSimpArgs false
theorem SpotsAt.but {S : Nat → Prop} {w w' : World} {b o : Nat} {l : List Sp} (h : SpotsAt w b o l) (hb : But S w w') (hs : ¬ S b) : SpotsAt w' b o l :=
  ⟨Nat.lt_of_lt_of_le h.lt hb.size, fun i hi => (hb.cell h.lt hs _).trans (h.cx i hi), fun i hi => (hb.cell h.lt hs _).trans (h.cy i hi), fun i hi => (hb.cell h.lt hs _).trans (h.cf i hi)⟩
set_option maxHeartbeats 16000000 in
theorem bdo_y (N M : List Int) (G : List Bool) (B p : Nat) (vc vg : Value) (gl : List Int) (C : List Sp) (a0 a1 : Option Addr) (c0 c1 : Nat) (RS : Sp) (s : Int) (X : Sp) (x : Int) (w : World) (hF : FarAt w) (hBk : BkV w B p vc vg N G) (hB0 : B ≤ w.heap.size) (hNl : N.length ≤ 1000) (hX : Hid (X = sq (4 * x))) (hgl : gl.length ≤ 9223372036854775807)
    (h0 : 0 < gl.length → ∃ b o, a0 = some ⟨b, o, none⟩ ∧ IntsAt w b o gl ∧ ¬ inB p vc vg b) (h1 : 0 < (M.map qS).length → ∃ b o, a1 = some ⟨b, o, none⟩ ∧ SpotsAt w b o (M.map qS) ∧ ¬ inB p vc vg b) (hin : ∀ g ∈ gl, 0 ≤ g ∧ g < N.length)
    (hEx : Hid (∀ w1 : World, Below w.heap.size w w1 → Calls Tryd.prog 9 #[.pointer (some ⟨p, 0, none⟩), .slice a0 gl.length c0, .slice a1 M.length c1] w1 fun e w' => e = .returned (.tuple #[spV X, .nilIface]) ∧ Below w1.heap.size w1 w'))
    (hm : N.length + M.length ≤ 1000) (s0 : 0 ≤ s) (s1 : s < 1013) (oR : Ok RS) (hq : Hid (Sp.beq (sq (4 * hJ * s)) (sSum RS (sq (4 * x * bAsk RS X))) = true)) :
    Calls Tryd.prog 12 #[.pointer (some ⟨p, 0, none⟩), dlV (.slice a0 gl.length c0) (.slice a1 M.length c1) RS s] w fun e w' => e = .returned .nilIface ∧ Did w w' B p vc vg (N ++ M) (goneL G gl ++ List.replicate M.length false) := by
  obtain ⟨n, hn⟩ : ∃ n, gl.length = n := ⟨_, rfl⟩
  obtain ⟨m, hm'⟩ : ∃ m, M.length = m := ⟨_, rfl⟩
  rw [hn, hm'] at hEx ⊢
  rw [hm'] at hm
  replace hn := Lib.hid hn
  replace hm' := Lib.hid hm'
  obtain ⟨ac, cc, rfl⟩ := own_slB hBk.rc
  obtain ⟨ag, cg, rfl⟩ := own_slB hBk.rg
  have p0 := hBk.c0
  have hp := hBk.lt
  have hcp := Lib.hid (fun (w' : World) (hb : Below w.heap.size w w') => (⟨((bcell hb).1 _ 0 hp).trans p0, Nat.lt_of_lt_of_le hp hb.size⟩ : w'.cell? ⟨p, 0, none⟩ = some (.slice ac N.length cc) ∧ p < w'.heap.size))
  have hF' := Lib.hid hF
  replace hBk := Lib.hid hBk
  clear p0 hF
  go_enter Tryd.func12, Tryd.ntmps12
  go_wp2_with fail
  have hb0 := Lib.hid (below_alloc w (.cells #[.slice a0 n c0, .slice a1 m c1, .int .i64 RS.x, .int .i64 RS.y, .bool RS.far, .int .i64 s] 42))
  refine (hEx.out _ hb0.out).mono ?_; rintro e w1 ⟨rfl, hb1⟩
  have hB1 := Lib.hid (below_seq hb0.out hb1)
  obtain ⟨hcc, -⟩ := bcell hb1
  have e0 : w1.cell? ⟨w.heap.size, 0, none⟩ = some (.slice a0 n c0) := by rw [hcc _ _ (by simp)]; go_simp
  have e1 : w1.cell? ⟨w.heap.size, 1, none⟩ = some (.slice a1 m c1) := by rw [hcc _ _ (by simp)]; go_simp
  have e2 : w1.cell? ⟨w.heap.size, 2, none⟩ = some (.int .i64 RS.x) := by rw [hcc _ _ (by simp)]; go_simp
  have e3 : w1.cell? ⟨w.heap.size, 3, none⟩ = some (.int .i64 RS.y) := by rw [hcc _ _ (by simp)]; go_simp
  have e4 : w1.cell? ⟨w.heap.size, 4, none⟩ = some (.bool RS.far) := by rw [hcc _ _ (by simp)]; go_simp
  have e5 : w1.cell? ⟨w.heap.size, 5, none⟩ = some (.int .i64 s) := by rw [hcc _ _ (by simp)]; go_simp
  have el : w.heap.size < w1.heap.size := by have := hb1.size; simp at this; omega
  have hd := Lib.hid (fun (w' : World) (hb : Below w1.heap.size w1 w') => (⟨((bcell hb).1 _ 0 el).trans e0, ((bcell hb).1 _ 1 el).trans e1, ((bcell hb).1 _ 2 el).trans e2, ((bcell hb).1 _ 3 el).trans e3, ((bcell hb).1 _ 4 el).trans e4, ((bcell hb).1 _ 5 el).trans e5, Nat.lt_of_lt_of_le el hb.size⟩ : w'.cell? ⟨w.heap.size, 0, none⟩ = some (.slice a0 n c0) ∧ w'.cell? ⟨w.heap.size, 1, none⟩ = some (.slice a1 m c1) ∧ w'.cell? ⟨w.heap.size, 2, none⟩ = some (.int .i64 RS.x) ∧ w'.cell? ⟨w.heap.size, 3, none⟩ = some (.int .i64 RS.y) ∧ w'.cell? ⟨w.heap.size, 4, none⟩ = some (.bool RS.far) ∧ w'.cell? ⟨w.heap.size, 5, none⟩ = some (.int .i64 s) ∧ w.heap.size < w'.heap.size))
  obtain ⟨r0, r1⟩ := hcp.out _ hB1.out
  clear hcc hb1 hb0 hEx
  have hB2 := Lib.hid (balloc hB1.out (.cells #[.int .i64 X.x, .int .i64 X.y, .bool X.far] 23))
  have hX2 := Lib.hid (SpAt.fresh w1 X.x X.y X.far 23)
  have hbX := Lib.hid (below_alloc w1 (.cells #[.int .i64 X.x, .int .i64 X.y, .bool X.far] 23))
  have d1 : decide ((1000 : Int) < (N.length : Int) + (m : Int)) = false := decide_eq_false (by omega)
  go_upto_region 4 with fail
  generalize w1.alloc (.cells #[.int .i64 X.x, .int .i64 X.y, .bool X.far] 23) = w2 at *
  clear r0 r1
  obtain ⟨r0, r1⟩ := hcp.out _ hB2.out
  clear e0 e1 e2 e3 e4 e5 el
  obtain ⟨e0, e1, e2, e3, e4, e5, el⟩ := hd.out _ hbX.out
  go_quiet (fail)
  have hbq := below_drewN (Below.refl w2.heap.size w2) nq
  have hB3 := Lib.hid (below_seq hB2.out hbq)
  have hX3 := Lib.hid (hX2.out.below hbq)
  have hbX3 := Lib.hid (below_seq hbX.out hbq)
  generalize w2.drewN nq = w3 at *
  clear r0 r1 e0 e1 e2 e3 e4 e5 el hbq hB2 hX2 hbX
  obtain ⟨e0, e1, e2, e3, e4, e5, el⟩ := hd.out _ hbX3.out
  go_wp2_with fail
  refine (rest_y s _ s0 s1).mono ?_; rintro e w' ⟨rfl, rfl⟩
  go_wp2_with fail
  refine (check_ok RS _ (hF'.out.below hB3.out) oR).mono ?_; rintro e w4 ⟨rfl, hb4⟩
  have hB4 := Lib.hid (below_seq hB3.out hb4)
  have hX4 := Lib.hid (hX3.out.below hb4)
  have hbX4 := Lib.hid (below_seq hbX3.out hb4)
  clear e0 e1 e2 e3 e4 e5 el hb4 hB3 hX3 hbX3
  obtain ⟨e0, e1, e2, e3, e4, e5, el⟩ := hd.out _ hbX4.out
  obtain ⟨x0, x1, x2, -, -, -, xl⟩ := hX4.out
  have oX : Ok X := by rw [hX.out]; exact sq_ok _
  obtain ⟨c, hc⟩ : ∃ c, bAsk RS X = c := ⟨_, rfl⟩
  rw [hc] at hq
  replace hc := Lib.hid hc
  go_wp2_with fail
  refine (bask_y RS X c _ (hF'.out.below hB4.out) oR oX hc).mono ?_; rintro e w5 ⟨rfl, hb5⟩
  have hB5 := Lib.hid (below_seq hB4.out hb5)
  have hX5 := Lib.hid (hX4.out.below hb5)
  have hbX5 := Lib.hid (below_seq hbX4.out hb5)
  clear e0 e1 e2 e3 e4 e5 el x0 x1 x2 xl hb5 hB4 hX4 hbX4
  obtain ⟨e0, e1, e2, e3, e4, e5, el⟩ := hd.out _ hbX5.out
  obtain ⟨x0, x1, x2, -, -, -, xl⟩ := hX5.out
  obtain ⟨P, hP⟩ : ∃ P, sq (4 * hJ * s) = P := ⟨_, rfl⟩
  obtain ⟨T, hT⟩ : ∃ T, sq (4 * x * c) = T := ⟨_, rfl⟩
  obtain ⟨D, hD⟩ : ∃ D, sSum RS T = D := ⟨_, rfl⟩
  have oT : Ok T := by rw [← hT]; exact sq_ok _
  rw [hP, hT, hD] at hq
  have hq := hq.out
  replace hP := Lib.hid hP
  replace hT := Lib.hid hT
  replace hD := Lib.hid hD
  have hF5 := Lib.hid (hF'.out.below hB5.out)
  have hX' := hX
  have cS := Lib.hid (fun (w1 : World) hF1 => second_c w1 hF1)
  obtain ⟨Z, hZ⟩ : ∃ Z, Z = sq (4 * hJ) := ⟨_, rfl⟩
  rw [← hZ] at cS
  replace hZ := Lib.hid hZ
  clear hX
  go_upto_region 14 with fail
  refine wp_region_grow Tryd.mixed (by kernel_rfl) ?_
  iterate 8 (quiet_step (first | (go_at_call 42; exact grow_of (cS.out _ (hF5.out.below (Grew.h _)))) | (go_at_call 41; exact grow_of (of_e Z P (4 * hJ) s _ (hF5.out.below (Grew.h _)) hZ hP))))
  repeat (quiet_step (first | (go_at_call 41; exact grow_of (of_e X T (4 * x) c _ (hF5.out.below (Grew.h _)) hX' hT)) | (go_at_call 38; exact grow_of (sum_e RS T D _ (hF5.out.below (Grew.h _)) oR oT hD))))
  refine wpQuiet_nil ?_
  intro _ hw'
  obtain ⟨y, rfl⟩ := hw'
  have hB6 := below_seq hB5.out y.h
  clear e0 e1 e2 e3 e4 e5 el x0 x1 x2 xl
  have hbX6 := Lib.hid (below_seq hbX5.out y.h)
  replace hB6 := Lib.hid hB6
  generalize y.w = w6 at *
  clear hB5 hX5 hbX5 hF5
  have bk6 := Lib.hid (hBk.out.below hB6.out)
  replace h0 := Lib.hid h0
  replace h1 := Lib.hid h1
  replace hin := Lib.hid hin
  have hdn : ¬ inB p (.slice ac N.length cc) (.slice ag N.length cg) w.heap.size := fun h => Nat.lt_irrefl _ (hBk.out.blk _ h).2
  obtain ⟨e0, e1, e2, e3, e4, e5, el⟩ := hd.out _ hbX6.out
  go_wp2
  clear e2 e3 e4 e5
  go_loopw [77] (fun i wr => ∃ k : Nat, k ≤ n ∧ i = .int .i64 k ∧ BkV wr B p (.slice ac N.length cc) (.slice ag N.length cg) N (goneL G (gl.take k)) ∧ But (inB p (.slice ac N.length cc) (.slice ag N.length cg)) w6 wr) (fun i _ => n - (intOf i).toNat)
  case atStart => exact ⟨0, Nat.zero_le _, rfl, bk6.out, But.refl _ _⟩
  case round =>
    obtain ⟨k, hk, rfl, bk, hbt⟩ := hrel
    replace bk := Lib.hid bk
    replace hbt := Lib.hid hbt
    by_cases hlt : k < n
    · have hkl : k < gl.length := by rw [hn.out]; exact hlt
      obtain ⟨b0, o0, rfl, hI, hnb⟩ := h0.out (by omega)
      have hI6 := hI.below hB6.out
      have l1 := (hbt.out.cell hI6.lt hnb (o0 + k)).trans (hI6.c k hkl)
      have l2 := Nat.lt_of_lt_of_le hI6.lt hbt.out.size
      obtain ⟨g0, g1⟩ := hin.out _ (List.getElem_mem hkl)
      have hsn := Lib.hid (goneL_snoc G (gl.take k) gl[k])
      rw [← take_snocI gl k hkl] at hsn
      clear hI hI6
      generalize gl[k] = g at *
      obtain ⟨j, rfl⟩ : ∃ j : Nat, g = (j : Int) := ⟨g.toNat, by omega⟩
      have hj : j < N.length := by omega
      have hrg := bk.out.rg
      have hag : ∃ gb, ag = some ⟨gb, 0, none⟩ := by
        rcases hrg.2 with ⟨h2, h3⟩ | ⟨gb, cap, cur, h2, -⟩
        · omega
        · simp only [Value.slice.injEq] at h2; exact ⟨gb, h2.1⟩
      obtain ⟨gb, rfl⟩ := hag
      have m1 := hrg.cellAt j (by omega)
      have m2 := hrg.frozenAt j
      have m3 : gb < wr.heap.size := (hrg.lt gb rfl).2
      have hjl : j < ((goneL G (gl.take k)).map Value.bool).length := by rw [List.length_map, goneL_len]; have := hBk.out.ln; omega
      rw [List.getElem?_eq_getElem hjl] at m1
      have p1 := bk.out.c1
      have p2 := bk.out.lt
      clear hrg
      generalize ((goneL G (gl.take k)).map Value.bool)[j] = ov at *
      have hbn := Lib.hid (bk.out.setg (g := gb) (c := cg) j)
      go_wp2
      go_roundw
      case rel => exact ⟨k + 1, by omega, by go_num, by rw [hsn.out, Int.toNat_natCast]; exact hbn.out, hbt.out.trans (But.setCell (p := ⟨gb, j, none⟩) (.inr (.inr rfl)) _)⟩
      case measure => simp [intOf]; omega
    · obtain rfl : k = n := by omega
      rw [List.take_of_length_le (by have := hn.out; omega)] at bk
      have hw6 : B ≤ w6.heap.size := Nat.le_trans hB0 hB6.out.size
      have q1 := (hbt.out.cell el hdn 1).trans e1
      have q2 := Nat.lt_of_lt_of_le el hbt.out.size
      have hsp : Hid (∀ w', But (inB p (.slice ac N.length cc) (.slice ag N.length cg)) w6 w' → 0 < (M.map qS).length → ∃ b o, a1 = some ⟨b, o, none⟩ ∧ SpotsAt w' b o (M.map qS)) := Lib.hid fun w' hb h => by
        obtain ⟨b, o, e, hs, hnb⟩ := h1.out h
        exact ⟨b, o, e, (hs.below hB6.out).but hb hnb⟩
      have p0 := bk.out.c0
      have pl := bk.out.lt
      have he1 := Lib.hid e1
      have hel := Lib.hid el
      clear e0 e1 el
      have bkD := Lib.hid (bk.out.below (Below.refl wr.heap.size wr).drew)
      have hA := Lib.hid (AppRun.spots (a := a1) (c := c1) bkD.out.rc (hsp.out _ (hbt.out.trans (But.of_below (Below.refl wr.heap.size wr).drew))) (Nat.le_trans hw6 hbt.out.size) (by omega) (by rw [List.length_map]; have := hm'.out; omega))
      rw [List.length_map, hm'.out] at hA
      go_wp2_with fail
      go_region_law (refine step_app (by rfl) _ _ (by rfl) hA.out (by rfl) (by rfl) ?_; intro v' w8 hrow hgr hloc; obtain ⟨z0, z1, z2, z3, z4, z5, z6, z7⟩ := bkD.out.grow (M := M) (Nat.le_trans hw6 hbt.out.size) (by rw [hm'.out]; exact hrow) hgr hloc; obtain ⟨av, cv, rfl⟩ := own_slB hrow; replace hrow := Lib.hid hrow; replace hgr := Lib.hid hgr; replace hloc := Lib.hid hloc; replace z5 := Lib.hid z5; replace z6 := Lib.hid z6; replace z7 := Lib.hid z7)
      all_goals
        have hng : (Value.slice ag N.length cg).ownBlock ≠ some p := hBk.out.ng
        obtain ⟨y0, y1, y2, y3, y5, y6⟩ := half z0 z1 z2 z3 z4 z5.out hrow.out z7.out hng
        have hbw := Lib.hid (hbt.out.trans ((But.of_below (Below.refl wr.heap.size wr).drew).trans ((But.of_grown hgr.out (fun k hk => .inr (.inl hk))).trans (But.setCell (p := ⟨p, 0, none⟩) (.inl rfl) (.slice av (N.length + m) cv)))))
        have hz8 := hgr.out.size
        generalize w8.setCell ⟨p, 0, none⟩ (.slice av (N.length + m) cv) = w9 at *
        clear z0 z1 z2 z3 z4 z5 q1 q2 p0
        have pl9 : p < w9.heap.size := Nat.lt_of_lt_of_le (Nat.lt_of_lt_of_le hBk.out.lt hB6.out.size) hbw.out.size
        have q1 := (hbw.out.cell hel.out hdn 1).trans he1.out
        have q2 := Nat.lt_of_lt_of_le hel.out hbw.out.size
        have hA2 := Lib.hid (AppRun.zeros (w := w9.drew) m y5.drew (Nat.le_trans hw6 hbw.out.size) (by omega) (by omega))
        replace y5 := Lib.hid y5
        replace y6 := Lib.hid y6
        go_wp2_with fail
        go_region_law (refine step_app (by rfl) _ _ (by rfl) hA2.out (by rfl) (by rfl) ?_; intro v2 w10 hrow2 hgr2 hloc2; have hb10 : w10.heap[p]? = w9.drew.heap[p]? := hgr2.block p pl9 (fun e => hng e.symm); have k0 : w10.cell? ⟨p, 0, none⟩ = some (.slice av (N.length + m) cv) := (World.cell?_of_block hb10).trans y0; have k1 : w10.cell? ⟨p, 1, none⟩ = some (.slice ag N.length cg) := (World.cell?_of_block hb10).trans y1; have k2 : w10.frozen? ⟨p, 0, none⟩ = false := (World.frozen?_of_block hb10).trans y2; have k3 : w10.frozen? ⟨p, 1, none⟩ = false := (World.frozen?_of_block hb10).trans y3; have k4 : p < w10.heap.size := Nat.lt_of_lt_of_le pl9 hgr2.size; obtain ⟨av2, cv2, rfl⟩ := own_slB hrow2; replace hrow2 := Lib.hid hrow2; replace hgr2 := Lib.hid hgr2; replace hloc2 := Lib.hid hloc2)
        all_goals
          obtain ⟨i1, i2⟩ := row_pair y6.out.drew z6.out.symm hgr2.out hloc2.out
          have hzz := hgr2.out.size
          have hz9 := hbw.out.size
          have hzw := hB6.out.size
          have hng2 : (Value.slice av2 (N.length + m) cv2).ownBlock ≠ some p := by
            rcases hloc2.out with e | e
            · rw [e]; exact hng
            · rw [e]; intro e2; have : w9.drew.heap.size = p := Option.some.inj e2; have h5 : w9.drew.heap.size = w9.heap.size := rfl; omega
          have hML : (N ++ M).length = N.length + m := by rw [List.length_append, hm'.out]
          have hfin := full k0 k1 k2 k3 k4 hBk.out.bp (N := N ++ M) (G := goneL G gl ++ List.replicate m false) (by rw [hML]; exact hrow2.out) (by rw [hML, List.map_append, ← spCells_app]; exact i1) (by rw [List.length_append, goneL_len, List.length_replicate, hML, hBk.out.ln]) i2.symm z7.out hng2
          have hbu := (hbw.out.trans ((But.of_below (Below.refl w9.heap.size w9).drew).trans ((But.of_grown hgr2.out (fun k hk => .inr (.inr hk))).trans (But.setCell (p := ⟨p, 1, none⟩) (.inl rfl) (.slice av2 (N.length + m) cv2)))))
          go_wp2
          go_ret
          refine ⟨rfl, _, _, hfin, fun k' hk' => ?_, (But.of_below hB6.out).trans hbu⟩
          have hwr := hbt.out.size
          have hwd : wr.drew.heap.size = wr.heap.size := rfl
          have hwd9 : w9.drew.heap.size = w9.heap.size := rfl
          rcases hk' with hk' | hk' | hk'
          · exact .inl (.inl hk')
          · rcases hloc.out with e | e
            · rw [e] at hk'; exact .inl (.inr (.inl hk'))
            · rw [e] at hk'; have := Option.some.inj hk'; exact .inr (by omega)
          · rcases hloc2.out with e | e
            · rw [e] at hk'; exact .inl (.inr (.inr hk'))
            · rw [e] at hk'; have := Option.some.inj hk'; exact .inr (by omega)
end Go.Proofs.YtebomakihdjllaaDoor
namespace Go.Proofs.YtebomakihdjllaaDoor
open Go.RowKit
set_option maxRecDepth 100000
set_option linter.unusedVariables false
set_option linter.unusedSimpArgs false
set_option maxHeartbeats 1000000 in
theorem rSecond_c (w : World) (hF : FarAt w) : Calls Tryd.prog 22 #[] w fun e w' => e = .returned (spV (sq (4 * hJ))) ∧ Below w.heap.size w w' := by
  go_enter Tryd.func22, Tryd.ntmps22
  go_wp2_with fail
  refine (refOf_c ⟨#[115, 101, 99, 111, 110, 100]⟩ _ (hF.below (by repeat (first | exact Below.refl _ _ | refine balloc ?_ _ | refine Below.drew ?_ | refine below_drewN ?_ _ | refine below_set ?_ (by first | omega | (dsimp only; omega)) _))) (by show 6 ≤ _; omega)).mono ?_; rintro e w1 ⟨rfl, hb⟩
  rw [show hSpot (⟨#[115, 101, 99, 111, 110, 100]⟩ : ByteArray).data.toList = sq (4 * hJ) from hJ_spec.2.2]
  obtain ⟨hc1, hf1⟩ := bcell hb
  have z1 := hb.size
  try simp only [World.size_alloc, World.size_setCell, World.size_drew] at z1
  have s1_0 : w.heap.size < w1.heap.size := by omega
  have hB1 : Below w.heap.size w w1 := below_seq (by repeat (first | exact Below.refl _ _ | refine balloc ?_ _ | refine Below.drew ?_ | refine below_drewN ?_ _ | refine below_set ?_ (by first | omega | (dsimp only; omega)) _)) hb
  clear hb
  have r0 : w1.cell? ⟨w.heap.size, 0, none⟩ = some (.int .i64 0) := by go_simp
  have r1 : w1.cell? ⟨w.heap.size, 1, none⟩ = some (.int .i64 0) := by go_simp
  have r2 : w1.cell? ⟨w.heap.size, 2, none⟩ = some (.bool false) := by go_simp
  go_wp2
  have k := set3_cell (w := w1) (x := .int .i64 (sq (4 * hJ)).x) (y := .int .i64 (sq (4 * hJ)).y) (z := .bool (sq (4 * hJ)).far) r0 r1 r2
  refine bodyPost_ret (v := spV (sq (4 * hJ))) (by simp [results, Tryd.results22, go_sem, k.1, k.2.1, k.2.2]) rfl ⟨rfl, set3_below (by repeat (first | exact hB1 | exact Below.refl _ _ | refine balloc ?_ _ | refine Below.drew ?_ | refine below_drewN ?_ _ | refine below_set ?_ (by first | omega | (dsimp only; omega)) _)) (by omega)⟩
end Go.Proofs.YtebomakihdjllaaDoor
namespace Go.Proofs.YtebomakihdjllaaDoor
open Go.RowKit
set_option maxRecDepth 100000
set_option linter.unusedVariables false
set_option linter.unusedSimpArgs false
attribute [local go_sem ↓] Go.wp_at_zero Go.wp_at_succ
set_option maxHeartbeats 16000000 in
theorem rbdo_n (N : List Int) (G : List Bool) (B p : Nat) (a0 a1 : Option Addr) (n m c0 c1 : Nat) (RS : Sp) (s : Int) (X : Sp) (x E : Int) (RX : Value) (w : World) (hF : FarAt w) (hBk : BkAt w B p N G) (hNl : N.length ≤ 1000000) (hm : m ≤ 1000000) (hX : Hid (X = sq (4 * x)))
    (hEx : Hid (∀ w1 : World, Below w.heap.size w w1 → Calls Tryd.prog 25 #[.pointer (some ⟨p, 0, none⟩), .slice a0 n c0, .slice a1 m c1] w1 fun e w' => e = .returned RX ∧ Below w1.heap.size w1 w'))
    (hR : Hid (((E != 0) = true ∧ RX = .tuple #[spV ⟨0, 0, false⟩, .int .i64 E]) ∨ (RX = .tuple #[spV X, .int .i64 0] ∧ ((1000 < N.length + m ∧ E = 4) ∨ (N.length + m ≤ 1000 ∧ ((¬ (0 ≤ s ∧ s < 1013) ∧ E = 1) ∨ ((0 ≤ s ∧ s < 1013) ∧ ((sCheck RS = E ∧ E ≠ 0) ∨ (Ok RS ∧ E = 8 ∧ Sp.beq (sq (4 * hJ * s)) (sSum RS (sq (4 * x * bAsk RS X))) = false))))))))) :
    Calls Tryd.prog 26 #[.pointer (some ⟨p, 0, none⟩), dlV (.slice a0 n c0) (.slice a1 m c1) RS s] w fun e w' => e = .returned (.int .i64 E) ∧ Below w.heap.size w w' := by
  obtain ⟨vc, vg, hBk⟩ := hBk
  obtain ⟨ac, cc, rfl⟩ := own_slB hBk.rc
  have p0 := hBk.c0
  have hp := hBk.lt
  have hcp := Lib.hid (fun (w' : World) (hb : Below w.heap.size w w') => (⟨((bcell hb).1 _ 0 hp).trans p0, Nat.lt_of_lt_of_le hp hb.size⟩ : w'.cell? ⟨p, 0, none⟩ = some (.slice ac N.length cc) ∧ p < w'.heap.size))
  have hF' := Lib.hid hF
  clear hBk p0 hF
  go_enter Tryd.func26, Tryd.ntmps26
  go_wp2_with fail
  have hb0 := Lib.hid (below_alloc w (.cells #[.slice a0 n c0, .slice a1 m c1, .int .i64 RS.x, .int .i64 RS.y, .bool RS.far, .int .i64 s] 42))
  refine (hEx.out _ hb0.out).mono ?_; rintro e w1 ⟨rfl, hb1⟩
  have hB1 := Lib.hid (below_seq hb0.out hb1)
  obtain ⟨hcc, -⟩ := bcell hb1
  have e0 : w1.cell? ⟨w.heap.size, 0, none⟩ = some (.slice a0 n c0) := by rw [hcc _ _ (by simp)]; go_simp
  have e1 : w1.cell? ⟨w.heap.size, 1, none⟩ = some (.slice a1 m c1) := by rw [hcc _ _ (by simp)]; go_simp
  have e2 : w1.cell? ⟨w.heap.size, 2, none⟩ = some (.int .i64 RS.x) := by rw [hcc _ _ (by simp)]; go_simp
  have e3 : w1.cell? ⟨w.heap.size, 3, none⟩ = some (.int .i64 RS.y) := by rw [hcc _ _ (by simp)]; go_simp
  have e4 : w1.cell? ⟨w.heap.size, 4, none⟩ = some (.bool RS.far) := by rw [hcc _ _ (by simp)]; go_simp
  have e5 : w1.cell? ⟨w.heap.size, 5, none⟩ = some (.int .i64 s) := by rw [hcc _ _ (by simp)]; go_simp
  have el : w.heap.size < w1.heap.size := by have := hb1.size; simp at this; omega
  have hd := Lib.hid (fun (w' : World) (hb : Below w1.heap.size w1 w') => (⟨((bcell hb).1 _ 0 el).trans e0, ((bcell hb).1 _ 1 el).trans e1, ((bcell hb).1 _ 2 el).trans e2, ((bcell hb).1 _ 3 el).trans e3, ((bcell hb).1 _ 4 el).trans e4, ((bcell hb).1 _ 5 el).trans e5, Nat.lt_of_lt_of_le el hb.size⟩ : w'.cell? ⟨w.heap.size, 0, none⟩ = some (.slice a0 n c0) ∧ w'.cell? ⟨w.heap.size, 1, none⟩ = some (.slice a1 m c1) ∧ w'.cell? ⟨w.heap.size, 2, none⟩ = some (.int .i64 RS.x) ∧ w'.cell? ⟨w.heap.size, 3, none⟩ = some (.int .i64 RS.y) ∧ w'.cell? ⟨w.heap.size, 4, none⟩ = some (.bool RS.far) ∧ w'.cell? ⟨w.heap.size, 5, none⟩ = some (.int .i64 s) ∧ w.heap.size < w'.heap.size))
  obtain ⟨r0, r1⟩ := hcp.out _ hB1.out
  clear hcc hb1 hb0 hEx
  rcases hR.out with ⟨hne, rfl⟩ | ⟨rfl, h⟩
  · go_wp2
    go_ret
    exact ⟨rfl, balloc hB1.out _⟩
  have hB2 := Lib.hid (balloc hB1.out (.cells #[.int .i64 X.x, .int .i64 X.y, .bool X.far] 23))
  have hX2 := Lib.hid (SpAt.fresh w1 X.x X.y X.far 23)
  have hbX := Lib.hid (below_alloc w1 (.cells #[.int .i64 X.x, .int .i64 X.y, .bool X.far] 23))
  clear hR
  rcases h with ⟨h1, rfl⟩ | ⟨h1, h⟩
  · have d1 : decide ((1000 : Int) < (N.length : Int) + (m : Int)) = true := decide_eq_true (by omega)
    go_upto_region 4 with fail
    generalize w1.alloc (.cells #[.int .i64 X.x, .int .i64 X.y, .bool X.far] 23) = w2 at *
    clear r0 r1
    obtain ⟨r0, r1⟩ := hcp.out _ hB2.out
    clear e0 e1 e2 e3 e4 e5 el
    obtain ⟨e0, e1, e2, e3, e4, e5, el⟩ := hd.out _ hbX.out
    go_quiet (fail)
    go_wp2
    go_ret
    exact ⟨rfl, below_drewN hB2.out _⟩
  · have d1 : decide ((1000 : Int) < (N.length : Int) + (m : Int)) = false := decide_eq_false (by omega)
    go_upto_region 4 with fail
    generalize w1.alloc (.cells #[.int .i64 X.x, .int .i64 X.y, .bool X.far] 23) = w2 at *
    clear r0 r1
    obtain ⟨r0, r1⟩ := hcp.out _ hB2.out
    clear e0 e1 e2 e3 e4 e5 el
    obtain ⟨e0, e1, e2, e3, e4, e5, el⟩ := hd.out _ hbX.out
    go_quiet (fail)
    have hbq := below_drewN (Below.refl w2.heap.size w2) nq
    have hB3 := Lib.hid (below_seq hB2.out hbq)
    have hX3 := Lib.hid (hX2.out.below hbq)
    have hbX3 := Lib.hid (below_seq hbX.out hbq)
    generalize w2.drewN nq = w3 at *
    clear r0 r1 e0 e1 e2 e3 e4 e5 el hbq hB2 hX2 hbX
    obtain ⟨e0, e1, e2, e3, e4, e5, el⟩ := hd.out _ hbX3.out
    rcases h with ⟨h2, rfl⟩ | ⟨⟨s0, s1⟩, h⟩
    · go_wp2_with fail
      refine (rRest_n s _ h2).mono ?_; rintro e w' ⟨rfl, rfl⟩
      go_wp2
      go_ret
      exact ⟨rfl, hB3.out⟩
    · rcases h with ⟨hc, hE⟩ | ⟨oR, rfl, hq⟩
      · have hE2 : (E != 0) = true := by simpa using hE
        replace hc := Lib.hid hc
        clear hE
        go_wp2_with fail
        refine (rRest_y s _ s0 s1).mono ?_; rintro e w' ⟨rfl, rfl⟩
        go_wp2_with fail
        refine (refSpot_e RS E _ hc).mono ?_; rintro e w4 ⟨rfl, hb4⟩
        go_wp2
        go_ret
        exact ⟨rfl, below_seq hB3.out hb4⟩
      · replace hq := Lib.hid hq
        go_wp2_with fail
        refine (rRest_y s _ s0 s1).mono ?_; rintro e w' ⟨rfl, rfl⟩
        go_wp2_with fail
        refine (refSpot_e RS 0 _ (Lib.hid ((ok_iff _).mpr oR))).mono ?_; rintro e w4 ⟨rfl, hb4⟩
        have hB4 := Lib.hid (below_seq hB3.out hb4)
        have hX4 := Lib.hid (hX3.out.below hb4)
        have hbX4 := Lib.hid (below_seq hbX3.out hb4)
        clear e0 e1 e2 e3 e4 e5 el hb4 hB3 hX3 hbX3
        obtain ⟨e0, e1, e2, e3, e4, e5, el⟩ := hd.out _ hbX4.out
        obtain ⟨x0, x1, x2, -, -, -, xl⟩ := hX4.out
        have oX : Ok X := by rw [hX.out]; exact sq_ok _
        obtain ⟨c, hc⟩ : ∃ c, bAsk RS X = c := ⟨_, rfl⟩
        have hcb := bAsk_bd RS X
        rw [hc] at hq hcb
        replace hc := Lib.hid hc
        go_wp2_with fail
        refine (rbask_c RS X c _ oR oX hc).mono ?_; rintro e w5 ⟨rfl, hb5⟩
        have hB5 := Lib.hid (below_seq hB4.out hb5)
        have hX5 := Lib.hid (hX4.out.below hb5)
        have hq5 := Lib.hid (below_seq hbX4.out hb5)
        clear e0 e1 e2 e3 e4 e5 el x0 x1 x2 xl hb5 hB4 hX4 hbX4
        obtain ⟨e0, e1, e2, e3, e4, e5, el⟩ := hd.out _ hq5.out
        obtain ⟨x0, x1, x2, -, -, -, xl⟩ := hX5.out
        obtain ⟨P, hP⟩ : ∃ P, sq (4 * hJ * s) = P := ⟨_, rfl⟩
        obtain ⟨T, hT⟩ : ∃ T, sq (4 * x * c) = T := ⟨_, rfl⟩
        obtain ⟨D, hD⟩ : ∃ D, sSum RS T = D := ⟨_, rfl⟩
        have oT : Ok T := by rw [← hT]; exact sq_ok _
        rw [hP, hT, hD] at hq
        have hq := hq.out
        replace hP := Lib.hid hP
        replace hT := Lib.hid hT
        replace hD := Lib.hid hD
        have hF5 := Lib.hid (hF'.out.below hB5.out)
        have hX' := hX
        have cS := Lib.hid (fun (w1 : World) hF1 => rSecond_c w1 hF1)
        obtain ⟨Z, hZ⟩ : ∃ Z, Z = sq (4 * hJ) := ⟨_, rfl⟩
        rw [← hZ] at cS
        replace hZ := Lib.hid hZ
        clear hX
        go_upto_region 13 with fail
        go_cut [9] from 53 to 57 (fun s9 wx => ∃ q : Nat, s9 = .pointer (some ⟨q, 0, none⟩) ∧ SpAt wx q P ∧ Below w5.heap.size w5 wx)
        case first =>
          clear hcp
          go_region_with (first | (go_at_call 22; refine (cS.out _ (hF5.out.below (by repeat (first | exact Below.refl _ _ | exact hwt.out | refine balloc ?_ _ | refine Below.drew ?_)))).mono ?_; rintro e wt ⟨rfl, hbt⟩; have hwt := Lib.hid (show Below w5.heap.size w5 wt from below_seq (by repeat (first | exact Below.refl _ _ | exact hwt.out | refine balloc ?_ _ | refine Below.drew ?_)) hbt); have hza := hwt.out.size; obtain ⟨e0, e1, e2, e3, e4, e5, el⟩ := hd.out _ (below_seq hq5.out hwt.out); obtain ⟨x0, x1, x2, -, -, -, xl⟩ := hX5.out.below hwt.out; (first | (refine hav_ (P := SpAt wt _ ⟨0, 0, false⟩) (SpAt.below hz0.out hbt) (fun kC => ?_); have hz0 := Lib.hid kC; obtain ⟨c0', c1', c2', c3', c4', c5', c6'⟩ := kC) | (refine hav_ (P := SpAt wt _ ⟨0, 0, false⟩) (SpAt.below (SpAt.fresh _ _ _ _ _) hbt) (fun kC => ?_); have hz0 := Lib.hid kC; obtain ⟨c0', c1', c2', c3', c4', c5', c6'⟩ := kC) | (refine hav_ (P := SpAt wt _ ⟨0, 0, false⟩) (SpAt.below (SpAt.drew (SpAt.fresh _ _ _ _ _)) hbt) (fun kC => ?_); have hz0 := Lib.hid kC; obtain ⟨c0', c1', c2', c3', c4', c5', c6'⟩ := kC) | skip); clear hbt) | (go_at_call 21; refine (refTimes_e Z P (4 * hJ) s _ (by omega) (by omega) hZ hP).mono ?_; rintro e wt ⟨rfl, hbt⟩; have hwt := Lib.hid (show Below w5.heap.size w5 wt from below_seq (by repeat (first | exact Below.refl _ _ | exact hwt.out | refine balloc ?_ _ | refine Below.drew ?_)) hbt); have hza := hwt.out.size; obtain ⟨e0, e1, e2, e3, e4, e5, el⟩ := hd.out _ (below_seq hq5.out hwt.out); obtain ⟨x0, x1, x2, -, -, -, xl⟩ := hX5.out.below hwt.out; (first | (refine hav_ (P := SpAt wt _ ⟨0, 0, false⟩) (SpAt.below hz0.out hbt) (fun kC => ?_); have hz0 := Lib.hid kC; obtain ⟨c0', c1', c2', c3', c4', c5', c6'⟩ := kC) | (refine hav_ (P := SpAt wt _ ⟨0, 0, false⟩) (SpAt.below (SpAt.fresh _ _ _ _ _) hbt) (fun kC => ?_); have hz0 := Lib.hid kC; obtain ⟨c0', c1', c2', c3', c4', c5', c6'⟩ := kC) | (refine hav_ (P := SpAt wt _ ⟨0, 0, false⟩) (SpAt.below (SpAt.drew (SpAt.fresh _ _ _ _ _)) hbt) (fun kC => ?_); have hz0 := Lib.hid kC; obtain ⟨c0', c1', c2', c3', c4', c5', c6'⟩ := kC) | skip); clear hbt))
          all_goals
            go_wp2_with fail
            go_meet
            first
            | exact ⟨_, rfl, SpAt.fresh _ _ _ _ _, balloc hwt.out _⟩
            | exact ⟨_, rfl, (SpAt.zero_of (by assumption) (by assumption) (by assumption) (by assumption) (by assumption) (by assumption) (by assumption)).set3 P, set3_below hwt.out (by omega)⟩
        case rest =>
        obtain ⟨p9, rfl, hp9, hw9⟩ := hcut
        obtain ⟨w6, hu⟩ : ∃ x, x = wc := ⟨_, rfl⟩
        subst hu
        have hB6 := Lib.hid (below_seq hB5.out hw9)
        have hX6 := Lib.hid (hX5.out.below hw9)
        have hq6 := Lib.hid (below_seq hq5.out hw9)
        clear e0 e1 e2 e3 e4 e5 el x0 x1 x2 xl hw9 hB5 hX5 hq5 hF5 cS
        obtain ⟨e0, e1, e2, e3, e4, e5, el⟩ := hd.out _ hq6.out
        obtain ⟨x0, x1, x2, -, -, -, xl⟩ := hX6.out
        go_upto_region 14 with fail
        go_cut [10] from 58 to 64 (fun s10 wx => ∃ q : Nat, s10 = .pointer (some ⟨q, 0, none⟩) ∧ SpAt wx q D ∧ Below w6.heap.size w6 wx)
        case first =>
          clear hcp
          go_region_with (first | (go_at_call 21; refine (refTimes_e X T (4 * x) c _ (by omega) (by omega) hX' hT).mono ?_; rintro e wt ⟨rfl, hbt⟩; have hwt := Lib.hid (show Below w6.heap.size w6 wt from below_seq (by repeat (first | exact Below.refl _ _ | exact hwt.out | refine balloc ?_ _ | refine Below.drew ?_)) hbt); have hza := hwt.out.size; obtain ⟨e0, e1, e2, e3, e4, e5, el⟩ := hd.out _ (below_seq hq6.out hwt.out); obtain ⟨x0, x1, x2, -, -, -, xl⟩ := hX6.out.below hwt.out; (first | (refine hav_ (P := SpAt wt _ ⟨0, 0, false⟩) (SpAt.below hz0.out hbt) (fun kC => ?_); have hz0 := Lib.hid kC; obtain ⟨c0', c1', c2', c3', c4', c5', c6'⟩ := kC) | (refine hav_ (P := SpAt wt _ ⟨0, 0, false⟩) (SpAt.below (SpAt.fresh _ _ _ _ _) hbt) (fun kC => ?_); have hz0 := Lib.hid kC; obtain ⟨c0', c1', c2', c3', c4', c5', c6'⟩ := kC) | (refine hav_ (P := SpAt wt _ ⟨0, 0, false⟩) (SpAt.below (SpAt.drew (SpAt.fresh _ _ _ _ _)) hbt) (fun kC => ?_); have hz0 := Lib.hid kC; obtain ⟨c0', c1', c2', c3', c4', c5', c6'⟩ := kC) | skip); clear hbt) | (go_at_call 48; refine (refAdd_e RS T D _ oR oT hD).mono ?_; rintro e wt ⟨rfl, hbt⟩; have hwt := Lib.hid (show Below w6.heap.size w6 wt from below_seq (by repeat (first | exact Below.refl _ _ | exact hwt.out | refine balloc ?_ _ | refine Below.drew ?_)) hbt); have hza := hwt.out.size; obtain ⟨e0, e1, e2, e3, e4, e5, el⟩ := hd.out _ (below_seq hq6.out hwt.out); obtain ⟨x0, x1, x2, -, -, -, xl⟩ := hX6.out.below hwt.out; (first | (refine hav_ (P := SpAt wt _ ⟨0, 0, false⟩) (SpAt.below hz0.out hbt) (fun kC => ?_); have hz0 := Lib.hid kC; obtain ⟨c0', c1', c2', c3', c4', c5', c6'⟩ := kC) | (refine hav_ (P := SpAt wt _ ⟨0, 0, false⟩) (SpAt.below (SpAt.fresh _ _ _ _ _) hbt) (fun kC => ?_); have hz0 := Lib.hid kC; obtain ⟨c0', c1', c2', c3', c4', c5', c6'⟩ := kC) | (refine hav_ (P := SpAt wt _ ⟨0, 0, false⟩) (SpAt.below (SpAt.drew (SpAt.fresh _ _ _ _ _)) hbt) (fun kC => ?_); have hz0 := Lib.hid kC; obtain ⟨c0', c1', c2', c3', c4', c5', c6'⟩ := kC) | skip); clear hbt))
          all_goals
            go_wp2_with fail
            go_meet
            first
            | exact ⟨_, rfl, SpAt.fresh _ _ _ _ _, balloc hwt.out _⟩
            | exact ⟨_, rfl, (SpAt.zero_of (by assumption) (by assumption) (by assumption) (by assumption) (by assumption) (by assumption) (by assumption)).set3 D, set3_below hwt.out (by omega)⟩
        case rest =>
        obtain ⟨p10, rfl, hp10, hw10⟩ := hcut
        obtain ⟨w7, hu⟩ : ∃ x, x = wc := ⟨_, rfl⟩
        subst hu
        have hB7 := Lib.hid (below_seq hB6.out hw10)
        have hq7 := Lib.hid (below_seq hq6.out hw10)
        have hP7 := hp9.below hw10
        clear e0 e1 e2 e3 e4 e5 el x0 x1 x2 xl hw10 hB6 hX6 hq6
        obtain ⟨u0, u1, u2, -, -, -, ul⟩ := hP7
        obtain ⟨v0, v1, v2, -, -, -, vl⟩ := hp10
        obtain ⟨e0, e1, e2, e3, e4, e5, el⟩ := hd.out _ hq7.out
        go_wp2
        go_ret
        exact ⟨rfl, hB7.out⟩
theorem AppRun.bit {w : World} {B : Nat} {v : Value} {G : List Bool} {n g : Nat} {c : Bool} (hown : w.ownsRow B 4 1 v n (G.map .bool)) (h0 : w.cell? ⟨g, 0, none⟩ = some (.bool c)) (hB : B ≤ w.heap.size) (hn : n ≤ 1000000) :
    AppRun w 62 62 B 4 1 v (.slice (some ⟨g, 0, none⟩) 1 1) (n + 1) ((G ++ [c]).map .bool) := by
  intro ty
  obtain ⟨i0, hi, hz0, hz1, hz2⟩ := info_parts info_bool
  obtain ⟨v', w', h1, h2, h3, h4, h5⟩ := run_append_own_at w B 62 ty 4 i0 (.bool false) 1 1 Tryd.underlying62 hi hz0 hz1 hz2 rfl (by decide) v n (G.map .bool) hown ⟨g, 0, none⟩ 1 1 [.bool c] rfl (fun j u hj => by
    match j, hj with
    | 0, hj => cases hj; rw [add_none]; exact h0) (fun u hu => by simp only [List.mem_cons, List.not_mem_nil, or_false] at hu; subst hu; rfl) (by unfold maxLen; omega) (by omega) hB
  rw [List.map_append]
  exact ⟨v', w', h1, h2, h3, h5⟩
section
variable {ops : Array Oper} {o : Oper} {a : Act} {w : World} {K : Act → World → Prop} {Q : Exit → Act → World → Prop} {E : Prop}
theorem steps_app (hgd : o.guard = none) (s x : Operand) (t : TypeId)
    (ho : o.op = .call { callee := .builtin .append, args := #[s, x], argTypes := #[t, t] }) (ht : Tryd.prog.underlying t = some (.slice 23)) (B : Nat) (v : Value) (l : List Sp) (n : Nat) (hs : a.eval s = v)
    (hown : w.ownsRow B 23 3 v n (spCells l)) (hn : l.length = n) (hl : n ≤ 1000000) (hB : B ≤ w.heap.size) (g : Nat) (c : Sp) (hx : a.eval x = .slice (some ⟨g, 0, none⟩) 1 1)
    (h0 : w.cell? ⟨g, 0, none⟩ = some (.int .i64 c.x)) (h1 : w.cell? ⟨g, 1, none⟩ = some (.int .i64 c.y)) (h2 : w.cell? ⟨g, 2, none⟩ = some (.bool c.far))
    (h : ∀ v' w', w'.ownsRow B 23 3 v' (n + 1) (spCells l ++ spCells [c]) → w.grownBy w' v.ownBlock → (v'.ownBlock = v.ownBlock ∨ v'.ownBlock = some w.heap.size) → K (a.put o.dst v') w') :
    if Region.wanted o (yielded ops a.tmps) = true then Oper.wp Tryd.prog o a w K Q else E := by
  obtain ⟨i0, hi, hz0, hz1, hz2⟩ := info_parts info_spot
  refine step_append_lies w hgd s x _ ho B _ i0 _ 3 24 ht hi hz0 hz1 hz2 rfl (by decide) v n _ hs hown ⟨g, 0, none⟩ 1 1 [.int .i64 c.x, .int .i64 c.y, .bool c.far] hx rfl ?_ ?_ (by decide) (by unfold maxLen; omega) (by omega) hB _ rfl ?_
  · intro j u hj
    have e : ∀ k, (⟨g, 0, none⟩ : Addr).add k = ⟨g, k, none⟩ := fun k => by rw [add_none, Nat.zero_add]
    rw [e]
    match j, hj with
    | 0, hj => cases hj; exact h0
    | 1, hj => cases hj; exact h1
    | 2, hj => cases hj; exact h2
  · intro u hu
    simp only [List.mem_cons, List.not_mem_nil, or_false] at hu
    rcases hu with rfl | rfl | rfl <;> rfl
  · intro k cap w' h3 h4 h5 _
    refine h _ w' h3 h4 ?_
    rcases h5 with h5 | h5
    · exact .inl (by rw [h5]; rfl)
    · exact .inr (by rw [h5]; rfl)
end
set_option maxHeartbeats 32000000 in
theorem rbdo_y (N M : List Int) (G : List Bool) (B p : Nat) (vc vg : Value) (gl : List Int) (a0 a1 : Option Addr) (n m c0 c1 : Nat) (RS : Sp) (s : Int) (X : Sp) (x : Int) (w : World) (hF : FarAt w) (hBk : BkV w B p vc vg N G) (hB0 : B ≤ w.heap.size) (hNl : N.length ≤ 1000) (hX : Hid (X = sq (4 * x))) (hn : gl.length = n) (hm' : M.length = m) (hnb : n ≤ 9223372036854775807)
    (h0 : 0 < gl.length → ∃ b o, a0 = some ⟨b, o, none⟩ ∧ IntsAt w b o gl ∧ ¬ inB p vc vg b) (h1 : 0 < (M.map qS).length → ∃ b o, a1 = some ⟨b, o, none⟩ ∧ SpotsAt w b o (M.map qS) ∧ ¬ inB p vc vg b) (hin : ∀ g ∈ gl, 0 ≤ g ∧ g < N.length)
    (hEx : Hid (∀ w1 : World, Below w.heap.size w w1 → Calls Tryd.prog 25 #[.pointer (some ⟨p, 0, none⟩), .slice a0 n c0, .slice a1 m c1] w1 fun e w' => e = .returned (.tuple #[spV X, .int .i64 0]) ∧ Below w1.heap.size w1 w'))
    (hm : N.length + m ≤ 1000) (s0 : 0 ≤ s) (s1 : s < 1013) (oR : Ok RS) (hq : Hid (Sp.beq (sq (4 * hJ * s)) (sSum RS (sq (4 * x * bAsk RS X))) = true)) :
    Calls Tryd.prog 26 #[.pointer (some ⟨p, 0, none⟩), dlV (.slice a0 n c0) (.slice a1 m c1) RS s] w fun e w' => e = .returned (.int .i64 0) ∧ Did w w' B p vc vg (N ++ M) (goneL G gl ++ List.replicate m false) := by
  replace hn := Lib.hid hn
  replace hm' := Lib.hid hm'
  obtain ⟨ac, cc, rfl⟩ := own_slB hBk.rc
  obtain ⟨ag, cg, rfl⟩ := own_slB hBk.rg
  have p0 := hBk.c0
  have hp := hBk.lt
  have hcp := Lib.hid (fun (w' : World) (hb : Below w.heap.size w w') => (⟨((bcell hb).1 _ 0 hp).trans p0, Nat.lt_of_lt_of_le hp hb.size⟩ : w'.cell? ⟨p, 0, none⟩ = some (.slice ac N.length cc) ∧ p < w'.heap.size))
  have hF' := Lib.hid hF
  replace hBk := Lib.hid hBk
  replace h0 := Lib.hid h0
  replace h1 := Lib.hid h1
  replace hin := Lib.hid hin
  clear p0 hF
  go_enter Tryd.func26, Tryd.ntmps26
  go_wp2_with fail
  have hb0 := Lib.hid (below_alloc w (.cells #[.slice a0 n c0, .slice a1 m c1, .int .i64 RS.x, .int .i64 RS.y, .bool RS.far, .int .i64 s] 42))
  refine (hEx.out _ hb0.out).mono ?_; rintro e w1 ⟨rfl, hb1⟩
  have hB1 := Lib.hid (below_seq hb0.out hb1)
  obtain ⟨hcc, -⟩ := bcell hb1
  have e0 : w1.cell? ⟨w.heap.size, 0, none⟩ = some (.slice a0 n c0) := by rw [hcc _ _ (by simp)]; go_simp
  have e1 : w1.cell? ⟨w.heap.size, 1, none⟩ = some (.slice a1 m c1) := by rw [hcc _ _ (by simp)]; go_simp
  have e2 : w1.cell? ⟨w.heap.size, 2, none⟩ = some (.int .i64 RS.x) := by rw [hcc _ _ (by simp)]; go_simp
  have e3 : w1.cell? ⟨w.heap.size, 3, none⟩ = some (.int .i64 RS.y) := by rw [hcc _ _ (by simp)]; go_simp
  have e4 : w1.cell? ⟨w.heap.size, 4, none⟩ = some (.bool RS.far) := by rw [hcc _ _ (by simp)]; go_simp
  have e5 : w1.cell? ⟨w.heap.size, 5, none⟩ = some (.int .i64 s) := by rw [hcc _ _ (by simp)]; go_simp
  have el : w.heap.size < w1.heap.size := by have := hb1.size; simp at this; omega
  have hd := Lib.hid (fun (w' : World) (hb : Below w1.heap.size w1 w') => (⟨((bcell hb).1 _ 0 el).trans e0, ((bcell hb).1 _ 1 el).trans e1, ((bcell hb).1 _ 2 el).trans e2, ((bcell hb).1 _ 3 el).trans e3, ((bcell hb).1 _ 4 el).trans e4, ((bcell hb).1 _ 5 el).trans e5, Nat.lt_of_lt_of_le el hb.size⟩ : w'.cell? ⟨w.heap.size, 0, none⟩ = some (.slice a0 n c0) ∧ w'.cell? ⟨w.heap.size, 1, none⟩ = some (.slice a1 m c1) ∧ w'.cell? ⟨w.heap.size, 2, none⟩ = some (.int .i64 RS.x) ∧ w'.cell? ⟨w.heap.size, 3, none⟩ = some (.int .i64 RS.y) ∧ w'.cell? ⟨w.heap.size, 4, none⟩ = some (.bool RS.far) ∧ w'.cell? ⟨w.heap.size, 5, none⟩ = some (.int .i64 s) ∧ w.heap.size < w'.heap.size))
  obtain ⟨r0, r1⟩ := hcp.out _ hB1.out
  clear hcc hb1 hb0 hEx
  have hB2 := Lib.hid (balloc hB1.out (.cells #[.int .i64 X.x, .int .i64 X.y, .bool X.far] 23))
  have hX2 := Lib.hid (SpAt.fresh w1 X.x X.y X.far 23)
  have hbX := Lib.hid (below_alloc w1 (.cells #[.int .i64 X.x, .int .i64 X.y, .bool X.far] 23))
  have d1 : decide ((1000 : Int) < (N.length : Int) + (m : Int)) = false := decide_eq_false (by omega)
  go_upto_region 4 with fail
  generalize w1.alloc (.cells #[.int .i64 X.x, .int .i64 X.y, .bool X.far] 23) = w2 at *
  clear r0 r1
  obtain ⟨r0, r1⟩ := hcp.out _ hB2.out
  clear e0 e1 e2 e3 e4 e5 el
  obtain ⟨e0, e1, e2, e3, e4, e5, el⟩ := hd.out _ hbX.out
  go_quiet (fail)
  have hbq := below_drewN (Below.refl w2.heap.size w2) nq
  have hB3 := Lib.hid (below_seq hB2.out hbq)
  have hX3 := Lib.hid (hX2.out.below hbq)
  have hbX3 := Lib.hid (below_seq hbX.out hbq)
  generalize w2.drewN nq = w3 at *
  clear r0 r1 e0 e1 e2 e3 e4 e5 el hbq hB2 hX2 hbX
  obtain ⟨e0, e1, e2, e3, e4, e5, el⟩ := hd.out _ hbX3.out
  go_wp2_with fail
  refine (rRest_y s _ s0 s1).mono ?_; rintro e w' ⟨rfl, rfl⟩
  go_wp2_with fail
  refine (refSpot_e RS 0 _ (Lib.hid ((ok_iff _).mpr oR))).mono ?_; rintro e w4 ⟨rfl, hb4⟩
  have hB4 := Lib.hid (below_seq hB3.out hb4)
  have hX4 := Lib.hid (hX3.out.below hb4)
  have hbX4 := Lib.hid (below_seq hbX3.out hb4)
  clear e0 e1 e2 e3 e4 e5 el hb4 hB3 hX3 hbX3
  obtain ⟨e0, e1, e2, e3, e4, e5, el⟩ := hd.out _ hbX4.out
  obtain ⟨x0, x1, x2, -, -, -, xl⟩ := hX4.out
  have oX : Ok X := by rw [hX.out]; exact sq_ok _
  obtain ⟨c, hc⟩ : ∃ c, bAsk RS X = c := ⟨_, rfl⟩
  have hcb := bAsk_bd RS X
  rw [hc] at hq hcb
  replace hc := Lib.hid hc
  go_wp2_with fail
  refine (rbask_c RS X c _ oR oX hc).mono ?_; rintro e w5 ⟨rfl, hb5⟩
  have hB5 := Lib.hid (below_seq hB4.out hb5)
  have hX5 := Lib.hid (hX4.out.below hb5)
  have hq5 := Lib.hid (below_seq hbX4.out hb5)
  clear e0 e1 e2 e3 e4 e5 el x0 x1 x2 xl hb5 hB4 hX4 hbX4
  obtain ⟨e0, e1, e2, e3, e4, e5, el⟩ := hd.out _ hq5.out
  obtain ⟨x0, x1, x2, -, -, -, xl⟩ := hX5.out
  obtain ⟨P, hP⟩ : ∃ P, sq (4 * hJ * s) = P := ⟨_, rfl⟩
  obtain ⟨T, hT⟩ : ∃ T, sq (4 * x * c) = T := ⟨_, rfl⟩
  obtain ⟨D, hD⟩ : ∃ D, sSum RS T = D := ⟨_, rfl⟩
  have oT : Ok T := by rw [← hT]; exact sq_ok _
  rw [hP, hT, hD] at hq
  have hq := hq.out
  replace hP := Lib.hid hP
  replace hT := Lib.hid hT
  replace hD := Lib.hid hD
  have hF5 := Lib.hid (hF'.out.below hB5.out)
  have hX' := hX
  have cS := Lib.hid (fun (w1 : World) hF1 => rSecond_c w1 hF1)
  obtain ⟨Z, hZ⟩ : ∃ Z, Z = sq (4 * hJ) := ⟨_, rfl⟩
  rw [← hZ] at cS
  replace hZ := Lib.hid hZ
  clear hX
  go_upto_region 13 with fail
  go_cut [9] from 53 to 57 (fun s9 wx => ∃ q : Nat, s9 = .pointer (some ⟨q, 0, none⟩) ∧ SpAt wx q P ∧ Below w5.heap.size w5 wx)
  case first =>
    clear hcp
    go_region_with (first | (go_at_call 22; refine (cS.out _ (hF5.out.below (by repeat (first | exact Below.refl _ _ | exact hwt.out | refine balloc ?_ _ | refine Below.drew ?_)))).mono ?_; rintro e wt ⟨rfl, hbt⟩; have hwt := Lib.hid (show Below w5.heap.size w5 wt from below_seq (by repeat (first | exact Below.refl _ _ | exact hwt.out | refine balloc ?_ _ | refine Below.drew ?_)) hbt); have hza := hwt.out.size; obtain ⟨e0, e1, e2, e3, e4, e5, el⟩ := hd.out _ (below_seq hq5.out hwt.out); obtain ⟨x0, x1, x2, -, -, -, xl⟩ := hX5.out.below hwt.out; (first | (refine hav_ (P := SpAt wt _ ⟨0, 0, false⟩) (SpAt.below hz0.out hbt) (fun kC => ?_); have hz0 := Lib.hid kC; obtain ⟨c0', c1', c2', c3', c4', c5', c6'⟩ := kC) | (refine hav_ (P := SpAt wt _ ⟨0, 0, false⟩) (SpAt.below (SpAt.fresh _ _ _ _ _) hbt) (fun kC => ?_); have hz0 := Lib.hid kC; obtain ⟨c0', c1', c2', c3', c4', c5', c6'⟩ := kC) | (refine hav_ (P := SpAt wt _ ⟨0, 0, false⟩) (SpAt.below (SpAt.drew (SpAt.fresh _ _ _ _ _)) hbt) (fun kC => ?_); have hz0 := Lib.hid kC; obtain ⟨c0', c1', c2', c3', c4', c5', c6'⟩ := kC) | skip); clear hbt) | (go_at_call 21; refine (refTimes_e Z P (4 * hJ) s _ (by omega) (by omega) hZ hP).mono ?_; rintro e wt ⟨rfl, hbt⟩; have hwt := Lib.hid (show Below w5.heap.size w5 wt from below_seq (by repeat (first | exact Below.refl _ _ | exact hwt.out | refine balloc ?_ _ | refine Below.drew ?_)) hbt); have hza := hwt.out.size; obtain ⟨e0, e1, e2, e3, e4, e5, el⟩ := hd.out _ (below_seq hq5.out hwt.out); obtain ⟨x0, x1, x2, -, -, -, xl⟩ := hX5.out.below hwt.out; (first | (refine hav_ (P := SpAt wt _ ⟨0, 0, false⟩) (SpAt.below hz0.out hbt) (fun kC => ?_); have hz0 := Lib.hid kC; obtain ⟨c0', c1', c2', c3', c4', c5', c6'⟩ := kC) | (refine hav_ (P := SpAt wt _ ⟨0, 0, false⟩) (SpAt.below (SpAt.fresh _ _ _ _ _) hbt) (fun kC => ?_); have hz0 := Lib.hid kC; obtain ⟨c0', c1', c2', c3', c4', c5', c6'⟩ := kC) | (refine hav_ (P := SpAt wt _ ⟨0, 0, false⟩) (SpAt.below (SpAt.drew (SpAt.fresh _ _ _ _ _)) hbt) (fun kC => ?_); have hz0 := Lib.hid kC; obtain ⟨c0', c1', c2', c3', c4', c5', c6'⟩ := kC) | skip); clear hbt))
    all_goals
      go_wp2_with fail
      go_meet
      first
      | exact ⟨_, rfl, SpAt.fresh _ _ _ _ _, balloc hwt.out _⟩
      | exact ⟨_, rfl, (SpAt.zero_of (by assumption) (by assumption) (by assumption) (by assumption) (by assumption) (by assumption) (by assumption)).set3 P, set3_below hwt.out (by omega)⟩
  case rest =>
  obtain ⟨p9, rfl, hp9, hw9⟩ := hcut
  obtain ⟨w6, hu⟩ : ∃ x, x = wc := ⟨_, rfl⟩
  subst hu
  have hB6 := Lib.hid (below_seq hB5.out hw9)
  have hX6 := Lib.hid (hX5.out.below hw9)
  have hq6 := Lib.hid (below_seq hq5.out hw9)
  clear e0 e1 e2 e3 e4 e5 el x0 x1 x2 xl hw9 hB5 hX5 hq5 hF5 cS
  obtain ⟨e0, e1, e2, e3, e4, e5, el⟩ := hd.out _ hq6.out
  obtain ⟨x0, x1, x2, -, -, -, xl⟩ := hX6.out
  go_upto_region 14 with fail
  go_cut [10] from 58 to 64 (fun s10 wx => ∃ q : Nat, s10 = .pointer (some ⟨q, 0, none⟩) ∧ SpAt wx q D ∧ Below w6.heap.size w6 wx)
  case first =>
    clear hcp
    go_region_with (first | (go_at_call 21; refine (refTimes_e X T (4 * x) c _ (by omega) (by omega) hX' hT).mono ?_; rintro e wt ⟨rfl, hbt⟩; have hwt := Lib.hid (show Below w6.heap.size w6 wt from below_seq (by repeat (first | exact Below.refl _ _ | exact hwt.out | refine balloc ?_ _ | refine Below.drew ?_)) hbt); have hza := hwt.out.size; obtain ⟨e0, e1, e2, e3, e4, e5, el⟩ := hd.out _ (below_seq hq6.out hwt.out); obtain ⟨x0, x1, x2, -, -, -, xl⟩ := hX6.out.below hwt.out; (first | (refine hav_ (P := SpAt wt _ ⟨0, 0, false⟩) (SpAt.below hz0.out hbt) (fun kC => ?_); have hz0 := Lib.hid kC; obtain ⟨c0', c1', c2', c3', c4', c5', c6'⟩ := kC) | (refine hav_ (P := SpAt wt _ ⟨0, 0, false⟩) (SpAt.below (SpAt.fresh _ _ _ _ _) hbt) (fun kC => ?_); have hz0 := Lib.hid kC; obtain ⟨c0', c1', c2', c3', c4', c5', c6'⟩ := kC) | (refine hav_ (P := SpAt wt _ ⟨0, 0, false⟩) (SpAt.below (SpAt.drew (SpAt.fresh _ _ _ _ _)) hbt) (fun kC => ?_); have hz0 := Lib.hid kC; obtain ⟨c0', c1', c2', c3', c4', c5', c6'⟩ := kC) | skip); clear hbt) | (go_at_call 48; refine (refAdd_e RS T D _ oR oT hD).mono ?_; rintro e wt ⟨rfl, hbt⟩; have hwt := Lib.hid (show Below w6.heap.size w6 wt from below_seq (by repeat (first | exact Below.refl _ _ | exact hwt.out | refine balloc ?_ _ | refine Below.drew ?_)) hbt); have hza := hwt.out.size; obtain ⟨e0, e1, e2, e3, e4, e5, el⟩ := hd.out _ (below_seq hq6.out hwt.out); obtain ⟨x0, x1, x2, -, -, -, xl⟩ := hX6.out.below hwt.out; (first | (refine hav_ (P := SpAt wt _ ⟨0, 0, false⟩) (SpAt.below hz0.out hbt) (fun kC => ?_); have hz0 := Lib.hid kC; obtain ⟨c0', c1', c2', c3', c4', c5', c6'⟩ := kC) | (refine hav_ (P := SpAt wt _ ⟨0, 0, false⟩) (SpAt.below (SpAt.fresh _ _ _ _ _) hbt) (fun kC => ?_); have hz0 := Lib.hid kC; obtain ⟨c0', c1', c2', c3', c4', c5', c6'⟩ := kC) | (refine hav_ (P := SpAt wt _ ⟨0, 0, false⟩) (SpAt.below (SpAt.drew (SpAt.fresh _ _ _ _ _)) hbt) (fun kC => ?_); have hz0 := Lib.hid kC; obtain ⟨c0', c1', c2', c3', c4', c5', c6'⟩ := kC) | skip); clear hbt))
    all_goals
      go_wp2_with fail
      go_meet
      first
      | exact ⟨_, rfl, SpAt.fresh _ _ _ _ _, balloc hwt.out _⟩
      | exact ⟨_, rfl, (SpAt.zero_of (by assumption) (by assumption) (by assumption) (by assumption) (by assumption) (by assumption) (by assumption)).set3 D, set3_below hwt.out (by omega)⟩
  case rest =>
  obtain ⟨p10, rfl, hp10, hw10⟩ := hcut
  obtain ⟨w7, hu⟩ : ∃ x, x = wc := ⟨_, rfl⟩
  subst hu
  have hB7 := Lib.hid (below_seq hB6.out hw10)
  have hq7 := Lib.hid (below_seq hq6.out hw10)
  have hP7 := hp9.below hw10
  clear e0 e1 e2 e3 e4 e5 el x0 x1 x2 xl hw10 hB6 hX6 hq6
  obtain ⟨u0, u1, u2, -, -, -, ul⟩ := hP7
  obtain ⟨v0, v1, v2, -, -, -, vl⟩ := hp10
  obtain ⟨e0, e1, e2, e3, e4, e5, el⟩ := hd.out _ hq7.out
  have bk7 := Lib.hid (hBk.out.below hB7.out)
  have hdn : ¬ inB p (.slice ac N.length cc) (.slice ag N.length cg) w.heap.size := fun h => Nat.lt_irrefl _ (hBk.out.blk _ h).2
  go_wp2
  clear u0 u1 u2 ul v0 v1 v2 vl e2 e3 e4 e5
  have hD7 := Lib.hid (fun (w' : World) (hb : But (inB p (.slice ac N.length cc) (.slice ag N.length cg)) w7 w') => (⟨(hb.cell el hdn 0).trans e0, (hb.cell el hdn 1).trans e1, Nat.lt_of_lt_of_le el hb.size⟩ : w'.cell? ⟨w.heap.size, 0, none⟩ = some (.slice a0 n c0) ∧ w'.cell? ⟨w.heap.size, 1, none⟩ = some (.slice a1 m c1) ∧ w.heap.size < w'.heap.size))
  clear e0 e1 el
  go_loopw [11] (fun i wr => ∃ k : Nat, k ≤ n ∧ i = .int .i64 k ∧ BkV wr B p (.slice ac N.length cc) (.slice ag N.length cg) N (goneL G (gl.take k)) ∧ But (inB p (.slice ac N.length cc) (.slice ag N.length cg)) w7 wr) (fun i _ => n - (intOf i).toNat)
  case atStart => exact ⟨0, Nat.zero_le _, rfl, bk7.out, But.refl _ _⟩
  case round =>
    obtain ⟨k, hk, rfl, bk, hbt⟩ := hrel
    replace bk := Lib.hid bk
    replace hbt := Lib.hid hbt
    obtain ⟨e0, e1, el⟩ := hD7.out _ hbt.out
    by_cases hlt : k < n
    · have hkl : k < gl.length := by rw [hn.out]; exact hlt
      obtain ⟨b0, o0, rfl, hI, hnb⟩ := h0.out (by omega)
      have hI6 := hI.below hB7.out
      have l1 := (hbt.out.cell hI6.lt hnb (o0 + k)).trans (hI6.c k hkl)
      have l2 := Nat.lt_of_lt_of_le hI6.lt hbt.out.size
      obtain ⟨g0, g1⟩ := hin.out _ (List.getElem_mem hkl)
      have hsn := Lib.hid (goneL_snoc G (gl.take k) gl[k])
      rw [← take_snocI gl k hkl] at hsn
      have ek : (k : Int) < (n : Int) := by omega
      clear hI hI6
      generalize gl[k] = g at *
      obtain ⟨j, rfl⟩ : ∃ j : Nat, g = (j : Int) := ⟨g.toNat, by omega⟩
      have hj : j < N.length := by omega
      have hrg := bk.out.rg
      have hag : ∃ gb, ag = some ⟨gb, 0, none⟩ := by
        rcases hrg.2 with ⟨h2, h3⟩ | ⟨gb, cap, cur, h2, -⟩
        · omega
        · simp only [Value.slice.injEq] at h2; exact ⟨gb, h2.1⟩
      obtain ⟨gb, rfl⟩ := hag
      have m1 := hrg.cellAt j (by omega)
      have m2 := hrg.frozenAt j
      have m3 : gb < wr.heap.size := (hrg.lt gb rfl).2
      have hjl : j < ((goneL G (gl.take k)).map Value.bool).length := by rw [List.length_map, goneL_len]; have := hBk.out.ln; omega
      rw [List.getElem?_eq_getElem hjl] at m1
      have p1 := bk.out.c1
      have p2 := bk.out.lt
      clear hrg
      generalize ((goneL G (gl.take k)).map Value.bool)[j] = ov at *
      have hbn := Lib.hid ((bk.out.below (Below.refl wr.heap.size wr).drew).setg (g := gb) (c := cg) j)
      have hbd := Lib.hid (hbt.out.trans (But.of_below (Below.refl wr.heap.size wr).drew))
      go_wp2_with fail
      go_region
      all_goals
        go_wp2
        go_roundw
        case rel => exact ⟨k + 1, by omega, by go_num, by rw [hsn.out, Int.toNat_natCast]; exact hbn.out, hbd.out.trans (But.setCell (p := ⟨gb, j, none⟩) (.inr (.inr rfl)) _)⟩
        case measure => simp [intOf]; omega
    · obtain rfl : k = n := by omega
      rw [List.take_of_length_le (by have := hn.out; omega)] at bk
      obtain ⟨w8, rfl⟩ : ∃ x : World, x = wr := ⟨_, rfl⟩
      have hw8 : B ≤ w8.heap.size := Nat.le_trans hB0 (Nat.le_trans hB7.out.size hbt.out.size)
      have hsp : Hid (∀ w', But (inB p (.slice ac N.length cc) (.slice ag N.length cg)) w7 w' → 0 < (M.map qS).length → ∃ b o, a1 = some ⟨b, o, none⟩ ∧ SpotsAt w' b o (M.map qS)) := Lib.hid fun w' hb h => by
        obtain ⟨b, o, e, hs, hnb⟩ := h1.out h
        exact ⟨b, o, e, (hs.below hB7.out).but hb hnb⟩
      have hGl : (goneL G gl).length = N.length := by rw [goneL_len]; exact hBk.out.ln
      have hng := hBk.out.ng
      clear h0 h1 hin hd hcp
      go_wp2_with fail
      go_loopw [12] (fun i wr => ∃ (k : Nat) (vc' vg' : Value), k ≤ m ∧ i = .int .i64 k ∧ BkV wr B p vc' vg' (N ++ M.take k) (goneL G gl ++ List.replicate k false) ∧ (∀ j, inB p vc' vg' j → inB p (.slice ac N.length cc) (.slice ag N.length cg) j ∨ w8.heap.size ≤ j) ∧ But (inB p (.slice ac N.length cc) (.slice ag N.length cg)) w8 wr) (fun i _ => m - (intOf i).toNat)
      case atStart => exact ⟨0, _, _, Nat.zero_le _, rfl, by rw [List.take_zero, List.append_nil, List.replicate_zero, List.append_nil]; exact bk.out, fun j h => .inl h, But.refl _ _⟩
      case round =>
        clear bk e0 e1 el
        obtain ⟨k, vc', vg', hk, rfl, bk, hinb, hbr⟩ := hrel
        replace bk := Lib.hid bk
        replace hinb := Lib.hid hinb
        have hbz := hbr.size
        replace hbr := Lib.hid hbr
        have hb7r := Lib.hid (hbt.out.trans hbr.out)
        obtain ⟨e0, e1, el⟩ := hD7.out _ hb7r.out
        by_cases hlt : k < m
        · have hkM : k < M.length := by rw [hm'.out]; exact hlt
          obtain ⟨b1, o1, rfl, hs⟩ := hsp.out _ hb7r.out (by rw [List.length_map]; omega)
          have hjm : k < (M.map qS).length := by rw [List.length_map]; exact hkM
          have l1 := hs.cx k hjm
          have l2 := hs.cy k hjm
          have l3 := hs.cf k hjm
          have l4 := hs.lt
          rw [List.getElem_map] at l1 l2 l3
          have hsn := Lib.hid (take_snocI M k hkM)
          have ek : (k : Int) < (m : Int) := by omega
          have hlk : (N ++ M.take k).length = N.length + k := by rw [List.length_append, List.length_take]; omega
          have hgk : (goneL G gl ++ List.replicate k false).length = N.length + k := by rw [List.length_append, hGl, List.length_replicate]
          have hrs := Lib.hid (show goneL G gl ++ List.replicate k false ++ [false] = goneL G gl ++ List.replicate (k + 1) false by rw [List.append_assoc, ← List.replicate_succ'])
          clear hs hsp
          generalize hy : M[k] = y at *
          obtain ⟨C, hC⟩ : ∃ C, qS y = C := ⟨_, rfl⟩
          rw [hC] at l1 l2 l3
          replace hC := Lib.hid hC
          generalize hNk : N ++ M.take k = Nk at *
          generalize hGk : goneL G gl ++ List.replicate k false = Gk at *
          replace hNk := Lib.hid hNk
          replace hGk := Lib.hid hGk
          replace hy := Lib.hid hy
          obtain ⟨acr, ccr, rfl⟩ := own_slB bk.out.rc
          obtain ⟨agr, cgr, rfl⟩ := own_slB bk.out.rg
          rw [hlk] at bk hinb
          have p0 := bk.out.c0
          have p1 := bk.out.c1
          have pl := bk.out.lt
          have hBr : B ≤ wr.heap.size := by omega
          have hngr : (Value.slice agr (N.length + k) cgr).ownBlock ≠ some p := bk.out.ng
          go_upto_region 24 with fail
          go_cut [12] from 92 to 105 (fun s12 wx => s12 = .int .i64 k ∧ ∃ (av : Option Addr) (cv : Nat), wx.cell? ⟨p, 0, none⟩ = some (.slice av (N.length + k + 1) cv) ∧ wx.cell? ⟨p, 1, none⟩ = some (.slice agr (N.length + k) cgr) ∧ wx.frozen? ⟨p, 0, none⟩ = false ∧ wx.frozen? ⟨p, 1, none⟩ = false ∧ wx.ownsRow B 4 1 (.slice agr (N.length + k) cgr) (N.length + k) (Gk.map Value.bool) ∧ wx.ownsRow B 23 3 (.slice av (N.length + k + 1) cv) (N.length + k + 1) (spCells (Nk.map qS) ++ spCells [C]) ∧ Ap (.slice av (N.length + k + 1) cv) (.slice agr (N.length + k) cgr) ∧ (Value.slice av (N.length + k + 1) cv).ownBlock ≠ some p ∧ But (fun j => inB p (.slice ac N.length cc) (.slice ag N.length cg) j ∨ w8.heap.size ≤ j) w8 wx ∧ (∀ j, (Value.slice av (N.length + k + 1) cv).ownBlock = some j → inB p (.slice ac N.length cc) (.slice ag N.length cg) j ∨ w8.heap.size ≤ j) ∧ p < wx.heap.size)
          case first =>
            go_region_law (refine steps_app (by rfl) _ _ _ (by rfl) (by kernel_rfl) B _ (Nk.map qS) (N.length + k) (by rfl) (own_below (by have := bk.out.rc; rw [hlk] at this; exact this) (by repeat (first | exact Below.refl _ _ | refine balloc ?_ _ | refine Below.drew ?_))) (by rw [List.length_map]; exact hlk) (by omega) (by simp only [World.size_alloc, World.size_drew]; omega) _ C (by rfl) (by go_simp) (by go_simp) (by go_simp) ?_; intro v' w4 hrow hgr hloc; obtain ⟨z0, z1, z2, z3, z4, z5, z6, z7⟩ := BkV.grow (M := [y]) (bk.out.below (by repeat (first | exact Below.refl _ _ | refine balloc ?_ _ | refine Below.drew ?_))) (by simp only [World.size_alloc, World.size_drew]; omega) (by show w4.ownsRow B _ 3 v' (Nk.length + 1) (spCells (Nk.map qS) ++ spCells [qS y]); rw [hlk, hC.out]; exact hrow) hgr hloc; obtain ⟨av, cv, rfl⟩ := own_slB hrow; have hb4 := Lib.hid (((hbr.out.mono (T := fun j => inB p (.slice ac N.length cc) (.slice ag N.length cg) j ∨ w8.heap.size ≤ j) (fun j _ h => .inl h)).trans (But.of_below (by repeat (first | exact Below.refl _ _ | refine balloc ?_ _ | refine Below.drew ?_)))).trans (But.of_grown hgr (fun j hj => hinb.out j (.inr (.inl hj))))); have hl4 := Lib.hid (show ∀ j, (Value.slice av (N.length + k + 1) cv).ownBlock = some j → inB p (.slice ac N.length cc) (.slice ag N.length cg) j ∨ w8.heap.size ≤ j from fun j hj => by (rcases hloc with e | e; exact hinb.out j (.inr (.inl (e ▸ hj))); (rw [e] at hj; have := Option.some.inj hj; simp only [World.size_alloc, World.size_drew] at this; exact .inr (by omega)))); replace hrow := Lib.hid hrow; replace z5 := Lib.hid z5; replace z6 := Lib.hid z6; replace z7 := Lib.hid z7; clear hgr hloc)
            all_goals
              obtain ⟨y0, y1, y2, y3, y5, y6⟩ := half z0 z1 z2 z3 z4 z5.out hrow.out z7.out hngr
              have hbw := hb4.out.trans (But.setCell (S := (fun j => inB p (.slice ac N.length cc) (.slice ag N.length cg) j ∨ w8.heap.size ≤ j)) (p := ⟨p, 0, none⟩) (.inl (.inl rfl)) (.slice av (N.length + k + 1) cv))
              rw [hlk] at y5
              go_wp2_with fail
              go_meet
              exact ⟨rfl, av, cv, y0, y1, y2, y3, y5, y6, z6.out, z7.out, hbw, hl4.out, by simpa using z4⟩
          case rest =>
            obtain ⟨rfl, av, cv, y0, y1, y2, y3, y5, y6, z6, z7, hbw, hl4, pl9⟩ := hcut
            obtain ⟨w9, hw9⟩ : ∃ x, x = wc := ⟨_, rfl⟩
            subst hw9
            have hz9 := hbw.size
            replace hbw := Lib.hid hbw
            replace hl4 := Lib.hid hl4
            replace z6 := Lib.hid z6
            replace z7 := Lib.hid z7
            clear p0 p1 l1 l2 l3 l4 e0 e1 el
            replace y5 := Lib.hid y5
            replace y6 := Lib.hid y6
            have hBz9 : B ≤ w9.heap.size := by omega
            have y5' := y5.out
            have hA2 := Lib.hid (AppRun.bit (w := w9.alloc (.cells #[.bool false] 4)) (G := Gk) (n := N.length + k) (c := false) (g := w9.heap.size) (y5'.alloc _) (by go_simp) (by simp; omega) (by omega))
            clear y5'
            go_wp2_with (first | (at_builtin; refine wpl_app (by rfl) _ _ (by rfl) hA2.out (by rfl) (by rfl) ?_; intro v2 w10 hrow2 hgr2 hloc2; obtain ⟨i1, i2⟩ := row_pair (own_below y6.out (by repeat (first | exact Below.refl _ _ | refine balloc ?_ _ | refine Below.drew ?_))) z6.out.symm hgr2 hloc2; have hb10 := hgr2.block p (by simp only [World.size_alloc, World.size_drew]; omega) (fun e => hngr e.symm); have k0 : w10.cell? ⟨p, 0, none⟩ = some (.slice av (N.length + k + 1) cv) := (World.cell?_of_block (a := ⟨p, 0, none⟩) hb10).trans (by go_simp); have k1 : w10.cell? ⟨p, 1, none⟩ = some (.slice agr (N.length + k) cgr) := (World.cell?_of_block (a := ⟨p, 1, none⟩) hb10).trans (by go_simp); have k2 : w10.frozen? ⟨p, 0, none⟩ = false := (World.frozen?_of_block (a := ⟨p, 0, none⟩) hb10).trans (by go_simp); have k3 : w10.frozen? ⟨p, 1, none⟩ = false := (World.frozen?_of_block (a := ⟨p, 1, none⟩) hb10).trans (by go_simp); have k4 : p < w10.heap.size := Nat.lt_of_lt_of_le (by simp only [World.size_alloc, World.size_drew]; omega) hgr2.size; obtain ⟨av2, cv2, rfl⟩ := own_slB hrow2; have hb11 := Lib.hid ((hbw.out.trans (But.of_below (by repeat (first | exact Below.refl _ _ | refine balloc ?_ _ | refine Below.drew ?_)))).trans (But.of_grown hgr2 (fun j hj => hinb.out j (.inr (.inr hj))))); have hl5 := Lib.hid (show ∀ j, (Value.slice av2 (N.length + k + 1) cv2).ownBlock = some j → inB p (.slice ac N.length cc) (.slice ag N.length cg) j ∨ w8.heap.size ≤ j from fun j hj => by (rcases hloc2 with e | e; exact hinb.out j (.inr (.inr (e ▸ hj))); (rw [e] at hj; have := Option.some.inj hj; simp only [World.size_alloc, World.size_drew] at this; exact .inr (by omega)))); have hng2 : (Value.slice av2 (N.length + k + 1) cv2).ownBlock ≠ some p := fun e => hloc2.elim (fun e2 => hngr (e2.symm.trans e)) (fun e2 => by have := Option.some.inj (e2.symm.trans e); simp only [World.size_alloc, World.size_drew] at this; omega); replace hrow2 := Lib.hid hrow2; replace i1 := Lib.hid i1; replace i2 := Lib.hid i2; clear hgr2 hloc2) | fail)
            all_goals
              have hNl1 : (Nk ++ [y]).length = N.length + k + 1 := by rw [List.length_append, hlk]; rfl
              have hfin := full k0 k1 k2 k3 k4 bk.out.bp (N := Nk ++ [y]) (G := Gk ++ [false]) (by rw [hNl1]; exact hrow2.out) (by rw [hNl1, List.map_append, ← spCells_app]; show _; rw [List.map_cons, List.map_nil, hC.out]; exact i1.out) (by rw [List.length_append, hgk, hNl1]; rfl) i2.out.symm z7.out hng2
              have hbu := (hb11.out.trans (But.setCell (S := fun j => inB p (.slice ac N.length cc) (.slice ag N.length cg) j ∨ w8.heap.size ≤ j) (p := ⟨p, 1, none⟩) (.inl (.inl rfl)) (.slice av2 (N.length + k + 1) cv2))).mono (T := inB p (.slice ac N.length cc) (.slice ag N.length cg)) (fun j hj h => h.elim id (fun h2 => absurd h2 (by omega)))
              rw [hrs.out, ← hNk.out, List.append_assoc, ← hsn.out] at hfin
              go_wp2
              go_roundw
              case rel => exact ⟨k + 1, _, _, by omega, by go_num, hfin, (fun j hj => by (rcases hj with hj | hj | hj; exact .inl (.inl hj); exact hl4.out j hj; exact hl5.out j hj)), hbu⟩
              case measure => simp [intOf]; omega
        · obtain rfl : k = m := by omega
          go_wp2
          go_ret
          refine ⟨rfl, vc', vg', ?_, fun j hj => ?_, (But.of_below hB7.out).trans hb7r.out⟩
          · have := bk.out; rw [List.take_of_length_le (by have := hm'.out; omega)] at this; exact this
          · rcases hinb.out j hj with h | h
            · exact .inl h
            · exact .inr (Nat.le_trans (Nat.le_trans hB7.out.size hbt.out.size) h)
end Go.Proofs.YtebomakihdjllaaDoor
namespace Go.Proofs.YtebomakihdjllaaDoor
open Go.RowKit Go.WideShapes Go.ChangeShapes Go.Deep Go.Joins
set_option linter.unusedVariables false
/-- A deal as it lies: its two slices (address, content, room), its seal. -/
structure DealR where
  ag : Option Addr
  G : List Int
  cg : Nat
  an : Option Addr
  C : List Sp
  cn : Nat
  r : Sp
  s : Int
instance : Inhabited DealR := ⟨⟨none, [], 0, none, [], 0, ⟨0, 0, false⟩, 0⟩⟩
structure DealOk (w : World) (d : DealR) : Prop where
  g0 : d.G.length ≤ d.cg
  g1 : d.cg ≤ 9223372036854775807
  gi : 0 < d.G.length → ∃ b o, d.ag = some ⟨b, o, none⟩ ∧ IntsAt w b o d.G
  n1 : d.C.length ≤ 9223372036854775807
  ni : 0 < d.C.length → ∃ b o, d.an = some ⟨b, o, none⟩ ∧ SpotsAt w b o d.C
theorem DealOk.below {w w' : World} {d : DealR} (h : DealOk w d) (hb : Below w.heap.size w w') : DealOk w' d :=
  ⟨h.g0, h.g1, fun h0 => by obtain ⟨b, o, e, hs⟩ := h.gi h0; exact ⟨b, o, e, hs.below hb⟩, h.n1, fun h0 => by obtain ⟨b, o, e, hs⟩ := h.ni h0; exact ⟨b, o, e, hs.below hb⟩⟩
structure DealsAt (w : World) (b off : Nat) (l : List DealR) : Prop where
  lt : b < w.heap.size
  c0 : ∀ i (h : i < l.length), w.cell? ⟨b, off + i * 6, none⟩ = some (.slice l[i].ag l[i].G.length l[i].cg)
  c1 : ∀ i (h : i < l.length), w.cell? ⟨b, off + i * 6 + 1, none⟩ = some (.slice l[i].an l[i].C.length l[i].cn)
  c2 : ∀ i (h : i < l.length), w.cell? ⟨b, off + i * 6 + 2, none⟩ = some (.int .i64 l[i].r.x)
  c3 : ∀ i (h : i < l.length), w.cell? ⟨b, off + i * 6 + 3, none⟩ = some (.int .i64 l[i].r.y)
  c4 : ∀ i (h : i < l.length), w.cell? ⟨b, off + i * 6 + 4, none⟩ = some (.bool l[i].r.far)
  c5 : ∀ i (h : i < l.length), w.cell? ⟨b, off + i * 6 + 5, none⟩ = some (.int .i64 l[i].s)
  ok : ∀ i (h : i < l.length), DealOk w l[i]
theorem DealsAt.below {w w' : World} {b off : Nat} {l : List DealR} (h : DealsAt w b off l) (hb : Below w.heap.size w w') : DealsAt w' b off l :=
  ⟨Nat.lt_of_lt_of_le h.lt hb.size, fun i hi => ((bcell hb).1 _ _ h.lt).trans (h.c0 i hi), fun i hi => ((bcell hb).1 _ _ h.lt).trans (h.c1 i hi), fun i hi => ((bcell hb).1 _ _ h.lt).trans (h.c2 i hi), fun i hi => ((bcell hb).1 _ _ h.lt).trans (h.c3 i hi), fun i hi => ((bcell hb).1 _ _ h.lt).trans (h.c4 i hi), fun i hi => ((bcell hb).1 _ _ h.lt).trans (h.c5 i hi), fun i hi => (h.ok i hi).below hb⟩
/-- A value that is a slice of deals. -/
def DealsV (w : World) (v : Value) : Prop := ∃ (l : List DealR) (a : Option Addr) (cap : Nat), v = .slice a l.length cap ∧ (0 < l.length → ∃ b off, a = some ⟨b, off, none⟩ ∧ DealsAt w b off l) ∧ l.length ≤ 9223372036854775807
section
variable {H : Type} {enc : TypeId × Value → H} {P : Program} {w : World} {base : Nat} {spare : Nat → Bool} {held : Bool}
theorem trod_intl {t e : TypeId} {c : Value} {fuel : Nat} {y : DataW H × List MemPlace} (ht : P.underlying t = some (.slice e)) (he : P.underlying e = some (.int .i64)) (hc : P.cellsOf e = 1) (h : DataW.trod enc P w base spare held fuel t [c] = some y) :
    ∃ (a : Option Addr) (l : List Int) (cap : Nat), c = .slice a l.length cap ∧ l.length ≤ cap ∧ cap ≤ 9223372036854775807 ∧ (0 < l.length → ∃ b o, a = some ⟨b, o, none⟩ ∧ IntsAt w b o l) := by
  rcases ChangeShapes.open_ints ht he hc h with ⟨hn, -⟩ | ⟨a', len, cap, zs, hcs, hb, hl, hm, hzl, hx, hcell, hw⟩
  · simp at hn; subst hn
    exact ⟨none, [], 0, rfl, Nat.le_refl _, by decide, fun h => absurd h (Nat.lt_irrefl 0)⟩
  · simp at hcs; subst hcs
    have hlm : len ≤ zs.length := by rw [hzl]; split <;> omega
    have ht : (zs.take len).length = len := by rw [List.length_take]; omega
    refine ⟨some a', zs.take len, cap, by rw [ht], by omega, by unfold maxLen at hm; omega, fun h0 => ?_⟩
    obtain ⟨b, off, sp⟩ := a'
    obtain rfl : sp = none := spotless (b := b) (off := off) (by simpa [Addr.add] using hcell 0 (by omega))
    simp only [add_none] at hcell
    refine ⟨b, off, rfl, ⟨World.block_lt_of_cell? w _ (hcell 0 (by omega)), fun i hi => ?_⟩⟩
    have := hcell i (by omega)
    rw [this, List.getElem_take, List.getD_eq_getElem?_getD, List.getElem?_eq_getElem (by omega)]; rfl
theorem trod_spotl {t e : TypeId} {f0 f1 f2 : Field} {c : Value} {fuel : Nat} {y : DataW H × List MemPlace} (ht : P.underlying t = some (.slice e)) (he : P.underlying e = some (.struct #[f0, f1, f2]))
    (hone : oneCellFields P #[f0, f1, f2] = true) (hC : P.cellsOf e = 3) (h0 : P.underlying f0.type = some (.int .i64)) (h1 : P.underlying f1.type = some (.int .i64)) (h2 : P.underlying f2.type = some .bool) (h : DataW.trod enc P w base spare held fuel t [c] = some y) :
    ∃ (a : Option Addr) (l : List Sp) (cap : Nat), c = .slice a l.length cap ∧ l.length ≤ 9223372036854775807 ∧ (0 < l.length → ∃ b o, a = some ⟨b, o, none⟩ ∧ SpotsAt w b o l) := by
  rcases open_slice_fields ht he hone (by rw [hC]; rfl) h with ⟨hn, -⟩ | ⟨a', len, cap, m, D, Pl, hcs, hb, hl, hm, hmm, hx, hi⟩
  · simp at hn; subst hn
    exact ⟨none, [], 0, rfl, by decide, fun h => absurd h (Nat.lt_irrefl 0)⟩
  · simp at hcs; subst hcs
    have hlm : len ≤ m := by rw [hmm]; split <;> omega
    have each : ∀ i, i < len → ∃ s : Sp, w.cell? (a'.add (i * 3 + 0)) = some (.int .i64 s.x) ∧ w.cell? (a'.add (i * 3 + 1)) = some (.int .i64 s.y) ∧ w.cell? (a'.add (i * 3 + 2)) = some (.bool s.far) := by
      intro i hil
      obtain ⟨ys, n, -, -, -, hj⟩ := hi i (by omega)
      obtain ⟨v0, y0, c0, -, t0⟩ := hj 0 f0 rfl
      obtain ⟨v1, y1, c1, -, t1⟩ := hj 1 f1 rfl
      obtain ⟨v2, y2, c2, -, t2⟩ := hj 2 f2 rfl
      obtain ⟨x, e0, -, -⟩ := DataW.trod_int h0 t0
      obtain ⟨y, e1, -, -⟩ := DataW.trod_int h1 t1
      obtain ⟨f, e2, -⟩ := DataW.trod_bool h2 t2
      simp at e0 e1 e2
      subst e0 e1 e2
      exact ⟨⟨x, y, f⟩, c0, c1, c2⟩
    obtain ⟨S, hS⟩ := choose_lt each
    unfold maxLen at hm
    refine ⟨some a', (List.range len).map S, cap, by simp, by simp; omega, fun hp => ?_⟩
    simp only [List.length_map, List.length_range] at hp
    obtain ⟨b, off, sp⟩ := a'
    obtain rfl : sp = none := spotless (b := b) (off := off) (by simpa [Addr.add] using (hS 0 hp).1)
    simp only [add_none] at hS
    refine ⟨b, off, rfl, World.block_lt_of_cell? w _ (hS 0 hp).1, ?_, ?_, ?_⟩
    all_goals
      intro i hi
      simp only [List.length_map, List.length_range] at hi
      simp only [List.getElem_map, List.getElem_range]
    · exact (hS i hi).1
    · exact (hS i hi).2.1
    · exact (hS i hi).2.2
theorem open_deals {r : Reach} {b0 : Nat} {t e : TypeId} {f0 f1 f2 g0 g1 s0 s1 s2 : Field} {ei es : TypeId} {v : Value} {d : DataW H} {ps : List MemPlace} (ht : P.underlying t = some (.slice e)) (hs : P.underlying e = some (.struct #[f0, f1, f2])) (hC : P.cellsOf e = 6) (ho0 : f0.offset = 0) (ho1 : f1.offset = 1) (ho2 : f2.offset = 2) (hC0 : P.cellsOf f0.type = 1) (hC1 : P.cellsOf f1.type = 1) (hC2 : P.cellsOf f2.type = 4)
    (j0 : P.underlying f0.type = some (.slice ei)) (j1 : P.underlying ei = some (.int .i64)) (j2 : P.cellsOf ei = 1) (l0 : P.underlying f1.type = some (.slice es)) (l1 : P.underlying es = some (.struct #[s0, s1, s2])) (l2 : P.cellsOf es = 3)
    (m0 : P.underlying f2.type = some (.struct #[g0, g1])) (mo0 : g0.offset = 0) (mo1 : g1.offset = 3) (mC0 : P.cellsOf g0.type = 3) (mC1 : P.cellsOf g1.type = 1)
    (hs0 : P.underlying g0.type = some (.struct #[s0, s1, s2])) (hone : oneCellFields P #[s0, s1, s2] = true) (i0 : P.underlying s0.type = some (.int .i64)) (i1 : P.underlying s1.type = some (.int .i64)) (i2 : P.underlying s2.type = some .bool) (i3 : P.underlying g1.type = some (.int .i64))
    (hv : Value.okWide P w r b0 t v) (h : DataW.Trod enc P w base spare held t v d ps) :
    DealsV w v := by
  obtain ⟨a, len, cap, rfl⟩ := okWide_slice ht hv
  obtain ⟨fuel, hf⟩ := h
  rcases open_slice ht hf with ⟨hn, -⟩ | ⟨a', len', cap', m, n, D, Pl, hcs, hb, hl, hm, hmm, hx, hi⟩
  · simp [Value.cells] at hn; obtain ⟨rfl, rfl, rfl⟩ := hn
    exact ⟨[], none, 0, rfl, fun h => absurd h (Nat.lt_irrefl 0), by decide⟩
  · simp [Value.cells] at hcs; obtain ⟨rfl, rfl, rfl⟩ := hcs
    by_cases hz : len = 0
    · subst hz
      exact ⟨[], _, _, rfl, fun h => absurd h (Nat.lt_irrefl 0), by decide⟩
    have hlm : len ≤ m := by rw [hmm]; split <;> omega
    have each : ∀ i, i < len → ∃ x : DealR, w.cell? (a'.add (i * 6 + 0)) = some (.slice x.ag x.G.length x.cg) ∧ w.cell? (a'.add (i * 6 + 1)) = some (.slice x.an x.C.length x.cn) ∧ w.cell? (a'.add (i * 6 + 2)) = some (.int .i64 x.r.x) ∧ w.cell? (a'.add (i * 6 + 3)) = some (.int .i64 x.r.y) ∧ w.cell? (a'.add (i * 6 + 4)) = some (.bool x.r.far) ∧ w.cell? (a'.add (i * 6 + 5)) = some (.int .i64 x.s) ∧ DealOk w x := by
      intro i hil
      obtain ⟨cs', hc, ht'⟩ := hi i (by omega)
      rw [hC] at hc
      obtain ⟨_, hcl, hat⟩ := World.cells?_some hc
      obtain ⟨c0, c1, c2, c3, c4, c5, rfl⟩ : ∃ c0 c1 c2 c3 c4 c5, cs' = [c0, c1, c2, c3, c4, c5] := by
        match cs', hcl with
        | [c0, c1, c2, c3, c4, c5], _ => exact ⟨c0, c1, c2, c3, c4, c5, rfl⟩
      obtain ⟨y0, y1, y2, n', hx', _, k0, k1, k2⟩ := trod_struct3 hs ht'
      rw [ho0, hC0] at k0
      rw [ho1, hC1] at k1
      rw [ho2, hC2] at k2
      have k0' : DataW.trod enc P w base spare held n' f0.type [c0] = some y0 := by simpa using k0
      have k1' : DataW.trod enc P w base spare held n' f1.type [c1] = some y1 := by simpa using k1
      have k2' : DataW.trod enc P w base spare held n' f2.type [c2, c3, c4, c5] = some y2 := by simpa using k2
      obtain ⟨u0, u1, n2, hx2, _, q0, q1⟩ := trod_struct2 m0 k2'
      rw [mo0, mC0] at q0
      rw [mo1, mC1] at q1
      obtain ⟨z0, z1, z2, m', hx'', _, p0, p1, p2⟩ := trod_struct3 hs0 (cs := [c2, c3, c4]) (by simpa using q0)
      obtain ⟨o0, r0⟩ := hone_of hone 0 s0 rfl
      obtain ⟨o1, r1⟩ := hone_of hone 1 s1 rfl
      obtain ⟨o2, r2⟩ := hone_of hone 2 s2 rfl
      have p0' : DataW.trod enc P w base spare held m' s0.type [c2] = some z0 := by simpa [o0, r0] using p0
      have p1' : DataW.trod enc P w base spare held m' s1.type [c3] = some z1 := by simpa [o1, r1] using p1
      have p2' : DataW.trod enc P w base spare held m' s2.type [c4] = some z2 := by simpa [o2, r2] using p2
      have p3' : DataW.trod enc P w base spare held n2 g1.type [c5] = some u1 := by simpa using q1
      obtain ⟨a, e0, -, -⟩ := DataW.trod_int i0 p0'
      obtain ⟨b, e1, -, -⟩ := DataW.trod_int i1 p1'
      obtain ⟨f, e2, -⟩ := DataW.trod_bool i2 p2'
      obtain ⟨c, e3, -, -⟩ := DataW.trod_int i3 p3'
      obtain ⟨ag, G, cg, e4, t1, t2, t3⟩ := trod_intl j0 j1 j2 k0'
      obtain ⟨an, C, cn, e5, t4, t5⟩ := trod_spotl l0 l1 hone l2 i0 i1 i2 k1'
      simp at e0 e1 e2 e3
      subst e0 e1 e2 e3 e4 e5
      have h0 := hat (i := 0) (by decide)
      have h1 := hat (i := 1) (by decide)
      have h2 := hat (i := 2) (by decide)
      have h3 := hat (i := 3) (by decide)
      have h4 := hat (i := 4) (by decide)
      have h5 := hat (i := 5) (by decide)
      rw [Go.Deep.add_add] at h0 h1 h2 h3 h4 h5
      exact ⟨⟨ag, G, cg, an, C, cn, ⟨a, b, f⟩, c⟩, h0, h1, h2, h3, h4, h5, t1, t2, t3, t4, t5⟩
    obtain ⟨S, hS⟩ := choose_lt each
    obtain ⟨b, off, sp⟩ := a'
    obtain rfl : sp = none := spotless (b := b) (off := off) (by simpa [Addr.add] using (hS 0 (by omega)).1)
    simp only [add_none] at hS
    unfold maxLen at hm
    refine ⟨(List.range len).map S, _, cap, by simp, fun _ => ⟨b, off, rfl, World.block_lt_of_cell? w _ (hS 0 (by omega)).1, ?_, ?_, ?_, ?_, ?_, ?_, ?_⟩, by simp; omega⟩
    all_goals
      intro i hi
      simp only [List.length_map, List.length_range] at hi
      simp only [List.getElem_map, List.getElem_range]
    · exact (hS i hi).1
    · exact (hS i hi).2.1
    · exact (hS i hi).2.2.1
    · exact (hS i hi).2.2.2.1
    · exact (hS i hi).2.2.2.2.1
    · exact (hS i hi).2.2.2.2.2.1
    · exact (hS i hi).2.2.2.2.2.2
end
end Go.Proofs.YtebomakihdjllaaDoor
namespace Go.Proofs.YtebomakihdjllaaDoor
open Go.RowKit Go.Extern.Stop Go.Stop Go.Extern
set_option maxRecDepth 100000
set_option linter.unusedVariables false
set_option linter.unusedSimpArgs false
/-- The variable errors.errorType reads as laid. -/
def ErrAt (w : World) : Prop := w.cell? ⟨1, 0, none⟩ = some (.iface 116 (.agg #[.pointer (some ⟨2, 25, none⟩)])) ∧ 1 < w.heap.size
theorem ErrAt.below {w w' : World} (h : ErrAt w) (hb : Below w.heap.size w w') : ErrAt w' := ⟨((bcell hb).1 _ _ h.2).trans h.1, Nat.lt_of_lt_of_le h.2 hb.size⟩
/-! The model's entries for reflectlite, at this program's types. -/
theorem rl_value (t : Addr) (w : World) : (ReflectliteValue.unpack (.iface 90 (.pointer (some t)))).run Tryd.prog w
    = .ok (.agg #[.pointer (some ⟨2, 90, none⟩), .pointer (some ⟨w.heap.size, 0, none⟩), .int .u64 150]) (w.alloc (.cells #[.pointer (some t)] 90)) := by kernel_rfl
theorem rl_type (a : Addr) (w : World) : (ReflectliteValue.methodAny (ReflectliteValue.valueError "reflectlite.Value.Type" 0) (fun t _ _ _ => ReflectliteType.toType t) #[.agg #[.pointer (some ⟨2, 90, none⟩), .pointer (some a), .int .u64 150]]).run Tryd.prog w
    = .ok (.iface 116 (.agg #[.pointer (some ⟨2, 90, none⟩)])) w := by kernel_rfl
theorem rl_kindm (h : Value) (w : World) : (Go.method 262 116 (.agg #[h]) "Kind").run Tryd.prog w = .ok (103, h) w := by kernel_rfl
theorem rl_kind (w : World) : ((ReflectliteType.abiMethod fun t => (fun a : Nat => Value.int IntKind.u8 (a : Int)) <$> Rtype.kind t) #[.pointer (some ⟨2, 90, none⟩)]).run Tryd.prog w = .ok (.int .u8 22) w := by kernel_rfl
theorem rl_kinde (w : World) : ((ReflectliteType.abiMethod fun t => (fun a : Nat => Value.int IntKind.u8 (a : Int)) <$> Rtype.kind t) #[.pointer (some ⟨2, 69, none⟩)]).run Tryd.prog w = .ok (.int .u8 2) w := by kernel_rfl
theorem rl_m (z : Sem Value) (f : TypeId → Addr → Nat → Nat → Sem Value) (v : Value) :
    ReflectliteValue.method z f #[v] = (do match ← ReflectliteValue.parts v with | none => z | some (t, a, fl) => f t a fl (fl % 32)) := rfl
theorem rl_parts (a : Addr) (w : World) : (ReflectliteValue.parts (.agg #[.pointer (some ⟨2, 90, none⟩), .pointer (some a), .int .u64 150])).run Tryd.prog w = .ok (some (90, a, 150)) w := by kernel_rfl
theorem rl_nil (a p : Addr) (W : World) (ha : W.cell? a = some (.pointer (some p))) :
    (ReflectliteValue.method (ReflectliteValue.valueError "reflectlite.Value.IsNil" 0) ReflectliteValue.isNil #[.agg #[.pointer (some ⟨2, 90, none⟩), .pointer (some a), .int .u64 150]]).run Tryd.prog W = .ok (.bool false) W := by
  rw [rl_m]
  simp only [Sem.run_bind, rl_parts, Result.andThen]
  simp [ReflectliteValue.isNil, loadVar, isAgg, underlying, Tryd.underlying90, ha, Result.andThen]
theorem rl_elemm (h : Value) (w : World) : (Go.method 262 116 (.agg #[h]) "Elem").run Tryd.prog w = .ok (114, .agg #[h]) w := by kernel_rfl
theorem rl_implm (h : Value) (w : World) : (Go.method 262 116 (.agg #[h]) "Implements").run Tryd.prog w = .ok (115, .agg #[h]) w := by kernel_rfl
theorem rl_assm (h : Value) (w : World) : (Go.method 262 116 (.agg #[h]) "AssignableTo").run Tryd.prog w = .ok (112, .agg #[h]) w := by kernel_rfl
theorem rl_elem (w : World) : (ReflectliteType.method ReflectliteType.elem #[.agg #[.pointer (some ⟨2, 90, none⟩)]]).run Tryd.prog w = .ok (.iface 116 (.agg #[.pointer (some ⟨2, 69, none⟩)])) w := by kernel_rfl
theorem rl_impl (w : World) : (ReflectliteType.relation "Implements" ReflectliteType.implements_ #[.agg #[.pointer (some ⟨2, 69, none⟩)], .iface 116 (.agg #[.pointer (some ⟨2, 25, none⟩)])]).run Tryd.prog w = .ok (.bool true) w := by kernel_rfl
theorem rl_typeof (v : Value) (w : World) : (ReflectliteType.typeOf #[.iface 69 v]).run Tryd.prog w = .ok (.iface 116 (.agg #[.pointer (some ⟨2, 69, none⟩)])) w := by kernel_rfl
theorem rl_ass (w : World) : (ReflectliteType.relation "AssignableTo" ReflectliteType.assignableTo #[.agg #[.pointer (some ⟨2, 69, none⟩)], .iface 116 (.agg #[.pointer (some ⟨2, 69, none⟩)])]).run Tryd.prog w = .ok (.bool true) w := by kernel_rfl
theorem rl_valuee (k : Int) (w : World) : (ReflectliteValue.unpack (.iface 69 (.int .i64 k))).run Tryd.prog w
    = .ok (.agg #[.pointer (some ⟨2, 69, none⟩), .pointer (some ⟨w.heap.size, 0, none⟩), .int .u64 130]) (w.alloc (.cells #[.int .i64 k] 69)) := by kernel_rfl
theorem rl_elemof (w : World) : (Rtype.elem? 90).run Tryd.prog w = .ok (some 69) w := by kernel_rfl
theorem rl_mk (p : Addr) (w : World) : (ReflectliteValue.mk 69 p ReflectliteValue.flagAddr).run Tryd.prog w = .ok (.agg #[.pointer (some ⟨2, 69, none⟩), .pointer (some p), .int .u64 386]) w := by kernel_rfl
theorem rl_elemv (a p : Addr) (W : World) (ha : W.cell? a = some (.pointer (some p))) :
    (ReflectliteValue.method (ReflectliteValue.valueError "reflectlite.Value.Elem" 0) ReflectliteValue.elem #[.agg #[.pointer (some ⟨2, 90, none⟩), .pointer (some a), .int .u64 150]]).run Tryd.prog W
      = .ok (.agg #[.pointer (some ⟨2, 69, none⟩), .pointer (some p), .int .u64 386]) W := by
  rw [rl_m]
  simp only [Sem.run_bind, rl_parts, Result.andThen]
  simp [ReflectliteValue.elem, loadVar, isAgg, underlying, Tryd.underlying90, ha, Result.andThen, rl_elemof, rl_mk]
theorem rl_s (v x : Value) : ReflectliteValue.set #[v, x] = (do
    let (some (dst, a, fl), some (src, b, _)) := (← ReflectliteValue.parts v, ← ReflectliteValue.parts x)
      | unsupported (.noEntry "extern/(internal/reflectlite.Value).Set.zeroValue")
    if fl / ReflectliteValue.flagAddr % 2 == 0 then unsupported (.noEntry "extern/(internal/reflectlite.Value).Set.unaddressable")
    let val ← loadVar src b
    if ← Rtype.directlyAssignable dst src then storeVar dst a val
    else if ← Rtype.implements dst src then
      if (← Rtype.kind src) == 20 then
        match val with
        | .nilIface => unsupported (.noEntry "extern/reflectlite: a nil value of one interface type handed on as a value of another")
        | _ => storeVar dst a val
      else storeVar dst a (.iface src val)
    else panicString ("reflectlite.Set: value of type " ++ (← Rtype.spelt src) ++ " is not assignable to type " ++ (← Rtype.spelt dst))
    pure (.tuple #[])) := rfl
theorem rl_partsa (a : Addr) (w : World) : (ReflectliteValue.parts (.agg #[.pointer (some ⟨2, 69, none⟩), .pointer (some a), .int .u64 386])).run Tryd.prog w = .ok (some (69, a, 386)) w := by kernel_rfl
theorem rl_partse (a : Addr) (w : World) : (ReflectliteValue.parts (.agg #[.pointer (some ⟨2, 69, none⟩), .pointer (some a), .int .u64 130])).run Tryd.prog w = .ok (some (69, a, 130)) w := by kernel_rfl
theorem rl_direct (w : World) : (Rtype.directlyAssignable 69 69).run Tryd.prog w = .ok true w := by kernel_rfl
theorem rl_set (ta b : Addr) (k : Int) (old : Value) (W : World) (hb : W.cell? b = some (.int .i64 k)) (ht : W.cell? ta = some old) (hf : W.frozen? ta = false) :
    (ReflectliteValue.set #[.agg #[.pointer (some ⟨2, 69, none⟩), .pointer (some ta), .int .u64 386], .agg #[.pointer (some ⟨2, 69, none⟩), .pointer (some b), .int .u64 130]]).run Tryd.prog W
      = .ok (.tuple #[]) (W.setCell ta (.int .i64 k)) := by
  rw [rl_s]
  simp only [Sem.run_bind, rl_partsa, rl_partse, Result.andThen]
  simp [ReflectliteValue.flagAddr, loadVar, isAgg, underlying, Tryd.underlying69, hb, Result.andThen, rl_direct, storeVar, Value.cells, storeCells, Addr.add]
  rw [run_store Tryd.prog W ta _ _ (by rfl)]
  simp [ht, hf]
set_option maxHeartbeats 4000000 in
theorem as_hit (k : Int) (t : Addr) (old : Value) (w : World) (hg : w.cell? ⟨1, 0, none⟩ = some (.iface 116 (.agg #[.pointer (some ⟨2, 25, none⟩)]))) (hgl : 1 < w.heap.size) (ht0 : w.cell? t = some old) (hf0 : w.frozen? t = false) :
    Calls Tryd.prog 56 #[.iface 69 (.int .i64 k), .iface 90 (.pointer (some t))] w fun ev w' => ev = .returned (.bool true) ∧ w' = ((((w.alloc (.cells #[.pointer (some t)] 90)).alloc (.cells #[.pointer (some ⟨2, 90, none⟩), .pointer (some ⟨w.heap.size, 0, none⟩), .int .u64 150] 104)).alloc (.cells #[.pointer (some ⟨2, 90, none⟩), .pointer (some ⟨w.heap.size, 0, none⟩), .int .u64 150] 104)).alloc (.cells #[.int .i64 k] 69)).setCell t (.int .i64 k) := by
  have h6 := @run_callFunc_extern Tryd.prog 73 _ (fun args => ReflectliteValue.unpack (args.getD 0 (.tuple #[]))) Tryd.func73 (by kernel_rfl) (by kernel_rfl) (by kernel_rfl) (by kernel_rfl)
  have h7 := @run_callFunc_extern Tryd.prog 74 _ (ReflectliteValue.methodAny (ReflectliteValue.valueError "reflectlite.Value.Type" 0) (fun t _ _ _ => ReflectliteType.toType t)) Tryd.func74 (by kernel_rfl) (by kernel_rfl) (by kernel_rfl) (by kernel_rfl)
  have h8 := @run_callFunc_extern Tryd.prog 75 _ (ReflectliteValue.method (ReflectliteValue.valueError "reflectlite.Value.IsNil" 0) ReflectliteValue.isNil) Tryd.func75 (by kernel_rfl) (by kernel_rfl) (by kernel_rfl) (by kernel_rfl)
  have h27 := @run_callFunc_extern Tryd.prog 103 _ (ReflectliteType.abiMethod fun t => do pure (.int .u8 (← Rtype.kind t))) Tryd.func103 (by kernel_rfl) (by kernel_rfl) (by kernel_rfl) (by kernel_rfl)
  have h37 := @run_callFunc_extern Tryd.prog 114 _ (ReflectliteType.method ReflectliteType.elem) Tryd.func114 (by kernel_rfl) (by kernel_rfl) (by kernel_rfl) (by kernel_rfl)
  have h38 := @run_callFunc_extern Tryd.prog 115 _ (ReflectliteType.relation "Implements" ReflectliteType.implements_) Tryd.func115 (by kernel_rfl) (by kernel_rfl) (by kernel_rfl) (by kernel_rfl)
  have h10 := @run_callFunc_extern Tryd.prog 83 _ (ReflectliteType.typeOf) Tryd.func83 (by kernel_rfl) (by kernel_rfl) (by kernel_rfl) (by kernel_rfl)
  have h35 := @run_callFunc_extern Tryd.prog 112 _ (ReflectliteType.relation "AssignableTo" ReflectliteType.assignableTo) Tryd.func112 (by kernel_rfl) (by kernel_rfl) (by kernel_rfl) (by kernel_rfl)
  have h11 := @run_callFunc_extern Tryd.prog 84 _ (ReflectliteValue.method (ReflectliteValue.valueError "reflectlite.Value.Elem" 0) ReflectliteValue.elem) Tryd.func84 (by kernel_rfl) (by kernel_rfl) (by kernel_rfl) (by kernel_rfl)
  have h12 := @run_callFunc_extern Tryd.prog 85 _ (ReflectliteValue.set) Tryd.func85 (by kernel_rfl) (by kernel_rfl) (by kernel_rfl) (by kernel_rfl)
  have tO := rl_typeof
  have mA := rl_assm
  have a25 := rl_ass
  have v25 := rl_valuee
  have f6 := rl_value
  have f7 := rl_type
  have mK := rl_kindm
  have mE := rl_elemm
  have mI := rl_implm
  have k27 := rl_kind
  have k25 := rl_kinde
  have e27 := rl_elem
  have i25 := rl_impl
  have n8 := rl_nil ⟨w.heap.size, 0, none⟩ t ((w.alloc (.cells #[.pointer (some t)] 90)).alloc (.cells #[.pointer (some ⟨2, 90, none⟩), .pointer (some ⟨w.heap.size, 0, none⟩), .int .u64 150] 104)) (by simp)
  have hg2 : ((w.alloc (.cells #[.pointer (some t)] 90)).alloc (.cells #[.pointer (some ⟨2, 90, none⟩), .pointer (some ⟨w.heap.size, 0, none⟩), .int .u64 150] 104)).cell? ⟨1, 0, none⟩ = some (.iface 116 (.agg #[.pointer (some ⟨2, 25, none⟩)])) := by
    rw [World.cell?_alloc_lt _ _ ⟨1, 0, none⟩ (by simp; omega), World.cell?_alloc_lt _ _ ⟨1, 0, none⟩ hgl]; exact hg
  have htl : t.block < w.heap.size := by
    rcases Nat.lt_or_ge t.block w.heap.size with h | h
    · exact h
    · simp [World.cell?, Array.getElem?_eq_none h] at ht0
  have el := rl_elemv ⟨w.heap.size, 0, none⟩ t (((w.alloc (.cells #[.pointer (some t)] 90)).alloc (.cells #[.pointer (some ⟨2, 90, none⟩), .pointer (some ⟨w.heap.size, 0, none⟩), .int .u64 150] 104)).alloc (.cells #[.pointer (some ⟨2, 90, none⟩), .pointer (some ⟨w.heap.size, 0, none⟩), .int .u64 150] 104)) (by rw [World.cell?_alloc_lt _ _ ⟨w.heap.size, 0, none⟩ (by simp; omega)]; simp)
  have st := rl_set t ⟨w.heap.size + 1 + 1 + 1, 0, none⟩ k old ((((w.alloc (.cells #[.pointer (some t)] 90)).alloc (.cells #[.pointer (some ⟨2, 90, none⟩), .pointer (some ⟨w.heap.size, 0, none⟩), .int .u64 150] 104)).alloc (.cells #[.pointer (some ⟨2, 90, none⟩), .pointer (some ⟨w.heap.size, 0, none⟩), .int .u64 150] 104)).alloc (.cells #[.int .i64 k] 69))
    (by rw [World.cell?_alloc_at _ _ _ _ (by simp)]; rfl)
    (by rw [World.cell?_alloc_lt _ _ t (by simp; omega), World.cell?_alloc_lt _ _ t (by simp; omega), World.cell?_alloc_lt _ _ t (by simp; omega), World.cell?_alloc_lt _ _ t htl]; exact ht0)
    (by rw [World.frozen?_alloc_old _ _ t (by simp; omega), World.frozen?_alloc_old _ _ t (by simp; omega), World.frozen?_alloc_old _ _ t (by simp; omega), World.frozen?_alloc_old _ _ t (Nat.ne_of_lt htl)]; exact hf0)
  go_enter Tryd.func56, Tryd.ntmps56
  go_wp2
  refine wp_loop_rounds 1 ?_
  rw [rounds_succ]
  go_wp2
  go_ret
  exact ⟨rfl, rfl⟩
/-- An error is told by its number. -/
theorem told_nil (w : World) : Calls Tryd.prog 36 #[.nilIface] w fun e w' => e = .returned (.int .i64 0) ∧ Below w.heap.size w w' := by
  go_enter Tryd.func36, Tryd.ntmps36
  go_wp2
  go_ret
  exact ⟨rfl, (by repeat (first | exact Below.refl _ _ | refine balloc ?_ _ | refine Below.drew ?_ | refine below_drewN ?_ _ | refine below_set ?_ (by first | omega | (dsimp only; omega)) _))⟩
set_option maxHeartbeats 4000000 in
theorem told_err (k : Int) (w : World) (hE : ErrAt w) : Calls Tryd.prog 36 #[.iface 69 (.int .i64 k)] w fun e w' => e = .returned (.int .i64 k) ∧ Below w.heap.size w w' := by
  go_enter Tryd.func36, Tryd.ntmps36
  go_wp2_with fail
  refine (as_hit k ⟨w.heap.size, 0, none⟩ (.int .i64 0) _ (by rw [World.cell?_alloc_lt _ _ ⟨1, 0, none⟩ hE.2]; exact hE.1) (by simp; have := hE.2; omega) (by simp) (by simp)).mono ?_; rintro e w1 ⟨rfl, hw⟩
  have hc : w1.cell? ⟨w.heap.size, 0, none⟩ = some (.int .i64 k) := by
    rw [hw]; refine World.cell?_setCell_same (u := .int .i64 0) _ _ _ ?_
    rw [World.cell?_alloc_lt _ _ ⟨w.heap.size, 0, none⟩ (by simp; omega), World.cell?_alloc_lt _ _ ⟨w.heap.size, 0, none⟩ (by simp; omega), World.cell?_alloc_lt _ _ ⟨w.heap.size, 0, none⟩ (by simp; omega), World.cell?_alloc_lt _ _ ⟨w.heap.size, 0, none⟩ (by simp)]; simp
  have hb : Below w.heap.size w w1 := by
    rw [hw]; exact below_set (balloc (balloc (balloc (balloc (below_alloc _ _) _) _) _) _) (Nat.le_refl _) _
  have hz := hb.size
  have hl : w.heap.size < w1.heap.size := by rw [hw]; simp; omega
  clear hw
  go_wp2
  go_ret
  exact ⟨rfl, hb⟩
theorem error_nil (n : Int) (w : World) (b : Bool) (h : Hid (((0 : Int) == n) = b)) : Calls Tryd.prog 8 #[.nilIface, .int .i64 n] w fun e w' => e = .returned (.bool b) ∧ Below w.heap.size w w' := by
  go_enter Tryd.func8, Tryd.ntmps8
  go_wp2_with fail
  refine (told_nil _).mono ?_; rintro e w1 ⟨rfl, hb⟩
  have he := h.out
  go_wp2
  go_ret
  exact ⟨rfl, hb⟩
theorem error_err (k n : Int) (w : World) (hE : ErrAt w) (b : Bool) (h : Hid ((k == n) = b)) : Calls Tryd.prog 8 #[.iface 69 (.int .i64 k), .int .i64 n] w fun e w' => e = .returned (.bool b) ∧ Below w.heap.size w w' := by
  go_enter Tryd.func8, Tryd.ntmps8
  go_wp2_with fail
  refine (told_err k _ hE).mono ?_; rintro e w1 ⟨rfl, hb⟩
  have he := h.out
  go_wp2
  go_ret
  exact ⟨rfl, hb⟩
/-- An error's value, by its number; it is told as that number. -/
theorem error_same (E : Value) (n : Int) (w : World) (hE : ErrAt w) (h : Hid (E = errV n)) : Calls Tryd.prog 8 #[E, .int .i64 n] w fun e w' => e = .returned (.bool true) ∧ Below w.heap.size w w' := by
  rw [h.out]; unfold errV
  split
  · next e => rw [e]; exact error_nil 0 w true rfl
  · exact error_err n n w hE true (by show _ = _; simp)
end Go.Proofs.YtebomakihdjllaaDoor
namespace Go.Proofs.YtebomakihdjllaaDoor
open Go.RowKit
set_option maxRecDepth 100000
set_option linter.unusedVariables false
set_option linter.unusedSimpArgs false
theorem first_no (p : Nat → Prop) : ∀ n : Nat, ∃ k, k ≤ n ∧ (∀ i, i < k → p i) ∧ (k < n → ¬ p k)
  | 0 => ⟨0, Nat.le_refl _, fun i h => absurd h (Nat.not_lt_zero _), fun h => absurd h (Nat.lt_irrefl _)⟩
  | n + 1 => by
    obtain ⟨k, h1, h2, h3⟩ := first_no p n
    by_cases hk : k < n
    · exact ⟨k, by omega, h2, fun _ => h3 hk⟩
    · obtain rfl : k = n := by omega
      by_cases hp : p k
      · exact ⟨k + 1, Nat.le_refl _, fun i hi => by
          by_cases e : i < k
          · exact h2 i e
          · obtain rfl : i = k := by omega
            exact hp, fun h => absurd h (Nat.lt_irrefl _)⟩
      · exact ⟨k, by omega, h2, fun _ => hp⟩
theorem errVB_ne {n : Int} (h : n ≠ 0) : errV n = .iface 69 (.int .i64 n) := by unfold errV; rw [if_neg h]
theorem coins_all : ∀ (C : List Sp), (∀ i (h : i < C.length), ∃ n, C[i] = qS n) → ∃ M : List Int, C = M.map qS
  | [], _ => ⟨[], rfl⟩
  | s :: C, h => by
    obtain ⟨n, e⟩ := h 0 (Nat.succ_pos _)
    obtain ⟨M, hM⟩ := coins_all C (fun i hi => h (i + 1) (Nat.succ_lt_succ hi))
    simp only [List.getElem_cons_zero] at e
    exact ⟨n :: M, by rw [List.map_cons, ← e, ← hM]⟩
/-- Coins looked at: alike. -/
theorem coins_out (C : List Sp) (hCl : C.length ≤ 9223372036854775807) : ∃ EC : Int, (EC = 0 → ∃ M : List Int, M.length ≤ 12 ∧ C = M.map qS) ∧ ∀ (a : Option Addr) (c : Nat) (w : World), FarAt w → (0 < C.length → ∃ b o, a = some ⟨b, o, none⟩ ∧ SpotsAt w b o C) →
    (Calls Tryd.prog 34 #[.slice a C.length c] w fun e w' => e = .returned (errV EC) ∧ Below w.heap.size w w') ∧ (Calls Tryd.prog 23 #[.slice a C.length c] w fun e w' => e = .returned (.int .i64 EC) ∧ Below w.heap.size w w') := by
  by_cases h12 : C.length ≤ 12
  · obtain ⟨kk, k1, k2, k3⟩ := first_no (fun i => ∀ h : i < C.length, ∃ n, C[i] = qS n) C.length
    by_cases hk : kk < C.length
    · have hno : NoCoin C[kk] := by
        rcases coin_is C[kk] with h | h
        · exact absurd (fun _ => h) (k3 hk)
        · exact h
      refine ⟨3, fun h => by omega, fun a c w hF hs => ⟨?_, ?_⟩⟩
      · exact bcheck_core C kk (errV 3) a c w hF h12 hs (Lib.hid fun k h1 h2 => k2 k h2 h1) k1 (Lib.hid fun _ => hno) (Lib.hid fun _ => errVB_ne (by decide)) (Lib.hid fun h => by omega)
      · exact rcoins_core C kk 3 a c w h12 hs (Lib.hid fun k h1 h2 => k2 k h2 h1) k1 (Lib.hid fun _ => hno) (Lib.hid fun _ => rfl) (Lib.hid fun h => by omega)
    · obtain rfl : kk = C.length := by omega
      obtain ⟨M, hM⟩ := coins_all C (fun i h => k2 i h h)
      refine ⟨0, fun _ => ⟨M, by rw [hM, List.length_map] at h12; exact h12, hM⟩, fun a c w hF hs => ⟨?_, ?_⟩⟩
      · exact bcheck_core C C.length (errV 0) a c w hF h12 hs (Lib.hid fun k h1 h2 => k2 k h2 h1) k1 (Lib.hid fun h => absurd h (Nat.lt_irrefl _)) (Lib.hid fun h => absurd h (Nat.lt_irrefl _)) (Lib.hid fun _ => rfl)
      · exact rcoins_core C C.length 0 a c w h12 hs (Lib.hid fun k h1 h2 => k2 k h2 h1) k1 (Lib.hid fun h => absurd h (Nat.lt_irrefl _)) (Lib.hid fun h => absurd h (Nat.lt_irrefl _)) (Lib.hid fun _ => rfl)
  · refine ⟨4, fun h => by omega, fun a c w hF hs => ⟨?_, ?_⟩⟩
    · rw [errVB_ne (by decide)]; exact bcheck_full C.length a c w (by omega) hCl
    · exact rcoins_full C.length a c w (by omega) hCl
theorem gErrB_0 {G : List Bool} {pre : List Int} {g : Int} (h : gErrB G pre g = 0) : 0 ≤ g ∧ g < G.length := by
  unfold gErrB at h
  by_cases h1 : g < 0 ∨ (G.length : Int) ≤ g
  · rw [if_pos h1] at h; omega
  · omega
/-- What is left between: alike. -/
theorem ex_out (N : List Int) (G : List Bool) (gl : List Int) (C : List Sp) (hG : G.length = N.length) (hN : N.length ≤ 1000000) (hgl : gl.length ≤ 9223372036854775807) (hCl : C.length ≤ 9223372036854775807) :
    ∃ (V : Sp) (E : Int), (E = 0 → ∃ M : List Int, M.length ≤ 12 ∧ C = M.map qS ∧ V = qS (outN N gl + M.sum) ∧ ∀ g ∈ gl, 0 ≤ g ∧ g < N.length) ∧ (E ≠ 0 → V = ⟨0, 0, false⟩) ∧
      (∀ (B p : Nat) (a0 a1 : Option Addr) (c0 c1 : Nat) (w : World), FarAt w → BkAt w B p N G → gl.length ≤ c0 → c0 ≤ 9223372036854775807 → (0 < gl.length → ∃ b o, a0 = some ⟨b, o, none⟩ ∧ IntsAt w b o gl) → (0 < C.length → ∃ b o, a1 = some ⟨b, o, none⟩ ∧ SpotsAt w b o C) →
        Calls Tryd.prog 9 #[.pointer (some ⟨p, 0, none⟩), .slice a0 gl.length c0, .slice a1 C.length c1] w fun e w' => e = .returned (.tuple #[spV V, errV E]) ∧ Below w.heap.size w w') ∧
      (∀ (B p : Nat) (a0 a1 : Option Addr) (c0 c1 : Nat) (w : World), FarAt w → BkAt w B p N G → (0 < gl.length → ∃ b o, a0 = some ⟨b, o, none⟩ ∧ IntsAt w b o gl) → (0 < C.length → ∃ b o, a1 = some ⟨b, o, none⟩ ∧ SpotsAt w b o C) →
        Calls Tryd.prog 25 #[.pointer (some ⟨p, 0, none⟩), .slice a0 gl.length c0, .slice a1 C.length c1] w fun e w' => e = .returned (.tuple #[spV V, .int .i64 E]) ∧ Below w.heap.size w w') := by
  obtain ⟨EC, hM, hC⟩ := coins_out C hCl
  obtain ⟨kk, k1, k2, k3⟩ := first_no (fun i => ∀ h : i < gl.length, gErrB G (gl.take i) gl[i] = 0) gl.length
  have hsm : ∀ (a1 : Option Addr) (w : World), (0 < C.length → ∃ b o, a1 = some ⟨b, o, none⟩ ∧ SpotsAt w b o C) → ∀ w1, Below w.heap.size w w1 → (0 < C.length → ∃ b o, a1 = some ⟨b, o, none⟩ ∧ SpotsAt w1 b o C) := fun a1 w h w1 hb h0 => by obtain ⟨b, o, e, hs⟩ := h h0; exact ⟨b, o, e, hs.below hb⟩
  by_cases hk : kk < gl.length
  · obtain ⟨E, hE⟩ : ∃ E, gErrB G (gl.take kk) gl[kk] = E := ⟨_, rfl⟩
    have hE0 : E ≠ 0 := fun h => k3 hk (fun _ => hE.trans h)
    refine ⟨⟨0, 0, false⟩, E, fun h => absurd h hE0, fun _ => rfl, fun B p a0 a1 c0 c1 w hF hB g0 g1 hi hs => ?_, fun B p a0 a1 c0 c1 w hF hB hi hs => ?_⟩
    · rw [errVB_ne hE0]
      exact bex_core N G B p gl C a0 a1 c0 c1 kk E (errV EC) _ w hF hB hN hgl g0 g1 hi hs hCl k1 (fun i h hi => k2 i hi h) (fun _ => ⟨hE, hE0⟩) (Lib.hid fun w1 hb => (hC a1 c1 w1 (hF.below hb) (hsm a1 w hs w1 hb)).1) (Lib.hid fun _ => rfl) (Lib.hid fun h => by omega)
    · exact rbex_core N G B p gl C a0 a1 c0 c1 kk E EC _ w hB hN hgl hi hs hCl k1 (fun i h hi => k2 i hi h) (fun _ => ⟨hE, hE0⟩) (Lib.hid fun w1 hb => (hC a1 c1 w1 (hF.below hb) (hsm a1 w hs w1 hb)).2) (Lib.hid fun _ => rfl) (Lib.hid fun h => by omega)
  · obtain rfl : kk = gl.length := by omega
    by_cases hEC : EC = 0
    · subst hEC
      obtain ⟨M, hM1, hM2⟩ := hM rfl
      refine ⟨qS (outN N gl + M.sum), 0, fun _ => ⟨M, hM1, hM2, rfl, fun g hg => ?_⟩, fun h => absurd rfl h, fun B p a0 a1 c0 c1 w hF hB g0 g1 hi hs => ?_, fun B p a0 a1 c0 c1 w hF hB hi hs => ?_⟩
      · obtain ⟨i, hi, rfl⟩ := List.getElem_of_mem hg
        have := gErrB_0 (k2 i hi hi)
        rw [hG] at this; exact this
      · exact bex_core N G B p gl C a0 a1 c0 c1 gl.length 0 (errV 0) _ w hF hB hN hgl g0 g1 hi hs hCl k1 (fun i h hi => k2 i hi h) (fun h => absurd h (Nat.lt_irrefl _)) (Lib.hid fun w1 hb => (hC a1 c1 w1 (hF.below hb) (hsm a1 w hs w1 hb)).1) (Lib.hid fun h => absurd h (Nat.lt_irrefl _)) (Lib.hid fun _ => .inr ⟨rfl, M, hM2, rfl⟩)
      · exact rbex_core N G B p gl C a0 a1 c0 c1 gl.length 0 0 _ w hB hN hgl hi hs hCl k1 (fun i h hi => k2 i hi h) (fun h => absurd h (Nat.lt_irrefl _)) (Lib.hid fun w1 hb => (hC a1 c1 w1 (hF.below hb) (hsm a1 w hs w1 hb)).2) (Lib.hid fun h => absurd h (Nat.lt_irrefl _)) (Lib.hid fun _ => .inr ⟨rfl, M, hM1, hM2, rfl⟩)
    · refine ⟨⟨0, 0, false⟩, EC, fun h => absurd h hEC, fun _ => rfl, fun B p a0 a1 c0 c1 w hF hB g0 g1 hi hs => ?_, fun B p a0 a1 c0 c1 w hF hB hi hs => ?_⟩
      · exact bex_core N G B p gl C a0 a1 c0 c1 gl.length 0 (errV EC) _ w hF hB hN hgl g0 g1 hi hs hCl k1 (fun i h hi => k2 i hi h) (fun h => absurd h (Nat.lt_irrefl _)) (Lib.hid fun w1 hb => (hC a1 c1 w1 (hF.below hb) (hsm a1 w hs w1 hb)).1) (Lib.hid fun h => absurd h (Nat.lt_irrefl _)) (Lib.hid fun _ => .inl ⟨EC, errVB_ne hEC, rfl⟩)
      · exact rbex_core N G B p gl C a0 a1 c0 c1 gl.length 0 EC _ w hB hN hgl hi hs hCl k1 (fun i h hi => k2 i hi h) (fun h => absurd h (Nat.lt_irrefl _)) (Lib.hid fun w1 hb => (hC a1 c1 w1 (hF.below hb) (hsm a1 w hs w1 hb)).2) (Lib.hid fun h => absurd h (Nat.lt_irrefl _)) (Lib.hid fun _ => .inl ⟨by simpa using hEC, rfl⟩)
end Go.Proofs.YtebomakihdjllaaDoor
namespace Go.Proofs.YtebomakihdjllaaDoor
open Go.RowKit
set_option maxRecDepth 100000
set_option linter.unusedVariables false
set_option linter.unusedSimpArgs false
set_option maxHeartbeats 4000000 in
theorem bdo_e (p : Nat) (a0 a1 : Option Addr) (n m c0 c1 : Nat) (RS : Sp) (s E : Int) (w : World)
    (hEx : Hid (∀ w1 : World, Below w.heap.size w w1 → Calls Tryd.prog 9 #[.pointer (some ⟨p, 0, none⟩), .slice a0 n c0, .slice a1 m c1] w1 fun e w' => e = .returned (.tuple #[spV ⟨0, 0, false⟩, .iface 69 (.int .i64 E)]) ∧ Below w1.heap.size w1 w')) :
    Calls Tryd.prog 12 #[.pointer (some ⟨p, 0, none⟩), dlV (.slice a0 n c0) (.slice a1 m c1) RS s] w fun e w' => e = .returned (.iface 69 (.int .i64 E)) ∧ Below w.heap.size w w' := by
  go_enter Tryd.func12, Tryd.ntmps12
  go_wp2_with fail
  have hb0 := Lib.hid (below_alloc w (.cells #[.slice a0 n c0, .slice a1 m c1, .int .i64 RS.x, .int .i64 RS.y, .bool RS.far, .int .i64 s] 42))
  refine (hEx.out _ hb0.out).mono ?_; rintro e w1 ⟨rfl, hb1⟩
  have hB1 := Lib.hid (below_seq hb0.out hb1)
  clear hb1 hb0 hEx
  go_wp2
  go_ret
  exact ⟨rfl, balloc hB1.out _⟩
set_option maxHeartbeats 4000000 in
theorem rbdo_e (p : Nat) (a0 a1 : Option Addr) (n m c0 c1 : Nat) (RS : Sp) (s E : Int) (w : World) (hE : (E != 0) = true)
    (hEx : Hid (∀ w1 : World, Below w.heap.size w w1 → Calls Tryd.prog 25 #[.pointer (some ⟨p, 0, none⟩), .slice a0 n c0, .slice a1 m c1] w1 fun e w' => e = .returned (.tuple #[spV ⟨0, 0, false⟩, .int .i64 E]) ∧ Below w1.heap.size w1 w')) :
    Calls Tryd.prog 26 #[.pointer (some ⟨p, 0, none⟩), dlV (.slice a0 n c0) (.slice a1 m c1) RS s] w fun e w' => e = .returned (.int .i64 E) ∧ Below w.heap.size w w' := by
  go_enter Tryd.func26, Tryd.ntmps26
  go_wp2_with fail
  have hb0 := Lib.hid (below_alloc w (.cells #[.slice a0 n c0, .slice a1 m c1, .int .i64 RS.x, .int .i64 RS.y, .bool RS.far, .int .i64 s] 42))
  refine (hEx.out _ hb0.out).mono ?_; rintro e w1 ⟨rfl, hb1⟩
  have hB1 := Lib.hid (below_seq hb0.out hb1)
  clear hb1 hb0 hEx
  go_wp2
  go_ret
  exact ⟨rfl, balloc hB1.out _⟩
theorem did_same {w w' : World} {B p : Nat} {vc vg : Value} {N : List Int} {G : List Bool} (h : BkV w B p vc vg N G) (hb : Below w.heap.size w w') : Did w w' B p vc vg N G := ⟨vc, vg, h.below hb, fun _ hk => .inl hk, But.of_below hb⟩
/-- What a deal asks of the slices: they lie, and not in the book. -/
structure Lies (w : World) (p : Nat) (vc vg : Value) (a0 a1 : Option Addr) (gl : List Int) (C : List Sp) : Prop where
  g : 0 < gl.length → ∃ b o, a0 = some ⟨b, o, none⟩ ∧ IntsAt w b o gl ∧ ¬ inB p vc vg b
  n : 0 < C.length → ∃ b o, a1 = some ⟨b, o, none⟩ ∧ SpotsAt w b o C ∧ ¬ inB p vc vg b
theorem do_out (N : List Int) (G : List Bool) (gl : List Int) (C : List Sp) (RS : Sp) (s : Int) (hG : G.length = N.length) (hN : N.length ≤ 1000) (hgl : gl.length ≤ 9223372036854775807) (hCl : C.length ≤ 9223372036854775807) :
    ∃ (E : Int) (N' : List Int) (G' : List Bool), N'.length ≤ 1000 ∧ G'.length = N'.length ∧
      (∀ (B p : Nat) (vc vg : Value) (a0 a1 : Option Addr) (c0 c1 : Nat) (w : World), FarAt w → BkV w B p vc vg N G → B ≤ w.heap.size → gl.length ≤ c0 → c0 ≤ 9223372036854775807 → Lies w p vc vg a0 a1 gl C →
        Calls Tryd.prog 12 #[.pointer (some ⟨p, 0, none⟩), dlV (.slice a0 gl.length c0) (.slice a1 C.length c1) RS s] w fun e w' => e = .returned (errV E) ∧ Did w w' B p vc vg N' G') ∧
      (∀ (B p : Nat) (vc vg : Value) (a0 a1 : Option Addr) (c0 c1 : Nat) (w : World), FarAt w → BkV w B p vc vg N G → B ≤ w.heap.size → Lies w p vc vg a0 a1 gl C →
        Calls Tryd.prog 26 #[.pointer (some ⟨p, 0, none⟩), dlV (.slice a0 gl.length c0) (.slice a1 C.length c1) RS s] w fun e w' => e = .returned (.int .i64 E) ∧ Did w w' B p vc vg N' G') := by
  obtain ⟨V, E, h0, hne, hP, hD⟩ := ex_out N G gl C hG (by omega) hgl hCl
  have sm : ∀ (p : Nat) (vc vg : Value) (a0 a1 : Option Addr) (w w1 : World), Lies w p vc vg a0 a1 gl C → Below w.heap.size w w1 → (0 < gl.length → ∃ b o, a0 = some ⟨b, o, none⟩ ∧ IntsAt w1 b o gl) ∧ (0 < C.length → ∃ b o, a1 = some ⟨b, o, none⟩ ∧ SpotsAt w1 b o C) := fun p vc vg a0 a1 w w1 h hb =>
    ⟨fun h1 => by obtain ⟨b, o, e, hs, -⟩ := h.g h1; exact ⟨b, o, e, hs.below hb⟩, fun h1 => by obtain ⟨b, o, e, hs, -⟩ := h.n h1; exact ⟨b, o, e, hs.below hb⟩⟩
  have exP : ∀ (B p : Nat) (vc vg : Value) (a0 a1 : Option Addr) (c0 c1 : Nat) (w : World), FarAt w → BkV w B p vc vg N G → gl.length ≤ c0 → c0 ≤ 9223372036854775807 → Lies w p vc vg a0 a1 gl C → ∀ w1 : World, Below w.heap.size w w1 → Calls Tryd.prog 9 #[.pointer (some ⟨p, 0, none⟩), .slice a0 gl.length c0, .slice a1 C.length c1] w1 fun e w' => e = .returned (.tuple #[spV V, errV E]) ∧ Below w1.heap.size w1 w' :=
    fun B p vc vg a0 a1 c0 c1 w hF hv g0 g1 hl w1 hb => hP B p a0 a1 c0 c1 w1 (hF.below hb) ⟨_, _, hv.below hb⟩ g0 g1 (sm p vc vg a0 a1 w w1 hl hb).1 (sm p vc vg a0 a1 w w1 hl hb).2
  have exD : ∀ (B p : Nat) (vc vg : Value) (a0 a1 : Option Addr) (c0 c1 : Nat) (w : World), FarAt w → BkV w B p vc vg N G → Lies w p vc vg a0 a1 gl C → ∀ w1 : World, Below w.heap.size w w1 → Calls Tryd.prog 25 #[.pointer (some ⟨p, 0, none⟩), .slice a0 gl.length c0, .slice a1 C.length c1] w1 fun e w' => e = .returned (.tuple #[spV V, .int .i64 E]) ∧ Below w1.heap.size w1 w' :=
    fun B p vc vg a0 a1 c0 c1 w hF hv hl w1 hb => hD B p a0 a1 c0 c1 w1 (hF.below hb) ⟨_, _, hv.below hb⟩ (sm p vc vg a0 a1 w w1 hl hb).1 (sm p vc vg a0 a1 w w1 hl hb).2
  by_cases hE : E = 0
  · subst hE
    obtain ⟨M, hM1, rfl, rfl, hin⟩ := h0 rfl
    have hl : (M.map qS).length = M.length := List.length_map _
    have refuse : ∀ E : Int, E ≠ 0 → ((1000 < N.length + M.length ∧ E = 4) ∨ (N.length + M.length ≤ 1000 ∧ ((¬ (0 ≤ s ∧ s < 1013) ∧ E = 1) ∨ ((0 ≤ s ∧ s < 1013) ∧ ((sCheck RS = E ∧ E ≠ 0) ∨ (Ok RS ∧ E = 8 ∧ Sp.beq (sq (4 * hJ * s)) (sSum RS (sq (4 * (outN N gl + M.sum) * bAsk RS (qS (outN N gl + M.sum))))) = false)))))) →
        ∃ (E : Int) (N' : List Int) (G' : List Bool), N'.length ≤ 1000 ∧ G'.length = N'.length ∧
      (∀ (B p : Nat) (vc vg : Value) (a0 a1 : Option Addr) (c0 c1 : Nat) (w : World), FarAt w → BkV w B p vc vg N G → B ≤ w.heap.size → gl.length ≤ c0 → c0 ≤ 9223372036854775807 → Lies w p vc vg a0 a1 gl (M.map qS) →
        Calls Tryd.prog 12 #[.pointer (some ⟨p, 0, none⟩), dlV (.slice a0 gl.length c0) (.slice a1 (M.map qS).length c1) RS s] w fun e w' => e = .returned (errV E) ∧ Did w w' B p vc vg N' G') ∧
      (∀ (B p : Nat) (vc vg : Value) (a0 a1 : Option Addr) (c0 c1 : Nat) (w : World), FarAt w → BkV w B p vc vg N G → B ≤ w.heap.size → Lies w p vc vg a0 a1 gl (M.map qS) →
        Calls Tryd.prog 26 #[.pointer (some ⟨p, 0, none⟩), dlV (.slice a0 gl.length c0) (.slice a1 (M.map qS).length c1) RS s] w fun e w' => e = .returned (.int .i64 E) ∧ Did w w' B p vc vg N' G') := fun E hE hR => by
      refine ⟨E, N, G, hN, hG, fun B p vc vg a0 a1 c0 c1 w hF hv hB g0 g1 hli => ?_, fun B p vc vg a0 a1 c0 c1 w hF hv hB hli => ?_⟩
      · rw [errVB_ne hE]
        exact (bdo_n N G B p a0 a1 gl.length (M.map qS).length c0 c1 RS s _ (outN N gl + M.sum) E _ w hF ⟨_, _, hv⟩ (by omega) (by omega) (Lib.hid rfl) (Lib.hid (exP B p vc vg a0 a1 c0 c1 w hF hv g0 g1 hli)) (Lib.hid (.inr ⟨rfl, by rw [hl]; exact hR⟩))).mono fun e w' ⟨h1, h2⟩ => ⟨h1, did_same hv h2⟩
      · exact (rbdo_n N G B p a0 a1 gl.length (M.map qS).length c0 c1 RS s _ (outN N gl + M.sum) E _ w hF ⟨_, _, hv⟩ (by omega) (by omega) (Lib.hid rfl) (Lib.hid (exD B p vc vg a0 a1 c0 c1 w hF hv hli)) (Lib.hid (.inr ⟨rfl, by rw [hl]; exact hR⟩))).mono fun e w' ⟨h1, h2⟩ => ⟨h1, did_same hv h2⟩
    by_cases hm : N.length + M.length ≤ 1000
    case neg => exact refuse 4 (by decide) (.inl ⟨by omega, rfl⟩)
    by_cases hs : 0 ≤ s ∧ s < 1013
    case neg => exact refuse 1 (by decide) (.inr ⟨hm, .inl ⟨hs, rfl⟩⟩)
    by_cases hr : sCheck RS = 0
    case neg => exact refuse _ hr (.inr ⟨hm, .inr ⟨hs, .inl ⟨rfl, hr⟩⟩⟩)
    have oR : Ok RS := (ok_iff RS).mp hr
    cases hq : Sp.beq (sq (4 * hJ * s)) (sSum RS (sq (4 * (outN N gl + M.sum) * bAsk RS (qS (outN N gl + M.sum)))))
    case false => exact refuse 8 (by decide) (.inr ⟨hm, .inr ⟨hs, .inr ⟨oR, rfl, hq⟩⟩⟩)
    refine ⟨0, N ++ M, goneL G gl ++ List.replicate M.length false, by rw [List.length_append]; exact hm, by rw [List.length_append, List.length_append, goneL_len, List.length_replicate, hG], fun B p vc vg a0 a1 c0 c1 w hF hv hB g0 g1 hli => ?_, fun B p vc vg a0 a1 c0 c1 w hF hv hB hli => ?_⟩
    · have hex := exP B p vc vg a0 a1 c0 c1 w hF hv g0 g1 hli
      have hn := hli.n
      rw [hl] at hex ⊢
      exact bdo_y N M G B p vc vg gl [] a0 a1 c0 c1 RS s _ (outN N gl + M.sum) w hF hv hB hN (Lib.hid rfl) hgl hli.g hn hin (Lib.hid hex) hm hs.1 hs.2 oR (Lib.hid hq)
    · have hex := exD B p vc vg a0 a1 c0 c1 w hF hv hli
      have hn := hli.n
      rw [hl] at hex ⊢
      exact rbdo_y N M G B p vc vg gl a0 a1 gl.length M.length c0 c1 RS s _ (outN N gl + M.sum) w hF hv hB hN (Lib.hid rfl) rfl rfl hgl hli.g hn hin (Lib.hid hex) hm hs.1 hs.2 oR (Lib.hid hq)
  · obtain rfl := hne hE
    rw [errVB_ne hE] at exP
    refine ⟨E, N, G, hN, hG, fun B p vc vg a0 a1 c0 c1 w hF hv hB g0 g1 hli => ?_, fun B p vc vg a0 a1 c0 c1 w hF hv hB hli => ?_⟩
    · rw [errVB_ne hE]
      exact (bdo_e p a0 a1 gl.length C.length c0 c1 RS s E w (Lib.hid (exP B p vc vg a0 a1 c0 c1 w hF hv g0 g1 hli))).mono fun e w' ⟨h1, h2⟩ => ⟨h1, did_same hv h2⟩
    · exact (rbdo_e p a0 a1 gl.length C.length c0 c1 RS s E w (by simpa using hE) (Lib.hid (exD B p vc vg a0 a1 c0 c1 w hF hv hli))).mono fun e w' ⟨h1, h2⟩ => ⟨h1, did_same hv h2⟩
end Go.Proofs.YtebomakihdjllaaDoor
namespace Go.Proofs.YtebomakihdjllaaDoor
open Go.RowKit
set_option maxRecDepth 100000
set_option linter.unusedVariables false
set_option linter.unusedSimpArgs false
set_option maxHeartbeats 4000000 in
theorem spots_same (l : List Sp) (v1 v2 : Value) (w : World) (hl : l.length ≤ 1000000) (h1 : SpSl w v1 l) (h2 : SpSl w v2 l) :
    Calls Tryd.prog 29 #[v1, v2] w fun e w' => e = .returned (.bool true) ∧ Below w.heap.size w w' := by
  obtain ⟨a1, c1, rfl, i1⟩ := h1
  obtain ⟨a2, c2, rfl, i2⟩ := h2
  replace i1 := Lib.hid i1
  replace i2 := Lib.hid i2
  have g1 : ((l.length : Int) != (l.length : Int)) = false := by simp
  go_enter Tryd.func29, Tryd.ntmps29
  go_wp2
  go_loopw [5] (fun i wr => ∃ n : Nat, n ≤ l.length ∧ i = .int .i64 n ∧ Below w.heap.size w wr) (fun i _ => l.length - (intOf i).toNat)
  case atStart => exact ⟨0, Nat.zero_le _, rfl, Below.refl _ _⟩
  case round =>
    obtain ⟨n, hn, rfl, hb⟩ := hrel
    replace hb := Lib.hid hb
    by_cases hlt : n < l.length
    · obtain ⟨b1, o1, rfl, l1⟩ := i1.out (by omega)
      obtain ⟨b2, o2, rfl, l2⟩ := i2.out (by omega)
      have k1 := (l1.below hb.out).cx n hlt
      have k2 := (l2.below hb.out).cx n hlt
      have k5 := (l1.below hb.out).cy n hlt
      have k6 := (l2.below hb.out).cy n hlt
      have k7 := (l1.below hb.out).cf n hlt
      have k8 := (l2.below hb.out).cf n hlt
      have k3 := (l1.below hb.out).lt
      have k4 := (l2.below hb.out).lt
      clear l1 l2
      generalize l[n] = x at *
      go_wp2_with fail
      go_quiet (fail)
      go_wp2
      go_roundw
      case rel => exact ⟨n + 1, by omega, by go_num, (by repeat (first | exact hb.out | refine below_drewN ?_ _ | refine Below.drew ?_))⟩
      case measure => simp [intOf]; omega
    · obtain rfl : n = l.length := by omega
      go_wp2
      go_ret
      exact ⟨rfl, hb.out⟩
end Go.Proofs.YtebomakihdjllaaDoor
namespace Go.Proofs.YtebomakihdjllaaDoor
open Go.RowKit
set_option maxRecDepth 100000
set_option linter.unusedVariables false
set_option linter.unusedSimpArgs false
theorem mod_off (a b t : Int) (h : a - b = 4052 * t) : a % 4052 = b % 4052 := by omega
theorem close_nums (h k c r q1 q2 m b : Int) (e1 : k + c * b = 1013 * q1 + m) (e2 : r = 1013 * q2 + b) : 4 * h * m - (4 * h * k + 4 * (h * r) * c) = 4052 * (-(h * q1) - h * q2 * c) := by
  have e3 : m = k + c * b - 1013 * q1 := by omega
  subst e3
  subst e2
  grind
theorem close_ok (k c r x : Int) (hx : (x - hJ * r) % 1013 = 0) : Sp.beq (sq (4 * hJ * ((k + c * (r % 1013)) % 1013))) (sSum (sq (4 * hJ * k)) (sq (4 * x * c))) = true := by
  have h1 : sq (4 * x * c) = sq (4 * (hJ * r) * c) := by
    refine sq_eq_iff.mpr ?_
    obtain ⟨t, ht⟩ : ∃ t, x - hJ * r = 1013 * t := ⟨(x - hJ * r) / 1013, by omega⟩
    refine mod_off _ _ (t * c) ?_
    have : x = hJ * r + 1013 * t := by omega
    rw [this]
    grind
  rw [h1, sq_add]
  have h2 : sq (4 * hJ * ((k + c * (r % 1013)) % 1013)) = sq (4 * hJ * k + 4 * (hJ * r) * c) := by
    refine sq_eq_iff.mpr (mod_off _ _ _ (close_nums hJ k c r ((k + c * (r % 1013)) / 1013) (r / 1013) _ (r % 1013) ?_ ?_))
    · omega
    · omega
  rw [h2]
  exact Sp.beq_refl _
end Go.Proofs.YtebomakihdjllaaDoor
namespace Go.Proofs.YtebomakihdjllaaDoor
open Go.RowKit
set_option maxRecDepth 100000
set_option linter.unusedVariables false
set_option linter.unusedSimpArgs false
/-- A seal that lies in a block. -/
structure SeAt (w : World) (b : Nat) (s : Sp) (z : Int) : Prop where
  c0 : w.cell? ⟨b, 0, none⟩ = some (.int .i64 s.x)
  c1 : w.cell? ⟨b, 1, none⟩ = some (.int .i64 s.y)
  c2 : w.cell? ⟨b, 2, none⟩ = some (.bool s.far)
  c3 : w.cell? ⟨b, 3, none⟩ = some (.int .i64 z)
  f0 : w.frozen? ⟨b, 0, none⟩ = false
  f1 : w.frozen? ⟨b, 1, none⟩ = false
  f2 : w.frozen? ⟨b, 2, none⟩ = false
  f3 : w.frozen? ⟨b, 3, none⟩ = false
  lt : b < w.heap.size
theorem SeAt.below {w w' : World} {b : Nat} {s : Sp} {z : Int} (h : SeAt w b s z) (hb : Below w.heap.size w w') : SeAt w' b s z :=
  ⟨((bcell hb).1 _ _ h.lt).trans h.c0, ((bcell hb).1 _ _ h.lt).trans h.c1, ((bcell hb).1 _ _ h.lt).trans h.c2, ((bcell hb).1 _ _ h.lt).trans h.c3, ((bcell hb).2 _ _ h.lt).trans h.f0, ((bcell hb).2 _ _ h.lt).trans h.f1, ((bcell hb).2 _ _ h.lt).trans h.f2, ((bcell hb).2 _ _ h.lt).trans h.f3, Nat.lt_of_lt_of_le h.lt hb.size⟩
theorem SeAt.fresh (w : World) (x y : Int) (f : Bool) (z : Int) (t : TypeId) : SeAt (w.alloc (.cells #[.int .i64 x, .int .i64 y, .bool f, .int .i64 z] t)) w.heap.size ⟨x, y, f⟩ z := ⟨by simp, by simp, by simp, by simp, by simp, by simp, by simp, by simp, by simp⟩
theorem SeAt.drew {w : World} {b : Nat} {s : Sp} {z : Int} (h : SeAt w b s z) : SeAt w.drew b s z := ⟨h.c0, h.c1, h.c2, h.c3, h.f0, h.f1, h.f2, h.f3, h.lt⟩
theorem SeAt.alloc {w : World} {b : Nat} {s : Sp} {z : Int} (h : SeAt w b s z) (o : Obj) : SeAt (w.alloc o) b s z := h.below (below_alloc w o)
theorem SeAt.set4 {w : World} {b : Nat} {s : Sp} {z : Int} (h : SeAt w b s z) (v : Sp) (y : Int) : SeAt ((((w.setCell ⟨b, 0, none⟩ (.int .i64 v.x)).setCell ⟨b, 1, none⟩ (.int .i64 v.y)).setCell ⟨b, 2, none⟩ (.bool v.far)).setCell ⟨b, 3, none⟩ (.int .i64 y)) b v y := by
  obtain ⟨h0, h1, h2, h3, f0, f1, f2, f3, hl⟩ := h
  have k := set4_cell (x := .int .i64 v.x) (y := .int .i64 v.y) (z := .bool v.far) (p := .int .i64 y) h0 h1 h2 h3
  exact ⟨k.1, k.2.1, k.2.2.1, k.2.2.2, by simpa using f0, by simpa using f1, by simpa using f2, by simpa using f3, by simpa [World.setCell] using hl⟩
theorem SeAt.zero_of {w : World} {b : Nat} (h0 : w.cell? ⟨b, 0, none⟩ = some (.int .i64 0)) (h1 : w.cell? ⟨b, 1, none⟩ = some (.int .i64 0)) (h2 : w.cell? ⟨b, 2, none⟩ = some (.bool false)) (h3 : w.cell? ⟨b, 3, none⟩ = some (.int .i64 0)) (f0 : w.frozen? ⟨b, 0, none⟩ = false) (f1 : w.frozen? ⟨b, 1, none⟩ = false) (f2 : w.frozen? ⟨b, 2, none⟩ = false) (f3 : w.frozen? ⟨b, 3, none⟩ = false) (hl : b < w.heap.size) : SeAt w b ⟨0, 0, false⟩ 0 := ⟨h0, h1, h2, h3, f0, f1, f2, f3, hl⟩
theorem nocoin0 : NoCoin ⟨0, 0, false⟩ := by
  rcases coin_is ⟨0, 0, false⟩ with ⟨n, h⟩ | h
  · exfalso
    have h2 : sSum ⟨0, 0, false⟩ ⟨0, 0, false⟩ = ⟨0, 0, true⟩ := by rfl
    rw [h, qS_add] at h2
    have h3 : (qS (n + n)).far = true := by rw [h2]
    unfold qS at h3 h
    have h4 := sq_far.mp h3
    have h5 : (sq (4 * n)).far = true := sq_far.mpr (by omega)
    rw [← h] at h5
    exact Bool.noConfusion h5
  · exact h
/-- What is no spot makes no book. -/
theorem bnew_zero (v : Value) (w : World) (hF : FarAt w) (hv : SpSl w v [⟨0, 0, false⟩]) : Calls Tryd.prog 7 #[v] w fun e w' => e = .returned (.tuple #[.pointer none, .iface 69 (.int .i64 3)]) ∧ Below w.heap.size w w' := by
  obtain ⟨a, c, rfl, h⟩ := hv
  exact bnew_n 1 (.iface 69 (.int .i64 3)) a c w ⟨3, rfl⟩ (bcheck_core [⟨0, 0, false⟩] 0 _ a c w hF (by decide) h (Lib.hid fun k _ h => absurd h (Nat.not_lt_zero _)) (by decide) (Lib.hid fun _ => nocoin0) (Lib.hid fun _ => rfl) (Lib.hid fun h => absurd h (by decide)))
theorem bnew_one (n : Int) (A : Sp) (v : Value) (w : World) (hF : FarAt w) (hA : Hid (A = qS n)) (hv : SpSl w v [A]) : Calls Tryd.prog 7 #[v] w fun e w' => ∃ p, e = .returned (.tuple #[.pointer (some ⟨p, 0, none⟩), .nilIface]) ∧ BkAt w' w.heap.size p [n] [false] ∧ Below w.heap.size w w' := by
  rw [hA.out] at hv
  obtain ⟨a, c, rfl, h⟩ := hv
  exact bnew_y [n] a c w (by simp) hF h
theorem bcheck_one (y : Int) (TO : Sp) (b1 : Nat) (w : World) (hF : FarAt w) (hT : Hid (TO = qS y)) (h1 : SpotsAt w b1 0 [TO]) : Calls Tryd.prog 34 #[.slice (some ⟨b1, 0, none⟩) 1 1] w fun e w' => e = .returned .nilIface ∧ Below w.heap.size w w' :=
  bcheck_core [TO] 1 .nilIface _ 1 w hF (by simp) (fun _ => ⟨_, _, rfl, h1⟩) (Lib.hid fun k h _ => ⟨y, by obtain rfl : k = 0 := (by simp at h; omega); exact hT.out⟩) (by simp) (Lib.hid fun h => absurd h (by simp)) (Lib.hid fun h => absurd h (by simp)) (Lib.hid fun _ => rfl)
theorem bcheck_nil (w : World) (hF : FarAt w) : Calls Tryd.prog 34 #[.slice none 0 0] w fun e w' => e = .returned .nilIface ∧ Below w.heap.size w w' :=
  bcheck_core [] 0 .nilIface _ 0 w hF (by simp) (fun h => absurd h (by simp)) (Lib.hid fun k h _ => absurd h (Nat.not_lt_zero _)) (by simp) (Lib.hid fun h => absurd h (by simp)) (Lib.hid fun h => absurd h (by simp)) (Lib.hid fun _ => rfl)
theorem gErr_ok {G : List Bool} {n : Nat} (h : n < G.length) (hg : G.getD n true = false) : gErrB G [] (n : Int) = 0 := by
  unfold gErrB
  rw [if_neg (by omega), if_neg (by rw [Int.toNat_natCast, hg]; simp), if_neg (by simp)]
theorem gErr_gone {G : List Bool} {n : Nat} (h : n < G.length) (hg : G.getD n true = true) : gErrB G [] (n : Int) = 6 := by
  unfold gErrB
  rw [if_neg (by omega), if_pos (by rw [Int.toNat_natCast, hg])]
theorem bex_one (N : List Int) (G : List Bool) (B p n b0 b1 : Nat) (x y : Int) (TO X : Sp) (w : World) (hF : FarAt w) (hBk : BkAt w B p N G) (hNl : N.length ≤ 1000) (hl : n < G.length) (hg : Hid (G.getD n true = false)) (hx : Hid (N.getD n 0 = x)) (hT : Hid (TO = qS y)) (hX : Hid (qS (-x + y) = X)) (h0 : IntsAt w b0 0 [(n : Int)]) (h1 : SpotsAt w b1 0 [TO]) :
    Calls Tryd.prog 9 #[.pointer (some ⟨p, 0, none⟩), .slice (some ⟨b0, 0, none⟩) 1 1, .slice (some ⟨b1, 0, none⟩) 1 1] w fun e w' => e = .returned (.tuple #[spV X, .nilIface]) ∧ Below w.heap.size w w' := by
  refine bex_core N G B p [(n : Int)] [TO] _ _ 1 1 1 0 .nilIface _ w hF hBk (by omega) (by simp) (Nat.le_refl _) (by simp) (fun _ => ⟨_, _, rfl, h0⟩) (fun _ => ⟨_, _, rfl, h1⟩) (by simp) (Nat.le_refl _) (fun i h _ => ?_) (fun h => absurd h (Nat.lt_irrefl _)) (Lib.hid fun w1 hb => bcheck_one y TO b1 w1 (hF.below hb) hT (h1.below hb)) (Lib.hid fun h => absurd h (Nat.lt_irrefl _)) (Lib.hid fun _ => .inr ⟨rfl, [y], by rw [hT.out]; rfl, ?_⟩)
  · obtain rfl : i = 0 := by simp at h; omega
    exact gErr_ok hl hg.out
  · have : outN N [(n : Int)] + [y].sum = -x + y := by unfold outN; simp only [List.map_cons, List.map_nil, Int.toNat_natCast, hx.out, List.sum_cons, List.sum_nil]; omega
    rw [this, hX.out]
theorem bex_gone (N : List Int) (G : List Bool) (B p n b0 : Nat) (w : World) (hF : FarAt w) (hBk : BkAt w B p N G) (hNl : N.length ≤ 1000) (hl : n < G.length) (hg : Hid (G.getD n true = true)) (h0 : IntsAt w b0 0 [(n : Int)]) :
    Calls Tryd.prog 9 #[.pointer (some ⟨p, 0, none⟩), .slice (some ⟨b0, 0, none⟩) 1 1, .slice none 0 0] w fun e w' => e = .returned (.tuple #[spV ⟨0, 0, false⟩, .iface 69 (.int .i64 6)]) ∧ Below w.heap.size w w' :=
  bex_core N G B p [(n : Int)] [] _ _ 1 0 0 6 .nilIface _ w hF hBk (by omega) (by simp) (Nat.le_refl _) (by simp) (fun _ => ⟨_, _, rfl, h0⟩) (fun h => absurd h (by simp)) (by simp) (by simp) (fun i _ h => absurd h (Nat.not_lt_zero _)) (fun h => ⟨gErr_gone hl hg.out, by decide⟩) (Lib.hid fun w1 hb => bcheck_nil w1 (hF.below hb)) (Lib.hid fun _ => rfl) (Lib.hid fun h => absurd h (by simp))
theorem bdo_one (N : List Int) (G : List Bool) (B p n b0 b1 : Nat) (vc vg : Value) (x y : Int) (TO X RS : Sp) (s : Int) (w : World) (hF : FarAt w) (hBk : BkV w B p vc vg N G) (hB0 : B ≤ w.heap.size) (hNl : N.length ≤ 900) (hl : n < G.length) (hg : Hid (G.getD n true = false)) (hx : Hid (N.getD n 0 = x)) (hT : Hid (TO = qS y)) (hX : Hid (qS (-x + y) = X)) (h0 : IntsAt w b0 0 [(n : Int)]) (h1 : SpotsAt w b1 0 [TO]) (hn0 : ¬ inB p vc vg b0) (hn1 : ¬ inB p vc vg b1)
    (s0 : 0 ≤ s) (s1 : s < 1013) (oR : Ok RS) (hq : Hid (Sp.beq (sq (4 * hJ * s)) (sSum RS (sq (4 * (-x + y) * bAsk RS X))) = true)) :
    Calls Tryd.prog 12 #[.pointer (some ⟨p, 0, none⟩), dlV (.slice (some ⟨b0, 0, none⟩) 1 1) (.slice (some ⟨b1, 0, none⟩) 1 1) RS s] w fun e w' => e = .returned .nilIface ∧ Did w w' B p vc vg (N ++ [y]) (G.set n true ++ [false]) := by
  have := hBk.ln
  have h1' : SpotsAt w b1 0 ([y].map qS) := by rw [hT.out] at h1; exact h1
  have hb := bdo_y N [y] G B p vc vg [(n : Int)] [TO] (some ⟨b0, 0, none⟩) (some ⟨b1, 0, none⟩) 1 1 RS s X (-x + y) w hF hBk hB0 (by omega) (Lib.hid hX.out.symm) (by simp) (fun _ => ⟨_, _, rfl, h0, hn0⟩) (fun _ => ⟨_, _, rfl, h1', hn1⟩)
    (fun g hg => by rw [List.mem_singleton] at hg; omega) (Lib.hid fun w1 hb => bex_one N G B p n b0 b1 x y TO X w1 (hF.below hb) ⟨_, _, hBk.below hb⟩ (by omega) hl hg hx hT hX (h0.below hb) (h1.below hb)) (by simp; omega) s0 s1 oR hq
  exact hb
theorem blive_one (N : List Int) (G : List Bool) (B p m : Nat) (w : World) (hBk : BkAt w B p N G) (hN : N.length ≤ 1000) (hm : Hid (liveN G N.length = [(m : Int)])) :
    Calls Tryd.prog 13 #[.pointer (some ⟨p, 0, none⟩)] w fun e w' => ∃ b off cap, e = .returned (.slice (some ⟨b, off, none⟩) 1 cap) ∧ w'.cell? ⟨b, off, none⟩ = some (.int .i64 m) ∧ b < w'.heap.size ∧ Below w.heap.size w w' := by
  refine (blive_c N G B p w hBk (by omega)).mono ?_
  rintro e w' ⟨v, rfl, ho, hb⟩
  rw [hm.out] at ho
  obtain ⟨a, cap, rfl, h'⟩ := own_ints ho rfl
  obtain ⟨b, off, rfl, h''⟩ := h' (by simp)
  exact ⟨b, off, cap, rfl, h''.c 0 (by simp), h''.lt, hb⟩
theorem bcoins_n (N : List Int) (G : List Bool) (B p n : Nat) (w : World) (hBk : BkAt w B p N G) (hN : N.length ≤ 1000) (hn : N.length = n) :
    Calls Tryd.prog 15 #[.pointer (some ⟨p, 0, none⟩)] w fun e w' => ∃ a cap, e = .returned (.slice a n cap) ∧ Below w.heap.size w w' := by
  subst hn
  refine (bcoins_c N G B p w hBk (by omega)).mono ?_
  rintro e w' ⟨v, rfl, ho, hb⟩
  obtain ⟨a, cap, rfl⟩ := own_slB ho
  exact ⟨a, cap, rfl, hb⟩
end Go.Proofs.YtebomakihdjllaaDoor
